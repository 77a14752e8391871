/- A tick. No conditions but the ones that stand in each. -/
import Derived.Test.YtphaicaobepimaaVh
namespace Go.Proofs.Ytphaicaobepimaa
set_option linter.all false
set_option linter.unusedSimpArgs false
open Go.RowKit

theorem RI.T {rows : List (List Tm)} {D : List Tm} (hl : rows.length = 65) (hp : rows.flatten.Perm D) : RI (fun _ _ => True) rows D := ⟨hl, hp, fun _ _ _ _ => trivial⟩
def WT.stp (T : WT) : WT := { T with now := T.now + 1, rows := stepF (T.now + 1) 4 1 T.rows }
/-- The timers of a row are laid one after another. -/
theorem lays_part {now : Nat} {rows : List (List Tm)} {D l : List Tm} (h : RI (fun _ _ => True) rows D) (k : Nat) : RI (fun _ _ => True) ((l.take k).foldl (layR now) rows) ((l.take k).reverse ++ D) := RI.lays _ h fun _ _ => trivial
theorem lay_rows (T : WT) (t : Tm) : (T.lay t).rows = layR T.now T.rows t := rfl
theorem WT.lay_now (T : WT) (t : Tm) : (T.lay t) = { T with rows := layR T.now T.rows t } := rfl
set_option maxHeartbeats 4000000 in
set_option maxRecDepth 20000 in
theorem wStep_gq (gl : Nat → AV) (T : WT) (D : List Tm) (hT : T.wf) (hp : T.rows.flatten.Perm D) (hD : D.length ≤ 100000) (hdue : ∀ t ∈ D, t.due ≤ 1099511627776) (hn : T.now < 1099511627776) :
    GQ Try.prog gl 65 [.ptr 0 0] T.h 67 [0, 1] (fun _ : Unit => True) (fun _ => .tup []) (fun _ => T.stp.h) := by
  refine ft_wStep.gq (of_decide_eq_true rfl) (fun q hq => live_of_nmB (((WT.HL hT).mem q hq).2)) (by simp) fun c hgh hg => ?_
  unfold T_wStep
  have h0 := WT.get0 T
  have hcl := WT.len hT
  have hTh : T.h = (0, .cells T.cells) :: (1, T.mb) :: rowH T.rows 0 := rfl
  have hst : T.cells.set 0 (.int .i64 ((T.now : Int) + 1)) = WT.cells { T with now := T.now + 1 } := WT.set0 T (T.now + 1)
  have hT2 : WT.wf { T with now := T.now + 1 } := ⟨hT.len, hT.mb⟩
  rw [hTh]
  (have zf1 := @h0; have zf2 := @hst; refine XG ?_; clear zf1 zf2; ((try (repeat' with_reducible refine And.intro ?_ ?_)); (try any_goals (first | refine zm ?_ | exact CL | fail))))
  refine loop_ruleS (fun y : Nat × List (List Tm) => 1 ≤ y.1 ∧ y.1 ≤ 5 ∧ RI (fun _ _ => True) y.2 D ∧ stepF (T.now + 1) (5 - y.1) y.1 y.2 = stepF (T.now + 1) 4 1 T.rows) (fun y => ⟨[(0, .ptr 0 0), (2, .int .i64 ((16 ^ y.1 : Nat) : Int)), (3, .int .i64 y.1)], WT.h { T with now := T.now + 1, rows := y.2 }, 67⟩) (fun y => 5 - y.1) ft_wStep.mixed [0, 1] hgh
    ⟨(1, T.rows), ⟨by simp, by simp, RI.T hT.len hp, rfl⟩, To.sel (by (refine XG ?_; ((try (repeat' with_reducible refine And.intro ?_ ?_)); (try any_goals (first | refine zm ?_ | exact CL | fail))))) fun b => ?_⟩ fun y hy => ?_
  · show lookb ((0, .cells (WT.cells { T with now := T.now + 1 })) :: (1, T.mb) :: rowH T.rows 0) 67 b = lookb ((0, .cells (WT.cells { T with now := T.now + 1 })) :: (0, .cells T.cells) :: (1, T.mb) :: rowH T.rows 0) 67 b
    simp only [lookb_cons]
    (repeat' split) <;> first | rfl | omega
  obtain ⟨L, rows⟩ := y
  obtain ⟨hL1, hL5, hRI, hfin⟩ := hy
  dsimp only at hL1 hL5 hRI hfin ⊢
  have hwf : WT.wf { T with now := T.now + 1, rows := rows } := ⟨hRI.len, hT.mb⟩
  have hnow : WT.now { T with now := T.now + 1, rows := rows } = T.now + 1 := rfl
  have hrw : WT.rows { T with now := T.now + 1, rows := rows } = rows := rfl
  have hmbw : WT.mb { T with now := T.now + 1, rows := rows } = T.mb := rfl
  have hfinT : T.stp = { T with now := T.now + 1, rows := stepF (T.now + 1) (5 - L) L rows } := by unfold WT.stp; rw [hfin]
  have hrowD : ∀ i, i < 65 → (WT.row { T with now := T.now + 1, rows := rows } i).length ≤ D.length := fun i hi => hRI.row_le hi
  have hrel := fun i (hi : i < 65) => RI.relay hRI (now := T.now + 1) hi fun _ _ => trivial
  have hset0 : ∀ i, i < 65 → RI (fun _ _ => True) (rows.set i []) (rows.set i []).flatten := fun i hi => ⟨by simp [hRI.len], List.Perm.refl _, fun _ _ _ _ => trivial⟩
  have hsplit := fun i (hi : i < 65) => ((flat_row rows i (by have := hRI.len; omega)).symm.trans hRI.perm)
  have hmem : ∀ i, i < 65 → ∀ t ∈ rows.getD i [], t.due ≤ 1099511627776 := fun i hi t ht => hdue t (mem_row hRI hi ht)
  rw [hfinT]
  generalize hT1 : ({ T with now := T.now + 1, rows := rows } : WT) = T1 at *
  have hT1n : T1.now = T.now + 1 := by rw [← hT1]
  have hT1m : T1.mb = T.mb := by rw [← hT1]
  have g0 := WT.get0 T1
  rw [hT1n] at g0
  have hcl1 := WT.len hwf
  have hTh1 : T1.h = (0, .cells T1.cells) :: (1, T1.mb) :: rowH T1.rows 0 := rfl
  have hHi := fun n b hb => WT.rowHi hwf n (b := b) hb
  obtain rfl | rfl | rfl | rfl | rfl : L = 1 ∨ L = 2 ∨ L = 3 ∨ L = 4 ∨ L = 5 := by omega
  · have hp1 : ((16 ^ 1 : Nat) : Int) = 16 := rfl
    have hp2 : ((16 ^ 2 : Nat) : Int) = 256 := rfl
    have hm : Int.tmod ((T.now + 1 : Nat) : Int) 16 = (((T.now + 1) % 16 : Nat) : Int) := tmodN (T.now + 1) 16
    have hq : Int.tdiv ((T.now + 1 : Nat) : Int) 16 = (((T.now + 1) / 16 : Nat) : Int) := tdivN (T.now + 1) 16
    have hm2 : Int.tmod (((T.now + 1) / 16 : Nat) : Int) 16 = (((T.now + 1) / 16 % 16 : Nat) : Int) := tmodN _ 16
    rw [hTh1, hp1]
    (have zf1 := @hHi; have zf2 := @g0; have zf3 := @hm; refine XG ?_; clear zf1 zf2 zf3; ((try (repeat' with_reducible refine And.intro ?_ ?_)); (try any_goals (first | refine zm ?_ | exact CL | fail))))
    (refine xw_ifp (fun h1 => ?_) (fun h1 => ?_) <;> try exact h1.elim)
    · (refine XG ?_; ((try (repeat' with_reducible refine And.intro ?_ ?_)); (try any_goals (first | refine zm ?_ | exact CL | fail))))
      (refine xw_ifp (fun h2 => ?_) (fun h2 => ?_) <;> try exact h2.elim)
      have hsp : (T.now + 1) / 16 % 16 < 16 := Nat.mod_lt _ (by omega)
      have hti : turnI (T.now + 1) 1 = 16 + (T.now + 1) / 16 % 16 := rfl
      generalize (T.now + 1) / 16 % 16 = sp at *
      have hget := WT.getI hwf (i := 16 + sp) (by omega)
      have hi65 : 16 + sp < 65 := by omega
      have hnm : 2 + (16 + sp) = 18 + sp := by omega
      have hcx : 16 + sp + 1 = 17 + sp := by omega
      rw [hcx, hnm] at hget
      have hl : T1.row (16 + sp) = rows.getD (16 + sp) [] := by rw [← hT1]; rfl
      have hlD := hrowD _ hi65
      generalize hrw1 : T1.row (16 + sp) = l at *
      (have zf1 := @hHi; have zf2 := @g0; have zf3 := @hq; have zf4 := @hm2; have zf5 := @hget; refine XG ?_; clear zf1 zf2 zf3 zf4 zf5; ((try (repeat' with_reducible refine And.intro ?_ ?_)); (try any_goals (first | refine zm ?_ | exact CL | fail))))
      refine loop_ruleS (fun k : Nat => k ≤ l.length) (fun k => ⟨[(0, .ptr 0 0), (2, .int .i64 16), (3, .int .i64 1), (55, .isl l.length (tms l)), (56, .int .i64 l.length), (57, .int .i64 k)], WT.h { T with now := T.now + 1, rows := (l.take k).foldl (layR (T.now + 1)) (rows.set (16 + sp) []) }, 67⟩) (fun k => l.length - k) ft_wStep.mixed [0, 1] hgh
        ⟨0, by omega, ?_⟩ fun k hk => ?_
      · have hput : T1.put (16 + sp) [] = { T with now := T.now + 1, rows := rows.set (16 + sp) [] } := by rw [← hT1]; rfl
        show To _ _ ⟨_, WT.h { T with now := T.now + 1, rows := rows.set (16 + sp) [] }, 67⟩
        rw [← hput]
        refine To.off (k := 55) hwf hi65 hrw1 ?_ (fun b h1 h2 => ?_) ?_ (by dsimp only; omega) ?_ (by simp) ?_
        · show lookb ((0, _) :: _) 67 0 = _
          rw [lookb_cons, if_pos rfl, hcx]
        · show lookb ((0, _) :: (0, _) :: (1, _) :: _) 67 b = _
          rw [hTh1, lookb_cons, if_neg (by omega)]
        · (have zf1 := @hHi; refine XG ?_; clear zf1; ((try (repeat' with_reducible refine And.intro ?_ ?_)); (try any_goals (first | refine zm ?_ | exact CL | fail))))
        · (have zf1 := @hnm; refine XG ?_; clear zf1; ((try (repeat' with_reducible refine And.intro ?_ ?_)); (try any_goals (first | refine zm ?_ | exact CL | fail))))
        · have h1 := tms_rens (rhoI (16 + sp) 67) l
          have hll := tms_nm 67 l
          (have zf1 := @h1; have zf2 := @hll; refine XG ?_; clear zf1 zf2; ((try (repeat' with_reducible refine And.intro ?_ ?_)); (try any_goals (first | refine zm ?_ | exact CL | fail))))
      have hRk := lays_part (now := T.now + 1) (l := l) (hset0 (16 + sp) hi65) k
      have hlenk : ∀ j, j < 65 → ((l.take k).foldl (layR (T.now + 1)) (rows.set (16 + sp) []) |>.getD j []).length ≤ 1000000 := fun j hj => by
        have h1 := hRk.row_le hj
        have h2 := (hsplit (16 + sp) hi65).length_eq
        rw [List.length_append] at h1 h2
        rw [← hl] at h2
        simp only [List.length_reverse, List.length_take] at h1
        omega
      have hwk : WT.wf { T with now := T.now + 1, rows := (l.take k).foldl (layR (T.now + 1)) (rows.set (16 + sp) []) } := ⟨hRk.len, hT.mb⟩
      have hstep : k < l.length → ∀ x, l[k]? = some x → (l.take (k + 1)).foldl (layR (T.now + 1)) (rows.set (16 + sp) []) = layR (T.now + 1) ((l.take k).foldl (layR (T.now + 1)) (rows.set (16 + sp) [])) x := fun _ x hx => by
        rw [List.take_succ, hx]; simp
      have hrow : ∀ x : Tm, (WT.row { T with now := T.now + 1, rows := (l.take k).foldl (layR (T.now + 1)) (rows.set (16 + sp) []) } (slotOf (T.now + 1) x.due)).length ≤ 1000000 := fun x => hlenk _ (slotOf_lt _ _)
      have hnk : WT.now { T with now := T.now + 1, rows := (l.take k).foldl (layR (T.now + 1)) (rows.set (16 + sp) []) } = T.now + 1 := rfl
      generalize hTk : ({ T with now := T.now + 1, rows := (l.take k).foldl (layR (T.now + 1)) (rows.set (16 + sp) []) } : WT) = Tk at *
      have hHk := WT.hHi hwk
      have htl := tms_len l
      (refine XG ?_; ((try (repeat' with_reducible refine And.intro ?_ ?_)); (try any_goals (first | refine zm ?_ | exact CL | fail))))
      (refine xw_ifp (fun h3 => ?_) (fun h3 => ?_) <;> try exact h3.elim)
      · have hkn : k < l.length := by omega
        have hcut := tms_cut l k hkn
        have hst := hstep hkn l[k] (by simp [hkn])
        have hdk : l[k].due ≤ 1099511627776 := hmem (16 + sp) hi65 l[k] (by rw [← hl]; exact List.getElem_mem _)
        generalize l[k] = x at *
        have hcall := wLay_gq c.gl Tk hwk x (by rw [hnk]; omega) hdk (by rw [hnk]; exact hrow x)
        (have zf1 := @htl; have zf2 := @hcut; have zf3 := @hHk; refine XG ?_; clear zf1 zf2 zf3; ((try (repeat' with_reducible refine And.intro ?_ ?_)); (try any_goals (first | refine zm ?_ | exact CL | fail))))
        refine pr_wh hcall hwk (fun _ _ => WT.lay_wf hwk x) hgh (by simp [okN]) [(0, .ptr 0 0), (2, .int .i64 16), (3, .int .i64 1), (55, .isl l.length (tms l)), (56, .int .i64 l.length), (57, .int .i64 k), (61, .ptr 0 0), (62, .agg [.int .i64 x.id, .int .i64 x.due])] [(67, .cells [.int .i64 x.id, .int .i64 x.due])] 68 (To.sel (by (refine XG ?_; ((try (repeat' with_reducible refine And.intro ?_ ?_)); (try any_goals (first | refine zm ?_ | exact CL | fail))))) fun b => ?_) (by simp [nmPB, nmPs, nmP]) ?_ (by simp [nmOk, nmAll]) fun _ _ => ?_
        · simp only [List.cons_append, List.nil_append, lookb_cons]; (repeat' split) <;> rfl
        · (refine XG ?_; ((try (repeat' with_reducible refine And.intro ?_ ?_)); (try any_goals (first | refine zm ?_ | exact CL | fail))))
        · (refine XG ?_; ((try (repeat' with_reducible refine And.intro ?_ ?_)); (try any_goals (first | refine zm ?_ | exact CL | fail))))
          refine ⟨k + 1, by omega, ?_, by omega⟩
          have hT3 : Tk.lay x = { T with now := T.now + 1, rows := (l.take (k + 1)).foldl (layR (T.now + 1)) (rows.set (16 + sp) []) } := by rw [WT.lay_now, hst, ← hTk]
          rw [← hT3]
          refine To.wdrop (ex := [(67, .cells [.int .i64 x.id, .int .i64 x.due])]) (WT.lay_wf hwk x) (by simp) (by simp) ?_
          have h1 := tms_nm 67 l
          have h2 : rens id (tms l) = tms l := rens_id _
          have h3 : id 0 = 0 := rfl
          (have zf1 := @h1; have zf2 := @h2; have zf3 := @h3; refine XG ?_; clear zf1 zf2 zf3; ((try (repeat' with_reducible refine And.intro ?_ ?_)); (try any_goals (first | refine zm ?_ | exact CL | fail))))
      · obtain rfl : k = l.length := by omega
        rw [List.take_length] at hTk
        have hrl : (l.foldl (layR (T.now + 1)) (rows.set (16 + sp) [])) = relay (T.now + 1) rows (16 + sp) := by unfold relay; rw [← hl]
        have hfs : stepF (T.now + 1) (5 - 1) 1 rows = stepF (T.now + 1) (5 - (1 + 1)) (1 + 1) (relay (T.now + 1) rows (16 + sp)) := by
          rw [← hti]
          show (if (T.now + 1) % 16 ^ 1 = 0 then _ else _) = _
          rw [if_pos (by simp only [Nat.reducePow]; omega)]
        (refine XM ?_; ((try (repeat' with_reducible refine And.intro ?_ ?_)); (try any_goals (first | refine zm ?_ | exact CL | fail))))
        refine ⟨(1 + 1, relay (T.now + 1) rows (16 + sp)), ⟨by simp, by simp, hrel _ hi65, by dsimp only; rw [← hfs]; exact hfin⟩, ?_, by dsimp only; omega⟩
        rw [hrl] at hTk
        dsimp only
        rw [hTk]
        refine To.sel ?_ fun b => rfl
        (have zf1 := @hp2; refine XG ?_; clear zf1; ((try (repeat' with_reducible refine And.intro ?_ ?_)); (try any_goals (first | refine zm ?_ | exact CL | fail))))
    · have hfs : stepF (T.now + 1) (5 - 1) 1 rows = rows := by
        show (if (T.now + 1) % 16 ^ 1 = 0 then _ else _) = _
        rw [if_neg (by simp only [Nat.reducePow]; omega)]
      rw [hfs, hT1]
      (refine XG ?_; ((try (repeat' with_reducible refine And.intro ?_ ?_)); (try any_goals (first | refine zm ?_ | exact CL | fail))))
      refine ⟨(), ?_⟩
      rw [← hTh1]
      exact To.sel (by (refine XG ?_; ((try (repeat' with_reducible refine And.intro ?_ ?_)); (try any_goals (first | refine zm ?_ | exact CL | fail))))) fun b => rfl
  · have hp1 : ((16 ^ 2 : Nat) : Int) = 256 := rfl
    have hp2 : ((16 ^ 3 : Nat) : Int) = 4096 := rfl
    have hm : Int.tmod ((T.now + 1 : Nat) : Int) 256 = (((T.now + 1) % 256 : Nat) : Int) := tmodN (T.now + 1) 256
    have hq : Int.tdiv ((T.now + 1 : Nat) : Int) 256 = (((T.now + 1) / 256 : Nat) : Int) := tdivN (T.now + 1) 256
    have hm2 : Int.tmod (((T.now + 1) / 256 : Nat) : Int) 16 = (((T.now + 1) / 256 % 16 : Nat) : Int) := tmodN _ 16
    rw [hTh1, hp1]
    (have zf1 := @hHi; have zf2 := @g0; have zf3 := @hm; refine XG ?_; clear zf1 zf2 zf3; ((try (repeat' with_reducible refine And.intro ?_ ?_)); (try any_goals (first | refine zm ?_ | exact CL | fail))))
    (refine xw_ifp (fun h1 => ?_) (fun h1 => ?_) <;> try exact h1.elim)
    · (refine XG ?_; ((try (repeat' with_reducible refine And.intro ?_ ?_)); (try any_goals (first | refine zm ?_ | exact CL | fail))))
      (refine xw_ifp (fun h2 => ?_) (fun h2 => ?_) <;> try exact h2.elim)
      have hsp : (T.now + 1) / 256 % 16 < 16 := Nat.mod_lt _ (by omega)
      have hti : turnI (T.now + 1) 2 = 32 + (T.now + 1) / 256 % 16 := rfl
      generalize (T.now + 1) / 256 % 16 = sp at *
      have hget := WT.getI hwf (i := 32 + sp) (by omega)
      have hi65 : 32 + sp < 65 := by omega
      have hnm : 2 + (32 + sp) = 34 + sp := by omega
      have hcx : 32 + sp + 1 = 33 + sp := by omega
      rw [hcx, hnm] at hget
      have hl : T1.row (32 + sp) = rows.getD (32 + sp) [] := by rw [← hT1]; rfl
      have hlD := hrowD _ hi65
      generalize hrw1 : T1.row (32 + sp) = l at *
      (have zf1 := @hHi; have zf2 := @g0; have zf3 := @hq; have zf4 := @hm2; have zf5 := @hget; refine XG ?_; clear zf1 zf2 zf3 zf4 zf5; ((try (repeat' with_reducible refine And.intro ?_ ?_)); (try any_goals (first | refine zm ?_ | exact CL | fail))))
      refine loop_ruleS (fun k : Nat => k ≤ l.length) (fun k => ⟨[(0, .ptr 0 0), (2, .int .i64 256), (3, .int .i64 2), (55, .isl l.length (tms l)), (56, .int .i64 l.length), (57, .int .i64 k)], WT.h { T with now := T.now + 1, rows := (l.take k).foldl (layR (T.now + 1)) (rows.set (32 + sp) []) }, 67⟩) (fun k => l.length - k) ft_wStep.mixed [0, 1] hgh
        ⟨0, by omega, ?_⟩ fun k hk => ?_
      · have hput : T1.put (32 + sp) [] = { T with now := T.now + 1, rows := rows.set (32 + sp) [] } := by rw [← hT1]; rfl
        show To _ _ ⟨_, WT.h { T with now := T.now + 1, rows := rows.set (32 + sp) [] }, 67⟩
        rw [← hput]
        refine To.off (k := 55) hwf hi65 hrw1 ?_ (fun b h1 h2 => ?_) ?_ (by dsimp only; omega) ?_ (by simp) ?_
        · show lookb ((0, _) :: _) 67 0 = _
          rw [lookb_cons, if_pos rfl, hcx]
        · show lookb ((0, _) :: (0, _) :: (1, _) :: _) 67 b = _
          rw [hTh1, lookb_cons, if_neg (by omega)]
        · (have zf1 := @hHi; refine XG ?_; clear zf1; ((try (repeat' with_reducible refine And.intro ?_ ?_)); (try any_goals (first | refine zm ?_ | exact CL | fail))))
        · (have zf1 := @hnm; refine XG ?_; clear zf1; ((try (repeat' with_reducible refine And.intro ?_ ?_)); (try any_goals (first | refine zm ?_ | exact CL | fail))))
        · have h1 := tms_rens (rhoI (32 + sp) 67) l
          have hll := tms_nm 67 l
          (have zf1 := @h1; have zf2 := @hll; refine XG ?_; clear zf1 zf2; ((try (repeat' with_reducible refine And.intro ?_ ?_)); (try any_goals (first | refine zm ?_ | exact CL | fail))))
      have hRk := lays_part (now := T.now + 1) (l := l) (hset0 (32 + sp) hi65) k
      have hlenk : ∀ j, j < 65 → ((l.take k).foldl (layR (T.now + 1)) (rows.set (32 + sp) []) |>.getD j []).length ≤ 1000000 := fun j hj => by
        have h1 := hRk.row_le hj
        have h2 := (hsplit (32 + sp) hi65).length_eq
        rw [List.length_append] at h1 h2
        rw [← hl] at h2
        simp only [List.length_reverse, List.length_take] at h1
        omega
      have hwk : WT.wf { T with now := T.now + 1, rows := (l.take k).foldl (layR (T.now + 1)) (rows.set (32 + sp) []) } := ⟨hRk.len, hT.mb⟩
      have hstep : k < l.length → ∀ x, l[k]? = some x → (l.take (k + 1)).foldl (layR (T.now + 1)) (rows.set (32 + sp) []) = layR (T.now + 1) ((l.take k).foldl (layR (T.now + 1)) (rows.set (32 + sp) [])) x := fun _ x hx => by
        rw [List.take_succ, hx]; simp
      have hrow : ∀ x : Tm, (WT.row { T with now := T.now + 1, rows := (l.take k).foldl (layR (T.now + 1)) (rows.set (32 + sp) []) } (slotOf (T.now + 1) x.due)).length ≤ 1000000 := fun x => hlenk _ (slotOf_lt _ _)
      have hnk : WT.now { T with now := T.now + 1, rows := (l.take k).foldl (layR (T.now + 1)) (rows.set (32 + sp) []) } = T.now + 1 := rfl
      generalize hTk : ({ T with now := T.now + 1, rows := (l.take k).foldl (layR (T.now + 1)) (rows.set (32 + sp) []) } : WT) = Tk at *
      have hHk := WT.hHi hwk
      have htl := tms_len l
      (refine XG ?_; ((try (repeat' with_reducible refine And.intro ?_ ?_)); (try any_goals (first | refine zm ?_ | exact CL | fail))))
      (refine xw_ifp (fun h3 => ?_) (fun h3 => ?_) <;> try exact h3.elim)
      · have hkn : k < l.length := by omega
        have hcut := tms_cut l k hkn
        have hst := hstep hkn l[k] (by simp [hkn])
        have hdk : l[k].due ≤ 1099511627776 := hmem (32 + sp) hi65 l[k] (by rw [← hl]; exact List.getElem_mem _)
        generalize l[k] = x at *
        have hcall := wLay_gq c.gl Tk hwk x (by rw [hnk]; omega) hdk (by rw [hnk]; exact hrow x)
        (have zf1 := @htl; have zf2 := @hcut; have zf3 := @hHk; refine XG ?_; clear zf1 zf2 zf3; ((try (repeat' with_reducible refine And.intro ?_ ?_)); (try any_goals (first | refine zm ?_ | exact CL | fail))))
        refine pr_wh hcall hwk (fun _ _ => WT.lay_wf hwk x) hgh (by simp [okN]) [(0, .ptr 0 0), (2, .int .i64 256), (3, .int .i64 2), (55, .isl l.length (tms l)), (56, .int .i64 l.length), (57, .int .i64 k), (61, .ptr 0 0), (62, .agg [.int .i64 x.id, .int .i64 x.due])] [(67, .cells [.int .i64 x.id, .int .i64 x.due])] 68 (To.sel (by (refine XG ?_; ((try (repeat' with_reducible refine And.intro ?_ ?_)); (try any_goals (first | refine zm ?_ | exact CL | fail))))) fun b => ?_) (by simp [nmPB, nmPs, nmP]) ?_ (by simp [nmOk, nmAll]) fun _ _ => ?_
        · simp only [List.cons_append, List.nil_append, lookb_cons]; (repeat' split) <;> rfl
        · (refine XG ?_; ((try (repeat' with_reducible refine And.intro ?_ ?_)); (try any_goals (first | refine zm ?_ | exact CL | fail))))
        · (refine XG ?_; ((try (repeat' with_reducible refine And.intro ?_ ?_)); (try any_goals (first | refine zm ?_ | exact CL | fail))))
          refine ⟨k + 1, by omega, ?_, by omega⟩
          have hT3 : Tk.lay x = { T with now := T.now + 1, rows := (l.take (k + 1)).foldl (layR (T.now + 1)) (rows.set (32 + sp) []) } := by rw [WT.lay_now, hst, ← hTk]
          rw [← hT3]
          refine To.wdrop (ex := [(67, .cells [.int .i64 x.id, .int .i64 x.due])]) (WT.lay_wf hwk x) (by simp) (by simp) ?_
          have h1 := tms_nm 67 l
          have h2 : rens id (tms l) = tms l := rens_id _
          have h3 : id 0 = 0 := rfl
          (have zf1 := @h1; have zf2 := @h2; have zf3 := @h3; refine XG ?_; clear zf1 zf2 zf3; ((try (repeat' with_reducible refine And.intro ?_ ?_)); (try any_goals (first | refine zm ?_ | exact CL | fail))))
      · obtain rfl : k = l.length := by omega
        rw [List.take_length] at hTk
        have hrl : (l.foldl (layR (T.now + 1)) (rows.set (32 + sp) [])) = relay (T.now + 1) rows (32 + sp) := by unfold relay; rw [← hl]
        have hfs : stepF (T.now + 1) (5 - 2) 2 rows = stepF (T.now + 1) (5 - (2 + 1)) (2 + 1) (relay (T.now + 1) rows (32 + sp)) := by
          rw [← hti]
          show (if (T.now + 1) % 16 ^ 2 = 0 then _ else _) = _
          rw [if_pos (by simp only [Nat.reducePow]; omega)]
        (refine XM ?_; ((try (repeat' with_reducible refine And.intro ?_ ?_)); (try any_goals (first | refine zm ?_ | exact CL | fail))))
        refine ⟨(2 + 1, relay (T.now + 1) rows (32 + sp)), ⟨by simp, by simp, hrel _ hi65, by dsimp only; rw [← hfs]; exact hfin⟩, ?_, by dsimp only; omega⟩
        rw [hrl] at hTk
        dsimp only
        rw [hTk]
        refine To.sel ?_ fun b => rfl
        (have zf1 := @hp2; refine XG ?_; clear zf1; ((try (repeat' with_reducible refine And.intro ?_ ?_)); (try any_goals (first | refine zm ?_ | exact CL | fail))))
    · have hfs : stepF (T.now + 1) (5 - 2) 2 rows = rows := by
        show (if (T.now + 1) % 16 ^ 2 = 0 then _ else _) = _
        rw [if_neg (by simp only [Nat.reducePow]; omega)]
      rw [hfs, hT1]
      (refine XG ?_; ((try (repeat' with_reducible refine And.intro ?_ ?_)); (try any_goals (first | refine zm ?_ | exact CL | fail))))
      refine ⟨(), ?_⟩
      rw [← hTh1]
      exact To.sel (by (refine XG ?_; ((try (repeat' with_reducible refine And.intro ?_ ?_)); (try any_goals (first | refine zm ?_ | exact CL | fail))))) fun b => rfl
  · have hp1 : ((16 ^ 3 : Nat) : Int) = 4096 := rfl
    have hp2 : ((16 ^ 4 : Nat) : Int) = 65536 := rfl
    have hm : Int.tmod ((T.now + 1 : Nat) : Int) 4096 = (((T.now + 1) % 4096 : Nat) : Int) := tmodN (T.now + 1) 4096
    have hq : Int.tdiv ((T.now + 1 : Nat) : Int) 4096 = (((T.now + 1) / 4096 : Nat) : Int) := tdivN (T.now + 1) 4096
    have hm2 : Int.tmod (((T.now + 1) / 4096 : Nat) : Int) 16 = (((T.now + 1) / 4096 % 16 : Nat) : Int) := tmodN _ 16
    rw [hTh1, hp1]
    (have zf1 := @hHi; have zf2 := @g0; have zf3 := @hm; refine XG ?_; clear zf1 zf2 zf3; ((try (repeat' with_reducible refine And.intro ?_ ?_)); (try any_goals (first | refine zm ?_ | exact CL | fail))))
    (refine xw_ifp (fun h1 => ?_) (fun h1 => ?_) <;> try exact h1.elim)
    · (refine XG ?_; ((try (repeat' with_reducible refine And.intro ?_ ?_)); (try any_goals (first | refine zm ?_ | exact CL | fail))))
      (refine xw_ifp (fun h2 => ?_) (fun h2 => ?_) <;> try exact h2.elim)
      have hsp : (T.now + 1) / 4096 % 16 < 16 := Nat.mod_lt _ (by omega)
      have hti : turnI (T.now + 1) 3 = 48 + (T.now + 1) / 4096 % 16 := rfl
      generalize (T.now + 1) / 4096 % 16 = sp at *
      have hget := WT.getI hwf (i := 48 + sp) (by omega)
      have hi65 : 48 + sp < 65 := by omega
      have hnm : 2 + (48 + sp) = 50 + sp := by omega
      have hcx : 48 + sp + 1 = 49 + sp := by omega
      rw [hcx, hnm] at hget
      have hl : T1.row (48 + sp) = rows.getD (48 + sp) [] := by rw [← hT1]; rfl
      have hlD := hrowD _ hi65
      generalize hrw1 : T1.row (48 + sp) = l at *
      (have zf1 := @hHi; have zf2 := @g0; have zf3 := @hq; have zf4 := @hm2; have zf5 := @hget; refine XG ?_; clear zf1 zf2 zf3 zf4 zf5; ((try (repeat' with_reducible refine And.intro ?_ ?_)); (try any_goals (first | refine zm ?_ | exact CL | fail))))
      refine loop_ruleS (fun k : Nat => k ≤ l.length) (fun k => ⟨[(0, .ptr 0 0), (2, .int .i64 4096), (3, .int .i64 3), (55, .isl l.length (tms l)), (56, .int .i64 l.length), (57, .int .i64 k)], WT.h { T with now := T.now + 1, rows := (l.take k).foldl (layR (T.now + 1)) (rows.set (48 + sp) []) }, 67⟩) (fun k => l.length - k) ft_wStep.mixed [0, 1] hgh
        ⟨0, by omega, ?_⟩ fun k hk => ?_
      · have hput : T1.put (48 + sp) [] = { T with now := T.now + 1, rows := rows.set (48 + sp) [] } := by rw [← hT1]; rfl
        show To _ _ ⟨_, WT.h { T with now := T.now + 1, rows := rows.set (48 + sp) [] }, 67⟩
        rw [← hput]
        refine To.off (k := 55) hwf hi65 hrw1 ?_ (fun b h1 h2 => ?_) ?_ (by dsimp only; omega) ?_ (by simp) ?_
        · show lookb ((0, _) :: _) 67 0 = _
          rw [lookb_cons, if_pos rfl, hcx]
        · show lookb ((0, _) :: (0, _) :: (1, _) :: _) 67 b = _
          rw [hTh1, lookb_cons, if_neg (by omega)]
        · (have zf1 := @hHi; refine XG ?_; clear zf1; ((try (repeat' with_reducible refine And.intro ?_ ?_)); (try any_goals (first | refine zm ?_ | exact CL | fail))))
        · (have zf1 := @hnm; refine XG ?_; clear zf1; ((try (repeat' with_reducible refine And.intro ?_ ?_)); (try any_goals (first | refine zm ?_ | exact CL | fail))))
        · have h1 := tms_rens (rhoI (48 + sp) 67) l
          have hll := tms_nm 67 l
          (have zf1 := @h1; have zf2 := @hll; refine XG ?_; clear zf1 zf2; ((try (repeat' with_reducible refine And.intro ?_ ?_)); (try any_goals (first | refine zm ?_ | exact CL | fail))))
      have hRk := lays_part (now := T.now + 1) (l := l) (hset0 (48 + sp) hi65) k
      have hlenk : ∀ j, j < 65 → ((l.take k).foldl (layR (T.now + 1)) (rows.set (48 + sp) []) |>.getD j []).length ≤ 1000000 := fun j hj => by
        have h1 := hRk.row_le hj
        have h2 := (hsplit (48 + sp) hi65).length_eq
        rw [List.length_append] at h1 h2
        rw [← hl] at h2
        simp only [List.length_reverse, List.length_take] at h1
        omega
      have hwk : WT.wf { T with now := T.now + 1, rows := (l.take k).foldl (layR (T.now + 1)) (rows.set (48 + sp) []) } := ⟨hRk.len, hT.mb⟩
      have hstep : k < l.length → ∀ x, l[k]? = some x → (l.take (k + 1)).foldl (layR (T.now + 1)) (rows.set (48 + sp) []) = layR (T.now + 1) ((l.take k).foldl (layR (T.now + 1)) (rows.set (48 + sp) [])) x := fun _ x hx => by
        rw [List.take_succ, hx]; simp
      have hrow : ∀ x : Tm, (WT.row { T with now := T.now + 1, rows := (l.take k).foldl (layR (T.now + 1)) (rows.set (48 + sp) []) } (slotOf (T.now + 1) x.due)).length ≤ 1000000 := fun x => hlenk _ (slotOf_lt _ _)
      have hnk : WT.now { T with now := T.now + 1, rows := (l.take k).foldl (layR (T.now + 1)) (rows.set (48 + sp) []) } = T.now + 1 := rfl
      generalize hTk : ({ T with now := T.now + 1, rows := (l.take k).foldl (layR (T.now + 1)) (rows.set (48 + sp) []) } : WT) = Tk at *
      have hHk := WT.hHi hwk
      have htl := tms_len l
      (refine XG ?_; ((try (repeat' with_reducible refine And.intro ?_ ?_)); (try any_goals (first | refine zm ?_ | exact CL | fail))))
      (refine xw_ifp (fun h3 => ?_) (fun h3 => ?_) <;> try exact h3.elim)
      · have hkn : k < l.length := by omega
        have hcut := tms_cut l k hkn
        have hst := hstep hkn l[k] (by simp [hkn])
        have hdk : l[k].due ≤ 1099511627776 := hmem (48 + sp) hi65 l[k] (by rw [← hl]; exact List.getElem_mem _)
        generalize l[k] = x at *
        have hcall := wLay_gq c.gl Tk hwk x (by rw [hnk]; omega) hdk (by rw [hnk]; exact hrow x)
        (have zf1 := @htl; have zf2 := @hcut; have zf3 := @hHk; refine XG ?_; clear zf1 zf2 zf3; ((try (repeat' with_reducible refine And.intro ?_ ?_)); (try any_goals (first | refine zm ?_ | exact CL | fail))))
        refine pr_wh hcall hwk (fun _ _ => WT.lay_wf hwk x) hgh (by simp [okN]) [(0, .ptr 0 0), (2, .int .i64 4096), (3, .int .i64 3), (55, .isl l.length (tms l)), (56, .int .i64 l.length), (57, .int .i64 k), (61, .ptr 0 0), (62, .agg [.int .i64 x.id, .int .i64 x.due])] [(67, .cells [.int .i64 x.id, .int .i64 x.due])] 68 (To.sel (by (refine XG ?_; ((try (repeat' with_reducible refine And.intro ?_ ?_)); (try any_goals (first | refine zm ?_ | exact CL | fail))))) fun b => ?_) (by simp [nmPB, nmPs, nmP]) ?_ (by simp [nmOk, nmAll]) fun _ _ => ?_
        · simp only [List.cons_append, List.nil_append, lookb_cons]; (repeat' split) <;> rfl
        · (refine XG ?_; ((try (repeat' with_reducible refine And.intro ?_ ?_)); (try any_goals (first | refine zm ?_ | exact CL | fail))))
        · (refine XG ?_; ((try (repeat' with_reducible refine And.intro ?_ ?_)); (try any_goals (first | refine zm ?_ | exact CL | fail))))
          refine ⟨k + 1, by omega, ?_, by omega⟩
          have hT3 : Tk.lay x = { T with now := T.now + 1, rows := (l.take (k + 1)).foldl (layR (T.now + 1)) (rows.set (48 + sp) []) } := by rw [WT.lay_now, hst, ← hTk]
          rw [← hT3]
          refine To.wdrop (ex := [(67, .cells [.int .i64 x.id, .int .i64 x.due])]) (WT.lay_wf hwk x) (by simp) (by simp) ?_
          have h1 := tms_nm 67 l
          have h2 : rens id (tms l) = tms l := rens_id _
          have h3 : id 0 = 0 := rfl
          (have zf1 := @h1; have zf2 := @h2; have zf3 := @h3; refine XG ?_; clear zf1 zf2 zf3; ((try (repeat' with_reducible refine And.intro ?_ ?_)); (try any_goals (first | refine zm ?_ | exact CL | fail))))
      · obtain rfl : k = l.length := by omega
        rw [List.take_length] at hTk
        have hrl : (l.foldl (layR (T.now + 1)) (rows.set (48 + sp) [])) = relay (T.now + 1) rows (48 + sp) := by unfold relay; rw [← hl]
        have hfs : stepF (T.now + 1) (5 - 3) 3 rows = stepF (T.now + 1) (5 - (3 + 1)) (3 + 1) (relay (T.now + 1) rows (48 + sp)) := by
          rw [← hti]
          show (if (T.now + 1) % 16 ^ 3 = 0 then _ else _) = _
          rw [if_pos (by simp only [Nat.reducePow]; omega)]
        (refine XM ?_; ((try (repeat' with_reducible refine And.intro ?_ ?_)); (try any_goals (first | refine zm ?_ | exact CL | fail))))
        refine ⟨(3 + 1, relay (T.now + 1) rows (48 + sp)), ⟨by simp, by simp, hrel _ hi65, by dsimp only; rw [← hfs]; exact hfin⟩, ?_, by dsimp only; omega⟩
        rw [hrl] at hTk
        dsimp only
        rw [hTk]
        refine To.sel ?_ fun b => rfl
        (have zf1 := @hp2; refine XG ?_; clear zf1; ((try (repeat' with_reducible refine And.intro ?_ ?_)); (try any_goals (first | refine zm ?_ | exact CL | fail))))
    · have hfs : stepF (T.now + 1) (5 - 3) 3 rows = rows := by
        show (if (T.now + 1) % 16 ^ 3 = 0 then _ else _) = _
        rw [if_neg (by simp only [Nat.reducePow]; omega)]
      rw [hfs, hT1]
      (refine XG ?_; ((try (repeat' with_reducible refine And.intro ?_ ?_)); (try any_goals (first | refine zm ?_ | exact CL | fail))))
      refine ⟨(), ?_⟩
      rw [← hTh1]
      exact To.sel (by (refine XG ?_; ((try (repeat' with_reducible refine And.intro ?_ ?_)); (try any_goals (first | refine zm ?_ | exact CL | fail))))) fun b => rfl
  · have hp1 : ((16 ^ 4 : Nat) : Int) = 65536 := rfl
    have hp2 : ((16 ^ 5 : Nat) : Int) = 1048576 := rfl
    have hm : Int.tmod ((T.now + 1 : Nat) : Int) 65536 = (((T.now + 1) % 65536 : Nat) : Int) := tmodN (T.now + 1) 65536
    have hq : Int.tdiv ((T.now + 1 : Nat) : Int) 65536 = (((T.now + 1) / 65536 : Nat) : Int) := tdivN (T.now + 1) 65536
    have hm2 : Int.tmod (((T.now + 1) / 65536 : Nat) : Int) 16 = (((T.now + 1) / 65536 % 16 : Nat) : Int) := tmodN _ 16
    rw [hTh1, hp1]
    (have zf1 := @hHi; have zf2 := @g0; have zf3 := @hm; refine XG ?_; clear zf1 zf2 zf3; ((try (repeat' with_reducible refine And.intro ?_ ?_)); (try any_goals (first | refine zm ?_ | exact CL | fail))))
    (refine xw_ifp (fun h1 => ?_) (fun h1 => ?_) <;> try exact h1.elim)
    · (refine XG ?_; ((try (repeat' with_reducible refine And.intro ?_ ?_)); (try any_goals (first | refine zm ?_ | exact CL | fail))))
      (refine xw_ifp (fun h2 => ?_) (fun h2 => ?_) <;> try exact h2.elim)
      have hti : turnI (T.now + 1) 4 = 64 := rfl
      have hget := WT.getI hwf (i := 64) (by omega)
      have hi65 : 64 < 65 := by omega
      simp only [Nat.reduceAdd] at hget
      have hl : T1.row 64 = rows.getD 64 [] := by rw [← hT1]; rfl
      have hlD := hrowD _ hi65
      generalize hrw1 : T1.row 64 = l at *
      (have zf1 := @hHi; have zf2 := @g0; have zf3 := @hget; refine XG ?_; clear zf1 zf2 zf3; ((try (repeat' with_reducible refine And.intro ?_ ?_)); (try any_goals (first | refine zm ?_ | exact CL | fail))))
      refine loop_ruleS (fun k : Nat => k ≤ l.length) (fun k => ⟨[(0, .ptr 0 0), (2, .int .i64 65536), (3, .int .i64 4), (55, .isl l.length (tms l)), (56, .int .i64 l.length), (57, .int .i64 k)], WT.h { T with now := T.now + 1, rows := (l.take k).foldl (layR (T.now + 1)) (rows.set 64 []) }, 67⟩) (fun k => l.length - k) ft_wStep.mixed [0, 1] hgh
        ⟨0, by omega, ?_⟩ fun k hk => ?_
      · have hput : T1.put 64 [] = { T with now := T.now + 1, rows := rows.set 64 [] } := by rw [← hT1]; rfl
        show To _ _ ⟨_, WT.h { T with now := T.now + 1, rows := rows.set 64 [] }, 67⟩
        rw [← hput]
        refine To.off (k := 55) hwf hi65 hrw1 ?_ (fun b h1 h2 => ?_) ?_ (by dsimp only; omega) ?_ (by simp) ?_
        · show lookb ((0, _) :: _) 67 0 = _
          rw [lookb_cons, if_pos rfl]
        · show lookb ((0, _) :: (0, _) :: (1, _) :: _) 67 b = _
          rw [hTh1, lookb_cons, if_neg (by omega)]
        · (have zf1 := @hHi; refine XG ?_; clear zf1; ((try (repeat' with_reducible refine And.intro ?_ ?_)); (try any_goals (first | refine zm ?_ | exact CL | fail))))
        · (refine XG ?_; ((try (repeat' with_reducible refine And.intro ?_ ?_)); (try any_goals (first | refine zm ?_ | exact CL | fail))))
        · have h1 := tms_rens (rhoI 64 67) l
          have hll := tms_nm 67 l
          (have zf1 := @h1; have zf2 := @hll; refine XG ?_; clear zf1 zf2; ((try (repeat' with_reducible refine And.intro ?_ ?_)); (try any_goals (first | refine zm ?_ | exact CL | fail))))
      have hRk := lays_part (now := T.now + 1) (l := l) (hset0 64 hi65) k
      have hlenk : ∀ j, j < 65 → ((l.take k).foldl (layR (T.now + 1)) (rows.set 64 []) |>.getD j []).length ≤ 1000000 := fun j hj => by
        have h1 := hRk.row_le hj
        have h2 := (hsplit 64 hi65).length_eq
        rw [List.length_append] at h1 h2
        rw [← hl] at h2
        simp only [List.length_reverse, List.length_take] at h1
        omega
      have hwk : WT.wf { T with now := T.now + 1, rows := (l.take k).foldl (layR (T.now + 1)) (rows.set 64 []) } := ⟨hRk.len, hT.mb⟩
      have hstep : k < l.length → ∀ x, l[k]? = some x → (l.take (k + 1)).foldl (layR (T.now + 1)) (rows.set 64 []) = layR (T.now + 1) ((l.take k).foldl (layR (T.now + 1)) (rows.set 64 [])) x := fun _ x hx => by
        rw [List.take_succ, hx]; simp
      have hrow : ∀ x : Tm, (WT.row { T with now := T.now + 1, rows := (l.take k).foldl (layR (T.now + 1)) (rows.set 64 []) } (slotOf (T.now + 1) x.due)).length ≤ 1000000 := fun x => hlenk _ (slotOf_lt _ _)
      have hnk : WT.now { T with now := T.now + 1, rows := (l.take k).foldl (layR (T.now + 1)) (rows.set 64 []) } = T.now + 1 := rfl
      generalize hTk : ({ T with now := T.now + 1, rows := (l.take k).foldl (layR (T.now + 1)) (rows.set 64 []) } : WT) = Tk at *
      have hHk := WT.hHi hwk
      have htl := tms_len l
      (refine XG ?_; ((try (repeat' with_reducible refine And.intro ?_ ?_)); (try any_goals (first | refine zm ?_ | exact CL | fail))))
      (refine xw_ifp (fun h3 => ?_) (fun h3 => ?_) <;> try exact h3.elim)
      · have hkn : k < l.length := by omega
        have hcut := tms_cut l k hkn
        have hst := hstep hkn l[k] (by simp [hkn])
        have hdk : l[k].due ≤ 1099511627776 := hmem 64 hi65 l[k] (by rw [← hl]; exact List.getElem_mem _)
        generalize l[k] = x at *
        have hcall := wLay_gq c.gl Tk hwk x (by rw [hnk]; omega) hdk (by rw [hnk]; exact hrow x)
        (have zf1 := @htl; have zf2 := @hcut; have zf3 := @hHk; refine XG ?_; clear zf1 zf2 zf3; ((try (repeat' with_reducible refine And.intro ?_ ?_)); (try any_goals (first | refine zm ?_ | exact CL | fail))))
        refine pr_wh hcall hwk (fun _ _ => WT.lay_wf hwk x) hgh (by simp [okN]) [(0, .ptr 0 0), (2, .int .i64 65536), (3, .int .i64 4), (55, .isl l.length (tms l)), (56, .int .i64 l.length), (57, .int .i64 k), (61, .ptr 0 0), (62, .agg [.int .i64 x.id, .int .i64 x.due])] [(67, .cells [.int .i64 x.id, .int .i64 x.due])] 68 (To.sel (by (refine XG ?_; ((try (repeat' with_reducible refine And.intro ?_ ?_)); (try any_goals (first | refine zm ?_ | exact CL | fail))))) fun b => ?_) (by simp [nmPB, nmPs, nmP]) ?_ (by simp [nmOk, nmAll]) fun _ _ => ?_
        · simp only [List.cons_append, List.nil_append, lookb_cons]; (repeat' split) <;> rfl
        · (refine XG ?_; ((try (repeat' with_reducible refine And.intro ?_ ?_)); (try any_goals (first | refine zm ?_ | exact CL | fail))))
        · (refine XG ?_; ((try (repeat' with_reducible refine And.intro ?_ ?_)); (try any_goals (first | refine zm ?_ | exact CL | fail))))
          refine ⟨k + 1, by omega, ?_, by omega⟩
          have hT3 : Tk.lay x = { T with now := T.now + 1, rows := (l.take (k + 1)).foldl (layR (T.now + 1)) (rows.set 64 []) } := by rw [WT.lay_now, hst, ← hTk]
          rw [← hT3]
          refine To.wdrop (ex := [(67, .cells [.int .i64 x.id, .int .i64 x.due])]) (WT.lay_wf hwk x) (by simp) (by simp) ?_
          have h1 := tms_nm 67 l
          have h2 : rens id (tms l) = tms l := rens_id _
          have h3 : id 0 = 0 := rfl
          (have zf1 := @h1; have zf2 := @h2; have zf3 := @h3; refine XG ?_; clear zf1 zf2 zf3; ((try (repeat' with_reducible refine And.intro ?_ ?_)); (try any_goals (first | refine zm ?_ | exact CL | fail))))
      · obtain rfl : k = l.length := by omega
        rw [List.take_length] at hTk
        have hrl : (l.foldl (layR (T.now + 1)) (rows.set 64 [])) = relay (T.now + 1) rows 64 := by unfold relay; rw [← hl]
        have hfs : stepF (T.now + 1) (5 - 4) 4 rows = stepF (T.now + 1) (5 - (4 + 1)) (4 + 1) (relay (T.now + 1) rows 64) := by
          rw [← hti]
          show (if (T.now + 1) % 16 ^ 4 = 0 then _ else _) = _
          rw [if_pos (by simp only [Nat.reducePow]; omega)]
        (refine XM ?_; ((try (repeat' with_reducible refine And.intro ?_ ?_)); (try any_goals (first | refine zm ?_ | exact CL | fail))))
        refine ⟨(4 + 1, relay (T.now + 1) rows 64), ⟨by simp, by simp, hrel _ hi65, by dsimp only; rw [← hfs]; exact hfin⟩, ?_, by dsimp only; omega⟩
        rw [hrl] at hTk
        dsimp only
        rw [hTk]
        refine To.sel ?_ fun b => rfl
        (have zf1 := @hp2; refine XG ?_; clear zf1; ((try (repeat' with_reducible refine And.intro ?_ ?_)); (try any_goals (first | refine zm ?_ | exact CL | fail))))
    · have hfs : stepF (T.now + 1) (5 - 4) 4 rows = rows := by
        show (if (T.now + 1) % 16 ^ 4 = 0 then _ else _) = _
        rw [if_neg (by simp only [Nat.reducePow]; omega)]
      rw [hfs, hT1]
      (refine XG ?_; ((try (repeat' with_reducible refine And.intro ?_ ?_)); (try any_goals (first | refine zm ?_ | exact CL | fail))))
      refine ⟨(), ?_⟩
      rw [← hTh1]
      exact To.sel (by (refine XG ?_; ((try (repeat' with_reducible refine And.intro ?_ ?_)); (try any_goals (first | refine zm ?_ | exact CL | fail))))) fun b => rfl
  · have hfs : stepF (T.now + 1) (5 - 5) 5 rows = rows := rfl
    rw [hfs, hT1, hTh1]
    (refine XG ?_; ((try (repeat' with_reducible refine And.intro ?_ ?_)); (try any_goals (first | refine zm ?_ | exact CL | fail))))
    (refine xw_ifp (fun h1 => ?_) (fun h1 => ?_) <;> try exact h1.elim)
    (refine XG ?_; ((try (repeat' with_reducible refine And.intro ?_ ?_)); (try any_goals (first | refine zm ?_ | exact CL | fail))))
    refine ⟨(), ?_⟩
    rw [← hTh1]
    exact To.sel (by (refine XG ?_; ((try (repeat' with_reducible refine And.intro ?_ ?_)); (try any_goals (first | refine zm ?_ | exact CL | fail))))) fun b => rfl
end Go.Proofs.Ytphaicaobepimaa
