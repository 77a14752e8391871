/- What Advance does. No conditions but the ones that stand in each. -/
import Derived.Test.YtphaicaobepimaaVr
namespace Go.Proofs.Ytphaicaobepimaa
set_option linter.all false
set_option linter.unusedSimpArgs false
open Go.RowKit

/-- A row is taken off, one more block beside. -/
theorem To.off1 {p : List Nat} {s : St} {T : WT} {i k : Nat} {l : List Tm} {t' : List (Nat × AV)} {x : Bk} (hT : T.wf) (hi : i < 65) (hl : T.row i = l) (h0 : lookb s.h s.n 0 = .cells (T.cells.set (i + 1) .nils)) (hs : ∀ b, b ≠ 0 → b < 67 → lookb s.h s.n b = lookb T.h 67 b)
    (hf : s.fs.H s.n = .free) (hn : 68 ≤ s.n) (hk : look s.t k = .sl 2 (2 + i) 0 l.length l.length) (hp : ∀ b, b ∈ p → b < 2) (hx : lookb s.h s.n 67 = x) (hxn : nmB 0 x) (ht : subT (rhoI i s.n) 68 ((k, .isl l.length (tms l)) :: s.t) t') : To p s ⟨t', (67, x) :: (T.put i []).h, 68⟩ := by
  have hrl := hT.len
  have hcl := WT.len hT
  refine To.trans (To.nilB (b := 0) (j := i + 1) (es := 2) h0 (by rw [List.getElem?_set_self (by omega)]) hf) ?_
  rw [List.set_set]
  have hrow : lookb s.h (s.n + 1) (2 + i) = .cells (tms l) := by
    rw [lookb_up _ _ _ (by omega), hs _ (by omega) (by omega), WT.lookh, if_neg (by omega), if_neg (by omega), if_pos (by omega), show 2 + i - 2 = i by omega, hl]
  refine To.trans (To.frz (b := 2 + i) (i := k) (cs := tms l) (es := 2) (off := 0) (n := l.length) (k := l.length) ?_ hk) ?_
  · show lookb ((0, _) :: (s.n, _) :: s.h) (s.n + 1) (2 + i) = _
    rw [lookb_cons, if_neg (by omega), lookb_cons, if_neg (by omega)]; exact hrow
  have htk : ((tms l).drop 0).take (l.length * 2) = tms l := by rw [List.drop_zero, List.take_of_length_le (by rw [tms_len]; omega)]
  rw [htk]
  have hr67 : rhoI i s.n 67 = 67 := by unfold rhoI; rw [if_neg (by omega)]
  refine To.put (ex := [(67, x)]) hT hi (N := s.n) (by omega) (by omega) (fun b hb => by have := hp b hb; omega) hn ?_ ?_ ?_ (fun j hj hne => ?_) ht ⟨⟨by show 67 < 68; omega, nmB_up (Nat.zero_le _) hxn, ?_, trivial⟩, trivial⟩ (fun q hq => by obtain rfl := List.mem_singleton.1 hq; exact Nat.le_refl 67)
  · show lookb ((2 + i, _) :: (0, _) :: (s.n, _) :: s.h) (s.n + 1) 0 = _
    rw [lookb_cons, if_neg (by omega), lookb_cons, if_pos rfl]; rfl
  · show lookb ((2 + i, _) :: (0, _) :: (s.n, _) :: s.h) (s.n + 1) 1 = _
    rw [lookb_cons, if_neg (by omega), lookb_cons, if_neg (by omega), lookb_cons, if_neg (by omega), lookb_up _ _ _ (by omega), hs 1 (by omega) (by omega), WT.lookh, if_neg (by omega), if_pos rfl]
  · show lookb ((2 + i, _) :: (0, _) :: (s.n, _) :: s.h) (s.n + 1) s.n = _
    rw [lookb_cons, if_neg (by omega), lookb_cons, if_neg (by omega), lookb_cons, if_pos rfl]; rfl
  · show lookb ((2 + i, _) :: (0, _) :: (s.n, _) :: s.h) (s.n + 1) (2 + j) = _
    rw [lookb_cons, if_neg (by omega), lookb_cons, if_neg (by omega), lookb_cons, if_neg (by omega), lookb_up _ _ _ (by omega), hs _ (by omega) (by omega), WT.lookh, if_neg (by omega), if_neg (by omega), if_pos (by omega), show 2 + j - 2 = j by omega]
  · show lookb ((2 + i, _) :: (0, _) :: (s.n, _) :: s.h) (s.n + 1) (rhoI i s.n 67) = _
    rw [hr67, lookb_cons, if_neg (by omega), lookb_cons, if_neg (by omega), lookb_cons, if_neg (by omega), lookb_up _ _ _ (by omega), hx]
    exact (renB_same (fun b hb => by omega) hxn).symm
theorem WT.l0 (T : WT) (n : Nat) : lookb T.h n 0 = .cells T.cells := by rw [WT.lookh, if_pos rfl]
theorem WT.l1 (T : WT) (n : Nat) : lookb T.h n 1 = T.mb := by rw [WT.lookh, if_neg (by omega), if_pos rfl]
theorem ints_nm (n : Nat) (l : List Int) : nmAll n (ints l) = True := by simp [nmAll_iff, ints, nmOk]
theorem outT_len (D : List Tm) (n : Nat) : (outT D n).length ≤ D.length := by
  unfold outT
  rw [List.length_map, (srt_perm _).length_eq]
  exact List.length_filter_le _ _
theorem sim_of {T' : WT} {n : Nat} {rows : List (List Tm)} {mb : Bk} (h1 : T'.now = n) (h2 : rsim T'.rows rows) (h3 : T'.mb = mb) : T'.sim { now := n, rows := rows, mb := mb } := ⟨h1, h3, h2.1, h2.2⟩
set_option maxHeartbeats 4000000 in
set_option maxRecDepth 20000 in
theorem wAdv_gq (gl : Nat → AV) (T : WT) (rows0 : List (List Tm)) (D0 : List Tm) (dn : Bool) (hrs : rsim T.rows rows0) (hmb : T.mb = .mapb (kvT D0) dn) (hW : WG T.now rows0 D0) (to : Nat) (hto : T.now ≤ to) (hto2 : to ≤ 1099511627776) :
    GQ Try.prog gl 36 [.ptr 0 0, .int .i64 to] T.h 67 [0, 1] (fun T' : WT => T'.sim { now := to, rows := (advF (to - T.now + 1) T.now rows0 D0 to).1, mb := .mapb (kvT (advF (to - T.now + 1) T.now rows0 D0 to).2) false })
      (fun _ => .tup [.isl (outT D0 (to + 1)).length (ints (outT D0 (to + 1))), .int .i64 0]) WT.h := by
  have hlen : T.rows.length = 65 := hrs.1.trans hW.ri.len
  have hT := kvT_mapb hlen hmb
  refine ft_wAdv.gq (of_decide_eq_true rfl) (fun q hq => live_of_nmB (((WT.HL hT).mem q hq).2)) (by simp) fun c hgh hg => ?_
  unfold T_wAdv
  have hHi := WT.hHi hT
  have hL0 := WT.l0 T
  have g0 := WT.get0 T
  have hcl := WT.len hT
  generalize hfin : advF (to - T.now + 1) T.now rows0 D0 to = fin
  (refine XG ?_; ((try (repeat' with_reducible refine And.intro ?_ ?_)); (try any_goals (first | refine zm ?_ | exact CL | fail))))
  (refine xw_ifp (fun h1 => ?_) (fun h1 => ?_) <;> try exact h1.elim)
  (have zf1 := @hL0; have zf2 := @g0; refine XG ?_; clear zf1 zf2; ((try (repeat' with_reducible refine And.intro ?_ ?_)); (try any_goals (first | refine zm ?_ | exact CL | fail))))
  (refine xw_ifp (fun h2 => ?_) (fun h2 => ?_) <;> try exact h2.elim)
  · omega
  (refine XG ?_; ((try (repeat' with_reducible refine And.intro ?_ ?_)); (try any_goals (first | refine zm ?_ | exact CL | fail))))
  refine loop_nil 6 1 rfl (by (have zf1 := @hHi; refine XG ?_; clear zf1; ((try (repeat' with_reducible refine And.intro ?_ ?_)); (try any_goals (first | refine zm ?_ | exact CL | fail))))) ?_
  unfold St.named
  refine loop_ruleS (fun y : WT × List (List Tm) × List Tm × Bool => rsim y.1.rows y.2.1 ∧ y.1.mb = .mapb (kvT y.2.2.1) y.2.2.2 ∧ WG y.1.now y.2.1 y.2.2.1 ∧ y.1.now ≤ to ∧ T.now ≤ y.1.now ∧ advF (to - y.1.now + 1) y.1.now y.2.1 y.2.2.1 to = fin ∧ y.2.2.1 = D0.filter fun t => decide (y.1.now ≤ t.due))
    (fun y => ⟨[(0, .ptr 0 0), (1, .int .i64 to), (6, .sl 1 67 0 (outT D0 y.1.now).length (outT D0 y.1.now).length)], (67, .cells (ints (outT D0 y.1.now))) :: y.1.h, 68⟩) (fun y => to - y.1.now) ft_wAdv.mixed [0, 1] hgh
    ⟨(T, rows0, D0, dn), ⟨hrs, hmb, hW, hto, Nat.le_refl _, hfin, (List.filter_eq_self.2 fun t ht => by simpa using hW.lo t ht).symm⟩, ?_⟩ fun y hy => ?_
  · have e : outT D0 T.now = [] := outT_none D0 _ hW.lo
    dsimp only
    rw [e]
    exact To.sel (by (refine XG ?_; ((try (repeat' with_reducible refine And.intro ?_ ?_)); (try any_goals (first | refine zm ?_ | exact CL | fail))))) fun b => rfl
  obtain ⟨T1, rows, D, dn1⟩ := y
  obtain ⟨hs1, hm1, hW1, hnt, hTn, hf1, hD1⟩ := hy
  dsimp only at hs1 hm1 hW1 hnt hTn hf1 hD1 ⊢
  have hlen1 : T1.rows.length = 65 := hs1.1.trans hW1.ri.len
  have hT1 := kvT_mapb hlen1 hm1
  have hHi1 := WT.hHi hT1
  have hL01 := WT.l0 T1
  have g01 := WT.get0 T1
  have hcl1 := WT.len hT1
  have hsp : T1.now % 16 < 16 := Nat.mod_lt _ (by omega)
  have hm : Int.tmod (T1.now : Int) 16 = ((T1.now % 16 : Nat) : Int) := tmodN _ 16
  have hget := WT.getI hT1 (i := T1.now % 16) (by omega)
  have hri1 := hW1.ri.sim hs1
  have hrowp : (T1.row (T1.now % 16)).Perm (D.filter fun t => t.due == T1.now) := (hri1.now_row).1
  have hoff := offL_keep hW1.dis hrowp
  have hrl : (T1.row (T1.now % 16)).length ≤ 100000 := Nat.le_trans (hri1.row_le (by omega)) hW1.len
  have hout := outT_step D0 T1.now (T1.row (T1.now % 16)) (by
    rw [hD1, List.filter_filter] at hrowp
    refine hrowp.trans (List.Perm.of_eq (List.filter_congr fun t _ => ?_))
    rw [Bool.eq_iff_iff]; simp; omega)
  have hol := outT_len D0 T1.now
  have hol2 := outT_len D0 (T1.now + 1)
  have hDl := hW.len
  have hkeep : WT.put T1 (T1.now % 16) [] = { T1 with rows := T1.rows.set (T1.now % 16) [] } := rfl
  have hs2 : rsim (T1.rows.set (T1.now % 16) []) (rows.set (T1.now % 16) []) := hs1.set _ (List.Perm.refl _)
  have hidl : (isort (ids (T1.row (T1.now % 16)))).length = (T1.row (T1.now % 16)).length := by simp [isort, ids]
  generalize hrw : T1.row (T1.now % 16) = l at *
  have hfire := wFire_gq c.gl (T1.put (T1.now % 16) []) D l dn1 (by simp [WT.put, hlen1]) hm1 hW1.dis (by omega)
  rw [hoff] at hfire
  have hwp := WT.put_wf hT1 (T1.now % 16) []
  rw [show T1.now % 16 + 1 = 1 + T1.now % 16 by omega] at hget
  (have zf1 := @hHi1; have zf2 := @hL01; have zf3 := @g01; have zf4 := @hm; have zf5 := @hget; refine XG ?_; clear zf1 zf2 zf3 zf4 zf5; ((try (repeat' with_reducible refine And.intro ?_ ?_)); (try any_goals (first | refine zm ?_ | exact CL | fail))))
  have hD2 : keepT T1.now D = D0.filter fun t => decide (T1.now + 1 ≤ t.due) := by
    rw [hD1]; exact keepT_filter D0 _ _ (by omega) fun t _ h => h
  have hw2 : WT.wf { T1 with rows := T1.rows.set (T1.now % 16) [], mb := .mapb (kvT (keepT T1.now D)) false } := ⟨by simp [hlen1], kvT_nm 2 _⟩
  have hou2 : outT D0 T1.now ++ isort (ids l) = outT D0 (T1.now + 1) := hout.symm
  have hout2l : (outT D0 T1.now).length + l.length = (outT D0 (T1.now + 1)).length := by rw [← hou2, List.length_append, hidl]
  have hil1 := ints_len (outT D0 T1.now)
  have hil2 := ints_len (isort (ids l))
  refine pr_wh (W := fun _ : Unit => { T1 with rows := T1.rows.set (T1.now % 16) [], mb := .mapb (kvT (keepT T1.now D)) false }) hfire hwp (fun _ _ => hw2) hgh (by simp [okN]) [(0, .ptr 0 0), (1, .int .i64 to), (36, .sl 1 67 0 (outT D0 T1.now).length (outT D0 T1.now).length), (37, .ptr 0 0), (38, .isl l.length (tms l))] [(67, .cells (ints (outT D0 T1.now)))] 68
    (To.off1 (k := 38) hT1 (i := T1.now % 16) (by omega) hrw ?_ (fun b h1 h2 => ?_) ?_ (by show 68 ≤ 68; omega) ?_ (by simp) rfl ?_ ?_) (by simp [nmPB, okN, nmPs_iff, ints, nmP]) ?_ (by simp [nmOk, ints_nm]) fun _ _ => ?_
  · show lookb ((0, _) :: _) 68 0 = _
    rw [lookb_cons, if_pos rfl, show 1 + T1.now % 16 = T1.now % 16 + 1 by omega]
  · show lookb ((0, _) :: (67, _) :: T1.h) 68 b = _
    rw [lookb_cons, if_neg (by omega), lookb_cons, if_neg (by omega), WT.lookh, WT.lookh]
    (repeat' split) <;> first | rfl | omega
  · (have zf1 := @hHi1; refine XG ?_; clear zf1; ((try (repeat' with_reducible refine And.intro ?_ ?_)); (try any_goals (first | refine zm ?_ | exact CL | fail))))
  · (refine XG ?_; ((try (repeat' with_reducible refine And.intro ?_ ?_)); (try any_goals (first | refine zm ?_ | exact CL | fail))))
  · exact nmAll_iff.2 fun x hx => by
      obtain ⟨n, _, rfl⟩ := List.mem_map.1 hx
      simp [nmOk]
  · have h1 := tms_rens (rhoI (T1.now % 16) 68) l
    have hll := tms_nm 68 l
    have h67 : rhoI (T1.now % 16) 68 67 = 67 := by unfold rhoI; rw [if_neg (by omega)]
    (have zf1 := @h1; have zf2 := @hll; have zf3 := @h67; refine XG ?_; clear zf1 zf2 zf3; ((try (repeat' with_reducible refine And.intro ?_ ?_)); (try any_goals (first | refine zm ?_ | exact CL | fail))))
  · (refine XG ?_; ((try (repeat' with_reducible refine And.intro ?_ ?_)); (try any_goals (first | refine zm ?_ | exact CL | fail))))
  clear hfire
  generalize hT2 : ({ T1 with rows := T1.rows.set (T1.now % 16) [], mb := .mapb (kvT (keepT T1.now D)) false } : WT) = T2 at *
  have hHi2 := WT.hHi hw2
  have hL02 := WT.l0 T2
  have hL12 := WT.l1 T2
  have hm2 : T2.mb = .mapb (kvT (keepT T1.now D)) false := by rw [← hT2]
  rw [hm2] at hL12
  have hn2 : T2.now = T1.now := by rw [← hT2]
  have hr2 : rsim T2.rows (rows.set (T1.now % 16) []) := by rw [← hT2]; exact hs2
  have g02 := WT.get0 T2
  rw [hn2] at g02
  have g662 := WT.get66 hw2
  have hcl2 := WT.len hw2
  have hkl := kvT_len (keepT T1.now D)
  (refine XG ?_; ((try (repeat' with_reducible refine And.intro ?_ ?_)); (try any_goals (first | refine zm ?_ | exact CL | fail))))
  ((first | apply pr_app | apply prD_app | apply pr_bsl | apply prD_bsl | apply pr_s2b | apply prD_s2b); (have zf1 := @hHi2; have zf2 := @hil1; have zf3 := @hil2; have zf4 := @hou2; have zf5 := @hout2l; have zf6 := @hidl; have zf7 := @hL02; have zf8 := @g02; refine XG ?_; clear zf1 zf2 zf3 zf4 zf5 zf6 zf7 zf8; ((try (repeat' with_reducible refine And.intro ?_ ?_)); (try any_goals (first | refine zm ?_ | exact CL | fail)))))
  have hfl : ∀ {f : Nat}, to - T1.now + 1 = f + 1 → advF (f + 1) T1.now rows D to = fin := fun e => by rw [← e]; exact hf1
  have hf2 := hfl (f := to - T1.now) rfl
  unfold advF at hf2
  (refine xw_ifp (fun h3 => ?_) (fun h3 => ?_) <;> try exact h3.elim)
  · have e : T1.now = to := by omega
    rw [if_pos e] at hf2
    subst e
    (refine XG ?_; ((try (repeat' with_reducible refine And.intro ?_ ?_)); (try any_goals (first | refine zm ?_ | exact CL | fail))))
    refine ⟨T2, ?_, (To.frz2 (b := 68) (i := 0) rfl rfl).trans (To.wdrop (ex := [(68, .dead), (68, .cells (ints (outT D0 (T1.now + 1)))), (67, .dead), (67, .cells (ints (outT D0 T1.now)))]) hw2 (by simp) (by simp) ?_)⟩
    · rw [← hf2]; exact sim_of hn2 hr2 hm2
    · have hcut : ((ints (outT D0 (T1.now + 1))).drop 0).take ((outT D0 (T1.now + 1)).length * 1) = ints (outT D0 (T1.now + 1)) := by
        rw [List.drop_zero, List.take_of_length_le (by rw [Nat.mul_one]; simp [ints])]
      rw [hcut]
      have h2 : ∀ q, rens id (ints q) = ints q := fun q => rens_id _
      (have zf1 := @ints_nm; have zf2 := @h2; refine XG ?_; clear zf1 zf2; ((try (repeat' with_reducible refine And.intro ?_ ?_)); (try any_goals (first | refine zm ?_ | exact CL | fail))))
  have hne : ¬ T1.now = to := by omega
  rw [if_neg hne] at hf2
  have hD2l := Nat.le_trans (keepT_sub (n := T1.now) (D := D)).length_le hW1.len
  have hd2 : ∀ t ∈ keepT T1.now D, t.due ≤ 1099511627776 := fun t ht => hW1.hi t (keepT_sub.subset ht)
  have hlo2 := keepT_lo hW1.lo
  (have zf1 := @hL02; have zf2 := @g02; have zf3 := @hL12; have zf4 := @g662; have zf5 := @hkl; refine XG ?_; clear zf1 zf2 zf3 zf4 zf5; ((try (repeat' with_reducible refine And.intro ?_ ?_)); (try any_goals (first | refine zm ?_ | exact CL | fail))))
  (refine xw_ifp (fun h4 => ?_) (fun h4 => ?_) <;> try exact h4.elim)
  · rw [if_pos (by rcases h4 with h4 | h4 <;> omega)] at hf2
    have hleap := wLeap_gq c.gl T2 (keepT T1.now D) false (by rw [← hT2]; simp [hlen1]) hm2 hD2l hd2 to hto2
    obtain ⟨q1, q2, q3⟩ := nextT_spec (keepT T1.now D) to
    have hlt : T1.now < nextT (keepT T1.now D) to := by
      rcases q3 with q3 | ⟨t, ht, q3⟩
      · omega
      · have := hlo2 t ht; omega
    have hWl := hW1.leap q2
    have hsk := outT_skip D0 (n := T1.now + 1) (m := nextT (keepT T1.now D) to) (by omega) fun t ht h => q2 t (by rw [hD2]; exact List.mem_filter.2 ⟨ht, by simpa using h⟩)
    have hD3 : keepT T1.now D = D0.filter fun t => decide (nextT (keepT T1.now D) to ≤ t.due) := by
      have := keepT_filter D0 T1.now (nextT (keepT T1.now D) to) hlt fun t ht h => q2 t (by rw [hD2]; exact List.mem_filter.2 ⟨ht, decide_eq_true h⟩)
      rw [← hD1] at this; exact this
    have hwl : ∀ x : WT, x.lept (keepT T1.now D) (nextT (keepT T1.now D) to) → x.wf := fun x ⟨l, _, e⟩ => by
      subst e
      exact ⟨(RI.lays (P := fun _ _ => True) (now := nextT (keepT T1.now D) to) l (rows := List.replicate 65 []) (D := []) ⟨by simp, by simp, fun _ _ _ _ => trivial⟩ fun _ _ => trivial).len, kvT_nm 2 _⟩
    rw [advF_fuel _ (to - nextT (keepT T1.now D) to + 1) _ _ _ to q1 q2 (by omega) (by omega)] at hf2
    (refine XG ?_; ((try (repeat' with_reducible refine And.intro ?_ ?_)); (try any_goals (first | refine zm ?_ | exact CL | fail))))
    refine pr_wh (W := fun x : WT => x) hleap hw2 hwl hgh (by simp [okN]) [(0, .ptr 0 0), (1, .int .i64 to), (6, .sl 1 68 0 (outT D0 (T1.now + 1)).length (outT D0 (T1.now + 1)).length), (63, .ptr 0 0), (64, .int .i64 to)] [(68, .cells (ints (outT D0 (T1.now + 1))))] 69 (To.sel (by (refine XG ?_; ((try (repeat' with_reducible refine And.intro ?_ ?_)); (try any_goals (first | refine zm ?_ | exact CL | fail))))) fun b => ?_) (by simp [nmPB, okN, nmPs_iff, ints, nmP]) ?_ (by simp [nmOk, nmAll]) fun T3 h3 => ?_
    · show lookb ((68, _) :: T2.h) 69 b = lookb ((68, .cells (ints (outT D0 (T1.now + 1)))) :: (67, .dead) :: (67, .cells (ints (outT D0 T1.now))) :: T2.h) 69 b
      simp only [lookb_cons]
      (repeat' split) <;> first | rfl | omega | (subst_vars; rw [hHi2 69 67 (by omega)]; rfl)
    · (refine XG ?_; ((try (repeat' with_reducible refine And.intro ?_ ?_)); (try any_goals (first | refine zm ?_ | exact CL | fail))))
    obtain ⟨l3, p3, rfl⟩ := h3
    (refine XG ?_; ((try (repeat' with_reducible refine And.intro ?_ ?_)); (try any_goals (first | refine zm ?_ | exact CL | fail))))
    refine ⟨({ now := nextT (keepT T1.now D) to, rows := l3.foldl (layR (nextT (keepT T1.now D) to)) (List.replicate 65 []), mb := .mapb (kvT (keepT T1.now D)) false }, (keepT T1.now D).foldl (layR (nextT (keepT T1.now D) to)) (List.replicate 65 []), keepT T1.now D, false), ⟨rsim.lays p3 (rsim.refl _), rfl, hWl, q1, by dsimp only; omega, hf2, hD3⟩, ?_, by dsimp only; omega⟩
    dsimp only
    rw [hsk]
    refine To.wre (ex := [(67, .cells (ints (outT D0 (T1.now + 1))))]) [(67, 68)] (hwl _ ⟨l3, p3, rfl⟩) (by simp) (by omega) rfl rfl (fun b hb => ?_) ?_ ?_ (by simp)
    · show lookb ((68, _) :: WT.h _) 69 b = _
      rw [lookb_cons, if_neg (by omega), WT.lookh, WT.lookh]
      (repeat' split) <;> first | rfl | omega
    · (refine XG ?_; ((try (repeat' with_reducible refine And.intro ?_ ?_)); (try any_goals (first | refine zm ?_ | exact CL | fail))))
    · (have zf1 := @ints_nm; refine XG ?_; clear zf1; ((try (repeat' with_reducible refine And.intro ?_ ?_)); (try any_goals (first | refine zm ?_ | exact CL | fail))))
  · rw [if_neg (by omega)] at hf2
    have hp2 : T2.rows.flatten.Perm (keepT T1.now D) := (hW1.fired.sim hr2).perm
    have hstep := wStep_gq c.gl T2 (keepT T1.now D) hw2 hp2 hD2l hd2 (by omega)
    have hws : T2.stp.wf := ⟨((hW1.fired.sim hr2).tick hlo2 |>.len : (stepF (T1.now + 1) 4 1 T2.rows).length = 65) |> fun h => by unfold WT.stp; rw [hn2]; exact h, hw2.mb⟩
    have hWt := hW1.tick
    rw [advF_fuel _ (to - (T1.now + 1) + 1) _ _ _ to (by omega) hlo2 (by omega) (by omega)] at hf2
    (refine XG ?_; ((try (repeat' with_reducible refine And.intro ?_ ?_)); (try any_goals (first | refine zm ?_ | exact CL | fail))))
    refine pr_wh (W := fun _ : Unit => T2.stp) hstep hw2 (fun _ _ => hws) hgh (by simp [okN]) [(0, .ptr 0 0), (1, .int .i64 to), (6, .sl 1 68 0 (outT D0 (T1.now + 1)).length (outT D0 (T1.now + 1)).length), (66, .ptr 0 0)] [(68, .cells (ints (outT D0 (T1.now + 1))))] 69 (To.sel (by (refine XG ?_; ((try (repeat' with_reducible refine And.intro ?_ ?_)); (try any_goals (first | refine zm ?_ | exact CL | fail))))) fun b => ?_) (by simp [nmPB, okN, nmPs_iff, ints, nmP]) ?_ (by simp [nmOk, nmAll]) fun _ _ => ?_
    · show lookb ((68, _) :: T2.h) 69 b = lookb ((68, .cells (ints (outT D0 (T1.now + 1)))) :: (67, .dead) :: (67, .cells (ints (outT D0 T1.now))) :: T2.h) 69 b
      simp only [lookb_cons]
      (repeat' split) <;> first | rfl | omega | (subst_vars; rw [hHi2 69 67 (by omega)]; rfl)
    · (refine XG ?_; ((try (repeat' with_reducible refine And.intro ?_ ?_)); (try any_goals (first | refine zm ?_ | exact CL | fail))))
    (refine XG ?_; ((try (repeat' with_reducible refine And.intro ?_ ?_)); (try any_goals (first | refine zm ?_ | exact CL | fail))))
    have hsn : T2.stp.now = T1.now + 1 := by unfold WT.stp; rw [hn2]
    refine ⟨(T2.stp, stepF (T1.now + 1) 4 1 (rows.set (T1.now % 16) []), keepT T1.now D, false), ⟨?_, hm2, by dsimp only; rw [hsn]; exact hWt, by dsimp only; omega, by dsimp only; omega, by dsimp only; rw [hsn]; exact hf2, by dsimp only; rw [hsn]; exact hD2⟩, ?_, by dsimp only; omega⟩
    · show rsim (stepF (T2.now + 1) 4 1 T2.rows) _
      rw [hn2]; exact hr2.step 4 1
    dsimp only
    rw [hsn]
    refine To.wre (ex := [(67, .cells (ints (outT D0 (T1.now + 1))))]) [(67, 68)] hws (by simp) (by omega) rfl rfl (fun b hb => ?_) ?_ ?_ (by simp)
    · show lookb ((68, _) :: WT.h _) 69 b = _
      rw [lookb_cons, if_neg (by omega), WT.lookh, WT.lookh]
      (repeat' split) <;> first | rfl | omega
    · (refine XG ?_; ((try (repeat' with_reducible refine And.intro ?_ ?_)); (try any_goals (first | refine zm ?_ | exact CL | fail))))
    · (have zf1 := @ints_nm; refine XG ?_; clear zf1; ((try (repeat' with_reducible refine And.intro ?_ ?_)); (try any_goals (first | refine zm ?_ | exact CL | fail))))
end Go.Proofs.Ytphaicaobepimaa
