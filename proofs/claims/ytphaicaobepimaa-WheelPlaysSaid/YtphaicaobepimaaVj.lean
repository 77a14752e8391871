/- Going on to where something happens. No conditions but the ones that stand in each. -/
import Derived.Test.YtphaicaobepimaaVi
namespace Go.Proofs.Ytphaicaobepimaa
set_option linter.all false
set_option linter.unusedSimpArgs false
open Go.RowKit

def nextT (D : List Tm) (to : Nat) : Nat := D.foldl (fun m t => min m t.due) to
theorem nextT_spec : ∀ (D : List Tm) (to : Nat), nextT D to ≤ to ∧ (∀ t ∈ D, nextT D to ≤ t.due) ∧ (nextT D to = to ∨ ∃ t ∈ D, t.due = nextT D to)
  | [], to => ⟨Nat.le_refl _, fun t ht => (by cases ht), .inl rfl⟩
  | a :: D, to => by
    obtain ⟨h1, h2, h3⟩ := nextT_spec D (min to a.due)
    have e : nextT (a :: D) to = nextT D (min to a.due) := rfl
    rw [e]
    refine ⟨by omega, fun t ht => ?_, ?_⟩
    · rcases List.mem_cons.1 ht with rfl | ht
      · omega
      · exact h2 t ht
    · rcases h3 with h3 | ⟨t, ht, h3⟩
      · by_cases h : to ≤ a.due
        · left; omega
        · right; exact ⟨a, by simp, by omega⟩
      · right; exact ⟨t, by simp [ht], h3⟩
theorem nextT_uniq {D : List Tm} {to m : Nat} (h1 : m ≤ to) (h2 : ∀ t ∈ D, m ≤ t.due) (h3 : m = to ∨ ∃ t ∈ D, t.due = m) : m = nextT D to := by
  obtain ⟨g1, g2, g3⟩ := nextT_spec D to
  rcases h3 with h3 | ⟨t, ht, h3⟩ <;> rcases g3 with g3 | ⟨t', ht', g3⟩
  · omega
  · have := h2 t' ht'; omega
  · have := g2 t ht; omega
  · have := h2 t' ht'; have := g2 t ht; omega
theorem nodup_bound : ∀ (n : Nat) (S : List Nat), S.Nodup → (∀ i ∈ S, i < n) → S.length ≤ n
  | 0, S, _, h => by
    cases S with
    | nil => simp
    | cons a S => have := h a (by simp); omega
  | n + 1, S, hd, h => by
    have := nodup_bound n (S.erase n) (hd.erase n) fun i hi => by
      have := (hd.mem_erase_iff).1 hi
      have := h i this.2; omega
    rw [List.length_erase] at this
    split at this <;> omega
theorem nodup_all {S : List Nat} {n : Nat} (hd : S.Nodup) (h : ∀ i ∈ S, i < n) (hall : ∀ i, i < n → i ∈ S) : S.Perm (List.range n) := by
  rw [List.perm_iff_count]
  intro a
  rw [hd.count, (List.nodup_range).count]
  by_cases ha : a < n
  · rw [if_pos (hall a ha), if_pos (List.mem_range.2 ha)]
  · rw [if_neg fun hm => ha (h a hm), if_neg fun hm => ha (List.mem_range.1 hm)]
theorem range_get (D : List Tm) : (List.range D.length).map (fun i => D.getD i default) = D := by
  refine List.ext_getElem (by simp) fun i h1 h2 => ?_
  simp [List.getD, h2]
theorem stamp_inj {bs : List Nat} {n ck : Nat} (h : stamps bs n ck) {i j : Nat} (hi : i < n) (hj : j < n) (e : bs.getD i 0 = bs.getD j 0) : i = j := by
  by_cases h1 : i < j
  · have := h.2.1 i j h1 hj; omega
  by_cases h2 : j < i
  · have := h.2.1 j i h2 hi; omega
  omega
theorem kvT_get (D : List Tm) (i : Nat) (h : i < D.length) : (kvT D).getD i (.any, .any) = (.int .i64 (D.getD i default).id, .int .i64 (D.getD i default).due) := by
  simp [kvT, List.getD, h]
/-- A wheel of nothing: its rows' cells are nil. -/
def emptyT (m : Nat) (mb : Bk) : WT := { now := m, rows := List.replicate 65 [], mb := mb }
theorem emptyT_row (m : Nat) (mb : Bk) (i : Nat) : (emptyT m mb).row i = [] := by
  unfold WT.row emptyT
  simp only [List.getD, List.getElem?_replicate]
  split <;> rfl
def nilC (m : Int) : List AV := .int .i64 m :: (List.replicate 65 .nils ++ [.mp 1])
theorem nilC_get (m : Int) (j : Nat) (h : j < 65) : (nilC m)[j + 1]? = some .nils := by
  unfold nilC
  rw [List.getElem?_cons_succ, List.getElem?_append_left (by simpa using h), List.getElem?_replicate, if_pos h]
theorem nilC_len (m : Int) : (nilC m).length = 67 := by simp [nilC]
theorem nilC_get0 (m : Int) : (nilC m).getD 0 .any = .int .i64 m := rfl
theorem nilC_get66 (m : Int) : (nilC m).getD 66 .any = .mp 1 := rfl
theorem To.nilsN {p : List Nat} {s : St} {m : Int} (h0 : lookb s.h s.n 0 = .cells (nilC m)) (hf : ∀ j, lookb s.h (s.n + j) (s.n + j) = .free) (hn : 2 ≤ s.n) : ∀ j, j ≤ 65 → ∃ h cs, To p s ⟨s.t, h, s.n + j⟩ ∧ lookb h (s.n + j) 0 = .cells cs ∧ cs.length = 67 ∧ (∀ i, i < 67 → cs.getD i .any = if 1 ≤ i ∧ i ≤ j then .sl 2 (s.n + (i - 1)) 0 0 0 else (nilC m).getD i .any) ∧ (∀ i, i < j → lookb h (s.n + j) (s.n + i) = .cells []) ∧ (∀ b, b ≠ 0 → b < s.n → lookb h (s.n + j) b = lookb s.h s.n b) ∧ ∀ k, j ≤ k → lookb h (s.n + k) (s.n + k) = .free
  | 0, _ => ⟨s.h, nilC m, To.refl _ _, h0, nilC_len m, fun i hi => by rw [if_neg (by omega)], fun i hi => by omega, fun b _ _ => rfl, fun k _ => hf k⟩
  | j + 1, hj => by
    obtain ⟨h, cs, g1, g2, g3, g4, g5, g6, g7⟩ := To.nilsN (p := p) h0 hf hn j (by omega)
    have hcj : cs[j + 1]? = some .nils := by
      have := g4 (j + 1) (by omega)
      rw [if_neg (by omega)] at this
      have hn := nilC_get m j (by omega)
      have e1 : (nilC m).getD (j + 1) .any = .nils := by simp [List.getD, hn]
      rw [e1] at this
      have hl : j + 1 < cs.length := by omega
      simpa [List.getD, hl] using this
    refine ⟨(0, .cells (cs.set (j + 1) (.sl 2 (s.n + j) 0 0 0))) :: (s.n + j, .cells []) :: h, cs.set (j + 1) (.sl 2 (s.n + j) 0 0 0), g1.trans (To.nilB (s := ⟨s.t, h, s.n + j⟩) g2 hcj (g7 j (Nat.le_refl j))), ?_, by simp [g3], fun i hi => ?_, fun i hi => ?_, fun b hb hbn => ?_, fun k hk => ?_⟩
    · rw [lookb_cons, if_pos rfl]
    · have hset : ∀ v, (cs.set (j + 1) v).getD i .any = if i = j + 1 then v else cs.getD i .any := fun v => by
        simp only [List.getD, List.getElem?_set]
        by_cases e : j + 1 = i
        · subst e; rw [if_pos rfl, if_pos (by omega), if_pos rfl]; rfl
        · rw [if_neg e, if_neg fun q => e q.symm]
      rw [hset, g4 i hi]
      by_cases e : i = j + 1
      · subst e; rw [if_pos rfl, if_pos (by omega)]; rfl
      · rw [if_neg e]
        by_cases e2 : 1 ≤ i ∧ i ≤ j
        · rw [if_pos e2, if_pos (by omega)]
        · rw [if_neg e2, if_neg (by omega)]
    · rw [lookb_cons, if_neg (by omega), lookb_cons]
      by_cases e : i = j
      · subst e; rw [if_pos rfl]
      · rw [if_neg (by omega), show s.n + (j + 1) = s.n + j + 1 by omega, lookb_up _ _ _ (by omega)]
        exact g5 i (by omega)
    · rw [lookb_cons, if_neg fun e => hb e.symm, lookb_cons, if_neg (by omega), show s.n + (j + 1) = s.n + j + 1 by omega, lookb_up _ _ _ (by omega)]
      exact g6 b hb hbn
    · rw [lookb_cons, if_neg (by omega), lookb_cons, if_neg (by omega)]
      exact g7 k (by omega)
def rhoN (N b : Nat) : Nat := if 2 ≤ b ∧ b < 67 then N + (b - 2) else b
theorem To.nils {p : List Nat} {s : St} {m : Nat} {mb : Bk} {t' : List (Nat × AV)} (h0 : lookb s.h s.n 0 = .cells (nilC m)) (hf : ∀ j, lookb s.h (s.n + j) (s.n + j) = .free) (hn : 2 ≤ s.n) (h1 : lookb s.h s.n 1 = mb) (hmb : nmB 2 mb) (hp : ∀ b, b ∈ p → b < 2) (ht : subT (rhoN s.n) 67 s.t t') : To p s ⟨t', (emptyT m mb).h, 67⟩ := by
  obtain ⟨h, cs, g1, g2, g3, g4, g5, g6, g7⟩ := To.nilsN (p := p) h0 hf (by omega) 65 (Nat.le_refl _)
  have hw : (emptyT m mb).wf := ⟨by simp [emptyT], hmb⟩
  refine g1.trans (To.wh (ex := []) hw (rhoN s.n) (fun b hb => ⟨by unfold rhoN; rw [if_neg (by have := hp b hb; omega)], by have := hp b hb; omega⟩) (by omega) (fun b b' hb hb' e => ?_) ?_ ?_ (fun i hi => ?_) ht trivial (fun q hq => by cases hq))
  · unfold rhoN at e
    (repeat' split at e) <;> omega
  · show lookb h (s.n + 65) (rhoN s.n 0) = _
    rw [show rhoN s.n 0 = 0 by unfold rhoN; rw [if_neg (by omega)], g2]
    congr 1
    refine list_ext_getD (by rw [rens_len, g3, WT.len hw]) fun j hj => ?_
    rw [g3] at hj
    rw [g4 j hj, rens_get]
    rcases WT.cell_cases hw j hj with rfl | rfl | ⟨i, hi, rfl⟩
    · rw [if_neg (by omega), WT.get0, nilC_get0]; simp [ren, emptyT]
    · rw [if_neg (by omega), WT.get66 hw, nilC_get66]; simp [ren, rhoN]
    · rw [if_pos (by omega), WT.getI hw hi, emptyT_row]
      simp only [ren, rhoN, List.length_nil]
      rw [if_pos (by omega)]
      congr 1
      omega
  · show lookb h (s.n + 65) (rhoN s.n 1) = _
    rw [show rhoN s.n 1 = 1 by unfold rhoN; rw [if_neg (by omega)], g6 1 (by omega) (by omega), h1]
    exact (renB_same (fun b hb => by unfold rhoN; rw [if_neg (by omega)]) hmb).symm
  · show lookb h (s.n + 65) (rhoN s.n (2 + i)) = _
    rw [emptyT_row]
    unfold rhoN
    rw [if_pos (by omega), show 2 + i - 2 = i by omega]
    exact g5 i hi
theorem splc_getL (cs vs : List AV) (off j : Nat) (h : off ≤ cs.length) : (splc cs off vs).getD j .any = if j < off then cs.getD j .any else if j < off + vs.length then vs.getD (j - off) .any else cs.getD j .any := by
  unfold splc
  simp only [List.getD, List.append_assoc, List.getElem?_append, List.length_take]
  by_cases h1 : j < off
  · rw [if_pos (by omega), if_pos h1, List.getElem?_take_of_lt h1]
  · rw [if_neg (by omega), if_neg h1, show min off cs.length = off by omega]
    by_cases h2 : j < off + vs.length
    · rw [if_pos (by omega), if_pos h2]
    · rw [if_neg (by omega), if_neg h2, List.getElem?_drop]
      congr 2; omega
theorem nilC_of {T : WT} (hT : T.wf) (m : Int) : (splc (T.cells.set 0 (.int .i64 m)) 1 [.nils, .nils, .nils, .nils, .nils, .nils, .nils, .nils, .nils, .nils, .nils, .nils, .nils, .nils, .nils, .nils, .nils, .nils, .nils, .nils, .nils, .nils, .nils, .nils, .nils, .nils, .nils, .nils, .nils, .nils, .nils, .nils, .nils, .nils, .nils, .nils, .nils, .nils, .nils, .nils, .nils, .nils, .nils, .nils, .nils, .nils, .nils, .nils, .nils, .nils, .nils, .nils, .nils, .nils, .nils, .nils, .nils, .nils, .nils, .nils, .nils, .nils, .nils, .nils]).set 65 .nils = nilC m := by
  have hl := WT.len hT
  have e : ([.nils, .nils, .nils, .nils, .nils, .nils, .nils, .nils, .nils, .nils, .nils, .nils, .nils, .nils, .nils, .nils, .nils, .nils, .nils, .nils, .nils, .nils, .nils, .nils, .nils, .nils, .nils, .nils, .nils, .nils, .nils, .nils, .nils, .nils, .nils, .nils, .nils, .nils, .nils, .nils, .nils, .nils, .nils, .nils, .nils, .nils, .nils, .nils, .nils, .nils, .nils, .nils, .nils, .nils, .nils, .nils, .nils, .nils, .nils, .nils, .nils, .nils, .nils, .nils] : List AV) = List.replicate 64 .nils := rfl
  rw [e]
  have hlen : (splc (T.cells.set 0 (.int .i64 m)) 1 (List.replicate 64 .nils)).length = 67 := by simp [splc, hl]
  refine list_ext_getD (by rw [List.length_set, hlen, nilC_len]) fun j hj => ?_
  rw [List.length_set, hlen] at hj
  have hset : ∀ (l : List AV) (i : Nat) (v : AV), i < l.length → (l.set i v).getD j .any = if j = i then v else l.getD j .any := fun l i v hi => by
    simp only [List.getD, List.getElem?_set]
    by_cases e : i = j
    · subst e; rw [if_pos rfl, if_pos hi, if_pos rfl]; rfl
    · rw [if_neg e, if_neg fun q => e q.symm]
  rw [hset _ _ _ (by omega), splc_getL _ _ _ _ (by simp [hl])]
  rcases WT.cell_cases hT j hj with rfl | rfl | ⟨i, hi, rfl⟩
  · rw [if_neg (by omega), if_pos (by omega), hset _ _ _ (by omega), if_pos rfl]; rfl
  · rw [if_neg (by omega), if_neg (by omega), if_neg (by simp), hset _ _ _ (by omega), if_neg (by omega), WT.get66 hT]; rfl
  · have hn := nilC_get m i hi
    have e1 : (nilC m).getD (i + 1) .any = .nils := by simp [List.getD, hn]
    rw [e1]
    by_cases e2 : i + 1 = 65
    · rw [if_pos e2]
    · rw [if_neg e2, if_neg (by omega), if_pos (by rw [List.length_replicate]; omega)]
      simp only [List.getD, List.getElem?_replicate]
      rw [if_pos (by omega)]; rfl
/-- What leap leaves: the timers laid anew, in some order. -/
def WT.lept (D : List Tm) (m : Nat) (T' : WT) : Prop := ∃ l : List Tm, l.Perm D ∧ T' = { now := m, rows := l.foldl (layR m) (List.replicate 65 []), mb := .mapb (kvT D) false }
set_option maxHeartbeats 4000000 in
set_option maxRecDepth 20000 in
theorem wLeap_gq (gl : Nat → AV) (T : WT) (D : List Tm) (dn : Bool) (hlen : T.rows.length = 65) (hmb : T.mb = .mapb (kvT D) dn) (hD : D.length ≤ 100000) (hdue : ∀ t ∈ D, t.due ≤ 1099511627776) (to : Nat) (hto : to ≤ 1099511627776) :
    GQ Try.prog gl 64 [.ptr 0 0, .int .i64 to] T.h 67 [0, 1] (fun T' : WT => T'.lept D (nextT D to)) (fun _ => .tup []) WT.h := by
  have hT := kvT_mapb hlen hmb
  refine ft_wLeap.gq (of_decide_eq_true rfl) (fun q hq => live_of_nmB (((WT.HL hT).mem q hq).2)) (by simp) fun c hgh hg => ?_
  unfold T_wLeap
  have hHi := fun n b hb => WT.rowHi hT n (b := b) hb
  have h66 := WT.get66 hT
  have hcl := WT.len hT
  have hTh : T.h = (0, .cells T.cells) :: (1, .mapb (kvT D) dn) :: rowH T.rows 0 := by rw [← hmb]; rfl
  rw [hTh]
  (have zf1 := @h66; refine XG ?_; clear zf1; ((try (repeat' with_reducible refine And.intro ?_ ?_)); (try any_goals (first | refine zm ?_ | exact CL | fail))))
  refine pr_rng mtD rfl rfl (by (have zf1 := @hHi; refine XG ?_; clear zf1; ((try (repeat' with_reducible refine And.intro ?_ ?_)); (try any_goals (first | refine zm ?_ | exact CL | fail))))) fun bs ck hst => ?_
  rw [kvT_len] at hst
  (refine XG ?_; ((try (repeat' with_reducible refine And.intro ?_ ?_)); (try any_goals (first | refine zm ?_ | exact CL | fail))))
  refine loop_ruleS (fun y : List Nat × Nat => y.1.Nodup ∧ (∀ i ∈ y.1, i < D.length) ∧ y.2 ≤ to ∧ (∀ i ∈ y.1, y.2 ≤ (D.getD i default).due) ∧ (y.2 = to ∨ ∃ t ∈ D, t.due = y.2))
    (fun y => ⟨[(0, .ptr 0 0), (4, .int .i64 y.2), (14, .ptr 67 0)], (67, .iter 1 ck (y.1.map fun i => bs.getD i 0)) :: (0, .cells T.cells) :: (1, .mapx (kvT D) bs ck) :: rowH T.rows 0, 68⟩) (fun y => D.length - y.1.length) ft_wLeap.mixed [0, 1] hgh
    ⟨([], to), ⟨by simp, by simp, by simp, by simp, .inl rfl⟩, To.sel (by (refine XG ?_; ((try (repeat' with_reducible refine And.intro ?_ ?_)); (try any_goals (first | refine zm ?_ | exact CL | fail))))) fun b => ?_⟩ fun y hy => ?_
  · simp only [List.map_nil, lookb_cons]
    (repeat' split) <;> first | rfl | omega
  obtain ⟨S, m⟩ := y
  obtain ⟨hnd, hSb, hmt, hmS, hmx⟩ := hy
  dsimp only at hnd hSb hmt hmS hmx ⊢
  have hSl := nodup_bound _ S hnd hSb
  (refine XG ?_; ((try (repeat' with_reducible refine And.intro ?_ ?_)); (try any_goals (first | refine zm ?_ | exact CL | fail))))
  refine pr_nxt (bi := 67) (b := 1) (ck := ck) (seen := S.map fun i => bs.getD i 0) (bs := bs) (kvs := kvT D) rfl (by (refine XG ?_; ((try (repeat' with_reducible refine And.intro ?_ ?_)); (try any_goals (first | refine zm ?_ | exact CL | fail))))) (by (refine XG ?_; ((try (repeat' with_reducible refine And.intro ?_ ?_)); (try any_goals (first | refine zm ?_ | exact CL | fail))))) (fun hall => ?_) (fun i hik hni => ?_)
  · rw [kvT_len] at hall
    have hallS : ∀ i, i < D.length → i ∈ S := fun i hi => by
      obtain ⟨j, hj, e⟩ := List.mem_map.1 (hall i hi)
      rw [stamp_inj hst hi (hSb j hj) e.symm]; exact hj
    have hm : m = nextT D to := nextT_uniq hmt (fun t ht => by
      obtain ⟨i, hi, rfl⟩ := List.mem_iff_getElem.1 ht
      have := hmS i (hallS i hi)
      simpa [List.getD, hi] using this) hmx
    subst hm
    clear hallS hall hmS hnd hSb hSl hmx
    have hmle : nextT D to ≤ 1099511627776 := by omega
    generalize nextT D to = m at *
    (refine XG ?_; ((try (repeat' with_reducible refine And.intro ?_ ?_)); (try any_goals (first | refine zm ?_ | exact CL | fail))))
    (refine xw_ifp (fun h1 => ?_) (fun h1 => ?_) <;> try exact h1.elim)
    (have zf1 := @hHi; have zf2 := @h66; refine XG ?_; clear zf1 zf2; ((try (repeat' with_reducible refine And.intro ?_ ?_)); (try any_goals (first | refine zm ?_ | exact CL | fail))))
    rw [nilC_of hT m]
    refine pr_to hgh (s' := ⟨[(0, .ptr 0 0), (36, .mp 1)], (emptyT m (.mapb (kvT D) false)).h, 67⟩) (To.trans (To.ofX (b := 1) rfl) (To.nils (m := m) (mb := .mapb (kvT D) false) rfl (fun j => ?_) (by show 2 ≤ 68; omega) rfl (kvT_nm 2 D) (by simp) ?_)) ?_
    · show lookb ((1, _) :: (0, _) :: (0, _) :: (0, _) :: (67, _) :: (0, _) :: (1, _) :: rowH T.rows 0) (68 + j) (68 + j) = .free
      (repeat rw [lookb_cons, if_neg (by omega)])
      rw [hHi _ _ (by omega), if_neg (by omega)]
    · have h1 : rhoN 68 0 = 0 := rfl
      have h2 : rhoN 68 1 = 1 := rfl
      (have zf1 := @h1; have zf2 := @h2; have zf3 := @nilC_get66; refine XG ?_; clear zf1 zf2 zf3; ((try (repeat' with_reducible refine And.intro ?_ ?_)); (try any_goals (first | refine zm ?_ | exact CL | fail))))
    have hwe : (emptyT m (.mapb (kvT D) false)).wf := ⟨by simp [emptyT], kvT_nm 2 D⟩
    have hHe := WT.hHi hwe
    refine pr_rng mtD (b := 1) (kvs := kvT D) (dn := false) rfl rfl (by (have zf1 := @hHe; refine XG ?_; clear zf1; ((try (repeat' with_reducible refine And.intro ?_ ?_)); (try any_goals (first | refine zm ?_ | exact CL | fail))))) fun bs2 ck2 hst2 => ?_
    rw [kvT_len] at hst2
    (refine XG ?_; ((try (repeat' with_reducible refine And.intro ?_ ?_)); (try any_goals (first | refine zm ?_ | exact CL | fail))))
    refine loop_ruleS (fun S : List Nat => S.Nodup ∧ (∀ i ∈ S, i < D.length))
      (fun S => ⟨[(0, .ptr 0 0), (37, .ptr 67 0)], (67, .iter 1 ck2 (S.map fun i => bs2.getD i 0)) :: WT.h { now := m, rows := (S.map fun i => D.getD i default).foldl (layR m) (List.replicate 65 []), mb := .mapx (kvT D) bs2 ck2 }, 68⟩) (fun S => D.length - S.length) ft_wLeap.mixed [0, 1] hgh
      ⟨[], ⟨by simp, by simp⟩, To.sel (by (refine XG ?_; ((try (repeat' with_reducible refine And.intro ?_ ?_)); (try any_goals (first | refine zm ?_ | exact CL | fail))))) fun b => ?_⟩ fun S hy => ?_
    · show lookb ((67, .iter 1 ck2 []) :: WT.h { now := m, rows := List.replicate 65 [], mb := .mapx (kvT D) bs2 ck2 }) 68 b = lookb ((67, .iter 1 ck2 []) :: (1, .mapx (kvT D) bs2 ck2) :: (emptyT m (.mapb (kvT D) false)).h) 68 b
      have hce : WT.cells { now := m, rows := List.replicate 65 [], mb := .mapx (kvT D) bs2 ck2 } = (emptyT m (.mapb (kvT D) false)).cells := rfl
      have q1 : (emptyT m (.mapb (kvT D) false)).rows.length = 65 := by simp [emptyT]
      have q2 : (List.replicate 65 ([] : List Tm)).length = 65 := by simp
      simp only [lookb_cons, WT.lookh, hce]
      (repeat' split) <;> first | rfl | omega
    obtain ⟨hnd, hSb⟩ := hy
    have hSl := nodup_bound _ S hnd hSb
    have hRI : RI (fun _ _ => True) ((S.map fun i => D.getD i default).foldl (layR m) (List.replicate 65 [])) ((S.map fun i => D.getD i default).reverse ++ []) := RI.lays _ ⟨by simp, by simp, fun _ _ _ _ => trivial⟩ fun _ _ => trivial
    have hwS : WT.wf { now := m, rows := (S.map fun i => D.getD i default).foldl (layR m) (List.replicate 65 []), mb := .mapx (kvT D) bs2 ck2 } := ⟨hRI.len, kvT_nm 2 D⟩
    have hmbS : ∀ n, lookb (WT.h { now := m, rows := (S.map fun i => D.getD i default).foldl (layR m) (List.replicate 65 []), mb := .mapx (kvT D) bs2 ck2 }) n 1 = .mapx (kvT D) bs2 ck2 := fun n => rfl
    have hrlS : ∀ i, i < 65 → (WT.row { now := m, rows := (S.map fun i => D.getD i default).foldl (layR m) (List.replicate 65 []), mb := .mapx (kvT D) bs2 ck2 } i).length ≤ 1000000 := fun i hi => by
      have := hRI.row_le hi
      simp only [List.append_nil, List.length_reverse, List.length_map] at this
      exact Nat.le_trans this (by omega)
    have hstep : ∀ j, layR m ((S.map fun i => D.getD i default).foldl (layR m) (List.replicate 65 [])) (D.getD j default) = ((S ++ [j]).map fun i => D.getD i default).foldl (layR m) (List.replicate 65 []) := fun j => by simp
    have hfin : (∀ i, i < D.length → i ∈ S) → WT.lept D m { now := m, rows := (S.map fun i => D.getD i default).foldl (layR m) (List.replicate 65 []), mb := .mapb (kvT D) false } := fun h => ⟨_, by
      have := (nodup_all hnd hSb h).map fun i => D.getD i default
      rwa [range_get] at this, rfl⟩
    have hHS := WT.hHi hwS
    have hnS : WT.now { now := m, rows := (S.map fun i => D.getD i default).foldl (layR m) (List.replicate 65 []), mb := .mapx (kvT D) bs2 ck2 } = m := rfl
    have hlay : ∀ x, WT.lay { now := m, rows := (S.map fun i => D.getD i default).foldl (layR m) (List.replicate 65 []), mb := .mapx (kvT D) bs2 ck2 } x = { now := m, rows := layR m ((S.map fun i => D.getD i default).foldl (layR m) (List.replicate 65 [])) x, mb := .mapx (kvT D) bs2 ck2 } := fun x => rfl
    have hend : ∀ b, lookb (WT.h { now := m, rows := (S.map fun i => D.getD i default).foldl (layR m) (List.replicate 65 []), mb := .mapb (kvT D) false }) 68 b = lookb ((1, .mapb (kvT D) false) :: WT.h { now := m, rows := (S.map fun i => D.getD i default).foldl (layR m) (List.replicate 65 []), mb := .mapx (kvT D) bs2 ck2 }) 68 b := fun b => by
      have hce : WT.cells { now := m, rows := (S.map fun i => D.getD i default).foldl (layR m) (List.replicate 65 []), mb := .mapb (kvT D) false } = WT.cells { now := m, rows := (S.map fun i => D.getD i default).foldl (layR m) (List.replicate 65 []), mb := .mapx (kvT D) bs2 ck2 } := rfl
      simp only [lookb_cons, WT.lookh, hce]
      (repeat' split) <;> first | rfl | omega
    generalize hTS : ({ now := m, rows := (S.map fun i => D.getD i default).foldl (layR m) (List.replicate 65 []), mb := .mapx (kvT D) bs2 ck2 } : WT) = TS at *
    (refine XG ?_; ((try (repeat' with_reducible refine And.intro ?_ ?_)); (try any_goals (first | refine zm ?_ | exact CL | fail))))
    refine pr_nxt (bi := 67) (b := 1) (ck := ck2) (seen := S.map fun i => bs2.getD i 0) (bs := bs2) (kvs := kvT D) rfl (by (refine XG ?_; ((try (repeat' with_reducible refine And.intro ?_ ?_)); (try any_goals (first | refine zm ?_ | exact CL | fail))))) (by (have zf1 := @hmbS; refine XG ?_; clear zf1; ((try (repeat' with_reducible refine And.intro ?_ ?_)); (try any_goals (first | refine zm ?_ | exact CL | fail))))) (fun hall => ?_) (fun i hik hni => ?_)
    · rw [kvT_len] at hall
      have hallS : ∀ i, i < D.length → i ∈ S := fun i hi => by
        obtain ⟨j, hj, e⟩ := List.mem_map.1 (hall i hi)
        rw [stamp_inj hst2 hi (hSb j hj) e.symm]; exact hj
      (refine XG ?_; ((try (repeat' with_reducible refine And.intro ?_ ?_)); (try any_goals (first | refine zm ?_ | exact CL | fail))))
      (refine xw_ifp (fun h2 => ?_) (fun h2 => ?_) <;> try exact h2.elim)
      (refine XG ?_; ((try (repeat' with_reducible refine And.intro ?_ ?_)); (try any_goals (first | refine zm ?_ | exact CL | fail))))
      refine ⟨_, hfin hallS, To.trans (To.ofX (b := 1) (kvs := kvT D) (bs := bs2) (ck := ck2) ?_) (To.trans (To.sel (t' := [(0, .tup [])]) (h' := (67, .iter 1 ck2 (S.map fun i => bs2.getD i 0)) :: WT.h { now := m, rows := (S.map fun i => D.getD i default).foldl (layR m) (List.replicate 65 []), mb := .mapb (kvT D) false }) (n' := 68) ?_ fun b => ?_) (To.wdrop (ex := [(67, .iter 1 ck2 (S.map fun i => bs2.getD i 0))]) ⟨hRI.len, kvT_nm 2 D⟩ (by simp) (by simp) (by simp [subT, nmOk, nmAll, look, ren, rens])))⟩
      · show lookb ((67, .iter 1 ck2 (S.map fun i => bs2.getD i 0)) :: TS.h) 68 1 = _
        rw [lookb_cons, if_neg (by omega), hmbS]
      · (refine XG ?_; ((try (repeat' with_reducible refine And.intro ?_ ?_)); (try any_goals (first | refine zm ?_ | exact CL | fail))))
      · have := hend b
        show lookb ((67, .iter 1 ck2 (S.map fun i => bs2.getD i 0)) :: WT.h { now := m, rows := (S.map fun i => D.getD i default).foldl (layR m) (List.replicate 65 []), mb := .mapb (kvT D) false }) 68 b = lookb ((1, .mapb (kvT D) false) :: (67, .iter 1 ck2 (S.map fun i => bs2.getD i 0)) :: TS.h) 68 b
        rw [lookb_cons, lookb_cons, lookb_cons, this, lookb_cons]
        (repeat' split) <;> first | rfl | omega
    · rw [kvT_len] at hik
      have hiS : i ∉ S := fun h => hni (List.mem_map.2 ⟨i, h, rfl⟩)
      have hget := kvT_get D i hik
      have hDi : D.getD i default ∈ D := by simp [List.getD, hik]
      have hdi := hdue _ hDi
      have hst3 := hstep i
      generalize hx : D.getD i default = x at *
      have hcall := wLay_gq c.gl TS hwS x (by rw [hnS]; exact hmle) hdi (hrlS _ (slotOf_lt _ _))
      have hnd' : (S ++ [i]).Nodup := by
        rw [List.nodup_append]
        exact ⟨hnd, by simp, fun a ha b hb e => by
          obtain rfl := List.mem_singleton.1 hb
          exact hiS (e ▸ ha)⟩
      have hSb' : ∀ j ∈ S ++ [i], j < D.length := fun j hj => by
        rcases List.mem_append.1 hj with h | h
        · exact hSb j h
        · obtain rfl := List.mem_singleton.1 h; exact hik
      have hSl' := nodup_bound _ _ hnd' hSb'
      rw [List.length_append] at hSl'
      simp only [List.length_cons, List.length_nil] at hSl'
      (have zf1 := @hget; refine XG ?_; clear zf1; ((try (repeat' with_reducible refine And.intro ?_ ?_)); (try any_goals (first | refine zm ?_ | exact CL | fail))))
      (refine xw_ifp (fun h2 => ?_) (fun h2 => ?_) <;> try exact h2.elim)
      (refine XG ?_; ((try (repeat' with_reducible refine And.intro ?_ ?_)); (try any_goals (first | refine zm ?_ | exact CL | fail))))
      refine pr_ent (bi := 67) (b := 1) (ck := ck2) (i := i) (seen := S.map fun i => bs2.getD i 0) (bs := bs2) (kvs := kvT D) rfl (by (refine XG ?_; ((try (repeat' with_reducible refine And.intro ?_ ?_)); (try any_goals (first | refine zm ?_ | exact CL | fail))))) (by (have zf1 := @hmbS; refine XG ?_; clear zf1; ((try (repeat' with_reducible refine And.intro ?_ ?_)); (try any_goals (first | refine zm ?_ | exact CL | fail))))) (by rw [kvT_len]; exact hik) ?_
      (have zf1 := @hget; refine XG ?_; clear zf1; ((try (repeat' with_reducible refine And.intro ?_ ?_)); (try any_goals (first | refine zm ?_ | exact CL | fail))))
      refine pr_wh hcall hwS (fun _ _ => WT.lay_wf hwS x) hgh (by simp [okN]) [(0, .ptr 0 0), (37, .ptr 67 0), (43, .ptr 0 0), (46, .agg [.int .i64 x.id, .int .i64 x.due])] [(67, .iter 1 ck2 ((S ++ [i]).map fun i => bs2.getD i 0))] 68 (To.sel (by (refine XG ?_; ((try (repeat' with_reducible refine And.intro ?_ ?_)); (try any_goals (first | refine zm ?_ | exact CL | fail))))) fun b => ?_) (by simp [nmPB, okN]) ?_ (by simp [nmOk, nmAll]) fun _ _ => ?_
      · show lookb ((67, .iter 1 ck2 ((S ++ [i]).map fun i => bs2.getD i 0)) :: TS.h) 68 b = lookb ((67, .iter 1 ck2 ((S.map fun i => bs2.getD i 0) ++ [bs2.getD i 0])) :: (67, .iter 1 ck2 (S.map fun i => bs2.getD i 0)) :: TS.h) 68 b
        simp only [lookb_cons, List.map_append, List.map_cons, List.map_nil]; (repeat' split) <;> rfl
      · (refine XG ?_; ((try (repeat' with_reducible refine And.intro ?_ ?_)); (try any_goals (first | refine zm ?_ | exact CL | fail))))
      · (refine XG ?_; ((try (repeat' with_reducible refine And.intro ?_ ?_)); (try any_goals (first | refine zm ?_ | exact CL | fail))))
        refine ⟨S ++ [i], ⟨hnd', hSb'⟩, ?_, ?_⟩
        · rw [hlay, hst3]
          exact To.sel (by (refine XG ?_; ((try (repeat' with_reducible refine And.intro ?_ ?_)); (try any_goals (first | refine zm ?_ | exact CL | fail))))) fun b => rfl
        · rw [List.length_append]; simp only [List.length_cons, List.length_nil]; omega
  · rw [kvT_len] at hik
    have hiS : i ∉ S := fun h => hni (List.mem_map.2 ⟨i, h, rfl⟩)
    have hget := kvT_get D i hik
    have hDi : D.getD i default ∈ D := by simp [List.getD, hik]
    have hdi := hdue _ hDi
    have hnd' : (S ++ [i]).Nodup := by
      rw [List.nodup_append]
      exact ⟨hnd, by simp, fun a ha b hb e => by
        obtain rfl := List.mem_singleton.1 hb
        exact hiS (e ▸ ha)⟩
    have hSb' : ∀ j ∈ S ++ [i], j < D.length := fun j hj => by
      rcases List.mem_append.1 hj with h | h
      · exact hSb j h
      · obtain rfl := List.mem_singleton.1 h; exact hik
    have hSl' := nodup_bound _ _ hnd' hSb'
    rw [List.length_append] at hSl'
    simp only [List.length_cons, List.length_nil] at hSl'
    (have zf1 := @hget; refine XG ?_; clear zf1; ((try (repeat' with_reducible refine And.intro ?_ ?_)); (try any_goals (first | refine zm ?_ | exact CL | fail))))
    (refine xw_ifp (fun h1 => ?_) (fun h1 => ?_) <;> try exact h1.elim)
    (refine XG ?_; ((try (repeat' with_reducible refine And.intro ?_ ?_)); (try any_goals (first | refine zm ?_ | exact CL | fail))))
    refine pr_ent (bi := 67) (b := 1) (ck := ck) (i := i) (seen := S.map fun i => bs.getD i 0) (bs := bs) (kvs := kvT D) rfl (by (refine XG ?_; ((try (repeat' with_reducible refine And.intro ?_ ?_)); (try any_goals (first | refine zm ?_ | exact CL | fail))))) (by (refine XG ?_; ((try (repeat' with_reducible refine And.intro ?_ ?_)); (try any_goals (first | refine zm ?_ | exact CL | fail))))) (by rw [kvT_len]; exact hik) ?_
    have hmin : min (m : Int) ((D.getD i default).due : Int) = ((min m (D.getD i default).due : Nat) : Int) := by omega
    (have zf1 := @hget; refine XG ?_; clear zf1; ((try (repeat' with_reducible refine And.intro ?_ ?_)); (try any_goals (first | refine zm ?_ | exact CL | fail))))
    refine ⟨(S ++ [i], min m (D.getD i default).due), ⟨hnd', hSb', by dsimp only; omega, fun j hj => ?_, ?_⟩, To.sel (by (have zf1 := @hmin; refine XG ?_; clear zf1; ((try (repeat' with_reducible refine And.intro ?_ ?_)); (try any_goals (first | refine zm ?_ | exact CL | fail))))) fun b => ?_, ?_⟩
    · dsimp only at hj ⊢
      rcases List.mem_append.1 hj with h | h
      · have := hmS j h; omega
      · obtain rfl := List.mem_singleton.1 h; omega
    · dsimp only
      by_cases h : m ≤ (D.getD i default).due
      · rw [Nat.min_eq_left h]; exact hmx
      · exact .inr ⟨_, hDi, by omega⟩
    · simp only [lookb_cons, List.map_append, List.map_cons, List.map_nil]
      (repeat' split) <;> first | rfl | omega
    · dsimp only; rw [List.length_append]; simp only [List.length_cons, List.length_nil]; omega
end Go.Proofs.Ytphaicaobepimaa
