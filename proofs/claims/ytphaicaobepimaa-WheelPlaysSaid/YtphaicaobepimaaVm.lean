/- The contracts of a wheel, the order on its rows hidden. No conditions but the ones that stand in each. -/
import Derived.Test.YtphaicaobepimaaVl
namespace Go.Proofs.Ytphaicaobepimaa
set_option linter.all false
set_option linter.unusedSimpArgs false
open Go.RowKit

theorem GQ.fam {P : Program} {gl : Nat → AV} {f : FuncId} {args : List AV} {hin : List (Nat × Bk)} {m : Nat} {p : List Nat} {r : AV} {T2 : WT} {Q : WT → Prop} (h : GQ P gl f args hin m p (fun _ : Unit => True) (fun _ => r) (fun _ => T2.h)) (hQ : Q T2) : GQ P gl f args hin m p Q (fun _ => r) WT.h :=
  ⟨h.1, fun w vs G X g hR hv => (h.2 w vs G X g hR hv).mono fun e w' ⟨_, v, g', q1, q2, q3, q4, q5⟩ => ⟨T2, v, g', hQ, q2, q3, q4, q5⟩⟩
theorem GQ.wk {P : Program} {gl : Nat → AV} {f : FuncId} {args : List AV} {hin : List (Nat × Bk)} {m : Nat} {p : List Nat} {ι : Type} {Q : ι → Prop} {r r' : ι → AV} {hout : ι → List (Nat × Bk)} (h : GQ P gl f args hin m p Q r hout) (hr : ∀ x, Wk (r x) (r' x)) : GQ P gl f args hin m p Q r' hout :=
  ⟨h.1, fun w vs G X g hR hv => (h.2 w vs G X g hR hv).mono fun e w' ⟨x, v, g', q1, q2, q3, q4, q5⟩ => ⟨x, v, g', q1, q2, q3, q4, hr x _ _ _ _ q5⟩⟩
/-- What holds of a wheel between calls. -/
structure WI (T : WT) (n : Nat) (D : List Tm) : Prop where
  now : T.now = n
  mb : ∃ dn, T.mb = .mapb (kvT D) dn
  wg : WG n T.rows D
  cap : D.length ≤ 400
  hi : n ≤ 1099511627776
theorem WI.wf {T : WT} {n : Nat} {D : List Tm} (h : WI T n D) : T.wf := by
  obtain ⟨dn, e⟩ := h.mb
  exact kvT_mapb h.wg.ri.len e
theorem WI.sim {T T' : WT} {n : Nat} {D : List Tm} (h : WI T n D) (hs : T'.sim T) : WI T' n D :=
  ⟨hs.now.trans h.now, by obtain ⟨dn, e⟩ := h.mb; exact ⟨dn, hs.mb.trans e⟩, ⟨h.wg.ri.sim ⟨hs.len, hs.row⟩, h.wg.lo, h.wg.hi, h.wg.dis, h.wg.len⟩, h.cap, h.hi⟩
theorem WI.row_le {T : WT} {n : Nat} {D : List Tm} (h : WI T n D) (i : Nat) : (T.row i).length ≤ 1000000 := by
  have hl := h.wg.ri.len
  by_cases hi : i < 65
  · exact Nat.le_trans (h.wg.ri.row_le hi) (by have := h.wg.len; omega)
  · have : T.row i = [] := by unfold WT.row; simp [List.getD, hl, show 65 ≤ i by omega]
    rw [this]; simp
theorem WI.now_gd {T : WT} {n : Nat} {D : List Tm} (h : WI T n D) (gl : Nat → AV) : GD Try.prog gl 38 [.ptr 0 0] T.hb 67 (List.range 67) (.int .i64 n) T.hb :=
  gd_bag fun T' hs => by
    have := wNow_gq gl T' (h.sim hs).wf
    rw [(h.sim hs).now] at this
    exact this.fam hs
theorem WI.many_gd {T : WT} {n : Nat} {D : List Tm} (h : WI T n D) (gl : Nat → AV) : GD Try.prog gl 37 [.ptr 0 0] T.hb 67 (List.range 67) (.int .i64 D.length) T.hb :=
  gd_bag fun T' hs => by
    obtain ⟨dn, e⟩ := (h.sim hs).mb
    exact (wMany_gq gl T' D dn (h.sim hs).wg.ri.len e).fam hs
theorem WI.due_gd {T : WT} {n : Nat} {D : List Tm} (h : WI T n D) (gl : Nat → AV) (x : Int) : GD Try.prog gl 39 [.ptr 0 0, .int .i64 x] T.hb 67 (List.range 67) (.tup [.int .i64 (dueT D x), .bool (hasT D x)]) T.hb :=
  gd_bag fun T' hs => by
    obtain ⟨dn, e⟩ := (h.sim hs).mb
    exact (wDue_gq gl T' D dn (h.sim hs).wg.ri.len e x).fam hs
theorem rsim_map {r' r : List (List Tm)} (h : rsim r' r) (x : Int) : rsim (r'.map (offT x)) (r.map (offT x)) := by
  refine ⟨by simp [h.1], fun i => ?_⟩
  have e : ∀ l : List (List Tm), (l.map (offT x)).getD i [] = offT x (l.getD i []) := fun l => by
    simp only [List.getD, List.getElem?_map]
    cases l[i]? <;> rfl
  rw [e, e]
  exact (h.2 i).filter _
theorem offT_len (x : Int) (D : List Tm) : (offT x D).length ≤ D.length := List.length_filter_le _ _
theorem WI.cancel_gd {T : WT} {n : Nat} {D : List Tm} (h : WI T n D) (gl : Nat → AV) (x : Int) : ∃ T', WI T' n (offT x D) ∧ GD Try.prog gl 40 [.ptr 0 0, .int .i64 x] T.hb 67 [0, 1] (.int .i64 (cnlE D x)) T'.hb := by
  obtain ⟨dn, e⟩ := h.mb
  refine ⟨T.cnl D dn x, ⟨h.now, ⟨_, rfl⟩, ⟨h.wg.ri.filter _, fun t ht => h.wg.lo t (offT_sub.subset ht), fun t ht => h.wg.hi t (offT_sub.subset ht), h.wg.dis.sublist offT_sub, Nat.le_trans (offT_len x D) h.wg.len⟩, Nat.le_trans (offT_len x D) h.cap, h.hi⟩, gd_bag fun T' hs => ?_⟩
  have h' := h.sim hs
  refine (wCancel_any gl T' D dn h'.wg.ri.len (hs.mb.trans e) h'.wg.dis h'.wg.ri.perm h'.row_le x).fam ?_
  have := rsim_map (r' := T'.rows) (r := T.rows) ⟨hs.len, hs.row⟩ x
  exact ⟨hs.now, rfl, this.1, this.2⟩
/-- What Arm says and leaves. -/
def armR (n : Nat) (D : List Tm) (x d : Int) : Int × List Tm := if d < 0 ∨ 1099511627776 < d then (2, D) else if hasT D x = false ∧ 400 ≤ D.length then (6, D) else (0, armD D x (max d.toNat n))
theorem armD_perm (D : List Tm) (x : Int) (d : Nat) : ((⟨x, d⟩ : Tm) :: offT x D).Perm (armD D x d) := (List.perm_append_singleton _ _).symm
theorem WI.arm_gd {T : WT} {n : Nat} {D : List Tm} (h : WI T n D) (gl : Nat → AV) (x d : Int) : ∃ T', WI T' n (armR n D x d).2 ∧ GD Try.prog gl 35 [.ptr 0 0, .int .i64 x, .int .i64 d] T.hb 67 [0, 1] (.int .i64 (armR n D x d).1) T'.hb := by
  unfold armR
  by_cases h1 : d < 0 ∨ 1099511627776 < d
  · rw [if_pos h1]
    exact ⟨T, h, gd_bag fun T' hs => (wArm_range gl T' (h.sim hs).wf x d h1).fam hs⟩
  rw [if_neg h1]
  obtain ⟨dn, e⟩ := h.mb
  obtain ⟨k, rfl⟩ : ∃ k : Nat, d = k := ⟨d.toNat, by omega⟩
  by_cases h2 : hasT D x = false ∧ 400 ≤ D.length
  · rw [if_pos h2]
    exact ⟨T, h, gd_bag fun T' hs => (wArm_full gl T' D dn (h.sim hs).wg.ri.len (hs.mb.trans e) x k (by omega) (by omega) h2.1 h2.2).fam hs⟩
  rw [if_neg h2]
  rw [show (k : Int).toNat = k by omega]
  have hfull : hasT D x = true ∨ D.length < 400 := by
    cases hx : hasT D x with
    | true => exact .inl rfl
    | false => exact .inr (by simp [hx] at h2; omega)
  have hsub := h.wg.ri.filter fun t => !(t.id == x)
  have hlay : RI (Pl n) (layR T.now (T.rows.map (offT x)) ⟨x, max k n⟩) (armD D x (max k n)) := by
    rw [h.now]
    exact (RI.lay (now := n) (t := ⟨x, max k n⟩) hsub (slotOf_pl (by show n ≤ max k n; omega))).of_perm (armD_perm D x _)
  have hmem : ∀ t ∈ armD D x (max k n), t ∈ offT x D ∨ t = ⟨x, max k n⟩ := fun t ht => by
    rcases List.mem_append.1 ht with h | h
    · exact .inl h
    · exact .inr (List.mem_singleton.1 h)
  have hlen : (armD D x (max k n)).length ≤ 400 := by
    unfold armD
    rw [List.length_append]
    have h3 := offT_len x D
    have h4 := h.cap
    simp only [List.length_cons, List.length_nil]
    rcases hfull with h5 | h5
    · have : (offT x D).length < D.length := by
        unfold hasT at h5
        rw [List.any_eq_true] at h5
        obtain ⟨t, ht, hx⟩ := h5
        unfold offT
        rw [List.length_filter_lt_length_iff_exists]
        exact ⟨t, ht, by simp [hx]⟩
      omega
    · omega
  refine ⟨T.arm D x (max k n), ⟨h.now, ⟨_, rfl⟩, ⟨hlay, fun t ht => ?_, fun t ht => ?_, ?_, by dsimp only; omega⟩, hlen, h.hi⟩, gd_bag fun T' hs => ?_⟩
  · rcases hmem t ht with ht | rfl
    · exact h.wg.lo t (offT_sub.subset ht)
    · show n ≤ max k n; omega
  · rcases hmem t ht with ht | rfl
    · exact h.wg.hi t (offT_sub.subset ht)
    · show max k n ≤ 1099511627776; have := h.hi; omega
  · unfold armD
    rw [List.pairwise_append]
    refine ⟨h.wg.dis.sublist offT_sub, by simp, fun a ha b hb => ?_⟩
    obtain rfl := List.mem_singleton.1 hb
    exact offT_ne a ha
  · have h' := h.sim hs
    have hn' : T'.now = n := h'.now
    have := wArm_gq gl T' D dn h'.wg.ri.len (hs.mb.trans e) h'.wg.dis h'.wg.ri.perm h'.wg.len (by rw [hn']; exact h.hi) x k (by omega) hfull
    rw [hn'] at this
    refine this.fam ?_
    have hr := (rsim_map (r' := T'.rows) (r := T.rows) ⟨hs.len, hs.row⟩ x).lay T.now ⟨x, max k n⟩
    refine ⟨hs.now, rfl, ?_, ?_⟩
    · have := hr.1
      unfold WT.arm; rw [hs.now]; exact this
    · have := hr.2
      unfold WT.arm; rw [hs.now]; exact this
/-- What Advance tells and leaves: code, numbers, time, timers. -/
def advR (n : Nat) (D : List Tm) (to : Int) : Int × List Int × Nat × List Tm := if to < n ∨ 1099511627776 < to then (2, [], n, D) else (0, outT D (to.toNat + 1), to.toNat, D.filter fun t => decide (to.toNat < t.due))
theorem WI.adv_gd {T : WT} {n : Nat} {D : List Tm} (h : WI T n D) (gl : Nat → AV) (to : Int) : ∃ T', WI T' (advR n D to).2.2.1 (advR n D to).2.2.2 ∧ GD Try.prog gl 36 [.ptr 0 0, .int .i64 to] T.hb 67 [0, 1] (.tup [.isl (advR n D to).2.1.length (ints (advR n D to).2.1), .int .i64 (advR n D to).1]) T'.hb := by
  unfold advR
  by_cases h1 : to < n ∨ 1099511627776 < to
  · rw [if_pos h1]
    exact ⟨T, h, gd_bag fun T' hs => ((wAdv_range gl T' (h.sim hs).wf to (by rw [(h.sim hs).now]; exact h1)).wk (r' := fun _ => .tup [.isl 0 (ints []), .int .i64 2]) fun _ => Wk.tup2 Wk.nils (Wk.refl _)).fam hs⟩
  rw [if_neg h1]
  obtain ⟨dn, e⟩ := h.mb
  obtain ⟨k, rfl⟩ : ∃ k : Nat, to = k := ⟨to.toNat, by omega⟩
  rw [show (k : Int).toNat = k by omega]
  have hD := advF_D D (k - n + 1) n T.rows D k (by omega) (by omega) h.wg (List.filter_eq_self.2 fun t ht => by simpa using h.wg.lo t ht).symm
  have hsub : (D.filter fun t => decide (k < t.due)).Sublist D := List.filter_sublist
  refine ⟨{ now := k, rows := (advF (k - n + 1) n T.rows D k).1, mb := .mapb (kvT (advF (k - n + 1) n T.rows D k).2) false }, ⟨rfl, ⟨false, by rw [hD.1]⟩, ⟨?_, fun t ht => ?_, fun t ht => h.wg.hi t (hsub.subset ht), h.wg.dis.sublist hsub, Nat.le_trans hsub.length_le h.wg.len⟩, Nat.le_trans hsub.length_le h.cap, by dsimp only; omega⟩, gd_bag fun T' hs => ?_⟩
  · have := hD.2
    rw [hD.1] at this ⊢; exact this
  · have := (List.mem_filter.1 ht).2
    simp at this; show k ≤ t.due; omega
  · have h' := h.sim hs
    have hn' : T'.now = n := h'.now
    have hw0 : WG T'.now T.rows D := by rw [hn']; exact h.wg
    have := wAdv_gq gl T' T.rows D dn ⟨hs.len, hs.row⟩ (hs.mb.trans e) hw0 k (by omega) (by omega)
    rw [hn'] at this
    exact this
/-! ### New -/
theorem GS.to0 {P : Program} {gl : Nat → AV} {f : FuncId} {args : List AV} {n n' : Nat} {r r' : AV} {hout hout' : List (Nat × Bk)} (h : GS P gl f args [] 0 r hout n) (hto : To [] ⟨[(0, r)], hout, n⟩ ⟨[(0, r')], hout', n'⟩) : GS P gl f args [] 0 r' hout' n' := by
  refine ⟨h.1, fun w vs G X g hR hv => (h.2 w vs G X g hR hv).mono ?_⟩
  rintro e w' ⟨v, g', q1, q2, q3, q4⟩
  have hR1 : R ⟨1, w, G, X, gl, []⟩ g' (⟨[(0, r)], hout, n⟩ : St).fs ⟨#[v], []⟩ w' := by
    refine ⟨rfl, rfl, fun i => ?_, q2.gl, q2.h, q2.inj, q2.old, q2.fr, q2.xs, q2.pin⟩
    show VR g' _ w' (look [(0, r)] i) _
    rw [look_cons]
    split
    · rename_i hi; subst hi; exact q4
    · exact .any _
  obtain ⟨g2, hR2⟩ := hto _ g' _ w' (fun q hq => by cases hq) hR1
  exact ⟨v, g2, q1, ⟨rfl, rfl, fun i => .any _, hR2.gl, hR2.h, hR2.inj, hR2.old, hR2.fr, hR2.xs, fun q hq => by cases hq⟩, fun b hb => by omega, hR2.t 0⟩
theorem To.bag {p : List Nat} {t : List (Nat × AV)} {ex : List (Nat × Bk)} {T : WT} {n : Nat} (hex : ∀ q ∈ ex, 67 ≤ q.1) (hT : T.wf) : To p ⟨t, ex ++ T.h, n⟩ ⟨t, ex ++ T.hb, n⟩ := fun c g a w _ hR => by
  have hl := hT.len
  have key : ∀ b, (lookb (ex ++ T.hb) n b = lookb (ex ++ T.h) n b) ∨ ∃ l, lookb (ex ++ T.h) n b = .cells (tms l) ∧ lookb (ex ++ T.hb) n b = .bag (tmB l) := fun b => by
    by_cases hb : b < 67
    · rw [lookb_exS fun q hq e => by have := hex q hq; omega, lookb_exS fun q hq e => by have := hex q hq; omega, WT.lookh, WT.lookhb]
      by_cases h0 : 0 = b
      · rw [if_pos h0, if_pos h0]; exact .inl rfl
      by_cases h1 : 1 = b
      · rw [if_neg h0, if_neg h0, if_pos h1, if_pos h1]; exact .inl rfl
      rw [if_neg h0, if_neg h0, if_neg h1, if_neg h1, if_pos (by omega), if_pos (by omega)]
      exact .inr ⟨_, rfl, rfl⟩
    · exact .inl (lookb_exO (by rw [WT.lookh, WT.lookhb, if_neg (by omega), if_neg (by omega), if_neg (by omega), if_neg (show ¬ 0 = b by omega), if_neg (show ¬ 1 = b by omega), if_neg (show ¬ (2 ≤ b ∧ b < 2 + T.rows.length) by omega)]))
  refine ⟨g, hR.resay (fun i v hv => hv) (fun b hb => ?_) fun b => ?_⟩
  · show BR _ _ _ _ (lookb (ex ++ T.hb) n b)
    have e : (⟨t, ex ++ T.h, n⟩ : St).fs.H b = lookb (ex ++ T.h) n b := rfl
    rw [e] at hb
    rcases key b with h | ⟨l, h1, h2⟩
    · rw [h]; exact hb
    · rw [h1] at hb; rw [h2]; exact tms_bag hb (List.Perm.refl _)
  · show (lookb (ex ++ T.hb) n b).live ↔ (lookb (ex ++ T.h) n b).live
    rcases key b with h | ⟨l, h1, h2⟩
    · rw [h]
    · rw [h1, h2]; exact ⟨fun _ => trivial, fun _ => trivial⟩
theorem emptyT_wf (m : Nat) (mb : Bk) (h : nmB 2 mb) : (emptyT m mb).wf := ⟨by simp [emptyT], h⟩
theorem emptyT_WI (n : Nat) (hn : n ≤ 1099511627776) : WI (emptyT n (.mapb [] true)) n [] :=
  ⟨rfl, ⟨true, rfl⟩, ⟨RI.anew (D := []) (l := []) (List.Perm.refl _) (by simp), by simp, by simp, by simp, by simp⟩, by simp, hn⟩
theorem wNewW_gs (gl : Nat → AV) (n : Nat) (hn : n ≤ 1099511627776) : GS Try.prog gl 33 [.int .i64 n] [] 0 (.tup [.ptr 0 0, .int .i64 0]) (emptyT n (.mapb [] true)).hb 67 := by
  have h0 : GS Try.prog gl 33 [.int .i64 n] [] 0 (.tup [.ptr 0 0, .int .i64 0]) [(0, .cells (nilC n)), (1, .mapb [] true)] 2 := wNew_gs gl n (by omega) (by omega)
  refine h0.to0 (To.trans (To.nils (m := n) (mb := .mapb [] true) (t' := [(0, .tup [.ptr 0 0, .int .i64 0])]) rfl (fun j => ?_) (Nat.le_refl 2) rfl (fun q hq => by cases hq) (by simp) ?_) (To.bag (ex := []) (by simp) (emptyT_wf n (.mapb [] true) fun q hq => by cases hq)))
  · show lookb [(0, _), (1, _)] (2 + j) (2 + j) = .free
    rw [lookb_cons, if_neg (by omega), lookb_cons, if_neg (by omega), lookb_nil, if_neg (by omega)]
  · simp [subT, nmOk, nmAll, look, ren, rens, rhoN]
end Go.Proofs.Ytphaicaobepimaa
