/- What is known, said otherwise: rows that are nil under a name, rows that nobody writes any more, a capacity forgotten. No conditions but the ones that stand in each. -/
import Derived.Test.YtphaicaobepimaaEc
namespace Go.Proofs.Ytphaicaobepimaa
set_option linter.all false
set_option linter.unusedSimpArgs false
open Go.RowKit

section
variable {P : Program} {c : Cx} {g : Nat → GM} {a : Act} {w : World}
theorem R.resay {s s' : FS} (hR : R c g s a w) (hT : ∀ i v, VR g (wset c g s) w (s.T i) v → VR g (wset c g s) w (s'.T i) v) (hB : ∀ b, BR g (wset c g s) w (g b) (s.H b) → BR g (wset c g s) w (g b) (s'.H b)) (hl : ∀ b, (s'.H b).live ↔ (s.H b).live) : R c g s' a w := by
  have hW : wset c g s' = wset c g s := by funext i; simp only [wset, hl]
  refine ⟨hR.size, hR.def_, fun i => ?_, fun i => ?_, fun b => ?_, fun x y k hx hy => hR.inj x y k ((hl x).1 hx) ((hl y).1 hy), fun x k hx => hR.old x k ((hl x).1 hx), hR.fr, hR.xs, hR.pin⟩
  · rw [hW]; exact hT i _ (hR.t i)
  · rw [hW]; exact hR.gl i
  · rw [hW]; exact hB b (hR.h b)
/-- A name without any memory. -/
theorem R.addPh {s : FS} {n : Nat} (hR : R c g s a w) (hf : s.H n = .free) : R c (updG g n .ph) (s.putB n (.cells [])) a w := by
  have hun : g n = .un := by
    have := hR.h n
    rw [hf] at this
    generalize g n = m at this
    cases this; rfl
  have hne : ∀ {b k}, updG g n .ph b = .re k → b ≠ n ∧ g b = .re k := fun {b k} h => by
    unfold updG at h
    split at h
    · cases h
    · rename_i hb; exact ⟨hb, h⟩
  have hg : ∀ b, g b ≠ .un → updG g n .ph b = g b := updG_other hun
  have hH : ∀ b, b ≠ n → (s.putB n (.cells [])).H b = s.H b := fun b hb => by rw [FS.H_putB, if_neg fun e => hb e.symm]
  have hW : ∀ k, wset c (updG g n .ph) (s.putB n (.cells [])) k → wset c g s k := by
    rintro k (h | ⟨b, h1, h2⟩)
    · exact .inl h
    · obtain ⟨hb, h3⟩ := hne h2
      rw [hH b hb] at h1
      exact .inr ⟨b, h1, h3⟩
  have mono : ∀ {v u}, VR g (wset c g s) w v u → VR (updG g n .ph) (wset c (updG g n .ph) (s.putB n (.cells []))) w v u := fun h => h.mono (Fr.refl _ _) (fun k _ => hW k) hg
  refine ⟨hR.size, hR.def_, fun j => mono (hR.t j), fun j => (hR.gl j).mono (Fr.refl _ _) (fun k _ => hW k) (fun _ _ => rfl), fun b => ?_, fun b b' k h1 h2 e1 e2 => ?_, fun b k h1 e1 => ?_, hR.fr, hR.xs, pin_upd hR hun⟩
  · by_cases hb : b = n
    · subst hb
      rw [FS.H_putB, if_pos rfl]
      unfold updG; rw [if_pos rfl]; exact .ph
    · rw [hH b hb]
      have : updG g n .ph b = g b := by unfold updG; rw [if_neg hb]
      rw [this]
      exact (hR.h b).mono (Fr.refl _ _) (fun k _ => hW k) hg (fun _ _ _ => rfl)
  · obtain ⟨b1, g1⟩ := hne e1
    obtain ⟨b2, g2⟩ := hne e2
    rw [hH b b1] at h1
    rw [hH b' b2] at h2
    exact hR.inj b b' k h1 h2 g1 g2
  · obtain ⟨b1, g1⟩ := hne e1
    rw [hH b b1] at h1
    exact hR.old b k h1 g1
theorem BR.cells_say {W : Nat → Prop} {m : GM} {cs cs' : List AV} (h : BR g W w m (.cells cs)) (hl : cs'.length = cs.length) (hv : ∀ j v, j < cs.length → VR g W w (cs.getD j .any) v → VR g W w (cs'.getD j .any) v) : BR g W w m (.cells cs') := by
  cases h with
  | ph =>
    obtain rfl : cs' = [] := List.eq_nil_of_length_eq_zero hl
    exact .ph
  | cells hb h1 h2 h3 h4 => exact .cells hb (by omega) (fun j hj => h2 j (by omega)) (fun j hj => hv j _ (by omega) (h3 j (by omega))) h4
theorem BR.cells_cut {W : Nat → Prop} {m : GM} {cs : List AV} (h : BR g W w m (.cells cs)) (n : Nat) : BR g W w m (.cells (cs.take n)) := by
  cases h with
  | ph => rw [List.take_nil]; exact .ph
  | cells hb h1 h2 h3 h4 =>
    refine .cells hb (by rw [List.length_take]; omega) (fun j hj => h2 j (by rw [List.length_take] at hj; omega)) (fun j hj => ?_) h4
    rw [List.length_take] at hj
    have : (cs.take n).getD j .any = cs.getD j .any := by simp only [List.getD, List.getElem?_take]; rw [if_pos (by omega)]
    rw [this]; exact h3 j (by omega)
end
/-- A cell that is a nil row becomes a row with a name. -/
theorem To.nilB {p : List Nat} {s : St} {b j es : Nat} {cs : List AV} (hb : lookb s.h s.n b = .cells cs) (hj : cs[j]? = some .nils) (hf : s.fs.H s.n = .free) :
    To p s ⟨s.t, (b, .cells (cs.set j (.sl es s.n 0 0 0))) :: (s.n, .cells []) :: s.h, s.n + 1⟩ := fun c g a w _ hR => by
  have hbn : b ≠ s.n := fun e => by
    have : s.fs.H b = .cells cs := hb
    rw [e, hf] at this; cases this
  refine ⟨updG g s.n .ph, ?_⟩
  have h1 := hR.addPh hf
  have hH : ∀ i, (⟨s.t, (b, .cells (cs.set j (.sl es s.n 0 0 0))) :: (s.n, .cells []) :: s.h, s.n + 1⟩ : St).fs.H i = if b = i then .cells (cs.set j (.sl es s.n 0 0 0)) else (s.fs.putB s.n (.cells [])).H i := fun i => by
    show lookb ((b, _) :: (s.n, _) :: s.h) (s.n + 1) i = _
    rw [lookb_cons, FS.H_putB, lookb_cons]
    split
    · rfl
    · split
      · rfl
      · rename_i h; exact lookb_up _ _ _ fun e => h e.symm
  have hb2 : (s.fs.putB s.n (.cells [])).H b = .cells cs := by rw [FS.H_putB, if_neg fun e => hbn e.symm]; exact hb
  refine h1.resay (fun i v h => h) (fun i h => ?_) fun i => ?_
  · rw [hH]
    split
    · rename_i e; subst e
      rw [hb2] at h
      refine h.cells_say (by simp) fun k v hk hv => ?_
      by_cases hkj : j = k
      · subst hkj
        have e1 : cs.getD j .any = .nils := by simp [List.getD, hj]
        have e2 : (cs.set j (.sl es s.n 0 0 0)).getD j .any = .sl es s.n 0 0 0 := by simp [List.getD, List.getElem?_set, hk]
        rw [e1] at hv; rw [e2]
        cases hv
        exact .slp (by unfold updG; rw [if_pos rfl]) rfl
      · have : (cs.set j (.sl es s.n 0 0 0)).getD k .any = cs.getD k .any := by simp [List.getD, List.getElem?_set, hkj]
        rw [this]; exact hv
    · exact h
  · rw [hH]
    split
    · rename_i e; subst e; rw [hb2]; exact Iff.rfl
    · exact Iff.rfl
/-- One value is said otherwise, wherever it stands. -/
def Wk (x y : AV) : Prop := ∀ (g : Nat → GM) (W : Nat → Prop) (w : World) (v : Value), VR g W w x v → VR g W w y v
theorem Wk.refl (x : AV) : Wk x x := fun _ _ _ _ h => h
theorem Wk.nils : Wk .nils (.isl 0 []) := fun g W w v h => by
  cases h
  exact .isl (us := fun _ => undef) (Nat.le_refl 0) (by simp [maxLen]) (fun j hj => by simp at hj) fun j hj => by simp at hj
theorem Wk.cap (es b off n c : Nat) : Wk (.sl es b off n c) (.sl es b off n n) := fun g W w v h => by
  cases h with
  | sl hg hn hc hm hb hs => exact .sl hg (Nat.le_refl _) (by omega) hm hb hs
  | slp hg hc => exact .slp hg rfl
theorem Wk.tup2 {x x' y y' : AV} (h : Wk x x') (k : Wk y y') : Wk (.tup [x, y]) (.tup [x', y']) := fun g W w v hv => by
  obtain ⟨us, rfl, h1, h2⟩ := tup_inv hv
  refine .tup (by simpa using h1) fun j hj => ?_
  have h3 := h2 j (by simpa using hj)
  have hj : j < 2 := by simpa using hj
  obtain rfl | rfl : j = 0 ∨ j = 1 := by omega
  · exact h g W w _ (by simpa [List.getD] using h3)
  · exact k g W w _ (by simpa [List.getD] using h3)
theorem To.wkT {p : List Nat} {s : St} (i : Nat) {y : AV} (h : Wk (look s.t i) y) : To p s ⟨(i, y) :: s.t, s.h, s.n⟩ := fun c g a w _ hR => by
  refine ⟨g, hR.resay (fun k v hv => ?_) (fun _ h => h) fun _ => Iff.rfl⟩
  show VR _ _ _ (look ((i, y) :: s.t) k) v
  rw [look_cons]
  split
  · rename_i e; subst e; exact h _ _ _ _ hv
  · exact hv
theorem To.wkB {p : List Nat} {s : St} {b : Nat} {cs cs' : List AV} (hb : lookb s.h s.n b = .cells cs) (hl : cs'.length = cs.length) (hv : ∀ j, j < cs.length → Wk (cs.getD j .any) (cs'.getD j .any)) : To p s ⟨s.t, (b, .cells cs') :: s.h, s.n⟩ := fun c g a w _ hR => by
  have hH : ∀ i, (⟨s.t, (b, .cells cs') :: s.h, s.n⟩ : St).fs.H i = if b = i then .cells cs' else s.fs.H i := fun i => by
    show lookb ((b, _) :: s.h) s.n i = _
    rw [lookb_cons]; rfl
  refine ⟨g, hR.resay (fun k v hv => hv) (fun i h => ?_) fun i => ?_⟩
  · rw [hH]; split
    · rename_i e; subst e
      rw [show s.fs.H b = .cells cs from hb] at h
      exact h.cells_say hl fun j v hj => hv j hj _ _ _ _
    · exact h
  · rw [hH]; split
    · rename_i e; subst e; rw [show s.fs.H b = .cells cs from hb]; exact Iff.rfl
    · exact Iff.rfl
/-- A block is known in part. -/
theorem To.cut {p : List Nat} {s : St} {b : Nat} {cs : List AV} (hb : lookb s.h s.n b = .cells cs) (n : Nat) : To p s ⟨s.t, (b, .cells (cs.take n)) :: s.h, s.n⟩ := fun c g a w _ hR => by
  have hH : ∀ i, (⟨s.t, (b, .cells (cs.take n)) :: s.h, s.n⟩ : St).fs.H i = if b = i then .cells (cs.take n) else s.fs.H i := fun i => by
    show lookb ((b, _) :: s.h) s.n i = _
    rw [lookb_cons]; rfl
  refine ⟨g, hR.resay (fun k v hv => hv) (fun i h => ?_) fun i => ?_⟩
  · rw [hH]; split
    · rename_i e; subst e
      rw [show s.fs.H b = .cells cs from hb] at h
      exact h.cells_cut n
    · exact h
  · rw [hH]; split
    · rename_i e; subst e; rw [show s.fs.H b = .cells cs from hb]; exact Iff.rfl
    · exact Iff.rfl
/-- A row that is given up and only read from then on. -/
theorem VR.froze {c : Cx} {g : Nat → GM} {s : FS} {a : Act} {w : World} (hR : R c g s a w) {es b off n k : Nat} {cs : List AV} (hb : s.H b = .cells cs) {u : Value} (h : VR g (wset c g s) w (.sl es b off n k) u) :
    VR g (wset c g (s.putB b .dead)) w (.isl n ((cs.drop off).take (n * es))) u := by
  have hbr := hR.h b
  rw [hb] at hbr
  rcases sl_inv h with ⟨kk, cap, e, cur, fz, rfl, hg, h1, h2, h3, h4, h5⟩ | ⟨ad0, rfl, hg, rfl, rfl⟩
  · rw [hg] at hbr
    have hx : ¬ wset c g (s.putB b .dead) kk := by
      rintro (hx | ⟨b', h6, h7⟩)
      · exact wset_X hR (by rw [hb]; trivial) hg hx
      · rw [FS.H_putB] at h6
        split at h6
        · exact h6.elim
        · rename_i hne
          exact hne (hR.inj b b' kk (by rw [hb]; trivial) h6 hg h7)
    cases hbr with
    | cells hb2 hl h11 hv hz =>
      rename_i cur2 e2 fz2
      rw [h4] at hb2; cases hb2
      have hlen : ∀ j, j < ((cs.drop off).take (n * es)).length → off + j < cs.length ∧ j < n * es := fun j hj => by simp at hj; omega
      refine .isl (us := fun j => cur.getD (off + j) undef) (by omega) h3 (fun j hj => ?_) fun j hj => ?_
      · obtain ⟨hj1, hj2⟩ := hlen j hj
        refine ⟨kk, off, rfl, ?_, hx, h11 _ hj1⟩
        have := cell_of_row w kk (off + j) cur e fz h4
        unfold cellOf
        rw [this]
        have : off + j < cur.size := by omega
        simp [Array.getD, this]
      · obtain ⟨hj1, hj2⟩ := hlen j hj
        have ee : ((cs.drop off).take (n * es)).getD j .any = cs.getD (off + j) .any := by simp only [List.getD, List.getElem?_take, List.getElem?_drop, if_pos hj2]
        rw [ee]
        exact (hv _ hj1).mono (Fr.refl _ _) (fun k _ => wset_putB_dead k) (fun _ _ => rfl)
  · refine .isl (us := fun _ => undef) (Nat.le_refl 0) (by simp [maxLen]) (fun j hj => ?_) fun j hj => ?_
    · simp at hj
    · simp at hj
theorem VR.dead {c : Cx} {g : Nat → GM} {s : FS} {w : World} {b : Nat} {x : AV} {u : Value} (h : VR g (wset c g s) w x u) : VR g (wset c g (s.putB b .dead)) w x u := h.mono (Fr.refl _ _) (fun k _ => wset_putB_dead k) (fun _ _ => rfl)
theorem To.killT {p : List Nat} {s : St} {b i : Nat} {v' : AV} (hl : (s.fs.H b).live) (hv : ∀ (c : Cx) (g : Nat → GM) (a : Act) (w : World), R c g s.fs a w → ∀ u, VR g (wset c g s.fs) w (look s.t i) u → VR g (wset c g (s.fs.putB b .dead)) w v' u) :
    To p s ⟨(i, v') :: s.t, (b, .dead) :: s.h, s.n⟩ := fun c g a w _ hR => by
  have hb : g b ≠ .un := fun e => by
    have := hR.h b
    rw [e] at this
    exact this.ne_un hl
  have hk := hR.kill hb
  have e : (⟨(i, v') :: s.t, (b, .dead) :: s.h, s.n⟩ : St).fs = (s.fs.putB b .dead).put i v' := by
    rw [← St.fs_putB, ← St.fs_put]; rfl
  refine ⟨g, ?_⟩
  rw [e]
  refine ⟨hk.size, hk.def_, fun j => ?_, hk.gl, hk.h, hk.inj, hk.old, hk.fr, hk.xs, hk.pin⟩
  show VR g _ w (if i = j then v' else s.fs.T j) _
  split
  · rename_i e; subst e; exact hv c g a w hR _ (hR.t i)
  · exact hk.t j
theorem To.frz {p : List Nat} {s : St} {b i es off n k : Nat} {cs : List AV} (hb : lookb s.h s.n b = .cells cs) (hi : look s.t i = .sl es b off n k) : To p s ⟨(i, .isl n ((cs.drop off).take (n * es))) :: s.t, (b, .dead) :: s.h, s.n⟩ :=
  To.killT (by rw [show s.fs.H b = .cells cs from hb]; trivial) fun c g a w hR u hu => by
    rw [hi] at hu
    exact VR.froze hR hb hu
theorem To.frz2 {p : List Nat} {s : St} {b i es off n k : Nat} {cs : List AV} {y : AV} (hb : lookb s.h s.n b = .cells cs) (hi : look s.t i = .tup [.sl es b off n k, y]) : To p s ⟨(i, .tup [.isl n ((cs.drop off).take (n * es)), y]) :: s.t, (b, .dead) :: s.h, s.n⟩ :=
  To.killT (by rw [show s.fs.H b = .cells cs from hb]; trivial) fun c g a w hR u hu => by
    rw [hi] at hu
    obtain ⟨us, rfl, h1, h2⟩ := tup_inv hu
    refine .tup (by simpa using h1) fun j hj => ?_
    have h3 := h2 j (by simpa using hj)
    have hj : j < 2 := by simpa using hj
    obtain rfl | rfl : j = 0 ∨ j = 1 := by omega
    · exact VR.froze hR hb (by simpa [List.getD] using h3)
    · exact VR.dead (by simpa [List.getD] using h3)
def selT (t : List (Nat × AV)) : List (Nat × AV) → Prop
  | [] => True
  | q :: r => look t q.1 = q.2 ∧ selT t r
theorem selT_look {t : List (Nat × AV)} : ∀ {t' : List (Nat × AV)}, selT t t' → ∀ i, look t' i = .any ∨ look t' i = look t i
  | [], _, _ => .inl rfl
  | (j, v) :: r, h, i => by
    rw [look_cons]
    split
    · rename_i e; subst e; exact .inr h.1.symm
    · exact selT_look h.2 i
/-- Fewer slots, the blocks told otherwise. -/
theorem To.sel {p : List Nat} {t t' : List (Nat × AV)} {h h' : List (Nat × Bk)} {n n' : Nat} (hs : selT t t') (hh : ∀ b, lookb h' n' b = lookb h n b) : To p ⟨t, h, n⟩ ⟨t', h', n'⟩ := fun c g a w _ hR => by
  refine ⟨g, hR.resay (fun i v hv => ?_) (fun b hb => ?_) fun b => ?_⟩
  · show VR _ _ _ (look t' i) v
    rcases selT_look hs i with e | e
    · rw [e]; exact .any _
    · rw [e]; exact hv
  · show BR _ _ _ _ (lookb h' n' b)
    rw [hh]; exact hb
  · show (lookb h' n' b).live ↔ (lookb h n b).live
    rw [hh]
theorem g_selT_nil (t : List (Nat × AV)) : selT t [] = True := rfl
theorem g_selT_cons (t : List (Nat × AV)) (i : Nat) (v : AV) (r : List (Nat × AV)) : selT t ((i, v) :: r) = (look t i = v ∧ selT t r) := rfl
attribute [go_sem] g_selT_nil g_selT_cons
theorem g_loopKS_normal {σ : Type} (p : List Nat) (I : σ → Prop) (emb : σ → St) (μ : σ → Nat) (x : σ) (Q : EX → St → Prop) (s : St) : loopKS p I emb μ x Q .normal s = ∃ y, I y ∧ To p s (emb y) ∧ μ y < μ x := rfl
theorem g_loopKS_ret {σ : Type} (p : List Nat) (I : σ → Prop) (emb : σ → St) (μ : σ → Nat) (x : σ) (Q : EX → St → Prop) (s : St) : loopKS p I emb μ x Q .ret s = Q .ret s := rfl
theorem g_loopKS_exit {σ : Type} (p : List Nat) (I : σ → Prop) (emb : σ → St) (μ : σ → Nat) (x : σ) (Q : EX → St → Prop) (i : Nat) (s : St) : loopKS p I emb μ x Q (.exit i) s = Q (.exit i) s := rfl
theorem g_genQ_ret {ι : Type} (m : Nat) (p : List Nat) (rs : List RS) (Q : ι → Prop) (r : ι → AV) (hout : ι → List (Nat × Bk)) (s : St) : genQ m p rs Q r hout .ret s = (rvOk s.fs rs ∧ ∃ x, Q x ∧ To p ⟨[(0, rvs s.fs rs)], s.h, s.n⟩ ⟨[(0, r x)], hout x, m⟩) := rfl
theorem g_genQ_normal {ι : Type} (m : Nat) (p : List Nat) (rs : List RS) (Q : ι → Prop) (r : ι → AV) (hout : ι → List (Nat × Bk)) (s : St) : genQ m p rs Q r hout .normal s = (rvOk s.fs rs ∧ ∃ x, Q x ∧ To p ⟨[(0, rvs s.fs rs)], s.h, s.n⟩ ⟨[(0, r x)], hout x, m⟩) := rfl
attribute [go_sem] g_loopKS_normal g_loopKS_ret g_loopKS_exit g_genQ_ret g_genQ_normal
theorem GS.wk {P : Program} {gl : Nat → AV} {f : FuncId} {args : List AV} {hin hout : List (Nat × Bk)} {m n : Nat} {r r' : AV} (h : GS P gl f args hin m r hout n) (hr : Wk r r') : GS P gl f args hin m r' hout n := by
  refine ⟨h.1, fun w vs G X g hR hv => (h.2 w vs G X g hR hv).mono ?_⟩
  rintro e w' ⟨v, g', q1, q2, q3, q4⟩
  exact ⟨v, g', q1, q2, q3, hr _ _ _ _ q4⟩
end Go.Proofs.Ytphaicaobepimaa
