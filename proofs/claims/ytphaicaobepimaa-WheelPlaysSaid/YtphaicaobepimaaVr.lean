/- Going on to a time, said plainly. No conditions but the ones that stand in each. -/
import Derived.Test.YtphaicaobepimaaVj
namespace Go.Proofs.Ytphaicaobepimaa
set_option linter.all false

def rsim (r' r : List (List Tm)) : Prop := r'.length = r.length ∧ ∀ i, (r'.getD i []).Perm (r.getD i [])
theorem rsim.refl (r : List (List Tm)) : rsim r r := ⟨rfl, fun _ => List.Perm.refl _⟩
theorem rsim.symm {r' r : List (List Tm)} (h : rsim r' r) : rsim r r' := ⟨h.1.symm, fun i => (h.2 i).symm⟩
theorem rsim.trans {a b c : List (List Tm)} (h : rsim a b) (k : rsim b c) : rsim a c := ⟨h.1.trans k.1, fun i => (h.2 i).trans (k.2 i)⟩
theorem getD_setF (r : List (List Tm)) (i : Nat) (l : List Tm) (j : Nat) : (r.set i l).getD j [] = if j = i ∧ i < r.length then l else r.getD j [] := by
  by_cases hi : i < r.length
  · rw [getD_setR r hi]
    by_cases e : j = i <;> simp [e, hi]
  · rw [List.set_eq_of_length_le (by omega), if_neg (by omega)]
theorem rsim.set {r' r : List (List Tm)} (h : rsim r' r) (i : Nat) {l' l : List Tm} (hl : l'.Perm l) : rsim (r'.set i l') (r.set i l) := by
  refine ⟨by simp [h.1], fun j => ?_⟩
  rw [getD_setF, getD_setF, h.1]
  split
  · exact hl
  · exact h.2 j
theorem rsim.lay {r' r : List (List Tm)} (h : rsim r' r) (n : Nat) (t : Tm) : rsim (layR n r' t) (layR n r t) := h.set _ ((h.2 _).append_right _)
theorem layR_swap (n : Nat) (r : List (List Tm)) (a b : Tm) : rsim (layR n (layR n r a) b) (layR n (layR n r b) a) := by
  refine ⟨by simp [layR], fun j => ?_⟩
  unfold layR
  simp only [getD_setF, List.length_set]
  by_cases ha : slotOf n a.due < r.length <;> by_cases hb : slotOf n b.due < r.length <;> by_cases h1 : j = slotOf n a.due <;> by_cases h2 : j = slotOf n b.due <;> by_cases h3 : slotOf n a.due = slotOf n b.due <;> simp_all <;> first | omega | (exact List.Perm.append_left _ (List.Perm.swap _ _ _)) | (rw [if_neg (by omega), if_neg (by omega)]) | skip
theorem rsim.lays {n : Nat} {l' l : List Tm} (hl : l'.Perm l) : ∀ {r' r : List (List Tm)}, rsim r' r → rsim (l'.foldl (layR n) r') (l.foldl (layR n) r) := by
  induction hl with
  | nil => exact fun h => h
  | cons x h ih => exact fun hr => ih (hr.lay n x)
  | swap x y l =>
    intro r' r hr
    have hfix : ∀ (l : List Tm) {r' r : List (List Tm)}, rsim r' r → rsim (l.foldl (layR n) r') (l.foldl (layR n) r) := fun l => by
      induction l with
      | nil => exact fun h => h
      | cons t l ih => exact fun h => ih (h.lay n t)
    exact hfix l (((hr.lay n y).lay n x).trans (layR_swap n r y x))
  | trans h1 h2 ih1 ih2 => exact fun hr => (ih1 hr).trans (ih2 (rsim.refl _))
theorem rsim.relay {r' r : List (List Tm)} (h : rsim r' r) (n i : Nat) : rsim (Proofs.Ytphaicaobepimaa.relay n r' i) (Proofs.Ytphaicaobepimaa.relay n r i) := rsim.lays (h.2 i) (h.set i (List.Perm.refl _))
theorem rsim.step {n : Nat} : ∀ (f L : Nat) {r' r : List (List Tm)}, rsim r' r → rsim (stepF n f L r') (stepF n f L r)
  | 0, _, _, _, h => h
  | f + 1, L, r', r, h => by
    unfold stepF
    split
    · exact rsim.step f (L + 1) (h.relay _ _)
    · exact h
theorem flat_sim : ∀ {r' r : List (List Tm)}, r'.length = r.length → (∀ i, (r'.getD i []).Perm (r.getD i [])) → r'.flatten.Perm r.flatten
  | [], [], _, _ => List.Perm.refl _
  | a :: r', b :: r, hl, h => by
    have h0 := h 0
    simp only [List.getD_cons_zero] at h0
    simp only [List.flatten_cons]
    exact h0.append (flat_sim (by simpa using hl) fun i => by have := h (i + 1); simpa only [List.getD_cons_succ] using this)
theorem RI.sim {P : Nat → Nat → Prop} {r' r : List (List Tm)} {D : List Tm} (h : RI P r D) (hs : rsim r' r) : RI P r' D :=
  ⟨hs.1.trans h.len, (flat_sim hs.1 hs.2).trans h.perm, fun i hi t ht => h.pl i hi t ((hs.2 i).mem_iff.1 ht)⟩
/-- The numbers of some taken away. -/
theorem offL_eq : ∀ (l D : List Tm), offL l D = D.filter fun t => l.all fun x => !(t.id == x.id)
  | [], D => (List.filter_eq_self.2 fun t _ => by simp).symm
  | a :: l, D => by
    have e : offL (a :: l) D = offL l (offT a.id D) := rfl
    rw [e, offL_eq l]
    unfold offT
    rw [List.filter_filter]
    refine List.filter_congr fun t _ => ?_
    rw [List.all_cons, Bool.and_comm]
def keepT (n : Nat) (D : List Tm) : List Tm := D.filter fun t => !(t.due == n)
theorem pair_inj {D : List Tm} (hd : D.Pairwise fun a b => a.id ≠ b.id) {a b : Tm} (ha : a ∈ D) (hb : b ∈ D) (e : a.id = b.id) : a = b := by
  induction D with
  | nil => cases ha
  | cons x D ih =>
    have h1 := List.Pairwise.of_cons hd
    have h2 := fun y hy => List.rel_of_pairwise_cons hd (a' := y) hy
    rcases List.mem_cons.1 ha with h3 | h3 <;> rcases List.mem_cons.1 hb with h4 | h4
    · rw [h3, h4]
    · rw [h3] at e; exact absurd e (h2 b h4)
    · rw [h4] at e; exact absurd e.symm (h2 a h3)
    · exact ih h1 h3 h4
theorem offL_keep {D l : List Tm} {n : Nat} (hd : D.Pairwise fun a b => a.id ≠ b.id) (hl : l.Perm (D.filter fun t => t.due == n)) : offL l D = keepT n D := by
  rw [offL_eq]
  unfold keepT
  refine List.filter_congr fun t ht => ?_
  have hmem : ∀ x, x ∈ l ↔ x ∈ D ∧ x.due = n := fun x => by rw [hl.mem_iff, List.mem_filter]; simp
  cases h : t.due == n with
  | true =>
    have hin : t ∈ l := (hmem t).2 ⟨ht, by simpa using h⟩
    simp only [Bool.not_true]
    rw [← Bool.not_eq_true, List.all_eq_true]
    intro hall
    have := hall t hin
    simp at this
  | false =>
    simp only [Bool.not_false]
    rw [List.all_eq_true]
    intro x hx
    obtain ⟨h1, h2⟩ := (hmem x).1 hx
    have : t.id ≠ x.id := fun e => by
      have := pair_inj hd ht h1 e
      subst this
      simp [h2] at h
    simpa using this
/-- The rows and the timers when it is time 'to'. -/
def advF : Nat → Nat → List (List Tm) → List Tm → Nat → List (List Tm) × List Tm
  | 0, _, rows, D, _ => (rows, D)
  | f + 1, n, rows, D, to =>
    if n = to then (rows.set (n % 16) [], keepT n D)
    else if 4096 < to - n ∨ (keepT n D).length = 0 then advF f (nextT (keepT n D) to) ((keepT n D).foldl (layR (nextT (keepT n D) to)) (List.replicate 65 [])) (keepT n D) to
    else advF f (n + 1) (stepF (n + 1) 4 1 (rows.set (n % 16) [])) (keepT n D) to
/-- What holds of a wheel at a time. -/
structure WG (n : Nat) (rows : List (List Tm)) (D : List Tm) : Prop where
  ri : RI (Pl n) rows D
  lo : ∀ t ∈ D, n ≤ t.due
  hi : ∀ t ∈ D, t.due ≤ 1099511627776
  dis : D.Pairwise fun a b => a.id ≠ b.id
  len : D.length ≤ 100000
theorem keepT_sub {n : Nat} {D : List Tm} : (keepT n D).Sublist D := List.filter_sublist
theorem keepT_lo {n : Nat} {D : List Tm} (h : ∀ t ∈ D, n ≤ t.due) : ∀ t ∈ keepT n D, n < t.due := fun t ht => by
  obtain ⟨h1, h2⟩ := List.mem_filter.1 ht
  have := h t h1
  have : t.due ≠ n := by simpa using h2
  omega
theorem WG.fired {n : Nat} {rows : List (List Tm)} {D : List Tm} (h : WG n rows D) : RI (Pl n) (rows.set (n % 16) []) (keepT n D) := h.ri.now_row.2
theorem WG.leap {n m : Nat} {rows : List (List Tm)} {D : List Tm} (h : WG n rows D) (hm : ∀ t ∈ keepT n D, m ≤ t.due) : WG m ((keepT n D).foldl (layR m) (List.replicate 65 [])) (keepT n D) :=
  ⟨RI.anew (List.Perm.refl _) hm, hm, fun t ht => h.hi t (keepT_sub.subset ht), h.dis.sublist keepT_sub, Nat.le_trans keepT_sub.length_le h.len⟩
theorem WG.tick {n : Nat} {rows : List (List Tm)} {D : List Tm} (h : WG n rows D) : WG (n + 1) (stepF (n + 1) 4 1 (rows.set (n % 16) [])) (keepT n D) :=
  ⟨h.fired.tick (keepT_lo h.lo), keepT_lo h.lo, fun t ht => h.hi t (keepT_sub.subset ht), h.dis.sublist keepT_sub, Nat.le_trans keepT_sub.length_le h.len⟩
theorem keepT_filter (D0 : List Tm) (n m : Nat) (hnm : n < m) (h : ∀ t ∈ D0, n < t.due → m ≤ t.due) : keepT n (D0.filter fun t => decide (n ≤ t.due)) = D0.filter fun t => decide (m ≤ t.due) := by
  unfold keepT
  rw [List.filter_filter]
  refine List.filter_congr fun t ht => ?_
  have := h t ht
  rw [Bool.eq_iff_iff]
  simp only [Bool.and_eq_true, Bool.not_eq_true', beq_eq_false_iff_ne, ne_eq, decide_eq_true_eq]
  omega
/-- When it is time 'to', just the later ones are there. -/
theorem advF_D (D0 : List Tm) : ∀ (f n : Nat) (rows : List (List Tm)) (D : List Tm) (to : Nat), n ≤ to → to - n < f → WG n rows D → D = D0.filter (fun t => decide (n ≤ t.due)) → (advF f n rows D to).2 = D0.filter (fun t => decide (to < t.due)) ∧ RI (Pl to) (advF f n rows D to).1 (advF f n rows D to).2
  | 0, _, _, _, _, _, h, _, _ => by omega
  | f + 1, n, rows, D, to, hn, hf, hw, hD => by
    unfold advF
    have hkn : ∀ m, n < m → (∀ t ∈ keepT n D, m ≤ t.due) → keepT n D = D0.filter fun t => decide (m ≤ t.due) := fun m hm hk => by
      rw [hD]
      refine keepT_filter D0 n m hm fun t ht hlt => ?_
      refine hk t ?_
      rw [hD]
      exact List.mem_filter.2 ⟨List.mem_filter.2 ⟨ht, by simpa using Nat.le_of_lt hlt⟩, by simp; omega⟩
    split
    · rename_i e
      subst e
      exact ⟨hkn (n + 1) (by omega) (keepT_lo hw.lo), hw.fired⟩
    · rename_i hne
      split
      · obtain ⟨h1, h2, h3⟩ := nextT_spec (keepT n D) to
        have hlt : n < nextT (keepT n D) to := by
          rcases h3 with h3 | ⟨t, ht, h3⟩
          · omega
          · have := keepT_lo hw.lo t ht; omega
        exact advF_D D0 f _ _ _ to h1 (by omega) (hw.leap h2) (hkn _ hlt h2)
      · exact advF_D D0 f (n + 1) _ _ to (by omega) (by omega) hw.tick (hkn (n + 1) (by omega) (keepT_lo hw.lo))
theorem advF_fuel : ∀ (f f' n : Nat) (rows : List (List Tm)) (D : List Tm) (to : Nat), n ≤ to → (∀ t ∈ D, n ≤ t.due) → to - n < f → to - n < f' → advF f n rows D to = advF f' n rows D to
  | 0, _, _, _, _, _, _, _, h, _ => by omega
  | _ + 1, 0, _, _, _, _, _, _, _, h => by omega
  | f + 1, f' + 1, n, rows, D, to, hn, hlo, h1, h2 => by
    unfold advF
    split
    · rfl
    · rename_i hne
      have hk := keepT_lo hlo
      split
      · obtain ⟨g1, g2, g3⟩ := nextT_spec (keepT n D) to
        have hlt : n < nextT (keepT n D) to := by
          rcases g3 with g3 | ⟨t, ht, g3⟩
          · omega
          · have := hk t ht; omega
        exact advF_fuel f f' _ _ _ to g1 g2 (by omega) (by omega)
      · exact advF_fuel f f' (n + 1) _ _ to (by omega) hk (by omega) (by omega)
end Go.Proofs.Ytphaicaobepimaa
