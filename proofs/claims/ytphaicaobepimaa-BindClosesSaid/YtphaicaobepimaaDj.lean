/- What a good table is like. No conditions but the ones that stand in each. -/
import Derived.Test.YtphaicaobepimaaDf
namespace Go.Proofs.Ytphaicaobepimaa
set_option linter.all false
set_option linter.unusedSimpArgs false
open Go.RowKit

theorem foldl_cnt_eq {β : Type} (ix : β → Nat) (skip : β → Bool) (l : List β) (s : Nat) : ∀ u : List Int, s < u.length → (l.foldl (fun u b => if skip b = true then u else u.set (ix b) (u.getD (ix b) 0 + 1)) u).getD s 0 = u.getD s 0 + l.countP (fun b => !skip b && ix b == s) := by
  induction l with
  | nil => intro u _; simp
  | cons b l ih =>
    intro u hu
    rw [List.foldl_cons, ih _ (by split <;> simpa using hu), List.countP_cons]
    by_cases hk : skip b = true
    · simp [hk]
    · have hk : skip b = false := by simpa using hk
      by_cases hs : ix b = s
      · subst hs
        simp [hk, List.getD, hu]; omega
      · simp [hk, hs, List.getD, List.getElem?_set_ne hs]
theorem manyL_eq (l : List Mp) (s : Nat) (hs : s < 8) : (manyL l).getD s 0 = l.countP (fun m => m.s.toNat == s) := by
  have h := foldl_cnt_eq (fun m : Mp => m.s.toNat) (fun _ => false) l s (List.replicate 8 0) (by simpa using hs)
  rw [rep_getD, Int.zero_add] at h
  have e : manyL l = l.foldl (fun u b => if (fun _ : Mp => false) b = true then u else u.set ((fun m : Mp => m.s.toNat) b) (u.getD ((fun m : Mp => m.s.toNat) b) 0 + 1)) (List.replicate 8 0) := rfl
  rw [e, h]; simp
theorem blkL_eq (l : List Int) (s : Nat) (hs : s < 8) : (blkL l).getD s 0 = l.countP (fun o => !(o == 0) && (o - 1).toNat == s) := by
  have h := foldl_cnt_eq (fun o : Int => (o - 1).toNat) (fun o => o == 0) l s (List.replicate 8 0) (by simpa using hs)
  rw [rep_getD, Int.zero_add] at h
  have e : blkL l = l.foldl (fun u b => if (fun o : Int => o == 0) b = true then u else u.set ((fun o : Int => (o - 1).toNat) b) (u.getD ((fun o : Int => (o - 1).toNat) b) 0 + 1)) (List.replicate 8 0) := by
    unfold blkL
    congr 1
    funext u o
    simp
  rw [e, h]
theorem usedL_eq (l : List Mp) (i : Nat) (hi : i < 18) : (usedL l).getD i false = l.any (fun m => mIdx m == i) := by
  suffices h : ∀ (l : List Mp) (u : List Bool), i < u.length → (l.foldl (fun u m => u.set (mIdx m) true) u).getD i false = (u.getD i false || l.any (fun m => mIdx m == i)) by
    have := h l (List.replicate 18 false) (by simpa using hi)
    unfold usedL
    rw [this]
    have e : (List.replicate 18 false).getD i false = false := by rw [List.getD_eq_getElem?_getD, List.getElem?_replicate, if_pos hi]; rfl
    rw [e, Bool.false_or]
  intro l
  induction l with
  | nil => intro u _; simp
  | cons m l ih =>
    intro u hu
    rw [List.foldl_cons, ih _ (by simpa using hu), List.any_cons]
    by_cases hm : mIdx m = i
    · subst hm; simp [List.getD, hu]
    · have e : (mIdx m == i) = false := by simpa using hm
      simp [List.getD, List.getElem?_set_ne hm, e]
theorem goodB_iff (t : Tb) : goodB t = true ↔ goodT t := by unfold goodB; simp
/-- A block that is owned has a map. -/
theorem owned_map {t : Tb} (h : goodT t) {i : Nat} (hi : i < 18) (ho : t.pool.own.getD i 0 ≠ 0) : ∃ m ∈ t.maps, mapOk t m ∧ mIdx m = i ∧ t.pool.own.getD i 0 = m.s + 1 ∧ 0 ≤ m.s ∧ m.s < 8 := by
  have h1 := h.used i hi
  rw [usedL_eq _ _ hi] at h1
  have h2 : (t.pool.own.getD i 0 != 0) = true := by simpa using ho
  rw [h2] at h1
  obtain ⟨m, hm, he⟩ := List.any_eq_true.1 h1.symm
  have he : mIdx m = i := by simpa using he
  obtain ⟨k, hk, rfl⟩ := List.getElem_of_mem hm
  have hok := h.maps k hk
  obtain ⟨_, ⟨h3, h4⟩, _⟩ := known_bd hok.1.1
  refine ⟨_, hm, hok, he, ?_, h3, h4⟩
  have := hok.2.2
  unfold Pool.ow at this
  rw [← this]
  congr 1
  rw [← he]; rfl
theorem Tb.hom_bd {t : Tb} (h : goodT t) (hw : t.wf) {s : Nat} (hs : s < 8) : 0 ≤ t.hom s ∧ t.hom s ≤ 3 := by
  by_cases h0 : t.hom s = 0
  · omega
  have h1 := (h.subs s hs).2.2
  rw [blkL_eq _ _ hs] at h1
  have h2 : (t.hom s != 0) = true := by simpa using h0
  rw [h2] at h1
  have h3 := of_decide_eq_true h1.symm
  have h3 : 0 < t.pool.own.countP (fun o => !(o == 0) && (o - 1).toNat == s) := by omega
  obtain ⟨o, ho, hp⟩ := List.countP_pos_iff.1 h3
  obtain ⟨i, hi, rfl⟩ := List.getElem_of_mem ho
  have hi18 : i < 18 := by have := hw.pool.own; omega
  have hgd : t.pool.own.getD i 0 = t.pool.own[i] := by rw [List.getD_eq_getElem?_getD, List.getElem?_eq_getElem hi]; rfl
  simp at hp
  obtain ⟨m, hm, hok, _, he, hm0, hm1⟩ := owned_map h hi18 (by rw [hgd]; exact hp.1)
  rw [hgd] at he
  have : m.s = (s : Int) := by omega
  have hh := hok.2.1
  rw [this] at hh
  have ha := hok.1.2.2
  simp at hh
  omega
theorem countP_sum (l : List Mp) (h : ∀ m ∈ l, m.s.toNat < 8) : l.length = ((List.range 8).map fun s => l.countP fun m => m.s.toNat == s).sum := by
  induction l with
  | nil => rfl
  | cons m l ih =>
    have h1 := ih fun m hm => h m (List.mem_cons_of_mem _ hm)
    have h2 := h m (List.mem_cons_self ..)
    have e : (List.range 8) = [0, 1, 2, 3, 4, 5, 6, 7] := rfl
    rw [e] at h1 ⊢
    simp only [List.map_cons, List.map_nil, List.sum_cons, List.sum_nil, List.countP_cons, List.length_cons] at h1 ⊢
    generalize m.s.toNat = q at *
    rcases (by omega : q = 0 ∨ q = 1 ∨ q = 2 ∨ q = 3 ∨ q = 4 ∨ q = 5 ∨ q = 6 ∨ q = 7) with rfl | rfl | rfl | rfl | rfl | rfl | rfl | rfl <;> simp <;> omega
theorem maps_le {t : Tb} (h : goodT t) : t.maps.length ≤ 96 := by
  have hs : ∀ m ∈ t.maps, m.s.toNat < 8 := fun m hm => by
    obtain ⟨k, hk, rfl⟩ := List.getElem_of_mem hm
    obtain ⟨_, ⟨h3, h4⟩, _⟩ := known_bd (h.maps k hk).1.1
    omega
  rw [countP_sum _ hs]
  have hb : ∀ s, s < 8 → t.maps.countP (fun m => m.s.toNat == s) ≤ 12 := fun s hs => by
    have := (h.subs s hs).2.1
    rw [manyL_eq _ _ hs] at this
    omega
  have e : (List.range 8) = [0, 1, 2, 3, 4, 5, 6, 7] := rfl
  rw [e]
  simp only [List.map_cons, List.map_nil, List.sum_cons, List.sum_nil]
  have h0 := hb 0 (by omega); have h1 := hb 1 (by omega); have h2 := hb 2 (by omega); have h3 := hb 3 (by omega)
  have h4 := hb 4 (by omega); have h5 := hb 5 (by omega); have h6 := hb 6 (by omega); have h7 := hb 7 (by omega)
  omega
end Go.Proofs.Ytphaicaobepimaa
