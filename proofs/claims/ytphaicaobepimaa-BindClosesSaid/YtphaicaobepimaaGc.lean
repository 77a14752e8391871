/- Maps that count. No conditions but the ones that stand in each. -/
import Derived.Test.YtphaicaobepimaaEa
import Derived.Test.YtphaicaobepimaaDs
namespace Go.Proofs.Ytphaicaobepimaa
set_option linter.all false
set_option linter.unusedSimpArgs false
open Go.RowKit

theorem fIx_none {kvs : List (AV × AV)} {x : AV} (h : fIx kvs x = none) : ∀ p ∈ kvs, p.1 ≠ x := by
  unfold fIx at h
  intro p hp e
  have := List.findIdx?_eq_none_iff.1 h p hp
  simp [e] at this
theorem fIx_cons_eq (x v : AV) (kvs : List (AV × AV)) : fIx ((x, v) :: kvs) x = some 0 := by
  unfold fIx; rw [List.findIdx?_cons]; simp
theorem fIx_cons_ne {x y v : AV} (h : y ≠ x) (kvs : List (AV × AV)) : fIx ((y, v) :: kvs) x = (fIx kvs x).map (· + 1) := by
  unfold fIx; rw [List.findIdx?_cons]; simp [h]
theorem fIx_nil (x : AV) : fIx [] x = none := rfl
/-- The same by recursion. -/
theorem getA_cons_eq (x v z : AV) (kvs : List (AV × AV)) : getA ((x, v) :: kvs) x z = v := by
  unfold getA; rw [fIx_cons_eq]; rfl
theorem getA_cons_ne {x y v z : AV} (h : y ≠ x) (kvs : List (AV × AV)) : getA ((y, v) :: kvs) x z = getA kvs x z := by
  unfold getA; rw [fIx_cons_ne h]
  cases fIx kvs x <;> rfl
theorem getA_nil (x z : AV) : getA [] x z = z := rfl
theorem updA_cons_eq (x u v : AV) (kvs : List (AV × AV)) : updA ((x, u) :: kvs) x v = (x, v) :: kvs := by
  unfold updA; rw [fIx_cons_eq]; rfl
theorem updA_cons_ne {x y u v : AV} (h : y ≠ x) (kvs : List (AV × AV)) : updA ((y, u) :: kvs) x v = (y, u) :: updA kvs x v := by
  unfold updA; rw [fIx_cons_ne h]
  cases fIx kvs x <;> rfl
open Classical in
theorem getA_updA (kvs : List (AV × AV)) (x v y z : AV) : getA (updA kvs x v) y z = if y = x then v else getA kvs y z := by
  induction kvs with
  | nil =>
    have e : updA [] x v = [(x, v)] := rfl
    rw [e]
    by_cases h : y = x
    · subst h; rw [getA_cons_eq, if_pos rfl]
    · rw [getA_cons_ne (fun e => h e.symm), if_neg h]
  | cons p kvs ih =>
    obtain ⟨k, u⟩ := p
    by_cases h : k = x
    · subst h
      rw [updA_cons_eq]
      by_cases hy : y = k
      · subst hy; rw [getA_cons_eq, if_pos rfl]
      · rw [getA_cons_ne (fun e => hy e.symm), if_neg hy, getA_cons_ne (fun e => hy e.symm)]
    · rw [updA_cons_ne h]
      by_cases hy : y = k
      · subst hy; rw [getA_cons_eq, getA_cons_eq, if_neg h]
      · rw [getA_cons_ne (fun e => hy e.symm), getA_cons_ne (fun e => hy e.symm)]; exact ih
theorem updA_keys {wide : Bool} {ks : List SK} {kvs : List (AV × AV)} {x v : AV} (h : KeysOk wide ks kvs) (hx : KeyOk wide ks x) : KeysOk wide ks (updA kvs x v) := by
  intro p hp
  unfold updA at hp
  split at hp
  · rcases List.mem_or_eq_of_mem_set hp with h1 | h1
    · exact h p h1
    · rw [h1]; exact hx
  · rcases List.mem_append.1 hp with h1 | h1
    · exact h p h1
    · rw [List.mem_singleton.1 h1]; exact hx
/-- An entry made and then written is an entry updated. -/
theorem men_mst (kvs : List (AV × AV)) (x z v : AV) : (menA kvs x z).set (ixA kvs x) (((menA kvs x z).getD (ixA kvs x) (.any, .any)).1, v) = updA kvs x v := by
  unfold menA ixA updA
  cases h : fIx kvs x with
  | none => simp [List.getD]
  | some i =>
    obtain ⟨hi, he⟩ := fIx_some h
    simp only [Option.getD_some]
    rw [he]
theorem ixA_lt (kvs : List (AV × AV)) (x z : AV) : ixA kvs x < (menA kvs x z).length := by
  unfold menA ixA
  cases h : fIx kvs x with
  | none => simp
  | some i => exact (fIx_some h).1
theorem getA_men (kvs : List (AV × AV)) (x z : AV) : getA (menA kvs x z) x z = getA kvs x z := by
  unfold menA
  cases h : fIx kvs x with
  | some i => rfl
  | none =>
    have e : getA (kvs ++ [(x, z)]) x z = z := by
      have hn := fIx_none h
      clear h
      induction kvs with
      | nil => exact getA_cons_eq ..
      | cons p kvs ih =>
        obtain ⟨k, u⟩ := p
        rw [List.cons_append, getA_cons_ne (hn (k, u) (by simp))]
        exact ih fun q hq => hn q (by simp [hq])
    rw [e]
    unfold getA
    rw [h]
theorem men_keys {wide : Bool} {ks : List SK} {kvs : List (AV × AV)} {x z : AV} (h : KeysOk wide ks kvs) (hx : KeyOk wide ks x) : KeysOk wide ks (menA kvs x z) := by
  intro p hp
  unfold menA at hp
  split at hp
  · exact h p hp
  · rcases List.mem_append.1 hp with h1 | h1
    · exact h p h1
    · rw [List.mem_singleton.1 h1]; exact hx
open Classical in
/-- How often a key is among others. -/
noncomputable def cntA (l : List AV) (x : AV) : Nat := l.countP fun y => decide (y = x)
/-- A map that counts keys. -/
noncomputable def incL : List AV → List (AV × AV)
  | [] => []
  | x :: l => updA (incL l) x (.int .i64 ((cntA l x : Nat) + 1))
open Classical in
theorem cntA_cons (x y : AV) (l : List AV) : cntA (x :: l) y = cntA l y + if x = y then 1 else 0 := by
  unfold cntA
  rw [List.countP_cons]
  by_cases h : x = y <;> simp [h]
theorem incL_get (l : List AV) (x : AV) : getA (incL l) x (.int .i64 0) = .int .i64 (cntA l x : Nat) := by
  induction l with
  | nil => rfl
  | cons y l ih =>
    show getA (updA (incL l) y _) x _ = _
    rw [getA_updA, cntA_cons]
    by_cases h : x = y
    · subst h; rw [if_pos rfl, if_pos rfl]; rfl
    · rw [if_neg h, if_neg fun e => h e.symm, ih]; rfl
theorem incL_keys {wide : Bool} {ks : List SK} : ∀ {l : List AV}, (∀ x ∈ l, KeyOk wide ks x) → KeysOk wide ks (incL l)
  | [], _ => fun p hp => by cases hp
  | x :: l, h => updA_keys (incL_keys fun y hy => h y (by simp [hy])) (h x (by simp))
/-- A map of what is there. -/
noncomputable def setL : List AV → List (AV × AV)
  | [] => []
  | x :: l => updA (setL l) x (.bool true)
open Classical in
theorem setL_get (l : List AV) (x : AV) : getA (setL l) x (.bool false) = .bool (decide (x ∈ l)) := by
  induction l with
  | nil => simp [setL, getA_nil]
  | cons y l ih =>
    show getA (updA (setL l) y _) x _ = _
    rw [getA_updA, ih]
    by_cases h : x = y
    · subst h; simp
    · simp [h]
open Classical in
theorem setL_has (l : List AV) (x : AV) : ∃ b, getA (setL l) x (.bool false) = .bool b ∧ (b = true ↔ x ∈ l) := ⟨_, setL_get l x, by rw [decide_eq_true_eq]⟩
theorem setL_keys {wide : Bool} {ks : List SK} : ∀ {l : List AV}, (∀ x ∈ l, KeyOk wide ks x) → KeysOk wide ks (setL l)
  | [], _ => fun p hp => by cases hp
  | x :: l, h => updA_keys (setL_keys fun y hy => h y (by simp [hy])) (h x (by simp))
theorem incL_nm (n : Nat) (l : List AV) (h : ∀ x ∈ l, nmOk n x) : ∀ p ∈ incL l, nmOk n p.1 ∧ nmOk n p.2 := by
  induction l with
  | nil => intro p hp; cases hp
  | cons x l ih =>
    intro p hp
    unfold incL updA at hp
    have ih := ih fun y hy => h y (by simp [hy])
    split at hp
    · rcases List.mem_or_eq_of_mem_set hp with h1 | h1
      · exact ih p h1
      · rw [h1]; exact ⟨h x (by simp), by simp [nmOk]⟩
    · rcases List.mem_append.1 hp with h1 | h1
      · exact ih p h1
      · rw [List.mem_singleton.1 h1]; exact ⟨h x (by simp), by simp [nmOk]⟩
theorem setL_nm (n : Nat) (l : List AV) (h : ∀ x ∈ l, nmOk n x) : ∀ p ∈ setL l, nmOk n p.1 ∧ nmOk n p.2 := by
  induction l with
  | nil => intro p hp; cases hp
  | cons x l ih =>
    intro p hp
    unfold setL updA at hp
    have ih := ih fun y hy => h y (by simp [hy])
    split at hp
    · rcases List.mem_or_eq_of_mem_set hp with h1 | h1
      · exact ih p h1
      · rw [h1]; exact ⟨h x (by simp), by simp [nmOk]⟩
    · rcases List.mem_append.1 hp with h1 | h1
      · exact ih p h1
      · rw [List.mem_singleton.1 h1]; exact ⟨h x (by simp), by simp [nmOk]⟩
/-- A map whose keys and values have no names. -/
def flatKV (kvs : List (AV × AV)) : Prop := ∀ ρ : Nat → Nat, (kvs.map fun p => (ren ρ p.1, ren ρ p.2)) = kvs
theorem flatKV_of {kvs : List (AV × AV)} (h : ∀ p ∈ kvs, ∀ ρ, ren ρ p.1 = p.1 ∧ ren ρ p.2 = p.2) : flatKV kvs := fun ρ => by
  refine (List.map_congr_left (g := id) fun p hp => ?_).trans (List.map_id _)
  obtain ⟨h1, h2⟩ := h p hp ρ
  rw [h1, h2]; rfl
theorem incL_flat {l : List AV} (h : ∀ x ∈ l, ∀ ρ, ren ρ x = x) : flatKV (incL l) := by
  refine flatKV_of ?_
  induction l with
  | nil => intro p hp; cases hp
  | cons x l ih =>
    intro p hp ρ
    unfold incL updA at hp
    have ih := ih fun y hy => h y (by simp [hy])
    split at hp
    · rcases List.mem_or_eq_of_mem_set hp with h1 | h1
      · exact ih p h1 ρ
      · rw [h1]; exact ⟨h x (by simp) ρ, by simp [ren]⟩
    · rcases List.mem_append.1 hp with h1 | h1
      · exact ih p h1 ρ
      · rw [List.mem_singleton.1 h1]; exact ⟨h x (by simp) ρ, by simp [ren]⟩
theorem setL_flat {l : List AV} (h : ∀ x ∈ l, ∀ ρ, ren ρ x = x) : flatKV (setL l) := by
  refine flatKV_of ?_
  induction l with
  | nil => intro p hp; cases hp
  | cons x l ih =>
    intro p hp ρ
    unfold setL updA at hp
    have ih := ih fun y hy => h y (by simp [hy])
    split at hp
    · rcases List.mem_or_eq_of_mem_set hp with h1 | h1
      · exact ih p h1 ρ
      · rw [h1]; exact ⟨h x (by simp) ρ, by simp [ren]⟩
    · rcases List.mem_append.1 hp with h1 | h1
      · exact ih p h1 ρ
      · rw [List.mem_singleton.1 h1]; exact ⟨h x (by simp) ρ, by simp [ren]⟩
end Go.Proofs.Ytphaicaobepimaa
