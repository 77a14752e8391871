/- When a table is one. No conditions but the ones that stand in each. -/
import Derived.Test.YtphaicaobepimaaDd
namespace Go.Proofs.Ytphaicaobepimaa
set_option linter.all false
set_option linter.unusedSimpArgs false
open Go.RowKit

/-- All numbers of a map are those of a machine's word. -/
def MpB (m : Mp) : Prop := (-9223372036854775808 ≤ m.proto ∧ m.proto ≤ 9223372036854775807) ∧ (-9223372036854775808 ≤ m.s ∧ m.s ≤ 9223372036854775807) ∧ (-9223372036854775808 ≤ m.inn ∧ m.inn ≤ 9223372036854775807) ∧ (-9223372036854775808 ≤ m.a ∧ m.a ≤ 9223372036854775807) ∧ (-9223372036854775808 ≤ m.port ∧ m.port ≤ 9223372036854775807)
structure Tb.ok (t : Tb) : Prop where
  wf : t.wf
  bd : ∀ m ∈ t.maps, MpB m
  len : t.maps.length ≤ 4611686018427387904
def mIdx (m : Mp) : Nat := m.a.toNat * 6 + (blkOf' m.port).toNat
def usedL (l : List Mp) : List Bool := l.foldl (fun u m => u.set (mIdx m) true) (List.replicate 18 false)
def manyL (l : List Mp) : List Int := l.foldl (fun u m => u.set m.s.toNat (u.getD m.s.toNat 0 + 1)) (List.replicate 8 0)
def blkL (l : List Int) : List Int := l.foldl (fun u o => if o = 0 then u else u.set (o - 1).toNat (u.getD (o - 1).toNat 0 + 1)) (List.replicate 8 0)
def mapPre (t : Tb) (m : Mp) : Prop := knownB m.proto m.s m.inn = true ∧ inPort m.port = true ∧ 0 ≤ m.a ∧ m.a < 3
def mapOk (t : Tb) (m : Mp) : Prop := mapPre t m ∧ t.hom m.s.toNat = m.a + 1 ∧ t.pool.ow m.a.toNat (blkOf' m.port).toNat = m.s + 1
/-- No port stands for two, no port of a subscriber has two. -/
def klash (m o : Mp) : Bool := o.proto == m.proto && (o.a == m.a && o.port == m.port || o.s == m.s && o.inn == m.inn)
structure goodT (t : Tb) : Prop where
  pool : t.pool.good = true
  maps : ∀ i (h : i < t.maps.length), mapOk t t.maps[i]
  apart : ∀ i j (hi : i < t.maps.length) (hj : j < i), klash t.maps[i] (t.maps[j]'(by omega)) = false
  used : ∀ i, i < 18 → (t.pool.own.getD i 0 != 0) = (usedL t.maps).getD i false
  subs : ∀ s, s < 8 → (blkL t.pool.own).getD s 0 ≤ 2 ∧ (manyL t.maps).getD s 0 ≤ 12 ∧ ((t.hom s != 0) = decide (0 < (blkL t.pool.own).getD s 0))
open Classical in
noncomputable def goodB (t : Tb) : Bool := decide (goodT t)
theorem usedL_snoc (l : List Mp) (m : Mp) : usedL (l ++ [m]) = (usedL l).set (mIdx m) true := by unfold usedL; rw [List.foldl_append]; rfl
theorem manyL_snoc (l : List Mp) (m : Mp) : manyL (l ++ [m]) = (manyL l).set m.s.toNat ((manyL l).getD m.s.toNat 0 + 1) := by unfold manyL; rw [List.foldl_append]; rfl
theorem blkL_snoc (l : List Int) (o : Int) : blkL (l ++ [o]) = if o = 0 then blkL l else (blkL l).set (o - 1).toNat ((blkL l).getD (o - 1).toNat 0 + 1) := by unfold blkL; rw [List.foldl_append]; rfl
theorem foldl_set_len {α β : Type} (f : List α → β → List α) (hf : ∀ u b, (f u b).length = u.length) : ∀ (l : List β) (u : List α), (l.foldl f u).length = u.length
  | [], _ => rfl
  | b :: l, u => by rw [List.foldl_cons, foldl_set_len f hf l, hf]
theorem usedL_len (l : List Mp) : (usedL l).length = 18 := by unfold usedL; rw [foldl_set_len _ (fun u b => List.length_set ..)]; rfl
theorem manyL_len (l : List Mp) : (manyL l).length = 8 := by unfold manyL; rw [foldl_set_len _ (fun u b => List.length_set ..)]; rfl
theorem blkL_len (l : List Int) : (blkL l).length = 8 := by unfold blkL; rw [foldl_set_len _ (fun u b => by split <;> simp)]; rfl
theorem foldl_cnt_le {β : Type} (ix : β → Nat) (skip : β → Bool) (l : List β) (s : Nat) : ∀ u : List Int, (l.foldl (fun u b => if skip b = true then u else u.set (ix b) (u.getD (ix b) 0 + 1)) u).getD s 0 ≤ u.getD s 0 + l.length ∧ u.getD s 0 ≤ (l.foldl (fun u b => if skip b = true then u else u.set (ix b) (u.getD (ix b) 0 + 1)) u).getD s 0 := by
  induction l with
  | nil => intro u; simp
  | cons b l ih =>
    intro u
    rw [List.foldl_cons]
    have h := ih (if skip b = true then u else u.set (ix b) (u.getD (ix b) 0 + 1))
    have hu : (if skip b = true then u else u.set (ix b) (u.getD (ix b) 0 + 1)).getD s 0 ≤ u.getD s 0 + 1 ∧ u.getD s 0 ≤ (if skip b = true then u else u.set (ix b) (u.getD (ix b) 0 + 1)).getD s 0 := by
      split
      · omega
      · by_cases hs : ix b = s
        · subst hs
          by_cases hl : ix b < u.length
          · simp [List.getD, hl]; omega
          · simp [List.getD, Nat.le_of_not_lt hl]
        · simp [List.getD, List.getElem?_set_ne hs]; omega
    rw [List.length_cons]
    omega
theorem rep_getD (n s : Nat) : (List.replicate n (0 : Int)).getD s 0 = 0 := by
  rw [List.getD_eq_getElem?_getD, List.getElem?_replicate]; split <;> rfl
theorem manyL_bd (l : List Mp) (s : Nat) : 0 ≤ (manyL l).getD s 0 ∧ (manyL l).getD s 0 ≤ l.length := by
  have := foldl_cnt_le (fun m : Mp => m.s.toNat) (fun _ => false) l s (List.replicate 8 0)
  rw [rep_getD, Int.zero_add] at this
  have e : manyL l = l.foldl (fun u b => if (fun _ : Mp => false) b = true then u else u.set ((fun m : Mp => m.s.toNat) b) (u.getD ((fun m : Mp => m.s.toNat) b) 0 + 1)) (List.replicate 8 0) := rfl
  rw [e]
  exact ⟨this.2, this.1⟩
theorem blkL_bd (l : List Int) (s : Nat) : 0 ≤ (blkL l).getD s 0 ∧ (blkL l).getD s 0 ≤ l.length := by
  have := foldl_cnt_le (fun o : Int => (o - 1).toNat) (fun o => o == 0) l s (List.replicate 8 0)
  rw [rep_getD, Int.zero_add] at this
  have e : blkL l = l.foldl (fun u b => if (fun o : Int => o == 0) b = true then u else u.set ((fun o : Int => (o - 1).toNat) b) (u.getD ((fun o : Int => (o - 1).toNat) b) 0 + 1)) (List.replicate 8 0) := by
    unfold blkL
    congr 1
    funext u o
    simp
  rw [e]
  exact ⟨this.2, this.1⟩
theorem Tb.enc_ow {t : Tb} (h : t.wf) {a k : Nat} (ha : a < 3) (hk : k < 6) : t.enc.getD (a * 6 + k) .any = .int .i64 (t.pool.ow a k) := by
  have e := ow_enc t.pool h.pool a k ha hk
  unfold Tb.enc Tb.hd
  rw [List.append_assoc, List.getD_eq_getElem?_getD, List.getElem?_append_left (by rw [Pool.enc_len h.pool]; omega), ← List.getD_eq_getElem?_getD]
  exact e
end Go.Proofs.Ytphaicaobepimaa
