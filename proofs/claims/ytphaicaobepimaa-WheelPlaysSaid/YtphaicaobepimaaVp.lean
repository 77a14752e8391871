/- Timers on rows, said plainly: where a timer lies, and what turning does. No conditions but the ones that stand in each. -/
import Derived.Test.YtphaicaobepimaaE1
namespace Go.Proofs.Ytphaicaobepimaa
set_option linter.all false

/-- A timer. -/
structure Tm where
  id : Int
  due : Nat
  deriving DecidableEq, Inhabited
/-- On which row a timer is laid: from level k on, f levels left. -/
def slotF (now due : Nat) : Nat → Nat → Nat
  | 0, _ => 64
  | f + 1, k => if due / 16 ^ k < now / 16 ^ k + 16 then k * 16 + due / 16 ^ k % 16 else slotF now due f (k + 1)
def slotOf (now due : Nat) : Nat := slotF now due 4 0
theorem slotOf_eq (now due : Nat) : slotOf now due = if due < now + 16 then due % 16 else if due / 16 < now / 16 + 16 then 16 + due / 16 % 16 else if due / 256 < now / 256 + 16 then 32 + due / 256 % 16 else if due / 4096 < now / 4096 + 16 then 48 + due / 4096 % 16 else 64 := by
  simp [slotOf, slotF]
theorem slotOf_lt (now due : Nat) : slotOf now due < 65 := by
  rw [slotOf_eq]; (repeat' split) <;> omega
/-- Where a timer may lie. -/
def Pl (now i due : Nat) : Prop :=
  if i < 16 then due % 16 = i ∧ now ≤ due ∧ due < now + 16
  else if i < 32 then due / 16 % 16 = i - 16 ∧ now / 16 < due / 16 ∧ due / 16 < now / 16 + 16
  else if i < 48 then due / 256 % 16 = i - 32 ∧ now / 256 < due / 256 ∧ due / 256 < now / 256 + 16
  else if i < 64 then due / 4096 % 16 = i - 48 ∧ now / 4096 < due / 4096 ∧ due / 4096 < now / 4096 + 16
  else now / 65536 < due / 65536
theorem slotOf_pl {now due : Nat} (h : now ≤ due) : Pl now (slotOf now due) due := by
  rw [slotOf_eq]
  unfold Pl
  split
  · rw [if_pos (by omega)]; omega
  split
  · rw [if_neg (by omega), if_pos (by omega)]; omega
  split
  · rw [if_neg (by omega), if_neg (by omega), if_pos (by omega)]; omega
  split
  · rw [if_neg (by omega), if_neg (by omega), if_neg (by omega), if_pos (by omega)]; omega
  · rw [if_neg (by omega), if_neg (by omega), if_neg (by omega), if_neg (by omega)]; omega
/-- The same at a tick at which the levels from L on have not turned yet. -/
def PlG (now L i due : Nat) : Prop :=
  if i < 16 then due % 16 = i ∧ now ≤ due ∧ due < now + 16
  else if i < 32 then due / 16 % 16 = i - 16 ∧ (now - 1) / 16 < due / 16 ∧ due / 16 < now / 16 + 16 ∧ (1 < L → now / 16 < due / 16)
  else if i < 48 then due / 256 % 16 = i - 32 ∧ (now - 1) / 256 < due / 256 ∧ due / 256 < now / 256 + 16 ∧ (2 < L → now / 256 < due / 256)
  else if i < 64 then due / 4096 % 16 = i - 48 ∧ (now - 1) / 4096 < due / 4096 ∧ due / 4096 < now / 4096 + 16 ∧ (3 < L → now / 4096 < due / 4096)
  else (now - 1) / 65536 < due / 65536 ∧ (4 < L → now / 65536 < due / 65536)
theorem Pl.g {now L i due : Nat} (h : Pl now i due) : PlG now L i due := by
  unfold Pl at h
  unfold PlG
  (repeat' split) <;> (first | (rw [if_pos (by omega)] at h; omega) | (rw [if_neg (by omega), if_pos (by omega)] at h; omega) | (rw [if_neg (by omega), if_neg (by omega), if_pos (by omega)] at h; omega) | (rw [if_neg (by omega), if_neg (by omega), if_neg (by omega), if_pos (by omega)] at h; omega) | (rw [if_neg (by omega), if_neg (by omega), if_neg (by omega), if_neg (by omega)] at h; omega))
theorem Pl.next {now i due : Nat} (h : Pl now i due) (hd : now < due) : PlG (now + 1) 1 i due := by
  unfold Pl at h
  unfold PlG
  (repeat' split) <;> (first | (rw [if_pos (by omega)] at h; omega) | (rw [if_neg (by omega), if_pos (by omega)] at h; omega) | (rw [if_neg (by omega), if_neg (by omega), if_pos (by omega)] at h; omega) | (rw [if_neg (by omega), if_neg (by omega), if_neg (by omega), if_pos (by omega)] at h; omega) | (rw [if_neg (by omega), if_neg (by omega), if_neg (by omega), if_neg (by omega)] at h; omega))
/-- The rows hold just these timers, each where it may lie. -/
structure RI (P : Nat → Nat → Prop) (rows : List (List Tm)) (D : List Tm) : Prop where
  len : rows.length = 65
  perm : rows.flatten.Perm D
  pl : ∀ i, i < 65 → ∀ t ∈ rows.getD i [], P i t.due
theorem getD_setR (rows : List (List Tm)) {i : Nat} (hi : i < rows.length) (l : List Tm) (j : Nat) : (rows.set i l).getD j [] = if j = i then l else rows.getD j [] := by
  simp only [List.getD, List.getElem?_set]
  by_cases e : i = j
  · subst e; rw [if_pos rfl, if_pos hi, if_pos rfl]; rfl
  · rw [if_neg e, if_neg fun q => e q.symm]
theorem flat_split : ∀ (rows : List (List Tm)) (i : Nat), i < rows.length → ∀ l, (rows.set i l).flatten.Perm (l ++ (rows.set i []).flatten)
  | r :: rows, 0, _, l => by simp
  | r :: rows, i + 1, h, l => by
    simp only [List.set_cons_succ, List.flatten_cons]
    refine ((flat_split rows i (by simpa using h) l).append_left r).trans ?_
    rw [← List.append_assoc, ← List.append_assoc]
    exact List.perm_append_comm.append_right _
theorem getD_lt2 {rows : List (List Tm)} {i : Nat} (h : i < rows.length) : rows.getD i [] = rows[i] := by simp [List.getD, h]
theorem set_self (rows : List (List Tm)) (i : Nat) (h : i < rows.length) : rows.set i (rows.getD i []) = rows := by
  rw [getD_lt2 h, List.set_getElem_self]
theorem flat_row (rows : List (List Tm)) (i : Nat) (h : i < rows.length) : rows.flatten.Perm (rows.getD i [] ++ (rows.set i []).flatten) := by
  have := flat_split rows i h (rows.getD i [])
  rwa [set_self rows i h] at this
def layR (now : Nat) (rows : List (List Tm)) (t : Tm) : List (List Tm) := rows.set (slotOf now t.due) (rows.getD (slotOf now t.due) [] ++ [t])
theorem layR_len (now : Nat) (rows : List (List Tm)) (t : Tm) : (layR now rows t).length = rows.length := by simp [layR]
theorem RI.lay {P : Nat → Nat → Prop} {rows : List (List Tm)} {D : List Tm} (h : RI P rows D) {now : Nat} {t : Tm} (ht : P (slotOf now t.due) t.due) : RI P (layR now rows t) (t :: D) := by
  have hl := h.len
  have hs := slotOf_lt now t.due
  refine ⟨by rw [layR_len, hl], ?_, fun i hi x hx => ?_⟩
  · unfold layR
    refine (flat_split rows _ (by omega) _).trans ?_
    refine (List.Perm.trans ?_ (List.Perm.cons t ((flat_row rows (slotOf now t.due) (by omega)).symm.trans h.perm)))
    rw [List.append_assoc]
    exact List.perm_middle
  · unfold layR at hx
    rw [getD_setR _ (by omega)] at hx
    split at hx
    · rename_i e
      rcases List.mem_append.1 hx with hx | hx
      · exact h.pl i hi x (by rw [e]; exact hx)
      · obtain rfl := List.mem_singleton.1 hx
        rw [e]; exact ht
    · exact h.pl i hi x hx
theorem RI.lays {P : Nat → Nat → Prop} {now : Nat} : ∀ (l : List Tm) {rows : List (List Tm)} {D : List Tm}, RI P rows D → (∀ t ∈ l, P (slotOf now t.due) t.due) → RI P (l.foldl (layR now) rows) (l.reverse ++ D)
  | [], _, _, h, _ => h
  | t :: l, rows, D, h, hl => by
    have := RI.lays l (h.lay (hl t (by simp))) fun x hx => hl x (by simp [hx])
    simpa using this
theorem RI.of_perm {P : Nat → Nat → Prop} {rows : List (List Tm)} {D D' : List Tm} (h : RI P rows D) (hp : D.Perm D') : RI P rows D' := ⟨h.len, h.perm.trans hp, h.pl⟩
theorem RI.mono {P P' : Nat → Nat → Prop} {rows : List (List Tm)} {D : List Tm} (h : RI P rows D) (hp : ∀ i, i < 65 → ∀ t ∈ rows.getD i [], P i t.due → P' i t.due) : RI P' rows D := ⟨h.len, h.perm, fun i hi t ht => hp i hi t ht (h.pl i hi t ht)⟩
theorem mem_row {P : Nat → Nat → Prop} {rows : List (List Tm)} {D : List Tm} (h : RI P rows D) {i : Nat} (hi : i < 65) {t : Tm} (ht : t ∈ rows.getD i []) : t ∈ D := by
  have hl := h.len
  exact h.perm.mem_iff.1 ((flat_row rows i (by omega)).mem_iff.2 (List.mem_append_left _ ht))
/-- A row is taken off and laid anew. -/
def relay (now : Nat) (rows : List (List Tm)) (i : Nat) : List (List Tm) := (rows.getD i []).foldl (layR now) (rows.set i [])
theorem RI.relay {P : Nat → Nat → Prop} {rows : List (List Tm)} {D : List Tm} (h : RI P rows D) {now i : Nat} (hi : i < 65) (hP : ∀ t ∈ rows.getD i [], P (slotOf now t.due) t.due) : RI P (relay now rows i) D := by
  have hl := h.len
  have h0 : RI P (rows.set i []) (rows.set i []).flatten := ⟨by simp [hl], List.Perm.refl _, fun j hj t ht => by
    rw [getD_setR _ (by omega)] at ht
    split at ht
    · cases ht
    · exact h.pl j hj t ht⟩
  refine (RI.lays _ h0 hP).of_perm (List.Perm.trans ?_ ((flat_row rows i (by omega)).symm.trans h.perm))
  exact (List.reverse_perm _).append_right _
/-- The row of a level that turns. -/
def turnI (now L : Nat) : Nat := if L < 4 then L * 16 + now / 16 ^ L % 16 else 64
def stepF (now : Nat) : Nat → Nat → List (List Tm) → List (List Tm)
  | 0, _, rows => rows
  | f + 1, L, rows => if now % 16 ^ L = 0 then stepF now f (L + 1) (relay now rows (turnI now L)) else rows
theorem RI.turn {rows : List (List Tm)} {D : List Tm} {now L : Nat} (h : RI (PlG now L) rows D) (hD : ∀ t ∈ D, now ≤ t.due) (h0 : 0 < now) (h1 : 1 ≤ L) (h4 : L ≤ 4) (hm : now % 16 ^ L = 0) : RI (PlG now (L + 1)) (Proofs.Ytphaicaobepimaa.relay now rows (turnI now L)) D := by
  have hi : turnI now L < 65 := by unfold turnI; split <;> omega
  have hl := h.len
  have key : ∀ j, j < 65 → ∀ t ∈ (rows.set (turnI now L) []).getD j [], PlG now (L + 1) j t.due := fun j hj t ht => by
    rw [getD_setR _ (by omega)] at ht
    split at ht
    · cases ht
    · rename_i hne
      have hp := h.pl j hj t ht
      unfold turnI at hne
      unfold PlG at hp ⊢
      obtain rfl | rfl | rfl | rfl : L = 1 ∨ L = 2 ∨ L = 3 ∨ L = 4 := by omega
      all_goals simp only [Nat.reducePow, Nat.reduceLT, ↓reduceIte, Nat.reduceMul, Nat.reduceAdd, Nat.reduceLeDiff] at hm hne hp ⊢
      all_goals (repeat' split) <;> (first | (rw [if_pos (by omega)] at hp; omega) | (rw [if_neg (by omega), if_pos (by omega)] at hp; omega) | (rw [if_neg (by omega), if_neg (by omega), if_pos (by omega)] at hp; omega) | (rw [if_neg (by omega), if_neg (by omega), if_neg (by omega), if_pos (by omega)] at hp; omega) | (rw [if_neg (by omega), if_neg (by omega), if_neg (by omega), if_neg (by omega)] at hp; omega))
  have hs : RI (PlG now (L + 1)) (rows.set (turnI now L) []) (rows.set (turnI now L) []).flatten := ⟨by simp [hl], List.Perm.refl _, key⟩
  have := RI.lays (rows.getD (turnI now L) []) hs (now := now) fun t ht => (slotOf_pl (hD t (mem_row h hi ht))).g
  refine this.of_perm (List.Perm.trans ?_ ((flat_row rows (turnI now L) (by omega)).symm.trans h.perm))
  exact (List.reverse_perm _).append_right _
theorem RI.done {rows : List (List Tm)} {D : List Tm} {now L : Nat} (h : RI (PlG now L) rows D) (h0 : 0 < now) (hL : 1 ≤ L) (hm : L ≤ 4 → now % 16 ^ L ≠ 0) : RI (Pl now) rows D := by
  refine h.mono fun i hi t ht hp => ?_
  unfold PlG at hp
  unfold Pl
  obtain rfl | rfl | rfl | rfl | h5 : L = 1 ∨ L = 2 ∨ L = 3 ∨ L = 4 ∨ 5 ≤ L := by omega
  all_goals try simp only [Nat.reducePow, Nat.reduceLeDiff, ne_eq, forall_const] at hm
  all_goals (repeat' split) <;> (first | (rw [if_pos (by omega)] at hp; omega) | (rw [if_neg (by omega), if_pos (by omega)] at hp; omega) | (rw [if_neg (by omega), if_neg (by omega), if_pos (by omega)] at hp; omega) | (rw [if_neg (by omega), if_neg (by omega), if_neg (by omega), if_pos (by omega)] at hp; omega) | (rw [if_neg (by omega), if_neg (by omega), if_neg (by omega), if_neg (by omega)] at hp; omega))
theorem RI.step {rows : List (List Tm)} {D : List Tm} {now : Nat} (hD : ∀ t ∈ D, now ≤ t.due) (h0 : 0 < now) : ∀ (f L : Nat) (rows : List (List Tm)), f + L = 5 → 1 ≤ L → RI (PlG now L) rows D → RI (Pl now) (stepF now f L rows) D
  | 0, L, rows, hf, hL, h => h.done h0 hL (by omega)
  | f + 1, L, rows, hf, hL, h => by
    unfold stepF
    split
    · rename_i hm
      exact RI.step (rows := rows) hD h0 f (L + 1) _ (by omega) (by omega) (h.turn hD h0 hL (by omega) hm)
    · rename_i hm
      exact h.done h0 hL fun _ => hm
/-- A tick. -/
theorem RI.tick {rows : List (List Tm)} {D : List Tm} {now : Nat} (h : RI (Pl now) rows D) (hD : ∀ t ∈ D, now < t.due) : RI (Pl (now + 1)) (stepF (now + 1) 4 1 rows) D :=
  RI.step (rows := rows) (fun t ht => hD t ht) (by omega) 4 1 rows rfl (by omega) (h.mono fun i hi t ht hp => hp.next (hD t (mem_row h hi ht)))
/-- All laid anew. -/
theorem RI.anew {D l : List Tm} {now : Nat} (hl : l.Perm D) (hD : ∀ t ∈ D, now ≤ t.due) : RI (Pl now) (l.foldl (layR now) (List.replicate 65 [])) D := by
  have h0 : RI (Pl now) (List.replicate 65 []) [] := ⟨by simp, by simp, fun i hi t ht => by
    have : (List.replicate 65 ([] : List Tm)).getD i [] = [] := by rw [List.getD, List.getElem?_replicate, if_pos hi]; rfl
    rw [this] at ht; cases ht⟩
  have := RI.lays l h0 (now := now) fun t ht => slotOf_pl (hD t (hl.mem_iff.1 ht))
  rw [List.append_nil] at this
  exact this.of_perm ((List.reverse_perm l).trans hl)
/-- What is due lies on one row. -/
theorem RI.now_row {rows : List (List Tm)} {D : List Tm} {now : Nat} (h : RI (Pl now) rows D) : (rows.getD (now % 16) []).Perm (D.filter fun t => t.due == now) ∧ RI (Pl now) (rows.set (now % 16) []) (D.filter fun t => !(t.due == now)) := by
  have hl := h.len
  have hi : now % 16 < 65 := by omega
  have e1 : (rows.getD (now % 16) []).filter (fun t => t.due == now) = rows.getD (now % 16) [] := List.filter_eq_self.2 fun t ht => by
    have := h.pl _ hi t ht
    unfold Pl at this
    rw [if_pos (by omega)] at this
    exact beq_iff_eq.2 (by omega)
  have off : ∀ t ∈ (rows.set (now % 16) []).flatten, t.due ≠ now := fun t ht e => by
    obtain ⟨r, hr, ht⟩ := List.mem_flatten.1 ht
    obtain ⟨j, hj, rfl⟩ := List.mem_iff_getElem.1 hr
    rw [List.length_set] at hj
    have hg : t ∈ (rows.set (now % 16) []).getD j [] := by rw [getD_lt2 (by rw [List.length_set]; exact hj)]; exact ht
    rw [getD_setR _ (by omega)] at hg
    split at hg
    · cases hg
    · rename_i hne
      have := h.pl j (by omega) t hg
      unfold Pl at this
      subst e
      (repeat' split at this) <;> omega
  have e2 : (rows.set (now % 16) []).flatten.filter (fun t => t.due == now) = [] := List.filter_eq_nil_iff.2 fun t ht => by simpa using off t ht
  have e3 : (rows.set (now % 16) []).flatten.filter (fun t => !(t.due == now)) = (rows.set (now % 16) []).flatten := List.filter_eq_self.2 fun t ht => by simpa using off t ht
  have e4 : (rows.getD (now % 16) []).filter (fun t => !(t.due == now)) = [] := List.filter_eq_nil_iff.2 fun t ht => by
    have := (List.filter_eq_self.1 e1) t ht
    simpa using this
  have hp := (flat_row rows (now % 16) (by omega)).symm.trans h.perm
  constructor
  · have := hp.filter fun t => t.due == now
    rwa [List.filter_append, e1, e2, List.append_nil] at this
  · refine ⟨by simp [hl], ?_, fun j hj t ht => ?_⟩
    · have := hp.filter fun t => !(t.due == now)
      rwa [List.filter_append, e3, e4, List.nil_append] at this
    · rw [getD_setR _ (by omega)] at ht
      split at ht
      · cases ht
      · exact h.pl j hj t ht
/-- Some are taken away. -/
theorem RI.filter {P : Nat → Nat → Prop} {rows : List (List Tm)} {D : List Tm} (h : RI P rows D) (p : Tm → Bool) : RI P (rows.map (List.filter p)) (D.filter p) := by
  refine ⟨by simp [h.len], ?_, fun i hi t ht => ?_⟩
  · rw [← List.filter_flatten]; exact h.perm.filter p
  · have hl := h.len
    rw [getD_lt2 (by simp; omega), List.getElem_map] at ht
    have := (List.mem_filter.1 ht).1
    rw [← getD_lt2 (by omega)] at this
    exact h.pl i hi t this
theorem RI.row_le {P : Nat → Nat → Prop} {rows : List (List Tm)} {D : List Tm} (h : RI P rows D) {i : Nat} (hi : i < 65) : (rows.getD i []).length ≤ D.length := by
  have hl := h.len
  have := ((flat_row rows i (by omega)).symm.trans h.perm).length_eq
  rw [List.length_append] at this
  omega
/-! ### The order -/
def leT (a b : Tm) : Bool := decide (a.due < b.due) || (a.due == b.due && decide (a.id ≤ b.id))
theorem leT_iff {a b : Tm} : leT a b = true ↔ a.due < b.due ∨ a.due = b.due ∧ a.id ≤ b.id := by simp [leT]
theorem leT_trans (a b c : Tm) (h1 : leT a b = true) (h2 : leT b c = true) : leT a c = true := by
  rw [leT_iff] at *; omega
theorem leT_total (a b : Tm) : (leT a b || leT b a) = true := by
  rw [Bool.or_eq_true, leT_iff, leT_iff]; omega
theorem leT_anti {a b : Tm} (h1 : leT a b = true) (h2 : leT b a = true) : a = b := by
  rw [leT_iff] at *
  cases a; cases b
  simp only [Tm.mk.injEq] at *
  omega
def srt (l : List Tm) : List Tm := l.mergeSort leT
theorem srt_perm (l : List Tm) : (srt l).Perm l := List.mergeSort_perm l leT
theorem srt_ord (l : List Tm) : (srt l).Pairwise fun a b => leT a b = true := List.pairwise_mergeSort leT_trans leT_total l
theorem srt_uniq {l m : List Tm} (hp : m.Perm l) (hm : m.Pairwise fun a b => leT a b = true) : srt l = m :=
  List.Perm.eq_of_pairwise (fun _ _ _ _ h1 h2 => leT_anti h1 h2) (srt_ord l) hm ((srt_perm l).trans hp.symm)
theorem srt_perm_eq {l m : List Tm} (hp : m.Perm l) : srt m = srt l := (srt_uniq ((srt_perm m).trans hp) (srt_ord m)).symm
/-- The numbers of those that are due up to a time, in the order in which they go off. -/
def outT (D : List Tm) (n : Nat) : List Int := (srt (D.filter fun t => decide (t.due < n))).map (·.id)
def isort (l : List Int) : List Int := l.mergeSort fun x y => decide (x ≤ y)
theorem isort_uniq {l m : List Int} (hp : m.Perm l) (hm : m.Pairwise (· ≤ ·)) : isort l = m := by
  refine List.Perm.eq_of_pairwise (le := fun a b : Int => a ≤ b) (fun _ _ _ _ h1 h2 => by omega) ?_ hm ((List.mergeSort_perm l _).trans hp.symm)
  have := List.pairwise_mergeSort (le := fun x y : Int => decide (x ≤ y)) (fun a b c h1 h2 => by simp at *; omega) (fun a b => by simp; omega) l
  exact this.imp fun h => by simpa using h
theorem pairwise_map_id {l : List Tm} {n : Nat} (hn : ∀ t ∈ l, t.due = n) (h : l.Pairwise fun a b => leT a b = true) : (l.map (·.id)).Pairwise (· ≤ ·) := by
  rw [List.pairwise_map]
  refine h.imp_of_mem fun {a b} ha hb hab => ?_
  have := hn a ha; have := hn b hb
  rw [leT_iff] at hab; omega
theorem outT_step (D : List Tm) (n : Nat) (l : List Tm) (hl : l.Perm (D.filter fun t => t.due == n)) : outT D (n + 1) = outT D n ++ isort (l.map (·.id)) := by
  have h1 : srt (D.filter fun t => decide (t.due < n + 1)) = srt (D.filter fun t => decide (t.due < n)) ++ srt (D.filter fun t => t.due == n) := by
    refine srt_uniq ?_ ?_
    · refine ((srt_perm _).append (srt_perm _)).trans ?_
      have := List.filter_append_perm (fun t : Tm => decide (t.due < n)) (D.filter fun t => decide (t.due < n + 1))
      rw [List.filter_filter, List.filter_filter] at this
      refine List.Perm.trans (List.Perm.of_eq ?_) this
      congr 1
      · exact List.filter_congr fun t _ => by by_cases h : t.due < n <;> simp [h] <;> omega
      · refine List.filter_congr fun t _ => ?_
        by_cases h : t.due = n
        · simp [h]
        · have : (t.due == n) = false := by simpa using h
          rw [this]
          by_cases h2 : t.due < n
          · simp [h2]
          · have h3 : ¬ t.due < n + 1 := by omega
            simp [h3]
    · refine List.pairwise_append.2 ⟨srt_ord _, srt_ord _, fun a ha b hb => ?_⟩
      have ha := (List.mem_filter.1 ((srt_perm _).mem_iff.1 ha)).2
      have hb := (List.mem_filter.1 ((srt_perm _).mem_iff.1 hb)).2
      rw [leT_iff]
      simp at ha hb; omega
  have h2 : isort (l.map (·.id)) = (srt (D.filter fun t => t.due == n)).map (·.id) :=
    isort_uniq (((srt_perm _).trans hl.symm).map _) (pairwise_map_id (n := n) (fun t ht => by
      have := (List.mem_filter.1 ((srt_perm _).mem_iff.1 ht)).2
      simpa using this) (srt_ord _))
  unfold outT
  rw [h1, List.map_append, h2]
theorem outT_skip (D : List Tm) {n m : Nat} (hnm : n ≤ m) (h : ∀ t ∈ D, n ≤ t.due → m ≤ t.due) : outT D m = outT D n := by
  unfold outT
  rw [List.filter_congr fun t ht => (by have := h t ht; by_cases h1 : t.due < n <;> by_cases h2 : t.due < m <;> simp [h1, h2] <;> omega : decide (t.due < m) = decide (t.due < n))]
theorem outT_none (D : List Tm) (n : Nat) (h : ∀ t ∈ D, n ≤ t.due) : outT D n = [] := by
  unfold outT
  rw [List.filter_eq_nil_iff.2 fun t ht => (by have := h t ht; simp; omega)]
  simp [srt]
end Go.Proofs.Ytphaicaobepimaa
