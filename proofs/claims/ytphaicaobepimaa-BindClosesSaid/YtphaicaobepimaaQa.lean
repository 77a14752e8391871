/- Pools, said plainly. No conditions but the ones that stand in each. -/
import Derived.Test.YtphaicaobepimaaE3
import Derived.Test.YtphaicaobepimaaB0
namespace Go.Proofs.Ytphaicaobepimaa
set_option linter.all false
set_option linter.unusedSimpArgs false
open Go.RowKit

theorem tmod_bdQ (k n : Int) (h : 0 < n) : -n < k.tmod n ∧ k.tmod n < n := by
  have h1 := Int.tmod_lt_of_pos k h
  have h2 := Int.tmod_lt_of_pos (-k) h
  rw [Int.neg_tmod] at h2
  omega
/-- A pool. -/
structure Pool where
  own : List Int
  dr : List Bool
structure Pool.wf (p : Pool) : Prop where
  own : p.own.length = 18
  dr : p.dr.length = 3
/-- the owners of an address. -/
def Pool.row (p : Pool) (a : Nat) : List Int := (p.own.drop (a * 6)).take 6
def goodI (n : Int) : Bool := decide (0 ≤ n) && decide (n ≤ 8)
def Pool.good (p : Pool) : Bool := p.own.all goodI
theorem row_length (p : Pool) (h : p.wf) (a : Nat) (ha : a < 3) : (p.row a).length = 6 := by
  simp [Pool.row, h.own]; omega
theorem row_get (p : Pool) (a j : Nat) (hj : j < 6) : (p.row a)[j]? = p.own[a * 6 + j]? := by
  simp [Pool.row, hj]
theorem good_all (p : Pool) (h : (p.own.take (6 * 3)).all goodI = true) (hp : p.wf) : p.good = true := by
  rw [List.take_of_length_le (by rw [hp.own]; omega)] at h; exact h
theorem good_not (p : Pool) (i : Nat) (x : Int) (hx : p.own[i]? = some x) (hb : goodI x = false) : p.good = false := by
  unfold Pool.good
  rw [List.all_eq_false]
  exact ⟨x, List.mem_of_getElem? hx, by simp [hb]⟩
theorem good_snoc (p : Pool) (i : Nat) (x : Int) (hx : p.own[i]? = some x) (h : (p.own.take i).all goodI = true) (hb : goodI x = true) : (p.own.take (i + 1)).all goodI = true := by
  rw [List.take_add_one, hx]
  simp only [List.all_append, h, Bool.true_and]
  simp [hb]
theorem goodI_lo (x : Int) (h : x < 0) : goodI x = false := by unfold goodI; simp; omega
theorem goodI_hi (x : Int) (h : 8 < x) : goodI x = false := by unfold goodI; simp; omega
theorem goodI_in (x : Int) (h0 : ¬ x < 0) (h : ¬ 8 < x) : goodI x = true := by unfold goodI; simp; omega
def addrB (a : Int) : Bool := decide (0 ≤ a) && decide (a < 3)
theorem emod_of_tmodP (k n : Int) (hn : 0 < n) : (if k.tmod n < 0 then k.tmod n + n else k.tmod n) = k % n := by
  rw [Int.tmod_eq_emod]
  have h1 := Int.emod_nonneg k (show n ≠ 0 by omega)
  have h2 := Int.emod_lt_of_pos k hn
  have e : (n.natAbs : Int) = n := by omega
  by_cases h : 0 ≤ k ∨ n ∣ k
  · rw [if_pos h]; simp; omega
  · rw [if_neg h, e]
    have : k % n ≠ 0 := fun h0 => h (.inr (Int.dvd_of_emod_eq_zero h0))
    rw [if_pos (by omega)]; omega
/-- how many of a row are nobody's. -/
def freeN (l : List Int) : Nat := l.countP (· == 0)
def Pool.left (p : Pool) (a : Int) : Nat := if addrB a = true then freeN (p.row a.toNat) else 0
theorem left_in (p : Pool) (a : Nat) (h : a < 3) : p.left a = freeN (p.row a) := by
  unfold Pool.left; rw [if_pos (by unfold addrB; simp; omega)]; simp
theorem left_out (p : Pool) (a : Int) (h : addrB a = false) : p.left a = 0 := by unfold Pool.left; rw [if_neg (by rw [h]; simp)]
theorem freeN_snoc (l : List Int) (m : Nat) (x : Int) (h : l[m]? = some x) : freeN (l.take (m + 1)) = freeN (l.take m) + (if x = 0 then 1 else 0) := by
  unfold freeN
  rw [List.take_add_one, h]
  simp [List.countP_append, List.countP_cons]
theorem freeN_le (l : List Int) (m : Nat) : freeN (l.take m) ≤ m := by
  unfold freeN
  have := List.countP_le_length (p := (· == 0)) (l := l.take m)
  have := List.length_take_le m l
  omega
def Pool.dra (p : Pool) (a : Nat) : Bool := p.dr.getD a false
/-- may a block be taken of it? -/
def Pool.open_ (p : Pool) (a : Nat) : Bool := !p.dra a && decide (0 < p.left a)
def Pool.opens (p : Pool) (k : Nat) : List Nat := (List.range k).filter p.open_
theorem opens_succ (p : Pool) (k : Nat) : p.opens (k + 1) = p.opens k ++ if p.open_ k then [k] else [] := by
  unfold Pool.opens; rw [List.range_succ, List.filter_append]; simp [List.filter_cons]
theorem opens_le (p : Pool) (k : Nat) : (p.opens k).length ≤ k := by
  have := List.length_filter_le p.open_ (List.range k); simpa [Pool.opens] using this
/-- What Pick answers. -/
def Pool.pick (p : Pool) (draw : Int) : Int × Int :=
  if p.good = true then (if (p.opens 3).length = 0 then (0, 10) else (((p.opens 3).getD (draw % ((p.opens 3).length : Int)).toNat 0 : Nat), 0)) else (0, 2)
/-- the places of a row that are nobody's. -/
def freB (l : List Int) (n : Nat) : List Nat := (List.range n).filter fun k => l.getD k 1 == 0
theorem freB_succ (l : List Int) (n : Nat) : freB l (n + 1) = freB l n ++ if l.getD n 1 = 0 then [n] else [] := by
  unfold freB; rw [List.range_succ, List.filter_append]; simp [List.filter_cons]
theorem freB_len (l : List Int) : ∀ n, n ≤ l.length → (freB l n).length = freeN (l.take n)
  | 0, _ => by simp [freB, freeN]
  | n + 1, h => by
    rw [freB_succ, List.length_append, freB_len l n (by omega), freeN_snoc l n l[n] (List.getElem?_eq_getElem (by omega))]
    have : l.getD n 1 = l[n] := by simp [show n < l.length by omega]
    rw [this]; split <;> simp
theorem freB_at (l : List Int) (m : Nat) (hm : m < l.length) (hx : l[m]? = some 0) : ∀ n, m < n → (freB l n)[freeN (l.take m)]? = some m
  | 0, h => by omega
  | n + 1, h => by
    rw [freB_succ]
    by_cases e : m = n
    · subst e
      have : l.getD m 1 = 0 := by simp [hx]
      rw [List.getElem?_append_right (by rw [freB_len l m (by omega)]; omega), freB_len l m (by omega), this]
      simp
    · have ih := freB_at l m hm hx n (by omega)
      rw [List.getElem?_append_left (List.getElem?_eq_some_iff.1 ih).1]
      exact ih
def Pool.put (p : Pool) (a k : Nat) (o : Int) : Pool := { p with own := p.own.set (a * 6 + k) o }
theorem Pool.put_wf (p : Pool) (hp : p.wf) (a k : Nat) (o : Int) : (p.put a k o).wf := ⟨by simp [Pool.put, hp.own], hp.dr⟩
/-- the block that a draw names. -/
def Pool.kth (p : Pool) (a : Nat) (draw : Int) : Nat := (freB (p.row a) 6).getD (draw % (p.left a : Int)).toNat 0
/-- What Take answers. -/
def Pool.take (p : Pool) (s a draw : Int) : Pool × Int × Int :=
  if p.good = true then
    (if addrB a = true ∧ 0 ≤ s ∧ s < 8 then
      (if p.dra a.toNat = true then (p, 0, 9) else
        (if p.left a = 0 then (p, 0, 10) else (p.put a.toNat (p.kth a.toNat draw) (s + 1), (p.kth a.toNat draw : Nat), 0)))
    else (p, 0, 7))
  else (p, 0, 2)
/-- the owner of a block. -/
def Pool.ow (p : Pool) (a k : Nat) : Int := p.own.getD (a * 6 + k) 0
theorem Pool.ow_good (p : Pool) (h : p.good = true) (a k : Nat) : 0 ≤ p.ow a k ∧ p.ow a k ≤ 8 := by
  unfold Pool.ow
  by_cases hi : a * 6 + k < p.own.length
  · have := List.all_eq_true.1 h p.own[a * 6 + k] (List.getElem_mem hi)
    unfold goodI at this
    simp at this
    simp [hi]; omega
  · simp [Nat.le_of_not_lt hi]
/-- What Give answers. -/
def Pool.give (p : Pool) (s a b : Int) : Pool × Int :=
  if p.good = true then (if addrB a = true ∧ 0 ≤ b ∧ b < 6 ∧ 0 ≤ s ∧ p.ow a.toNat b.toNat = s + 1 then (p.put a.toNat b.toNat 0, 0) else (p, 7)) else (p, 2)
def Pool.putD (p : Pool) (a : Nat) (to : Bool) : Pool := { p with dr := p.dr.set a to }
theorem Pool.putD_wf (p : Pool) (hp : p.wf) (a : Nat) (to : Bool) : (p.putD a to).wf := ⟨hp.own, by simp [Pool.putD, hp.dr]⟩
/-- What Drain and Undrain answer. -/
def Pool.drain (p : Pool) (a : Int) (to : Bool) : Pool × Int :=
  if addrB a = true then (if p.dra a.toNat = to then (p, 8) else (p.putD a.toNat to, 0)) else (p, 7)
def Pool.emp (p : Pool) (a : Int) : Bool := addrB a && p.dra a.toNat && p.left a == 6
theorem Pool.drain_wf (p : Pool) (hp : p.wf) (a : Int) (to : Bool) : (p.drain a to).1.wf := by
  unfold Pool.drain
  split
  · split
    · exact hp
    · exact p.putD_wf hp _ _
  · exact hp
theorem Pool.give_wf (p : Pool) (hp : p.wf) (s a b : Int) : (p.give s a b).1.wf := by
  unfold Pool.give
  split
  · split
    · exact p.put_wf hp _ _ _
    · exact hp
  · exact hp
theorem Pool.take_wf (p : Pool) (hp : p.wf) (s a d : Int) : (p.take s a d).1.wf := by
  unfold Pool.take
  split
  · split
    · split
      · exact hp
      · split
        · exact hp
        · exact p.put_wf hp _ _ _
    · exact hp
  · exact hp
theorem addr_nat (a : Int) (h : addrB a = true) : ∃ k : Nat, a = k ∧ k < 3 := by
  unfold addrB at h; simp at h
  exact ⟨a.toNat, by omega, by omega⟩
theorem addr_in (k : Nat) (h : k < 3) : addrB (k : Int) = true := by unfold addrB; simp; omega
/-- the free blocks of an address. -/
def Pool.frees (p : Pool) (a : Int) : List Nat := if addrB a = true then freB (p.row a.toNat) 6 else []
theorem frees_len (p : Pool) (hp : p.wf) (a : Int) : (p.frees a).length = p.left a := by
  unfold Pool.frees Pool.left
  split
  · rename_i h
    obtain ⟨k, rfl, hk⟩ := addr_nat a h
    rw [Int.toNat_natCast, freB_len _ 6 (by rw [row_length p hp k hk]; omega), List.take_of_length_le (by rw [row_length p hp k hk]; omega)]
  · rfl
theorem freB_length_le (l : List Int) (n : Nat) : (freB l n).length ≤ n := by
  have := List.length_filter_le (fun k => l.getD k 1 == 0) (List.range n); simpa [freB] using this
theorem emod_of_tmod2 (k n : Int) (hn : 0 < n) : (k.tmod n + n) % n = k % n := by
  have h := emod_of_tmodP k n hn
  have hb := tmod_bdQ k n hn
  have h1 := hb.1
  have h2 := hb.2
  rw [Int.add_emod_right]
  by_cases hlt : k.tmod n < 0
  · rw [if_pos hlt] at h
    rw [← h, ← Int.add_emod_right]
    exact Int.emod_eq_of_lt (by omega) (by omega)
  · rw [if_neg hlt] at h
    rw [← h]
    exact Int.emod_eq_of_lt (by omega) (by omega)
theorem frees_in (p : Pool) (k : Nat) (hk : k < 3) : p.frees (k : Int) = freB (p.row k) 6 := by unfold Pool.frees; rw [if_pos (addr_in k hk)]; rfl
theorem freB_lt (l : List Int) (n i : Nat) (h : i < (freB l n).length) : (freB l n).getD i 0 < n := by
  have h2 : (freB l n).getD i 0 ∈ freB l n := by
    rw [List.getD_eq_getElem?_getD, List.getElem?_eq_getElem h]; exact List.getElem_mem h
  generalize (freB l n).getD i 0 = x at h2
  unfold freB at h2
  exact List.mem_range.1 (List.mem_filter.1 h2).1
theorem row_put (p : Pool) (a k : Nat) (o : Int) (hk : k < 6) : (p.put a k o).row a = (p.row a).set k o := by
  unfold Pool.row Pool.put
  rw [List.drop_set, if_neg (by omega), show a * 6 + k - a * 6 = k by omega, List.take_set]
theorem row_put_ne (p : Pool) (a b k : Nat) (o : Int) (hk : k < 6) (h : b ≠ a) : (p.put a k o).row b = p.row b := by
  unfold Pool.row Pool.put
  apply List.ext_getElem?
  intro j
  by_cases hj : j < 6
  · rw [List.getElem?_take_of_lt hj, List.getElem?_take_of_lt hj, List.getElem?_drop, List.getElem?_drop, List.getElem?_set_ne (by omega)]
  · rw [List.getElem?_eq_none (by simp; omega), List.getElem?_eq_none (by simp; omega)]
theorem ow_put (p : Pool) (hp : p.wf) (a k : Nat) (o : Int) (ha : a < 3) (hk : k < 6) : (p.put a k o).ow a k = o := by
  unfold Pool.ow Pool.put
  have : a * 6 + k < p.own.length := by rw [hp.own]; omega
  simp [this]
theorem ow_put_ne (p : Pool) (a k b j : Nat) (o : Int) (h : b * 6 + j ≠ a * 6 + k) : (p.put a k o).ow b j = p.ow b j := by
  unfold Pool.ow Pool.put
  simp [List.getD_eq_getElem?_getD, List.getElem?_set_ne (Ne.symm h)]
theorem put_put (p : Pool) (a k : Nat) (o o' : Int) : (p.put a k o).put a k o' = p.put a k o' := by
  unfold Pool.put; simp [List.set_set]
theorem put_self (p : Pool) (a k : Nat) : p.put a k (p.ow a k) = p := by
  unfold Pool.put Pool.ow
  obtain ⟨own, dr⟩ := p
  simp only [Pool.mk.injEq, and_true]
  apply List.ext_getElem?
  intro j
  by_cases e : j = a * 6 + k
  · subst e
    by_cases h : a * 6 + k < own.length
    · rw [List.getElem?_set_self h]; simp [h]
    · rw [List.getElem?_eq_none (by simpa using h), List.getElem?_eq_none (by simpa using h)]
  · rw [List.getElem?_set_ne (fun h => e h.symm)]
theorem row_ow (p : Pool) (hp : p.wf) (a k : Nat) (ha : a < 3) (hk : k < 6) : (p.row a)[k]? = some (p.ow a k) := by
  rw [row_get p a k hk]
  have : a * 6 + k < p.own.length := by rw [hp.own]; omega
  unfold Pool.ow
  simp [this]
theorem kth_free (p : Pool) (hp : p.wf) (a : Nat) (draw : Int) (ha : a < 3) (hl : p.left a ≠ 0) : p.kth a draw < 6 ∧ p.ow a (p.kth a draw) = 0 := by
  have hlen : (freB (p.row a) 6).length = p.left a := by
    rw [freB_len _ 6 (by rw [row_length p hp a ha]; omega), left_in p a ha, List.take_of_length_le (by rw [row_length p hp a ha]; omega)]
  have hm : (draw % (p.left a : Int)).toNat < (freB (p.row a) 6).length := by
    have m0 := Int.emod_nonneg draw (show (p.left a : Int) ≠ 0 by omega)
    have m1 := Int.emod_lt_of_pos draw (show (0 : Int) < p.left a by omega)
    rw [hlen]; omega
  have hk : p.kth a draw < 6 := freB_lt _ _ _ hm
  refine ⟨hk, ?_⟩
  have h2 : p.kth a draw ∈ freB (p.row a) 6 := by
    unfold Pool.kth
    rw [List.getD_eq_getElem?_getD, List.getElem?_eq_getElem hm]; exact List.getElem_mem hm
  generalize p.kth a draw = x at hk h2 ⊢
  unfold freB at h2
  have h3 := (List.mem_filter.1 h2).2
  have h4 := row_ow p hp a x ha hk
  rw [List.getD_eq_getElem?_getD, h4] at h3
  simpa using h3
theorem good_put (p : Pool) (hg : p.good = true) (a k : Nat) (o : Int) (h0 : 0 ≤ o) (h8 : o ≤ 8) : (p.put a k o).good = true := by
  unfold Pool.good Pool.put at *
  rw [List.all_eq_true] at *
  intro x hx
  rcases List.mem_or_eq_of_mem_set hx with h | h
  · exact hg x h
  · subst h; unfold goodI; simp; omega
theorem left_put (p : Pool) (hp : p.wf) (a k : Nat) (o : Int) (ha : a < 3) (hk : k < 6) (h0 : p.ow a k = 0) (ho : o ≠ 0) : p.left a = (p.put a k o).left a + 1 := by
  rw [left_in p a ha, left_in _ a ha, row_put p a k o hk]
  have hr := row_ow p hp a k ha hk
  have hl : k < (p.row a).length := by rw [row_length p hp a ha]; exact hk
  have hx : (p.row a)[k] = 0 := by rw [List.getElem?_eq_getElem hl, h0] at hr; simpa using hr
  unfold freeN
  rw [List.countP_set hl]
  have hpos : 0 < (p.row a).countP (· == 0) := List.countP_pos_iff.2 ⟨(p.row a)[k], List.getElem_mem hl, by simp [hx]⟩
  simp [hx, ho]; omega
/-- What is known behind a Take. -/
inductive Taken (p : Pool) (s a : Int) : Pool × Int × Int → Prop
  | no (e : Int) (he : e ≠ 0) : Taken p s a (p, 0, e)
  | yes (b k : Nat) (ha : a = b) (hb : b < 3) (hk : k < 6) (h0 : 0 ≤ s) (h8 : s < 8) (hg : p.good = true) (hd : p.dra b = false) (hl : p.left b ≠ 0) (ho : p.ow b k = 0) : Taken p s a (p.put b k (s + 1), (k : Int), 0)
theorem taken (p : Pool) (hp : p.wf) (s a draw : Int) : Taken p s a (p.take s a draw) := by
  unfold Pool.take
  split
  · rename_i hg
    split
    · rename_i h
      obtain ⟨b, rfl, hb⟩ := addr_nat a h.1
      rw [show ((b : Int)).toNat = b by omega]
      split
      · exact .no 9 (by decide)
      · rename_i hd
        split
        · exact .no 10 (by decide)
        · rename_i hl
          obtain ⟨hk, ho⟩ := kth_free p hp b draw hb hl
          exact .yes b _ rfl hb hk h.2.1 h.2.2 hg (by simpa using hd) hl ho
    · exact .no 7 (by decide)
  · exact .no 2 (by decide)
/-- what was taken is given back. -/
theorem give_taken (p : Pool) (hp : p.wf) (s : Int) (b k : Nat) (hb : b < 3) (hk : k < 6) (h0 : 0 ≤ s) (h8 : s < 8) (hg : p.good = true) (ho : p.ow b k = 0) : (p.put b k (s + 1)).give s b k = (p, 0) := by
  unfold Pool.give
  rw [if_pos (good_put p hg b k _ (by omega) (by omega)), if_pos ⟨addr_in b hb, by omega, by omega, h0, by simpa using ow_put p hp b k _ hb hk⟩]
  have e := put_self p b k
  rw [ho] at e
  simp [put_put, e]
theorem give_other (p : Pool) (hp : p.wf) (s : Int) (b k : Nat) (hb : b < 3) (hk : k < 6) (h0 : 0 ≤ s) (h8 : s < 8) (hg : p.good = true) : (p.put b k (s + 1)).give ((s + 1) % 8) b k = (p.put b k (s + 1), 7) := by
  unfold Pool.give
  rw [if_pos (good_put p hg b k _ (by omega) (by omega)), if_neg]
  rintro ⟨_, _, _, _, h⟩
  simp only [Int.toNat_natCast] at h
  rw [ow_put p hp b k _ hb hk] at h
  omega
/-- What is known behind a Drain. -/
inductive Drained (p : Pool) (a : Int) : Pool × Int → Prop
  | no (e : Int) (he : e ≠ 0) : Drained p a (p, e)
  | yes (b : Nat) (ha : a = b) (hb : b < 3) (hd : p.dra b = false) : Drained p a (p.putD b true, 0)
theorem drained (p : Pool) (a : Int) : Drained p a (p.drain a true) := by
  unfold Pool.drain
  split
  · rename_i h
    obtain ⟨b, rfl, hb⟩ := addr_nat a h
    rw [show ((b : Int)).toNat = b by omega]
    split
    · exact .no 8 (by decide)
    · rename_i hd
      exact .yes b rfl hb (by simpa using hd)
  · exact .no 7 (by decide)
theorem dra_putD (p : Pool) (hp : p.wf) (b : Nat) (hb : b < 3) (to : Bool) : (p.putD b to).dra b = to := by
  unfold Pool.dra Pool.putD
  have : b < p.dr.length := by rw [hp.dr]; exact hb
  simp [this]
theorem dra_putD_ne (p : Pool) (b c : Nat) (h : c ≠ b) (to : Bool) : (p.putD b to).dra c = p.dra c := by
  unfold Pool.dra Pool.putD
  simp [List.getD_eq_getElem?_getD, List.getElem?_set_ne (Ne.symm h)]
theorem putD_back (p : Pool) (b : Nat) (to : Bool) (hd : p.dra b = false) : (p.putD b to).putD b false = p := by
  unfold Pool.putD Pool.dra at *
  obtain ⟨own, dr⟩ := p
  simp only [List.set_set, Pool.mk.injEq, true_and] at *
  apply List.ext_getElem?
  intro j
  by_cases e : j = b
  · subst e
    by_cases h : j < dr.length
    · rw [List.getElem?_set_self h]; simpa [h] using hd.symm
    · rw [List.getElem?_eq_none (by simpa using h), List.getElem?_eq_none (by simpa using h)]
  · rw [List.getElem?_set_ne (fun h => e h.symm)]
theorem left_putD (p : Pool) (b : Nat) (to : Bool) (a : Int) : (p.putD b to).left a = p.left a := rfl
theorem undrain_back (p : Pool) (hp : p.wf) (b : Nat) (hb : b < 3) (hd : p.dra b = false) : (p.putD b true).drain b false = (p, 0) := by
  unfold Pool.drain
  rw [if_pos (addr_in b hb), show ((b : Int)).toNat = b by omega, dra_putD p hp b hb true, if_neg (by simp), putD_back p b true hd]
theorem take_drained (p : Pool) (hp : p.wf) (b : Nat) (hb : b < 3) (draw : Int) (hg : p.good = true) : (p.putD b true).take 0 b draw = (p.putD b true, 0, 9) := by
  unfold Pool.take
  rw [if_pos (show (p.putD b true).good = true from hg), if_pos ⟨addr_in b hb, by omega, by omega⟩, show ((b : Int)).toNat = b by omega, dra_putD p hp b hb true, if_pos rfl]
/-- What is known behind a Pick. -/
inductive Picked (p : Pool) : Int × Int → Prop
  | no (e : Int) (he : e ≠ 0) : Picked p (0, e)
  | yes (b : Nat) (hb : b < 3) (hg : p.good = true) (hd : p.dra b = false) (hl : 0 < p.left b) : Picked p ((b : Int), 0)
theorem picked (p : Pool) (draw : Int) : Picked p (p.pick draw) := by
  unfold Pool.pick
  split
  · rename_i hg
    split
    · exact .no 10 (by decide)
    · rename_i hl
      have hm : (draw % ((p.opens 3).length : Int)).toNat < (p.opens 3).length := by
        have m0 := Int.emod_nonneg draw (show ((p.opens 3).length : Int) ≠ 0 by omega)
        have m1 := Int.emod_lt_of_pos draw (show (0 : Int) < (p.opens 3).length by omega)
        omega
      have h2 : (p.opens 3).getD (draw % ((p.opens 3).length : Int)).toNat 0 ∈ p.opens 3 := by
        rw [List.getD_eq_getElem?_getD, List.getElem?_eq_getElem hm]; exact List.getElem_mem hm
      generalize (p.opens 3).getD (draw % ((p.opens 3).length : Int)).toNat 0 = x at h2
      unfold Pool.opens at h2
      have h3 := List.mem_filter.1 h2
      have h4 := h3.2
      unfold Pool.open_ at h4
      simp at h4
      exact .yes x (List.mem_range.1 h3.1) hg h4.1 h4.2
  · exact .no 2 (by decide)
def Pool.enc (p : Pool) : List AV := ints p.own ++ bools p.dr
theorem Pool.enc_len {p : Pool} (h : p.wf) : p.enc.length = 21 := by simp [Pool.enc, ints, bools, h.own, h.dr]
theorem Pool.enc_nm (p : Pool) (n : Nat) : nmAll n p.enc = True := by simp only [Pool.enc, nm_app, nm_ints, nm_bools, and_self]
theorem Pool.enc_dr {p : Pool} (h : p.wf) {b : Nat} (hb : b < 3) : p.enc.getD (18 + b) .any = .bool (p.dra b) := by
  unfold Pool.enc Pool.dra
  have e : (ints p.own ++ bools p.dr)[18 + b]? = (bools p.dr)[b]? := by
    rw [List.getElem?_append_right (by rw [ints_len, h.own]; omega), ints_len, h.own, show 18 + b - 18 = b by omega]
  have := bools_get (l := p.dr) (i := b) (by rw [h.dr]; exact hb)
  simp only [List.getD] at this ⊢
  rw [e, this]
def Pool.ks : List SK := List.replicate 18 (.int .i64) ++ List.replicate 3 .bool
theorem Pool.enc_kinds {p : Pool} (h : p.wf) : p.enc.map kindA = Pool.ks.map some := by
  have e1 : (ints p.own).map kindA = (List.replicate 18 (SK.int .i64)).map some := by
    rw [← h.own]; apply List.ext_getElem <;> simp [ints, kindA]
  have e2 : (bools p.dr).map kindA = (List.replicate 3 SK.bool).map some := by
    rw [← h.dr]; apply List.ext_getElem <;> simp [bools, kindA]
  rw [Pool.enc, Pool.ks, List.map_append, List.map_append, e1, e2]
theorem Pool.enc_rens (p : Pool) (ρ : Nat → Nat) : rens ρ p.enc = p.enc := by simp only [Pool.enc, rens_app, rens_ints, rens_bools]
theorem Pool.enc_frz (p : Pool) (s : FS) : p.enc.map (frzS s) = p.enc := by simp only [Pool.enc, List.map_append, frz_ints, frz_bools]
attribute [go_sem] Pool.enc_nm Pool.enc_rens Pool.enc_frz
end Go.Proofs.Ytphaicaobepimaa
