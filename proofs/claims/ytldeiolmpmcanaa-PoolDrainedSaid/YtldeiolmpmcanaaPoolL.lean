/- Plain laws of pools. No conditions but the ones that stand in each. -/
import Derived.Test.YtldeiolmpmcanaaPool8
namespace Go.Proofs.Ytldeiolmpmcanaa
open Go.RowKit

theorem row_put (p : Pool) (a k : Nat) (o : Int) (hk : k < 6) : (p.put a k o).row a = (p.row a).set k o := by
  unfold Pool.row Pool.put
  rw [List.drop_set, if_neg (by omega), show a * 6 + k - a * 6 = k by omega, List.take_set]
theorem row_put_ne (p : Pool) (a b k : Nat) (o : Int) (hk : k < 6) (h : b ≠ a) : (p.put a k o).row b = p.row b := by
  unfold Pool.row Pool.put
  apply List.ext_getElem?
  intro j
  by_cases hj : j < 6
  · rw [List.getElem?_take_of_lt hj, List.getElem?_take_of_lt hj, List.getElem?_drop, List.getElem?_drop, List.getElem?_set_ne (by omega)]
  · rw [List.getElem?_eq_none (by simp; omega), List.getElem?_eq_none (by simp; omega)]
theorem ow_put (p : Pool) (hp : p.wf) (a k : Nat) (o : Int) (ha : a < 3) (hk : k < 6) : (p.put a k o).ow a k = o := by
  unfold Pool.ow Pool.put
  have : a * 6 + k < p.own.length := by rw [hp.own]; omega
  simp [this]
theorem ow_put_ne (p : Pool) (a k b j : Nat) (o : Int) (h : b * 6 + j ≠ a * 6 + k) : (p.put a k o).ow b j = p.ow b j := by
  unfold Pool.ow Pool.put
  simp [List.getD_eq_getElem?_getD, List.getElem?_set_ne (Ne.symm h)]
theorem put_put (p : Pool) (a k : Nat) (o o' : Int) : (p.put a k o).put a k o' = p.put a k o' := by
  unfold Pool.put; simp [List.set_set]
theorem put_self (p : Pool) (a k : Nat) : p.put a k (p.ow a k) = p := by
  unfold Pool.put Pool.ow
  obtain ⟨own, dr⟩ := p
  simp only [Pool.mk.injEq, and_true]
  apply List.ext_getElem?
  intro j
  by_cases e : j = a * 6 + k
  · subst e
    by_cases h : a * 6 + k < own.length
    · rw [List.getElem?_set_self h]; simp [h]
    · rw [List.getElem?_eq_none (by simpa using h), List.getElem?_eq_none (by simpa using h)]
  · rw [List.getElem?_set_ne (fun h => e h.symm)]
theorem row_ow (p : Pool) (hp : p.wf) (a k : Nat) (ha : a < 3) (hk : k < 6) : (p.row a)[k]? = some (p.ow a k) := by
  rw [row_get p a k hk]
  have : a * 6 + k < p.own.length := by rw [hp.own]; omega
  unfold Pool.ow
  simp [this]
theorem kth_free (p : Pool) (hp : p.wf) (a : Nat) (draw : Int) (ha : a < 3) (hl : p.left a ≠ 0) : p.kth a draw < 6 ∧ p.ow a (p.kth a draw) = 0 := by
  have hlen : (freeL (p.row a) 6).length = p.left a := by
    rw [freeL_len _ 6 (by rw [row_length p hp a ha]; omega), left_in p a ha, List.take_of_length_le (by rw [row_length p hp a ha]; omega)]
  have hm : (draw % (p.left a : Int)).toNat < (freeL (p.row a) 6).length := by
    have m0 := Int.emod_nonneg draw (show (p.left a : Int) ≠ 0 by omega)
    have m1 := Int.emod_lt_of_pos draw (show (0 : Int) < p.left a by omega)
    rw [hlen]; omega
  have hk : p.kth a draw < 6 := freeL_lt _ _ _ hm
  refine ⟨hk, ?_⟩
  have h2 : p.kth a draw ∈ freeL (p.row a) 6 := by
    unfold Pool.kth
    rw [List.getD_eq_getElem?_getD, List.getElem?_eq_getElem hm]; exact List.getElem_mem hm
  generalize p.kth a draw = x at hk h2 ⊢
  unfold freeL at h2
  have h3 := (List.mem_filter.1 h2).2
  have h4 := row_ow p hp a x ha hk
  rw [List.getD_eq_getElem?_getD, h4] at h3
  simpa using h3
theorem good_put (p : Pool) (hg : p.good = true) (a k : Nat) (o : Int) (h0 : 0 ≤ o) (h8 : o ≤ 8) : (p.put a k o).good = true := by
  unfold Pool.good Pool.put at *
  rw [List.all_eq_true] at *
  intro x hx
  rcases List.mem_or_eq_of_mem_set hx with h | h
  · exact hg x h
  · subst h; unfold goodI; simp; omega
theorem left_put (p : Pool) (hp : p.wf) (a k : Nat) (o : Int) (ha : a < 3) (hk : k < 6) (h0 : p.ow a k = 0) (ho : o ≠ 0) : p.left a = (p.put a k o).left a + 1 := by
  rw [left_in p a ha, left_in _ a ha, row_put p a k o hk]
  have hr := row_ow p hp a k ha hk
  have hl : k < (p.row a).length := by rw [row_length p hp a ha]; exact hk
  have hx : (p.row a)[k] = 0 := by rw [List.getElem?_eq_getElem hl, h0] at hr; simpa using hr
  unfold freeN
  rw [List.countP_set hl]
  have hpos : 0 < (p.row a).countP (· == 0) := List.countP_pos_iff.2 ⟨(p.row a)[k], List.getElem_mem hl, by simp [hx]⟩
  simp [hx, ho]; omega
/-- What is known behind a Take. -/
inductive Taken (p : Pool) (s a : Int) : Pool × Int × Int → Prop
  | no (e : Int) (he : e ≠ 0) : Taken p s a (p, 0, e)
  | yes (b k : Nat) (ha : a = b) (hb : b < 3) (hk : k < 6) (h0 : 0 ≤ s) (h8 : s < 8) (hg : p.good = true) (hd : p.dra b = false) (hl : p.left b ≠ 0) (ho : p.ow b k = 0) : Taken p s a (p.put b k (s + 1), (k : Int), 0)
theorem taken (p : Pool) (hp : p.wf) (s a draw : Int) : Taken p s a (p.take s a draw) := by
  unfold Pool.take
  split
  · rename_i hg
    split
    · rename_i h
      obtain ⟨b, rfl, hb⟩ := addr_nat a h.1
      rw [show ((b : Int)).toNat = b by omega]
      split
      · exact .no 9 (by decide)
      · rename_i hd
        split
        · exact .no 10 (by decide)
        · rename_i hl
          obtain ⟨hk, ho⟩ := kth_free p hp b draw hb hl
          exact .yes b _ rfl hb hk h.2.1 h.2.2 hg (by simpa using hd) hl ho
    · exact .no 7 (by decide)
  · exact .no 2 (by decide)
/-- what was taken is given back. -/
theorem give_taken (p : Pool) (hp : p.wf) (s : Int) (b k : Nat) (hb : b < 3) (hk : k < 6) (h0 : 0 ≤ s) (h8 : s < 8) (hg : p.good = true) (ho : p.ow b k = 0) : (p.put b k (s + 1)).give s b k = (p, 0) := by
  unfold Pool.give
  rw [if_pos (good_put p hg b k _ (by omega) (by omega)), if_pos ⟨addr_in b hb, by omega, by omega, h0, by simpa using ow_put p hp b k _ hb hk⟩]
  have e := put_self p b k
  rw [ho] at e
  simp [put_put, e]
theorem give_other (p : Pool) (hp : p.wf) (s : Int) (b k : Nat) (hb : b < 3) (hk : k < 6) (h0 : 0 ≤ s) (h8 : s < 8) (hg : p.good = true) : (p.put b k (s + 1)).give ((s + 1) % 8) b k = (p.put b k (s + 1), 7) := by
  unfold Pool.give
  rw [if_pos (good_put p hg b k _ (by omega) (by omega)), if_neg]
  rintro ⟨_, _, _, _, h⟩
  simp only [Int.toNat_natCast] at h
  rw [ow_put p hp b k _ hb hk] at h
  omega
/-- What is known behind a Drain. -/
inductive Drained (p : Pool) (a : Int) : Pool × Int → Prop
  | no (e : Int) (he : e ≠ 0) : Drained p a (p, e)
  | yes (b : Nat) (ha : a = b) (hb : b < 3) (hd : p.dra b = false) : Drained p a (p.putD b true, 0)
theorem drained (p : Pool) (a : Int) : Drained p a (p.drain a true) := by
  unfold Pool.drain
  split
  · rename_i h
    obtain ⟨b, rfl, hb⟩ := addr_nat a h
    rw [show ((b : Int)).toNat = b by omega]
    split
    · exact .no 8 (by decide)
    · rename_i hd
      exact .yes b rfl hb (by simpa using hd)
  · exact .no 7 (by decide)
theorem dra_putD (p : Pool) (hp : p.wf) (b : Nat) (hb : b < 3) (to : Bool) : (p.putD b to).dra b = to := by
  unfold Pool.dra Pool.putD
  have : b < p.dr.length := by rw [hp.dr]; exact hb
  simp [this]
theorem dra_putD_ne (p : Pool) (b c : Nat) (h : c ≠ b) (to : Bool) : (p.putD b to).dra c = p.dra c := by
  unfold Pool.dra Pool.putD
  simp [List.getD_eq_getElem?_getD, List.getElem?_set_ne (Ne.symm h)]
theorem putD_back (p : Pool) (b : Nat) (to : Bool) (hd : p.dra b = false) : (p.putD b to).putD b false = p := by
  unfold Pool.putD Pool.dra at *
  obtain ⟨own, dr⟩ := p
  simp only [List.set_set, Pool.mk.injEq, true_and] at *
  apply List.ext_getElem?
  intro j
  by_cases e : j = b
  · subst e
    by_cases h : j < dr.length
    · rw [List.getElem?_set_self h]; simpa [h] using hd.symm
    · rw [List.getElem?_eq_none (by simpa using h), List.getElem?_eq_none (by simpa using h)]
  · rw [List.getElem?_set_ne (fun h => e h.symm)]
theorem left_putD (p : Pool) (b : Nat) (to : Bool) (a : Int) : (p.putD b to).left a = p.left a := rfl
theorem undrain_back (p : Pool) (hp : p.wf) (b : Nat) (hb : b < 3) (hd : p.dra b = false) : (p.putD b true).drain b false = (p, 0) := by
  unfold Pool.drain
  rw [if_pos (addr_in b hb), show ((b : Int)).toNat = b by omega, dra_putD p hp b hb true, if_neg (by simp), putD_back p b true hd]
theorem take_drained (p : Pool) (hp : p.wf) (b : Nat) (hb : b < 3) (draw : Int) (hg : p.good = true) : (p.putD b true).take 0 b draw = (p.putD b true, 0, 9) := by
  unfold Pool.take
  rw [if_pos (show (p.putD b true).good = true from hg), if_pos ⟨addr_in b hb, by omega, by omega⟩, show ((b : Int)).toNat = b by omega, dra_putD p hp b hb true, if_pos rfl]
/-- What is known behind a Pick. -/
inductive Picked (p : Pool) : Int × Int → Prop
  | no (e : Int) (he : e ≠ 0) : Picked p (0, e)
  | yes (b : Nat) (hb : b < 3) (hg : p.good = true) (hd : p.dra b = false) (hl : 0 < p.left b) : Picked p ((b : Int), 0)
theorem picked (p : Pool) (draw : Int) : Picked p (p.pick draw) := by
  unfold Pool.pick
  split
  · rename_i hg
    split
    · exact .no 10 (by decide)
    · rename_i hl
      have hm : (draw % ((p.opens 3).length : Int)).toNat < (p.opens 3).length := by
        have m0 := Int.emod_nonneg draw (show ((p.opens 3).length : Int) ≠ 0 by omega)
        have m1 := Int.emod_lt_of_pos draw (show (0 : Int) < (p.opens 3).length by omega)
        omega
      have h2 : (p.opens 3).getD (draw % ((p.opens 3).length : Int)).toNat 0 ∈ p.opens 3 := by
        rw [List.getD_eq_getElem?_getD, List.getElem?_eq_getElem hm]; exact List.getElem_mem hm
      generalize (p.opens 3).getD (draw % ((p.opens 3).length : Int)).toNat 0 = x at h2
      unfold Pool.opens at h2
      have h3 := List.mem_filter.1 h2
      have h4 := h3.2
      unfold Pool.open_ at h4
      simp at h4
      exact .yes x (List.mem_range.1 h3.1) hg h4.1 h4.2
  · exact .no 2 (by decide)
end Go.Proofs.Ytldeiolmpmcanaa
