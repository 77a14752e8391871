/- Events and their bytes: plain laws. No conditions but the ones that stand in each. -/
import Derived.Test.YtglkiaiipkdkbaaDoorRi
import Derived.Test.YtglkiaiipkdkbaaDoorB0
namespace Go.Proofs.YtglkiaiipkdkbaaDoor
set_option linter.all false
set_option linter.unusedSimpArgs false
open Go.RowKit

/-- The event of the first 21 bytes. -/
def rdEv0 (x : List UInt8) : Ev := ⟨nbI (x.take 8), nbI ((x.drop 8).take 4) - 167772161, nbI ((x.drop 12).take 4) - 3405803777, (nbI ((x.drop 16).take 2) - 1024).tdiv 8, nbI ((x.drop 20).take 1) == 2⟩
def rdOk (x : List UInt8) : Prop :=
  1 ≤ nbI ((x.drop 20).take 1) ∧ nbI ((x.drop 20).take 1) ≤ 2 ∧ 0 ≤ nbI ((x.drop 16).take 2) - 1024 ∧ (nbI ((x.drop 16).take 2) - 1024).tmod 8 = 0 ∧ nbI ((x.drop 18).take 2) = nbI ((x.drop 16).take 2) + 7 ∧
    goodE (rdEv0 x).t (rdEv0 x).s (rdEv0 x).a (rdEv0 x).b = true
open Classical in
noncomputable def rdEv (x : List UInt8) : Option Ev := if rdOk x then some (rdEv0 x) else none
theorem rdEv_take (x : List UInt8) (h : 21 ≤ x.length) : rdEv (x.take 21) = rdEv x := by
  have e0 : rdEv0 (x.take 21) = rdEv0 x := by simp [rdEv0, List.take_take, List.drop_take]
  have e1 : rdOk (x.take 21) = rdOk x := by simp [rdOk, e0, List.take_take, List.drop_take]
  unfold rdEv
  rw [e0, e1]
def Ev.good (e : Ev) : Prop := 0 ≤ e.t ∧ e.t ≤ 1099511627776 ∧ 0 ≤ e.s ∧ e.s < 8 ∧ 0 ≤ e.a ∧ e.a < 3 ∧ 0 ≤ e.b ∧ e.b < 6
theorem good_iff (e : Ev) : goodE e.t e.s e.a e.b = true ↔ e.good := by
  simp [goodE, Ev.good]; constructor
  · rintro ⟨⟨⟨⟨⟨⟨⟨a, b⟩, c⟩, d⟩, e⟩, f⟩, g⟩, h⟩; exact ⟨a, b, c, d, e, f, g, h⟩
  · rintro ⟨a, b, c, d, e, f, g, h⟩; exact ⟨⟨⟨⟨⟨⟨⟨a, b⟩, c⟩, d⟩, e⟩, f⟩, g⟩, h⟩
theorem evB_parts (e : Ev) (y : List UInt8) : (evB e ++ y).take 8 = be e.t 8 ∧ ((evB e ++ y).drop 8).take 4 = be (167772161 + e.s) 4 ∧ ((evB e ++ y).drop 12).take 4 = be (3405803777 + e.a) 4 ∧ ((evB e ++ y).drop 16).take 2 = be (1024 + 8 * e.b) 2 ∧
    ((evB e ++ y).drop 18).take 2 = be (1031 + 8 * e.b) 2 ∧ ((evB e ++ y).drop 20).take 1 = be (if e.f then 2 else 1) 1 := by
  refine ⟨?_, ?_, ?_, ?_, ?_, ?_⟩ <;> simp [evB, be_len, List.take_append, List.drop_append, List.take_of_length_le, List.drop_eq_nil_of_le]
theorem rd_evB (e : Ev) (h : e.good) (y : List UInt8) : rdEv (evB e ++ y) = some e := by
  obtain ⟨p1, p2, p3, p4, p5, p6⟩ := evB_parts e y
  obtain ⟨t0, t1, s0, s1, a0, a1, b0, b1⟩ := id h
  have n1 := nbI_be e.t 8 (by decide) t0 (by omega) (by omega)
  have n2 := nbI_be (167772161 + e.s) 4 (by decide) (by omega) (by omega) (by omega)
  have n3 := nbI_be (3405803777 + e.a) 4 (by decide) (by omega) (by omega) (by omega)
  have n4 := nbI_be (1024 + 8 * e.b) 2 (by decide) (by omega) (by omega) (by omega)
  have n5 := nbI_be (1031 + 8 * e.b) 2 (by decide) (by omega) (by omega) (by omega)
  have n6 := nbI_be (if e.f then 2 else 1) 1 (by decide) (by split <;> omega) (by split <;> omega) (by split <;> omega)
  have e0 : rdEv0 (evB e ++ y) = e := by
    unfold rdEv0
    rw [p1, p2, p3, p4, p6, n1, n2, n3, n4, n6]
    obtain ⟨t, s, a, b, f⟩ := e
    have q1 : 167772161 + s - 167772161 = s := by omega
    have q2 : 3405803777 + a - 3405803777 = a := by omega
    have q3 : (1024 + 8 * b - 1024).tdiv 8 = b := by
      have : 1024 + 8 * b - 1024 = 8 * b := by omega
      rw [this, Int.tdiv_eq_ediv_of_nonneg (by simp only at b0; omega)]; omega
    dsimp only
    rw [q1, q2, q3]
    cases f <;> rfl
  unfold rdEv
  rw [e0, if_pos]
  unfold rdOk
  rw [e0, p4, p5, p6, n4, n5, n6]
  refine ⟨by split <;> omega, by split <;> omega, by omega, ?_, by omega, (good_iff e).2 h⟩
  have : 1024 + 8 * e.b - 1024 = 8 * e.b := by omega
  rw [this, Int.tmod_eq_emod_of_nonneg (by omega)]; omega
theorem cut21 (x : List UInt8) (h : x.length = 21) : x.take 8 ++ (x.drop 8).take 4 ++ (x.drop 12).take 4 ++ (x.drop 16).take 2 ++ (x.drop 18).take 2 ++ (x.drop 20).take 1 = x := by
  have e : ∀ a b : Nat, x.take (a + b) = x.take a ++ (x.drop a).take b := fun a b => List.take_add
  have h1 := e 8 4
  have h2 := e 12 4
  have h3 := e 16 2
  have h4 := e 18 2
  have h5 := e 20 1
  simp only [Nat.reduceAdd] at h1 h2 h3 h4 h5
  rw [← h1, ← h2, ← h3, ← h4, ← h5, List.take_of_length_le (by omega)]
theorem evB_rd (x : List UInt8) (hx : x.length = 21) (e : Ev) (h : rdEv x = some e) : evB e = x ∧ e.good := by
  unfold rdEv at h
  split at h
  · rename_i hok
    obtain ⟨k1, k2, f0, f8, hl, hg⟩ := hok
    cases h
    have hgd := (good_iff _).1 hg
    refine ⟨?_, hgd⟩
    obtain ⟨t0, t1, s0, s1, a0, a1, b0, b1⟩ := hgd
    have l1 : (x.take 8).length = 8 := by simp [hx]
    have l2 : ((x.drop 8).take 4).length = 4 := by simp [hx]
    have l3 : ((x.drop 12).take 4).length = 4 := by simp [hx]
    have l4 : ((x.drop 16).take 2).length = 2 := by simp [hx]
    have l5 : ((x.drop 18).take 2).length = 2 := by simp [hx]
    have l6 : ((x.drop 20).take 1).length = 1 := by simp [hx]
    have n1 := be_nbI (x.take 8) (by omega) t0
    have n2 := be_nbI ((x.drop 8).take 4) (by omega) (nbI_bd _ 4 l2 (by decide)).1
    have n3 := be_nbI ((x.drop 12).take 4) (by omega) (nbI_bd _ 4 l3 (by decide)).1
    have n4 := be_nbI ((x.drop 16).take 2) (by omega) (nbI_bd _ 2 l4 (by decide)).1
    have n5 := be_nbI ((x.drop 18).take 2) (by omega) (nbI_bd _ 2 l5 (by decide)).1
    have n6 := be_nbI ((x.drop 20).take 1) (by omega) (by omega)
    rw [l1] at n1
    rw [l2] at n2
    rw [l3] at n3
    rw [l4] at n4
    rw [l5] at n5
    rw [l6] at n6
    have hc := cut21 x hx
    rw [Int.tmod_eq_emod_of_nonneg f0] at f8
    have q4 : 1024 + 8 * (nbI ((x.drop 16).take 2) - 1024).tdiv 8 = nbI ((x.drop 16).take 2) := by
      rw [Int.tdiv_eq_ediv_of_nonneg f0]; omega
    have q5 : 1031 + 8 * (nbI ((x.drop 16).take 2) - 1024).tdiv 8 = nbI ((x.drop 18).take 2) := by omega
    have q2 : 167772161 + (nbI ((x.drop 8).take 4) - 167772161) = nbI ((x.drop 8).take 4) := by omega
    have q3 : 3405803777 + (nbI ((x.drop 12).take 4) - 3405803777) = nbI ((x.drop 12).take 4) := by omega
    have q6 : (if (nbI ((x.drop 20).take 1) == 2) = true then (2 : Int) else 1) = nbI ((x.drop 20).take 1) := by
      split
      · rename_i h; exact (by simpa using h : nbI ((x.drop 20).take 1) = 2).symm
      · rename_i h; have : ¬ nbI ((x.drop 20).take 1) = 2 := by simpa using h
        omega
    have m1 : be (rdEv0 x).t 8 = x.take 8 := n1
    have m2 : be (167772161 + (rdEv0 x).s) 4 = (x.drop 8).take 4 := by
      show be (167772161 + (nbI ((x.drop 8).take 4) - 167772161)) 4 = _
      rw [q2, n2]
    have m3 : be (3405803777 + (rdEv0 x).a) 4 = (x.drop 12).take 4 := by
      show be (3405803777 + (nbI ((x.drop 12).take 4) - 3405803777)) 4 = _
      rw [q3, n3]
    have m4 : be (1024 + 8 * (rdEv0 x).b) 2 = (x.drop 16).take 2 := by
      show be (1024 + 8 * (nbI ((x.drop 16).take 2) - 1024).tdiv 8) 2 = _
      rw [q4, n4]
    have m5 : be (1031 + 8 * (rdEv0 x).b) 2 = (x.drop 18).take 2 := by
      show be (1031 + 8 * (nbI ((x.drop 16).take 2) - 1024).tdiv 8) 2 = _
      rw [q5, n5]
    have m6 : be (if (rdEv0 x).f then 2 else 1) 1 = (x.drop 20).take 1 := by
      rw [← n6]
      congr 1
    unfold evB
    rw [m1, m2, m3, m4, m5, m6]
    exact hc
  · cases h
/-- The events that are tried. -/
def cand (t : Int) (j : Nat) : Ev := ⟨t, ((j % 8 : Nat) : Int), ((j / 8 % 3 : Nat) : Int), ((j / 24 % 6 : Nat) : Int), j / 144 == 1⟩
theorem cand_good (t : Int) (j : Nat) (h0 : 0 ≤ t) (h1 : t ≤ 1099511627776) : (cand t j).good := by
  refine ⟨h0, h1, ?_, ?_, ?_, ?_, ?_, ?_⟩ <;> simp only [cand] <;> omega
theorem cand_all (e : Ev) (h : e.good) : ∃ j, j < 288 ∧ cand e.t j = e := by
  obtain ⟨t, s, a, b, f⟩ := e
  obtain ⟨t0, t1, s0, s1, a0, a1, b0, b1⟩ := h
  simp only at *
  refine ⟨s.toNat + 8 * a.toNat + 24 * b.toNat + (if f then 144 else 0), by split <;> omega, ?_⟩
  have e1 : (((s.toNat + 8 * a.toNat + 24 * b.toNat + (if f then 144 else 0)) % 8 : Nat) : Int) = s := by split <;> omega
  have e2 : (((s.toNat + 8 * a.toNat + 24 * b.toNat + (if f then 144 else 0)) / 8 % 3 : Nat) : Int) = a := by split <;> omega
  have e3 : (((s.toNat + 8 * a.toNat + 24 * b.toNat + (if f then 144 else 0)) / 24 % 6 : Nat) : Int) = b := by split <;> omega
  have e4 : ((s.toNat + 8 * a.toNat + 24 * b.toNat + (if f then 144 else 0)) / 144 == 1) = f := by
    cases f
    · simp; omega
    · simp; omega
  unfold cand
  rw [e1, e2, e3, e4]
end Go.Proofs.YtglkiaiipkdkbaaDoor
