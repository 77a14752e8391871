/- Contracts of Give, Drain, Undrain and Empty, and of the reference's. No conditions but the ones that stand in each. Printed by genpool5.py. -/
import Derived.Test.YtldeiolmpmcanaaPool4
namespace Go.Proofs.Ytldeiolmpmcanaa
open Go.RowKit

/-- the owner of a block. -/
def Pool.ow (p : Pool) (a k : Nat) : Int := p.own.getD (a * 6 + k) 0
theorem Pool.ow_cell (p : Pool) (hp : p.wf) (a k : Nat) (ha : a < 3) (hk : k < 6) : p.cells[a * 6 + k]? = some (.int .i64 (p.ow a k)) := by
  have h : a * 6 + k < p.own.length := by rw [hp.own]; omega
  unfold Pool.cells Pool.ow
  rw [List.getElem?_append_left (by simpa using h)]
  simp [h]
theorem Pool.ow_good (p : Pool) (h : p.good = true) (a k : Nat) : 0 ≤ p.ow a k ∧ p.ow a k ≤ 8 := by
  unfold Pool.ow
  by_cases hi : a * 6 + k < p.own.length
  · have := List.all_eq_true.1 h p.own[a * 6 + k] (List.getElem_mem hi)
    unfold goodI at this
    simp at this
    simp [hi]; omega
  · simp [Nat.le_of_not_lt hi]
/-- What Give answers. -/
def Pool.give (p : Pool) (s a b : Int) : Pool × Int :=
  if p.good = true then (if addrB a = true ∧ 0 ≤ b ∧ b < 6 ∧ 0 ≤ s ∧ p.ow a.toNat b.toNat = s + 1 then (p.put a.toNat b.toNat 0, 0) else (p, 7)) else (p, 2)
def Pool.putD (p : Pool) (a : Nat) (to : Bool) : Pool := { p with dr := p.dr.set a to }
theorem Pool.putD_wf (p : Pool) (hp : p.wf) (a : Nat) (to : Bool) : (p.putD a to).wf := ⟨hp.own, by simp [Pool.putD, hp.dr]⟩
theorem Pool.putD_cells (p : Pool) (hp : p.wf) (a : Nat) (to : Bool) : (p.putD a to).cells = p.cells.set (18 + a) (.bool to) := by
  unfold Pool.cells Pool.putD
  rw [List.set_append_right _ _ (by simp [hp.own]), List.map_set]
  simp [hp.own]
/-- What Drain and Undrain answer. -/
def Pool.drain (p : Pool) (a : Int) (to : Bool) : Pool × Int :=
  if addrB a = true then (if p.dra a.toNat = to then (p, 8) else (p.putD a.toNat to, 0)) else (p, 7)
def Pool.emp (p : Pool) (a : Int) : Bool := addrB a && p.dra a.toNat && p.left a == 6
abbrev Pool.tv2 (x : Pool × Int) : Value := .tuple #[x.1.v, .int .i64 x.2]
theorem Pool.drain_wf (p : Pool) (hp : p.wf) (a : Int) (to : Bool) : (p.drain a to).1.wf := by
  unfold Pool.drain
  split
  · split
    · exact hp
    · exact p.putD_wf hp _ _
  · exact hp
theorem Pool.give_wf (p : Pool) (hp : p.wf) (s a b : Int) : (p.give s a b).1.wf := by
  unfold Pool.give
  split
  · split
    · exact p.put_wf hp _ _ _
    · exact hp
  · exact hp
theorem Pool.take_wf (p : Pool) (hp : p.wf) (s a d : Int) : (p.take s a d).1.wf := by
  unfold Pool.take
  split
  · split
    · split
      · exact hp
      · split
        · exact hp
        · exact p.put_wf hp _ _ _
    · exact hp
  · exact hp
theorem addr_nat (a : Int) (h : addrB a = true) : ∃ k : Nat, a = k ∧ k < 3 := by
  unfold addrB at h; simp at h
  exact ⟨a.toNat, by omega, by omega⟩
theorem addr_in (k : Nat) (h : k < 3) : addrB (k : Int) = true := by unfold addrB; simp; omega

set_option maxHeartbeats 2000000 in
theorem Give_any (p : Pool) (hp : p.wf) (s a b : Int) (w : World) (hs : s ≤ 9223372036854775807) :
    Calls Try.prog 15 #[p.v, .int .i64 s, .int .i64 a, .int .i64 b] w fun e w' => e = .returned (Pool.tv2 (p.give s a b)) ∧ Ext w w' := by
  have hb0 := (Blk.new w 40 p.cells).alloc (.cells #[.int .i64 0, .int .i64 0, .int .i64 0, .int .i64 0, .int .i64 0, .int .i64 0, .int .i64 0, .int .i64 0, .int .i64 0, .int .i64 0, .int .i64 0, .int .i64 0, .int .i64 0, .int .i64 0, .int .i64 0, .int .i64 0, .int .i64 0, .int .i64 0, .bool false, .bool false, .bool false] 40)
  have hb1 := Blk.new (w.alloc (.cells p.cells.toArray 40)) 40 [.int .i64 0, .int .i64 0, .int .i64 0, .int .i64 0, .int .i64 0, .int .i64 0, .int .i64 0, .int .i64 0, .int .i64 0, .int .i64 0, .int .i64 0, .int .i64 0, .int .i64 0, .int .i64 0, .int .i64 0, .int .i64 0, .int .i64 0, .int .i64 0, .bool false, .bool false, .bool false]
  simp only [World.size_alloc] at hb1
  have hw := (Ext.alloc w (.cells p.cells.toArray 40)).alloc' (.cells #[.int .i64 0, .int .i64 0, .int .i64 0, .int .i64 0, .int .i64 0, .int .i64 0, .int .i64 0, .int .i64 0, .int .i64 0, .int .i64 0, .int .i64 0, .int .i64 0, .int .i64 0, .int .i64 0, .int .i64 0, .int .i64 0, .int .i64 0, .int .i64 0, .bool false, .bool false, .bool false] 40)
  have HL := Lib.hid hp.len
  cases hG : p.good
  · have HG := Lib.hid hG; clear hG
    have HP : Hid (p.give s a b = (p, 2)) := by
      unfold Hid; unfold Pool.give; rw [if_neg (by rw [HG.out]; simp)]
    go_enter Try.func15, Try.ntmps15
    go_wp2_with (first
      | (refine wpList_ld hb0 0 p.cells rfl 40 _ rfl rfl _ Try.underlying40 rfl (by rw [HL.out]; kernel_rfl) (fun j v h => by simpa using h) ?_)
      | (go_at_call 20; refine (Good_any p hp _).mono ?_; rw [HG.out]; rintro e w1 ⟨rfl, he⟩; have hb0 := hb0.ext he; have hb1 := hb1.ext he; have hw := hw.trans he)
      | (go_at_call 31; refine (address_any _ _).mono ?_; rw [HA.out]; rintro e w1 ⟨rfl, rfl⟩)
      | (refine wpList_st hb1 0 p.cells rfl 40 _ _ rfl rfl rfl (by rw [HL.out]; kernel_rfl) p.cells_one (by rw [HL.out]; decide) ?_; intro w2 hb2 hg2 hz2; rw [splice_all _ _ (by rw [HL.out]; rfl)] at hb2))
    refine bodyPost_ret (results_blk1 rfl _ _ hb2 rfl Try.underlying40 rfl (by rw [HL.out]; kernel_rfl)) rfl ?_
    exact ⟨by rw [HP.out]; rfl, hw.grown' hg2 (by simp)⟩
  · have hgd := p.ow_good hG
    have HG := Lib.hid hG; clear hG
    cases hA : addrB a
    · have HA := Lib.hid hA; clear hA
      have HP : Hid (p.give s a b = (p, 7)) := by
        unfold Hid; unfold Pool.give; rw [if_pos HG.out, if_neg (by rw [HA.out]; simp)]
      go_enter Try.func15, Try.ntmps15
      go_wp2_with (first
        | (refine wpList_ld hb0 0 p.cells rfl 40 _ rfl rfl _ Try.underlying40 rfl (by rw [HL.out]; kernel_rfl) (fun j v h => by simpa using h) ?_)
        | (go_at_call 20; refine (Good_any p hp _).mono ?_; rw [HG.out]; rintro e w1 ⟨rfl, he⟩; have hb0 := hb0.ext he; have hb1 := hb1.ext he; have hw := hw.trans he)
        | (go_at_call 31; refine (address_any _ _).mono ?_; rw [HA.out]; rintro e w1 ⟨rfl, rfl⟩)
        | (refine wpList_st hb1 0 p.cells rfl 40 _ _ rfl rfl rfl (by rw [HL.out]; kernel_rfl) p.cells_one (by rw [HL.out]; decide) ?_; intro w2 hb2 hg2 hz2; rw [splice_all _ _ (by rw [HL.out]; rfl)] at hb2))
      refine bodyPost_ret (results_blk1 rfl _ _ hb2 rfl Try.underlying40 rfl (by rw [HL.out]; kernel_rfl)) rfl ?_
      exact ⟨by rw [HP.out]; rfl, hw.grown' hg2 (by simp)⟩
    obtain ⟨k, rfl, hk⟩ := addr_nat a hA
    have HA := Lib.hid hA; clear hA
    by_cases hb0' : b < 0
    · have db : decide (b < 0) = true := by simp [hb0']
      have HP : Hid (p.give s (k : Int) b = (p, 7)) := by
        unfold Hid; unfold Pool.give; rw [if_pos HG.out, if_neg (by omega)]
      clear hb0'
      go_enter Try.func15, Try.ntmps15
      go_wp2_with (first
        | (refine wpList_ld hb0 0 p.cells rfl 40 _ rfl rfl _ Try.underlying40 rfl (by rw [HL.out]; kernel_rfl) (fun j v h => by simpa using h) ?_)
        | (go_at_call 20; refine (Good_any p hp _).mono ?_; rw [HG.out]; rintro e w1 ⟨rfl, he⟩; have hb0 := hb0.ext he; have hb1 := hb1.ext he; have hw := hw.trans he)
        | (go_at_call 31; refine (address_any _ _).mono ?_; rw [HA.out]; rintro e w1 ⟨rfl, rfl⟩)
        | (refine wpList_st hb1 0 p.cells rfl 40 _ _ rfl rfl rfl (by rw [HL.out]; kernel_rfl) p.cells_one (by rw [HL.out]; decide) ?_; intro w2 hb2 hg2 hz2; rw [splice_all _ _ (by rw [HL.out]; rfl)] at hb2))
      refine bodyPost_ret (results_blk1 rfl _ _ hb2 rfl Try.underlying40 rfl (by rw [HL.out]; kernel_rfl)) rfl ?_
      exact ⟨by rw [HP.out]; rfl, hw.grown' hg2 (by simp)⟩
    have db : decide (b < 0) = false := by simp; omega
    by_cases hb6 : 6 ≤ b
    · have db6 : decide (6 ≤ b) = true := by simp [hb6]
      have HP : Hid (p.give s (k : Int) b = (p, 7)) := by
        unfold Hid; unfold Pool.give; rw [if_pos HG.out, if_neg (by omega)]
      clear hb6 hb0'
      go_enter Try.func15, Try.ntmps15
      go_wp2_with (first
        | (refine wpList_ld hb0 0 p.cells rfl 40 _ rfl rfl _ Try.underlying40 rfl (by rw [HL.out]; kernel_rfl) (fun j v h => by simpa using h) ?_)
        | (go_at_call 20; refine (Good_any p hp _).mono ?_; rw [HG.out]; rintro e w1 ⟨rfl, he⟩; have hb0 := hb0.ext he; have hb1 := hb1.ext he; have hw := hw.trans he)
        | (go_at_call 31; refine (address_any _ _).mono ?_; rw [HA.out]; rintro e w1 ⟨rfl, rfl⟩)
        | (refine wpList_st hb1 0 p.cells rfl 40 _ _ rfl rfl rfl (by rw [HL.out]; kernel_rfl) p.cells_one (by rw [HL.out]; decide) ?_; intro w2 hb2 hg2 hz2; rw [splice_all _ _ (by rw [HL.out]; rfl)] at hb2))
      refine bodyPost_ret (results_blk1 rfl _ _ hb2 rfl Try.underlying40 rfl (by rw [HL.out]; kernel_rfl)) rfl ?_
      exact ⟨by rw [HP.out]; rfl, hw.grown' hg2 (by simp)⟩
    have db6 : decide (6 ≤ b) = false := by simp; omega
    obtain ⟨m, rfl⟩ : ∃ m : Nat, b = m := ⟨b.toNat, by omega⟩
    have hm : m < 6 := by omega
    clear hb0' hb6
    by_cases hs0 : s < 0
    · have ds : decide (s < 0) = true := by simp [hs0]
      have HP : Hid (p.give s (k : Int) (m : Int) = (p, 7)) := by
        unfold Hid; unfold Pool.give; rw [if_pos HG.out, if_neg (by omega)]
      clear hs0
      go_enter Try.func15, Try.ntmps15
      go_wp2_with (first
        | (refine wpList_ld hb0 0 p.cells rfl 40 _ rfl rfl _ Try.underlying40 rfl (by rw [HL.out]; kernel_rfl) (fun j v h => by simpa using h) ?_)
        | (go_at_call 20; refine (Good_any p hp _).mono ?_; rw [HG.out]; rintro e w1 ⟨rfl, he⟩; have hb0 := hb0.ext he; have hb1 := hb1.ext he; have hw := hw.trans he)
        | (go_at_call 31; refine (address_any _ _).mono ?_; rw [HA.out]; rintro e w1 ⟨rfl, rfl⟩)
        | (refine wpList_st hb1 0 p.cells rfl 40 _ _ rfl rfl rfl (by rw [HL.out]; kernel_rfl) p.cells_one (by rw [HL.out]; decide) ?_; intro w2 hb2 hg2 hz2; rw [splice_all _ _ (by rw [HL.out]; rfl)] at hb2))
      refine bodyPost_ret (results_blk1 rfl _ _ hb2 rfl Try.underlying40 rfl (by rw [HL.out]; kernel_rfl)) rfl ?_
      exact ⟨by rw [HP.out]; rfl, hw.grown' hg2 (by simp)⟩
    have ds : decide (s < 0) = false := by simp; omega
    have hx := hgd k m
    have HOW := Lib.hid (p.ow_cell hp k m hk hm)
    have HE : Hid (p.give s (k : Int) (m : Int) = if p.ow k m = s + 1 then (p.put k m 0, 0) else (p, 7)) := by
      unfold Hid Pool.give; rw [if_pos HG.out]
      by_cases h : p.ow k m = s + 1
      · rw [if_pos ⟨addr_in k hk, by omega, by omega, by omega, by simpa using h⟩, if_pos h]; rfl
      · rw [if_neg (fun hh => h (by simpa using hh.2.2.2.2)), if_neg h]
    generalize hxo : p.ow k m = x at *
    by_cases hs9 : s = 9223372036854775807
    · subst hs9
      have dx : (x == wrap64 9223372036854775808) = false := beq_eq_false_iff_ne.2 (by have : wrap64 9223372036854775808 = -9223372036854775808 := (by first | (unfold wrap64; omega) | (unfold wrap64; rfl)); omega)
      have HP : Hid (p.give 9223372036854775807 (k : Int) (m : Int) = (p, 7)) := by
        unfold Hid; rw [HE.out, if_neg (by omega)]
      clear hs0
      go_enter Try.func15, Try.ntmps15
      go_wp2_with (first
        | (refine wpList_ld hb0 0 p.cells rfl 40 _ rfl rfl _ Try.underlying40 rfl (by rw [HL.out]; kernel_rfl) (fun j v h => by simpa using h) ?_)
        | (go_at_call 20; refine (Good_any p hp _).mono ?_; rw [HG.out]; rintro e w1 ⟨rfl, he⟩; have hb0 := hb0.ext he; have hb1 := hb1.ext he; have hw := hw.trans he; have hcd : w1.cell? ⟨w.heap.size, k * 6 + m, none⟩ = some (.int .i64 x) := (by rw [hb0.cell]; exact HOW.out))
        | (go_at_call 31; refine (address_any _ _).mono ?_; rw [HA.out]; rintro e w1 ⟨rfl, rfl⟩)
        | (refine wpList_st hb1 0 p.cells rfl 40 _ _ rfl rfl rfl (by rw [HL.out]; kernel_rfl) p.cells_one (by rw [HL.out]; decide) ?_; intro w2 hb2 hg2 hz2; rw [splice_all _ _ (by rw [HL.out]; rfl)] at hb2))
      refine bodyPost_ret (results_blk1 rfl _ _ hb2 rfl Try.underlying40 rfl (by rw [HL.out]; kernel_rfl)) rfl ?_
      exact ⟨by rw [HP.out]; rfl, hw.grown' hg2 (by simp)⟩
    have hs9' : s < 9223372036854775807 := by omega
    have hs0' : 0 ≤ s := by omega
    by_cases he1 : x = s + 1
    · have dx : (x == s + 1) = true := by simp [he1]
      have HP : Hid (p.give s (k : Int) (m : Int) = (p.put k m 0, 0)) := by unfold Hid; rw [HE.out, if_pos he1]
      have HL2 := Lib.hid (p.put_wf hp k m 0).len
      clear he1
      go_enter Try.func15, Try.ntmps15
      go_wp2_with (first
        | (refine wpList_ld hb0 0 p.cells rfl 40 _ rfl rfl _ Try.underlying40 rfl (by rw [HL.out]; kernel_rfl) (fun j v h => by simpa using h) ?_)
        | (go_at_call 20; refine (Good_any p hp _).mono ?_; rw [HG.out]; rintro e w1 ⟨rfl, he⟩; have hb0 := hb0.ext he; have hb1 := hb1.ext he; have hw := hw.trans he; have hcd : w1.cell? ⟨w.heap.size, k * 6 + m, none⟩ = some (.int .i64 x) := (by rw [hb0.cell]; exact HOW.out))
        | (go_at_call 31; refine (address_any _ _).mono ?_; rw [HA.out]; rintro e w1 ⟨rfl, rfl⟩)
        | (refine wpList_st1 hb0 (k * 6 + m) (.int .i64 0) rfl 3 _ _ rfl rfl rfl rfl (by kernel_rfl) rfl (by rw [HL.out]; omega) ?_; intro w2 hb2 hg2 hz2; rw [← p.put_cells k m 0 (by rw [hp.own]; omega)] at hb2; have hb3 := hb1.grown hg2 (by simp); have hw2 := hw.grown' hg2 (by simp))
        | (refine wpList_ld hb2 0 (p.put k m 0).cells rfl 40 _ rfl rfl _ Try.underlying40 rfl (by rw [HL2.out]; kernel_rfl) (fun j v h => by simpa using h) ?_)
        | (refine wpList_st hb3 0 (p.put k m 0).cells rfl 40 _ _ rfl rfl rfl (by rw [HL2.out]; kernel_rfl) (Pool.cells_one _) (by rw [HL2.out]; decide) ?_; intro w4 hb4 hg4 hz4; rw [splice_all _ _ (by rw [HL2.out]; rfl)] at hb4))
      refine bodyPost_ret (results_blk1 rfl _ _ hb4 rfl Try.underlying40 rfl (by rw [HL2.out]; kernel_rfl)) rfl ?_
      exact ⟨by rw [HP.out]; rfl, hw2.grown' hg4 (by simp)⟩
    · have dx : (x == s + 1) = false := beq_eq_false_iff_ne.2 he1
      have HP : Hid (p.give s (k : Int) (m : Int) = (p, 7)) := by
        unfold Hid; rw [HE.out, if_neg he1]
      clear he1
      go_enter Try.func15, Try.ntmps15
      go_wp2_with (first
        | (refine wpList_ld hb0 0 p.cells rfl 40 _ rfl rfl _ Try.underlying40 rfl (by rw [HL.out]; kernel_rfl) (fun j v h => by simpa using h) ?_)
        | (go_at_call 20; refine (Good_any p hp _).mono ?_; rw [HG.out]; rintro e w1 ⟨rfl, he⟩; have hb0 := hb0.ext he; have hb1 := hb1.ext he; have hw := hw.trans he; have hcd : w1.cell? ⟨w.heap.size, k * 6 + m, none⟩ = some (.int .i64 x) := (by rw [hb0.cell]; exact HOW.out))
        | (go_at_call 31; refine (address_any _ _).mono ?_; rw [HA.out]; rintro e w1 ⟨rfl, rfl⟩)
        | (refine wpList_st hb1 0 p.cells rfl 40 _ _ rfl rfl rfl (by rw [HL.out]; kernel_rfl) p.cells_one (by rw [HL.out]; decide) ?_; intro w2 hb2 hg2 hz2; rw [splice_all _ _ (by rw [HL.out]; rfl)] at hb2))
      refine bodyPost_ret (results_blk1 rfl _ _ hb2 rfl Try.underlying40 rfl (by rw [HL.out]; kernel_rfl)) rfl ?_
      exact ⟨by rw [HP.out]; rfl, hw.grown' hg2 (by simp)⟩

set_option maxHeartbeats 2000000 in
theorem GiveR_any (p : Pool) (hp : p.wf) (s a b : Int) (w : World) (_ : s ≤ 9223372036854775807) :
    Calls Try.prog 24 #[p.v, .int .i64 s, .int .i64 a, .int .i64 b] w fun e w' => e = .returned (Pool.tv2 (p.give s a b)) ∧ Ext w w' := by
  have hb0 := (Blk.new w 40 p.cells).alloc (.cells #[.int .i64 0, .int .i64 0, .int .i64 0, .int .i64 0, .int .i64 0, .int .i64 0, .int .i64 0, .int .i64 0, .int .i64 0, .int .i64 0, .int .i64 0, .int .i64 0, .int .i64 0, .int .i64 0, .int .i64 0, .int .i64 0, .int .i64 0, .int .i64 0, .bool false, .bool false, .bool false] 40)
  have hb1 := Blk.new (w.alloc (.cells p.cells.toArray 40)) 40 [.int .i64 0, .int .i64 0, .int .i64 0, .int .i64 0, .int .i64 0, .int .i64 0, .int .i64 0, .int .i64 0, .int .i64 0, .int .i64 0, .int .i64 0, .int .i64 0, .int .i64 0, .int .i64 0, .int .i64 0, .int .i64 0, .int .i64 0, .int .i64 0, .bool false, .bool false, .bool false]
  simp only [World.size_alloc] at hb1
  have hw := (Ext.alloc w (.cells p.cells.toArray 40)).alloc' (.cells #[.int .i64 0, .int .i64 0, .int .i64 0, .int .i64 0, .int .i64 0, .int .i64 0, .int .i64 0, .int .i64 0, .int .i64 0, .int .i64 0, .int .i64 0, .int .i64 0, .int .i64 0, .int .i64 0, .int .i64 0, .int .i64 0, .int .i64 0, .int .i64 0, .bool false, .bool false, .bool false] 40)
  have HL := Lib.hid hp.len
  cases hG : p.good
  · have HG := Lib.hid hG; clear hG
    have HP : Hid (p.give s a b = (p, 2)) := by
      unfold Hid; unfold Pool.give; rw [if_neg (by rw [HG.out]; simp)]
    go_enter Try.func24, Try.ntmps24
    go_wp2_with (first
      | (refine wpList_ld hb0 0 p.cells rfl 40 _ rfl rfl _ Try.underlying40 rfl (by rw [HL.out]; kernel_rfl) (fun j v h => by simpa using h) ?_)
      | (go_at_call 21; refine (GoodPool_any p hp _).mono ?_; rw [HG.out]; rintro e w1 ⟨rfl, he⟩; have hb0 := hb0.ext he; have hb1 := hb1.ext he; have hw := hw.trans he)
      | (refine wpList_st hb1 0 p.cells rfl 40 _ _ rfl rfl rfl (by rw [HL.out]; kernel_rfl) p.cells_one (by rw [HL.out]; decide) ?_; intro w2 hb2 hg2 hz2; rw [splice_all _ _ (by rw [HL.out]; rfl)] at hb2))
    refine bodyPost_ret (results_blk1 rfl _ _ hb2 rfl Try.underlying40 rfl (by rw [HL.out]; kernel_rfl)) rfl ?_
    exact ⟨by rw [HP.out]; rfl, hw.grown' hg2 (by simp)⟩
  · have hgd := p.ow_good hG
    have HG := Lib.hid hG; clear hG
    by_cases ha0 : a < 0
    · have da : decide (a < 0) = true := by simp [ha0]
      have HP : Hid (p.give s a b = (p, 7)) := by
        unfold Hid; unfold Pool.give; rw [if_pos HG.out, if_neg (by unfold addrB; simp; omega)]
      clear ha0
      go_enter Try.func24, Try.ntmps24
      go_wp2_with (first
        | (refine wpList_ld hb0 0 p.cells rfl 40 _ rfl rfl _ Try.underlying40 rfl (by rw [HL.out]; kernel_rfl) (fun j v h => by simpa using h) ?_)
        | (go_at_call 21; refine (GoodPool_any p hp _).mono ?_; rw [HG.out]; rintro e w1 ⟨rfl, he⟩; have hb0 := hb0.ext he; have hb1 := hb1.ext he; have hw := hw.trans he)
        | (refine wpList_st hb1 0 p.cells rfl 40 _ _ rfl rfl rfl (by rw [HL.out]; kernel_rfl) p.cells_one (by rw [HL.out]; decide) ?_; intro w2 hb2 hg2 hz2; rw [splice_all _ _ (by rw [HL.out]; rfl)] at hb2))
      refine bodyPost_ret (results_blk1 rfl _ _ hb2 rfl Try.underlying40 rfl (by rw [HL.out]; kernel_rfl)) rfl ?_
      exact ⟨by rw [HP.out]; rfl, hw.grown' hg2 (by simp)⟩
    have da : decide (a < 0) = false := by simp; omega
    by_cases ha2 : 2 < a
    · have da2 : decide (2 < a) = true := by simp [ha2]
      have HP : Hid (p.give s a b = (p, 7)) := by
        unfold Hid; unfold Pool.give; rw [if_pos HG.out, if_neg (by unfold addrB; simp; omega)]
      clear ha2 ha0
      go_enter Try.func24, Try.ntmps24
      go_wp2_with (first
        | (refine wpList_ld hb0 0 p.cells rfl 40 _ rfl rfl _ Try.underlying40 rfl (by rw [HL.out]; kernel_rfl) (fun j v h => by simpa using h) ?_)
        | (go_at_call 21; refine (GoodPool_any p hp _).mono ?_; rw [HG.out]; rintro e w1 ⟨rfl, he⟩; have hb0 := hb0.ext he; have hb1 := hb1.ext he; have hw := hw.trans he)
        | (refine wpList_st hb1 0 p.cells rfl 40 _ _ rfl rfl rfl (by rw [HL.out]; kernel_rfl) p.cells_one (by rw [HL.out]; decide) ?_; intro w2 hb2 hg2 hz2; rw [splice_all _ _ (by rw [HL.out]; rfl)] at hb2))
      refine bodyPost_ret (results_blk1 rfl _ _ hb2 rfl Try.underlying40 rfl (by rw [HL.out]; kernel_rfl)) rfl ?_
      exact ⟨by rw [HP.out]; rfl, hw.grown' hg2 (by simp)⟩
    have da2 : decide (2 < a) = false := by simp; omega
    obtain ⟨k, rfl⟩ : ∃ k : Nat, a = k := ⟨a.toNat, by omega⟩
    have hk : k < 3 := by omega
    clear ha0 ha2
    by_cases hb0' : b < 0
    · have db : decide (b < 0) = true := by simp [hb0']
      have HP : Hid (p.give s (k : Int) b = (p, 7)) := by
        unfold Hid; unfold Pool.give; rw [if_pos HG.out, if_neg (by omega)]
      clear hb0'
      go_enter Try.func24, Try.ntmps24
      go_wp2_with (first
        | (refine wpList_ld hb0 0 p.cells rfl 40 _ rfl rfl _ Try.underlying40 rfl (by rw [HL.out]; kernel_rfl) (fun j v h => by simpa using h) ?_)
        | (go_at_call 21; refine (GoodPool_any p hp _).mono ?_; rw [HG.out]; rintro e w1 ⟨rfl, he⟩; have hb0 := hb0.ext he; have hb1 := hb1.ext he; have hw := hw.trans he)
        | (refine wpList_st hb1 0 p.cells rfl 40 _ _ rfl rfl rfl (by rw [HL.out]; kernel_rfl) p.cells_one (by rw [HL.out]; decide) ?_; intro w2 hb2 hg2 hz2; rw [splice_all _ _ (by rw [HL.out]; rfl)] at hb2))
      refine bodyPost_ret (results_blk1 rfl _ _ hb2 rfl Try.underlying40 rfl (by rw [HL.out]; kernel_rfl)) rfl ?_
      exact ⟨by rw [HP.out]; rfl, hw.grown' hg2 (by simp)⟩
    have db : decide (b < 0) = false := by simp; omega
    by_cases hb6 : 5 < b
    · have db6 : decide (5 < b) = true := by simp [hb6]
      have HP : Hid (p.give s (k : Int) b = (p, 7)) := by
        unfold Hid; unfold Pool.give; rw [if_pos HG.out, if_neg (by omega)]
      clear hb6 hb0'
      go_enter Try.func24, Try.ntmps24
      go_wp2_with (first
        | (refine wpList_ld hb0 0 p.cells rfl 40 _ rfl rfl _ Try.underlying40 rfl (by rw [HL.out]; kernel_rfl) (fun j v h => by simpa using h) ?_)
        | (go_at_call 21; refine (GoodPool_any p hp _).mono ?_; rw [HG.out]; rintro e w1 ⟨rfl, he⟩; have hb0 := hb0.ext he; have hb1 := hb1.ext he; have hw := hw.trans he)
        | (refine wpList_st hb1 0 p.cells rfl 40 _ _ rfl rfl rfl (by rw [HL.out]; kernel_rfl) p.cells_one (by rw [HL.out]; decide) ?_; intro w2 hb2 hg2 hz2; rw [splice_all _ _ (by rw [HL.out]; rfl)] at hb2))
      refine bodyPost_ret (results_blk1 rfl _ _ hb2 rfl Try.underlying40 rfl (by rw [HL.out]; kernel_rfl)) rfl ?_
      exact ⟨by rw [HP.out]; rfl, hw.grown' hg2 (by simp)⟩
    have db6 : decide (5 < b) = false := by simp; omega
    obtain ⟨m, rfl⟩ : ∃ m : Nat, b = m := ⟨b.toNat, by omega⟩
    have hm : m < 6 := by omega
    clear hb0' hb6
    by_cases hs0 : s < 0
    · have ds : decide (s < 0) = true := by simp [hs0]
      have HP : Hid (p.give s (k : Int) (m : Int) = (p, 7)) := by
        unfold Hid; unfold Pool.give; rw [if_pos HG.out, if_neg (by omega)]
      clear hs0
      go_enter Try.func24, Try.ntmps24
      go_wp2_with (first
        | (refine wpList_ld hb0 0 p.cells rfl 40 _ rfl rfl _ Try.underlying40 rfl (by rw [HL.out]; kernel_rfl) (fun j v h => by simpa using h) ?_)
        | (go_at_call 21; refine (GoodPool_any p hp _).mono ?_; rw [HG.out]; rintro e w1 ⟨rfl, he⟩; have hb0 := hb0.ext he; have hb1 := hb1.ext he; have hw := hw.trans he)
        | (refine wpList_st hb1 0 p.cells rfl 40 _ _ rfl rfl rfl (by rw [HL.out]; kernel_rfl) p.cells_one (by rw [HL.out]; decide) ?_; intro w2 hb2 hg2 hz2; rw [splice_all _ _ (by rw [HL.out]; rfl)] at hb2))
      refine bodyPost_ret (results_blk1 rfl _ _ hb2 rfl Try.underlying40 rfl (by rw [HL.out]; kernel_rfl)) rfl ?_
      exact ⟨by rw [HP.out]; rfl, hw.grown' hg2 (by simp)⟩
    have ds : decide (s < 0) = false := by simp; omega
    have hx := hgd k m
    have HOW := Lib.hid (p.ow_cell hp k m hk hm)
    have HE : Hid (p.give s (k : Int) (m : Int) = if p.ow k m = s + 1 then (p.put k m 0, 0) else (p, 7)) := by
      unfold Hid Pool.give; rw [if_pos HG.out]
      by_cases h : p.ow k m = s + 1
      · rw [if_pos ⟨addr_in k hk, by omega, by omega, by omega, by simpa using h⟩, if_pos h]; rfl
      · rw [if_neg (fun hh => h (by simpa using hh.2.2.2.2)), if_neg h]
    generalize hxo : p.ow k m = x at *
    by_cases hs8 : 7 < s
    · have ds8 : decide (7 < s) = true := by simp [hs8]
      have HP : Hid (p.give s (k : Int) (m : Int) = (p, 7)) := by
        unfold Hid; rw [HE.out, if_neg (by omega)]
      clear hs8 hs0
      go_enter Try.func24, Try.ntmps24
      go_wp2_with (first
        | (refine wpList_ld hb0 0 p.cells rfl 40 _ rfl rfl _ Try.underlying40 rfl (by rw [HL.out]; kernel_rfl) (fun j v h => by simpa using h) ?_)
        | (go_at_call 21; refine (GoodPool_any p hp _).mono ?_; rw [HG.out]; rintro e w1 ⟨rfl, he⟩; have hb0 := hb0.ext he; have hb1 := hb1.ext he; have hw := hw.trans he)
        | (refine wpList_st hb1 0 p.cells rfl 40 _ _ rfl rfl rfl (by rw [HL.out]; kernel_rfl) p.cells_one (by rw [HL.out]; decide) ?_; intro w2 hb2 hg2 hz2; rw [splice_all _ _ (by rw [HL.out]; rfl)] at hb2))
      refine bodyPost_ret (results_blk1 rfl _ _ hb2 rfl Try.underlying40 rfl (by rw [HL.out]; kernel_rfl)) rfl ?_
      exact ⟨by rw [HP.out]; rfl, hw.grown' hg2 (by simp)⟩
    have ds8 : decide (7 < s) = false := by simp; omega
    have hs0' : 0 ≤ s := by omega
    by_cases he1 : x = s + 1
    · have dx : (x == s + 1) = true := by simp [he1]
      have HP : Hid (p.give s (k : Int) (m : Int) = (p.put k m 0, 0)) := by unfold Hid; rw [HE.out, if_pos he1]
      have HL2 := Lib.hid (p.put_wf hp k m 0).len
      clear he1
      go_enter Try.func24, Try.ntmps24
      go_wp2_with (first
        | (refine wpList_ld hb0 0 p.cells rfl 40 _ rfl rfl _ Try.underlying40 rfl (by rw [HL.out]; kernel_rfl) (fun j v h => by simpa using h) ?_)
        | (go_at_call 21; refine (GoodPool_any p hp _).mono ?_; rw [HG.out]; rintro e w1 ⟨rfl, he⟩; have hb0 := hb0.ext he; have hb1 := hb1.ext he; have hw := hw.trans he; have hcd : w1.cell? ⟨w.heap.size, k * 6 + m, none⟩ = some (.int .i64 x) := (by rw [hb0.cell]; exact HOW.out))
        | (refine wpList_st1 hb0 (k * 6 + m) (.int .i64 0) rfl 3 _ _ rfl rfl rfl rfl (by kernel_rfl) rfl (by rw [HL.out]; omega) ?_; intro w2 hb2 hg2 hz2; rw [← p.put_cells k m 0 (by rw [hp.own]; omega)] at hb2; have hb3 := hb1.grown hg2 (by simp); have hw2 := hw.grown' hg2 (by simp))
        | (refine wpList_ld hb2 0 (p.put k m 0).cells rfl 40 _ rfl rfl _ Try.underlying40 rfl (by rw [HL2.out]; kernel_rfl) (fun j v h => by simpa using h) ?_)
        | (refine wpList_st hb3 0 (p.put k m 0).cells rfl 40 _ _ rfl rfl rfl (by rw [HL2.out]; kernel_rfl) (Pool.cells_one _) (by rw [HL2.out]; decide) ?_; intro w4 hb4 hg4 hz4; rw [splice_all _ _ (by rw [HL2.out]; rfl)] at hb4))
      refine bodyPost_ret (results_blk1 rfl _ _ hb4 rfl Try.underlying40 rfl (by rw [HL2.out]; kernel_rfl)) rfl ?_
      exact ⟨by rw [HP.out]; rfl, hw2.grown' hg4 (by simp)⟩
    · have dx : (x == s + 1) = false := beq_eq_false_iff_ne.2 he1
      have HP : Hid (p.give s (k : Int) (m : Int) = (p, 7)) := by
        unfold Hid; rw [HE.out, if_neg he1]
      clear he1
      go_enter Try.func24, Try.ntmps24
      go_wp2_with (first
        | (refine wpList_ld hb0 0 p.cells rfl 40 _ rfl rfl _ Try.underlying40 rfl (by rw [HL.out]; kernel_rfl) (fun j v h => by simpa using h) ?_)
        | (go_at_call 21; refine (GoodPool_any p hp _).mono ?_; rw [HG.out]; rintro e w1 ⟨rfl, he⟩; have hb0 := hb0.ext he; have hb1 := hb1.ext he; have hw := hw.trans he; have hcd : w1.cell? ⟨w.heap.size, k * 6 + m, none⟩ = some (.int .i64 x) := (by rw [hb0.cell]; exact HOW.out))
        | (refine wpList_st hb1 0 p.cells rfl 40 _ _ rfl rfl rfl (by rw [HL.out]; kernel_rfl) p.cells_one (by rw [HL.out]; decide) ?_; intro w2 hb2 hg2 hz2; rw [splice_all _ _ (by rw [HL.out]; rfl)] at hb2))
      refine bodyPost_ret (results_blk1 rfl _ _ hb2 rfl Try.underlying40 rfl (by rw [HL.out]; kernel_rfl)) rfl ?_
      exact ⟨by rw [HP.out]; rfl, hw.grown' hg2 (by simp)⟩
end Go.Proofs.Ytldeiolmpmcanaa
