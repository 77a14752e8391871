/- Contracts of Drain, Undrain and Empty, and of the reference's Drain. No conditions but the ones that stand in each. Printed by genpool6.py. -/
import Derived.Test.YtldeiolmpmcanaaPool5
namespace Go.Proofs.Ytldeiolmpmcanaa
open Go.RowKit

set_option maxHeartbeats 2000000 in
theorem drain_any (p : Pool) (hp : p.wf) (a : Int) (to : Bool) (w : World) :
    Calls Try.prog 35 #[p.v, .int .i64 a, .bool to] w fun e w' => e = .returned (Pool.tv2 (p.drain a to)) ∧ Ext w w' := by
  have hb0 := (Blk.new w 40 p.cells).alloc (.cells #[.int .i64 0, .int .i64 0, .int .i64 0, .int .i64 0, .int .i64 0, .int .i64 0, .int .i64 0, .int .i64 0, .int .i64 0, .int .i64 0, .int .i64 0, .int .i64 0, .int .i64 0, .int .i64 0, .int .i64 0, .int .i64 0, .int .i64 0, .int .i64 0, .bool false, .bool false, .bool false] 40)
  have hb1 := Blk.new (w.alloc (.cells p.cells.toArray 40)) 40 [.int .i64 0, .int .i64 0, .int .i64 0, .int .i64 0, .int .i64 0, .int .i64 0, .int .i64 0, .int .i64 0, .int .i64 0, .int .i64 0, .int .i64 0, .int .i64 0, .int .i64 0, .int .i64 0, .int .i64 0, .int .i64 0, .int .i64 0, .int .i64 0, .bool false, .bool false, .bool false]
  simp only [World.size_alloc] at hb1
  have hw := (Ext.alloc w (.cells p.cells.toArray 40)).alloc' (.cells #[.int .i64 0, .int .i64 0, .int .i64 0, .int .i64 0, .int .i64 0, .int .i64 0, .int .i64 0, .int .i64 0, .int .i64 0, .int .i64 0, .int .i64 0, .int .i64 0, .int .i64 0, .int .i64 0, .int .i64 0, .int .i64 0, .int .i64 0, .int .i64 0, .bool false, .bool false, .bool false] 40)
  have HL := Lib.hid hp.len
  cases hA : addrB a
  · have HA := Lib.hid hA; clear hA
    have HP : Hid (p.drain a to = (p, 7)) := by
      unfold Hid; unfold Pool.drain; rw [if_neg (by rw [HA.out]; simp)]
    go_enter Try.func35, Try.ntmps35
    go_wp2_with (first
      | (refine wpList_ld hb0 0 p.cells rfl 40 _ rfl rfl _ Try.underlying40 rfl (by rw [HL.out]; kernel_rfl) (fun j v h => by simpa using h) ?_)
      | (go_at_call 31; refine (address_any _ _).mono ?_; rw [HA.out]; rintro e w1 ⟨rfl, h2⟩; rw [← h2] at hb0 hb1 hw; clear h2)
      | (refine wpList_st hb1 0 p.cells rfl 40 _ _ rfl rfl rfl (by rw [HL.out]; kernel_rfl) p.cells_one (by rw [HL.out]; decide) ?_; intro w2 hb2 hg2 hz2; rw [splice_all _ _ (by rw [HL.out]; rfl)] at hb2))
    refine bodyPost_ret (results_blk1 rfl _ _ hb2 rfl Try.underlying40 rfl (by rw [HL.out]; kernel_rfl)) rfl ?_
    exact ⟨by rw [HP.out]; rfl, hw.grown' hg2 (by simp)⟩
  obtain ⟨k, rfl, hk⟩ := addr_nat a hA
  have HA := Lib.hid hA; clear hA
  have HDC := Lib.hid (dra_cell p hp k hk)
  have HW := Lib.hid (p.putD_wf hp k to).len
  cases hD : p.dra k <;> cases to
  · have HD := Lib.hid hD; clear hD
    have HP : Hid (p.drain (k : Int) false = (p, 8)) := by
      unfold Hid; unfold Pool.drain; rw [if_pos HA.out, if_pos (by simpa using HD.out)]
    go_enter Try.func35, Try.ntmps35
    go_wp2_with (first
      | (refine wpList_ld hb0 0 p.cells rfl 40 _ rfl rfl _ Try.underlying40 rfl (by rw [HL.out]; kernel_rfl) (fun j v h => by simpa using h) ?_)
      | (go_at_call 31; refine (address_any _ _).mono ?_; rw [HA.out]; rintro e w1 ⟨rfl, h2⟩; rw [← h2] at hb0 hb1 hw; clear h2; have hcd : w1.cell? ⟨w.heap.size, 18 + k, none⟩ = some (.bool (p.dra k)) := (by rw [hb0.cell]; exact HDC.out); rw [HD.out] at hcd)
      | (refine wpList_st hb1 0 p.cells rfl 40 _ _ rfl rfl rfl (by rw [HL.out]; kernel_rfl) p.cells_one (by rw [HL.out]; decide) ?_; intro w2 hb2 hg2 hz2; rw [splice_all _ _ (by rw [HL.out]; rfl)] at hb2))
    refine bodyPost_ret (results_blk1 rfl _ _ hb2 rfl Try.underlying40 rfl (by rw [HL.out]; kernel_rfl)) rfl ?_
    exact ⟨by rw [HP.out]; rfl, hw.grown' hg2 (by simp)⟩
  · have HD := Lib.hid hD; clear hD
    have HP : Hid (p.drain (k : Int) true = ((p.putD k true), 0)) := by
      unfold Hid Pool.drain; rw [if_pos HA.out, if_neg (by rw [Int.toNat_natCast, HD.out]; simp)]; rfl
    go_enter Try.func35, Try.ntmps35
    go_wp2_with (first
      | (refine wpList_ld hb0 0 p.cells rfl 40 _ rfl rfl _ Try.underlying40 rfl (by rw [HL.out]; kernel_rfl) (fun j v h => by simpa using h) ?_)
      | (go_at_call 31; refine (address_any _ _).mono ?_; rw [HA.out]; rintro e w1 ⟨rfl, h2⟩; rw [← h2] at hb0 hb1 hw; clear h2; have hcd : w1.cell? ⟨w.heap.size, 18 + k, none⟩ = some (.bool (p.dra k)) := (by rw [hb0.cell]; exact HDC.out); rw [HD.out] at hcd)
      | (refine wpList_st1 hb0 (18 + k) (.bool true) rfl 4 _ _ rfl rfl rfl rfl (by kernel_rfl) rfl (by rw [HL.out]; omega) ?_; intro w2 hb2 hg2 hz2; rw [← p.putD_cells hp k true] at hb2; have hb3 := hb1.grown hg2 (by simp); have hw2 := hw.grown' hg2 (by simp))
      | (refine wpList_ld hb2 0 (p.putD k true).cells rfl 40 _ rfl rfl _ Try.underlying40 rfl (by rw [HW.out]; kernel_rfl) (fun j v h => by simpa using h) ?_)
      | (refine wpList_st hb3 0 (p.putD k true).cells rfl 40 _ _ rfl rfl rfl (by rw [HW.out]; kernel_rfl) (Pool.cells_one _) (by rw [HW.out]; decide) ?_; intro w4 hb4 hg4 hz4; rw [splice_all _ _ (by rw [HW.out]; rfl)] at hb4))
    refine bodyPost_ret (results_blk1 rfl _ _ hb4 rfl Try.underlying40 rfl (by rw [HW.out]; kernel_rfl)) rfl ?_
    exact ⟨by rw [HP.out]; rfl, hw2.grown' hg4 (by simp)⟩
  · have HD := Lib.hid hD; clear hD
    have HP : Hid (p.drain (k : Int) false = ((p.putD k false), 0)) := by
      unfold Hid Pool.drain; rw [if_pos HA.out, if_neg (by rw [Int.toNat_natCast, HD.out]; simp)]; rfl
    go_enter Try.func35, Try.ntmps35
    go_wp2_with (first
      | (refine wpList_ld hb0 0 p.cells rfl 40 _ rfl rfl _ Try.underlying40 rfl (by rw [HL.out]; kernel_rfl) (fun j v h => by simpa using h) ?_)
      | (go_at_call 31; refine (address_any _ _).mono ?_; rw [HA.out]; rintro e w1 ⟨rfl, h2⟩; rw [← h2] at hb0 hb1 hw; clear h2; have hcd : w1.cell? ⟨w.heap.size, 18 + k, none⟩ = some (.bool (p.dra k)) := (by rw [hb0.cell]; exact HDC.out); rw [HD.out] at hcd)
      | (refine wpList_st1 hb0 (18 + k) (.bool false) rfl 4 _ _ rfl rfl rfl rfl (by kernel_rfl) rfl (by rw [HL.out]; omega) ?_; intro w2 hb2 hg2 hz2; rw [← p.putD_cells hp k false] at hb2; have hb3 := hb1.grown hg2 (by simp); have hw2 := hw.grown' hg2 (by simp))
      | (refine wpList_ld hb2 0 (p.putD k false).cells rfl 40 _ rfl rfl _ Try.underlying40 rfl (by rw [HW.out]; kernel_rfl) (fun j v h => by simpa using h) ?_)
      | (refine wpList_st hb3 0 (p.putD k false).cells rfl 40 _ _ rfl rfl rfl (by rw [HW.out]; kernel_rfl) (Pool.cells_one _) (by rw [HW.out]; decide) ?_; intro w4 hb4 hg4 hz4; rw [splice_all _ _ (by rw [HW.out]; rfl)] at hb4))
    refine bodyPost_ret (results_blk1 rfl _ _ hb4 rfl Try.underlying40 rfl (by rw [HW.out]; kernel_rfl)) rfl ?_
    exact ⟨by rw [HP.out]; rfl, hw2.grown' hg4 (by simp)⟩
  · have HD := Lib.hid hD; clear hD
    have HP : Hid (p.drain (k : Int) true = (p, 8)) := by
      unfold Hid; unfold Pool.drain; rw [if_pos HA.out, if_pos (by simpa using HD.out)]
    go_enter Try.func35, Try.ntmps35
    go_wp2_with (first
      | (refine wpList_ld hb0 0 p.cells rfl 40 _ rfl rfl _ Try.underlying40 rfl (by rw [HL.out]; kernel_rfl) (fun j v h => by simpa using h) ?_)
      | (go_at_call 31; refine (address_any _ _).mono ?_; rw [HA.out]; rintro e w1 ⟨rfl, h2⟩; rw [← h2] at hb0 hb1 hw; clear h2; have hcd : w1.cell? ⟨w.heap.size, 18 + k, none⟩ = some (.bool (p.dra k)) := (by rw [hb0.cell]; exact HDC.out); rw [HD.out] at hcd)
      | (refine wpList_st hb1 0 p.cells rfl 40 _ _ rfl rfl rfl (by rw [HL.out]; kernel_rfl) p.cells_one (by rw [HL.out]; decide) ?_; intro w2 hb2 hg2 hz2; rw [splice_all _ _ (by rw [HL.out]; rfl)] at hb2))
    refine bodyPost_ret (results_blk1 rfl _ _ hb2 rfl Try.underlying40 rfl (by rw [HL.out]; kernel_rfl)) rfl ?_
    exact ⟨by rw [HP.out]; rfl, hw.grown' hg2 (by simp)⟩

set_option maxHeartbeats 2000000 in
theorem DrainR_any (p : Pool) (hp : p.wf) (a : Int) (to : Bool) (w : World) :
    Calls Try.prog 28 #[p.v, .int .i64 a, .bool to] w fun e w' => e = .returned (Pool.tv2 (p.drain a to)) ∧ Ext w w' := by
  have hb0 := (Blk.new w 40 p.cells).alloc (.cells #[.int .i64 0, .int .i64 0, .int .i64 0, .int .i64 0, .int .i64 0, .int .i64 0, .int .i64 0, .int .i64 0, .int .i64 0, .int .i64 0, .int .i64 0, .int .i64 0, .int .i64 0, .int .i64 0, .int .i64 0, .int .i64 0, .int .i64 0, .int .i64 0, .bool false, .bool false, .bool false] 40)
  have hb1 := Blk.new (w.alloc (.cells p.cells.toArray 40)) 40 [.int .i64 0, .int .i64 0, .int .i64 0, .int .i64 0, .int .i64 0, .int .i64 0, .int .i64 0, .int .i64 0, .int .i64 0, .int .i64 0, .int .i64 0, .int .i64 0, .int .i64 0, .int .i64 0, .int .i64 0, .int .i64 0, .int .i64 0, .int .i64 0, .bool false, .bool false, .bool false]
  simp only [World.size_alloc] at hb1
  have hw := (Ext.alloc w (.cells p.cells.toArray 40)).alloc' (.cells #[.int .i64 0, .int .i64 0, .int .i64 0, .int .i64 0, .int .i64 0, .int .i64 0, .int .i64 0, .int .i64 0, .int .i64 0, .int .i64 0, .int .i64 0, .int .i64 0, .int .i64 0, .int .i64 0, .int .i64 0, .int .i64 0, .int .i64 0, .int .i64 0, .bool false, .bool false, .bool false] 40)
  have HL := Lib.hid hp.len
  by_cases ha0 : a < 0
  · have da : decide (a < 0) = true := by simp [ha0]
    have HP : Hid (p.drain a to = (p, 7)) := by
      unfold Hid; unfold Pool.drain; rw [if_neg (by unfold addrB; simp; omega)]
    clear ha0
    go_enter Try.func28, Try.ntmps28
    go_wp2_with (first
      | (refine wpList_ld hb0 0 p.cells rfl 40 _ rfl rfl _ Try.underlying40 rfl (by rw [HL.out]; kernel_rfl) (fun j v h => by simpa using h) ?_)
      | (refine wpList_st hb1 0 p.cells rfl 40 _ _ rfl rfl rfl (by rw [HL.out]; kernel_rfl) p.cells_one (by rw [HL.out]; decide) ?_; intro w2 hb2 hg2 hz2; rw [splice_all _ _ (by rw [HL.out]; rfl)] at hb2))
    refine bodyPost_ret (results_blk1 rfl _ _ hb2 rfl Try.underlying40 rfl (by rw [HL.out]; kernel_rfl)) rfl ?_
    exact ⟨by rw [HP.out]; rfl, hw.grown' hg2 (by simp)⟩
  by_cases ha2 : 2 < a
  · have da : decide (2 < a) = true := by simp [ha2]
    have da0 : decide (a < 0) = false := by simp; omega
    have HP : Hid (p.drain a to = (p, 7)) := by
      unfold Hid; unfold Pool.drain; rw [if_neg (by unfold addrB; simp; omega)]
    clear ha2 ha0
    go_enter Try.func28, Try.ntmps28
    go_wp2_with (first
      | (refine wpList_ld hb0 0 p.cells rfl 40 _ rfl rfl _ Try.underlying40 rfl (by rw [HL.out]; kernel_rfl) (fun j v h => by simpa using h) ?_)
      | (refine wpList_st hb1 0 p.cells rfl 40 _ _ rfl rfl rfl (by rw [HL.out]; kernel_rfl) p.cells_one (by rw [HL.out]; decide) ?_; intro w2 hb2 hg2 hz2; rw [splice_all _ _ (by rw [HL.out]; rfl)] at hb2))
    refine bodyPost_ret (results_blk1 rfl _ _ hb2 rfl Try.underlying40 rfl (by rw [HL.out]; kernel_rfl)) rfl ?_
    exact ⟨by rw [HP.out]; rfl, hw.grown' hg2 (by simp)⟩
  have da : decide (a < 0) = false := by simp; omega
  have da2 : decide (2 < a) = false := by simp; omega
  obtain ⟨k, rfl⟩ : ∃ k : Nat, a = k := ⟨a.toNat, by omega⟩
  have hk : k < 3 := by omega
  clear ha0 ha2
  have HA := Lib.hid (addr_in k hk)
  have HDC := Lib.hid (dra_cell p hp k hk)
  have hcd := hb0.cell (18 + k)
  rw [dra_cell p hp k hk] at hcd
  have hdc := dra_cell p hp k hk
  have HW := Lib.hid (p.putD_wf hp k to).len
  cases hD : p.dra k <;> cases to
  · have HD := Lib.hid hD; rw [hD] at hcd hdc; clear hD
    have HP : Hid (p.drain (k : Int) false = (p, 8)) := by
      unfold Hid; unfold Pool.drain; rw [if_pos HA.out, if_pos (by simpa using HD.out)]
    go_enter Try.func28, Try.ntmps28
    go_wp2_with (first
      | (refine wpList_ld hb0 0 p.cells rfl 40 _ rfl rfl _ Try.underlying40 rfl (by rw [HL.out]; kernel_rfl) (fun j v h => by simpa using h) ?_)
      | (refine wpList_st hb1 0 p.cells rfl 40 _ _ rfl rfl rfl (by rw [HL.out]; kernel_rfl) p.cells_one (by rw [HL.out]; decide) ?_; intro w2 hb2 hg2 hz2; rw [splice_all _ _ (by rw [HL.out]; rfl)] at hb2))
    refine bodyPost_ret (results_blk1 rfl _ _ hb2 rfl Try.underlying40 rfl (by rw [HL.out]; kernel_rfl)) rfl ?_
    exact ⟨by rw [HP.out]; rfl, hw.grown' hg2 (by simp)⟩
  · have HD := Lib.hid hD; rw [hD] at hcd hdc; clear hD
    have HP : Hid (p.drain (k : Int) true = ((p.putD k true), 0)) := by
      unfold Hid Pool.drain; rw [if_pos HA.out, if_neg (by rw [Int.toNat_natCast, HD.out]; simp)]; rfl
    go_enter Try.func28, Try.ntmps28
    go_wp2_with (first
      | (refine wpList_ld hb0 0 p.cells rfl 40 _ rfl rfl _ Try.underlying40 rfl (by rw [HL.out]; kernel_rfl) (fun j v h => by simpa using h) ?_)
      | (refine wpList_st1 hb0 (18 + k) (.bool true) rfl 4 _ _ rfl rfl rfl rfl (by kernel_rfl) rfl (by rw [HL.out]; omega) ?_; intro w2 hb2 hg2 hz2; rw [← p.putD_cells hp k true] at hb2; have hb3 := hb1.grown hg2 (by simp); have hw2 := hw.grown' hg2 (by simp))
      | (refine wpList_ld hb2 0 (p.putD k true).cells rfl 40 _ rfl rfl _ Try.underlying40 rfl (by rw [HW.out]; kernel_rfl) (fun j v h => by simpa using h) ?_)
      | (refine wpList_st hb3 0 (p.putD k true).cells rfl 40 _ _ rfl rfl rfl (by rw [HW.out]; kernel_rfl) (Pool.cells_one _) (by rw [HW.out]; decide) ?_; intro w4 hb4 hg4 hz4; rw [splice_all _ _ (by rw [HW.out]; rfl)] at hb4))
    refine bodyPost_ret (results_blk1 rfl _ _ hb4 rfl Try.underlying40 rfl (by rw [HW.out]; kernel_rfl)) rfl ?_
    exact ⟨by rw [HP.out]; rfl, hw2.grown' hg4 (by simp)⟩
  · have HD := Lib.hid hD; rw [hD] at hcd hdc; clear hD
    have HP : Hid (p.drain (k : Int) false = ((p.putD k false), 0)) := by
      unfold Hid Pool.drain; rw [if_pos HA.out, if_neg (by rw [Int.toNat_natCast, HD.out]; simp)]; rfl
    go_enter Try.func28, Try.ntmps28
    go_wp2_with (first
      | (refine wpList_ld hb0 0 p.cells rfl 40 _ rfl rfl _ Try.underlying40 rfl (by rw [HL.out]; kernel_rfl) (fun j v h => by simpa using h) ?_)
      | (refine wpList_st1 hb0 (18 + k) (.bool false) rfl 4 _ _ rfl rfl rfl rfl (by kernel_rfl) rfl (by rw [HL.out]; omega) ?_; intro w2 hb2 hg2 hz2; rw [← p.putD_cells hp k false] at hb2; have hb3 := hb1.grown hg2 (by simp); have hw2 := hw.grown' hg2 (by simp))
      | (refine wpList_ld hb2 0 (p.putD k false).cells rfl 40 _ rfl rfl _ Try.underlying40 rfl (by rw [HW.out]; kernel_rfl) (fun j v h => by simpa using h) ?_)
      | (refine wpList_st hb3 0 (p.putD k false).cells rfl 40 _ _ rfl rfl rfl (by rw [HW.out]; kernel_rfl) (Pool.cells_one _) (by rw [HW.out]; decide) ?_; intro w4 hb4 hg4 hz4; rw [splice_all _ _ (by rw [HW.out]; rfl)] at hb4))
    refine bodyPost_ret (results_blk1 rfl _ _ hb4 rfl Try.underlying40 rfl (by rw [HW.out]; kernel_rfl)) rfl ?_
    exact ⟨by rw [HP.out]; rfl, hw2.grown' hg4 (by simp)⟩
  · have HD := Lib.hid hD; rw [hD] at hcd hdc; clear hD
    have HP : Hid (p.drain (k : Int) true = (p, 8)) := by
      unfold Hid; unfold Pool.drain; rw [if_pos HA.out, if_pos (by simpa using HD.out)]
    go_enter Try.func28, Try.ntmps28
    go_wp2_with (first
      | (refine wpList_ld hb0 0 p.cells rfl 40 _ rfl rfl _ Try.underlying40 rfl (by rw [HL.out]; kernel_rfl) (fun j v h => by simpa using h) ?_)
      | (refine wpList_st hb1 0 p.cells rfl 40 _ _ rfl rfl rfl (by rw [HL.out]; kernel_rfl) p.cells_one (by rw [HL.out]; decide) ?_; intro w2 hb2 hg2 hz2; rw [splice_all _ _ (by rw [HL.out]; rfl)] at hb2))
    refine bodyPost_ret (results_blk1 rfl _ _ hb2 rfl Try.underlying40 rfl (by rw [HL.out]; kernel_rfl)) rfl ?_
    exact ⟨by rw [HP.out]; rfl, hw.grown' hg2 (by simp)⟩

set_option maxHeartbeats 2000000 in
theorem Drain_any (p : Pool) (hp : p.wf) (a : Int) (w : World) :
    Calls Try.prog 27 #[p.v, .int .i64 a] w fun e w' => e = .returned (Pool.tv2 (p.drain a true)) ∧ Ext w w' := by
  have hb0 := (Blk.new w 40 p.cells).alloc (.cells #[.int .i64 0, .int .i64 0, .int .i64 0, .int .i64 0, .int .i64 0, .int .i64 0, .int .i64 0, .int .i64 0, .int .i64 0, .int .i64 0, .int .i64 0, .int .i64 0, .int .i64 0, .int .i64 0, .int .i64 0, .int .i64 0, .int .i64 0, .int .i64 0, .bool false, .bool false, .bool false] 40)
  have hb1 := Blk.new (w.alloc (.cells p.cells.toArray 40)) 40 [.int .i64 0, .int .i64 0, .int .i64 0, .int .i64 0, .int .i64 0, .int .i64 0, .int .i64 0, .int .i64 0, .int .i64 0, .int .i64 0, .int .i64 0, .int .i64 0, .int .i64 0, .int .i64 0, .int .i64 0, .int .i64 0, .int .i64 0, .int .i64 0, .bool false, .bool false, .bool false]
  simp only [World.size_alloc] at hb1
  have hw := (Ext.alloc w (.cells p.cells.toArray 40)).alloc' (.cells #[.int .i64 0, .int .i64 0, .int .i64 0, .int .i64 0, .int .i64 0, .int .i64 0, .int .i64 0, .int .i64 0, .int .i64 0, .int .i64 0, .int .i64 0, .int .i64 0, .int .i64 0, .int .i64 0, .int .i64 0, .int .i64 0, .int .i64 0, .int .i64 0, .bool false, .bool false, .bool false] 40)
  have HL := Lib.hid hp.len
  have HQ := Lib.hid (p.drain_wf hp a true).len
  go_enter Try.func27, Try.ntmps27
  go_wp2_with (first
    | (refine wpList_ld hb0 0 p.cells rfl 40 _ rfl rfl _ Try.underlying40 rfl (by rw [HL.out]; kernel_rfl) (fun j v h => by simpa using h) ?_)
    | (go_at_call 35; refine (drain_any p hp a true _).mono ?_; rintro e w1 ⟨rfl, he⟩; have hb0 := hb0.ext he; have hb1 := hb1.ext he; have hw := hw.trans he; generalize hq : p.drain a true = q at *; obtain ⟨q, n⟩ := q)
    | (refine wpList_st hb1 0 q.cells rfl 40 _ _ rfl rfl rfl (by rw [HQ.out]; kernel_rfl) q.cells_one (by rw [HQ.out]; decide) ?_; intro w2 hb2 hg2 hz2; rw [splice_all _ _ (by rw [HQ.out]; rfl)] at hb2))
  refine bodyPost_ret (results_blk1 rfl _ _ hb2 rfl Try.underlying40 rfl (by rw [HQ.out]; kernel_rfl)) rfl ?_
  exact ⟨by rw [hq]; rfl, hw.grown' hg2 (by simp)⟩

set_option maxHeartbeats 2000000 in
theorem Undrain_any (p : Pool) (hp : p.wf) (a : Int) (w : World) :
    Calls Try.prog 29 #[p.v, .int .i64 a] w fun e w' => e = .returned (Pool.tv2 (p.drain a false)) ∧ Ext w w' := by
  have hb0 := (Blk.new w 40 p.cells).alloc (.cells #[.int .i64 0, .int .i64 0, .int .i64 0, .int .i64 0, .int .i64 0, .int .i64 0, .int .i64 0, .int .i64 0, .int .i64 0, .int .i64 0, .int .i64 0, .int .i64 0, .int .i64 0, .int .i64 0, .int .i64 0, .int .i64 0, .int .i64 0, .int .i64 0, .bool false, .bool false, .bool false] 40)
  have hb1 := Blk.new (w.alloc (.cells p.cells.toArray 40)) 40 [.int .i64 0, .int .i64 0, .int .i64 0, .int .i64 0, .int .i64 0, .int .i64 0, .int .i64 0, .int .i64 0, .int .i64 0, .int .i64 0, .int .i64 0, .int .i64 0, .int .i64 0, .int .i64 0, .int .i64 0, .int .i64 0, .int .i64 0, .int .i64 0, .bool false, .bool false, .bool false]
  simp only [World.size_alloc] at hb1
  have hw := (Ext.alloc w (.cells p.cells.toArray 40)).alloc' (.cells #[.int .i64 0, .int .i64 0, .int .i64 0, .int .i64 0, .int .i64 0, .int .i64 0, .int .i64 0, .int .i64 0, .int .i64 0, .int .i64 0, .int .i64 0, .int .i64 0, .int .i64 0, .int .i64 0, .int .i64 0, .int .i64 0, .int .i64 0, .int .i64 0, .bool false, .bool false, .bool false] 40)
  have HL := Lib.hid hp.len
  have HQ := Lib.hid (p.drain_wf hp a false).len
  go_enter Try.func29, Try.ntmps29
  go_wp2_with (first
    | (refine wpList_ld hb0 0 p.cells rfl 40 _ rfl rfl _ Try.underlying40 rfl (by rw [HL.out]; kernel_rfl) (fun j v h => by simpa using h) ?_)
    | (go_at_call 35; refine (drain_any p hp a false _).mono ?_; rintro e w1 ⟨rfl, he⟩; have hb0 := hb0.ext he; have hb1 := hb1.ext he; have hw := hw.trans he; generalize hq : p.drain a false = q at *; obtain ⟨q, n⟩ := q)
    | (refine wpList_st hb1 0 q.cells rfl 40 _ _ rfl rfl rfl (by rw [HQ.out]; kernel_rfl) q.cells_one (by rw [HQ.out]; decide) ?_; intro w2 hb2 hg2 hz2; rw [splice_all _ _ (by rw [HQ.out]; rfl)] at hb2))
  refine bodyPost_ret (results_blk1 rfl _ _ hb2 rfl Try.underlying40 rfl (by rw [HQ.out]; kernel_rfl)) rfl ?_
  exact ⟨by rw [hq]; rfl, hw.grown' hg2 (by simp)⟩
end Go.Proofs.Ytldeiolmpmcanaa
