/- Contracts of the reference's chosen, Empty, Pick and TakeBlock. No conditions but the ones that stand in each. Printed by genpool8.py. -/
import Derived.Test.YtldeiolmpmcanaaPool7
namespace Go.Proofs.Ytldeiolmpmcanaa
open Go.RowKit

theorem emod_of_tmod2 (k n : Int) (hn : 0 < n) : (k.tmod n + n) % n = k % n := by
  have h := emod_of_tmodP k n hn
  have hb := tmod_bd k n hn
  have h1 := hb.1
  have h2 := hb.2
  rw [Int.add_emod_right]
  by_cases hlt : k.tmod n < 0
  · rw [if_pos hlt] at h
    rw [← h, ← Int.add_emod_right]
    exact Int.emod_eq_of_lt (by omega) (by omega)
  · rw [if_neg hlt] at h
    rw [← h]
    exact Int.emod_eq_of_lt (by omega) (by omega)
set_option maxHeartbeats 400000 in
theorem chosenR_any (k n : Int) (w : World) (hn : 0 < n) (hn2 : n ≤ 4611686018427387904) :
    Calls Try.prog 34 #[.int .i64 k, .int .i64 n] w fun e w' => e = .returned (.int .i64 (k % n)) ∧ w' = w := by
  have hE := Lib.hid (emod_of_tmod2 k n hn)
  have hb := tmod_bd k n hn
  have h1 : -n < k.tmod n := hb.1
  have h2 : k.tmod n < n := hb.2
  have hne : (n == 0) = false := by simp; omega
  clear hb
  go_enter Try.func34, Try.ntmps34
  go_wp2
  go_ret
  exact ⟨ret_int hE.out, rfl⟩
theorem frees_in (p : Pool) (k : Nat) (hk : k < 3) : p.frees (k : Int) = freeL (p.row k) 6 := by unfold Pool.frees; rw [if_pos (addr_in k hk)]; rfl
theorem freeL_lt (l : List Int) (n i : Nat) (h : i < (freeL l n).length) : (freeL l n).getD i 0 < n := by
  have h2 : (freeL l n).getD i 0 ∈ freeL l n := by
    rw [List.getD_eq_getElem?_getD, List.getElem?_eq_getElem h]; exact List.getElem_mem h
  generalize (freeL l n).getD i 0 = x at h2
  unfold freeL at h2
  exact List.mem_range.1 (List.mem_filter.1 h2).1

set_option maxHeartbeats 2000000 in
theorem EmptyR_any (p : Pool) (hp : p.wf) (a : Int) (w : World) :
    Calls Try.prog 26 #[p.v, .int .i64 a] w fun e w' => e = .returned (.bool (p.emp a)) ∧ Ext w w' := by
  have hb0 := Blk.new w 40 p.cells
  have hw := Ext.alloc w (.cells p.cells.toArray 40)
  have HL := Lib.hid hp.len
  by_cases ha0 : ¬ (0 ≤ a)
  · have da : decide (0 ≤ a) = false := by simp; omega
    have HP : Hid (p.emp a = false) := by unfold Hid Pool.emp; rw [show addrB a = false by unfold addrB; simp; omega]; rfl
    clear ha0
    go_enter Try.func26, Try.ntmps26
    go_wp2
    go_ret
    exact ⟨ret_bool HP.out.symm, hw⟩
  by_cases ha2 : ¬ (a < 3)
  · have da : decide (a < 3) = false := by simp; omega
    have da0 : decide (0 ≤ a) = true := by simp; omega
    have HP : Hid (p.emp a = false) := by unfold Hid Pool.emp; rw [show addrB a = false by unfold addrB; simp; omega]; rfl
    clear ha2 ha0
    go_enter Try.func26, Try.ntmps26
    go_wp2
    go_ret
    exact ⟨ret_bool HP.out.symm, hw⟩
  have da : decide (0 ≤ a) = true := by simp; omega
  have da2 : decide (a < 3) = true := by simp; omega
  obtain ⟨k, rfl⟩ : ∃ k : Nat, a = k := ⟨a.toNat, by omega⟩
  have hk : k < 3 := by omega
  clear ha0 ha2
  have HA := Lib.hid (addr_in k hk)
  have hcd := hb0.cell (18 + k)
  rw [dra_cell p hp k hk] at hcd
  have hdc := dra_cell p hp k hk
  have HN := frees_len p hp (k : Int)
  cases hD : p.dra k
  · have HP : Hid (p.emp (k : Int) = false) := by unfold Hid Pool.emp; rw [Int.toNat_natCast, hD]; simp
    rw [hD] at hcd hdc; clear hD
    go_enter Try.func26, Try.ntmps26
    go_wp2
    go_ret
    exact ⟨ret_bool HP.out.symm, hw⟩
  · have HP : Hid (p.emp (k : Int) = (p.left (k : Int) == 6)) := by unfold Hid Pool.emp; rw [Int.toNat_natCast, hD, HA.out]; rfl
    rw [hD] at hcd hdc; clear hD
    cases h6 : (p.left (k : Int) == 6)
    all_goals
      rw [h6] at HP
      first
        | have d6 : (((p.frees (k : Int)).length : Int) == 6) = true := by rw [HN]; simp at h6 ⊢; omega
        | have d6 : (((p.frees (k : Int)).length : Int) == 6) = false := by rw [HN]; simp at h6 ⊢; omega
      clear h6 HN
      go_enter Try.func26, Try.ntmps26
      go_wp2_with (first
        | (refine wpList_ld hb0 0 p.cells rfl 40 _ rfl rfl _ Try.underlying40 rfl (by rw [HL.out]; kernel_rfl) (fun j v h => by simpa using h) ?_)
        | (go_at_call 33; refine (free_any p hp _ _).mono ?_; rintro e w2 ⟨v, rfl, he, hsl⟩; obtain ⟨A, cap, rfl⟩ := hsl.form0))
      go_ret
      exact ⟨ret_bool HP.out.symm, hw.trans he⟩

set_option maxHeartbeats 2000000 in
theorem TakeR_any (p : Pool) (hp : p.wf) (s a draw : Int) (w : World) :
    Calls Try.prog 17 #[p.v, .int .i64 s, .int .i64 a, .int .i64 draw] w fun e w' => e = .returned (Pool.tv (p.take s a draw)) ∧ Ext w w' := by
  have hb0 := (Blk.new w 40 p.cells).alloc (.cells #[.int .i64 0, .int .i64 0, .int .i64 0, .int .i64 0, .int .i64 0, .int .i64 0, .int .i64 0, .int .i64 0, .int .i64 0, .int .i64 0, .int .i64 0, .int .i64 0, .int .i64 0, .int .i64 0, .int .i64 0, .int .i64 0, .int .i64 0, .int .i64 0, .bool false, .bool false, .bool false] 40)
  have hb1 := Blk.new (w.alloc (.cells p.cells.toArray 40)) 40 [.int .i64 0, .int .i64 0, .int .i64 0, .int .i64 0, .int .i64 0, .int .i64 0, .int .i64 0, .int .i64 0, .int .i64 0, .int .i64 0, .int .i64 0, .int .i64 0, .int .i64 0, .int .i64 0, .int .i64 0, .int .i64 0, .int .i64 0, .int .i64 0, .bool false, .bool false, .bool false]
  simp only [World.size_alloc] at hb1
  have hw := (Ext.alloc w (.cells p.cells.toArray 40)).alloc' (.cells #[.int .i64 0, .int .i64 0, .int .i64 0, .int .i64 0, .int .i64 0, .int .i64 0, .int .i64 0, .int .i64 0, .int .i64 0, .int .i64 0, .int .i64 0, .int .i64 0, .int .i64 0, .int .i64 0, .int .i64 0, .int .i64 0, .int .i64 0, .int .i64 0, .bool false, .bool false, .bool false] 40)
  have HL := Lib.hid hp.len
  cases hG : p.good
  · have HG := Lib.hid hG; clear hG
    have HP : Hid (p.take s a draw = (p, 0, 2)) := by
      unfold Hid; unfold Pool.take; rw [if_neg (by rw [HG.out]; simp)]
    go_enter Try.func17, Try.ntmps17
    go_wp2_with (first
      | (refine wpList_ld hb0 0 p.cells rfl 40 _ rfl rfl _ Try.underlying40 rfl (by rw [HL.out]; kernel_rfl) (fun j v h => by simpa using h) ?_)
      | (go_at_call 21; refine (GoodPool_any p hp _).mono ?_; rw [HG.out]; rintro e w1 ⟨rfl, he⟩; have hb0 := hb0.ext he; have hb1 := hb1.ext he; have hw := hw.trans he)
      | (refine wpList_st hb1 0 p.cells rfl 40 _ _ rfl rfl rfl (by rw [HL.out]; kernel_rfl) p.cells_one (by rw [HL.out]; decide) ?_; intro w2 hb2 hg2 hz2; rw [splice_all _ _ (by rw [HL.out]; rfl)] at hb2))
    refine bodyPost_ret (results_blk2 rfl _ _ hb2 rfl Try.underlying40 rfl (by rw [HL.out]; kernel_rfl)) rfl ?_
    exact ⟨by rw [HP.out]; rfl, hw.grown' hg2 (by simp)⟩
  have HG := Lib.hid hG; clear hG
  by_cases ha0 : a < 0
  · have d_ha0 : decide (a < 0) = true := by simp [ha0]
    have HP : Hid (p.take s a draw = (p, 0, 7)) := by
      unfold Hid; unfold Pool.take; rw [if_pos HG.out, if_neg (by unfold addrB; simp; omega)]
    clear ha0
    go_enter Try.func17, Try.ntmps17
    go_wp2_with (first
      | (refine wpList_ld hb0 0 p.cells rfl 40 _ rfl rfl _ Try.underlying40 rfl (by rw [HL.out]; kernel_rfl) (fun j v h => by simpa using h) ?_)
      | (go_at_call 21; refine (GoodPool_any p hp _).mono ?_; rw [HG.out]; rintro e w1 ⟨rfl, he⟩; have hb0 := hb0.ext he; have hb1 := hb1.ext he; have hw := hw.trans he)
      | (refine wpList_st hb1 0 p.cells rfl 40 _ _ rfl rfl rfl (by rw [HL.out]; kernel_rfl) p.cells_one (by rw [HL.out]; decide) ?_; intro w2 hb2 hg2 hz2; rw [splice_all _ _ (by rw [HL.out]; rfl)] at hb2))
    refine bodyPost_ret (results_blk2 rfl _ _ hb2 rfl Try.underlying40 rfl (by rw [HL.out]; kernel_rfl)) rfl ?_
    exact ⟨by rw [HP.out]; rfl, hw.grown' hg2 (by simp)⟩
  have d_ha0 : decide (a < 0) = false := by simp; omega
  by_cases ha2 : 2 < a
  · have d_ha2 : decide (2 < a) = true := by simp [ha2]
    have HP : Hid (p.take s a draw = (p, 0, 7)) := by
      unfold Hid; unfold Pool.take; rw [if_pos HG.out, if_neg (by unfold addrB; simp; omega)]
    clear ha2 ha0
    go_enter Try.func17, Try.ntmps17
    go_wp2_with (first
      | (refine wpList_ld hb0 0 p.cells rfl 40 _ rfl rfl _ Try.underlying40 rfl (by rw [HL.out]; kernel_rfl) (fun j v h => by simpa using h) ?_)
      | (go_at_call 21; refine (GoodPool_any p hp _).mono ?_; rw [HG.out]; rintro e w1 ⟨rfl, he⟩; have hb0 := hb0.ext he; have hb1 := hb1.ext he; have hw := hw.trans he)
      | (refine wpList_st hb1 0 p.cells rfl 40 _ _ rfl rfl rfl (by rw [HL.out]; kernel_rfl) p.cells_one (by rw [HL.out]; decide) ?_; intro w2 hb2 hg2 hz2; rw [splice_all _ _ (by rw [HL.out]; rfl)] at hb2))
    refine bodyPost_ret (results_blk2 rfl _ _ hb2 rfl Try.underlying40 rfl (by rw [HL.out]; kernel_rfl)) rfl ?_
    exact ⟨by rw [HP.out]; rfl, hw.grown' hg2 (by simp)⟩
  have d_ha2 : decide (2 < a) = false := by simp; omega
  obtain ⟨k, rfl⟩ : ∃ k : Nat, a = k := ⟨a.toNat, by omega⟩
  have hk : k < 3 := by omega
  clear ha0 ha2
  by_cases hs0 : s < 0
  · have d_hs0 : decide (s < 0) = true := by simp [hs0]
    have HP : Hid (p.take s (k : Int) draw = (p, 0, 7)) := by
      unfold Hid; unfold Pool.take; rw [if_pos HG.out, if_neg (by omega)]
    clear hs0
    go_enter Try.func17, Try.ntmps17
    go_wp2_with (first
      | (refine wpList_ld hb0 0 p.cells rfl 40 _ rfl rfl _ Try.underlying40 rfl (by rw [HL.out]; kernel_rfl) (fun j v h => by simpa using h) ?_)
      | (go_at_call 21; refine (GoodPool_any p hp _).mono ?_; rw [HG.out]; rintro e w1 ⟨rfl, he⟩; have hb0 := hb0.ext he; have hb1 := hb1.ext he; have hw := hw.trans he)
      | (refine wpList_st hb1 0 p.cells rfl 40 _ _ rfl rfl rfl (by rw [HL.out]; kernel_rfl) p.cells_one (by rw [HL.out]; decide) ?_; intro w2 hb2 hg2 hz2; rw [splice_all _ _ (by rw [HL.out]; rfl)] at hb2))
    refine bodyPost_ret (results_blk2 rfl _ _ hb2 rfl Try.underlying40 rfl (by rw [HL.out]; kernel_rfl)) rfl ?_
    exact ⟨by rw [HP.out]; rfl, hw.grown' hg2 (by simp)⟩
  have d_hs0 : decide (s < 0) = false := by simp; omega
  by_cases hs7 : 7 < s
  · have d_hs7 : decide (7 < s) = true := by simp [hs7]
    have HP : Hid (p.take s (k : Int) draw = (p, 0, 7)) := by
      unfold Hid; unfold Pool.take; rw [if_pos HG.out, if_neg (by omega)]
    clear hs7 hs0
    go_enter Try.func17, Try.ntmps17
    go_wp2_with (first
      | (refine wpList_ld hb0 0 p.cells rfl 40 _ rfl rfl _ Try.underlying40 rfl (by rw [HL.out]; kernel_rfl) (fun j v h => by simpa using h) ?_)
      | (go_at_call 21; refine (GoodPool_any p hp _).mono ?_; rw [HG.out]; rintro e w1 ⟨rfl, he⟩; have hb0 := hb0.ext he; have hb1 := hb1.ext he; have hw := hw.trans he)
      | (refine wpList_st hb1 0 p.cells rfl 40 _ _ rfl rfl rfl (by rw [HL.out]; kernel_rfl) p.cells_one (by rw [HL.out]; decide) ?_; intro w2 hb2 hg2 hz2; rw [splice_all _ _ (by rw [HL.out]; rfl)] at hb2))
    refine bodyPost_ret (results_blk2 rfl _ _ hb2 rfl Try.underlying40 rfl (by rw [HL.out]; kernel_rfl)) rfl ?_
    exact ⟨by rw [HP.out]; rfl, hw.grown' hg2 (by simp)⟩
  have d_hs7 : decide (7 < s) = false := by simp; omega
  have hs0' : 0 ≤ s := by omega
  have hs8' : s < 8 := by omega
  clear hs0 hs7
  have HS : Hid (addrB (k : Int) = true ∧ 0 ≤ s ∧ s < 8) := ⟨addr_in k hk, hs0', hs8'⟩
  have HDC := Lib.hid (dra_cell p hp k hk)
  cases hD : p.dra k
  case true =>
    have HD := Lib.hid hD; clear hD
    have HP : Hid (p.take s (k : Int) draw = (p, 0, 9)) := by
      unfold Hid; unfold Pool.take; rw [if_pos HG.out, if_pos HS.out, if_pos (by simpa using HD.out)]
    go_enter Try.func17, Try.ntmps17
    go_wp2_with (first
      | (refine wpList_ld hb0 0 p.cells rfl 40 _ rfl rfl _ Try.underlying40 rfl (by rw [HL.out]; kernel_rfl) (fun j v h => by simpa using h) ?_)
      | (go_at_call 21; refine (GoodPool_any p hp _).mono ?_; rw [HG.out]; rintro e w1 ⟨rfl, he⟩; have hb0 := hb0.ext he; have hb1 := hb1.ext he; have hw := hw.trans he; have hcd : w1.cell? ⟨w.heap.size, 18 + k, none⟩ = some (.bool (p.dra k)) := (by rw [hb0.cell]; exact HDC.out); rw [HD.out] at hcd)
      | (refine wpList_st hb1 0 p.cells rfl 40 _ _ rfl rfl rfl (by rw [HL.out]; kernel_rfl) p.cells_one (by rw [HL.out]; decide) ?_; intro w2 hb2 hg2 hz2; rw [splice_all _ _ (by rw [HL.out]; rfl)] at hb2))
    refine bodyPost_ret (results_blk2 rfl _ _ hb2 rfl Try.underlying40 rfl (by rw [HL.out]; kernel_rfl)) rfl ?_
    exact ⟨by rw [HP.out]; rfl, hw.grown' hg2 (by simp)⟩
  case false =>
    have HD := Lib.hid hD; clear hD
    have hnl := frees_len p hp (k : Int)
    by_cases hl0 : p.left (k : Int) = 0
    · have dl : (((p.frees (k : Int)).length : Int) == 0) = true := by rw [hnl, hl0]; rfl
      have HP : Hid (p.take s (k : Int) draw = (p, 0, 10)) := by
        unfold Hid; unfold Pool.take; rw [if_pos HG.out, if_pos HS.out, if_neg (by simp [HD.out]), if_pos (by exact hl0)]
      clear hnl hl0
      go_enter Try.func17, Try.ntmps17
      go_wp2_with (first
        | (refine wpList_ld hb0 0 p.cells rfl 40 _ rfl rfl _ Try.underlying40 rfl (by rw [HL.out]; kernel_rfl) (fun j v h => by simpa using h) ?_)
        | (go_at_call 21; refine (GoodPool_any p hp _).mono ?_; rw [HG.out]; rintro e w1 ⟨rfl, he⟩; have hb0 := hb0.ext he; have hb1 := hb1.ext he; have hw := hw.trans he; have hcd : w1.cell? ⟨w.heap.size, 18 + k, none⟩ = some (.bool (p.dra k)) := (by rw [hb0.cell]; exact HDC.out); rw [HD.out] at hcd)
        | (go_at_call 33; refine (free_any p hp _ _).mono ?_; rintro e w2 ⟨v, rfl, he, hsl⟩; obtain ⟨A, cap, rfl⟩ := hsl.form0; have hb0 := hb0.ext he; have hb1 := hb1.ext he; have hw := hw.trans he)
        | (refine wpList_st hb1 0 p.cells rfl 40 _ _ rfl rfl rfl (by rw [HL.out]; kernel_rfl) p.cells_one (by rw [HL.out]; decide) ?_; intro w2 hb2 hg2 hz2; rw [splice_all _ _ (by rw [HL.out]; rfl)] at hb2))
      refine bodyPost_ret (results_blk2 rfl _ _ hb2 rfl Try.underlying40 rfl (by rw [HL.out]; kernel_rfl)) rfl ?_
      exact ⟨by rw [HP.out]; rfl, hw.grown' hg2 (by simp)⟩
    · have dl : (((p.frees (k : Int)).length : Int) == 0) = false := beq_eq_false_iff_ne.2 (by omega)
      have hF := frees_in p k hk
      have hl6 : (p.frees (k : Int)).length ≤ 6 := by rw [hF]; exact freeL_length_le _ _
      have hl1 : 0 < (p.frees (k : Int)).length := by omega
      obtain ⟨K, hK⟩ : ∃ K : Nat, draw % ((p.frees (k : Int)).length : Int) = K := ⟨(draw % ((p.frees (k : Int)).length : Int)).toNat, by have := Int.emod_nonneg draw (show ((p.frees (k : Int)).length : Int) ≠ 0 by omega); omega⟩
      have hKl : K < (p.frees (k : Int)).length := by have := Int.emod_lt_of_pos draw (show (0 : Int) < ((p.frees (k : Int)).length : Int) by omega); omega
      have hKL := freeL_lt (p.row k) 6 K (by rw [← hF]; exact hKl)
      have HC := Lib.hid hK
      have HP : Hid (p.take s (k : Int) draw = (p.put k ((p.frees (k : Int)).getD K 0) (s + 1), (((p.frees (k : Int)).getD K 0 : Nat) : Int), 0)) := by
        have hkth : p.kth k draw = (p.frees (k : Int)).getD K 0 := by unfold Pool.kth; rw [← hnl, hK, Int.toNat_natCast, hF]
        unfold Hid Pool.take; rw [if_pos HG.out, if_pos HS.out, if_neg (by simp [HD.out]), if_neg (by exact hl0), ← hkth]; rfl
      have HV := Lib.hid (vals_get (p.frees (k : Int)) K hKl)
      rw [← hF] at hKL
      generalize (p.frees (k : Int)).getD K 0 = m at *
      have HL2 := Lib.hid (p.put_wf hp k m (s + 1)).len
      clear hl0 hK hF hnl
      go_enter Try.func17, Try.ntmps17
      go_wp2_with (first
        | (refine wpList_ld hb0 0 p.cells rfl 40 _ rfl rfl _ Try.underlying40 rfl (by rw [HL.out]; kernel_rfl) (fun j v h => by simpa using h) ?_)
        | (go_at_call 21; refine (GoodPool_any p hp _).mono ?_; rw [HG.out]; rintro e w1 ⟨rfl, he⟩; have hb0 := hb0.ext he; have hb1 := hb1.ext he; have hw := hw.trans he; have hcd : w1.cell? ⟨w.heap.size, 18 + k, none⟩ = some (.bool (p.dra k)) := (by rw [hb0.cell]; exact HDC.out); rw [HD.out] at hcd)
        | (go_at_call 33; refine (free_any p hp _ _).mono ?_; rintro e w2 ⟨v, rfl, he, hsl⟩; obtain ⟨g, cap, rfl, hgb, hgl, hcs⟩ := hsl.form hl1; have hcg := hcs K _ HV.out; have hb0 := hb0.ext he; have hb1 := hb1.ext he; have hw := hw.trans he; clear hcs hsl)
        | (go_at_call 34; refine (chosenR_any _ _ _ (by omega) (by omega)).mono ?_; rw [HC.out]; rintro e w9 ⟨rfl, rfl⟩)
        | (refine wpList_st1 hb0 (k * 6 + m) (.int .i64 (s + 1)) rfl 3 _ _ rfl rfl rfl rfl (by kernel_rfl) rfl (by rw [HL.out]; omega) ?_; intro w2 hb2 hg2 hz2; rw [← p.put_cells k m (s + 1) (by rw [hp.own]; omega)] at hb2; have hb3 := hb1.grown hg2 (by simp); have hw2 := hw.grown' hg2 (by simp))
        | (refine wpList_ld hb2 0 (p.put k m (s + 1)).cells rfl 40 _ rfl rfl _ Try.underlying40 rfl (by rw [HL2.out]; kernel_rfl) (fun j v h => by simpa using h) ?_)
        | (refine wpList_st hb3 0 (p.put k m (s + 1)).cells rfl 40 _ _ rfl rfl rfl (by rw [HL2.out]; kernel_rfl) (Pool.cells_one _) (by rw [HL2.out]; decide) ?_; intro w4 hb4 hg4 hz4; rw [splice_all _ _ (by rw [HL2.out]; rfl)] at hb4))
      refine bodyPost_ret (results_blk2 rfl _ _ hb4 rfl Try.underlying40 rfl (by rw [HL2.out]; kernel_rfl)) rfl ?_
      exact ⟨by rw [HP.out]; rfl, hw2.grown' hg4 (by simp)⟩
end Go.Proofs.Ytldeiolmpmcanaa
