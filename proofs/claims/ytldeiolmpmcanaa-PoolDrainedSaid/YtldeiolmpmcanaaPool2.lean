/- More contracts of package pool and of the reference's. No conditions but the ones that stand in each. -/
import Derived.Test.YtldeiolmpmcanaaPool
import Derived.Test.YtldeiolmpmcanaaNum
namespace Go.Proofs.Ytldeiolmpmcanaa
open Go.RowKit

set_option maxHeartbeats 2000000 in
theorem GoodPool_any (p : Pool) (hp : p.wf) (w : World) :
    Calls Try.prog 21 #[p.v] w fun e w' => e = .returned (.bool p.good) ∧ Ext w w' := by
  go_enter Try.func21, Try.ntmps21
  have hb0 := Blk.new w 40 p.cells
  have hw0 := Ext.alloc w (.cells p.cells.toArray 40)
  go_wp2_with (first
    | (refine wpList_ld hb0 0 (p.own.map (.int .i64)) rfl 37 _ rfl rfl _ Try.underlying37 rfl (by rw [List.length_map, hp.own]; kernel_rfl) p.cells_own ?_))
  clear hb0
  go_loopw [9] (fun i wr => ∃ k : Nat, k ≤ 3 ∧ i = .int .i64 k ∧ (p.own.take (6 * k)).all goodI = true ∧ Ext w wr) (fun i _ => 3 - (intOf i).toNat)
  case atStart => exact ⟨0, by omega, rfl, rfl, hw0⟩
  case round =>
    obtain ⟨k, hk, rfl, hg, hwr⟩ := hrel
    have HG := Lib.hid hg; clear hg
    by_cases hlt : k < 3
    · have hr6 := row_length p hp k hlt
      have HR := Lib.hid hr6; clear hr6
      have hbz := Blk.new wr 36 [.int .i64 0, .int .i64 0, .int .i64 0, .int .i64 0, .int .i64 0, .int .i64 0]
      go_wp2_with (first
        | (refine wpList_ix_row k 6 3 36 _ (p.own.map (.int .i64)) _ rfl 37 _ _ rfl rfl rfl (by omega) hlt Try.underlying37 Try.underlying36 rfl (by kernel_rfl) ?_; rw [own_row])
        | (refine wpList_st hbz 0 ((p.row k).map (.int .i64)) rfl 36 _ _ rfl rfl rfl (by rw [List.length_map, HR.out]; kernel_rfl) (by simp [Value.oneCell']) (by rw [List.length_map, HR.out]; decide) ?_; intro w2 hb2 hg2 hz2)
        | (refine wpList_ld hb2 0 ((p.row k).map (.int .i64)) rfl 36 _ rfl rfl _ Try.underlying36 rfl (by rw [List.length_map, HR.out]; kernel_rfl) (by rw [splice_all _ _ (by rw [List.length_map, HR.out]; rfl)]; intro j v h; simpa using h) ?_))
      have hw2 := (hwr.alloc' (.cells #[.int .i64 0, .int .i64 0, .int .i64 0, .int .i64 0, .int .i64 0, .int .i64 0] 36)).grown' hg2 (by simp; have := hwr.size; omega)
      clear hb2 hg2 hz2 hbz hwr
      go_loopw [13] (fun j wj => ∃ m : Nat, m ≤ 6 ∧ j = .int .i64 m ∧ (p.own.take (6 * k + m)).all goodI = true ∧ Ext w wj) (fun j _ => 6 - (intOf j).toNat)
      case atStart => exact ⟨0, by omega, rfl, HG.out, hw2⟩
      case round =>
        obtain ⟨m, hm, rfl, hgm, hwj⟩ := hrel
        have HM := Lib.hid hgm; clear hgm
        by_cases hlm : m < 6
        · obtain ⟨x, hx⟩ : ∃ x, p.own[6 * k + m]? = some x := ⟨_, List.getElem?_eq_getElem (by rw [hp.own]; omega)⟩
          have hrx : (p.row k)[m]? = some x := by rw [row_get p k m hlm, Nat.mul_comm]; exact hx
          have HX := Lib.hid hx; have HRX := Lib.hid (map_get _ _ _ hrx); clear hx hrx
          by_cases hlo : x < 0
          · have d1 : decide (x < 0) = true := by simp [hlo]
            have HB := Lib.hid (good_not p _ x HX.out (goodI_lo x hlo))
            clear hlo
            go_wp2_with (refine wpList_ix_cell m 6 3 _ ((p.row k).map (.int .i64)) _ (.int .i64 x) rfl 36 _ _ rfl rfl rfl (by omega) hlm HRX.out Try.underlying36 Try.underlying3 rfl (by kernel_rfl) ?_)
            go_ret
            exact ⟨ret_bool HB.out.symm, hwj⟩
          · have d1 : decide (x < 0) = false := by simp; omega
            by_cases hhi : 8 < x
            · have d2 : decide (8 < x) = true := by simp [hhi]
              have HB := Lib.hid (good_not p _ x HX.out (goodI_hi x hhi))
              clear hhi hlo
              go_wp2_with (refine wpList_ix_cell m 6 3 _ ((p.row k).map (.int .i64)) _ (.int .i64 x) rfl 36 _ _ rfl rfl rfl (by omega) hlm HRX.out Try.underlying36 Try.underlying3 rfl (by kernel_rfl) ?_)
              go_ret
              exact ⟨ret_bool HB.out.symm, hwj⟩
            · have d2 : decide (8 < x) = false := by simp; omega
              have HB := Lib.hid (good_snoc p _ x HX.out HM.out (goodI_in x hlo hhi))
              clear hhi hlo
              go_wp2_with (refine wpList_ix_cell m 6 3 _ ((p.row k).map (.int .i64)) _ (.int .i64 x) rfl 36 _ _ rfl rfl rfl (by omega) hlm HRX.out Try.underlying36 Try.underlying3 rfl (by kernel_rfl) ?_)
              go_roundw
              case rel => exact ⟨m + 1, by omega, by go_num, HB.out, hwj⟩
              case measure => simp [intOf]; omega
        · have HE : Hid ((p.own.take (6 * (k + 1))).all goodI = true) := by
            have e : 6 * (k + 1) = 6 * k + m := by omega
            rw [e]; exact HM.out
          go_wp2
          go_roundw
          case rel => exact ⟨k + 1, by omega, by go_num, HE.out, hwj⟩
          case measure => simp [intOf]; omega
    · have HB := Lib.hid (good_all p (by have e : k = 3 := by omega
                                         rw [← e]; exact HG.out) hp)
      go_wp2
      go_ret
      exact ⟨ret_bool HB.out.symm, hwr⟩


def addrB (a : Int) : Bool := decide (0 ≤ a) && decide (a < 3)
set_option maxHeartbeats 400000 in
theorem address_any (a : Int) (w : World) :
    Calls Try.prog 31 #[.int .i64 a] w fun e w' => e = .returned (.bool (addrB a)) ∧ w' = w := by
  by_cases h0 : 0 ≤ a
  · have d0 : decide (0 ≤ a) = true := by simp [h0]
    have HB : Hid (addrB a = decide (a < 3)) := by unfold addrB; rw [d0]; rfl
    go_enter Try.func31, Try.ntmps31
    go_wp2
    go_ret
    exact ⟨ret_bool HB.out.symm, rfl⟩
  · have d0 : decide (0 ≤ a) = false := by simp; omega
    have HB : Hid (addrB a = false) := by unfold addrB; rw [d0]; rfl
    clear h0
    go_enter Try.func31, Try.ntmps31
    go_wp2
    go_ret
    exact ⟨ret_bool HB.out.symm, rfl⟩

theorem emod_of_tmodP (k n : Int) (hn : 0 < n) : (if k.tmod n < 0 then k.tmod n + n else k.tmod n) = k % n := by
  rw [Int.tmod_eq_emod]
  have h1 := Int.emod_nonneg k (show n ≠ 0 by omega)
  have h2 := Int.emod_lt_of_pos k hn
  have e : (n.natAbs : Int) = n := by omega
  by_cases h : 0 ≤ k ∨ n ∣ k
  · rw [if_pos h]; simp; omega
  · rw [if_neg h, e]
    have : k % n ≠ 0 := fun h0 => h (.inr (Int.dvd_of_emod_eq_zero h0))
    rw [if_pos (by omega)]; omega

set_option maxHeartbeats 400000 in
theorem chosen_any (k n : Int) (w : World) (hn : 0 < n) (hn2 : n ≤ 4611686018427387904) :
    Calls Try.prog 32 #[.int .i64 k, .int .i64 n] w fun e w' => e = .returned (.int .i64 (k % n)) ∧ w' = w := by
  have hE := Lib.hid (emod_of_tmodP k n hn)
  have hb := tmod_bd k n hn
  have h1 : -n < k.tmod n := hb.1
  have h2 : k.tmod n < n := hb.2
  have hne : (n == 0) = false := by simp; omega
  clear hb
  by_cases hlt : k.tmod n < 0
  · go_enter Try.func32, Try.ntmps32
    go_wp2
    go_ret
    exact ⟨ret_int (by rw [← hE.out, if_pos hlt]), rfl⟩
  · go_enter Try.func32, Try.ntmps32
    go_wp2
    go_ret
    exact ⟨ret_int (by rw [← hE.out, if_neg (by omega)]), rfl⟩

/-- how many of a row are nobody's. -/
def freeN (l : List Int) : Nat := l.countP (· == 0)
def Pool.left (p : Pool) (a : Int) : Nat := if addrB a = true then freeN (p.row a.toNat) else 0
theorem left_in (p : Pool) (a : Nat) (h : a < 3) : p.left a = freeN (p.row a) := by
  unfold Pool.left; rw [if_pos (by unfold addrB; simp; omega)]; simp
theorem left_out (p : Pool) (a : Int) (h : addrB a = false) : p.left a = 0 := by unfold Pool.left; rw [if_neg (by rw [h]; simp)]
theorem freeN_snoc (l : List Int) (m : Nat) (x : Int) (h : l[m]? = some x) : freeN (l.take (m + 1)) = freeN (l.take m) + (if x = 0 then 1 else 0) := by
  unfold freeN
  rw [List.take_add_one, h]
  simp [List.countP_append, List.countP_cons]
theorem freeN_le (l : List Int) (m : Nat) : freeN (l.take m) ≤ m := by
  unfold freeN
  have := List.countP_le_length (p := (· == 0)) (l := l.take m)
  have := List.length_take_le m l
  omega
theorem Pool.cells_row (p : Pool) (a : Nat) (ha : a < 3) (hp : p.wf) (j : Nat) (v : Value) (hj : ((p.row a).map (Value.int .i64))[j]? = some v) : p.cells[a * 6 + j]? = some v := by
  have hl := row_length p hp a ha
  have hj6 : j < 6 := by have := (List.getElem?_eq_some_iff.1 hj).1; simpa [hl] using this
  unfold Pool.cells
  rw [List.getElem?_append_left (by simp [hp.own]; omega), List.getElem?_map, ← row_get p a j hj6, ← List.getElem?_map]
  exact hj

set_option maxHeartbeats 1000000 in
theorem Left_any (p : Pool) (hp : p.wf) (a : Int) (w : World) :
    Calls Try.prog 16 #[p.v, .int .i64 a] w fun e w' => e = .returned (.int .i64 (p.left a)) ∧ Ext w w' := by
  cases hA : addrB a
  · have HL := Lib.hid (left_out p a hA)
    have HA := Lib.hid hA; clear hA
    go_enter Try.func16, Try.ntmps16
    go_wp2_with (go_at_call 31; refine (address_any _ _).mono ?_; rw [HA.out]; rintro e w' ⟨rfl, rfl⟩)
    go_ret
    exact ⟨ret_int (by rw [HL.out]; rfl), Ext.alloc _ _⟩
  · obtain ⟨k, rfl⟩ : ∃ k : Nat, a = k := ⟨a.toNat, by unfold addrB at hA; simp at hA; omega⟩
    have hk : k < 3 := by unfold addrB at hA; simp at hA; omega
    have HL := Lib.hid (left_in p k hk)
    have HA := Lib.hid hA; clear hA
    have HR := Lib.hid (row_length p hp k hk)
    have hb0 := Blk.new w 40 p.cells
    have hw0 := Ext.alloc w (.cells p.cells.toArray 40)
    go_enter Try.func16, Try.ntmps16
    go_wp2_with (first
      | (go_at_call 31; refine (address_any _ _).mono ?_; rw [HA.out]; rintro e w' ⟨rfl, rfl⟩)
      | (refine wpList_ld hb0 (k * 6) ((p.row k).map (.int .i64)) rfl 36 _ rfl rfl _ Try.underlying36 rfl (by rw [List.length_map, HR.out]; kernel_rfl) (p.cells_row k hk hp) ?_))
    clear hb0
    go_loop [5, 14] (fun v i => ∃ m : Nat, m ≤ 6 ∧ i = .int .i64 m ∧ v = .int .i64 (freeN ((p.row k).take m))) (fun _ i => 6 - (intOf i).toNat)
    case atStart => exact ⟨0, by omega, rfl, rfl⟩
    case round =>
      obtain ⟨m, hm, rfl, rfl⟩ := hrel
      have hf := freeN_le (p.row k) m
      by_cases hlm : m < 6
      · obtain ⟨x, hx⟩ : ∃ x, (p.row k)[m]? = some x := ⟨_, List.getElem?_eq_getElem (by rw [HR.out]; omega)⟩
        have HS := Lib.hid (freeN_snoc _ m x hx)
        have HX := Lib.hid (map_get _ _ _ hx); clear hx
        by_cases h0 : x = 0
        · have d1 : (x == 0) = true := by simp [h0]
          have H0 := Lib.hid h0; clear h0
          go_wp2_with (refine wpList_ix_cell m 6 3 _ ((p.row k).map (.int .i64)) _ (.int .i64 x) rfl 36 _ _ rfl rfl rfl (by omega) hlm HX.out Try.underlying36 Try.underlying3 rfl (by kernel_rfl) ?_)
          go_round
          case rel => exact ⟨m + 1, by omega, by go_num, by rw [HS.out, if_pos H0.out]; go_num⟩
          case measure => simp [intOf]; omega
        · have d1 : (x == 0) = false := by simp [h0]
          have H0 := Lib.hid h0; clear h0
          go_wp2_with (refine wpList_ix_cell m 6 3 _ ((p.row k).map (.int .i64)) _ (.int .i64 x) rfl 36 _ _ rfl rfl rfl (by omega) hlm HX.out Try.underlying36 Try.underlying3 rfl (by kernel_rfl) ?_)
          go_round
          case rel => exact ⟨m + 1, by omega, by go_num, by rw [HS.out, if_neg H0.out]; go_num⟩
          case measure => simp [intOf]; omega
      · have HE : Hid (freeN ((p.row k).take m) = p.left k) := by
          rw [HL.out, List.take_of_length_le (by rw [HR.out]; omega)]; rfl
        go_wp2
        go_ret
        exact ⟨ret_int (by rw [HE.out]), hw0⟩
end Go.Proofs.Ytldeiolmpmcanaa
