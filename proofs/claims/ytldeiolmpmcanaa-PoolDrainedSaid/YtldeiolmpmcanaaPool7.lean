/- Contracts of Empty, and of the reference's free, chosen, Left, Empty. No conditions but the ones that stand in each. -/
import Derived.Test.YtldeiolmpmcanaaPool6
namespace Go.Proofs.Ytldeiolmpmcanaa
open Go.RowKit

theorem Sl.base {w0 w1 w : World} {e size : Nat} {v : Value} {n : Nat} {xs : List Value} (h : Sl w1 w e size v n xs) (hb : w0.heap.size ≤ w1.heap.size) : Sl w0 w e size v n xs := by
  refine ⟨h.1, ?_⟩
  rcases h.2 with hn | ⟨g, cap, cur, hv, hg, r⟩
  · exact .inl hn
  · exact .inr ⟨g, cap, cur, hv, Nat.le_trans hb hg, r⟩

set_option maxHeartbeats 1000000 in
theorem Empty_any (p : Pool) (hp : p.wf) (a : Int) (w : World) :
    Calls Try.prog 25 #[p.v, .int .i64 a] w fun e w' => e = .returned (.bool (p.emp a)) ∧ Ext w w' := by
  have hb0 := Blk.new w 40 p.cells
  have hw := Ext.alloc w (.cells p.cells.toArray 40)
  have HL := Lib.hid hp.len
  cases hA : addrB a
  · have HP : Hid (p.emp a = false) := by unfold Hid Pool.emp; rw [hA]; rfl
    have HA := Lib.hid hA; clear hA
    go_enter Try.func25, Try.ntmps25
    go_wp2_with (go_at_call 31; refine (address_any _ _).mono ?_; rw [HA.out]; rintro e w1 ⟨rfl, rfl⟩)
    go_ret
    exact ⟨ret_bool HP.out.symm, hw⟩
  obtain ⟨k, rfl, hk⟩ := addr_nat a hA
  have HA := Lib.hid hA; clear hA
  have HDC := Lib.hid (dra_cell p hp k hk)
  cases hD : p.dra k
  · have HP : Hid (p.emp (k : Int) = false) := by unfold Hid Pool.emp; rw [Int.toNat_natCast, hD]; simp
    have HD := Lib.hid hD; clear hD
    go_enter Try.func25, Try.ntmps25
    go_wp2_with (go_at_call 31; refine (address_any _ _).mono ?_; rw [HA.out]; rintro e w1 ⟨rfl, h2⟩; rw [← h2] at hb0 hw; clear h2; have hcd : w1.cell? ⟨w.heap.size, 18 + k, none⟩ = some (.bool (p.dra k)) := (by rw [hb0.cell]; exact HDC.out); rw [HD.out] at hcd)
    go_ret
    exact ⟨ret_bool HP.out.symm, hw⟩
  · have HP : Hid (p.emp (k : Int) = (p.left (k : Int) == 6)) := by unfold Hid Pool.emp; rw [Int.toNat_natCast, hD, HA.out]; rfl
    have HD := Lib.hid hD; clear hD
    cases h6 : (p.left (k : Int) == 6)
    all_goals
      rw [h6] at HP
      first
        | have d6 : (((p.left (k : Int) : Nat) : Int) == 6) = true := by simp at h6 ⊢; omega
        | have d6 : (((p.left (k : Int) : Nat) : Int) == 6) = false := by simp at h6 ⊢; omega
      clear h6
      go_enter Try.func25, Try.ntmps25
      go_wp2_with (first
        | (go_at_call 31; refine (address_any _ _).mono ?_; rw [HA.out]; rintro e w1 ⟨rfl, h2⟩; rw [← h2] at hb0 hw; clear h2; have hcd : w1.cell? ⟨w.heap.size, 18 + k, none⟩ = some (.bool (p.dra k)) := (by rw [hb0.cell]; exact HDC.out); rw [HD.out] at hcd)
        | (refine wpList_ld hb0 0 p.cells rfl 40 _ rfl rfl _ Try.underlying40 rfl (by rw [HL.out]; kernel_rfl) (fun j v h => by simpa using h) ?_)
        | (go_at_call 16; refine (Left_any p hp _ _).mono ?_; rintro e w2 ⟨rfl, he⟩))
      go_ret
      exact ⟨ret_bool HP.out.symm, hw.trans he⟩

/-- the free blocks of an address. -/
def Pool.frees (p : Pool) (a : Int) : List Nat := if addrB a = true then freeL (p.row a.toNat) 6 else []
theorem frees_len (p : Pool) (hp : p.wf) (a : Int) : (p.frees a).length = p.left a := by
  unfold Pool.frees Pool.left
  split
  · rename_i h
    obtain ⟨k, rfl, hk⟩ := addr_nat a h
    rw [Int.toNat_natCast, freeL_len _ 6 (by rw [row_length p hp k hk]; omega), List.take_of_length_le (by rw [row_length p hp k hk]; omega)]
  · rfl
theorem vals_len (l : List Nat) : (vals l).length = l.length := by simp [vals]
theorem freeL_length_le (l : List Int) (n : Nat) : (freeL l n).length ≤ n := by
  have := List.length_filter_le (fun k => l.getD k 1 == 0) (List.range n); simpa [freeL] using this

set_option maxHeartbeats 1000000 in
theorem free_any (p : Pool) (hp : p.wf) (a : Int) (w : World) :
    Calls Try.prog 33 #[p.v, .int .i64 a] w fun e w' => ∃ v, e = .returned v ∧ Ext w w' ∧ Sl w w' 3 1 v (p.frees a).length (vals (p.frees a)) := by
  by_cases ha0 : a < 0
  · have da : decide (a < 0) = true := by simp [ha0]
    have HP : Hid (p.frees a = []) := by unfold Hid Pool.frees; rw [if_neg (by unfold addrB; simp; omega)]
    clear ha0
    go_enter Try.func33, Try.ntmps33
    go_wp2
    go_ret
    exact ⟨_, rfl, Ext.alloc _ _, by rw [HP.out]; exact Sl.nil _ _ _ _⟩
  have da : decide (a < 0) = false := by simp; omega
  by_cases ha2 : 2 < a
  · have da2 : decide (2 < a) = true := by simp [ha2]
    have HP : Hid (p.frees a = []) := by unfold Hid Pool.frees; rw [if_neg (by unfold addrB; simp; omega)]
    clear ha0 ha2
    go_enter Try.func33, Try.ntmps33
    go_wp2
    go_ret
    exact ⟨_, rfl, Ext.alloc _ _, by rw [HP.out]; exact Sl.nil _ _ _ _⟩
  have da2 : decide (2 < a) = false := by simp; omega
  obtain ⟨k, rfl⟩ : ∃ k : Nat, a = k := ⟨a.toNat, by omega⟩
  have hk : k < 3 := by omega
  clear ha0 ha2
  have HP : Hid (p.frees (k : Int) = freeL (p.row k) 6) := by unfold Hid Pool.frees; rw [if_pos (addr_in k hk)]; rfl
  have HR := Lib.hid (row_length p hp k hk)
  have hb0 := Blk.new w 40 p.cells
  have hw0 := Ext.alloc w (.cells p.cells.toArray 40)
  go_enter Try.func33, Try.ntmps33
  go_wp2_with (refine wpList_ld hb0 (k * 6) ((p.row k).map (.int .i64)) rfl 36 _ rfl rfl _ Try.underlying36 rfl (by rw [List.length_map, HR.out]; kernel_rfl) (p.cells_row k hk hp) ?_)
  clear hb0
  go_loopw [5, 18] (fun l i wr => ∃ m : Nat, m ≤ 6 ∧ i = .int .i64 m ∧ Sl w wr 3 1 l (freeL (p.row k) m).length (vals (freeL (p.row k) m)) ∧ Ext w wr) (fun _ i _ => 6 - (intOf i).toNat)
  case atStart => exact ⟨0, by omega, rfl, Sl.nil _ _ _ _, hw0⟩
  case round =>
    obtain ⟨m, hm, rfl, hsl, hwr⟩ := hrel
    have hol := freeL_length_le (p.row k) m
    by_cases hlm : m < 6
    · obtain ⟨x, hx⟩ : ∃ x, (p.row k)[m]? = some x := ⟨_, List.getElem?_eq_getElem (by rw [HR.out]; omega)⟩
      have HS := Lib.hid (freeL_succ (p.row k) m)
      have HX0 : Hid ((p.row k).getD m 1 = x) := by unfold Hid; rw [List.getD_eq_getElem?_getD, hx]; rfl
      have HX := Lib.hid (map_get _ _ _ hx); clear hx
      by_cases h0 : x = 0
      · have d3 : (x == 0) = true := by simp [h0]
        have H0 := Lib.hid h0; clear h0
        go_wp2_with (first
          | (refine wpList_ix_cell m 6 3 _ ((p.row k).map (.int .i64)) _ (.int .i64 x) rfl 36 _ _ rfl rfl rfl (by omega) hlm HX.out Try.underlying36 Try.underlying3 rfl (by kernel_rfl) ?_)
          | (at_builtin; refine wpList_push hwr 3 1 8 _ Try.infoInt rfl (by omega) _ _ _ [.int .i64 m] hsl rfl (by simp [Value.oneCell']) (by omega) (by unfold maxLen; omega) rfl _ _ _ rfl Try.underlying57 rfl rfl ?_; intro v3 w3 hsl3 he3 hg3))
        go_roundw
        case rel => exact ⟨m + 1, by omega, by go_num, by rw [HS.out, HX0.out, if_pos H0.out]; simpa [vals] using hsl3, he3⟩
        case measure => simp [intOf]; omega
      · have d3 : (x == 0) = false := by simp [h0]
        have H0 := Lib.hid h0; clear h0
        go_wp2_with (refine wpList_ix_cell m 6 3 _ ((p.row k).map (.int .i64)) _ (.int .i64 x) rfl 36 _ _ rfl rfl rfl (by omega) hlm HX.out Try.underlying36 Try.underlying3 rfl (by kernel_rfl) ?_)
        go_roundw
        case rel => exact ⟨m + 1, by omega, by go_num, by rw [HS.out, HX0.out, if_neg H0.out]; simpa using hsl, hwr⟩
        case measure => simp [intOf]; omega
    · have HE : Hid (m = 6) := by unfold Hid; omega
      go_wp2
      go_ret
      exact ⟨_, rfl, hwr, by rw [HP.out, ← HE.out]; exact hsl⟩

set_option maxHeartbeats 1000000 in
theorem LeftR_any (p : Pool) (hp : p.wf) (a : Int) (w : World) :
    Calls Try.prog 22 #[p.v, .int .i64 a] w fun e w' => e = .returned (.int .i64 (p.left a)) ∧ Ext w w' := by
  have hb0 := Blk.new w 40 p.cells
  have hw := Ext.alloc w (.cells p.cells.toArray 40)
  have HL := Lib.hid hp.len
  have HN := Lib.hid (frees_len p hp a)
  go_enter Try.func22, Try.ntmps22
  go_wp2_with (first
    | (refine wpList_ld hb0 0 p.cells rfl 40 _ rfl rfl _ Try.underlying40 rfl (by rw [HL.out]; kernel_rfl) (fun j v h => by simpa using h) ?_)
    | (go_at_call 33; refine (free_any p hp a _).mono ?_; rintro e w2 ⟨v, rfl, he, hsl⟩; obtain ⟨A, cap, rfl⟩ := hsl.form0))
  go_ret
  exact ⟨ret_int (by rw [HN.out]), hw.trans he⟩
end Go.Proofs.Ytldeiolmpmcanaa
