/- Contracts of package pool. No conditions but the ones that stand in each. -/
import Derived.Test.YtldeiolmpmcanaaMem2
import Derived.Test.YtldeiolmpmcanaaRows
namespace Go.Proofs.Ytldeiolmpmcanaa
open Go.RowKit

/-- A pool. -/
structure Pool where
  own : List Int
  dr : List Bool
def Pool.cells (p : Pool) : List Value := p.own.map (.int .i64) ++ p.dr.map .bool
structure Pool.wf (p : Pool) : Prop where
  own : p.own.length = 18
  dr : p.dr.length = 3
abbrev Pool.v (p : Pool) : Value := .agg p.cells.toArray
theorem Pool.wf.len {p : Pool} (h : p.wf) : p.cells.length = 21 := by simp [Pool.cells, h.own, h.dr]
theorem Pool.cells_one (p : Pool) : ∀ v ∈ p.cells, v.oneCell' = true := by
  intro v hv
  simp [Pool.cells] at hv
  rcases hv with ⟨n, _, rfl⟩ | hv | hv
  · rfl
  · rw [← hv.2]; rfl
  · rw [← hv.2]; rfl
theorem Pool.cells_own (p : Pool) (j : Nat) (v : Value) (hj : (p.own.map (Value.int .i64))[j]? = some v) : p.cells[0 + j]? = some v := by
  rw [Nat.zero_add]; unfold Pool.cells
  rw [List.getElem?_append_left (by have := (List.getElem?_eq_some_iff.1 hj).1; exact this)]
  exact hj
/-- the owners of an address. -/
def Pool.row (p : Pool) (a : Nat) : List Int := (p.own.drop (a * 6)).take 6
def goodI (n : Int) : Bool := decide (0 ≤ n) && decide (n ≤ 8)
def Pool.good (p : Pool) : Bool := p.own.all goodI

theorem own_row (p : Pool) (a : Nat) : (((p.own.map (Value.int .i64)).drop (a * 6)).take 6) = (p.row a).map (.int .i64) := by
  simp [Pool.row, List.map_drop, List.map_take]
theorem row_length (p : Pool) (h : p.wf) (a : Nat) (ha : a < 3) : (p.row a).length = 6 := by
  simp [Pool.row, h.own]; omega
theorem row_get (p : Pool) (a j : Nat) (hj : j < 6) : (p.row a)[j]? = p.own[a * 6 + j]? := by
  simp [Pool.row, hj]

theorem good_all (p : Pool) (h : (p.own.take (6 * 3)).all goodI = true) (hp : p.wf) : p.good = true := by
  rw [List.take_of_length_le (by rw [hp.own]; omega)] at h; exact h
theorem good_not (p : Pool) (i : Nat) (x : Int) (hx : p.own[i]? = some x) (hb : goodI x = false) : p.good = false := by
  unfold Pool.good
  rw [List.all_eq_false]
  exact ⟨x, List.mem_of_getElem? hx, by simp [hb]⟩
theorem good_snoc (p : Pool) (i : Nat) (x : Int) (hx : p.own[i]? = some x) (h : (p.own.take i).all goodI = true) (hb : goodI x = true) : (p.own.take (i + 1)).all goodI = true := by
  rw [List.take_add_one, hx]
  simp only [List.all_append, h, Bool.true_and]
  simp [hb]
theorem goodI_lo (x : Int) (h : x < 0) : goodI x = false := by unfold goodI; simp; omega
theorem goodI_hi (x : Int) (h : 8 < x) : goodI x = false := by unfold goodI; simp; omega
theorem goodI_in (x : Int) (h0 : ¬ x < 0) (h : ¬ 8 < x) : goodI x = true := by unfold goodI; simp; omega
theorem map_get (l : List Int) (i : Nat) (x : Int) (h : l[i]? = some x) : (l.map (Value.int .i64))[i]? = some (.int .i64 x) := by simp [h]

set_option maxHeartbeats 2000000 in
theorem Good_any (p : Pool) (hp : p.wf) (w : World) :
    Calls Try.prog 20 #[p.v] w fun e w' => e = .returned (.bool p.good) ∧ Ext w w' := by
  go_enter Try.func20, Try.ntmps20
  have hb0 := Blk.new w 40 p.cells
  have hw0 := Ext.alloc w (.cells p.cells.toArray 40)
  go_wp2_with (first
    | (refine wpList_ld hb0 0 (p.own.map (.int .i64)) rfl 37 _ rfl rfl _ Try.underlying37 rfl (by rw [List.length_map, hp.own]; kernel_rfl) p.cells_own ?_))
  clear hb0
  go_loopw [9] (fun i wr => ∃ k : Nat, k ≤ 3 ∧ i = .int .i64 k ∧ (p.own.take (6 * k)).all goodI = true ∧ Ext w wr) (fun i _ => 3 - (intOf i).toNat)
  case atStart => exact ⟨0, by omega, rfl, rfl, hw0⟩
  case round =>
    obtain ⟨k, hk, rfl, hg, hwr⟩ := hrel
    have HG := Lib.hid hg; clear hg
    by_cases hlt : k < 3
    · have hr6 := row_length p hp k hlt
      have HR := Lib.hid hr6; clear hr6
      have hbz := Blk.new wr 36 [.int .i64 0, .int .i64 0, .int .i64 0, .int .i64 0, .int .i64 0, .int .i64 0]
      go_wp2_with (first
        | (refine wpList_ix_row k 6 3 36 _ (p.own.map (.int .i64)) _ rfl 37 _ _ rfl rfl rfl (by omega) hlt Try.underlying37 Try.underlying36 rfl (by kernel_rfl) ?_; rw [own_row])
        | (refine wpList_st hbz 0 ((p.row k).map (.int .i64)) rfl 36 _ _ rfl rfl rfl (by rw [List.length_map, HR.out]; kernel_rfl) (by simp [Value.oneCell']) (by rw [List.length_map, HR.out]; decide) ?_; intro w2 hb2 hg2 hz2)
        | (refine wpList_ld hb2 0 ((p.row k).map (.int .i64)) rfl 36 _ rfl rfl _ Try.underlying36 rfl (by rw [List.length_map, HR.out]; kernel_rfl) (by rw [splice_all _ _ (by rw [List.length_map, HR.out]; rfl)]; intro j v h; simpa using h) ?_))
      have hw2 := (hwr.alloc' (.cells #[.int .i64 0, .int .i64 0, .int .i64 0, .int .i64 0, .int .i64 0, .int .i64 0] 36)).grown' hg2 (by simp; have := hwr.size; omega)
      clear hb2 hg2 hz2 hbz hwr
      go_loopw [13] (fun j wj => ∃ m : Nat, m ≤ 6 ∧ j = .int .i64 m ∧ (p.own.take (6 * k + m)).all goodI = true ∧ Ext w wj) (fun j _ => 6 - (intOf j).toNat)
      case atStart => exact ⟨0, by omega, rfl, HG.out, hw2⟩
      case round =>
        obtain ⟨m, hm, rfl, hgm, hwj⟩ := hrel
        have HM := Lib.hid hgm; clear hgm
        by_cases hlm : m < 6
        · obtain ⟨x, hx⟩ : ∃ x, p.own[6 * k + m]? = some x := ⟨_, List.getElem?_eq_getElem (by rw [hp.own]; omega)⟩
          have hrx : (p.row k)[m]? = some x := by rw [row_get p k m hlm, Nat.mul_comm]; exact hx
          have HX := Lib.hid hx; have HRX := Lib.hid (map_get _ _ _ hrx); clear hx hrx
          by_cases hlo : x < 0
          · have d1 : decide (x < 0) = true := by simp [hlo]
            have HB := Lib.hid (good_not p _ x HX.out (goodI_lo x hlo))
            clear hlo
            go_wp2_with (refine wpList_ix_cell m 6 3 _ ((p.row k).map (.int .i64)) _ (.int .i64 x) rfl 36 _ _ rfl rfl rfl (by omega) hlm HRX.out Try.underlying36 Try.underlying3 rfl (by kernel_rfl) ?_)
            go_ret
            exact ⟨ret_bool HB.out.symm, hwj⟩
          · have d1 : decide (x < 0) = false := by simp; omega
            by_cases hhi : 8 < x
            · have d2 : decide (8 < x) = true := by simp [hhi]
              have HB := Lib.hid (good_not p _ x HX.out (goodI_hi x hhi))
              clear hhi hlo
              go_wp2_with (refine wpList_ix_cell m 6 3 _ ((p.row k).map (.int .i64)) _ (.int .i64 x) rfl 36 _ _ rfl rfl rfl (by omega) hlm HRX.out Try.underlying36 Try.underlying3 rfl (by kernel_rfl) ?_)
              go_ret
              exact ⟨ret_bool HB.out.symm, hwj⟩
            · have d2 : decide (8 < x) = false := by simp; omega
              have HB := Lib.hid (good_snoc p _ x HX.out HM.out (goodI_in x hlo hhi))
              clear hhi hlo
              go_wp2_with (refine wpList_ix_cell m 6 3 _ ((p.row k).map (.int .i64)) _ (.int .i64 x) rfl 36 _ _ rfl rfl rfl (by omega) hlm HRX.out Try.underlying36 Try.underlying3 rfl (by kernel_rfl) ?_)
              go_roundw
              case rel => exact ⟨m + 1, by omega, by go_num, HB.out, hwj⟩
              case measure => simp [intOf]; omega
        · have HE : Hid ((p.own.take (6 * (k + 1))).all goodI = true) := by
            have e : 6 * (k + 1) = 6 * k + m := by omega
            rw [e]; exact HM.out
          go_wp2
          go_roundw
          case rel => exact ⟨k + 1, by omega, by go_num, HE.out, hwj⟩
          case measure => simp [intOf]; omega
    · have HB := Lib.hid (good_all p (by have e : k = 3 := by omega
                                         rw [← e]; exact HG.out) hp)
      go_wp2
      go_ret
      exact ⟨ret_bool HB.out.symm, hwr⟩
end Go.Proofs.Ytldeiolmpmcanaa
