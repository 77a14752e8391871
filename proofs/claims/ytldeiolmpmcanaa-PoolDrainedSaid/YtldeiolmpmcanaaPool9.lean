/- The contract of the reference's Pick. No conditions but the ones that stand in each. -/
import Derived.Test.YtldeiolmpmcanaaPool8
namespace Go.Proofs.Ytldeiolmpmcanaa
open Go.RowKit

theorem free_left (p : Pool) (hp : p.wf) (a : Int) (w : World) :
    Calls Try.prog 33 #[p.v, .int .i64 a] w fun e w' => ∃ v, e = .returned v ∧ Ext w w' ∧ Sl w w' 3 1 v (p.left a) (vals (p.frees a)) := by
  refine (free_any p hp a w).mono ?_
  rw [frees_len p hp a]
  exact fun _ _ h => h

set_option maxHeartbeats 1000000 in
theorem PickR_any (p : Pool) (hp : p.wf) (draw : Int) (w : World) :
    Calls Try.prog 19 #[p.v, .int .i64 draw] w fun e w' => e = .returned (.tuple #[.int .i64 (p.pick draw).1, .int .i64 (p.pick draw).2]) ∧ Ext w w' := by
  have hb0 := Blk.new w 40 p.cells
  have hw0 := Ext.alloc w (.cells p.cells.toArray 40)
  have HL := Lib.hid hp.len
  cases hG : p.good
  · have HP : Hid (p.pick draw = (0, 2)) := by unfold Pool.pick; rw [hG]; rfl
    have HG := Lib.hid hG; clear hG
    go_enter Try.func19, Try.ntmps19
    go_wp2_with (first
      | (refine wpList_ld hb0 0 p.cells rfl 40 _ rfl rfl _ Try.underlying40 rfl (by rw [HL.out]; kernel_rfl) (fun j v h => by simpa using h) ?_)
      | (go_at_call 21; refine (GoodPool_any p hp _).mono ?_; rw [HG.out]; rintro e w1 ⟨rfl, he1⟩))
    go_ret2
    exact ⟨by rw [HP.out]; rfl, hw0.trans he1⟩
  · have HG := Lib.hid hG; clear hG
    go_enter Try.func19, Try.ntmps19
    go_wp2_with (first
      | (refine wpList_ld hb0 0 p.cells rfl 40 _ rfl rfl _ Try.underlying40 rfl (by rw [HL.out]; kernel_rfl) (fun j v h => by simpa using h) ?_)
      | (go_at_call 21; refine (GoodPool_any p hp _).mono ?_; rw [HG.out]; rintro e w1 ⟨rfl, he1⟩))
    have hb1 := hb0.ext he1
    have hw1 := hw0.trans he1
    clear hb0 hw0 he1
    go_loopw [6, 11] (fun l i wr => ∃ k : Nat, k ≤ 3 ∧ i = .int .i64 k ∧ Sl w1 wr 3 1 l (p.opens k).length (vals (p.opens k)) ∧ Blk wr w.heap.size 40 p.cells ∧ Ext w1 wr) (fun _ i _ => 3 - (intOf i).toNat)
    case atStart => exact ⟨0, by omega, rfl, Sl.nil w1 w1 _ _, hb1, Ext.refl _⟩
    case round =>
      obtain ⟨k, hk, rfl, hsl, hbr, hwr⟩ := hrel
      have hol := opens_le p k
      by_cases hlt : k < 3
      · have hd := dra_cell p hp k hlt
        have HDC := Lib.hid hd
        have HS := Lib.hid (opens_succ p k)
        clear hd
        by_cases hl : 0 < p.left k
        · have d1 : decide (0 < (p.left (k : Int) : Int)) = true := by simp; omega
          cases hdr : p.dra k
          · have HDR := Lib.hid hdr; clear hdr
            have HO : Hid (p.open_ k = true) := by unfold Hid Pool.open_; rw [HDR.out]; simp [hl]
            go_wp2_with (first
              | (refine wpList_ld hbr 0 p.cells rfl 40 _ rfl rfl _ Try.underlying40 rfl (by rw [HL.out]; kernel_rfl) (fun j v h => by simpa using h) ?_)
              | (go_at_call 33; refine (free_left p hp _ _).mono ?_; rintro e w2 ⟨v, rfl, he2, hsl2⟩; obtain ⟨A2, cap2, rfl⟩ := hsl2.form0; clear hsl2; have hgx := hbr.ext he2; have hcd : w2.cell? ⟨w.heap.size, 18 + k, none⟩ = some (.bool (p.dra k)) := (by rw [hgx.cell]; exact HDC.out); rw [HDR.out] at hcd)
              | (at_builtin; refine wpList_push (hwr.trans he2) 3 1 8 _ Try.infoInt rfl (by omega) _ _ _ [.int .i64 k] (hsl.ext he2) rfl (by simp [Value.oneCell']) (by omega) (by unfold maxLen; omega) rfl _ _ _ rfl Try.underlying57 rfl rfl ?_; intro v3 w3 hsl3 he3 hg3))
            go_roundw
            case rel => exact ⟨k + 1, by omega, by go_num, by rw [HS.out, if_pos HO.out]; simpa [vals] using hsl3, hgx.grown hg3 (fun hk => by have := (hsl.lt _ hk.symm).1; have := hb1.lt; omega), he3⟩
            case measure => simp [intOf]; omega
          · have HDR := Lib.hid hdr; clear hdr
            have HO : Hid (p.open_ k = false) := by unfold Hid Pool.open_; rw [HDR.out]; rfl
            go_wp2_with (first
              | (refine wpList_ld hbr 0 p.cells rfl 40 _ rfl rfl _ Try.underlying40 rfl (by rw [HL.out]; kernel_rfl) (fun j v h => by simpa using h) ?_)
              | (go_at_call 33; refine (free_left p hp _ _).mono ?_; rintro e w2 ⟨v, rfl, he2, hsl2⟩; obtain ⟨A2, cap2, rfl⟩ := hsl2.form0; clear hsl2; have hgx := hbr.ext he2; have hcd : w2.cell? ⟨w.heap.size, 18 + k, none⟩ = some (.bool (p.dra k)) := (by rw [hgx.cell]; exact HDC.out); rw [HDR.out] at hcd))
            go_roundw
            case rel => exact ⟨k + 1, by omega, by go_num, by rw [HS.out, HO.out]; simpa using hsl.ext he2, hbr.ext he2, hwr.trans he2⟩
            case measure => simp [intOf]; omega
        · have d1 : decide (0 < (p.left (k : Int) : Int)) = false := by simp; omega
          have HO : Hid (p.open_ k = false) := by unfold Hid Pool.open_; simp; omega
          go_wp2_with (first
            | (refine wpList_ld hbr 0 p.cells rfl 40 _ rfl rfl _ Try.underlying40 rfl (by rw [HL.out]; kernel_rfl) (fun j v h => by simpa using h) ?_)
            | (go_at_call 33; refine (free_left p hp _ _).mono ?_; rintro e w2 ⟨v, rfl, he2, hsl2⟩; obtain ⟨A2, cap2, rfl⟩ := hsl2.form0; clear hsl2; have hgx := hbr.ext he2))
          go_roundw
          case rel => exact ⟨k + 1, by omega, by go_num, by rw [HS.out, HO.out]; simpa using hsl.ext he2, hbr.ext he2, hwr.trans he2⟩
          case measure => simp [intOf]; omega
      · have e3 : k = 3 := by omega
        by_cases hz : (p.opens 3).length = 0
        · have HP : Hid (p.pick draw = (0, 10)) := by unfold Hid Pool.pick; rw [if_pos HG.out, if_pos hz]
          obtain ⟨A, cap, rfl⟩ := hsl.form0
          have hz2 : (p.opens k).length = 0 := by rw [e3]; exact hz
          have d0 : (((p.opens k).length : Int) == 0) = true := by rw [hz2]; rfl
          clear e3 hz
          go_wp2
          go_ret2
          exact ⟨by rw [HP.out]; rfl, hw1.trans hwr⟩
        · have HP : Hid (p.pick draw = ((((p.opens 3).getD (draw % ((p.opens 3).length : Int)).toNat 0 : Nat) : Int), 0)) := by unfold Hid Pool.pick; rw [if_pos HG.out, if_neg hz]
          rw [← e3] at HP hz
          obtain ⟨g, cap, rfl, hg1, hg2, hcs⟩ := hsl.form (by omega)
          have d0 : (((p.opens k).length : Int) == 0) = false := beq_eq_false_iff_ne.2 (by omega)
          have hn0 : (0 : Int) < (p.opens k).length := by omega
          have m0 := Int.emod_nonneg draw (show ((p.opens k).length : Int) ≠ 0 by omega)
          have m1 := Int.emod_lt_of_pos draw hn0
          obtain ⟨m, hm⟩ : ∃ m : Nat, draw % ((p.opens k).length : Int) = m := ⟨(draw % ((p.opens k).length : Int)).toNat, by omega⟩
          have hcm := hcs m _ (vals_get (p.opens k) m (by omega))
          rw [hm] at HP m1
          have HMM := Lib.hid hm
          have m2 : m < (p.opens k).length := by omega
          clear e3 hz hm m0 hcs
          go_wp2_with (go_at_call 34; refine (chosenR_any _ _ _ (by omega) (by omega)).mono ?_; rw [HMM.out]; rintro e w9 ⟨rfl, rfl⟩)
          go_ret2
          exact ⟨by rw [HP.out]; simp [m2], hw1.trans hwr⟩
end Go.Proofs.Ytldeiolmpmcanaa
