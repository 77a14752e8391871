/- The contract of Take. No conditions but the ones that stand in each. -/
import Derived.Test.YtldeiolmpmcanaaPool2
import Derived.Test.YtldeiolmpmcanaaPool3
import Derived.Test.YtldeiolmpmcanaaMem4
namespace Go.Proofs.Ytldeiolmpmcanaa
open Go.RowKit

/-- the places of a row that are nobody's. -/
def freeL (l : List Int) (n : Nat) : List Nat := (List.range n).filter fun k => l.getD k 1 == 0
theorem freeL_succ (l : List Int) (n : Nat) : freeL l (n + 1) = freeL l n ++ if l.getD n 1 = 0 then [n] else [] := by
  unfold freeL; rw [List.range_succ, List.filter_append]; simp [List.filter_cons]
theorem freeL_len (l : List Int) : ∀ n, n ≤ l.length → (freeL l n).length = freeN (l.take n)
  | 0, _ => by simp [freeL, freeN]
  | n + 1, h => by
    rw [freeL_succ, List.length_append, freeL_len l n (by omega), freeN_snoc l n l[n] (List.getElem?_eq_getElem (by omega))]
    have : l.getD n 1 = l[n] := by simp [show n < l.length by omega]
    rw [this]; split <;> simp
theorem freeL_at (l : List Int) (m : Nat) (hm : m < l.length) (hx : l[m]? = some 0) : ∀ n, m < n → (freeL l n)[freeN (l.take m)]? = some m
  | 0, h => by omega
  | n + 1, h => by
    rw [freeL_succ]
    by_cases e : m = n
    · subst e
      have : l.getD m 1 = 0 := by simp [hx]
      rw [List.getElem?_append_right (by rw [freeL_len l m (by omega)]; omega), freeL_len l m (by omega), this]
      simp
    · have ih := freeL_at l m hm hx n (by omega)
      rw [List.getElem?_append_left (List.getElem?_eq_some_iff.1 ih).1]
      exact ih
def Pool.put (p : Pool) (a k : Nat) (o : Int) : Pool := { p with own := p.own.set (a * 6 + k) o }
theorem Pool.put_wf (p : Pool) (hp : p.wf) (a k : Nat) (o : Int) : (p.put a k o).wf := ⟨by simp [Pool.put, hp.own], hp.dr⟩
theorem Pool.put_cells (p : Pool) (a k : Nat) (o : Int) (h : a * 6 + k < p.own.length) : (p.put a k o).cells = p.cells.set (a * 6 + k) (.int .i64 o) := by
  unfold Pool.cells Pool.put
  rw [List.set_append_left _ _ (by simpa using h), List.map_set]
/-- the block that a draw names. -/
def Pool.kth (p : Pool) (a : Nat) (draw : Int) : Nat := (freeL (p.row a) 6).getD (draw % (p.left a : Int)).toNat 0
/-- What Take answers. -/
def Pool.take (p : Pool) (s a draw : Int) : Pool × Int × Int :=
  if p.good = true then
    (if addrB a = true ∧ 0 ≤ s ∧ s < 8 then
      (if p.dra a.toNat = true then (p, 0, 9) else
        (if p.left a = 0 then (p, 0, 10) else (p.put a.toNat (p.kth a.toNat draw) (s + 1), (p.kth a.toNat draw : Nat), 0)))
    else (p, 0, 7))
  else (p, 0, 2)
abbrev Pool.tv (x : Pool × Int × Int) : Value := .tuple #[x.1.v, .int .i64 x.2.1, .int .i64 x.2.2]

set_option maxHeartbeats 2000000 in
theorem Take_any (p : Pool) (hp : p.wf) (s a draw : Int) (w : World) :
    Calls Try.prog 13 #[p.v, .int .i64 s, .int .i64 a, .int .i64 draw] w fun e w' => e = .returned (Pool.tv (p.take s a draw)) ∧ Ext w w' := by
  have hb0 := (Blk.new w 40 p.cells).alloc (.cells #[.int .i64 0, .int .i64 0, .int .i64 0, .int .i64 0, .int .i64 0, .int .i64 0, .int .i64 0, .int .i64 0, .int .i64 0, .int .i64 0, .int .i64 0, .int .i64 0, .int .i64 0, .int .i64 0, .int .i64 0, .int .i64 0, .int .i64 0, .int .i64 0, .bool false, .bool false, .bool false] 40)
  have hb1 := Blk.new (w.alloc (.cells p.cells.toArray 40)) 40 [.int .i64 0, .int .i64 0, .int .i64 0, .int .i64 0, .int .i64 0, .int .i64 0, .int .i64 0, .int .i64 0, .int .i64 0, .int .i64 0, .int .i64 0, .int .i64 0, .int .i64 0, .int .i64 0, .int .i64 0, .int .i64 0, .int .i64 0, .int .i64 0, .bool false, .bool false, .bool false]
  simp only [World.size_alloc] at hb1
  have hw := (Ext.alloc w (.cells p.cells.toArray 40)).alloc' (.cells #[.int .i64 0, .int .i64 0, .int .i64 0, .int .i64 0, .int .i64 0, .int .i64 0, .int .i64 0, .int .i64 0, .int .i64 0, .int .i64 0, .int .i64 0, .int .i64 0, .int .i64 0, .int .i64 0, .int .i64 0, .int .i64 0, .int .i64 0, .int .i64 0, .bool false, .bool false, .bool false] 40)
  have HL := Lib.hid hp.len
  cases hG : p.good
  · have HG := Lib.hid hG; clear hG
    have HP : Hid (p.take s a draw = (p, 0, 2)) := by unfold Hid Pool.take; rw [HG.out]; rfl
    go_enter Try.func13, Try.ntmps13
    go_wp2_with (first
      | (refine wpList_ld hb0 0 p.cells rfl 40 _ rfl rfl _ Try.underlying40 rfl (by rw [HL.out]; kernel_rfl) (fun j v h => by simpa using h) ?_)
      | (go_at_call 20; refine (Good_any p hp _).mono ?_; rw [HG.out]; rintro e w1 ⟨rfl, he⟩; have hb0 := hb0.ext he; have hb1 := hb1.ext he; have hw := hw.trans he)
      | (refine wpList_st hb1 0 p.cells rfl 40 _ _ rfl rfl rfl (by rw [HL.out]; kernel_rfl) p.cells_one (by rw [HL.out]; decide) ?_; intro w2 hb2 hg2 hz2; rw [splice_all _ _ (by rw [HL.out]; rfl)] at hb2))
    refine bodyPost_ret (results_blk2 rfl _ _ hb2 rfl Try.underlying40 rfl (by rw [HL.out]; kernel_rfl)) rfl ?_
    exact ⟨by rw [HP.out]; rfl, hw.grown' hg2 (by simp)⟩
  · have HG := Lib.hid hG; clear hG
    cases hA : addrB a
    · have HA := Lib.hid hA; clear hA
      have HP : Hid (p.take s a draw = (p, 0, 7)) := by unfold Hid Pool.take; rw [if_pos HG.out, HA.out]; simp
      go_enter Try.func13, Try.ntmps13
      go_wp2_with (first
        | (refine wpList_ld hb0 0 p.cells rfl 40 _ rfl rfl _ Try.underlying40 rfl (by rw [HL.out]; kernel_rfl) (fun j v h => by simpa using h) ?_)
        | (go_at_call 20; refine (Good_any p hp _).mono ?_; rw [HG.out]; rintro e w1 ⟨rfl, he⟩; have hb0 := hb0.ext he; have hb1 := hb1.ext he; have hw := hw.trans he)
        | (go_at_call 31; refine (address_any _ _).mono ?_; rw [HA.out]; rintro e w1 ⟨rfl, rfl⟩)
        | (refine wpList_st hb1 0 p.cells rfl 40 _ _ rfl rfl rfl (by rw [HL.out]; kernel_rfl) p.cells_one (by rw [HL.out]; decide) ?_; intro w2 hb2 hg2 hz2; rw [splice_all _ _ (by rw [HL.out]; rfl)] at hb2))
      refine bodyPost_ret (results_blk2 rfl _ _ hb2 rfl Try.underlying40 rfl (by rw [HL.out]; kernel_rfl)) rfl ?_
      exact ⟨by rw [HP.out]; rfl, hw.grown' hg2 (by simp)⟩
    · have HA := Lib.hid hA
      obtain ⟨k, rfl⟩ : ∃ k : Nat, a = k := ⟨a.toNat, by unfold addrB at hA; simp at hA; omega⟩
      have hk : k < 3 := by unfold addrB at hA; simp at hA; omega
      clear hA
      by_cases hs0 : s < 0
      · have d1 : decide (s < 0) = true := by simp [hs0]
        have HP : Hid (p.take s (k : Int) draw = (p, 0, 7)) := by unfold Hid Pool.take; rw [if_pos HG.out, if_neg (by omega)]
        clear hs0
        go_enter Try.func13, Try.ntmps13
        go_wp2_with (first
          | (refine wpList_ld hb0 0 p.cells rfl 40 _ rfl rfl _ Try.underlying40 rfl (by rw [HL.out]; kernel_rfl) (fun j v h => by simpa using h) ?_)
          | (go_at_call 20; refine (Good_any p hp _).mono ?_; rw [HG.out]; rintro e w1 ⟨rfl, he⟩; have hb0 := hb0.ext he; have hb1 := hb1.ext he; have hw := hw.trans he)
          | (go_at_call 31; refine (address_any _ _).mono ?_; rw [HA.out]; rintro e w1 ⟨rfl, rfl⟩)
          | (refine wpList_st hb1 0 p.cells rfl 40 _ _ rfl rfl rfl (by rw [HL.out]; kernel_rfl) p.cells_one (by rw [HL.out]; decide) ?_; intro w2 hb2 hg2 hz2; rw [splice_all _ _ (by rw [HL.out]; rfl)] at hb2))
        refine bodyPost_ret (results_blk2 rfl _ _ hb2 rfl Try.underlying40 rfl (by rw [HL.out]; kernel_rfl)) rfl ?_
        exact ⟨by rw [HP.out]; rfl, hw.grown' hg2 (by simp)⟩
      · have d1 : decide (s < 0) = false := by simp; omega
        by_cases hs8 : 8 ≤ s
        · have d2 : decide (8 ≤ s) = true := by simp [hs8]
          have HP : Hid (p.take s (k : Int) draw = (p, 0, 7)) := by unfold Hid Pool.take; rw [if_pos HG.out, if_neg (by omega)]
          clear hs8 hs0
          go_enter Try.func13, Try.ntmps13
          go_wp2_with (first
            | (refine wpList_ld hb0 0 p.cells rfl 40 _ rfl rfl _ Try.underlying40 rfl (by rw [HL.out]; kernel_rfl) (fun j v h => by simpa using h) ?_)
            | (go_at_call 20; refine (Good_any p hp _).mono ?_; rw [HG.out]; rintro e w1 ⟨rfl, he⟩; have hb0 := hb0.ext he; have hb1 := hb1.ext he; have hw := hw.trans he)
            | (go_at_call 31; refine (address_any _ _).mono ?_; rw [HA.out]; rintro e w1 ⟨rfl, rfl⟩)
            | (refine wpList_st hb1 0 p.cells rfl 40 _ _ rfl rfl rfl (by rw [HL.out]; kernel_rfl) p.cells_one (by rw [HL.out]; decide) ?_; intro w2 hb2 hg2 hz2; rw [splice_all _ _ (by rw [HL.out]; rfl)] at hb2))
          refine bodyPost_ret (results_blk2 rfl _ _ hb2 rfl Try.underlying40 rfl (by rw [HL.out]; kernel_rfl)) rfl ?_
          exact ⟨by rw [HP.out]; rfl, hw.grown' hg2 (by simp)⟩
        · have d2 : decide (8 ≤ s) = false := by simp; omega
          have HS : Hid (addrB (k : Int) = true ∧ 0 ≤ s ∧ s < 8) := ⟨HA.out, by omega, by omega⟩
          have hs0' : 0 ≤ s := by omega
          have hs8' : s < 8 := by omega
          clear hs0 hs8
          cases hD : p.dra k
          · have HD := Lib.hid hD; clear hD
            by_cases hl0 : p.left k = 0
            · have dl : ((p.left (k : Int) : Int) == 0) = true := by rw [hl0]; rfl
              have HP : Hid (p.take s (k : Int) draw = (p, 0, 10)) := by unfold Hid Pool.take; rw [if_pos HG.out, if_pos HS.out, if_neg (by simp [HD.out]), if_pos (by exact hl0)]
              go_enter Try.func13, Try.ntmps13
              go_wp2_with (first
                | (refine wpList_ld hb0 0 p.cells rfl 40 _ rfl rfl _ Try.underlying40 rfl (by rw [HL.out]; kernel_rfl) (fun j v h => by simpa using h) ?_)
                | (go_at_call 20; refine (Good_any p hp _).mono ?_; rw [HG.out]; rintro e w1 ⟨rfl, he⟩; have hb0 := hb0.ext he; have hb1 := hb1.ext he; have hw := hw.trans he; have hcd : w1.cell? ⟨w.heap.size, 18 + k, none⟩ = some (.bool (p.dra k)) := (by rw [hb0.cell]; exact dra_cell p hp k hk); rw [HD.out] at hcd)
                | (go_at_call 31; refine (address_any _ _).mono ?_; rw [HA.out]; rintro e w1 ⟨rfl, rfl⟩)
                | (go_at_call 16; refine (Left_any p hp _ _).mono ?_; rintro e w1 ⟨rfl, he⟩; have hb0 := hb0.ext he; have hb1 := hb1.ext he; have hw := hw.trans he)
                | (refine wpList_st hb1 0 p.cells rfl 40 _ _ rfl rfl rfl (by rw [HL.out]; kernel_rfl) p.cells_one (by rw [HL.out]; decide) ?_; intro w2 hb2 hg2 hz2; rw [splice_all _ _ (by rw [HL.out]; rfl)] at hb2))
              refine bodyPost_ret (results_blk2 rfl _ _ hb2 rfl Try.underlying40 rfl (by rw [HL.out]; kernel_rfl)) rfl ?_
              exact ⟨by rw [HP.out]; rfl, hw.grown' hg2 (by simp)⟩
            · have dl : ((p.left (k : Int) : Int) == 0) = false := beq_eq_false_iff_ne.2 (by omega)
              obtain ⟨K, hK⟩ : ∃ K : Nat, draw % (p.left (k : Int) : Int) = K := ⟨(draw % (p.left (k : Int) : Int)).toNat, by have := Int.emod_nonneg draw (show (p.left (k : Int) : Int) ≠ 0 by omega); omega⟩
              have hKl : K < p.left (k : Int) := by have := Int.emod_lt_of_pos draw (show (0 : Int) < (p.left (k : Int) : Int) by omega); omega
              have hl6 : p.left (k : Int) ≤ 6 := by
                have := freeN_le (p.row k) 6
                rw [List.take_of_length_le (by rw [row_length p hp k hk]; omega)] at this
                rw [left_in p k hk]; exact this
              have HLE := Lib.hid (left_in p k hk)
              have HC := Lib.hid hK
              have HR := Lib.hid (row_length p hp k hk)
              have HP : Hid (p.take s (k : Int) draw = (p.put k (p.kth k draw) (s + 1), ((p.kth k draw : Nat) : Int), 0)) := by
                unfold Hid Pool.take; rw [if_pos HG.out, if_pos HS.out, if_neg (by simp [HD.out]), if_neg (by exact hl0)]; rfl
              have HK : Hid (∀ m, m < 6 → (p.row k)[m]? = some 0 → freeN ((p.row k).take m) = K → p.kth k draw = m) := by
                intro m hm hx hf
                have := freeL_at (p.row k) m (by rw [HR.out]; exact hm) hx 6 hm
                unfold Pool.kth
                rw [HC.out, Int.toNat_natCast, ← hf, List.getD_eq_getElem?_getD, this]; rfl
              clear hl0 hK
              go_enter Try.func13, Try.ntmps13
              go_wp2_with (first
                | (refine wpList_ld hb0 0 p.cells rfl 40 _ rfl rfl _ Try.underlying40 rfl (by rw [HL.out]; kernel_rfl) (fun j v h => by simpa using h) ?_)
                | (go_at_call 20; refine (Good_any p hp _).mono ?_; rw [HG.out]; rintro e w1 ⟨rfl, he⟩; have hb0 := hb0.ext he; have hb1 := hb1.ext he; have hw := hw.trans he; have hcd : w1.cell? ⟨w.heap.size, 18 + k, none⟩ = some (.bool (p.dra k)) := (by rw [hb0.cell]; exact dra_cell p hp k hk); rw [HD.out] at hcd)
                | (go_at_call 31; refine (address_any _ _).mono ?_; rw [HA.out]; rintro e w1 ⟨rfl, rfl⟩)
                | (go_at_call 16; refine (Left_any p hp _ _).mono ?_; rintro e w1 ⟨rfl, he⟩; have hb0 := hb0.ext he; have hb1 := hb1.ext he; have hw := hw.trans he)
                | (go_at_call 32; refine (chosen_any _ _ _ (by omega) (by omega)).mono ?_; rw [HC.out]; rintro e w1 ⟨rfl, rfl⟩)
                | (refine wpList_ld hb0 (k * 6) ((p.row k).map (.int .i64)) rfl 36 _ rfl rfl _ Try.underlying36 rfl (by rw [List.length_map, HR.out]; kernel_rfl) (p.cells_row k hk hp) ?_))
              go_loop [11, 53] (fun v i => ∃ m : Nat, m ≤ 6 ∧ i = .int .i64 m ∧ freeN ((p.row k).take m) ≤ K ∧ v = .int .i64 ((K : Int) - (freeN ((p.row k).take m) : Nat))) (fun _ i => 6 - (intOf i).toNat)
              case atStart => exact ⟨0, by omega, rfl, by simp [freeN], by simp [freeN]⟩
              case round =>
                obtain ⟨m, hm, rfl, hfK, rfl⟩ := hrel
                by_cases hlm : m < 6
                · obtain ⟨x, hx⟩ : ∃ x, (p.row k)[m]? = some x := ⟨_, List.getElem?_eq_getElem (by rw [HR.out]; omega)⟩
                  have HS2 := Lib.hid (freeN_snoc _ m x hx)
                  have HX0 := Lib.hid hx
                  have HX := Lib.hid (map_get _ _ _ hx); clear hx
                  by_cases h0 : x = 0
                  · have d3 : (x == 0) = true := by simp [h0]
                    have H0 := Lib.hid h0; clear h0
                    generalize hfn : freeN ((p.row k).take m) = fn at *
                    by_cases hz : K = fn
                    · have d4 : ((K : Int) - (fn : Int) == 0) = true := by simp; omega
                      have HM : Hid (p.kth k draw = m) := HK.out m hlm (by rw [HX0.out, H0.out]) (by omega)
                      have HL2 := Lib.hid (p.put_wf hp k m (s + 1)).len
                      clear hz
                      go_wp2_with (first
                        | (refine wpList_ix_cell m 6 3 _ ((p.row k).map (.int .i64)) _ (.int .i64 x) rfl 36 _ _ rfl rfl rfl (by omega) hlm HX.out Try.underlying36 Try.underlying3 rfl (by kernel_rfl) ?_)
                        | (refine wpList_st1 hb0 (k * 6 + m) (.int .i64 (s + 1)) rfl 3 _ _ rfl rfl rfl rfl (by kernel_rfl) rfl (by rw [HL.out]; omega) ?_; intro w2 hb2 hg2 hz2; rw [← p.put_cells k m (s + 1) (by rw [hp.own]; omega)] at hb2; have hb3 := hb1.grown hg2 (by simp); have hw2 := hw.grown' hg2 (by simp))
                        | (refine wpList_ld hb2 0 (p.put k m (s + 1)).cells rfl 40 _ rfl rfl _ Try.underlying40 rfl (by rw [HL2.out]; kernel_rfl) (fun j v h => by simpa using h) ?_)
                        | (refine wpList_st hb3 0 (p.put k m (s + 1)).cells rfl 40 _ _ rfl rfl rfl (by rw [HL2.out]; kernel_rfl) (Pool.cells_one _) (by rw [HL2.out]; decide) ?_; intro w4 hb4 hg4 hz4; rw [splice_all _ _ (by rw [HL2.out]; rfl)] at hb4))
                      refine bodyPost_ret (results_blk2 rfl _ _ hb4 rfl Try.underlying40 rfl (by rw [HL2.out]; kernel_rfl)) rfl ?_
                      exact ⟨by rw [HP.out, HM.out]; rfl, hw2.grown' hg4 (by simp)⟩
                    · have d4 : ((K : Int) - (fn : Int) == 0) = false := beq_eq_false_iff_ne.2 (by omega)
                      have hlt : fn < K := by omega
                      clear hz
                      go_wp2_with (first
                        | (refine wpList_ix_cell m 6 3 _ ((p.row k).map (.int .i64)) _ (.int .i64 x) rfl 36 _ _ rfl rfl rfl (by omega) hlm HX.out Try.underlying36 Try.underlying3 rfl (by kernel_rfl) ?_))
                      go_round
                      case rel => exact ⟨m + 1, by omega, by go_num, by rw [HS2.out, if_pos H0.out]; omega, by rw [HS2.out, if_pos H0.out]; go_num⟩
                      case measure => simp [intOf]; omega
                  · have d3 : (x == 0) = false := by simp [h0]
                    have H0 := Lib.hid h0; clear h0
                    go_wp2_with (first
                      | (refine wpList_ix_cell m 6 3 _ ((p.row k).map (.int .i64)) _ (.int .i64 x) rfl 36 _ _ rfl rfl rfl (by omega) hlm HX.out Try.underlying36 Try.underlying3 rfl (by kernel_rfl) ?_))
                    go_round
                    case rel => exact ⟨m + 1, by omega, by go_num, by rw [HS2.out, if_neg H0.out]; omega, by rw [HS2.out, if_neg H0.out]; rfl⟩
                    case measure => simp [intOf]; omega
                · exfalso
                  have : freeN ((p.row k).take m) = p.left (k : Int) := by rw [HLE.out, List.take_of_length_le (by rw [HR.out]; omega)]
                  omega
          · have HD := Lib.hid hD; clear hD
            have HP : Hid (p.take s (k : Int) draw = (p, 0, 9)) := by unfold Hid Pool.take; rw [if_pos HG.out, if_pos HS.out, if_pos (by simpa using HD.out)]
            go_enter Try.func13, Try.ntmps13
            go_wp2_with (first
              | (refine wpList_ld hb0 0 p.cells rfl 40 _ rfl rfl _ Try.underlying40 rfl (by rw [HL.out]; kernel_rfl) (fun j v h => by simpa using h) ?_)
              | (go_at_call 20; refine (Good_any p hp _).mono ?_; rw [HG.out]; rintro e w1 ⟨rfl, he⟩; have hb0 := hb0.ext he; have hb1 := hb1.ext he; have hw := hw.trans he; have hcd : w1.cell? ⟨w.heap.size, 18 + k, none⟩ = some (.bool (p.dra k)) := (by rw [hb0.cell]; exact dra_cell p hp k hk); rw [HD.out] at hcd)
              | (go_at_call 31; refine (address_any _ _).mono ?_; rw [HA.out]; rintro e w1 ⟨rfl, rfl⟩)
              | (refine wpList_st hb1 0 p.cells rfl 40 _ _ rfl rfl rfl (by rw [HL.out]; kernel_rfl) p.cells_one (by rw [HL.out]; decide) ?_; intro w2 hb2 hg2 hz2; rw [splice_all _ _ (by rw [HL.out]; rfl)] at hb2))
            refine bodyPost_ret (results_blk2 rfl _ _ hb2 rfl Try.underlying40 rfl (by rw [HL.out]; kernel_rfl)) rfl ?_
            exact ⟨by rw [HP.out]; rfl, hw.grown' hg2 (by simp)⟩
end Go.Proofs.Ytldeiolmpmcanaa
