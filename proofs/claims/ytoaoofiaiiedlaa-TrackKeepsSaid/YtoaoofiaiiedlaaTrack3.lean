/- Contracts of Next of the reference. No conditions but the ones that stand in each. Printed by gentrack2.py. -/
import Derived.Test.YtoaoofiaiiedlaaTrack2
import Derived.Test.YtoaoofiaiiedlaaMem
import Derived.Deep.RegionWith
namespace Go.Proofs.Ytoaoofiaiiedlaa
open Go.RowKit

set_option maxHeartbeats 400000 in
theorem NextR1_any (g : Nat) (f b : Int) (w : World) (hc : w.cell? ⟨g, 7, none⟩ = some (.int .i64 f)) :
    Calls Try.prog 52 #[.int .i64 b, .pointer (some ⟨g, 0, none⟩)] w fun e w' => e = .returned (.bool (bits .and .i64 f b == b)) ∧ w' = w := by
  go_enter Try.func52, Try.ntmps52
  go_wp2
  go_ret
  exact ⟨rfl, rfl⟩

theorem grownBy_alloc' {a w : World} {row : Option Nat} (h : a.grownBy w row) (o : Obj) : a.grownBy (w.alloc o) row :=
  ⟨h.os, h.tape, h.output, Nat.le_trans h.size (by simp), fun k hk hr => (Below.heap_alloc w o k (Nat.lt_of_lt_of_le hk h.size)).trans (h.block k hk hr)⟩
theorem grownBy_drew' {a w : World} {row : Option Nat} (h : a.grownBy w row) : a.grownBy w.drew row :=
  ⟨h.os, h.tape, h.output, h.size, h.block⟩
theorem grownBy_setCell' {a w : World} {g : Nat} {p : Addr} (h : a.grownBy w (some g)) (hp : p.block = g) (u : Value) : a.grownBy (w.setCell p u) (some g) :=
  ⟨h.os, h.tape, h.output, Nat.le_trans h.size (by simp [World.setCell]), fun k hk hr => (Below.heap_setCell w p u k (fun e => hr (by rw [e, hp]))).trans (h.block k hk hr)⟩
theorem grownBy_setCell2 {a w : World} {row : Option Nat} {p : Addr} (h : a.grownBy w row) (hp : a.heap.size ≤ p.block) (u : Value) : a.grownBy (w.setCell p u) row :=
  ⟨h.os, h.tape, h.output, Nat.le_trans h.size (by simp [World.setCell]), fun k hk hr => (Below.heap_setCell w p u k (by omega)).trans (h.block k hk hr)⟩
theorem grownBy_cell {w w' : World} {row : Option Nat} (h : w.grownBy w' row) (b : Nat) (hb : b < w.heap.size) (hne : some b ≠ row) :
    (∀ o s, w'.cell? ⟨b, o, s⟩ = w.cell? ⟨b, o, s⟩) ∧ (∀ o s, w'.frozen? ⟨b, o, s⟩ = w.frozen? ⟨b, o, s⟩) :=
  ⟨fun _ _ => World.cell?_of_block (h.block b hb hne), fun _ _ => World.frozen?_of_block (h.block b hb hne)⟩

set_option maxHeartbeats 1000000 in
theorem NextR2_any (g h : Nat) (f : Flw) (st now : Int) (w : World) (hn0 : 0 ≤ now) (hn1 : now ≤ 4398046511104) (hgh : g < w.heap.size) (hne : g ≠ h) (hh : h < w.heap.size)
    (c0 : w.cell? ⟨g, 0, none⟩ = some (.int .i64 f.proto)) (c1 : w.cell? ⟨g, 1, none⟩ = some (.int .i64 f.s)) (c2 : w.cell? ⟨g, 2, none⟩ = some (.int .i64 f.inn)) (c3 : w.cell? ⟨g, 3, none⟩ = some (.int .i64 f.a)) (c4 : w.cell? ⟨g, 4, none⟩ = some (.int .i64 f.port))
    (c5 : w.cell? ⟨g, 5, none⟩ = some (.int .i64 f.remote)) (c6 : w.cell? ⟨g, 6, none⟩ = some (.int .i64 f.rport)) (c7 : w.cell? ⟨g, 7, none⟩ = some (.int .i64 f.state)) (c8 : w.cell? ⟨g, 8, none⟩ = some (.int .i64 f.side)) (c9 : w.cell? ⟨g, 9, none⟩ = some (.int .i64 f.due))
    (hf : ∀ i, w.frozen? ⟨g, i, none⟩ = false) (cn : w.cell? ⟨h, 0, none⟩ = some (.int .i64 now)) :
    Calls Try.prog 53 #[.int .i64 st, .pointer (some ⟨g, 0, none⟩), .pointer (some ⟨h, 0, none⟩)] w fun e w' => e = .returned ({ f with state := st, due := now + lifeN f.proto st } : Flw).v ∧ w.grownBy w' (some g) := by
  have L := lifeN_bd f.proto st
  have hne' : h ≠ g := hne.symm
  go_enter Try.func53, Try.ntmps53
  go_wp2_with fail
  go_region_with (go_at_call 35; refine (LifeR_any _ _ _).mono ?_; rintro e w' ⟨rfl, rfl⟩)
  all_goals go_wp2
  all_goals refine bodyPost_ret (v := ({ f with state := st, due := now + lifeN f.proto st } : Flw).v) ?_ rfl ⟨rfl, ?_⟩
  all_goals first
    | (simp [results, Try.results53, go_sem]; done)
    | (repeat (first | exact World.grownBy.refl _ _ | refine grownBy_alloc' ?_ _ | refine grownBy_drew' ?_ | refine grownBy_setCell' ?_ rfl _ | refine grownBy_setCell2 ?_ (by simp) _))

set_option maxHeartbeats 1000000 in
theorem NextR_0 (f : Flw) (p : Pkt) (now : Int) (w : World) (_hn0 : 0 ≤ now) (_hn1 : now ≤ 4398046511104) (_e6 : f.proto = 6) (_c4 : p.flags / 4 % 2 = 1) (_s4 : f.state = 4) :
    Calls Try.prog 33 #[f.v, p.v, .bool true, .int .i64 now] w fun e w' => e = .returned (nextF f p.flags true now).v ∧ Ext w w' := by
  have hS := Lib.hid (spec_0 f p.flags now _e6 _c4 _s4)
  have L1 := (lifeN_bd f.proto 1); have L2 := (lifeN_bd f.proto 2); have L3 := (lifeN_bd f.proto 3); have L4 := (lifeN_bd f.proto 4); have L5 := (lifeN_bd f.proto f.state)
  have A1 := and1_i64 p.flags; have A2 := and2_i64 p.flags; have A4 := and4_i64 p.flags; have A16 := and16_i64' p.flags; have A18 := and18_i64 p.flags
  have b0 : (f.proto == 6) = true := by simp; omega
  have b1 : (f.proto != 6) = false := by simp; omega
  have b2 : (bits .and .i64 p.flags 4 == 4) = true := by simp; omega
  have b3 : (f.state == 4) = true := by simp; omega
  clear A1 A2 A4 A16 A18
  have K_e6 := Lib.hid _e6
  have K_c4 := Lib.hid _c4
  have K_s4 := Lib.hid _s4
  clear _e6 _c4 _s4
  go_enter Try.func33, Try.ntmps33
  go_wp2_with (first
    | (go_at_call 52; refine (NextR1_any _ p.flags _ _ (by simp [go_sem])).mono ?_; rintro e w' ⟨rfl, rfl⟩)
    | (go_at_call 53; refine (NextR2_any w.heap.size (w.heap.size + 2) f _ now _ _hn0 _hn1 (by simp [go_sem]) (by simp [go_sem]) (by simp [go_sem]) (by simp [go_sem]) (by simp [go_sem]) (by simp [go_sem]) (by simp [go_sem]) (by simp [go_sem]) (by simp [go_sem]) (by simp [go_sem]) (by simp [go_sem]) (by simp [go_sem]) (by simp [go_sem]) (by simp [go_sem]) (by simp [go_sem])).mono ?_; rintro e w' ⟨rfl, hb⟩; have hbk := grownBy_newBlk hb (by simp; omega); simp only [World.size_alloc, Nat.add_assoc, Nat.reduceAdd] at hbk)
    | (refine wpList_st hbk 0 ((f : Flw)).cells rfl 39 _ _ rfl rfl rfl (by kernel_rfl) (Flw.cells_one _) (by simp [Flw.cells]) ?_; intro w2 hb2 hg2 hz2))
  refine bodyPost_ret (v := (nextF f p.flags true now).v) ?_ rfl ⟨rfl, ?_⟩
  · rw [hS.out]
    have _e6 := K_e6.out
    have _c4 := K_c4.out
    have _s4 := K_s4.out
    simp [results, Try.results33, go_sem]
    try (first | omega | simp [*])
  · repeat (first | exact Ext.refl _ | refine Ext.alloc' ?_ _ | refine Ext.setCell' ?_ (by simp) _ | refine Ext.grown' ?_ hb (by simp))
set_option maxHeartbeats 1000000 in
theorem NextR_1 (f : Flw) (p : Pkt) (now : Int) (w : World) (_hn0 : 0 ≤ now) (_hn1 : now ≤ 4398046511104) (_e6 : f.proto = 6) (_c4 : p.flags / 4 % 2 = 1) (_s4 : ¬ f.state = 4) :
    Calls Try.prog 33 #[f.v, p.v, .bool true, .int .i64 now] w fun e w' => e = .returned (nextF f p.flags true now).v ∧ Ext w w' := by
  have hS := Lib.hid (spec_1 f p.flags now _e6 _c4 _s4)
  have L1 := (lifeN_bd f.proto 1); have L2 := (lifeN_bd f.proto 2); have L3 := (lifeN_bd f.proto 3); have L4 := (lifeN_bd f.proto 4); have L5 := (lifeN_bd f.proto f.state)
  have A1 := and1_i64 p.flags; have A2 := and2_i64 p.flags; have A4 := and4_i64 p.flags; have A16 := and16_i64' p.flags; have A18 := and18_i64 p.flags
  have b0 : (f.proto == 6) = true := by simp; omega
  have b1 : (f.proto != 6) = false := by simp; omega
  have b2 : (bits .and .i64 p.flags 4 == 4) = true := by simp; omega
  have b3 : (f.state == 4) = false := by simp; omega
  clear A1 A2 A4 A16 A18
  have K_e6 := Lib.hid _e6
  have K_c4 := Lib.hid _c4
  have K_s4 := Lib.hid _s4
  clear _e6 _c4 _s4
  go_enter Try.func33, Try.ntmps33
  go_wp2_with (first
    | (go_at_call 52; refine (NextR1_any _ p.flags _ _ (by simp [go_sem])).mono ?_; rintro e w' ⟨rfl, rfl⟩)
    | (go_at_call 53; refine (NextR2_any w.heap.size (w.heap.size + 2) f _ now _ _hn0 _hn1 (by simp [go_sem]) (by simp [go_sem]) (by simp [go_sem]) (by simp [go_sem]) (by simp [go_sem]) (by simp [go_sem]) (by simp [go_sem]) (by simp [go_sem]) (by simp [go_sem]) (by simp [go_sem]) (by simp [go_sem]) (by simp [go_sem]) (by simp [go_sem]) (by simp [go_sem]) (by simp [go_sem])).mono ?_; rintro e w' ⟨rfl, hb⟩; have hbk := grownBy_newBlk hb (by simp; omega); simp only [World.size_alloc, Nat.add_assoc, Nat.reduceAdd] at hbk)
    | (refine wpList_st hbk 0 (({ f with state := 4, due := now + lifeN f.proto 4 } : Flw)).cells rfl 39 _ _ rfl rfl rfl (by kernel_rfl) (Flw.cells_one _) (by simp [Flw.cells]) ?_; intro w2 hb2 hg2 hz2))
  refine bodyPost_ret (results_blk rfl _ _ hb2 rfl Try.underlying39 rfl (by kernel_rfl)) rfl ⟨?_, ?_⟩
  · rw [hS.out]; exact congrArg _ (congrArg _ (congrArg _ (splice_all _ _ rfl)))
  · exact (Ext.grown' (Ext.grown' ((((Ext.alloc _ _).alloc' _).alloc' _).alloc' _) hb (by simp)) hg2 (by simp))
set_option maxHeartbeats 1000000 in
theorem NextR_2 (f : Flw) (p : Pkt) (now : Int) (w : World) (_hn0 : 0 ≤ now) (_hn1 : now ≤ 4398046511104) (_e6 : f.proto = 6) (_c4 : ¬ p.flags / 4 % 2 = 1) (_s1 : f.state = 1) (_c2 : p.flags / 2 % 2 = 1) (_c16 : p.flags / 16 % 2 = 1) :
    Calls Try.prog 33 #[f.v, p.v, .bool true, .int .i64 now] w fun e w' => e = .returned (nextF f p.flags true now).v ∧ Ext w w' := by
  have hS := Lib.hid (spec_2 f p.flags now _e6 _c4 _s1 _c2 _c16)
  have L1 := (lifeN_bd f.proto 1); have L2 := (lifeN_bd f.proto 2); have L3 := (lifeN_bd f.proto 3); have L4 := (lifeN_bd f.proto 4); have L5 := (lifeN_bd f.proto f.state)
  have A1 := and1_i64 p.flags; have A2 := and2_i64 p.flags; have A4 := and4_i64 p.flags; have A16 := and16_i64' p.flags; have A18 := and18_i64 p.flags
  have b0 : (f.proto == 6) = true := by simp; omega
  have b1 : (f.proto != 6) = false := by simp; omega
  have b2 : (bits .and .i64 p.flags 4 == 4) = false := by simp; omega
  have b3 : (f.state == 1) = true := by simp; omega
  have b4 : (f.state == 2) = false := by simp; omega
  have b5 : (f.state == 3) = false := by simp; omega
  have b6 : (bits .and .i64 p.flags 2 == 2) = true := by simp; omega
  have b7 : (bits .and .i64 p.flags 16 == 16) = true := by simp; omega
  clear A1 A2 A4 A16 A18
  have K_e6 := Lib.hid _e6
  have K_c4 := Lib.hid _c4
  have K_s1 := Lib.hid _s1
  have K_c2 := Lib.hid _c2
  have K_c16 := Lib.hid _c16
  clear _e6 _c4 _s1 _c2 _c16
  go_enter Try.func33, Try.ntmps33
  go_wp2_with (first
    | (go_at_call 52; refine (NextR1_any _ p.flags _ _ (by simp [go_sem])).mono ?_; rintro e w' ⟨rfl, rfl⟩)
    | (go_at_call 53; refine (NextR2_any w.heap.size (w.heap.size + 2) f _ now _ _hn0 _hn1 (by simp [go_sem]) (by simp [go_sem]) (by simp [go_sem]) (by simp [go_sem]) (by simp [go_sem]) (by simp [go_sem]) (by simp [go_sem]) (by simp [go_sem]) (by simp [go_sem]) (by simp [go_sem]) (by simp [go_sem]) (by simp [go_sem]) (by simp [go_sem]) (by simp [go_sem]) (by simp [go_sem])).mono ?_; rintro e w' ⟨rfl, hb⟩; have hbk := grownBy_newBlk hb (by simp; omega); simp only [World.size_alloc, Nat.add_assoc, Nat.reduceAdd] at hbk)
    | (refine wpList_st hbk 0 (({ f with state := 2, due := now + lifeN f.proto 2 } : Flw)).cells rfl 39 _ _ rfl rfl rfl (by kernel_rfl) (Flw.cells_one _) (by simp [Flw.cells]) ?_; intro w2 hb2 hg2 hz2))
  refine bodyPost_ret (results_blk rfl _ _ hb2 rfl Try.underlying39 rfl (by kernel_rfl)) rfl ⟨?_, ?_⟩
  · rw [hS.out]; exact congrArg _ (congrArg _ (congrArg _ (splice_all _ _ rfl)))
  · exact (Ext.grown' (Ext.grown' ((((Ext.alloc _ _).alloc' _).alloc' _).alloc' _) hb (by simp)) hg2 (by simp))
set_option maxHeartbeats 1000000 in
theorem NextR_3 (f : Flw) (p : Pkt) (now : Int) (w : World) (_hn0 : 0 ≤ now) (_hn1 : now ≤ 4398046511104) (_e6 : f.proto = 6) (_c4 : ¬ p.flags / 4 % 2 = 1) (_s1 : f.state = 1) (_c2 : p.flags / 2 % 2 = 1) (_c16 : ¬ p.flags / 16 % 2 = 1) :
    Calls Try.prog 33 #[f.v, p.v, .bool true, .int .i64 now] w fun e w' => e = .returned (nextF f p.flags true now).v ∧ Ext w w' := by
  have hS := Lib.hid (spec_3 f p.flags now _e6 _c4 _s1 _c2 _c16)
  have L1 := (lifeN_bd f.proto 1); have L2 := (lifeN_bd f.proto 2); have L3 := (lifeN_bd f.proto 3); have L4 := (lifeN_bd f.proto 4); have L5 := (lifeN_bd f.proto f.state)
  have A1 := and1_i64 p.flags; have A2 := and2_i64 p.flags; have A4 := and4_i64 p.flags; have A16 := and16_i64' p.flags; have A18 := and18_i64 p.flags
  have b0 : (f.proto == 6) = true := by simp; omega
  have b1 : (f.proto != 6) = false := by simp; omega
  have b2 : (bits .and .i64 p.flags 4 == 4) = false := by simp; omega
  have b3 : (f.state == 1) = true := by simp; omega
  have b4 : (f.state == 2) = false := by simp; omega
  have b5 : (f.state == 3) = false := by simp; omega
  have b6 : (bits .and .i64 p.flags 2 == 2) = true := by simp; omega
  have b7 : (bits .and .i64 p.flags 16 == 16) = false := by simp; omega
  clear A1 A2 A4 A16 A18
  have K_e6 := Lib.hid _e6
  have K_c4 := Lib.hid _c4
  have K_s1 := Lib.hid _s1
  have K_c2 := Lib.hid _c2
  have K_c16 := Lib.hid _c16
  clear _e6 _c4 _s1 _c2 _c16
  go_enter Try.func33, Try.ntmps33
  go_wp2_with (first
    | (go_at_call 52; refine (NextR1_any _ p.flags _ _ (by simp [go_sem])).mono ?_; rintro e w' ⟨rfl, rfl⟩)
    | (go_at_call 53; refine (NextR2_any w.heap.size (w.heap.size + 2) f _ now _ _hn0 _hn1 (by simp [go_sem]) (by simp [go_sem]) (by simp [go_sem]) (by simp [go_sem]) (by simp [go_sem]) (by simp [go_sem]) (by simp [go_sem]) (by simp [go_sem]) (by simp [go_sem]) (by simp [go_sem]) (by simp [go_sem]) (by simp [go_sem]) (by simp [go_sem]) (by simp [go_sem]) (by simp [go_sem])).mono ?_; rintro e w' ⟨rfl, hb⟩; have hbk := grownBy_newBlk hb (by simp; omega); simp only [World.size_alloc, Nat.add_assoc, Nat.reduceAdd] at hbk)
    | (refine wpList_st hbk 0 ((f : Flw)).cells rfl 39 _ _ rfl rfl rfl (by kernel_rfl) (Flw.cells_one _) (by simp [Flw.cells]) ?_; intro w2 hb2 hg2 hz2))
  refine bodyPost_ret (v := (nextF f p.flags true now).v) ?_ rfl ⟨rfl, ?_⟩
  · rw [hS.out]
    have _e6 := K_e6.out
    have _c4 := K_c4.out
    have _s1 := K_s1.out
    have _c2 := K_c2.out
    have _c16 := K_c16.out
    simp [results, Try.results33, go_sem]
    try (first | omega | simp [*])
  · repeat (first | exact Ext.refl _ | refine Ext.alloc' ?_ _ | refine Ext.setCell' ?_ (by simp) _ | refine Ext.grown' ?_ hb (by simp))
set_option maxHeartbeats 1000000 in
theorem NextR_4 (f : Flw) (p : Pkt) (now : Int) (w : World) (_hn0 : 0 ≤ now) (_hn1 : now ≤ 4398046511104) (_e6 : f.proto = 6) (_c4 : ¬ p.flags / 4 % 2 = 1) (_s1 : f.state = 1) (_c2 : ¬ p.flags / 2 % 2 = 1) :
    Calls Try.prog 33 #[f.v, p.v, .bool true, .int .i64 now] w fun e w' => e = .returned (nextF f p.flags true now).v ∧ Ext w w' := by
  have hS := Lib.hid (spec_4 f p.flags now _e6 _c4 _s1 _c2)
  have L1 := (lifeN_bd f.proto 1); have L2 := (lifeN_bd f.proto 2); have L3 := (lifeN_bd f.proto 3); have L4 := (lifeN_bd f.proto 4); have L5 := (lifeN_bd f.proto f.state)
  have A1 := and1_i64 p.flags; have A2 := and2_i64 p.flags; have A4 := and4_i64 p.flags; have A16 := and16_i64' p.flags; have A18 := and18_i64 p.flags
  have b0 : (f.proto == 6) = true := by simp; omega
  have b1 : (f.proto != 6) = false := by simp; omega
  have b2 : (bits .and .i64 p.flags 4 == 4) = false := by simp; omega
  have b3 : (f.state == 1) = true := by simp; omega
  have b4 : (f.state == 2) = false := by simp; omega
  have b5 : (f.state == 3) = false := by simp; omega
  have b6 : (bits .and .i64 p.flags 2 == 2) = false := by simp; omega
  clear A1 A2 A4 A16 A18
  have K_e6 := Lib.hid _e6
  have K_c4 := Lib.hid _c4
  have K_s1 := Lib.hid _s1
  have K_c2 := Lib.hid _c2
  clear _e6 _c4 _s1 _c2
  go_enter Try.func33, Try.ntmps33
  go_wp2_with (first
    | (go_at_call 52; refine (NextR1_any _ p.flags _ _ (by simp [go_sem])).mono ?_; rintro e w' ⟨rfl, rfl⟩)
    | (go_at_call 53; refine (NextR2_any w.heap.size (w.heap.size + 2) f _ now _ _hn0 _hn1 (by simp [go_sem]) (by simp [go_sem]) (by simp [go_sem]) (by simp [go_sem]) (by simp [go_sem]) (by simp [go_sem]) (by simp [go_sem]) (by simp [go_sem]) (by simp [go_sem]) (by simp [go_sem]) (by simp [go_sem]) (by simp [go_sem]) (by simp [go_sem]) (by simp [go_sem]) (by simp [go_sem])).mono ?_; rintro e w' ⟨rfl, hb⟩; have hbk := grownBy_newBlk hb (by simp; omega); simp only [World.size_alloc, Nat.add_assoc, Nat.reduceAdd] at hbk)
    | (refine wpList_st hbk 0 ((f : Flw)).cells rfl 39 _ _ rfl rfl rfl (by kernel_rfl) (Flw.cells_one _) (by simp [Flw.cells]) ?_; intro w2 hb2 hg2 hz2))
  refine bodyPost_ret (v := (nextF f p.flags true now).v) ?_ rfl ⟨rfl, ?_⟩
  · rw [hS.out]
    have _e6 := K_e6.out
    have _c4 := K_c4.out
    have _s1 := K_s1.out
    have _c2 := K_c2.out
    simp [results, Try.results33, go_sem]
    try (first | omega | simp [*])
  · repeat (first | exact Ext.refl _ | refine Ext.alloc' ?_ _ | refine Ext.setCell' ?_ (by simp) _ | refine Ext.grown' ?_ hb (by simp))
set_option maxHeartbeats 1000000 in
theorem NextR_5 (f : Flw) (p : Pkt) (now : Int) (w : World) (_hn0 : 0 ≤ now) (_hn1 : now ≤ 4398046511104) (_e6 : f.proto = 6) (_c4 : ¬ p.flags / 4 % 2 = 1) (_s2 : f.state = 2) (_c1 : p.flags % 2 = 1) :
    Calls Try.prog 33 #[f.v, p.v, .bool true, .int .i64 now] w fun e w' => e = .returned (nextF f p.flags true now).v ∧ Ext w w' := by
  have hS := Lib.hid (spec_5 f p.flags now _e6 _c4 _s2 _c1)
  have L1 := (lifeN_bd f.proto 1); have L2 := (lifeN_bd f.proto 2); have L3 := (lifeN_bd f.proto 3); have L4 := (lifeN_bd f.proto 4); have L5 := (lifeN_bd f.proto f.state)
  have A1 := and1_i64 p.flags; have A2 := and2_i64 p.flags; have A4 := and4_i64 p.flags; have A16 := and16_i64' p.flags; have A18 := and18_i64 p.flags
  have b0 : (f.proto == 6) = true := by simp; omega
  have b1 : (f.proto != 6) = false := by simp; omega
  have b2 : (bits .and .i64 p.flags 4 == 4) = false := by simp; omega
  have b3 : (f.state == 1) = false := by simp; omega
  have b4 : (f.state == 2) = true := by simp; omega
  have b5 : (f.state == 3) = false := by simp; omega
  have b6 : (bits .and .i64 p.flags 1 == 1) = true := by simp; omega
  clear A1 A2 A4 A16 A18
  have K_e6 := Lib.hid _e6
  have K_c4 := Lib.hid _c4
  have K_s2 := Lib.hid _s2
  have K_c1 := Lib.hid _c1
  clear _e6 _c4 _s2 _c1
  go_enter Try.func33, Try.ntmps33
  go_wp2_with (first
    | (go_at_call 52; refine (NextR1_any _ p.flags _ _ (by simp [go_sem])).mono ?_; rintro e w' ⟨rfl, rfl⟩)
    | (go_at_call 53; refine (NextR2_any w.heap.size (w.heap.size + 2) ({ f with side := 1 } : Flw) _ now _ _hn0 _hn1 (by simp [go_sem]) (by simp [go_sem]) (by simp [go_sem]) (by simp [go_sem]) (by simp [go_sem]) (by simp [go_sem]) (by simp [go_sem]) (by simp [go_sem]) (by simp [go_sem]) (by simp [go_sem]) (by simp [go_sem]) (by simp [go_sem]) (by simp [go_sem]) (by simp [go_sem]) (by simp [go_sem])).mono ?_; rintro e w' ⟨rfl, hb⟩; have hbk := grownBy_newBlk hb (by simp; omega); simp only [World.size_alloc, Nat.add_assoc, Nat.reduceAdd] at hbk)
    | (refine wpList_st hbk 0 (({ f with state := 3, side := 1, due := now + lifeN f.proto 3 } : Flw)).cells rfl 39 _ _ rfl rfl rfl (by kernel_rfl) (Flw.cells_one _) (by simp [Flw.cells]) ?_; intro w2 hb2 hg2 hz2))
  refine bodyPost_ret (results_blk rfl _ _ hb2 rfl Try.underlying39 rfl (by kernel_rfl)) rfl ⟨?_, ?_⟩
  · rw [hS.out]; exact congrArg _ (congrArg _ (congrArg _ (splice_all _ _ rfl)))
  · exact (Ext.grown' (Ext.grown' ((((Ext.alloc _ _).alloc' _).alloc' _).alloc' _) hb (by simp)) hg2 (by simp))
set_option maxHeartbeats 1000000 in
theorem NextR_6 (f : Flw) (p : Pkt) (now : Int) (w : World) (_hn0 : 0 ≤ now) (_hn1 : now ≤ 4398046511104) (_e6 : f.proto = 6) (_c4 : ¬ p.flags / 4 % 2 = 1) (_s2 : f.state = 2) (_c1 : ¬ p.flags % 2 = 1) :
    Calls Try.prog 33 #[f.v, p.v, .bool true, .int .i64 now] w fun e w' => e = .returned (nextF f p.flags true now).v ∧ Ext w w' := by
  have hS := Lib.hid (spec_6 f p.flags now _e6 _c4 _s2 _c1)
  have L1 := (lifeN_bd f.proto 1); have L2 := (lifeN_bd f.proto 2); have L3 := (lifeN_bd f.proto 3); have L4 := (lifeN_bd f.proto 4); have L5 := (lifeN_bd f.proto f.state)
  have A1 := and1_i64 p.flags; have A2 := and2_i64 p.flags; have A4 := and4_i64 p.flags; have A16 := and16_i64' p.flags; have A18 := and18_i64 p.flags
  have b0 : (f.proto == 6) = true := by simp; omega
  have b1 : (f.proto != 6) = false := by simp; omega
  have b2 : (bits .and .i64 p.flags 4 == 4) = false := by simp; omega
  have b3 : (f.state == 1) = false := by simp; omega
  have b4 : (f.state == 2) = true := by simp; omega
  have b5 : (f.state == 3) = false := by simp; omega
  have b6 : (bits .and .i64 p.flags 1 == 1) = false := by simp; omega
  clear A1 A2 A4 A16 A18
  have K_e6 := Lib.hid _e6
  have K_c4 := Lib.hid _c4
  have K_s2 := Lib.hid _s2
  have K_c1 := Lib.hid _c1
  clear _e6 _c4 _s2 _c1
  go_enter Try.func33, Try.ntmps33
  go_wp2_with (first
    | (go_at_call 52; refine (NextR1_any _ p.flags _ _ (by simp [go_sem])).mono ?_; rintro e w' ⟨rfl, rfl⟩)
    | (go_at_call 53; refine (NextR2_any w.heap.size (w.heap.size + 2) f _ now _ _hn0 _hn1 (by simp [go_sem]) (by simp [go_sem]) (by simp [go_sem]) (by simp [go_sem]) (by simp [go_sem]) (by simp [go_sem]) (by simp [go_sem]) (by simp [go_sem]) (by simp [go_sem]) (by simp [go_sem]) (by simp [go_sem]) (by simp [go_sem]) (by simp [go_sem]) (by simp [go_sem]) (by simp [go_sem])).mono ?_; rintro e w' ⟨rfl, hb⟩; have hbk := grownBy_newBlk hb (by simp; omega); simp only [World.size_alloc, Nat.add_assoc, Nat.reduceAdd] at hbk)
    | (refine wpList_st hbk 0 (({ f with state := 2, due := now + lifeN f.proto 2 } : Flw)).cells rfl 39 _ _ rfl rfl rfl (by kernel_rfl) (Flw.cells_one _) (by simp [Flw.cells]) ?_; intro w2 hb2 hg2 hz2))
  refine bodyPost_ret (results_blk rfl _ _ hb2 rfl Try.underlying39 rfl (by kernel_rfl)) rfl ⟨?_, ?_⟩
  · rw [hS.out]; exact congrArg _ (congrArg _ (congrArg _ (splice_all _ _ rfl)))
  · exact (Ext.grown' (Ext.grown' ((((Ext.alloc _ _).alloc' _).alloc' _).alloc' _) hb (by simp)) hg2 (by simp))
set_option maxHeartbeats 1000000 in
theorem NextR_7 (f : Flw) (p : Pkt) (now : Int) (w : World) (_hn0 : 0 ≤ now) (_hn1 : now ≤ 4398046511104) (_e6 : f.proto = 6) (_c4 : ¬ p.flags / 4 % 2 = 1) (_s3 : f.state = 3) (_c1 : p.flags % 2 = 1) (_sd : f.side ≠ 1) :
    Calls Try.prog 33 #[f.v, p.v, .bool true, .int .i64 now] w fun e w' => e = .returned (nextF f p.flags true now).v ∧ Ext w w' := by
  have hS := Lib.hid (spec_7 f p.flags now _e6 _c4 _s3 _c1 _sd)
  have L1 := (lifeN_bd f.proto 1); have L2 := (lifeN_bd f.proto 2); have L3 := (lifeN_bd f.proto 3); have L4 := (lifeN_bd f.proto 4); have L5 := (lifeN_bd f.proto f.state)
  have A1 := and1_i64 p.flags; have A2 := and2_i64 p.flags; have A4 := and4_i64 p.flags; have A16 := and16_i64' p.flags; have A18 := and18_i64 p.flags
  have b0 : (f.proto == 6) = true := by simp; omega
  have b1 : (f.proto != 6) = false := by simp; omega
  have b2 : (bits .and .i64 p.flags 4 == 4) = false := by simp; omega
  have b3 : (f.state == 1) = false := by simp; omega
  have b4 : (f.state == 2) = false := by simp; omega
  have b5 : (f.state == 3) = true := by simp; omega
  have b6 : (bits .and .i64 p.flags 1 == 1) = true := by simp; omega
  have b7 : (f.side != 1) = true := by simp; omega
  clear A1 A2 A4 A16 A18
  have K_e6 := Lib.hid _e6
  have K_c4 := Lib.hid _c4
  have K_s3 := Lib.hid _s3
  have K_c1 := Lib.hid _c1
  have K_sd := Lib.hid _sd
  clear _e6 _c4 _s3 _c1 _sd
  go_enter Try.func33, Try.ntmps33
  go_wp2_with (first
    | (go_at_call 52; refine (NextR1_any _ p.flags _ _ (by simp [go_sem])).mono ?_; rintro e w' ⟨rfl, rfl⟩)
    | (go_at_call 53; refine (NextR2_any w.heap.size (w.heap.size + 2) f _ now _ _hn0 _hn1 (by simp [go_sem]) (by simp [go_sem]) (by simp [go_sem]) (by simp [go_sem]) (by simp [go_sem]) (by simp [go_sem]) (by simp [go_sem]) (by simp [go_sem]) (by simp [go_sem]) (by simp [go_sem]) (by simp [go_sem]) (by simp [go_sem]) (by simp [go_sem]) (by simp [go_sem]) (by simp [go_sem])).mono ?_; rintro e w' ⟨rfl, hb⟩; have hbk := grownBy_newBlk hb (by simp; omega); simp only [World.size_alloc, Nat.add_assoc, Nat.reduceAdd] at hbk)
    | (refine wpList_st hbk 0 (({ f with state := 4, due := now + lifeN f.proto 4 } : Flw)).cells rfl 39 _ _ rfl rfl rfl (by kernel_rfl) (Flw.cells_one _) (by simp [Flw.cells]) ?_; intro w2 hb2 hg2 hz2))
  refine bodyPost_ret (results_blk rfl _ _ hb2 rfl Try.underlying39 rfl (by kernel_rfl)) rfl ⟨?_, ?_⟩
  · rw [hS.out]; exact congrArg _ (congrArg _ (congrArg _ (splice_all _ _ rfl)))
  · exact (Ext.grown' (Ext.grown' ((((Ext.alloc _ _).alloc' _).alloc' _).alloc' _) hb (by simp)) hg2 (by simp))
set_option maxHeartbeats 1000000 in
theorem NextR_8 (f : Flw) (p : Pkt) (now : Int) (w : World) (_hn0 : 0 ≤ now) (_hn1 : now ≤ 4398046511104) (_e6 : f.proto = 6) (_c4 : ¬ p.flags / 4 % 2 = 1) (_s3 : f.state = 3) (_c1 : p.flags % 2 = 1) (_sd : f.side = 1) :
    Calls Try.prog 33 #[f.v, p.v, .bool true, .int .i64 now] w fun e w' => e = .returned (nextF f p.flags true now).v ∧ Ext w w' := by
  have hS := Lib.hid (spec_8 f p.flags now _e6 _c4 _s3 _c1 _sd)
  have L1 := (lifeN_bd f.proto 1); have L2 := (lifeN_bd f.proto 2); have L3 := (lifeN_bd f.proto 3); have L4 := (lifeN_bd f.proto 4); have L5 := (lifeN_bd f.proto f.state)
  have A1 := and1_i64 p.flags; have A2 := and2_i64 p.flags; have A4 := and4_i64 p.flags; have A16 := and16_i64' p.flags; have A18 := and18_i64 p.flags
  have b0 : (f.proto == 6) = true := by simp; omega
  have b1 : (f.proto != 6) = false := by simp; omega
  have b2 : (bits .and .i64 p.flags 4 == 4) = false := by simp; omega
  have b3 : (f.state == 1) = false := by simp; omega
  have b4 : (f.state == 2) = false := by simp; omega
  have b5 : (f.state == 3) = true := by simp; omega
  have b6 : (bits .and .i64 p.flags 1 == 1) = true := by simp; omega
  have b7 : (f.side != 1) = false := by simp; omega
  clear A1 A2 A4 A16 A18
  have K_e6 := Lib.hid _e6
  have K_c4 := Lib.hid _c4
  have K_s3 := Lib.hid _s3
  have K_c1 := Lib.hid _c1
  have K_sd := Lib.hid _sd
  clear _e6 _c4 _s3 _c1 _sd
  go_enter Try.func33, Try.ntmps33
  go_wp2_with (first
    | (go_at_call 52; refine (NextR1_any _ p.flags _ _ (by simp [go_sem])).mono ?_; rintro e w' ⟨rfl, rfl⟩)
    | (go_at_call 53; refine (NextR2_any w.heap.size (w.heap.size + 2) f _ now _ _hn0 _hn1 (by simp [go_sem]) (by simp [go_sem]) (by simp [go_sem]) (by simp [go_sem]) (by simp [go_sem]) (by simp [go_sem]) (by simp [go_sem]) (by simp [go_sem]) (by simp [go_sem]) (by simp [go_sem]) (by simp [go_sem]) (by simp [go_sem]) (by simp [go_sem]) (by simp [go_sem]) (by simp [go_sem])).mono ?_; rintro e w' ⟨rfl, hb⟩; have hbk := grownBy_newBlk hb (by simp; omega); simp only [World.size_alloc, Nat.add_assoc, Nat.reduceAdd] at hbk)
    | (refine wpList_st hbk 0 ((f : Flw)).cells rfl 39 _ _ rfl rfl rfl (by kernel_rfl) (Flw.cells_one _) (by simp [Flw.cells]) ?_; intro w2 hb2 hg2 hz2))
  refine bodyPost_ret (v := (nextF f p.flags true now).v) ?_ rfl ⟨rfl, ?_⟩
  · rw [hS.out]
    have _e6 := K_e6.out
    have _c4 := K_c4.out
    have _s3 := K_s3.out
    have _c1 := K_c1.out
    have _sd := K_sd.out
    simp [results, Try.results33, go_sem]
    try (first | omega | simp [*])
  · repeat (first | exact Ext.refl _ | refine Ext.alloc' ?_ _ | refine Ext.setCell' ?_ (by simp) _ | refine Ext.grown' ?_ hb (by simp))
set_option maxHeartbeats 1000000 in
theorem NextR_9 (f : Flw) (p : Pkt) (now : Int) (w : World) (_hn0 : 0 ≤ now) (_hn1 : now ≤ 4398046511104) (_e6 : f.proto = 6) (_c4 : ¬ p.flags / 4 % 2 = 1) (_s3 : f.state = 3) (_c1 : ¬ p.flags % 2 = 1) :
    Calls Try.prog 33 #[f.v, p.v, .bool true, .int .i64 now] w fun e w' => e = .returned (nextF f p.flags true now).v ∧ Ext w w' := by
  have hS := Lib.hid (spec_9 f p.flags now _e6 _c4 _s3 _c1)
  have L1 := (lifeN_bd f.proto 1); have L2 := (lifeN_bd f.proto 2); have L3 := (lifeN_bd f.proto 3); have L4 := (lifeN_bd f.proto 4); have L5 := (lifeN_bd f.proto f.state)
  have A1 := and1_i64 p.flags; have A2 := and2_i64 p.flags; have A4 := and4_i64 p.flags; have A16 := and16_i64' p.flags; have A18 := and18_i64 p.flags
  have b0 : (f.proto == 6) = true := by simp; omega
  have b1 : (f.proto != 6) = false := by simp; omega
  have b2 : (bits .and .i64 p.flags 4 == 4) = false := by simp; omega
  have b3 : (f.state == 1) = false := by simp; omega
  have b4 : (f.state == 2) = false := by simp; omega
  have b5 : (f.state == 3) = true := by simp; omega
  have b6 : (bits .and .i64 p.flags 1 == 1) = false := by simp; omega
  clear A1 A2 A4 A16 A18
  have K_e6 := Lib.hid _e6
  have K_c4 := Lib.hid _c4
  have K_s3 := Lib.hid _s3
  have K_c1 := Lib.hid _c1
  clear _e6 _c4 _s3 _c1
  go_enter Try.func33, Try.ntmps33
  go_wp2_with (first
    | (go_at_call 52; refine (NextR1_any _ p.flags _ _ (by simp [go_sem])).mono ?_; rintro e w' ⟨rfl, rfl⟩)
    | (go_at_call 53; refine (NextR2_any w.heap.size (w.heap.size + 2) f _ now _ _hn0 _hn1 (by simp [go_sem]) (by simp [go_sem]) (by simp [go_sem]) (by simp [go_sem]) (by simp [go_sem]) (by simp [go_sem]) (by simp [go_sem]) (by simp [go_sem]) (by simp [go_sem]) (by simp [go_sem]) (by simp [go_sem]) (by simp [go_sem]) (by simp [go_sem]) (by simp [go_sem]) (by simp [go_sem])).mono ?_; rintro e w' ⟨rfl, hb⟩; have hbk := grownBy_newBlk hb (by simp; omega); simp only [World.size_alloc, Nat.add_assoc, Nat.reduceAdd] at hbk)
    | (refine wpList_st hbk 0 ((f : Flw)).cells rfl 39 _ _ rfl rfl rfl (by kernel_rfl) (Flw.cells_one _) (by simp [Flw.cells]) ?_; intro w2 hb2 hg2 hz2))
  refine bodyPost_ret (v := (nextF f p.flags true now).v) ?_ rfl ⟨rfl, ?_⟩
  · rw [hS.out]
    have _e6 := K_e6.out
    have _c4 := K_c4.out
    have _s3 := K_s3.out
    have _c1 := K_c1.out
    simp [results, Try.results33, go_sem]
    try (first | omega | simp [*])
  · repeat (first | exact Ext.refl _ | refine Ext.alloc' ?_ _ | refine Ext.setCell' ?_ (by simp) _ | refine Ext.grown' ?_ hb (by simp))
set_option maxHeartbeats 1000000 in
theorem NextR_10 (f : Flw) (p : Pkt) (now : Int) (w : World) (_hn0 : 0 ≤ now) (_hn1 : now ≤ 4398046511104) (_e6 : f.proto = 6) (_c4 : ¬ p.flags / 4 % 2 = 1) (_s123 : f.state ≠ 1 ∧ f.state ≠ 2 ∧ f.state ≠ 3) :
    Calls Try.prog 33 #[f.v, p.v, .bool true, .int .i64 now] w fun e w' => e = .returned (nextF f p.flags true now).v ∧ Ext w w' := by
  have hS := Lib.hid (spec_10 f p.flags now _e6 _c4 _s123)
  have L1 := (lifeN_bd f.proto 1); have L2 := (lifeN_bd f.proto 2); have L3 := (lifeN_bd f.proto 3); have L4 := (lifeN_bd f.proto 4); have L5 := (lifeN_bd f.proto f.state)
  have A1 := and1_i64 p.flags; have A2 := and2_i64 p.flags; have A4 := and4_i64 p.flags; have A16 := and16_i64' p.flags; have A18 := and18_i64 p.flags
  have b0 : (f.proto == 6) = true := by simp; omega
  have b1 : (f.proto != 6) = false := by simp; omega
  have b2 : (bits .and .i64 p.flags 4 == 4) = false := by simp; omega
  have b3 : (f.state == 1) = false := by simp; omega
  have b4 : (f.state == 2) = false := by simp; omega
  have b5 : (f.state == 3) = false := by simp; omega
  clear A1 A2 A4 A16 A18
  have K_e6 := Lib.hid _e6
  have K_c4 := Lib.hid _c4
  have K_s123 := Lib.hid _s123
  clear _e6 _c4 _s123
  go_enter Try.func33, Try.ntmps33
  go_wp2_with (first
    | (go_at_call 52; refine (NextR1_any _ p.flags _ _ (by simp [go_sem])).mono ?_; rintro e w' ⟨rfl, rfl⟩)
    | (go_at_call 53; refine (NextR2_any w.heap.size (w.heap.size + 2) f _ now _ _hn0 _hn1 (by simp [go_sem]) (by simp [go_sem]) (by simp [go_sem]) (by simp [go_sem]) (by simp [go_sem]) (by simp [go_sem]) (by simp [go_sem]) (by simp [go_sem]) (by simp [go_sem]) (by simp [go_sem]) (by simp [go_sem]) (by simp [go_sem]) (by simp [go_sem]) (by simp [go_sem]) (by simp [go_sem])).mono ?_; rintro e w' ⟨rfl, hb⟩; have hbk := grownBy_newBlk hb (by simp; omega); simp only [World.size_alloc, Nat.add_assoc, Nat.reduceAdd] at hbk)
    | (refine wpList_st hbk 0 ((f : Flw)).cells rfl 39 _ _ rfl rfl rfl (by kernel_rfl) (Flw.cells_one _) (by simp [Flw.cells]) ?_; intro w2 hb2 hg2 hz2))
  refine bodyPost_ret (v := (nextF f p.flags true now).v) ?_ rfl ⟨rfl, ?_⟩
  · rw [hS.out]
    have _e6 := K_e6.out
    have _c4 := K_c4.out
    have _s123 := K_s123.out
    simp [results, Try.results33, go_sem]
    try (first | omega | simp [*])
  · repeat (first | exact Ext.refl _ | refine Ext.alloc' ?_ _ | refine Ext.setCell' ?_ (by simp) _ | refine Ext.grown' ?_ hb (by simp))
set_option maxHeartbeats 1000000 in
theorem NextR_11 (f : Flw) (p : Pkt) (now : Int) (w : World) (_hn0 : 0 ≤ now) (_hn1 : now ≤ 4398046511104) (_e6 : ¬ f.proto = 6) (_e17 : f.proto = 17) :
    Calls Try.prog 33 #[f.v, p.v, .bool true, .int .i64 now] w fun e w' => e = .returned (nextF f p.flags true now).v ∧ Ext w w' := by
  have hS := Lib.hid (spec_11 f p.flags now _e6 _e17)
  have L1 := (lifeN_bd f.proto 1); have L2 := (lifeN_bd f.proto 2); have L3 := (lifeN_bd f.proto 3); have L4 := (lifeN_bd f.proto 4); have L5 := (lifeN_bd f.proto f.state)
  have A1 := and1_i64 p.flags; have A2 := and2_i64 p.flags; have A4 := and4_i64 p.flags; have A16 := and16_i64' p.flags; have A18 := and18_i64 p.flags
  have b0 : (f.proto == 6) = false := by simp; omega
  have b1 : (f.proto != 6) = true := by simp; omega
  have b2 : (f.proto == 17) = true := by simp; omega
  clear A1 A2 A4 A16 A18
  have K_e6 := Lib.hid _e6
  have K_e17 := Lib.hid _e17
  clear _e6 _e17
  go_enter Try.func33, Try.ntmps33
  go_wp2_with (first
    | (go_at_call 52; refine (NextR1_any _ p.flags _ _ (by simp [go_sem])).mono ?_; rintro e w' ⟨rfl, rfl⟩)
    | (go_at_call 53; refine (NextR2_any w.heap.size (w.heap.size + 2) f _ now _ _hn0 _hn1 (by simp [go_sem]) (by simp [go_sem]) (by simp [go_sem]) (by simp [go_sem]) (by simp [go_sem]) (by simp [go_sem]) (by simp [go_sem]) (by simp [go_sem]) (by simp [go_sem]) (by simp [go_sem]) (by simp [go_sem]) (by simp [go_sem]) (by simp [go_sem]) (by simp [go_sem]) (by simp [go_sem])).mono ?_; rintro e w' ⟨rfl, hb⟩; have hbk := grownBy_newBlk hb (by simp; omega); simp only [World.size_alloc, Nat.add_assoc, Nat.reduceAdd] at hbk)
    | (refine wpList_st hbk 0 ((f : Flw)).cells rfl 39 _ _ rfl rfl rfl (by kernel_rfl) (Flw.cells_one _) (by simp [Flw.cells]) ?_; intro w2 hb2 hg2 hz2))
  refine bodyPost_ret (v := (nextF f p.flags true now).v) ?_ rfl ⟨rfl, ?_⟩
  · rw [hS.out]
    have _e6 := K_e6.out
    have _e17 := K_e17.out
    simp [results, Try.results33, go_sem]
    try (first | omega | simp [*])
  · repeat (first | exact Ext.refl _ | refine Ext.alloc' ?_ _ | refine Ext.setCell' ?_ (by simp) _ | refine Ext.grown' ?_ hb (by simp))
set_option maxHeartbeats 1000000 in
theorem NextR_12 (f : Flw) (p : Pkt) (now : Int) (w : World) (_hn0 : 0 ≤ now) (_hn1 : now ≤ 4398046511104) (_e6 : ¬ f.proto = 6) (_e17 : ¬ f.proto = 17) :
    Calls Try.prog 33 #[f.v, p.v, .bool true, .int .i64 now] w fun e w' => e = .returned (nextF f p.flags true now).v ∧ Ext w w' := by
  have hS := Lib.hid (spec_12 f p.flags now _e6 _e17)
  have L1 := (lifeN_bd f.proto 1); have L2 := (lifeN_bd f.proto 2); have L3 := (lifeN_bd f.proto 3); have L4 := (lifeN_bd f.proto 4); have L5 := (lifeN_bd f.proto f.state)
  have A1 := and1_i64 p.flags; have A2 := and2_i64 p.flags; have A4 := and4_i64 p.flags; have A16 := and16_i64' p.flags; have A18 := and18_i64 p.flags
  have b0 : (f.proto == 6) = false := by simp; omega
  have b1 : (f.proto != 6) = true := by simp; omega
  have b2 : (f.proto == 17) = false := by simp; omega
  clear A1 A2 A4 A16 A18
  have K_e6 := Lib.hid _e6
  have K_e17 := Lib.hid _e17
  clear _e6 _e17
  go_enter Try.func33, Try.ntmps33
  go_wp2_with (first
    | (go_at_call 52; refine (NextR1_any _ p.flags _ _ (by simp [go_sem])).mono ?_; rintro e w' ⟨rfl, rfl⟩)
    | (go_at_call 53; refine (NextR2_any w.heap.size (w.heap.size + 2) f _ now _ _hn0 _hn1 (by simp [go_sem]) (by simp [go_sem]) (by simp [go_sem]) (by simp [go_sem]) (by simp [go_sem]) (by simp [go_sem]) (by simp [go_sem]) (by simp [go_sem]) (by simp [go_sem]) (by simp [go_sem]) (by simp [go_sem]) (by simp [go_sem]) (by simp [go_sem]) (by simp [go_sem]) (by simp [go_sem])).mono ?_; rintro e w' ⟨rfl, hb⟩; have hbk := grownBy_newBlk hb (by simp; omega); simp only [World.size_alloc, Nat.add_assoc, Nat.reduceAdd] at hbk)
    | (refine wpList_st hbk 0 (({ f with state := f.state, due := now + lifeN f.proto f.state } : Flw)).cells rfl 39 _ _ rfl rfl rfl (by kernel_rfl) (Flw.cells_one _) (by simp [Flw.cells]) ?_; intro w2 hb2 hg2 hz2))
  refine bodyPost_ret (results_blk rfl _ _ hb2 rfl Try.underlying39 rfl (by kernel_rfl)) rfl ⟨?_, ?_⟩
  · rw [hS.out]; exact congrArg _ (congrArg _ (congrArg _ (splice_all _ _ rfl)))
  · exact (Ext.grown' (Ext.grown' ((((Ext.alloc _ _).alloc' _).alloc' _).alloc' _) hb (by simp)) hg2 (by simp))
set_option maxHeartbeats 1000000 in
theorem NextR_13 (f : Flw) (p : Pkt) (now : Int) (w : World) (_hn0 : 0 ≤ now) (_hn1 : now ≤ 4398046511104) (_e6 : f.proto = 6) (_c4 : p.flags / 4 % 2 = 1) (_s4 : f.state = 4) :
    Calls Try.prog 33 #[f.v, p.v, .bool false, .int .i64 now] w fun e w' => e = .returned (nextF f p.flags false now).v ∧ Ext w w' := by
  have hS := Lib.hid (spec_13 f p.flags now _e6 _c4 _s4)
  have L1 := (lifeN_bd f.proto 1); have L2 := (lifeN_bd f.proto 2); have L3 := (lifeN_bd f.proto 3); have L4 := (lifeN_bd f.proto 4); have L5 := (lifeN_bd f.proto f.state)
  have A1 := and1_i64 p.flags; have A2 := and2_i64 p.flags; have A4 := and4_i64 p.flags; have A16 := and16_i64' p.flags; have A18 := and18_i64 p.flags
  have b0 : (f.proto == 6) = true := by simp; omega
  have b1 : (f.proto != 6) = false := by simp; omega
  have b2 : (bits .and .i64 p.flags 4 == 4) = true := by simp; omega
  have b3 : (f.state == 4) = true := by simp; omega
  clear A1 A2 A4 A16 A18
  have K_e6 := Lib.hid _e6
  have K_c4 := Lib.hid _c4
  have K_s4 := Lib.hid _s4
  clear _e6 _c4 _s4
  go_enter Try.func33, Try.ntmps33
  go_wp2_with (first
    | (go_at_call 52; refine (NextR1_any _ p.flags _ _ (by simp [go_sem])).mono ?_; rintro e w' ⟨rfl, rfl⟩)
    | (go_at_call 53; refine (NextR2_any w.heap.size (w.heap.size + 2) f _ now _ _hn0 _hn1 (by simp [go_sem]) (by simp [go_sem]) (by simp [go_sem]) (by simp [go_sem]) (by simp [go_sem]) (by simp [go_sem]) (by simp [go_sem]) (by simp [go_sem]) (by simp [go_sem]) (by simp [go_sem]) (by simp [go_sem]) (by simp [go_sem]) (by simp [go_sem]) (by simp [go_sem]) (by simp [go_sem])).mono ?_; rintro e w' ⟨rfl, hb⟩; have hbk := grownBy_newBlk hb (by simp; omega); simp only [World.size_alloc, Nat.add_assoc, Nat.reduceAdd] at hbk)
    | (refine wpList_st hbk 0 ((f : Flw)).cells rfl 39 _ _ rfl rfl rfl (by kernel_rfl) (Flw.cells_one _) (by simp [Flw.cells]) ?_; intro w2 hb2 hg2 hz2))
  refine bodyPost_ret (v := (nextF f p.flags false now).v) ?_ rfl ⟨rfl, ?_⟩
  · rw [hS.out]
    have _e6 := K_e6.out
    have _c4 := K_c4.out
    have _s4 := K_s4.out
    simp [results, Try.results33, go_sem]
    try (first | omega | simp [*])
  · repeat (first | exact Ext.refl _ | refine Ext.alloc' ?_ _ | refine Ext.setCell' ?_ (by simp) _ | refine Ext.grown' ?_ hb (by simp))
set_option maxHeartbeats 1000000 in
theorem NextR_14 (f : Flw) (p : Pkt) (now : Int) (w : World) (_hn0 : 0 ≤ now) (_hn1 : now ≤ 4398046511104) (_e6 : f.proto = 6) (_c4 : p.flags / 4 % 2 = 1) (_s4 : ¬ f.state = 4) :
    Calls Try.prog 33 #[f.v, p.v, .bool false, .int .i64 now] w fun e w' => e = .returned (nextF f p.flags false now).v ∧ Ext w w' := by
  have hS := Lib.hid (spec_14 f p.flags now _e6 _c4 _s4)
  have L1 := (lifeN_bd f.proto 1); have L2 := (lifeN_bd f.proto 2); have L3 := (lifeN_bd f.proto 3); have L4 := (lifeN_bd f.proto 4); have L5 := (lifeN_bd f.proto f.state)
  have A1 := and1_i64 p.flags; have A2 := and2_i64 p.flags; have A4 := and4_i64 p.flags; have A16 := and16_i64' p.flags; have A18 := and18_i64 p.flags
  have b0 : (f.proto == 6) = true := by simp; omega
  have b1 : (f.proto != 6) = false := by simp; omega
  have b2 : (bits .and .i64 p.flags 4 == 4) = true := by simp; omega
  have b3 : (f.state == 4) = false := by simp; omega
  clear A1 A2 A4 A16 A18
  have K_e6 := Lib.hid _e6
  have K_c4 := Lib.hid _c4
  have K_s4 := Lib.hid _s4
  clear _e6 _c4 _s4
  go_enter Try.func33, Try.ntmps33
  go_wp2_with (first
    | (go_at_call 52; refine (NextR1_any _ p.flags _ _ (by simp [go_sem])).mono ?_; rintro e w' ⟨rfl, rfl⟩)
    | (go_at_call 53; refine (NextR2_any w.heap.size (w.heap.size + 2) f _ now _ _hn0 _hn1 (by simp [go_sem]) (by simp [go_sem]) (by simp [go_sem]) (by simp [go_sem]) (by simp [go_sem]) (by simp [go_sem]) (by simp [go_sem]) (by simp [go_sem]) (by simp [go_sem]) (by simp [go_sem]) (by simp [go_sem]) (by simp [go_sem]) (by simp [go_sem]) (by simp [go_sem]) (by simp [go_sem])).mono ?_; rintro e w' ⟨rfl, hb⟩; have hbk := grownBy_newBlk hb (by simp; omega); simp only [World.size_alloc, Nat.add_assoc, Nat.reduceAdd] at hbk)
    | (refine wpList_st hbk 0 (({ f with state := 4, due := now + lifeN f.proto 4 } : Flw)).cells rfl 39 _ _ rfl rfl rfl (by kernel_rfl) (Flw.cells_one _) (by simp [Flw.cells]) ?_; intro w2 hb2 hg2 hz2))
  refine bodyPost_ret (results_blk rfl _ _ hb2 rfl Try.underlying39 rfl (by kernel_rfl)) rfl ⟨?_, ?_⟩
  · rw [hS.out]; exact congrArg _ (congrArg _ (congrArg _ (splice_all _ _ rfl)))
  · exact (Ext.grown' (Ext.grown' ((((Ext.alloc _ _).alloc' _).alloc' _).alloc' _) hb (by simp)) hg2 (by simp))
set_option maxHeartbeats 1000000 in
theorem NextR_15 (f : Flw) (p : Pkt) (now : Int) (w : World) (_hn0 : 0 ≤ now) (_hn1 : now ≤ 4398046511104) (_e6 : f.proto = 6) (_c4 : ¬ p.flags / 4 % 2 = 1) (_s1 : f.state = 1) (_c2 : p.flags / 2 % 2 = 1) :
    Calls Try.prog 33 #[f.v, p.v, .bool false, .int .i64 now] w fun e w' => e = .returned (nextF f p.flags false now).v ∧ Ext w w' := by
  have hS := Lib.hid (spec_15 f p.flags now _e6 _c4 _s1 _c2)
  have L1 := (lifeN_bd f.proto 1); have L2 := (lifeN_bd f.proto 2); have L3 := (lifeN_bd f.proto 3); have L4 := (lifeN_bd f.proto 4); have L5 := (lifeN_bd f.proto f.state)
  have A1 := and1_i64 p.flags; have A2 := and2_i64 p.flags; have A4 := and4_i64 p.flags; have A16 := and16_i64' p.flags; have A18 := and18_i64 p.flags
  have b0 : (f.proto == 6) = true := by simp; omega
  have b1 : (f.proto != 6) = false := by simp; omega
  have b2 : (bits .and .i64 p.flags 4 == 4) = false := by simp; omega
  have b3 : (f.state == 1) = true := by simp; omega
  have b4 : (f.state == 2) = false := by simp; omega
  have b5 : (f.state == 3) = false := by simp; omega
  have b6 : (bits .and .i64 p.flags 2 == 2) = true := by simp; omega
  clear A1 A2 A4 A16 A18
  have K_e6 := Lib.hid _e6
  have K_c4 := Lib.hid _c4
  have K_s1 := Lib.hid _s1
  have K_c2 := Lib.hid _c2
  clear _e6 _c4 _s1 _c2
  go_enter Try.func33, Try.ntmps33
  go_wp2_with (first
    | (go_at_call 52; refine (NextR1_any _ p.flags _ _ (by simp [go_sem])).mono ?_; rintro e w' ⟨rfl, rfl⟩)
    | (go_at_call 53; refine (NextR2_any w.heap.size (w.heap.size + 2) f _ now _ _hn0 _hn1 (by simp [go_sem]) (by simp [go_sem]) (by simp [go_sem]) (by simp [go_sem]) (by simp [go_sem]) (by simp [go_sem]) (by simp [go_sem]) (by simp [go_sem]) (by simp [go_sem]) (by simp [go_sem]) (by simp [go_sem]) (by simp [go_sem]) (by simp [go_sem]) (by simp [go_sem]) (by simp [go_sem])).mono ?_; rintro e w' ⟨rfl, hb⟩; have hbk := grownBy_newBlk hb (by simp; omega); simp only [World.size_alloc, Nat.add_assoc, Nat.reduceAdd] at hbk)
    | (refine wpList_st hbk 0 (({ f with state := 1, due := now + lifeN f.proto 1 } : Flw)).cells rfl 39 _ _ rfl rfl rfl (by kernel_rfl) (Flw.cells_one _) (by simp [Flw.cells]) ?_; intro w2 hb2 hg2 hz2))
  refine bodyPost_ret (results_blk rfl _ _ hb2 rfl Try.underlying39 rfl (by kernel_rfl)) rfl ⟨?_, ?_⟩
  · rw [hS.out]; exact congrArg _ (congrArg _ (congrArg _ (splice_all _ _ rfl)))
  · exact (Ext.grown' (Ext.grown' ((((Ext.alloc _ _).alloc' _).alloc' _).alloc' _) hb (by simp)) hg2 (by simp))
set_option maxHeartbeats 1000000 in
theorem NextR_16 (f : Flw) (p : Pkt) (now : Int) (w : World) (_hn0 : 0 ≤ now) (_hn1 : now ≤ 4398046511104) (_e6 : f.proto = 6) (_c4 : ¬ p.flags / 4 % 2 = 1) (_s1 : f.state = 1) (_c2 : ¬ p.flags / 2 % 2 = 1) :
    Calls Try.prog 33 #[f.v, p.v, .bool false, .int .i64 now] w fun e w' => e = .returned (nextF f p.flags false now).v ∧ Ext w w' := by
  have hS := Lib.hid (spec_16 f p.flags now _e6 _c4 _s1 _c2)
  have L1 := (lifeN_bd f.proto 1); have L2 := (lifeN_bd f.proto 2); have L3 := (lifeN_bd f.proto 3); have L4 := (lifeN_bd f.proto 4); have L5 := (lifeN_bd f.proto f.state)
  have A1 := and1_i64 p.flags; have A2 := and2_i64 p.flags; have A4 := and4_i64 p.flags; have A16 := and16_i64' p.flags; have A18 := and18_i64 p.flags
  have b0 : (f.proto == 6) = true := by simp; omega
  have b1 : (f.proto != 6) = false := by simp; omega
  have b2 : (bits .and .i64 p.flags 4 == 4) = false := by simp; omega
  have b3 : (f.state == 1) = true := by simp; omega
  have b4 : (f.state == 2) = false := by simp; omega
  have b5 : (f.state == 3) = false := by simp; omega
  have b6 : (bits .and .i64 p.flags 2 == 2) = false := by simp; omega
  clear A1 A2 A4 A16 A18
  have K_e6 := Lib.hid _e6
  have K_c4 := Lib.hid _c4
  have K_s1 := Lib.hid _s1
  have K_c2 := Lib.hid _c2
  clear _e6 _c4 _s1 _c2
  go_enter Try.func33, Try.ntmps33
  go_wp2_with (first
    | (go_at_call 52; refine (NextR1_any _ p.flags _ _ (by simp [go_sem])).mono ?_; rintro e w' ⟨rfl, rfl⟩)
    | (go_at_call 53; refine (NextR2_any w.heap.size (w.heap.size + 2) f _ now _ _hn0 _hn1 (by simp [go_sem]) (by simp [go_sem]) (by simp [go_sem]) (by simp [go_sem]) (by simp [go_sem]) (by simp [go_sem]) (by simp [go_sem]) (by simp [go_sem]) (by simp [go_sem]) (by simp [go_sem]) (by simp [go_sem]) (by simp [go_sem]) (by simp [go_sem]) (by simp [go_sem]) (by simp [go_sem])).mono ?_; rintro e w' ⟨rfl, hb⟩; have hbk := grownBy_newBlk hb (by simp; omega); simp only [World.size_alloc, Nat.add_assoc, Nat.reduceAdd] at hbk)
    | (refine wpList_st hbk 0 ((f : Flw)).cells rfl 39 _ _ rfl rfl rfl (by kernel_rfl) (Flw.cells_one _) (by simp [Flw.cells]) ?_; intro w2 hb2 hg2 hz2))
  refine bodyPost_ret (v := (nextF f p.flags false now).v) ?_ rfl ⟨rfl, ?_⟩
  · rw [hS.out]
    have _e6 := K_e6.out
    have _c4 := K_c4.out
    have _s1 := K_s1.out
    have _c2 := K_c2.out
    simp [results, Try.results33, go_sem]
    try (first | omega | simp [*])
  · repeat (first | exact Ext.refl _ | refine Ext.alloc' ?_ _ | refine Ext.setCell' ?_ (by simp) _ | refine Ext.grown' ?_ hb (by simp))
set_option maxHeartbeats 1000000 in
theorem NextR_17 (f : Flw) (p : Pkt) (now : Int) (w : World) (_hn0 : 0 ≤ now) (_hn1 : now ≤ 4398046511104) (_e6 : f.proto = 6) (_c4 : ¬ p.flags / 4 % 2 = 1) (_s2 : f.state = 2) (_c1 : p.flags % 2 = 1) :
    Calls Try.prog 33 #[f.v, p.v, .bool false, .int .i64 now] w fun e w' => e = .returned (nextF f p.flags false now).v ∧ Ext w w' := by
  have hS := Lib.hid (spec_17 f p.flags now _e6 _c4 _s2 _c1)
  have L1 := (lifeN_bd f.proto 1); have L2 := (lifeN_bd f.proto 2); have L3 := (lifeN_bd f.proto 3); have L4 := (lifeN_bd f.proto 4); have L5 := (lifeN_bd f.proto f.state)
  have A1 := and1_i64 p.flags; have A2 := and2_i64 p.flags; have A4 := and4_i64 p.flags; have A16 := and16_i64' p.flags; have A18 := and18_i64 p.flags
  have b0 : (f.proto == 6) = true := by simp; omega
  have b1 : (f.proto != 6) = false := by simp; omega
  have b2 : (bits .and .i64 p.flags 4 == 4) = false := by simp; omega
  have b3 : (f.state == 1) = false := by simp; omega
  have b4 : (f.state == 2) = true := by simp; omega
  have b5 : (f.state == 3) = false := by simp; omega
  have b6 : (bits .and .i64 p.flags 1 == 1) = true := by simp; omega
  clear A1 A2 A4 A16 A18
  have K_e6 := Lib.hid _e6
  have K_c4 := Lib.hid _c4
  have K_s2 := Lib.hid _s2
  have K_c1 := Lib.hid _c1
  clear _e6 _c4 _s2 _c1
  go_enter Try.func33, Try.ntmps33
  go_wp2_with (first
    | (go_at_call 52; refine (NextR1_any _ p.flags _ _ (by simp [go_sem])).mono ?_; rintro e w' ⟨rfl, rfl⟩)
    | (go_at_call 53; refine (NextR2_any w.heap.size (w.heap.size + 2) ({ f with side := 0 } : Flw) _ now _ _hn0 _hn1 (by simp [go_sem]) (by simp [go_sem]) (by simp [go_sem]) (by simp [go_sem]) (by simp [go_sem]) (by simp [go_sem]) (by simp [go_sem]) (by simp [go_sem]) (by simp [go_sem]) (by simp [go_sem]) (by simp [go_sem]) (by simp [go_sem]) (by simp [go_sem]) (by simp [go_sem]) (by simp [go_sem])).mono ?_; rintro e w' ⟨rfl, hb⟩; have hbk := grownBy_newBlk hb (by simp; omega); simp only [World.size_alloc, Nat.add_assoc, Nat.reduceAdd] at hbk)
    | (refine wpList_st hbk 0 (({ f with state := 3, side := 0, due := now + lifeN f.proto 3 } : Flw)).cells rfl 39 _ _ rfl rfl rfl (by kernel_rfl) (Flw.cells_one _) (by simp [Flw.cells]) ?_; intro w2 hb2 hg2 hz2))
  refine bodyPost_ret (results_blk rfl _ _ hb2 rfl Try.underlying39 rfl (by kernel_rfl)) rfl ⟨?_, ?_⟩
  · rw [hS.out]; exact congrArg _ (congrArg _ (congrArg _ (splice_all _ _ rfl)))
  · exact (Ext.grown' (Ext.grown' ((((Ext.alloc _ _).alloc' _).alloc' _).alloc' _) hb (by simp)) hg2 (by simp))
set_option maxHeartbeats 1000000 in
theorem NextR_18 (f : Flw) (p : Pkt) (now : Int) (w : World) (_hn0 : 0 ≤ now) (_hn1 : now ≤ 4398046511104) (_e6 : f.proto = 6) (_c4 : ¬ p.flags / 4 % 2 = 1) (_s2 : f.state = 2) (_c1 : ¬ p.flags % 2 = 1) :
    Calls Try.prog 33 #[f.v, p.v, .bool false, .int .i64 now] w fun e w' => e = .returned (nextF f p.flags false now).v ∧ Ext w w' := by
  have hS := Lib.hid (spec_18 f p.flags now _e6 _c4 _s2 _c1)
  have L1 := (lifeN_bd f.proto 1); have L2 := (lifeN_bd f.proto 2); have L3 := (lifeN_bd f.proto 3); have L4 := (lifeN_bd f.proto 4); have L5 := (lifeN_bd f.proto f.state)
  have A1 := and1_i64 p.flags; have A2 := and2_i64 p.flags; have A4 := and4_i64 p.flags; have A16 := and16_i64' p.flags; have A18 := and18_i64 p.flags
  have b0 : (f.proto == 6) = true := by simp; omega
  have b1 : (f.proto != 6) = false := by simp; omega
  have b2 : (bits .and .i64 p.flags 4 == 4) = false := by simp; omega
  have b3 : (f.state == 1) = false := by simp; omega
  have b4 : (f.state == 2) = true := by simp; omega
  have b5 : (f.state == 3) = false := by simp; omega
  have b6 : (bits .and .i64 p.flags 1 == 1) = false := by simp; omega
  clear A1 A2 A4 A16 A18
  have K_e6 := Lib.hid _e6
  have K_c4 := Lib.hid _c4
  have K_s2 := Lib.hid _s2
  have K_c1 := Lib.hid _c1
  clear _e6 _c4 _s2 _c1
  go_enter Try.func33, Try.ntmps33
  go_wp2_with (first
    | (go_at_call 52; refine (NextR1_any _ p.flags _ _ (by simp [go_sem])).mono ?_; rintro e w' ⟨rfl, rfl⟩)
    | (go_at_call 53; refine (NextR2_any w.heap.size (w.heap.size + 2) f _ now _ _hn0 _hn1 (by simp [go_sem]) (by simp [go_sem]) (by simp [go_sem]) (by simp [go_sem]) (by simp [go_sem]) (by simp [go_sem]) (by simp [go_sem]) (by simp [go_sem]) (by simp [go_sem]) (by simp [go_sem]) (by simp [go_sem]) (by simp [go_sem]) (by simp [go_sem]) (by simp [go_sem]) (by simp [go_sem])).mono ?_; rintro e w' ⟨rfl, hb⟩; have hbk := grownBy_newBlk hb (by simp; omega); simp only [World.size_alloc, Nat.add_assoc, Nat.reduceAdd] at hbk)
    | (refine wpList_st hbk 0 (({ f with state := 2, due := now + lifeN f.proto 2 } : Flw)).cells rfl 39 _ _ rfl rfl rfl (by kernel_rfl) (Flw.cells_one _) (by simp [Flw.cells]) ?_; intro w2 hb2 hg2 hz2))
  refine bodyPost_ret (results_blk rfl _ _ hb2 rfl Try.underlying39 rfl (by kernel_rfl)) rfl ⟨?_, ?_⟩
  · rw [hS.out]; exact congrArg _ (congrArg _ (congrArg _ (splice_all _ _ rfl)))
  · exact (Ext.grown' (Ext.grown' ((((Ext.alloc _ _).alloc' _).alloc' _).alloc' _) hb (by simp)) hg2 (by simp))
set_option maxHeartbeats 1000000 in
theorem NextR_19 (f : Flw) (p : Pkt) (now : Int) (w : World) (_hn0 : 0 ≤ now) (_hn1 : now ≤ 4398046511104) (_e6 : f.proto = 6) (_c4 : ¬ p.flags / 4 % 2 = 1) (_s3 : f.state = 3) (_c1 : p.flags % 2 = 1) (_sd : f.side ≠ 0) :
    Calls Try.prog 33 #[f.v, p.v, .bool false, .int .i64 now] w fun e w' => e = .returned (nextF f p.flags false now).v ∧ Ext w w' := by
  have hS := Lib.hid (spec_19 f p.flags now _e6 _c4 _s3 _c1 _sd)
  have L1 := (lifeN_bd f.proto 1); have L2 := (lifeN_bd f.proto 2); have L3 := (lifeN_bd f.proto 3); have L4 := (lifeN_bd f.proto 4); have L5 := (lifeN_bd f.proto f.state)
  have A1 := and1_i64 p.flags; have A2 := and2_i64 p.flags; have A4 := and4_i64 p.flags; have A16 := and16_i64' p.flags; have A18 := and18_i64 p.flags
  have b0 : (f.proto == 6) = true := by simp; omega
  have b1 : (f.proto != 6) = false := by simp; omega
  have b2 : (bits .and .i64 p.flags 4 == 4) = false := by simp; omega
  have b3 : (f.state == 1) = false := by simp; omega
  have b4 : (f.state == 2) = false := by simp; omega
  have b5 : (f.state == 3) = true := by simp; omega
  have b6 : (bits .and .i64 p.flags 1 == 1) = true := by simp; omega
  have b7 : (f.side != 0) = true := by simp; omega
  clear A1 A2 A4 A16 A18
  have K_e6 := Lib.hid _e6
  have K_c4 := Lib.hid _c4
  have K_s3 := Lib.hid _s3
  have K_c1 := Lib.hid _c1
  have K_sd := Lib.hid _sd
  clear _e6 _c4 _s3 _c1 _sd
  go_enter Try.func33, Try.ntmps33
  go_wp2_with (first
    | (go_at_call 52; refine (NextR1_any _ p.flags _ _ (by simp [go_sem])).mono ?_; rintro e w' ⟨rfl, rfl⟩)
    | (go_at_call 53; refine (NextR2_any w.heap.size (w.heap.size + 2) f _ now _ _hn0 _hn1 (by simp [go_sem]) (by simp [go_sem]) (by simp [go_sem]) (by simp [go_sem]) (by simp [go_sem]) (by simp [go_sem]) (by simp [go_sem]) (by simp [go_sem]) (by simp [go_sem]) (by simp [go_sem]) (by simp [go_sem]) (by simp [go_sem]) (by simp [go_sem]) (by simp [go_sem]) (by simp [go_sem])).mono ?_; rintro e w' ⟨rfl, hb⟩; have hbk := grownBy_newBlk hb (by simp; omega); simp only [World.size_alloc, Nat.add_assoc, Nat.reduceAdd] at hbk)
    | (refine wpList_st hbk 0 (({ f with state := 4, due := now + lifeN f.proto 4 } : Flw)).cells rfl 39 _ _ rfl rfl rfl (by kernel_rfl) (Flw.cells_one _) (by simp [Flw.cells]) ?_; intro w2 hb2 hg2 hz2))
  refine bodyPost_ret (results_blk rfl _ _ hb2 rfl Try.underlying39 rfl (by kernel_rfl)) rfl ⟨?_, ?_⟩
  · rw [hS.out]; exact congrArg _ (congrArg _ (congrArg _ (splice_all _ _ rfl)))
  · exact (Ext.grown' (Ext.grown' ((((Ext.alloc _ _).alloc' _).alloc' _).alloc' _) hb (by simp)) hg2 (by simp))
set_option maxHeartbeats 1000000 in
theorem NextR_20 (f : Flw) (p : Pkt) (now : Int) (w : World) (_hn0 : 0 ≤ now) (_hn1 : now ≤ 4398046511104) (_e6 : f.proto = 6) (_c4 : ¬ p.flags / 4 % 2 = 1) (_s3 : f.state = 3) (_c1 : p.flags % 2 = 1) (_sd : f.side = 0) :
    Calls Try.prog 33 #[f.v, p.v, .bool false, .int .i64 now] w fun e w' => e = .returned (nextF f p.flags false now).v ∧ Ext w w' := by
  have hS := Lib.hid (spec_20 f p.flags now _e6 _c4 _s3 _c1 _sd)
  have L1 := (lifeN_bd f.proto 1); have L2 := (lifeN_bd f.proto 2); have L3 := (lifeN_bd f.proto 3); have L4 := (lifeN_bd f.proto 4); have L5 := (lifeN_bd f.proto f.state)
  have A1 := and1_i64 p.flags; have A2 := and2_i64 p.flags; have A4 := and4_i64 p.flags; have A16 := and16_i64' p.flags; have A18 := and18_i64 p.flags
  have b0 : (f.proto == 6) = true := by simp; omega
  have b1 : (f.proto != 6) = false := by simp; omega
  have b2 : (bits .and .i64 p.flags 4 == 4) = false := by simp; omega
  have b3 : (f.state == 1) = false := by simp; omega
  have b4 : (f.state == 2) = false := by simp; omega
  have b5 : (f.state == 3) = true := by simp; omega
  have b6 : (bits .and .i64 p.flags 1 == 1) = true := by simp; omega
  have b7 : (f.side != 0) = false := by simp; omega
  clear A1 A2 A4 A16 A18
  have K_e6 := Lib.hid _e6
  have K_c4 := Lib.hid _c4
  have K_s3 := Lib.hid _s3
  have K_c1 := Lib.hid _c1
  have K_sd := Lib.hid _sd
  clear _e6 _c4 _s3 _c1 _sd
  go_enter Try.func33, Try.ntmps33
  go_wp2_with (first
    | (go_at_call 52; refine (NextR1_any _ p.flags _ _ (by simp [go_sem])).mono ?_; rintro e w' ⟨rfl, rfl⟩)
    | (go_at_call 53; refine (NextR2_any w.heap.size (w.heap.size + 2) f _ now _ _hn0 _hn1 (by simp [go_sem]) (by simp [go_sem]) (by simp [go_sem]) (by simp [go_sem]) (by simp [go_sem]) (by simp [go_sem]) (by simp [go_sem]) (by simp [go_sem]) (by simp [go_sem]) (by simp [go_sem]) (by simp [go_sem]) (by simp [go_sem]) (by simp [go_sem]) (by simp [go_sem]) (by simp [go_sem])).mono ?_; rintro e w' ⟨rfl, hb⟩; have hbk := grownBy_newBlk hb (by simp; omega); simp only [World.size_alloc, Nat.add_assoc, Nat.reduceAdd] at hbk)
    | (refine wpList_st hbk 0 ((f : Flw)).cells rfl 39 _ _ rfl rfl rfl (by kernel_rfl) (Flw.cells_one _) (by simp [Flw.cells]) ?_; intro w2 hb2 hg2 hz2))
  refine bodyPost_ret (v := (nextF f p.flags false now).v) ?_ rfl ⟨rfl, ?_⟩
  · rw [hS.out]
    have _e6 := K_e6.out
    have _c4 := K_c4.out
    have _s3 := K_s3.out
    have _c1 := K_c1.out
    have _sd := K_sd.out
    simp [results, Try.results33, go_sem]
    try (first | omega | simp [*])
  · repeat (first | exact Ext.refl _ | refine Ext.alloc' ?_ _ | refine Ext.setCell' ?_ (by simp) _ | refine Ext.grown' ?_ hb (by simp))
set_option maxHeartbeats 1000000 in
theorem NextR_21 (f : Flw) (p : Pkt) (now : Int) (w : World) (_hn0 : 0 ≤ now) (_hn1 : now ≤ 4398046511104) (_e6 : f.proto = 6) (_c4 : ¬ p.flags / 4 % 2 = 1) (_s3 : f.state = 3) (_c1 : ¬ p.flags % 2 = 1) :
    Calls Try.prog 33 #[f.v, p.v, .bool false, .int .i64 now] w fun e w' => e = .returned (nextF f p.flags false now).v ∧ Ext w w' := by
  have hS := Lib.hid (spec_21 f p.flags now _e6 _c4 _s3 _c1)
  have L1 := (lifeN_bd f.proto 1); have L2 := (lifeN_bd f.proto 2); have L3 := (lifeN_bd f.proto 3); have L4 := (lifeN_bd f.proto 4); have L5 := (lifeN_bd f.proto f.state)
  have A1 := and1_i64 p.flags; have A2 := and2_i64 p.flags; have A4 := and4_i64 p.flags; have A16 := and16_i64' p.flags; have A18 := and18_i64 p.flags
  have b0 : (f.proto == 6) = true := by simp; omega
  have b1 : (f.proto != 6) = false := by simp; omega
  have b2 : (bits .and .i64 p.flags 4 == 4) = false := by simp; omega
  have b3 : (f.state == 1) = false := by simp; omega
  have b4 : (f.state == 2) = false := by simp; omega
  have b5 : (f.state == 3) = true := by simp; omega
  have b6 : (bits .and .i64 p.flags 1 == 1) = false := by simp; omega
  clear A1 A2 A4 A16 A18
  have K_e6 := Lib.hid _e6
  have K_c4 := Lib.hid _c4
  have K_s3 := Lib.hid _s3
  have K_c1 := Lib.hid _c1
  clear _e6 _c4 _s3 _c1
  go_enter Try.func33, Try.ntmps33
  go_wp2_with (first
    | (go_at_call 52; refine (NextR1_any _ p.flags _ _ (by simp [go_sem])).mono ?_; rintro e w' ⟨rfl, rfl⟩)
    | (go_at_call 53; refine (NextR2_any w.heap.size (w.heap.size + 2) f _ now _ _hn0 _hn1 (by simp [go_sem]) (by simp [go_sem]) (by simp [go_sem]) (by simp [go_sem]) (by simp [go_sem]) (by simp [go_sem]) (by simp [go_sem]) (by simp [go_sem]) (by simp [go_sem]) (by simp [go_sem]) (by simp [go_sem]) (by simp [go_sem]) (by simp [go_sem]) (by simp [go_sem]) (by simp [go_sem])).mono ?_; rintro e w' ⟨rfl, hb⟩; have hbk := grownBy_newBlk hb (by simp; omega); simp only [World.size_alloc, Nat.add_assoc, Nat.reduceAdd] at hbk)
    | (refine wpList_st hbk 0 ((f : Flw)).cells rfl 39 _ _ rfl rfl rfl (by kernel_rfl) (Flw.cells_one _) (by simp [Flw.cells]) ?_; intro w2 hb2 hg2 hz2))
  refine bodyPost_ret (v := (nextF f p.flags false now).v) ?_ rfl ⟨rfl, ?_⟩
  · rw [hS.out]
    have _e6 := K_e6.out
    have _c4 := K_c4.out
    have _s3 := K_s3.out
    have _c1 := K_c1.out
    simp [results, Try.results33, go_sem]
    try (first | omega | simp [*])
  · repeat (first | exact Ext.refl _ | refine Ext.alloc' ?_ _ | refine Ext.setCell' ?_ (by simp) _ | refine Ext.grown' ?_ hb (by simp))
set_option maxHeartbeats 1000000 in
theorem NextR_22 (f : Flw) (p : Pkt) (now : Int) (w : World) (_hn0 : 0 ≤ now) (_hn1 : now ≤ 4398046511104) (_e6 : f.proto = 6) (_c4 : ¬ p.flags / 4 % 2 = 1) (_s123 : f.state ≠ 1 ∧ f.state ≠ 2 ∧ f.state ≠ 3) :
    Calls Try.prog 33 #[f.v, p.v, .bool false, .int .i64 now] w fun e w' => e = .returned (nextF f p.flags false now).v ∧ Ext w w' := by
  have hS := Lib.hid (spec_22 f p.flags now _e6 _c4 _s123)
  have L1 := (lifeN_bd f.proto 1); have L2 := (lifeN_bd f.proto 2); have L3 := (lifeN_bd f.proto 3); have L4 := (lifeN_bd f.proto 4); have L5 := (lifeN_bd f.proto f.state)
  have A1 := and1_i64 p.flags; have A2 := and2_i64 p.flags; have A4 := and4_i64 p.flags; have A16 := and16_i64' p.flags; have A18 := and18_i64 p.flags
  have b0 : (f.proto == 6) = true := by simp; omega
  have b1 : (f.proto != 6) = false := by simp; omega
  have b2 : (bits .and .i64 p.flags 4 == 4) = false := by simp; omega
  have b3 : (f.state == 1) = false := by simp; omega
  have b4 : (f.state == 2) = false := by simp; omega
  have b5 : (f.state == 3) = false := by simp; omega
  clear A1 A2 A4 A16 A18
  have K_e6 := Lib.hid _e6
  have K_c4 := Lib.hid _c4
  have K_s123 := Lib.hid _s123
  clear _e6 _c4 _s123
  go_enter Try.func33, Try.ntmps33
  go_wp2_with (first
    | (go_at_call 52; refine (NextR1_any _ p.flags _ _ (by simp [go_sem])).mono ?_; rintro e w' ⟨rfl, rfl⟩)
    | (go_at_call 53; refine (NextR2_any w.heap.size (w.heap.size + 2) f _ now _ _hn0 _hn1 (by simp [go_sem]) (by simp [go_sem]) (by simp [go_sem]) (by simp [go_sem]) (by simp [go_sem]) (by simp [go_sem]) (by simp [go_sem]) (by simp [go_sem]) (by simp [go_sem]) (by simp [go_sem]) (by simp [go_sem]) (by simp [go_sem]) (by simp [go_sem]) (by simp [go_sem]) (by simp [go_sem])).mono ?_; rintro e w' ⟨rfl, hb⟩; have hbk := grownBy_newBlk hb (by simp; omega); simp only [World.size_alloc, Nat.add_assoc, Nat.reduceAdd] at hbk)
    | (refine wpList_st hbk 0 ((f : Flw)).cells rfl 39 _ _ rfl rfl rfl (by kernel_rfl) (Flw.cells_one _) (by simp [Flw.cells]) ?_; intro w2 hb2 hg2 hz2))
  refine bodyPost_ret (v := (nextF f p.flags false now).v) ?_ rfl ⟨rfl, ?_⟩
  · rw [hS.out]
    have _e6 := K_e6.out
    have _c4 := K_c4.out
    have _s123 := K_s123.out
    simp [results, Try.results33, go_sem]
    try (first | omega | simp [*])
  · repeat (first | exact Ext.refl _ | refine Ext.alloc' ?_ _ | refine Ext.setCell' ?_ (by simp) _ | refine Ext.grown' ?_ hb (by simp))
set_option maxHeartbeats 1000000 in
theorem NextR_23 (f : Flw) (p : Pkt) (now : Int) (w : World) (_hn0 : 0 ≤ now) (_hn1 : now ≤ 4398046511104) (_e6 : ¬ f.proto = 6) (_e17 : f.proto = 17) :
    Calls Try.prog 33 #[f.v, p.v, .bool false, .int .i64 now] w fun e w' => e = .returned (nextF f p.flags false now).v ∧ Ext w w' := by
  have hS := Lib.hid (spec_23 f p.flags now _e6 _e17)
  have L1 := (lifeN_bd f.proto 1); have L2 := (lifeN_bd f.proto 2); have L3 := (lifeN_bd f.proto 3); have L4 := (lifeN_bd f.proto 4); have L5 := (lifeN_bd f.proto f.state)
  have A1 := and1_i64 p.flags; have A2 := and2_i64 p.flags; have A4 := and4_i64 p.flags; have A16 := and16_i64' p.flags; have A18 := and18_i64 p.flags
  have b0 : (f.proto == 6) = false := by simp; omega
  have b1 : (f.proto != 6) = true := by simp; omega
  have b2 : (f.proto == 17) = true := by simp; omega
  clear A1 A2 A4 A16 A18
  have K_e6 := Lib.hid _e6
  have K_e17 := Lib.hid _e17
  clear _e6 _e17
  go_enter Try.func33, Try.ntmps33
  go_wp2_with (first
    | (go_at_call 52; refine (NextR1_any _ p.flags _ _ (by simp [go_sem])).mono ?_; rintro e w' ⟨rfl, rfl⟩)
    | (go_at_call 53; refine (NextR2_any w.heap.size (w.heap.size + 2) f _ now _ _hn0 _hn1 (by simp [go_sem]) (by simp [go_sem]) (by simp [go_sem]) (by simp [go_sem]) (by simp [go_sem]) (by simp [go_sem]) (by simp [go_sem]) (by simp [go_sem]) (by simp [go_sem]) (by simp [go_sem]) (by simp [go_sem]) (by simp [go_sem]) (by simp [go_sem]) (by simp [go_sem]) (by simp [go_sem])).mono ?_; rintro e w' ⟨rfl, hb⟩; have hbk := grownBy_newBlk hb (by simp; omega); simp only [World.size_alloc, Nat.add_assoc, Nat.reduceAdd] at hbk)
    | (refine wpList_st hbk 0 (({ f with state := f.state, due := now + lifeN f.proto f.state } : Flw)).cells rfl 39 _ _ rfl rfl rfl (by kernel_rfl) (Flw.cells_one _) (by simp [Flw.cells]) ?_; intro w2 hb2 hg2 hz2))
  refine bodyPost_ret (results_blk rfl _ _ hb2 rfl Try.underlying39 rfl (by kernel_rfl)) rfl ⟨?_, ?_⟩
  · rw [hS.out]; exact congrArg _ (congrArg _ (congrArg _ (splice_all _ _ rfl)))
  · exact (Ext.grown' (Ext.grown' ((((Ext.alloc _ _).alloc' _).alloc' _).alloc' _) hb (by simp)) hg2 (by simp))
set_option maxHeartbeats 1000000 in
theorem NextR_24 (f : Flw) (p : Pkt) (now : Int) (w : World) (_hn0 : 0 ≤ now) (_hn1 : now ≤ 4398046511104) (_e6 : ¬ f.proto = 6) (_e17 : ¬ f.proto = 17) :
    Calls Try.prog 33 #[f.v, p.v, .bool false, .int .i64 now] w fun e w' => e = .returned (nextF f p.flags false now).v ∧ Ext w w' := by
  have hS := Lib.hid (spec_24 f p.flags now _e6 _e17)
  have L1 := (lifeN_bd f.proto 1); have L2 := (lifeN_bd f.proto 2); have L3 := (lifeN_bd f.proto 3); have L4 := (lifeN_bd f.proto 4); have L5 := (lifeN_bd f.proto f.state)
  have A1 := and1_i64 p.flags; have A2 := and2_i64 p.flags; have A4 := and4_i64 p.flags; have A16 := and16_i64' p.flags; have A18 := and18_i64 p.flags
  have b0 : (f.proto == 6) = false := by simp; omega
  have b1 : (f.proto != 6) = true := by simp; omega
  have b2 : (f.proto == 17) = false := by simp; omega
  clear A1 A2 A4 A16 A18
  have K_e6 := Lib.hid _e6
  have K_e17 := Lib.hid _e17
  clear _e6 _e17
  go_enter Try.func33, Try.ntmps33
  go_wp2_with (first
    | (go_at_call 52; refine (NextR1_any _ p.flags _ _ (by simp [go_sem])).mono ?_; rintro e w' ⟨rfl, rfl⟩)
    | (go_at_call 53; refine (NextR2_any w.heap.size (w.heap.size + 2) f _ now _ _hn0 _hn1 (by simp [go_sem]) (by simp [go_sem]) (by simp [go_sem]) (by simp [go_sem]) (by simp [go_sem]) (by simp [go_sem]) (by simp [go_sem]) (by simp [go_sem]) (by simp [go_sem]) (by simp [go_sem]) (by simp [go_sem]) (by simp [go_sem]) (by simp [go_sem]) (by simp [go_sem]) (by simp [go_sem])).mono ?_; rintro e w' ⟨rfl, hb⟩; have hbk := grownBy_newBlk hb (by simp; omega); simp only [World.size_alloc, Nat.add_assoc, Nat.reduceAdd] at hbk)
    | (refine wpList_st hbk 0 (({ f with state := f.state, due := now + lifeN f.proto f.state } : Flw)).cells rfl 39 _ _ rfl rfl rfl (by kernel_rfl) (Flw.cells_one _) (by simp [Flw.cells]) ?_; intro w2 hb2 hg2 hz2))
  refine bodyPost_ret (results_blk rfl _ _ hb2 rfl Try.underlying39 rfl (by kernel_rfl)) rfl ⟨?_, ?_⟩
  · rw [hS.out]; exact congrArg _ (congrArg _ (congrArg _ (splice_all _ _ rfl)))
  · exact (Ext.grown' (Ext.grown' ((((Ext.alloc _ _).alloc' _).alloc' _).alloc' _) hb (by simp)) hg2 (by simp))
theorem NextR_any (f : Flw) (p : Pkt) (inward : Bool) (now : Int) (w : World) (hn0 : 0 ≤ now) (hn1 : now ≤ 4398046511104) :
    Calls Try.prog 33 #[f.v, p.v, .bool inward, .int .i64 now] w fun e w' => e = .returned (nextF f p.flags inward now).v ∧ Ext w w' := by
  cases inward
  · by_cases he6 : f.proto = 6
    · by_cases hc4 : p.flags / 4 % 2 = 1
      · by_cases hs4 : f.state = 4
        · exact NextR_13 f p now w hn0 hn1 he6 hc4 hs4
        · exact NextR_14 f p now w hn0 hn1 he6 hc4 hs4
      · by_cases hs1 : f.state = 1
        · by_cases hc2 : p.flags / 2 % 2 = 1
          · exact NextR_15 f p now w hn0 hn1 he6 hc4 hs1 hc2
          · exact NextR_16 f p now w hn0 hn1 he6 hc4 hs1 hc2
        · by_cases hs2 : f.state = 2
          · by_cases hc1 : p.flags % 2 = 1
            · exact NextR_17 f p now w hn0 hn1 he6 hc4 hs2 hc1
            · exact NextR_18 f p now w hn0 hn1 he6 hc4 hs2 hc1
          · by_cases hs3 : f.state = 3
            · by_cases hc1 : p.flags % 2 = 1
              · by_cases hsd : f.side ≠ 0
                · exact NextR_19 f p now w hn0 hn1 he6 hc4 hs3 hc1 hsd
                · have hsd := Classical.not_not.1 hsd
                  exact NextR_20 f p now w hn0 hn1 he6 hc4 hs3 hc1 hsd
              · exact NextR_21 f p now w hn0 hn1 he6 hc4 hs3 hc1
            · have hs123 : f.state ≠ 1 ∧ f.state ≠ 2 ∧ f.state ≠ 3 := ⟨hs1, hs2, hs3⟩
              exact NextR_22 f p now w hn0 hn1 he6 hc4 hs123
    · by_cases he17 : f.proto = 17
      · exact NextR_23 f p now w hn0 hn1 he6 he17
      · exact NextR_24 f p now w hn0 hn1 he6 he17
  · by_cases he6 : f.proto = 6
    · by_cases hc4 : p.flags / 4 % 2 = 1
      · by_cases hs4 : f.state = 4
        · exact NextR_0 f p now w hn0 hn1 he6 hc4 hs4
        · exact NextR_1 f p now w hn0 hn1 he6 hc4 hs4
      · by_cases hs1 : f.state = 1
        · by_cases hc2 : p.flags / 2 % 2 = 1
          · by_cases hc16 : p.flags / 16 % 2 = 1
            · exact NextR_2 f p now w hn0 hn1 he6 hc4 hs1 hc2 hc16
            · exact NextR_3 f p now w hn0 hn1 he6 hc4 hs1 hc2 hc16
          · exact NextR_4 f p now w hn0 hn1 he6 hc4 hs1 hc2
        · by_cases hs2 : f.state = 2
          · by_cases hc1 : p.flags % 2 = 1
            · exact NextR_5 f p now w hn0 hn1 he6 hc4 hs2 hc1
            · exact NextR_6 f p now w hn0 hn1 he6 hc4 hs2 hc1
          · by_cases hs3 : f.state = 3
            · by_cases hc1 : p.flags % 2 = 1
              · by_cases hsd : f.side ≠ 1
                · exact NextR_7 f p now w hn0 hn1 he6 hc4 hs3 hc1 hsd
                · have hsd := Classical.not_not.1 hsd
                  exact NextR_8 f p now w hn0 hn1 he6 hc4 hs3 hc1 hsd
              · exact NextR_9 f p now w hn0 hn1 he6 hc4 hs3 hc1
            · have hs123 : f.state ≠ 1 ∧ f.state ≠ 2 ∧ f.state ≠ 3 := ⟨hs1, hs2, hs3⟩
              exact NextR_10 f p now w hn0 hn1 he6 hc4 hs123
    · by_cases he17 : f.proto = 17
      · exact NextR_11 f p now w hn0 hn1 he6 he17
      · exact NextR_12 f p now w hn0 hn1 he6 he17
end Go.Proofs.Ytoaoofiaiiedlaa
