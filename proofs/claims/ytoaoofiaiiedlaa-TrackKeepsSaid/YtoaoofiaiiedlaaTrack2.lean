/- Contracts of Next, of package track and of the reference. No conditions but the ones that stand in each. Printed by gentrack2.py. -/
import Derived.Test.YtoaoofiaiiedlaaTrack
namespace Go.Proofs.Ytoaoofiaiiedlaa
open Go.RowKit

theorem and_pow_i64 (x : Int) (m : Nat) (hm : m < 9223372036854775808) : bits .and .i64 x (m : Int) = ((((x % 18446744073709551616).toNat &&& m : Nat)) : Int) := by
  have h0 : bits .and .i64 x (m : Int) = IntKind.i64.wrap ((BitVec.ofInt 64 x &&& BitVec.ofInt 64 (m : Int)).toNat : Int) := rfl
  have h : ((BitVec.ofInt 64 x) &&& (BitVec.ofInt 64 (m : Int))).toNat = (x % 18446744073709551616).toNat &&& m := by
    rw [BitVec.toNat_and, BitVec.toNat_ofInt, BitVec.toNat_ofInt]
    have e : ((m : Int) % (2 ^ 64 : Nat)).toNat = m := by omega
    rw [e]; rfl
  rw [h0, h]
  have hle : (x % 18446744073709551616).toNat &&& m ≤ m := Nat.and_le_right
  exact wrap_i64_nat _ (by omega)
theorem and1_i64 (x : Int) : bits .and .i64 x 1 = x % 2 := by
  rw [show (1 : Int) = ((1 : Nat) : Int) from rfl, and_pow_i64 x 1 (by omega), nat_mask1]; omega
theorem and2_i64 (x : Int) : bits .and .i64 x 2 = x / 2 % 2 * 2 := by
  rw [show (2 : Int) = ((2 : Nat) : Int) from rfl, and_pow_i64 x 2 (by omega), show (2 : Nat) = 2 ^ 1 from rfl, nat_bit 1]; simp only [Nat.pow_one]; omega
theorem and4_i64 (x : Int) : bits .and .i64 x 4 = x / 4 % 2 * 4 := by
  rw [show (4 : Int) = ((4 : Nat) : Int) from rfl, and_pow_i64 x 4 (by omega), show (4 : Nat) = 2 ^ 2 from rfl, nat_bit 2]; simp only [Nat.reducePow]; omega
theorem and16_i64' (x : Int) : bits .and .i64 x 16 = x / 16 % 2 * 16 := by
  rw [show (16 : Int) = ((16 : Nat) : Int) from rfl, and_pow_i64 x 16 (by omega), show (16 : Nat) = 2 ^ 4 from rfl, nat_bit 4]; simp only [Nat.reducePow]; omega
theorem and18_i64 (x : Int) : bits .and .i64 x 18 = x / 2 % 2 * 2 + x / 16 % 2 * 16 := by
  have h2 := and2_i64 x
  have h16 := and16_i64' x
  rw [show (2 : Int) = ((2 : Nat) : Int) from rfl, and_pow_i64 x 2 (by omega)] at h2
  rw [show (16 : Int) = ((16 : Nat) : Int) from rfl, and_pow_i64 x 16 (by omega)] at h16
  rw [show (18 : Int) = ((18 : Nat) : Int) from rfl, and_pow_i64 x 18 (by omega)]
  generalize (x % 18446744073709551616).toNat = y at *
  have e : y &&& 18 = (y &&& 16) + (y &&& 2) := by
    have h : y &&& 18 = (y &&& 16) ||| (y &&& 2) := by rw [← Nat.and_or_distrib_left]; rfl
    rw [h]
    refine nat_join 2 _ _ ?_ ?_
    · rw [show (16 : Nat) = 2 ^ 4 from rfl, nat_bit 4]; omega
    · rw [show (2 : Nat) = 2 ^ 1 from rfl, nat_bit 1]; omega
  rw [e]
  simp only [Int.natCast_add, h2, h16]
  omega

/-- A flow. -/
structure Flw where
  proto : Int
  s : Int
  inn : Int
  a : Int
  port : Int
  remote : Int
  rport : Int
  state : Int
  side : Int
  due : Int
abbrev Flw.v (f : Flw) : Value := .agg #[.int .i64 f.proto, .int .i64 f.s, .int .i64 f.inn, .int .i64 f.a, .int .i64 f.port, .int .i64 f.remote, .int .i64 f.rport, .int .i64 f.state, .int .i64 f.side, .int .i64 f.due]
attribute [go_sem] Flw.v
def Flw.cells (f : Flw) : List Value := [.int .i64 f.proto, .int .i64 f.s, .int .i64 f.inn, .int .i64 f.a, .int .i64 f.port, .int .i64 f.remote, .int .i64 f.rport, .int .i64 f.state, .int .i64 f.side, .int .i64 f.due]
theorem Flw.cells_one (f : Flw) : ∀ v ∈ f.cells, v.oneCell' = true := by simp [Flw.cells, Value.oneCell']

/-- A flow behind a packet. -/
def nextF (f : Flw) (fl : Int) (inward : Bool) (now : Int) : Flw :=
  let side : Int := if inward then 1 else 0
  let to (st : Int) : Flw := { f with state := st, due := now + lifeN f.proto st }
  if f.proto = 6 then
    if fl / 4 % 2 = 1 then (if f.state = 4 then f else to 4)
    else if f.state = 1 then
      if inward then (if fl / 2 % 2 = 1 ∧ fl / 16 % 2 = 1 then to 2 else f) else (if fl / 2 % 2 = 1 then to 1 else f)
    else if f.state = 2 then (if fl % 2 = 1 then { f with state := 3, side := side, due := now + lifeN f.proto 3 } else to 2)
    else if f.state = 3 then (if fl % 2 = 1 ∧ f.side ≠ side then to 4 else f)
    else f
  else if f.proto = 17 ∧ inward = true then f
  else to f.state

theorem spec_0 (f : Flw) (fl now : Int) (_e6 : f.proto = 6) (_c4 : fl / 4 % 2 = 1) (_s4 : f.state = 4) : nextF f fl true now = f := by
  unfold nextF; simp [*]
theorem spec_1 (f : Flw) (fl now : Int) (_e6 : f.proto = 6) (_c4 : fl / 4 % 2 = 1) (_s4 : ¬ f.state = 4) : nextF f fl true now = { f with state := 4, due := now + lifeN f.proto 4 } := by
  unfold nextF; simp [*]
theorem spec_2 (f : Flw) (fl now : Int) (_e6 : f.proto = 6) (_c4 : ¬ fl / 4 % 2 = 1) (_s1 : f.state = 1) (_c2 : fl / 2 % 2 = 1) (_c16 : fl / 16 % 2 = 1) : nextF f fl true now = { f with state := 2, due := now + lifeN f.proto 2 } := by
  unfold nextF; simp [*]
theorem spec_3 (f : Flw) (fl now : Int) (_e6 : f.proto = 6) (_c4 : ¬ fl / 4 % 2 = 1) (_s1 : f.state = 1) (_c2 : fl / 2 % 2 = 1) (_c16 : ¬ fl / 16 % 2 = 1) : nextF f fl true now = f := by
  unfold nextF; simp [*]
theorem spec_4 (f : Flw) (fl now : Int) (_e6 : f.proto = 6) (_c4 : ¬ fl / 4 % 2 = 1) (_s1 : f.state = 1) (_c2 : ¬ fl / 2 % 2 = 1) : nextF f fl true now = f := by
  unfold nextF; simp [*]
theorem spec_5 (f : Flw) (fl now : Int) (_e6 : f.proto = 6) (_c4 : ¬ fl / 4 % 2 = 1) (_s2 : f.state = 2) (_c1 : fl % 2 = 1) : nextF f fl true now = { f with state := 3, side := 1, due := now + lifeN f.proto 3 } := by
  unfold nextF; simp [*]
theorem spec_6 (f : Flw) (fl now : Int) (_e6 : f.proto = 6) (_c4 : ¬ fl / 4 % 2 = 1) (_s2 : f.state = 2) (_c1 : ¬ fl % 2 = 1) : nextF f fl true now = { f with state := 2, due := now + lifeN f.proto 2 } := by
  unfold nextF; simp [*]
theorem spec_7 (f : Flw) (fl now : Int) (_e6 : f.proto = 6) (_c4 : ¬ fl / 4 % 2 = 1) (_s3 : f.state = 3) (_c1 : fl % 2 = 1) (_sd : f.side ≠ 1) : nextF f fl true now = { f with state := 4, due := now + lifeN f.proto 4 } := by
  unfold nextF; simp [*]
theorem spec_8 (f : Flw) (fl now : Int) (_e6 : f.proto = 6) (_c4 : ¬ fl / 4 % 2 = 1) (_s3 : f.state = 3) (_c1 : fl % 2 = 1) (_sd : f.side = 1) : nextF f fl true now = f := by
  unfold nextF; simp [*]
theorem spec_9 (f : Flw) (fl now : Int) (_e6 : f.proto = 6) (_c4 : ¬ fl / 4 % 2 = 1) (_s3 : f.state = 3) (_c1 : ¬ fl % 2 = 1) : nextF f fl true now = f := by
  unfold nextF; simp [*]
theorem spec_10 (f : Flw) (fl now : Int) (_e6 : f.proto = 6) (_c4 : ¬ fl / 4 % 2 = 1) (_s123 : f.state ≠ 1 ∧ f.state ≠ 2 ∧ f.state ≠ 3) : nextF f fl true now = f := by
  unfold nextF; simp [*]
theorem spec_11 (f : Flw) (fl now : Int) (_e6 : ¬ f.proto = 6) (_e17 : f.proto = 17) : nextF f fl true now = f := by
  unfold nextF; simp [*]
theorem spec_12 (f : Flw) (fl now : Int) (_e6 : ¬ f.proto = 6) (_e17 : ¬ f.proto = 17) : nextF f fl true now = { f with state := f.state, due := now + lifeN f.proto f.state } := by
  unfold nextF; simp [*]
theorem spec_13 (f : Flw) (fl now : Int) (_e6 : f.proto = 6) (_c4 : fl / 4 % 2 = 1) (_s4 : f.state = 4) : nextF f fl false now = f := by
  unfold nextF; simp [*]
theorem spec_14 (f : Flw) (fl now : Int) (_e6 : f.proto = 6) (_c4 : fl / 4 % 2 = 1) (_s4 : ¬ f.state = 4) : nextF f fl false now = { f with state := 4, due := now + lifeN f.proto 4 } := by
  unfold nextF; simp [*]
theorem spec_15 (f : Flw) (fl now : Int) (_e6 : f.proto = 6) (_c4 : ¬ fl / 4 % 2 = 1) (_s1 : f.state = 1) (_c2 : fl / 2 % 2 = 1) : nextF f fl false now = { f with state := 1, due := now + lifeN f.proto 1 } := by
  unfold nextF; simp [*]
theorem spec_16 (f : Flw) (fl now : Int) (_e6 : f.proto = 6) (_c4 : ¬ fl / 4 % 2 = 1) (_s1 : f.state = 1) (_c2 : ¬ fl / 2 % 2 = 1) : nextF f fl false now = f := by
  unfold nextF; simp [*]
theorem spec_17 (f : Flw) (fl now : Int) (_e6 : f.proto = 6) (_c4 : ¬ fl / 4 % 2 = 1) (_s2 : f.state = 2) (_c1 : fl % 2 = 1) : nextF f fl false now = { f with state := 3, side := 0, due := now + lifeN f.proto 3 } := by
  unfold nextF; simp [*]
theorem spec_18 (f : Flw) (fl now : Int) (_e6 : f.proto = 6) (_c4 : ¬ fl / 4 % 2 = 1) (_s2 : f.state = 2) (_c1 : ¬ fl % 2 = 1) : nextF f fl false now = { f with state := 2, due := now + lifeN f.proto 2 } := by
  unfold nextF; simp [*]
theorem spec_19 (f : Flw) (fl now : Int) (_e6 : f.proto = 6) (_c4 : ¬ fl / 4 % 2 = 1) (_s3 : f.state = 3) (_c1 : fl % 2 = 1) (_sd : f.side ≠ 0) : nextF f fl false now = { f with state := 4, due := now + lifeN f.proto 4 } := by
  unfold nextF; simp [*]
theorem spec_20 (f : Flw) (fl now : Int) (_e6 : f.proto = 6) (_c4 : ¬ fl / 4 % 2 = 1) (_s3 : f.state = 3) (_c1 : fl % 2 = 1) (_sd : f.side = 0) : nextF f fl false now = f := by
  unfold nextF; simp [*]
theorem spec_21 (f : Flw) (fl now : Int) (_e6 : f.proto = 6) (_c4 : ¬ fl / 4 % 2 = 1) (_s3 : f.state = 3) (_c1 : ¬ fl % 2 = 1) : nextF f fl false now = f := by
  unfold nextF; simp [*]
theorem spec_22 (f : Flw) (fl now : Int) (_e6 : f.proto = 6) (_c4 : ¬ fl / 4 % 2 = 1) (_s123 : f.state ≠ 1 ∧ f.state ≠ 2 ∧ f.state ≠ 3) : nextF f fl false now = f := by
  unfold nextF; simp [*]
theorem spec_23 (f : Flw) (fl now : Int) (_e6 : ¬ f.proto = 6) (_e17 : f.proto = 17) : nextF f fl false now = { f with state := f.state, due := now + lifeN f.proto f.state } := by
  unfold nextF; simp [*]
theorem spec_24 (f : Flw) (fl now : Int) (_e6 : ¬ f.proto = 6) (_e17 : ¬ f.proto = 17) : nextF f fl false now = { f with state := f.state, due := now + lifeN f.proto f.state } := by
  unfold nextF; simp [*]
set_option maxHeartbeats 1000000 in
theorem Next_0 (f : Flw) (p : Pkt) (now : Int) (w : World) (_hn0 : 0 ≤ now) (_hn1 : now ≤ 4398046511104) (_e6 : f.proto = 6) (_c4 : p.flags / 4 % 2 = 1) (_s4 : f.state = 4) :
    Calls Try.prog 32 #[f.v, p.v, .bool true, .int .i64 now] w fun e w' => e = .returned (nextF f p.flags true now).v ∧ Ext w w' := by
  have hS := Lib.hid (spec_0 f p.flags now _e6 _c4 _s4)
  have L1 := (lifeN_bd f.proto 1); have L2 := (lifeN_bd f.proto 2); have L3 := (lifeN_bd f.proto 3); have L4 := (lifeN_bd f.proto 4); have L5 := (lifeN_bd f.proto f.state)
  have A1 := and1_i64 p.flags; have A2 := and2_i64 p.flags; have A4 := and4_i64 p.flags; have A16 := and16_i64' p.flags; have A18 := and18_i64 p.flags
  have b0 : (f.proto == 6) = true := by simp; omega
  have b1 : (bits .and .i64 p.flags 4 != 0) = true := by simp; omega
  have b2 : (f.state != 4) = false := by simp; omega
  clear A1 A2 A4 A16 A18
  have K_e6 := Lib.hid _e6
  have K_c4 := Lib.hid _c4
  have K_s4 := Lib.hid _s4
  clear _e6 _c4 _s4
  go_enter Try.func32, Try.ntmps32
  go_wp2_with (go_at_call 34; refine (Life_any _ _ _).mono ?_; rintro e w' ⟨rfl, rfl⟩)
  refine bodyPost_ret (v := (nextF f p.flags true now).v) ?_ rfl ⟨rfl, ?_⟩
  · rw [hS.out]
    have _e6 := K_e6.out
    have _c4 := K_c4.out
    have _s4 := K_s4.out
    simp [results, Try.results32, go_sem]
    try (first | omega | simp [*])
  · repeat (first | exact Ext.refl _ | refine Ext.alloc' ?_ _ | refine Ext.setCell' ?_ (by simp) _)
set_option maxHeartbeats 1000000 in
theorem Next_1 (f : Flw) (p : Pkt) (now : Int) (w : World) (_hn0 : 0 ≤ now) (_hn1 : now ≤ 4398046511104) (_e6 : f.proto = 6) (_c4 : p.flags / 4 % 2 = 1) (_s4 : ¬ f.state = 4) :
    Calls Try.prog 32 #[f.v, p.v, .bool true, .int .i64 now] w fun e w' => e = .returned (nextF f p.flags true now).v ∧ Ext w w' := by
  have hS := Lib.hid (spec_1 f p.flags now _e6 _c4 _s4)
  have L1 := (lifeN_bd f.proto 1); have L2 := (lifeN_bd f.proto 2); have L3 := (lifeN_bd f.proto 3); have L4 := (lifeN_bd f.proto 4); have L5 := (lifeN_bd f.proto f.state)
  have A1 := and1_i64 p.flags; have A2 := and2_i64 p.flags; have A4 := and4_i64 p.flags; have A16 := and16_i64' p.flags; have A18 := and18_i64 p.flags
  have b0 : (f.proto == 6) = true := by simp; omega
  have b1 : (bits .and .i64 p.flags 4 != 0) = true := by simp; omega
  have b2 : (f.state != 4) = true := by simp; omega
  clear A1 A2 A4 A16 A18
  have K_e6 := Lib.hid _e6
  have K_c4 := Lib.hid _c4
  have K_s4 := Lib.hid _s4
  clear _e6 _c4 _s4
  go_enter Try.func32, Try.ntmps32
  go_wp2_with (go_at_call 34; refine (Life_any _ _ _).mono ?_; rintro e w' ⟨rfl, rfl⟩)
  refine bodyPost_ret (v := (nextF f p.flags true now).v) ?_ rfl ⟨rfl, ?_⟩
  · rw [hS.out]
    have _e6 := K_e6.out
    have _c4 := K_c4.out
    have _s4 := K_s4.out
    simp [results, Try.results32, go_sem]
    try (first | omega | simp [*])
  · repeat (first | exact Ext.refl _ | refine Ext.alloc' ?_ _ | refine Ext.setCell' ?_ (by simp) _)
set_option maxHeartbeats 1000000 in
theorem Next_2 (f : Flw) (p : Pkt) (now : Int) (w : World) (_hn0 : 0 ≤ now) (_hn1 : now ≤ 4398046511104) (_e6 : f.proto = 6) (_c4 : ¬ p.flags / 4 % 2 = 1) (_s1 : f.state = 1) (_c2 : p.flags / 2 % 2 = 1) (_c16 : p.flags / 16 % 2 = 1) :
    Calls Try.prog 32 #[f.v, p.v, .bool true, .int .i64 now] w fun e w' => e = .returned (nextF f p.flags true now).v ∧ Ext w w' := by
  have hS := Lib.hid (spec_2 f p.flags now _e6 _c4 _s1 _c2 _c16)
  have L1 := (lifeN_bd f.proto 1); have L2 := (lifeN_bd f.proto 2); have L3 := (lifeN_bd f.proto 3); have L4 := (lifeN_bd f.proto 4); have L5 := (lifeN_bd f.proto f.state)
  have A1 := and1_i64 p.flags; have A2 := and2_i64 p.flags; have A4 := and4_i64 p.flags; have A16 := and16_i64' p.flags; have A18 := and18_i64 p.flags
  have b0 : (f.proto == 6) = true := by simp; omega
  have b1 : (bits .and .i64 p.flags 4 != 0) = false := by simp; omega
  have b2 : (f.state == 1) = true := by simp; omega
  have b3 : (f.state == 2) = false := by simp; omega
  have b4 : (f.state == 3) = false := by simp; omega
  have b5 : (f.state != 2) = true := by simp; omega
  have b6 : (bits .and .i64 p.flags 2 != 0) = true := by simp; omega
  have b7 : (bits .and .i64 p.flags 18 == 18) = true := by simp; omega
  clear A1 A2 A4 A16 A18
  have K_e6 := Lib.hid _e6
  have K_c4 := Lib.hid _c4
  have K_s1 := Lib.hid _s1
  have K_c2 := Lib.hid _c2
  have K_c16 := Lib.hid _c16
  clear _e6 _c4 _s1 _c2 _c16
  go_enter Try.func32, Try.ntmps32
  go_wp2_with (go_at_call 34; refine (Life_any _ _ _).mono ?_; rintro e w' ⟨rfl, rfl⟩)
  refine bodyPost_ret (v := (nextF f p.flags true now).v) ?_ rfl ⟨rfl, ?_⟩
  · rw [hS.out]
    have _e6 := K_e6.out
    have _c4 := K_c4.out
    have _s1 := K_s1.out
    have _c2 := K_c2.out
    have _c16 := K_c16.out
    simp [results, Try.results32, go_sem]
    try (first | omega | simp [*])
  · repeat (first | exact Ext.refl _ | refine Ext.alloc' ?_ _ | refine Ext.setCell' ?_ (by simp) _)
set_option maxHeartbeats 1000000 in
theorem Next_3 (f : Flw) (p : Pkt) (now : Int) (w : World) (_hn0 : 0 ≤ now) (_hn1 : now ≤ 4398046511104) (_e6 : f.proto = 6) (_c4 : ¬ p.flags / 4 % 2 = 1) (_s1 : f.state = 1) (_c2 : p.flags / 2 % 2 = 1) (_c16 : ¬ p.flags / 16 % 2 = 1) :
    Calls Try.prog 32 #[f.v, p.v, .bool true, .int .i64 now] w fun e w' => e = .returned (nextF f p.flags true now).v ∧ Ext w w' := by
  have hS := Lib.hid (spec_3 f p.flags now _e6 _c4 _s1 _c2 _c16)
  have L1 := (lifeN_bd f.proto 1); have L2 := (lifeN_bd f.proto 2); have L3 := (lifeN_bd f.proto 3); have L4 := (lifeN_bd f.proto 4); have L5 := (lifeN_bd f.proto f.state)
  have A1 := and1_i64 p.flags; have A2 := and2_i64 p.flags; have A4 := and4_i64 p.flags; have A16 := and16_i64' p.flags; have A18 := and18_i64 p.flags
  have b0 : (f.proto == 6) = true := by simp; omega
  have b1 : (bits .and .i64 p.flags 4 != 0) = false := by simp; omega
  have b2 : (f.state == 1) = true := by simp; omega
  have b3 : (f.state == 2) = false := by simp; omega
  have b4 : (f.state == 3) = false := by simp; omega
  have b5 : (f.state != 2) = true := by simp; omega
  have b6 : (bits .and .i64 p.flags 2 != 0) = true := by simp; omega
  have b7 : (bits .and .i64 p.flags 18 == 18) = false := by simp; omega
  clear A1 A2 A4 A16 A18
  have K_e6 := Lib.hid _e6
  have K_c4 := Lib.hid _c4
  have K_s1 := Lib.hid _s1
  have K_c2 := Lib.hid _c2
  have K_c16 := Lib.hid _c16
  clear _e6 _c4 _s1 _c2 _c16
  go_enter Try.func32, Try.ntmps32
  go_wp2_with (go_at_call 34; refine (Life_any _ _ _).mono ?_; rintro e w' ⟨rfl, rfl⟩)
  refine bodyPost_ret (v := (nextF f p.flags true now).v) ?_ rfl ⟨rfl, ?_⟩
  · rw [hS.out]
    have _e6 := K_e6.out
    have _c4 := K_c4.out
    have _s1 := K_s1.out
    have _c2 := K_c2.out
    have _c16 := K_c16.out
    simp [results, Try.results32, go_sem]
    try (first | omega | simp [*])
  · repeat (first | exact Ext.refl _ | refine Ext.alloc' ?_ _ | refine Ext.setCell' ?_ (by simp) _)
set_option maxHeartbeats 1000000 in
theorem Next_4 (f : Flw) (p : Pkt) (now : Int) (w : World) (_hn0 : 0 ≤ now) (_hn1 : now ≤ 4398046511104) (_e6 : f.proto = 6) (_c4 : ¬ p.flags / 4 % 2 = 1) (_s1 : f.state = 1) (_c2 : ¬ p.flags / 2 % 2 = 1) :
    Calls Try.prog 32 #[f.v, p.v, .bool true, .int .i64 now] w fun e w' => e = .returned (nextF f p.flags true now).v ∧ Ext w w' := by
  have hS := Lib.hid (spec_4 f p.flags now _e6 _c4 _s1 _c2)
  have L1 := (lifeN_bd f.proto 1); have L2 := (lifeN_bd f.proto 2); have L3 := (lifeN_bd f.proto 3); have L4 := (lifeN_bd f.proto 4); have L5 := (lifeN_bd f.proto f.state)
  have A1 := and1_i64 p.flags; have A2 := and2_i64 p.flags; have A4 := and4_i64 p.flags; have A16 := and16_i64' p.flags; have A18 := and18_i64 p.flags
  have b0 : (f.proto == 6) = true := by simp; omega
  have b1 : (bits .and .i64 p.flags 4 != 0) = false := by simp; omega
  have b2 : (f.state == 1) = true := by simp; omega
  have b3 : (f.state == 2) = false := by simp; omega
  have b4 : (f.state == 3) = false := by simp; omega
  have b5 : (f.state != 2) = true := by simp; omega
  have b6 : (bits .and .i64 p.flags 2 != 0) = false := by simp; omega
  have b7 : (bits .and .i64 p.flags 18 == 18) = false := by simp; omega
  clear A1 A2 A4 A16 A18
  have K_e6 := Lib.hid _e6
  have K_c4 := Lib.hid _c4
  have K_s1 := Lib.hid _s1
  have K_c2 := Lib.hid _c2
  clear _e6 _c4 _s1 _c2
  go_enter Try.func32, Try.ntmps32
  go_wp2_with (go_at_call 34; refine (Life_any _ _ _).mono ?_; rintro e w' ⟨rfl, rfl⟩)
  refine bodyPost_ret (v := (nextF f p.flags true now).v) ?_ rfl ⟨rfl, ?_⟩
  · rw [hS.out]
    have _e6 := K_e6.out
    have _c4 := K_c4.out
    have _s1 := K_s1.out
    have _c2 := K_c2.out
    simp [results, Try.results32, go_sem]
    try (first | omega | simp [*])
  · repeat (first | exact Ext.refl _ | refine Ext.alloc' ?_ _ | refine Ext.setCell' ?_ (by simp) _)
set_option maxHeartbeats 1000000 in
theorem Next_5 (f : Flw) (p : Pkt) (now : Int) (w : World) (_hn0 : 0 ≤ now) (_hn1 : now ≤ 4398046511104) (_e6 : f.proto = 6) (_c4 : ¬ p.flags / 4 % 2 = 1) (_s2 : f.state = 2) (_c1 : p.flags % 2 = 1) :
    Calls Try.prog 32 #[f.v, p.v, .bool true, .int .i64 now] w fun e w' => e = .returned (nextF f p.flags true now).v ∧ Ext w w' := by
  have hS := Lib.hid (spec_5 f p.flags now _e6 _c4 _s2 _c1)
  have L1 := (lifeN_bd f.proto 1); have L2 := (lifeN_bd f.proto 2); have L3 := (lifeN_bd f.proto 3); have L4 := (lifeN_bd f.proto 4); have L5 := (lifeN_bd f.proto f.state)
  have A1 := and1_i64 p.flags; have A2 := and2_i64 p.flags; have A4 := and4_i64 p.flags; have A16 := and16_i64' p.flags; have A18 := and18_i64 p.flags
  have b0 : (f.proto == 6) = true := by simp; omega
  have b1 : (bits .and .i64 p.flags 4 != 0) = false := by simp; omega
  have b2 : (f.state == 1) = false := by simp; omega
  have b3 : (f.state == 2) = true := by simp; omega
  have b4 : (f.state == 3) = false := by simp; omega
  have b5 : (f.state != 2) = false := by simp; omega
  have b6 : (bits .and .i64 p.flags 1 != 0) = true := by simp; omega
  clear A1 A2 A4 A16 A18
  have K_e6 := Lib.hid _e6
  have K_c4 := Lib.hid _c4
  have K_s2 := Lib.hid _s2
  have K_c1 := Lib.hid _c1
  clear _e6 _c4 _s2 _c1
  go_enter Try.func32, Try.ntmps32
  go_wp2_with (go_at_call 34; refine (Life_any _ _ _).mono ?_; rintro e w' ⟨rfl, rfl⟩)
  refine bodyPost_ret (v := (nextF f p.flags true now).v) ?_ rfl ⟨rfl, ?_⟩
  · rw [hS.out]
    have _e6 := K_e6.out
    have _c4 := K_c4.out
    have _s2 := K_s2.out
    have _c1 := K_c1.out
    simp [results, Try.results32, go_sem]
    try (first | omega | simp [*])
  · repeat (first | exact Ext.refl _ | refine Ext.alloc' ?_ _ | refine Ext.setCell' ?_ (by simp) _)
set_option maxHeartbeats 1000000 in
theorem Next_6 (f : Flw) (p : Pkt) (now : Int) (w : World) (_hn0 : 0 ≤ now) (_hn1 : now ≤ 4398046511104) (_e6 : f.proto = 6) (_c4 : ¬ p.flags / 4 % 2 = 1) (_s2 : f.state = 2) (_c1 : ¬ p.flags % 2 = 1) :
    Calls Try.prog 32 #[f.v, p.v, .bool true, .int .i64 now] w fun e w' => e = .returned (nextF f p.flags true now).v ∧ Ext w w' := by
  have hS := Lib.hid (spec_6 f p.flags now _e6 _c4 _s2 _c1)
  have L1 := (lifeN_bd f.proto 1); have L2 := (lifeN_bd f.proto 2); have L3 := (lifeN_bd f.proto 3); have L4 := (lifeN_bd f.proto 4); have L5 := (lifeN_bd f.proto f.state)
  have A1 := and1_i64 p.flags; have A2 := and2_i64 p.flags; have A4 := and4_i64 p.flags; have A16 := and16_i64' p.flags; have A18 := and18_i64 p.flags
  have b0 : (f.proto == 6) = true := by simp; omega
  have b1 : (bits .and .i64 p.flags 4 != 0) = false := by simp; omega
  have b2 : (f.state == 1) = false := by simp; omega
  have b3 : (f.state == 2) = true := by simp; omega
  have b4 : (f.state == 3) = false := by simp; omega
  have b5 : (f.state != 2) = false := by simp; omega
  have b6 : (bits .and .i64 p.flags 1 != 0) = false := by simp; omega
  clear A1 A2 A4 A16 A18
  have K_e6 := Lib.hid _e6
  have K_c4 := Lib.hid _c4
  have K_s2 := Lib.hid _s2
  have K_c1 := Lib.hid _c1
  clear _e6 _c4 _s2 _c1
  go_enter Try.func32, Try.ntmps32
  go_wp2_with (go_at_call 34; refine (Life_any _ _ _).mono ?_; rintro e w' ⟨rfl, rfl⟩)
  refine bodyPost_ret (v := (nextF f p.flags true now).v) ?_ rfl ⟨rfl, ?_⟩
  · rw [hS.out]
    have _e6 := K_e6.out
    have _c4 := K_c4.out
    have _s2 := K_s2.out
    have _c1 := K_c1.out
    simp [results, Try.results32, go_sem]
    try (first | omega | simp [*])
  · repeat (first | exact Ext.refl _ | refine Ext.alloc' ?_ _ | refine Ext.setCell' ?_ (by simp) _)
set_option maxHeartbeats 1000000 in
theorem Next_7 (f : Flw) (p : Pkt) (now : Int) (w : World) (_hn0 : 0 ≤ now) (_hn1 : now ≤ 4398046511104) (_e6 : f.proto = 6) (_c4 : ¬ p.flags / 4 % 2 = 1) (_s3 : f.state = 3) (_c1 : p.flags % 2 = 1) (_sd : f.side ≠ 1) :
    Calls Try.prog 32 #[f.v, p.v, .bool true, .int .i64 now] w fun e w' => e = .returned (nextF f p.flags true now).v ∧ Ext w w' := by
  have hS := Lib.hid (spec_7 f p.flags now _e6 _c4 _s3 _c1 _sd)
  have L1 := (lifeN_bd f.proto 1); have L2 := (lifeN_bd f.proto 2); have L3 := (lifeN_bd f.proto 3); have L4 := (lifeN_bd f.proto 4); have L5 := (lifeN_bd f.proto f.state)
  have A1 := and1_i64 p.flags; have A2 := and2_i64 p.flags; have A4 := and4_i64 p.flags; have A16 := and16_i64' p.flags; have A18 := and18_i64 p.flags
  have b0 : (f.proto == 6) = true := by simp; omega
  have b1 : (bits .and .i64 p.flags 4 != 0) = false := by simp; omega
  have b2 : (f.state == 1) = false := by simp; omega
  have b3 : (f.state == 2) = false := by simp; omega
  have b4 : (f.state == 3) = true := by simp; omega
  have b5 : (f.state != 2) = true := by simp; omega
  have b6 : (bits .and .i64 p.flags 1 != 0) = true := by simp; omega
  have b7 : (f.side != 1) = true := by simp; omega
  clear A1 A2 A4 A16 A18
  have K_e6 := Lib.hid _e6
  have K_c4 := Lib.hid _c4
  have K_s3 := Lib.hid _s3
  have K_c1 := Lib.hid _c1
  have K_sd := Lib.hid _sd
  clear _e6 _c4 _s3 _c1 _sd
  go_enter Try.func32, Try.ntmps32
  go_wp2_with (go_at_call 34; refine (Life_any _ _ _).mono ?_; rintro e w' ⟨rfl, rfl⟩)
  refine bodyPost_ret (v := (nextF f p.flags true now).v) ?_ rfl ⟨rfl, ?_⟩
  · rw [hS.out]
    have _e6 := K_e6.out
    have _c4 := K_c4.out
    have _s3 := K_s3.out
    have _c1 := K_c1.out
    have _sd := K_sd.out
    simp [results, Try.results32, go_sem]
    try (first | omega | simp [*])
  · repeat (first | exact Ext.refl _ | refine Ext.alloc' ?_ _ | refine Ext.setCell' ?_ (by simp) _)
set_option maxHeartbeats 1000000 in
theorem Next_8 (f : Flw) (p : Pkt) (now : Int) (w : World) (_hn0 : 0 ≤ now) (_hn1 : now ≤ 4398046511104) (_e6 : f.proto = 6) (_c4 : ¬ p.flags / 4 % 2 = 1) (_s3 : f.state = 3) (_c1 : p.flags % 2 = 1) (_sd : f.side = 1) :
    Calls Try.prog 32 #[f.v, p.v, .bool true, .int .i64 now] w fun e w' => e = .returned (nextF f p.flags true now).v ∧ Ext w w' := by
  have hS := Lib.hid (spec_8 f p.flags now _e6 _c4 _s3 _c1 _sd)
  have L1 := (lifeN_bd f.proto 1); have L2 := (lifeN_bd f.proto 2); have L3 := (lifeN_bd f.proto 3); have L4 := (lifeN_bd f.proto 4); have L5 := (lifeN_bd f.proto f.state)
  have A1 := and1_i64 p.flags; have A2 := and2_i64 p.flags; have A4 := and4_i64 p.flags; have A16 := and16_i64' p.flags; have A18 := and18_i64 p.flags
  have b0 : (f.proto == 6) = true := by simp; omega
  have b1 : (bits .and .i64 p.flags 4 != 0) = false := by simp; omega
  have b2 : (f.state == 1) = false := by simp; omega
  have b3 : (f.state == 2) = false := by simp; omega
  have b4 : (f.state == 3) = true := by simp; omega
  have b5 : (f.state != 2) = true := by simp; omega
  have b6 : (bits .and .i64 p.flags 1 != 0) = true := by simp; omega
  have b7 : (f.side != 1) = false := by simp; omega
  clear A1 A2 A4 A16 A18
  have K_e6 := Lib.hid _e6
  have K_c4 := Lib.hid _c4
  have K_s3 := Lib.hid _s3
  have K_c1 := Lib.hid _c1
  have K_sd := Lib.hid _sd
  clear _e6 _c4 _s3 _c1 _sd
  go_enter Try.func32, Try.ntmps32
  go_wp2_with (go_at_call 34; refine (Life_any _ _ _).mono ?_; rintro e w' ⟨rfl, rfl⟩)
  refine bodyPost_ret (v := (nextF f p.flags true now).v) ?_ rfl ⟨rfl, ?_⟩
  · rw [hS.out]
    have _e6 := K_e6.out
    have _c4 := K_c4.out
    have _s3 := K_s3.out
    have _c1 := K_c1.out
    have _sd := K_sd.out
    simp [results, Try.results32, go_sem]
    try (first | omega | simp [*])
  · repeat (first | exact Ext.refl _ | refine Ext.alloc' ?_ _ | refine Ext.setCell' ?_ (by simp) _)
set_option maxHeartbeats 1000000 in
theorem Next_9 (f : Flw) (p : Pkt) (now : Int) (w : World) (_hn0 : 0 ≤ now) (_hn1 : now ≤ 4398046511104) (_e6 : f.proto = 6) (_c4 : ¬ p.flags / 4 % 2 = 1) (_s3 : f.state = 3) (_c1 : ¬ p.flags % 2 = 1) :
    Calls Try.prog 32 #[f.v, p.v, .bool true, .int .i64 now] w fun e w' => e = .returned (nextF f p.flags true now).v ∧ Ext w w' := by
  have hS := Lib.hid (spec_9 f p.flags now _e6 _c4 _s3 _c1)
  have L1 := (lifeN_bd f.proto 1); have L2 := (lifeN_bd f.proto 2); have L3 := (lifeN_bd f.proto 3); have L4 := (lifeN_bd f.proto 4); have L5 := (lifeN_bd f.proto f.state)
  have A1 := and1_i64 p.flags; have A2 := and2_i64 p.flags; have A4 := and4_i64 p.flags; have A16 := and16_i64' p.flags; have A18 := and18_i64 p.flags
  have b0 : (f.proto == 6) = true := by simp; omega
  have b1 : (bits .and .i64 p.flags 4 != 0) = false := by simp; omega
  have b2 : (f.state == 1) = false := by simp; omega
  have b3 : (f.state == 2) = false := by simp; omega
  have b4 : (f.state == 3) = true := by simp; omega
  have b5 : (f.state != 2) = true := by simp; omega
  have b6 : (bits .and .i64 p.flags 1 != 0) = false := by simp; omega
  clear A1 A2 A4 A16 A18
  have K_e6 := Lib.hid _e6
  have K_c4 := Lib.hid _c4
  have K_s3 := Lib.hid _s3
  have K_c1 := Lib.hid _c1
  clear _e6 _c4 _s3 _c1
  go_enter Try.func32, Try.ntmps32
  go_wp2_with (go_at_call 34; refine (Life_any _ _ _).mono ?_; rintro e w' ⟨rfl, rfl⟩)
  refine bodyPost_ret (v := (nextF f p.flags true now).v) ?_ rfl ⟨rfl, ?_⟩
  · rw [hS.out]
    have _e6 := K_e6.out
    have _c4 := K_c4.out
    have _s3 := K_s3.out
    have _c1 := K_c1.out
    simp [results, Try.results32, go_sem]
    try (first | omega | simp [*])
  · repeat (first | exact Ext.refl _ | refine Ext.alloc' ?_ _ | refine Ext.setCell' ?_ (by simp) _)
set_option maxHeartbeats 1000000 in
theorem Next_10 (f : Flw) (p : Pkt) (now : Int) (w : World) (_hn0 : 0 ≤ now) (_hn1 : now ≤ 4398046511104) (_e6 : f.proto = 6) (_c4 : ¬ p.flags / 4 % 2 = 1) (_s123 : f.state ≠ 1 ∧ f.state ≠ 2 ∧ f.state ≠ 3) :
    Calls Try.prog 32 #[f.v, p.v, .bool true, .int .i64 now] w fun e w' => e = .returned (nextF f p.flags true now).v ∧ Ext w w' := by
  have hS := Lib.hid (spec_10 f p.flags now _e6 _c4 _s123)
  have L1 := (lifeN_bd f.proto 1); have L2 := (lifeN_bd f.proto 2); have L3 := (lifeN_bd f.proto 3); have L4 := (lifeN_bd f.proto 4); have L5 := (lifeN_bd f.proto f.state)
  have A1 := and1_i64 p.flags; have A2 := and2_i64 p.flags; have A4 := and4_i64 p.flags; have A16 := and16_i64' p.flags; have A18 := and18_i64 p.flags
  have b0 : (f.proto == 6) = true := by simp; omega
  have b1 : (bits .and .i64 p.flags 4 != 0) = false := by simp; omega
  have b2 : (f.state == 1) = false := by simp; omega
  have b3 : (f.state == 2) = false := by simp; omega
  have b4 : (f.state == 3) = false := by simp; omega
  have b5 : (f.state != 2) = true := by simp; omega
  clear A1 A2 A4 A16 A18
  have K_e6 := Lib.hid _e6
  have K_c4 := Lib.hid _c4
  have K_s123 := Lib.hid _s123
  clear _e6 _c4 _s123
  go_enter Try.func32, Try.ntmps32
  go_wp2_with (go_at_call 34; refine (Life_any _ _ _).mono ?_; rintro e w' ⟨rfl, rfl⟩)
  refine bodyPost_ret (v := (nextF f p.flags true now).v) ?_ rfl ⟨rfl, ?_⟩
  · rw [hS.out]
    have _e6 := K_e6.out
    have _c4 := K_c4.out
    have _s123 := K_s123.out
    simp [results, Try.results32, go_sem]
    try (first | omega | simp [*])
  · repeat (first | exact Ext.refl _ | refine Ext.alloc' ?_ _ | refine Ext.setCell' ?_ (by simp) _)
set_option maxHeartbeats 1000000 in
theorem Next_11 (f : Flw) (p : Pkt) (now : Int) (w : World) (_hn0 : 0 ≤ now) (_hn1 : now ≤ 4398046511104) (_e6 : ¬ f.proto = 6) (_e17 : f.proto = 17) :
    Calls Try.prog 32 #[f.v, p.v, .bool true, .int .i64 now] w fun e w' => e = .returned (nextF f p.flags true now).v ∧ Ext w w' := by
  have hS := Lib.hid (spec_11 f p.flags now _e6 _e17)
  have L1 := (lifeN_bd f.proto 1); have L2 := (lifeN_bd f.proto 2); have L3 := (lifeN_bd f.proto 3); have L4 := (lifeN_bd f.proto 4); have L5 := (lifeN_bd f.proto f.state)
  have A1 := and1_i64 p.flags; have A2 := and2_i64 p.flags; have A4 := and4_i64 p.flags; have A16 := and16_i64' p.flags; have A18 := and18_i64 p.flags
  have b0 : (f.proto == 6) = false := by simp; omega
  have b1 : (f.proto == 17) = true := by simp; omega
  clear A1 A2 A4 A16 A18
  have K_e6 := Lib.hid _e6
  have K_e17 := Lib.hid _e17
  clear _e6 _e17
  go_enter Try.func32, Try.ntmps32
  go_wp2_with (go_at_call 34; refine (Life_any _ _ _).mono ?_; rintro e w' ⟨rfl, rfl⟩)
  refine bodyPost_ret (v := (nextF f p.flags true now).v) ?_ rfl ⟨rfl, ?_⟩
  · rw [hS.out]
    have _e6 := K_e6.out
    have _e17 := K_e17.out
    simp [results, Try.results32, go_sem]
    try (first | omega | simp [*])
  · repeat (first | exact Ext.refl _ | refine Ext.alloc' ?_ _ | refine Ext.setCell' ?_ (by simp) _)
set_option maxHeartbeats 1000000 in
theorem Next_12 (f : Flw) (p : Pkt) (now : Int) (w : World) (_hn0 : 0 ≤ now) (_hn1 : now ≤ 4398046511104) (_e6 : ¬ f.proto = 6) (_e17 : ¬ f.proto = 17) :
    Calls Try.prog 32 #[f.v, p.v, .bool true, .int .i64 now] w fun e w' => e = .returned (nextF f p.flags true now).v ∧ Ext w w' := by
  have hS := Lib.hid (spec_12 f p.flags now _e6 _e17)
  have L1 := (lifeN_bd f.proto 1); have L2 := (lifeN_bd f.proto 2); have L3 := (lifeN_bd f.proto 3); have L4 := (lifeN_bd f.proto 4); have L5 := (lifeN_bd f.proto f.state)
  have A1 := and1_i64 p.flags; have A2 := and2_i64 p.flags; have A4 := and4_i64 p.flags; have A16 := and16_i64' p.flags; have A18 := and18_i64 p.flags
  have b0 : (f.proto == 6) = false := by simp; omega
  have b1 : (f.proto == 17) = false := by simp; omega
  clear A1 A2 A4 A16 A18
  have K_e6 := Lib.hid _e6
  have K_e17 := Lib.hid _e17
  clear _e6 _e17
  go_enter Try.func32, Try.ntmps32
  go_wp2_with (go_at_call 34; refine (Life_any _ _ _).mono ?_; rintro e w' ⟨rfl, rfl⟩)
  refine bodyPost_ret (v := (nextF f p.flags true now).v) ?_ rfl ⟨rfl, ?_⟩
  · rw [hS.out]
    have _e6 := K_e6.out
    have _e17 := K_e17.out
    simp [results, Try.results32, go_sem]
    try (first | omega | simp [*])
  · repeat (first | exact Ext.refl _ | refine Ext.alloc' ?_ _ | refine Ext.setCell' ?_ (by simp) _)
set_option maxHeartbeats 1000000 in
theorem Next_13 (f : Flw) (p : Pkt) (now : Int) (w : World) (_hn0 : 0 ≤ now) (_hn1 : now ≤ 4398046511104) (_e6 : f.proto = 6) (_c4 : p.flags / 4 % 2 = 1) (_s4 : f.state = 4) :
    Calls Try.prog 32 #[f.v, p.v, .bool false, .int .i64 now] w fun e w' => e = .returned (nextF f p.flags false now).v ∧ Ext w w' := by
  have hS := Lib.hid (spec_13 f p.flags now _e6 _c4 _s4)
  have L1 := (lifeN_bd f.proto 1); have L2 := (lifeN_bd f.proto 2); have L3 := (lifeN_bd f.proto 3); have L4 := (lifeN_bd f.proto 4); have L5 := (lifeN_bd f.proto f.state)
  have A1 := and1_i64 p.flags; have A2 := and2_i64 p.flags; have A4 := and4_i64 p.flags; have A16 := and16_i64' p.flags; have A18 := and18_i64 p.flags
  have b0 : (f.proto == 6) = true := by simp; omega
  have b1 : (bits .and .i64 p.flags 4 != 0) = true := by simp; omega
  have b2 : (f.state != 4) = false := by simp; omega
  clear A1 A2 A4 A16 A18
  have K_e6 := Lib.hid _e6
  have K_c4 := Lib.hid _c4
  have K_s4 := Lib.hid _s4
  clear _e6 _c4 _s4
  go_enter Try.func32, Try.ntmps32
  go_wp2_with (go_at_call 34; refine (Life_any _ _ _).mono ?_; rintro e w' ⟨rfl, rfl⟩)
  refine bodyPost_ret (v := (nextF f p.flags false now).v) ?_ rfl ⟨rfl, ?_⟩
  · rw [hS.out]
    have _e6 := K_e6.out
    have _c4 := K_c4.out
    have _s4 := K_s4.out
    simp [results, Try.results32, go_sem]
    try (first | omega | simp [*])
  · repeat (first | exact Ext.refl _ | refine Ext.alloc' ?_ _ | refine Ext.setCell' ?_ (by simp) _)
set_option maxHeartbeats 1000000 in
theorem Next_14 (f : Flw) (p : Pkt) (now : Int) (w : World) (_hn0 : 0 ≤ now) (_hn1 : now ≤ 4398046511104) (_e6 : f.proto = 6) (_c4 : p.flags / 4 % 2 = 1) (_s4 : ¬ f.state = 4) :
    Calls Try.prog 32 #[f.v, p.v, .bool false, .int .i64 now] w fun e w' => e = .returned (nextF f p.flags false now).v ∧ Ext w w' := by
  have hS := Lib.hid (spec_14 f p.flags now _e6 _c4 _s4)
  have L1 := (lifeN_bd f.proto 1); have L2 := (lifeN_bd f.proto 2); have L3 := (lifeN_bd f.proto 3); have L4 := (lifeN_bd f.proto 4); have L5 := (lifeN_bd f.proto f.state)
  have A1 := and1_i64 p.flags; have A2 := and2_i64 p.flags; have A4 := and4_i64 p.flags; have A16 := and16_i64' p.flags; have A18 := and18_i64 p.flags
  have b0 : (f.proto == 6) = true := by simp; omega
  have b1 : (bits .and .i64 p.flags 4 != 0) = true := by simp; omega
  have b2 : (f.state != 4) = true := by simp; omega
  clear A1 A2 A4 A16 A18
  have K_e6 := Lib.hid _e6
  have K_c4 := Lib.hid _c4
  have K_s4 := Lib.hid _s4
  clear _e6 _c4 _s4
  go_enter Try.func32, Try.ntmps32
  go_wp2_with (go_at_call 34; refine (Life_any _ _ _).mono ?_; rintro e w' ⟨rfl, rfl⟩)
  refine bodyPost_ret (v := (nextF f p.flags false now).v) ?_ rfl ⟨rfl, ?_⟩
  · rw [hS.out]
    have _e6 := K_e6.out
    have _c4 := K_c4.out
    have _s4 := K_s4.out
    simp [results, Try.results32, go_sem]
    try (first | omega | simp [*])
  · repeat (first | exact Ext.refl _ | refine Ext.alloc' ?_ _ | refine Ext.setCell' ?_ (by simp) _)
set_option maxHeartbeats 1000000 in
theorem Next_15 (f : Flw) (p : Pkt) (now : Int) (w : World) (_hn0 : 0 ≤ now) (_hn1 : now ≤ 4398046511104) (_e6 : f.proto = 6) (_c4 : ¬ p.flags / 4 % 2 = 1) (_s1 : f.state = 1) (_c2 : p.flags / 2 % 2 = 1) :
    Calls Try.prog 32 #[f.v, p.v, .bool false, .int .i64 now] w fun e w' => e = .returned (nextF f p.flags false now).v ∧ Ext w w' := by
  have hS := Lib.hid (spec_15 f p.flags now _e6 _c4 _s1 _c2)
  have L1 := (lifeN_bd f.proto 1); have L2 := (lifeN_bd f.proto 2); have L3 := (lifeN_bd f.proto 3); have L4 := (lifeN_bd f.proto 4); have L5 := (lifeN_bd f.proto f.state)
  have A1 := and1_i64 p.flags; have A2 := and2_i64 p.flags; have A4 := and4_i64 p.flags; have A16 := and16_i64' p.flags; have A18 := and18_i64 p.flags
  have b0 : (f.proto == 6) = true := by simp; omega
  have b1 : (bits .and .i64 p.flags 4 != 0) = false := by simp; omega
  have b2 : (f.state == 1) = true := by simp; omega
  have b3 : (f.state == 2) = false := by simp; omega
  have b4 : (f.state == 3) = false := by simp; omega
  have b5 : (f.state != 2) = true := by simp; omega
  have b6 : (bits .and .i64 p.flags 2 != 0) = true := by simp; omega
  clear A1 A2 A4 A16 A18
  have K_e6 := Lib.hid _e6
  have K_c4 := Lib.hid _c4
  have K_s1 := Lib.hid _s1
  have K_c2 := Lib.hid _c2
  clear _e6 _c4 _s1 _c2
  go_enter Try.func32, Try.ntmps32
  go_wp2_with (go_at_call 34; refine (Life_any _ _ _).mono ?_; rintro e w' ⟨rfl, rfl⟩)
  refine bodyPost_ret (v := (nextF f p.flags false now).v) ?_ rfl ⟨rfl, ?_⟩
  · rw [hS.out]
    have _e6 := K_e6.out
    have _c4 := K_c4.out
    have _s1 := K_s1.out
    have _c2 := K_c2.out
    simp [results, Try.results32, go_sem]
    try (first | omega | simp [*])
  · repeat (first | exact Ext.refl _ | refine Ext.alloc' ?_ _ | refine Ext.setCell' ?_ (by simp) _)
set_option maxHeartbeats 1000000 in
theorem Next_16 (f : Flw) (p : Pkt) (now : Int) (w : World) (_hn0 : 0 ≤ now) (_hn1 : now ≤ 4398046511104) (_e6 : f.proto = 6) (_c4 : ¬ p.flags / 4 % 2 = 1) (_s1 : f.state = 1) (_c2 : ¬ p.flags / 2 % 2 = 1) :
    Calls Try.prog 32 #[f.v, p.v, .bool false, .int .i64 now] w fun e w' => e = .returned (nextF f p.flags false now).v ∧ Ext w w' := by
  have hS := Lib.hid (spec_16 f p.flags now _e6 _c4 _s1 _c2)
  have L1 := (lifeN_bd f.proto 1); have L2 := (lifeN_bd f.proto 2); have L3 := (lifeN_bd f.proto 3); have L4 := (lifeN_bd f.proto 4); have L5 := (lifeN_bd f.proto f.state)
  have A1 := and1_i64 p.flags; have A2 := and2_i64 p.flags; have A4 := and4_i64 p.flags; have A16 := and16_i64' p.flags; have A18 := and18_i64 p.flags
  have b0 : (f.proto == 6) = true := by simp; omega
  have b1 : (bits .and .i64 p.flags 4 != 0) = false := by simp; omega
  have b2 : (f.state == 1) = true := by simp; omega
  have b3 : (f.state == 2) = false := by simp; omega
  have b4 : (f.state == 3) = false := by simp; omega
  have b5 : (f.state != 2) = true := by simp; omega
  have b6 : (bits .and .i64 p.flags 2 != 0) = false := by simp; omega
  clear A1 A2 A4 A16 A18
  have K_e6 := Lib.hid _e6
  have K_c4 := Lib.hid _c4
  have K_s1 := Lib.hid _s1
  have K_c2 := Lib.hid _c2
  clear _e6 _c4 _s1 _c2
  go_enter Try.func32, Try.ntmps32
  go_wp2_with (go_at_call 34; refine (Life_any _ _ _).mono ?_; rintro e w' ⟨rfl, rfl⟩)
  refine bodyPost_ret (v := (nextF f p.flags false now).v) ?_ rfl ⟨rfl, ?_⟩
  · rw [hS.out]
    have _e6 := K_e6.out
    have _c4 := K_c4.out
    have _s1 := K_s1.out
    have _c2 := K_c2.out
    simp [results, Try.results32, go_sem]
    try (first | omega | simp [*])
  · repeat (first | exact Ext.refl _ | refine Ext.alloc' ?_ _ | refine Ext.setCell' ?_ (by simp) _)
set_option maxHeartbeats 1000000 in
theorem Next_17 (f : Flw) (p : Pkt) (now : Int) (w : World) (_hn0 : 0 ≤ now) (_hn1 : now ≤ 4398046511104) (_e6 : f.proto = 6) (_c4 : ¬ p.flags / 4 % 2 = 1) (_s2 : f.state = 2) (_c1 : p.flags % 2 = 1) :
    Calls Try.prog 32 #[f.v, p.v, .bool false, .int .i64 now] w fun e w' => e = .returned (nextF f p.flags false now).v ∧ Ext w w' := by
  have hS := Lib.hid (spec_17 f p.flags now _e6 _c4 _s2 _c1)
  have L1 := (lifeN_bd f.proto 1); have L2 := (lifeN_bd f.proto 2); have L3 := (lifeN_bd f.proto 3); have L4 := (lifeN_bd f.proto 4); have L5 := (lifeN_bd f.proto f.state)
  have A1 := and1_i64 p.flags; have A2 := and2_i64 p.flags; have A4 := and4_i64 p.flags; have A16 := and16_i64' p.flags; have A18 := and18_i64 p.flags
  have b0 : (f.proto == 6) = true := by simp; omega
  have b1 : (bits .and .i64 p.flags 4 != 0) = false := by simp; omega
  have b2 : (f.state == 1) = false := by simp; omega
  have b3 : (f.state == 2) = true := by simp; omega
  have b4 : (f.state == 3) = false := by simp; omega
  have b5 : (f.state != 2) = false := by simp; omega
  have b6 : (bits .and .i64 p.flags 1 != 0) = true := by simp; omega
  clear A1 A2 A4 A16 A18
  have K_e6 := Lib.hid _e6
  have K_c4 := Lib.hid _c4
  have K_s2 := Lib.hid _s2
  have K_c1 := Lib.hid _c1
  clear _e6 _c4 _s2 _c1
  go_enter Try.func32, Try.ntmps32
  go_wp2_with (go_at_call 34; refine (Life_any _ _ _).mono ?_; rintro e w' ⟨rfl, rfl⟩)
  refine bodyPost_ret (v := (nextF f p.flags false now).v) ?_ rfl ⟨rfl, ?_⟩
  · rw [hS.out]
    have _e6 := K_e6.out
    have _c4 := K_c4.out
    have _s2 := K_s2.out
    have _c1 := K_c1.out
    simp [results, Try.results32, go_sem]
    try (first | omega | simp [*])
  · repeat (first | exact Ext.refl _ | refine Ext.alloc' ?_ _ | refine Ext.setCell' ?_ (by simp) _)
set_option maxHeartbeats 1000000 in
theorem Next_18 (f : Flw) (p : Pkt) (now : Int) (w : World) (_hn0 : 0 ≤ now) (_hn1 : now ≤ 4398046511104) (_e6 : f.proto = 6) (_c4 : ¬ p.flags / 4 % 2 = 1) (_s2 : f.state = 2) (_c1 : ¬ p.flags % 2 = 1) :
    Calls Try.prog 32 #[f.v, p.v, .bool false, .int .i64 now] w fun e w' => e = .returned (nextF f p.flags false now).v ∧ Ext w w' := by
  have hS := Lib.hid (spec_18 f p.flags now _e6 _c4 _s2 _c1)
  have L1 := (lifeN_bd f.proto 1); have L2 := (lifeN_bd f.proto 2); have L3 := (lifeN_bd f.proto 3); have L4 := (lifeN_bd f.proto 4); have L5 := (lifeN_bd f.proto f.state)
  have A1 := and1_i64 p.flags; have A2 := and2_i64 p.flags; have A4 := and4_i64 p.flags; have A16 := and16_i64' p.flags; have A18 := and18_i64 p.flags
  have b0 : (f.proto == 6) = true := by simp; omega
  have b1 : (bits .and .i64 p.flags 4 != 0) = false := by simp; omega
  have b2 : (f.state == 1) = false := by simp; omega
  have b3 : (f.state == 2) = true := by simp; omega
  have b4 : (f.state == 3) = false := by simp; omega
  have b5 : (f.state != 2) = false := by simp; omega
  have b6 : (bits .and .i64 p.flags 1 != 0) = false := by simp; omega
  clear A1 A2 A4 A16 A18
  have K_e6 := Lib.hid _e6
  have K_c4 := Lib.hid _c4
  have K_s2 := Lib.hid _s2
  have K_c1 := Lib.hid _c1
  clear _e6 _c4 _s2 _c1
  go_enter Try.func32, Try.ntmps32
  go_wp2_with (go_at_call 34; refine (Life_any _ _ _).mono ?_; rintro e w' ⟨rfl, rfl⟩)
  refine bodyPost_ret (v := (nextF f p.flags false now).v) ?_ rfl ⟨rfl, ?_⟩
  · rw [hS.out]
    have _e6 := K_e6.out
    have _c4 := K_c4.out
    have _s2 := K_s2.out
    have _c1 := K_c1.out
    simp [results, Try.results32, go_sem]
    try (first | omega | simp [*])
  · repeat (first | exact Ext.refl _ | refine Ext.alloc' ?_ _ | refine Ext.setCell' ?_ (by simp) _)
set_option maxHeartbeats 1000000 in
theorem Next_19 (f : Flw) (p : Pkt) (now : Int) (w : World) (_hn0 : 0 ≤ now) (_hn1 : now ≤ 4398046511104) (_e6 : f.proto = 6) (_c4 : ¬ p.flags / 4 % 2 = 1) (_s3 : f.state = 3) (_c1 : p.flags % 2 = 1) (_sd : f.side ≠ 0) :
    Calls Try.prog 32 #[f.v, p.v, .bool false, .int .i64 now] w fun e w' => e = .returned (nextF f p.flags false now).v ∧ Ext w w' := by
  have hS := Lib.hid (spec_19 f p.flags now _e6 _c4 _s3 _c1 _sd)
  have L1 := (lifeN_bd f.proto 1); have L2 := (lifeN_bd f.proto 2); have L3 := (lifeN_bd f.proto 3); have L4 := (lifeN_bd f.proto 4); have L5 := (lifeN_bd f.proto f.state)
  have A1 := and1_i64 p.flags; have A2 := and2_i64 p.flags; have A4 := and4_i64 p.flags; have A16 := and16_i64' p.flags; have A18 := and18_i64 p.flags
  have b0 : (f.proto == 6) = true := by simp; omega
  have b1 : (bits .and .i64 p.flags 4 != 0) = false := by simp; omega
  have b2 : (f.state == 1) = false := by simp; omega
  have b3 : (f.state == 2) = false := by simp; omega
  have b4 : (f.state == 3) = true := by simp; omega
  have b5 : (f.state != 2) = true := by simp; omega
  have b6 : (bits .and .i64 p.flags 1 != 0) = true := by simp; omega
  have b7 : (f.side != 0) = true := by simp; omega
  clear A1 A2 A4 A16 A18
  have K_e6 := Lib.hid _e6
  have K_c4 := Lib.hid _c4
  have K_s3 := Lib.hid _s3
  have K_c1 := Lib.hid _c1
  have K_sd := Lib.hid _sd
  clear _e6 _c4 _s3 _c1 _sd
  go_enter Try.func32, Try.ntmps32
  go_wp2_with (go_at_call 34; refine (Life_any _ _ _).mono ?_; rintro e w' ⟨rfl, rfl⟩)
  refine bodyPost_ret (v := (nextF f p.flags false now).v) ?_ rfl ⟨rfl, ?_⟩
  · rw [hS.out]
    have _e6 := K_e6.out
    have _c4 := K_c4.out
    have _s3 := K_s3.out
    have _c1 := K_c1.out
    have _sd := K_sd.out
    simp [results, Try.results32, go_sem]
    try (first | omega | simp [*])
  · repeat (first | exact Ext.refl _ | refine Ext.alloc' ?_ _ | refine Ext.setCell' ?_ (by simp) _)
set_option maxHeartbeats 1000000 in
theorem Next_20 (f : Flw) (p : Pkt) (now : Int) (w : World) (_hn0 : 0 ≤ now) (_hn1 : now ≤ 4398046511104) (_e6 : f.proto = 6) (_c4 : ¬ p.flags / 4 % 2 = 1) (_s3 : f.state = 3) (_c1 : p.flags % 2 = 1) (_sd : f.side = 0) :
    Calls Try.prog 32 #[f.v, p.v, .bool false, .int .i64 now] w fun e w' => e = .returned (nextF f p.flags false now).v ∧ Ext w w' := by
  have hS := Lib.hid (spec_20 f p.flags now _e6 _c4 _s3 _c1 _sd)
  have L1 := (lifeN_bd f.proto 1); have L2 := (lifeN_bd f.proto 2); have L3 := (lifeN_bd f.proto 3); have L4 := (lifeN_bd f.proto 4); have L5 := (lifeN_bd f.proto f.state)
  have A1 := and1_i64 p.flags; have A2 := and2_i64 p.flags; have A4 := and4_i64 p.flags; have A16 := and16_i64' p.flags; have A18 := and18_i64 p.flags
  have b0 : (f.proto == 6) = true := by simp; omega
  have b1 : (bits .and .i64 p.flags 4 != 0) = false := by simp; omega
  have b2 : (f.state == 1) = false := by simp; omega
  have b3 : (f.state == 2) = false := by simp; omega
  have b4 : (f.state == 3) = true := by simp; omega
  have b5 : (f.state != 2) = true := by simp; omega
  have b6 : (bits .and .i64 p.flags 1 != 0) = true := by simp; omega
  have b7 : (f.side != 0) = false := by simp; omega
  clear A1 A2 A4 A16 A18
  have K_e6 := Lib.hid _e6
  have K_c4 := Lib.hid _c4
  have K_s3 := Lib.hid _s3
  have K_c1 := Lib.hid _c1
  have K_sd := Lib.hid _sd
  clear _e6 _c4 _s3 _c1 _sd
  go_enter Try.func32, Try.ntmps32
  go_wp2_with (go_at_call 34; refine (Life_any _ _ _).mono ?_; rintro e w' ⟨rfl, rfl⟩)
  refine bodyPost_ret (v := (nextF f p.flags false now).v) ?_ rfl ⟨rfl, ?_⟩
  · rw [hS.out]
    have _e6 := K_e6.out
    have _c4 := K_c4.out
    have _s3 := K_s3.out
    have _c1 := K_c1.out
    have _sd := K_sd.out
    simp [results, Try.results32, go_sem]
    try (first | omega | simp [*])
  · repeat (first | exact Ext.refl _ | refine Ext.alloc' ?_ _ | refine Ext.setCell' ?_ (by simp) _)
set_option maxHeartbeats 1000000 in
theorem Next_21 (f : Flw) (p : Pkt) (now : Int) (w : World) (_hn0 : 0 ≤ now) (_hn1 : now ≤ 4398046511104) (_e6 : f.proto = 6) (_c4 : ¬ p.flags / 4 % 2 = 1) (_s3 : f.state = 3) (_c1 : ¬ p.flags % 2 = 1) :
    Calls Try.prog 32 #[f.v, p.v, .bool false, .int .i64 now] w fun e w' => e = .returned (nextF f p.flags false now).v ∧ Ext w w' := by
  have hS := Lib.hid (spec_21 f p.flags now _e6 _c4 _s3 _c1)
  have L1 := (lifeN_bd f.proto 1); have L2 := (lifeN_bd f.proto 2); have L3 := (lifeN_bd f.proto 3); have L4 := (lifeN_bd f.proto 4); have L5 := (lifeN_bd f.proto f.state)
  have A1 := and1_i64 p.flags; have A2 := and2_i64 p.flags; have A4 := and4_i64 p.flags; have A16 := and16_i64' p.flags; have A18 := and18_i64 p.flags
  have b0 : (f.proto == 6) = true := by simp; omega
  have b1 : (bits .and .i64 p.flags 4 != 0) = false := by simp; omega
  have b2 : (f.state == 1) = false := by simp; omega
  have b3 : (f.state == 2) = false := by simp; omega
  have b4 : (f.state == 3) = true := by simp; omega
  have b5 : (f.state != 2) = true := by simp; omega
  have b6 : (bits .and .i64 p.flags 1 != 0) = false := by simp; omega
  clear A1 A2 A4 A16 A18
  have K_e6 := Lib.hid _e6
  have K_c4 := Lib.hid _c4
  have K_s3 := Lib.hid _s3
  have K_c1 := Lib.hid _c1
  clear _e6 _c4 _s3 _c1
  go_enter Try.func32, Try.ntmps32
  go_wp2_with (go_at_call 34; refine (Life_any _ _ _).mono ?_; rintro e w' ⟨rfl, rfl⟩)
  refine bodyPost_ret (v := (nextF f p.flags false now).v) ?_ rfl ⟨rfl, ?_⟩
  · rw [hS.out]
    have _e6 := K_e6.out
    have _c4 := K_c4.out
    have _s3 := K_s3.out
    have _c1 := K_c1.out
    simp [results, Try.results32, go_sem]
    try (first | omega | simp [*])
  · repeat (first | exact Ext.refl _ | refine Ext.alloc' ?_ _ | refine Ext.setCell' ?_ (by simp) _)
set_option maxHeartbeats 1000000 in
theorem Next_22 (f : Flw) (p : Pkt) (now : Int) (w : World) (_hn0 : 0 ≤ now) (_hn1 : now ≤ 4398046511104) (_e6 : f.proto = 6) (_c4 : ¬ p.flags / 4 % 2 = 1) (_s123 : f.state ≠ 1 ∧ f.state ≠ 2 ∧ f.state ≠ 3) :
    Calls Try.prog 32 #[f.v, p.v, .bool false, .int .i64 now] w fun e w' => e = .returned (nextF f p.flags false now).v ∧ Ext w w' := by
  have hS := Lib.hid (spec_22 f p.flags now _e6 _c4 _s123)
  have L1 := (lifeN_bd f.proto 1); have L2 := (lifeN_bd f.proto 2); have L3 := (lifeN_bd f.proto 3); have L4 := (lifeN_bd f.proto 4); have L5 := (lifeN_bd f.proto f.state)
  have A1 := and1_i64 p.flags; have A2 := and2_i64 p.flags; have A4 := and4_i64 p.flags; have A16 := and16_i64' p.flags; have A18 := and18_i64 p.flags
  have b0 : (f.proto == 6) = true := by simp; omega
  have b1 : (bits .and .i64 p.flags 4 != 0) = false := by simp; omega
  have b2 : (f.state == 1) = false := by simp; omega
  have b3 : (f.state == 2) = false := by simp; omega
  have b4 : (f.state == 3) = false := by simp; omega
  have b5 : (f.state != 2) = true := by simp; omega
  clear A1 A2 A4 A16 A18
  have K_e6 := Lib.hid _e6
  have K_c4 := Lib.hid _c4
  have K_s123 := Lib.hid _s123
  clear _e6 _c4 _s123
  go_enter Try.func32, Try.ntmps32
  go_wp2_with (go_at_call 34; refine (Life_any _ _ _).mono ?_; rintro e w' ⟨rfl, rfl⟩)
  refine bodyPost_ret (v := (nextF f p.flags false now).v) ?_ rfl ⟨rfl, ?_⟩
  · rw [hS.out]
    have _e6 := K_e6.out
    have _c4 := K_c4.out
    have _s123 := K_s123.out
    simp [results, Try.results32, go_sem]
    try (first | omega | simp [*])
  · repeat (first | exact Ext.refl _ | refine Ext.alloc' ?_ _ | refine Ext.setCell' ?_ (by simp) _)
set_option maxHeartbeats 1000000 in
theorem Next_23 (f : Flw) (p : Pkt) (now : Int) (w : World) (_hn0 : 0 ≤ now) (_hn1 : now ≤ 4398046511104) (_e6 : ¬ f.proto = 6) (_e17 : f.proto = 17) :
    Calls Try.prog 32 #[f.v, p.v, .bool false, .int .i64 now] w fun e w' => e = .returned (nextF f p.flags false now).v ∧ Ext w w' := by
  have hS := Lib.hid (spec_23 f p.flags now _e6 _e17)
  have L1 := (lifeN_bd f.proto 1); have L2 := (lifeN_bd f.proto 2); have L3 := (lifeN_bd f.proto 3); have L4 := (lifeN_bd f.proto 4); have L5 := (lifeN_bd f.proto f.state)
  have A1 := and1_i64 p.flags; have A2 := and2_i64 p.flags; have A4 := and4_i64 p.flags; have A16 := and16_i64' p.flags; have A18 := and18_i64 p.flags
  have b0 : (f.proto == 6) = false := by simp; omega
  have b1 : (f.proto == 17) = true := by simp; omega
  clear A1 A2 A4 A16 A18
  have K_e6 := Lib.hid _e6
  have K_e17 := Lib.hid _e17
  clear _e6 _e17
  go_enter Try.func32, Try.ntmps32
  go_wp2_with (go_at_call 34; refine (Life_any _ _ _).mono ?_; rintro e w' ⟨rfl, rfl⟩)
  refine bodyPost_ret (v := (nextF f p.flags false now).v) ?_ rfl ⟨rfl, ?_⟩
  · rw [hS.out]
    have _e6 := K_e6.out
    have _e17 := K_e17.out
    simp [results, Try.results32, go_sem]
    try (first | omega | simp [*])
  · repeat (first | exact Ext.refl _ | refine Ext.alloc' ?_ _ | refine Ext.setCell' ?_ (by simp) _)
set_option maxHeartbeats 1000000 in
theorem Next_24 (f : Flw) (p : Pkt) (now : Int) (w : World) (_hn0 : 0 ≤ now) (_hn1 : now ≤ 4398046511104) (_e6 : ¬ f.proto = 6) (_e17 : ¬ f.proto = 17) :
    Calls Try.prog 32 #[f.v, p.v, .bool false, .int .i64 now] w fun e w' => e = .returned (nextF f p.flags false now).v ∧ Ext w w' := by
  have hS := Lib.hid (spec_24 f p.flags now _e6 _e17)
  have L1 := (lifeN_bd f.proto 1); have L2 := (lifeN_bd f.proto 2); have L3 := (lifeN_bd f.proto 3); have L4 := (lifeN_bd f.proto 4); have L5 := (lifeN_bd f.proto f.state)
  have A1 := and1_i64 p.flags; have A2 := and2_i64 p.flags; have A4 := and4_i64 p.flags; have A16 := and16_i64' p.flags; have A18 := and18_i64 p.flags
  have b0 : (f.proto == 6) = false := by simp; omega
  have b1 : (f.proto == 17) = false := by simp; omega
  clear A1 A2 A4 A16 A18
  have K_e6 := Lib.hid _e6
  have K_e17 := Lib.hid _e17
  clear _e6 _e17
  go_enter Try.func32, Try.ntmps32
  go_wp2_with (go_at_call 34; refine (Life_any _ _ _).mono ?_; rintro e w' ⟨rfl, rfl⟩)
  refine bodyPost_ret (v := (nextF f p.flags false now).v) ?_ rfl ⟨rfl, ?_⟩
  · rw [hS.out]
    have _e6 := K_e6.out
    have _e17 := K_e17.out
    simp [results, Try.results32, go_sem]
    try (first | omega | simp [*])
  · repeat (first | exact Ext.refl _ | refine Ext.alloc' ?_ _ | refine Ext.setCell' ?_ (by simp) _)
theorem Next_any (f : Flw) (p : Pkt) (inward : Bool) (now : Int) (w : World) (hn0 : 0 ≤ now) (hn1 : now ≤ 4398046511104) :
    Calls Try.prog 32 #[f.v, p.v, .bool inward, .int .i64 now] w fun e w' => e = .returned (nextF f p.flags inward now).v ∧ Ext w w' := by
  cases inward
  · by_cases he6 : f.proto = 6
    · by_cases hc4 : p.flags / 4 % 2 = 1
      · by_cases hs4 : f.state = 4
        · exact Next_13 f p now w hn0 hn1 he6 hc4 hs4
        · exact Next_14 f p now w hn0 hn1 he6 hc4 hs4
      · by_cases hs1 : f.state = 1
        · by_cases hc2 : p.flags / 2 % 2 = 1
          · exact Next_15 f p now w hn0 hn1 he6 hc4 hs1 hc2
          · exact Next_16 f p now w hn0 hn1 he6 hc4 hs1 hc2
        · by_cases hs2 : f.state = 2
          · by_cases hc1 : p.flags % 2 = 1
            · exact Next_17 f p now w hn0 hn1 he6 hc4 hs2 hc1
            · exact Next_18 f p now w hn0 hn1 he6 hc4 hs2 hc1
          · by_cases hs3 : f.state = 3
            · by_cases hc1 : p.flags % 2 = 1
              · by_cases hsd : f.side ≠ 0
                · exact Next_19 f p now w hn0 hn1 he6 hc4 hs3 hc1 hsd
                · have hsd := Classical.not_not.1 hsd
                  exact Next_20 f p now w hn0 hn1 he6 hc4 hs3 hc1 hsd
              · exact Next_21 f p now w hn0 hn1 he6 hc4 hs3 hc1
            · have hs123 : f.state ≠ 1 ∧ f.state ≠ 2 ∧ f.state ≠ 3 := ⟨hs1, hs2, hs3⟩
              exact Next_22 f p now w hn0 hn1 he6 hc4 hs123
    · by_cases he17 : f.proto = 17
      · exact Next_23 f p now w hn0 hn1 he6 he17
      · exact Next_24 f p now w hn0 hn1 he6 he17
  · by_cases he6 : f.proto = 6
    · by_cases hc4 : p.flags / 4 % 2 = 1
      · by_cases hs4 : f.state = 4
        · exact Next_0 f p now w hn0 hn1 he6 hc4 hs4
        · exact Next_1 f p now w hn0 hn1 he6 hc4 hs4
      · by_cases hs1 : f.state = 1
        · by_cases hc2 : p.flags / 2 % 2 = 1
          · by_cases hc16 : p.flags / 16 % 2 = 1
            · exact Next_2 f p now w hn0 hn1 he6 hc4 hs1 hc2 hc16
            · exact Next_3 f p now w hn0 hn1 he6 hc4 hs1 hc2 hc16
          · exact Next_4 f p now w hn0 hn1 he6 hc4 hs1 hc2
        · by_cases hs2 : f.state = 2
          · by_cases hc1 : p.flags % 2 = 1
            · exact Next_5 f p now w hn0 hn1 he6 hc4 hs2 hc1
            · exact Next_6 f p now w hn0 hn1 he6 hc4 hs2 hc1
          · by_cases hs3 : f.state = 3
            · by_cases hc1 : p.flags % 2 = 1
              · by_cases hsd : f.side ≠ 1
                · exact Next_7 f p now w hn0 hn1 he6 hc4 hs3 hc1 hsd
                · have hsd := Classical.not_not.1 hsd
                  exact Next_8 f p now w hn0 hn1 he6 hc4 hs3 hc1 hsd
              · exact Next_9 f p now w hn0 hn1 he6 hc4 hs3 hc1
            · have hs123 : f.state ≠ 1 ∧ f.state ≠ 2 ∧ f.state ≠ 3 := ⟨hs1, hs2, hs3⟩
              exact Next_10 f p now w hn0 hn1 he6 hc4 hs123
    · by_cases he17 : f.proto = 17
      · exact Next_11 f p now w hn0 hn1 he6 he17
      · exact Next_12 f p now w hn0 hn1 he6 he17
end Go.Proofs.Ytoaoofiaiiedlaa
