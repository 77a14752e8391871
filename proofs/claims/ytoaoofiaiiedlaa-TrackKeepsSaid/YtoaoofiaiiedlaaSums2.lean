/- Contracts of the small functions of the sums' statements. No conditions but the ones that stand in each. -/
import Derived.Test.YtoaoofiaiiedlaaSums
namespace Go.Proofs.Ytoaoofiaiiedlaa
open Go.RowKit

set_option maxHeartbeats 400000 in
theorem AddWords_any (a b : Int) (w : World) :
    Calls Try.prog 23 #[.int .i64 a, .int .i64 b] w fun e w' => e = .returned (.int .i64 (addN a b)) ∧ w' = w := by
  have e1 : a % 65536 + b % 65536 = (((a % 65536).toNat + (b % 65536).toNat : Nat) : Int) := by omega
  have E := Lib.hid e1; clear e1
  go_enter Try.func23, Try.ntmps23
  go_wp2_with (first
    | (go_at_call 50; refine (low_any _ _).mono ?_; rintro e w' ⟨rfl, rfl⟩)
    | (go_at_call 49; rw [E.out]; refine (back_any _ _ (by omega)).mono ?_; rintro e w' ⟨rfl, rfl⟩))
  go_ret
  exact ⟨rfl, rfl⟩

set_option maxHeartbeats 400000 in
theorem UpdateCheck_any (c m n : Int) (w : World) :
    Calls Try.prog 25 #[.int .i64 c, .int .i64 m, .int .i64 n] w fun e w' => e = .returned (.int .i64 (65535 - addN (addN (65535 - c % 65536) (65535 - m % 65536)) n)) ∧ w' = w := by
  have hl := addN_le (addN (65535 - c % 65536) (65535 - m % 65536)) n
  have e1 : 65535 - c % 65536 + 65535 - m % 65536 = (((65535 - c % 65536).toNat + (65535 - m % 65536).toNat : Nat) : Int) := by omega
  have E := Lib.hid e1; clear e1
  have hl1 := backN_le ((65535 - c % 65536).toNat + (65535 - m % 65536).toNat)
  have e2 : (backN ((65535 - c % 65536).toNat + (65535 - m % 65536).toNat) : Int) + n % 65536 = ((backN ((65535 - c % 65536).toNat + (65535 - m % 65536).toNat) + (n % 65536).toNat : Nat) : Int) := by omega
  have E2 := Lib.hid e2; clear e2
  have hl2 := backN_le (backN ((65535 - c % 65536).toNat + (65535 - m % 65536).toNat) + (n % 65536).toNat)
  go_enter Try.func25, Try.ntmps25
  go_wp2_with (first
    | (go_at_call 50; refine (low_any _ _).mono ?_; rintro e w' ⟨rfl, rfl⟩)
    | (go_at_call 49; rw [E.out]; refine (back_any _ _ (by omega)).mono ?_; rintro e w' ⟨rfl, rfl⟩)
    | (go_at_call 49; rw [E2.out]; refine (back_any _ _ (by omega)).mono ?_; rintro e w' ⟨rfl, rfl⟩))
  go_ret
  refine ⟨ret_int ?_, rfl⟩
  unfold addN
  rw [show ((65535 - c % 65536) % 65536).toNat = (65535 - c % 65536).toNat by omega, show ((65535 - m % 65536) % 65536).toNat = (65535 - m % 65536).toNat by omega]
  rw [show ((backN ((65535 - c % 65536).toNat + (65535 - m % 65536).toNat) : Int) % 65536).toNat = backN ((65535 - c % 65536).toNat + (65535 - m % 65536).toNat) by omega]

theorem adds_val : ofN [0, 1, 242, 3, 244, 245, 246, 247] = 56818 := by decide

set_option maxHeartbeats 400000 in
theorem addsL_any (w : World) :
    Calls Try.prog 20 #[] w fun e w' => e = .returned (.bool true) ∧ Ext w w' := by
  have hE := Lib.hid adds_val
  go_enter Try.func20, Try.ntmps20
  go_wp2_with (go_at_call 15; refine (Of_below _ _ (by decide)).mono ?_; rw [show ofN _ = 56818 from hE.out]; rintro e w' ⟨rfl, hb⟩)
  go_ret
  exact ⟨rfl, hb⟩
set_option maxHeartbeats 400000 in
theorem addsK_any (w : World) :
    Calls Try.prog 16 #[] w fun e w' => e = .returned (.bool true) ∧ Ext w w' := by
  have hE := Lib.hid adds_val
  go_enter Try.func16, Try.ntmps16
  go_wp2_with (go_at_call 15; refine (Of_below _ _ (by decide)).mono ?_; rw [show ofN _ = 56818 from hE.out]; rintro e w' ⟨rfl, hb⟩)
  go_ret
  exact ⟨rfl, hb⟩

set_option maxHeartbeats 400000 in
theorem word_any (n : Int) (w : World) (h0 : 0 ≤ n) (h1 : n ≤ 65535) :
    Calls Try.prog 22 #[.int .i64 n] w fun e w' => e = .returned (.string ⟨#[UInt8.ofNat (n.toNat / 256), UInt8.ofNat (n.toNat % 256)]⟩) ∧ Ext w w' := by
  go_enter Try.func22, Try.ntmps22
  go_wp2_with (refine wpList_string [UInt8.ofNat (n.toNat / 256), UInt8.ofNat (n.toNat % 256)] rfl 65 9 _ _ rfl ⟨w.heap.size, 0, none⟩ 2 2 rfl rfl Try.underlying65 Try.underlying5 Try.underlying9 ?_ ?_)
  · intro j hj
    match j, hj with
    | 0, _ => simp [Addr.add]; omega
    | 1, _ => simp [Addr.add]; omega
  · go_wp2
    go_ret
    exact ⟨rfl, Ext.alloc _ _⟩

def wordB (n : Nat) : ByteArray := ⟨#[UInt8.ofNat (n / 256), UInt8.ofNat (n % 256)]⟩
theorem wordB_size (n : Nat) : (wordB n).size = 2 := rfl
theorem word_nat (n : Nat) (w : World) (h1 : n ≤ 65535) :
    Calls Try.prog 22 #[.int .i64 n] w fun e w' => e = .returned (.string (wordB n)) ∧ Ext w w' :=
  word_any n w (by omega) (by omega)
end Go.Proofs.Ytoaoofiaiiedlaa
