/- The walks of the statements on sums. No conditions but the ones that stand in each. -/
import Derived.Test.YtoaoofiaiiedlaaSums2
namespace Go.Proofs.Ytoaoofiaiiedlaa
open Go.RowKit

set_option maxHeartbeats 400000 in
theorem LSumsOf (s : ByteArray) (w : World) (hs : s.size ≤ 140737488351232) :
    Calls Try.prog 5 #[.string s] w fun e w' => e = .returned (.bool true) ∧ Ext w w' := by
  go_enter Try.func5, Try.ntmps5
  go_wp2_with (first
    | (go_at_call 15; refine (Of_any _ _ (by unfold maxLen; omega)).mono ?_; rintro e w1 ⟨rfl, n1, rfl⟩)
    | (go_at_call 17; refine (SumOf_any _ _ hs).mono ?_; rintro e w2 ⟨rfl, hb2⟩)
    | (go_at_call 18; refine (Check_any _ _ (by omega)).mono ?_; rintro e w3 ⟨rfl, n3, rfl⟩)
    | (go_at_call 19; refine (CheckOf_any _ _ hs).mono ?_; rintro e w4 ⟨rfl, hb4⟩)
    | (go_at_call 20; refine (addsL_any _).mono ?_; rintro e w5 ⟨rfl, hb5⟩))
  go_ret
  exact ⟨rfl, (((Ext.drewN _ _).trans hb2).trans ((Ext.drewN _ _).trans hb4)).trans hb5⟩

set_option maxHeartbeats 400000 in
theorem LSumsUpdate (c m n : Int) (w : World) :
    Calls Try.prog 7 #[.int .i64 c, .int .i64 m, .int .i64 n] w fun e w' => e = .returned (.bool true) ∧ Ext w w' := by
  go_enter Try.func7, Try.ntmps7
  go_wp2_with (first
    | (go_at_call 21; refine (Add_any _ _ _).mono ?_; rintro e w1 ⟨rfl, rfl⟩)
    | (go_at_call 23; refine (AddWords_any _ _ _).mono ?_; rintro e w2 ⟨rfl, rfl⟩)
    | (go_at_call 24; refine (Update_any _ _ _ _).mono ?_; rintro e w3 ⟨rfl, rfl⟩)
    | (go_at_call 25; refine (UpdateCheck_any _ _ _ _).mono ?_; rintro e w4 ⟨rfl, rfl⟩)
    | (go_at_call 20; refine (addsL_any _).mono ?_; rintro e w5 ⟨rfl, hb5⟩))
  go_ret
  exact ⟨rfl, hb5⟩

theorem toList_append (a b : ByteArray) : (a ++ b).data.toList = a.data.toList ++ b.data.toList := by simp

theorem ofN_app3 (X Y c : ByteArray) (hX : X.size % 2 = 0) (hY : Y.size % 2 = 0) :
    ofN (X ++ Y ++ c).data.toList = backN (sumL X.data.toList + sumL Y.data.toList + sumL c.data.toList) := by
  unfold ofN
  rw [toList_append, toList_append, sumL_append _ _ (by simp; have : X.data.size = X.size := rfl; have : Y.data.size = Y.size := rfl; omega), sumL_append _ _ (by simp; have : X.data.size = X.size := rfl; omega)]
theorem size_zero1 (a : ByteArray) : (a ++ ⟨#[0]⟩).size = a.size + 1 := by simp; rfl

set_option maxHeartbeats 400000 in
theorem LSumsSwap11 (a b c : ByteArray) (w : World) (ha : a.size ≤ 140737488351232) (hb : b.size ≤ 140737488351232) (hc : c.size ≤ 140737488351232) (pa : ((a.size : Int) % 2 == 1) = true) (pb : ((b.size : Int) % 2 == 1) = true) :
    Calls Try.prog 4 #[.string a, .string b, .string c] w fun e w' => e = .returned (.bool true) ∧ Ext w w' := by
  have sa := size_zero1 a
  have sb := size_zero1 b
  have h1 := ofN_app3 (a ++ ⟨#[0]⟩) (b ++ ⟨#[0]⟩) c (by simp at pa; omega) (by simp at pb; omega)
  have h2 := ofN_app3 (b ++ ⟨#[0]⟩) (a ++ ⟨#[0]⟩) c (by simp at pb; omega) (by simp at pa; omega)
  rw [Nat.add_comm (sumL (b ++ ⟨#[0]⟩).data.toList)] at h2
  have z1 : ((a ++ ⟨#[0]⟩) ++ (b ++ ⟨#[0]⟩) ++ c).size ≤ maxLen := by unfold maxLen; simp only [ByteArray.size_append] at *; omega
  have z2 : ((b ++ ⟨#[0]⟩) ++ (a ++ ⟨#[0]⟩) ++ c).size ≤ maxLen := by unfold maxLen; simp only [ByteArray.size_append] at *; omega
  have H1 := Lib.hid h1; have H2 := Lib.hid h2; have Z1 := Lib.hid z1; have Z2 := Lib.hid z2
  clear h1 h2 sa sb z1 z2
  go_enter Try.func4, Try.ntmps4
  go_wp2_with fail
  refine (Of_any _ _ Z1.out).mono ?_
  rw [H1.out]
  rintro e w1 ⟨rfl, n1, rfl⟩
  go_wp2_with fail
  refine (Of_any _ _ Z2.out).mono ?_
  rw [H2.out]
  rintro e w1 ⟨rfl, n2, rfl⟩
  go_wp2_with (go_at_call 16; refine (addsK_any _).mono ?_; rintro e w5 ⟨rfl, hb5⟩)
  go_ret
  exact ⟨rfl, (Ext.drewN _ _).trans hb5⟩
set_option maxHeartbeats 400000 in
theorem LSumsSwap10 (a b c : ByteArray) (w : World) (ha : a.size ≤ 140737488351232) (hb : b.size ≤ 140737488351232) (hc : c.size ≤ 140737488351232) (pa : ((a.size : Int) % 2 == 1) = true) (pb : ((b.size : Int) % 2 == 1) = false) :
    Calls Try.prog 4 #[.string a, .string b, .string c] w fun e w' => e = .returned (.bool true) ∧ Ext w w' := by
  have sa := size_zero1 a
  have sb := size_zero1 b
  have h1 := ofN_app3 (a ++ ⟨#[0]⟩) b c (by simp at pa; omega) (by simp at pb; omega)
  have h2 := ofN_app3 b (a ++ ⟨#[0]⟩) c (by simp at pb; omega) (by simp at pa; omega)
  rw [Nat.add_comm (sumL b.data.toList)] at h2
  have z1 : ((a ++ ⟨#[0]⟩) ++ b ++ c).size ≤ maxLen := by unfold maxLen; simp only [ByteArray.size_append] at *; omega
  have z2 : (b ++ (a ++ ⟨#[0]⟩) ++ c).size ≤ maxLen := by unfold maxLen; simp only [ByteArray.size_append] at *; omega
  have H1 := Lib.hid h1; have H2 := Lib.hid h2; have Z1 := Lib.hid z1; have Z2 := Lib.hid z2
  clear h1 h2 sa sb z1 z2
  go_enter Try.func4, Try.ntmps4
  go_wp2_with fail
  refine (Of_any _ _ Z1.out).mono ?_
  rw [H1.out]
  rintro e w1 ⟨rfl, n1, rfl⟩
  go_wp2_with fail
  refine (Of_any _ _ Z2.out).mono ?_
  rw [H2.out]
  rintro e w1 ⟨rfl, n2, rfl⟩
  go_wp2_with (go_at_call 16; refine (addsK_any _).mono ?_; rintro e w5 ⟨rfl, hb5⟩)
  go_ret
  exact ⟨rfl, (Ext.drewN _ _).trans hb5⟩
set_option maxHeartbeats 400000 in
theorem LSumsSwap01 (a b c : ByteArray) (w : World) (ha : a.size ≤ 140737488351232) (hb : b.size ≤ 140737488351232) (hc : c.size ≤ 140737488351232) (pa : ((a.size : Int) % 2 == 1) = false) (pb : ((b.size : Int) % 2 == 1) = true) :
    Calls Try.prog 4 #[.string a, .string b, .string c] w fun e w' => e = .returned (.bool true) ∧ Ext w w' := by
  have sa := size_zero1 a
  have sb := size_zero1 b
  have h1 := ofN_app3 a (b ++ ⟨#[0]⟩) c (by simp at pa; omega) (by simp at pb; omega)
  have h2 := ofN_app3 (b ++ ⟨#[0]⟩) a c (by simp at pb; omega) (by simp at pa; omega)
  rw [Nat.add_comm (sumL (b ++ ⟨#[0]⟩).data.toList)] at h2
  have z1 : (a ++ (b ++ ⟨#[0]⟩) ++ c).size ≤ maxLen := by unfold maxLen; simp only [ByteArray.size_append] at *; omega
  have z2 : ((b ++ ⟨#[0]⟩) ++ a ++ c).size ≤ maxLen := by unfold maxLen; simp only [ByteArray.size_append] at *; omega
  have H1 := Lib.hid h1; have H2 := Lib.hid h2; have Z1 := Lib.hid z1; have Z2 := Lib.hid z2
  clear h1 h2 sa sb z1 z2
  go_enter Try.func4, Try.ntmps4
  go_wp2_with fail
  refine (Of_any _ _ Z1.out).mono ?_
  rw [H1.out]
  rintro e w1 ⟨rfl, n1, rfl⟩
  go_wp2_with fail
  refine (Of_any _ _ Z2.out).mono ?_
  rw [H2.out]
  rintro e w1 ⟨rfl, n2, rfl⟩
  go_wp2_with (go_at_call 16; refine (addsK_any _).mono ?_; rintro e w5 ⟨rfl, hb5⟩)
  go_ret
  exact ⟨rfl, (Ext.drewN _ _).trans hb5⟩
set_option maxHeartbeats 400000 in
theorem LSumsSwap00 (a b c : ByteArray) (w : World) (ha : a.size ≤ 140737488351232) (hb : b.size ≤ 140737488351232) (hc : c.size ≤ 140737488351232) (pa : ((a.size : Int) % 2 == 1) = false) (pb : ((b.size : Int) % 2 == 1) = false) :
    Calls Try.prog 4 #[.string a, .string b, .string c] w fun e w' => e = .returned (.bool true) ∧ Ext w w' := by
  have sa := size_zero1 a
  have sb := size_zero1 b
  have h1 := ofN_app3 a b c (by simp at pa; omega) (by simp at pb; omega)
  have h2 := ofN_app3 b a c (by simp at pb; omega) (by simp at pa; omega)
  rw [Nat.add_comm (sumL b.data.toList)] at h2
  have z1 : (a ++ b ++ c).size ≤ maxLen := by unfold maxLen; simp only [ByteArray.size_append] at *; omega
  have z2 : (b ++ a ++ c).size ≤ maxLen := by unfold maxLen; simp only [ByteArray.size_append] at *; omega
  have H1 := Lib.hid h1; have H2 := Lib.hid h2; have Z1 := Lib.hid z1; have Z2 := Lib.hid z2
  clear h1 h2 sa sb z1 z2
  go_enter Try.func4, Try.ntmps4
  go_wp2_with fail
  refine (Of_any _ _ Z1.out).mono ?_
  rw [H1.out]
  rintro e w1 ⟨rfl, n1, rfl⟩
  go_wp2_with fail
  refine (Of_any _ _ Z2.out).mono ?_
  rw [H2.out]
  rintro e w1 ⟨rfl, n2, rfl⟩
  go_wp2_with (go_at_call 16; refine (addsK_any _).mono ?_; rintro e w5 ⟨rfl, hb5⟩)
  go_ret
  exact ⟨rfl, (Ext.drewN _ _).trans hb5⟩

theorem LSumsSwap (a b c : ByteArray) (w : World) (ha : a.size ≤ 140737488351232) (hb : b.size ≤ 140737488351232) (hc : c.size ≤ 140737488351232) :
    Calls Try.prog 4 #[.string a, .string b, .string c] w fun e w' => e = .returned (.bool true) ∧ Ext w w' := by
  cases pa : ((a.size : Int) % 2 == 1) <;> cases pb : ((b.size : Int) % 2 == 1)
  · exact LSumsSwap00 a b c w ha hb hc pa pb
  · exact LSumsSwap01 a b c w ha hb hc pa pb
  · exact LSumsSwap10 a b c w ha hb hc pa pb
  · exact LSumsSwap11 a b c w ha hb hc pa pb

theorem ofN_add (X b : ByteArray) (hX : X.size % 2 = 0) : ofN (X ++ b).data.toList = addN (ofN X.data.toList) (ofN b.data.toList) := by
  have h1 := ofN_le X.data.toList
  have h2 := ofN_le b.data.toList
  unfold addN
  rw [show ((ofN X.data.toList : Int) % 65536).toNat = ofN X.data.toList by omega, show ((ofN b.data.toList : Int) % 65536).toNat = ofN b.data.toList by omega]
  rw [toList_append]
  unfold ofN
  rw [sumL_append _ _ (by simp; have : X.data.size = X.size := rfl; omega), backN_add, Nat.add_comm, ← backN_add (sumL b.data.toList), Nat.add_comm]
theorem ofN_word (X : ByteArray) (n : Nat) (hn : n ≤ 65535) (hX : X.size % 2 = 0) :
    ofN (X ++ ⟨#[UInt8.ofNat (n / 256), UInt8.ofNat (n % 256)]⟩).data.toList = backN (ofN X.data.toList + n) := by
  rw [toList_append]
  unfold ofN
  rw [sumL_append _ _ (by simp; have : X.data.size = X.size := rfl; omega), backN_add]
  have : sumL [UInt8.ofNat (n / 256), UInt8.ofNat (n % 256)] = n := by
    simp [sumL]; omega
  rw [show ({ data := #[UInt8.ofNat (n / 256), UInt8.ofNat (n % 256)] } : ByteArray).data.toList = [UInt8.ofNat (n / 256), UInt8.ofNat (n % 256)] from rfl, this]
theorem ofN_check (X : ByteArray) (hX : X.size % 2 = 0) :
    ofN (X ++ ⟨#[UInt8.ofNat (checkN X.data.toList / 256), UInt8.ofNat (checkN X.data.toList % 256)]⟩).data.toList = 65535 := by
  rw [ofN_word X _ (checkN_le _) hX]
  have := ofN_le X.data.toList
  unfold checkN
  rw [show ofN X.data.toList + (65535 - ofN X.data.toList) = 65535 by omega]
  rfl

theorem checkN_int (l : List UInt8) : (checkN l : Int) = 65535 - (ofN l : Int) := (checkN_eq l).symm
theorem toNat_cast (n : Nat) : ((n : Nat) : Int).toNat = n := by simp
set_option maxHeartbeats 400000 in
theorem LSumsWhole1 (a b : ByteArray) (w : World) (ha : a.size ≤ 140737488351232) (hb : b.size ≤ 140737488351232) (pa : ((a.size : Int) % 2 == 1) = true) :
    Calls Try.prog 6 #[.string a, .string b] w fun e w' => e = .returned (.bool true) ∧ Ext w w' := by
  have sa := size_zero1 a
  have pX : (a ++ ⟨#[0]⟩).size % 2 = 0 := by simp at pa; omega
  have sX : (a ++ ⟨#[0]⟩).size ≤ 140737488351233 := by omega
  have PX := Lib.hid pX; have SX := Lib.hid sX
  generalize hA : (a ++ ⟨#[0]⟩) = X at *
  clear pX sa
  have HA := Lib.hid hA; clear hA
  have H1 := Lib.hid (ofN_add X b PX.out)
  have H2 := Lib.hid (ofN_check X PX.out)
  have H3 := Lib.hid (checkN_int b.data.toList)
  have l1 := addN_le (ofN X.data.toList) (ofN b.data.toList)
  have l2 := checkN_le X.data.toList
  have l3 := ofN_le b.data.toList
  have zb : (X ++ b).size ≤ maxLen := by have := SX.out; unfold maxLen; simp only [ByteArray.size_append] at *; omega
  have zc : ∀ u v : UInt8, (X ++ ⟨#[u, v]⟩).size ≤ maxLen := by
    intro u v
    have e : (⟨#[u, v]⟩ : ByteArray).size = 2 := rfl
    have := SX.out; unfold maxLen; simp only [ByteArray.size_append] at *; omega
  have ZB := Lib.hid zb; have ZC := Lib.hid zc; clear zb zc
  go_enter Try.func6, Try.ntmps6
  go_wp2_with fail
  rw [HA.out]
  refine (Of_any _ _ (by have := SX.out; unfold maxLen; omega)).mono ?_
  rintro e w1 ⟨rfl, n1, rfl⟩
  go_wp2_with fail
  refine (Of_any _ _ (by unfold maxLen; omega)).mono ?_
  rintro e w1 ⟨rfl, n2, rfl⟩
  go_wp2_with fail
  try rw [HA.out]
  refine (Of_any _ _ ZB.out).mono ?_
  rw [H1.out]
  rintro e w1 ⟨rfl, n3, rfl⟩
  go_wp2_with fail
  refine (Add_any _ _ _).mono ?_
  rintro e w1 ⟨rfl, rfl⟩
  go_wp2_with fail
  try rw [HA.out]
  refine (Check_any _ _ (by have := SX.out; omega)).mono ?_
  rintro e w1 ⟨rfl, n4, rfl⟩
  go_wp2_with fail
  refine (word_any _ _ (by omega) (by omega)).mono ?_
  rw [toNat_cast]
  rintro e w2 ⟨rfl, hb2⟩
  go_wp2_with fail
  try rw [HA.out]
  refine (Of_any _ _ (ZC.out _ _)).mono ?_
  rw [H2.out]
  rintro e w3 ⟨rfl, n5, rfl⟩
  go_wp2_with fail
  refine (Check_any _ _ (by omega)).mono ?_
  rw [H3.out]
  rintro e w3 ⟨rfl, n6, rfl⟩
  go_wp2_with fail
  refine (addsK_any _).mono ?_
  rintro e w5 ⟨rfl, hb5⟩
  go_wp2
  go_ret
  exact ⟨rfl, ((Ext.drewN _ _).trans hb2).trans ((Ext.drewN _ _).trans hb5)⟩
set_option maxHeartbeats 400000 in
theorem LSumsWhole0 (a b : ByteArray) (w : World) (ha : a.size ≤ 140737488351232) (hb : b.size ≤ 140737488351232) (pa : ((a.size : Int) % 2 == 1) = false) :
    Calls Try.prog 6 #[.string a, .string b] w fun e w' => e = .returned (.bool true) ∧ Ext w w' := by
  have sa := size_zero1 a
  have pX : a.size % 2 = 0 := by simp at pa; omega
  have sX : a.size ≤ 140737488351233 := by omega
  have PX := Lib.hid pX; have SX := Lib.hid sX
  generalize hA : a = X at *
  clear pX sa
  have HA := Lib.hid hA; clear hA
  have H1 := Lib.hid (ofN_add X b PX.out)
  have H2 := Lib.hid (ofN_check X PX.out)
  have H3 := Lib.hid (checkN_int b.data.toList)
  have l1 := addN_le (ofN X.data.toList) (ofN b.data.toList)
  have l2 := checkN_le X.data.toList
  have l3 := ofN_le b.data.toList
  have zb : (X ++ b).size ≤ maxLen := by have := SX.out; unfold maxLen; simp only [ByteArray.size_append] at *; omega
  have zc : ∀ u v : UInt8, (X ++ ⟨#[u, v]⟩).size ≤ maxLen := by
    intro u v
    have e : (⟨#[u, v]⟩ : ByteArray).size = 2 := rfl
    have := SX.out; unfold maxLen; simp only [ByteArray.size_append] at *; omega
  have ZB := Lib.hid zb; have ZC := Lib.hid zc; clear zb zc
  go_enter Try.func6, Try.ntmps6
  go_wp2_with fail
  try rw [HA.out]
  refine (Of_any _ _ (by have := SX.out; unfold maxLen; omega)).mono ?_
  rintro e w1 ⟨rfl, n1, rfl⟩
  go_wp2_with fail
  refine (Of_any _ _ (by unfold maxLen; omega)).mono ?_
  rintro e w1 ⟨rfl, n2, rfl⟩
  go_wp2_with fail
  try rw [HA.out]
  refine (Of_any _ _ ZB.out).mono ?_
  rw [H1.out]
  rintro e w1 ⟨rfl, n3, rfl⟩
  go_wp2_with fail
  refine (Add_any _ _ _).mono ?_
  rintro e w1 ⟨rfl, rfl⟩
  go_wp2_with fail
  try rw [HA.out]
  refine (Check_any _ _ (by have := SX.out; omega)).mono ?_
  rintro e w1 ⟨rfl, n4, rfl⟩
  go_wp2_with fail
  refine (word_any _ _ (by omega) (by omega)).mono ?_
  rw [toNat_cast]
  rintro e w2 ⟨rfl, hb2⟩
  go_wp2_with fail
  try rw [HA.out]
  refine (Of_any _ _ (ZC.out _ _)).mono ?_
  rw [H2.out]
  rintro e w3 ⟨rfl, n5, rfl⟩
  go_wp2_with fail
  refine (Check_any _ _ (by omega)).mono ?_
  rw [H3.out]
  rintro e w3 ⟨rfl, n6, rfl⟩
  go_wp2_with fail
  refine (addsK_any _).mono ?_
  rintro e w5 ⟨rfl, hb5⟩
  go_wp2
  go_ret
  exact ⟨rfl, ((Ext.drewN _ _).trans hb2).trans ((Ext.drewN _ _).trans hb5)⟩
theorem LSumsWhole (a b : ByteArray) (w : World) (ha : a.size ≤ 140737488351232) (hb : b.size ≤ 140737488351232) :
    Calls Try.prog 6 #[.string a, .string b] w fun e w' => e = .returned (.bool true) ∧ Ext w w' := by
  cases pa : ((a.size : Int) % 2 == 1)
  · exact LSumsWhole0 a b w ha hb pa
  · exact LSumsWhole1 a b w ha hb pa

theorem emod_of_tmod (k n : Int) (hn : 0 < n) : (if k.tmod n < 0 then k.tmod n + n else k.tmod n) = k % n := by
  rw [Int.tmod_eq_emod]
  have h1 := Int.emod_nonneg k (show n ≠ 0 by omega)
  have h2 := Int.emod_lt_of_pos k hn
  have e : (n.natAbs : Int) = n := by omega
  by_cases h : 0 ≤ k ∨ n ∣ k
  · rw [if_pos h]; simp; omega
  · rw [if_neg h, e]
    have : k % n ≠ 0 := fun h0 => h (.inr (Int.dvd_of_emod_eq_zero h0))
    rw [if_pos (by omega)]; omega

set_option maxHeartbeats 400000 in
theorem pickK_any (k n : Int) (w : World) (hn : 0 < n) (hn2 : n ≤ 4611686018427387904) :
    Calls Try.prog 26 #[.int .i64 k, .int .i64 n] w fun e w' => e = .returned (.int .i64 (k % n)) ∧ w' = w := by
  have hE := Lib.hid (emod_of_tmod k n hn)
  have hb := tmod_bd k n hn
  have h1 : -n < k.tmod n := hb.1
  have h2 : k.tmod n < n := hb.2
  have hne : (n == 0) = false := by simp; omega
  clear hb
  by_cases hlt : k.tmod n < 0
  · go_enter Try.func26, Try.ntmps26
    go_wp2
    go_ret
    exact ⟨ret_int (by rw [← hE.out, if_pos hlt]), rfl⟩
  · go_enter Try.func26, Try.ntmps26
    go_wp2
    go_ret
    exact ⟨ret_int (by rw [← hE.out, if_neg (by omega)]), rfl⟩

theorem upd (T m n : Nat) (hT : 0 < T) (hm : m ≤ 65535) (hn : n ≤ 65535) :
    addN (addN (65535 - (65535 - (backN (T + m) : Int)) % 65536) (65535 - (m : Int) % 65536)) n = backN (T + n) := by
  have h1 := backN_le (T + m)
  unfold addN
  rw [show ((65535 - (65535 - (backN (T + m) : Int)) % 65536) % 65536).toNat = backN (T + m) by omega,
    show ((65535 - (m : Int) % 65536) % 65536).toNat = 65535 - m by omega]
  rw [backN_add]
  have h2 := backN_le (T + m + (65535 - m))
  rw [show ((backN (T + m + (65535 - m)) : Int) % 65536).toNat = backN (T + m + (65535 - m)) by omega, show ((n : Int) % 65536).toNat = n by omega]
  rw [backN_add]
  unfold backN
  rw [if_neg (by omega), if_neg (by omega)]
  omega

theorem sumL_word (n : Nat) (hn : n ≤ 65535) : sumL (wordB n).data.toList = n := by
  show sumL [UInt8.ofNat (n / 256), UInt8.ofNat (n % 256)] = n
  simp [sumL]; omega
theorem check_word (X b : ByteArray) (n : Nat) (hn : n ≤ 65535) (hX : X.size % 2 = 0) :
    (checkN (X ++ wordB n ++ b).data.toList : Int) = 65535 - backN (sumL X.data.toList + sumL b.data.toList + n) := by
  rw [checkN_int, ofN_app3 X (wordB n) b hX (by rw [wordB_size]), sumL_word n hn]
  rw [show sumL X.data.toList + n + sumL b.data.toList = sumL X.data.toList + sumL b.data.toList + n by omega]
theorem sumL_pos (X : ByteArray) (hX : X.size % 2 = 0) : 0 < sumL (X ++ ⟨#[1, 0]⟩).data.toList := by
  rw [toList_append, sumL_append _ _ (by simp; have : X.data.size = X.size := rfl; omega)]
  show 0 < _ + sumL [1, 0]
  simp [sumL]
set_option maxHeartbeats 1000000 in
theorem LSumsChange1 (a : ByteArray) (m0 n0 : Int) (b : ByteArray) (w : World) (ha : a.size ≤ 140737488351232) (hb : b.size ≤ 140737488351232) (pa : ((a.size : Int) % 2 == 1) = true) :
    Calls Try.prog 8 #[.string a, .int .i64 m0, .int .i64 n0, .string b] w fun e w' => e = .returned (.bool true) ∧ Ext w w' := by
  have sa := size_zero1 a
  have pX : (a ++ ⟨#[0]⟩).size % 2 = 0 := by simp at pa; omega
  have hT0 := sumL_pos (a ++ ⟨#[0]⟩) pX
  have sX : ((a ++ ⟨#[0]⟩) ++ ⟨#[1, 0]⟩).size ≤ 140737488351240 := by
    have e : (⟨#[1, 0]⟩ : ByteArray).size = 2 := rfl
    rw [ByteArray.size_append]; omega
  have pX2 : ((a ++ ⟨#[0]⟩) ++ ⟨#[1, 0]⟩).size % 2 = 0 := by
    have e : (⟨#[1, 0]⟩ : ByteArray).size = 2 := rfl
    rw [ByteArray.size_append]; omega
  generalize hA : (a ++ ⟨#[0]⟩) ++ ⟨#[1, 0]⟩ = X at *
  have HA := Lib.hid hA
  obtain ⟨m, hm⟩ : ∃ m : Nat, m0 % 65536 = m := ⟨(m0 % 65536).toNat, by omega⟩
  obtain ⟨n, hn⟩ : ∃ n : Nat, n0 % 65536 = n := ⟨(n0 % 65536).toNat, by omega⟩
  have m1 : m ≤ 65535 := by omega
  have n1 : n ≤ 65535 := by omega
  have HM := Lib.hid hm; have HN := Lib.hid hn
  have C1 := Lib.hid (check_word X b m m1 pX2)
  have C2 := Lib.hid (check_word X b n n1 pX2)
  have U1 := Lib.hid (upd _ m n (Nat.lt_of_lt_of_le hT0 (Nat.le_add_right _ (sumL b.data.toList))) m1 n1)
  have U2 := Lib.hid (upd _ n m (Nat.lt_of_lt_of_le hT0 (Nat.le_add_right _ (sumL b.data.toList))) n1 m1)
  have U3 := Lib.hid (upd _ m m (Nat.lt_of_lt_of_le hT0 (Nat.le_add_right _ (sumL b.data.toList))) m1 m1)
  generalize sumL X.data.toList + sumL b.data.toList = T at *
  have zw : ∀ k, (X ++ wordB k ++ b).size ≤ 281474976710656 := by
    intro k
    have := wordB_size k
    simp only [ByteArray.size_append] at *; omega
  have ZW := Lib.hid zw
  have w1 := wordB_size m
  have w2 := wordB_size n
  have b1 := backN_le (T + m)
  have b2 := backN_le (T + n)
  clear hA hT0 pX2 pX sa hm hn zw
  go_enter Try.func8, Try.ntmps8
  go_wp2_with fail
  refine (pickK_any _ _ _ (by omega) (by omega)).mono ?_
  rw [HM.out]
  rintro e w' ⟨rfl, rfl⟩
  go_wp2_with fail
  refine (pickK_any _ _ _ (by omega) (by omega)).mono ?_
  rw [HN.out]
  rintro e w' ⟨rfl, rfl⟩
  go_wp2_with fail
  refine (word_nat _ _ (by omega)).mono ?_
  rintro e wa ⟨rfl, hb1⟩
  go_wp2_with fail
  try rw [HA.out]
  refine (Check_any _ _ (ZW.out _)).mono ?_
  rw [C1.out]
  rintro e w' ⟨rfl, na, rfl⟩
  go_wp2_with fail
  refine (word_nat _ _ (by omega)).mono ?_
  rintro e wb ⟨rfl, hb2⟩
  go_wp2_with fail
  try rw [HA.out]
  refine (Check_any _ _ (ZW.out _)).mono ?_
  rw [C2.out]
  rintro e w' ⟨rfl, nb, rfl⟩
  go_wp2_with fail
  refine (Update_any _ _ _ _).mono ?_
  rw [U1.out]
  rintro e w' ⟨rfl, rfl⟩
  go_wp2_with fail
  refine (Update_any _ _ _ _).mono ?_
  rw [U2.out]
  rintro e w' ⟨rfl, rfl⟩
  go_wp2_with fail
  refine (Update_any _ _ _ _).mono ?_
  rw [U3.out]
  rintro e w' ⟨rfl, rfl⟩
  go_wp2_with fail
  refine (addsK_any _).mono ?_
  rintro e w5 ⟨rfl, hb5⟩
  go_wp2
  go_ret
  exact ⟨rfl, (hb1.trans ((Ext.drewN _ _).trans hb2)).trans ((Ext.drewN _ _).trans hb5)⟩
set_option maxHeartbeats 1000000 in
theorem LSumsChange0 (a : ByteArray) (m0 n0 : Int) (b : ByteArray) (w : World) (ha : a.size ≤ 140737488351232) (hb : b.size ≤ 140737488351232) (pa : ((a.size : Int) % 2 == 1) = false) :
    Calls Try.prog 8 #[.string a, .int .i64 m0, .int .i64 n0, .string b] w fun e w' => e = .returned (.bool true) ∧ Ext w w' := by
  have sa := size_zero1 a
  have pX : a.size % 2 = 0 := by simp at pa; omega
  have hT0 := sumL_pos a pX
  have sX : (a ++ ⟨#[1, 0]⟩).size ≤ 140737488351240 := by
    have e : (⟨#[1, 0]⟩ : ByteArray).size = 2 := rfl
    rw [ByteArray.size_append]; omega
  have pX2 : (a ++ ⟨#[1, 0]⟩).size % 2 = 0 := by
    have e : (⟨#[1, 0]⟩ : ByteArray).size = 2 := rfl
    rw [ByteArray.size_append]; omega
  generalize hA : a ++ ⟨#[1, 0]⟩ = X at *
  have HA := Lib.hid hA
  obtain ⟨m, hm⟩ : ∃ m : Nat, m0 % 65536 = m := ⟨(m0 % 65536).toNat, by omega⟩
  obtain ⟨n, hn⟩ : ∃ n : Nat, n0 % 65536 = n := ⟨(n0 % 65536).toNat, by omega⟩
  have m1 : m ≤ 65535 := by omega
  have n1 : n ≤ 65535 := by omega
  have HM := Lib.hid hm; have HN := Lib.hid hn
  have C1 := Lib.hid (check_word X b m m1 pX2)
  have C2 := Lib.hid (check_word X b n n1 pX2)
  have U1 := Lib.hid (upd _ m n (Nat.lt_of_lt_of_le hT0 (Nat.le_add_right _ (sumL b.data.toList))) m1 n1)
  have U2 := Lib.hid (upd _ n m (Nat.lt_of_lt_of_le hT0 (Nat.le_add_right _ (sumL b.data.toList))) n1 m1)
  have U3 := Lib.hid (upd _ m m (Nat.lt_of_lt_of_le hT0 (Nat.le_add_right _ (sumL b.data.toList))) m1 m1)
  generalize sumL X.data.toList + sumL b.data.toList = T at *
  have zw : ∀ k, (X ++ wordB k ++ b).size ≤ 281474976710656 := by
    intro k
    have := wordB_size k
    simp only [ByteArray.size_append] at *; omega
  have ZW := Lib.hid zw
  have w1 := wordB_size m
  have w2 := wordB_size n
  have b1 := backN_le (T + m)
  have b2 := backN_le (T + n)
  clear hA hT0 pX2 pX sa hm hn zw
  go_enter Try.func8, Try.ntmps8
  go_wp2_with fail
  refine (pickK_any _ _ _ (by omega) (by omega)).mono ?_
  rw [HM.out]
  rintro e w' ⟨rfl, rfl⟩
  go_wp2_with fail
  refine (pickK_any _ _ _ (by omega) (by omega)).mono ?_
  rw [HN.out]
  rintro e w' ⟨rfl, rfl⟩
  go_wp2_with fail
  refine (word_nat _ _ (by omega)).mono ?_
  rintro e wa ⟨rfl, hb1⟩
  go_wp2_with fail
  try rw [HA.out]
  refine (Check_any _ _ (ZW.out _)).mono ?_
  rw [C1.out]
  rintro e w' ⟨rfl, na, rfl⟩
  go_wp2_with fail
  refine (word_nat _ _ (by omega)).mono ?_
  rintro e wb ⟨rfl, hb2⟩
  go_wp2_with fail
  try rw [HA.out]
  refine (Check_any _ _ (ZW.out _)).mono ?_
  rw [C2.out]
  rintro e w' ⟨rfl, nb, rfl⟩
  go_wp2_with fail
  refine (Update_any _ _ _ _).mono ?_
  rw [U1.out]
  rintro e w' ⟨rfl, rfl⟩
  go_wp2_with fail
  refine (Update_any _ _ _ _).mono ?_
  rw [U2.out]
  rintro e w' ⟨rfl, rfl⟩
  go_wp2_with fail
  refine (Update_any _ _ _ _).mono ?_
  rw [U3.out]
  rintro e w' ⟨rfl, rfl⟩
  go_wp2_with fail
  refine (addsK_any _).mono ?_
  rintro e w5 ⟨rfl, hb5⟩
  go_wp2
  go_ret
  exact ⟨rfl, (hb1.trans ((Ext.drewN _ _).trans hb2)).trans ((Ext.drewN _ _).trans hb5)⟩
theorem LSumsChange (a : ByteArray) (m0 n0 : Int) (b : ByteArray) (w : World) (ha : a.size ≤ 140737488351232) (hb : b.size ≤ 140737488351232) :
    Calls Try.prog 8 #[.string a, .int .i64 m0, .int .i64 n0, .string b] w fun e w' => e = .returned (.bool true) ∧ Ext w w' := by
  cases pa : ((a.size : Int) % 2 == 1)
  · exact LSumsChange0 a m0 n0 b w ha hb pa
  · exact LSumsChange1 a m0 n0 b w ha hb pa
end Go.Proofs.Ytoaoofiaiiedlaa
