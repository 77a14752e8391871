/- Contracts of package sums and of the reference's sums. No conditions but the ones that stand in each. -/
import Derived.Test.YtblimjilinkmbaaRows
import Derived.Test.YtblimjilinkmbaaB0
namespace Go.Proofs.Ytblimjilinkmbaa
open Go.RowKit

set_option maxHeartbeats 400000 in
theorem fold_any (n : Int) (w : World) (h : 0 ≤ n ∧ n ≤ 4294967295) :
    Calls Try.prog 41 #[.int .u32 n] w fun e w' => e = .returned (.int .u32 (backN n.toNat)) ∧ w' = w := by
  go_enter Try.func41, Try.ntmps41
  go_wp2
  go_loop [0] (fun v => ∃ k : Nat, k ≤ 4294967295 ∧ v = .int .u32 k ∧ backN k = backN n.toNat) (fun v => (intOf v).toNat)
  case atStart => exact ⟨n.toNat, by omega, by rw [Int.toNat_of_nonneg h.1], rfl⟩
  case round =>
    obtain ⟨k, hk, rfl, hb⟩ := hrel
    have HB := Lib.hid hb; clear hb
    by_cases hlt : 65535 < k
    · go_wp2
      go_round
      case rel => exact ⟨k % 65536 + k / 65536, by omega, by go_num, by rw [backN_step k hlt, HB.out]⟩
      case measure => simp [intOf]; omega
    · go_wp2
      go_ret
      exact ⟨by rw [← HB.out, backN_small k (by omega)]; rfl, rfl⟩

def addN (a b : Int) : Nat := backN ((a % 65536).toNat + (b % 65536).toNat)
theorem addN_le (a b : Int) : addN a b ≤ 65535 := backN_le _

set_option maxHeartbeats 400000 in
theorem Add_any (a b : Int) (w : World) :
    Calls Try.prog 46 #[.int .i64 a, .int .i64 b] w fun e w' => e = .returned (.int .i64 (addN a b)) ∧ w' = w := by
  have hl := backN_le (a % 65536 + b % 65536).toNat
  go_enter Try.func46, Try.ntmps46
  go_wp2_with (go_at_call 41; refine (fold_any _ _ (by omega)).mono ?_; rintro e w' ⟨rfl, rfl⟩)
  go_ret
  exact ⟨by unfold addN; rw [Int.toNat_add (by omega) (by omega)]; rfl, rfl⟩

/-- The sum of a text, as one number. -/
def sumL : List UInt8 → Nat
  | [] => 0
  | [a] => a.toNat * 256
  | a :: b :: l => a.toNat * 256 + b.toNat + sumL l

theorem backN_add (a b : Nat) : backN (backN a + b) = backN (a + b) := by
  unfold backN
  by_cases h : a = 0
  · simp [h]
  · rw [if_neg h, if_neg (by omega), if_neg (by omega)]; omega
theorem sumL_le : ∀ l : List UInt8, sumL l ≤ 65535 * l.length
  | [] => by simp [sumL]
  | [a] => by have := a.toNat_lt; simp [sumL]; omega
  | a :: b :: l => by have := a.toNat_lt; have := b.toNat_lt; have := sumL_le l; simp [sumL]; omega
theorem sumL_append : ∀ (l m : List UInt8), l.length % 2 = 0 → sumL (l ++ m) = sumL l + sumL m
  | [], m, _ => by simp [sumL]
  | [a], m, h => by simp at h
  | a :: b :: l, m, h => by
    have := sumL_append l m (by simp only [List.length_cons] at h; omega)
    simp only [List.cons_append, sumL, this]; omega
def ofN (l : List UInt8) : Nat := backN (sumL l)
theorem ofN_le (l : List UInt8) : ofN l ≤ 65535 := backN_le _
theorem take_two (s : ByteArray) (k : Nat) (h : k + 1 < s.size) : s.data.toList.take (k + 2) = s.data.toList.take k ++ [s[k], s[k + 1]] := by
  rw [List.take_succ_eq_append_getElem (by simpa using h), List.take_succ_eq_append_getElem (by simp; omega)]; simp; exact ⟨rfl, rfl⟩
theorem ofN_two (s : ByteArray) (k : Nat) (hk : k % 2 = 0) (h : k + 1 < s.size) :
    ofN (s.data.toList.take (k + 2)) = backN (ofN (s.data.toList.take k) + s[k].toNat * 256 + s[k + 1].toNat) := by
  rw [take_two s k h]
  have hl : (s.data.toList.take k).length % 2 = 0 := by rw [List.length_take]; have : min k s.data.toList.length = k := by simp; omega
                                                        omega
  unfold ofN
  rw [sumL_append _ _ hl, Nat.add_assoc, backN_add]
  simp [sumL]
theorem ofN_one (s : ByteArray) (k : Nat) (hk : k % 2 = 0) (h : k + 1 = s.size) :
    ofN s.data.toList = backN (ofN (s.data.toList.take k) + (s[k]'(by omega)).toNat * 256) := by
  have e : s.data.toList = s.data.toList.take k ++ [s[k]'(by omega)] := by
    conv => lhs; rw [← List.take_length (l := s.data.toList)]
    rw [show s.data.toList.length = k + 1 by simp; exact h.symm, List.take_succ_eq_append_getElem (by simp; omega)]; simp; rfl
  have hl : (s.data.toList.take k).length % 2 = 0 := by rw [List.length_take]; have : min k s.data.toList.length = k := by simp; omega
                                                        omega
  conv => lhs; rw [e]
  unfold ofN
  rw [sumL_append _ _ hl, backN_add]
  simp [sumL]

set_option maxHeartbeats 1000000 in
theorem Of_any (s : ByteArray) (w : World) (hs : s.size ≤ maxLen) :
    Calls Try.prog 22 #[.string s] w fun e w' => e = .returned (.int .i64 (ofN s.data.toList)) ∧ ∃ n, w' = w.drewN n := by
  unfold maxLen at hs
  go_enter Try.func22, Try.ntmps22
  go_wp2
  go_loopw [3, 4] (fun v i wr => ∃ k : Nat, k ≤ s.size ∧ k % 2 = 0 ∧ i = .int .i64 k ∧ v = .int .u32 (ofN (s.data.toList.take k)) ∧ ∃ n, wr = w.drewN n) (fun _ i _ => s.size - (intOf i).toNat)
  case atStart => exact ⟨0, Nat.zero_le _, rfl, rfl, rfl, 0, rfl⟩
  case round =>
    obtain ⟨k, hk, hk2, rfl, rfl, n, hn⟩ := hrel
    have HW := Lib.hid hn; clear hn
    have hl := ofN_le (s.data.toList.take k)
    have HK := Lib.hid hk2; clear hk2
    by_cases hlt : k + 1 < s.size
    · have h2 := ofN_two s k HK.out hlt
      have HS := Lib.hid h2; clear h2
      have b1 := s[k].toNat_lt
      have b2 := s[k+1].toNat_lt
      have i1 : (k : Int) < s.size := by omega
      have i2 : (k : Int) + 1 < s.size := by omega
      have i3 : k < s.size := by omega
      have i4 : (0 : Int) ≤ k := by omega
      have i5 : (0 : Int) ≤ k + 1 := by omega
      go_wp2
      go_quiet ((go_at_call 41; exact Calls.quiet_of_same (fold_any _ _ (by omega))))
      go_wp2
      go_roundw
      case rel => exact ⟨k + 2, by omega, by have := HK.out; omega, by go_num, by rw [HS.out]; exact congrArg _ (congrArg _ (congrArg _ (by omega))), n + nq, by rw [HW.out, World.drewN_drewN]⟩
      case measure => simp [intOf]; omega
    · by_cases hodd : s.size % 2 = 1
      · have h1 := ofN_one s k HK.out (by have := HK.out; omega)
        have HS := Lib.hid h1; clear h1
        obtain rfl : k = s.size - 1 := by have := HK.out; omega
        have b1 := (s[s.size - 1]'(by omega)).toNat_lt
        have hb : ((s.size : Int) % 2 == 1) = true := by simp; omega
        have i1 : (s.size : Int) - 1 < s.size := by omega
        have i2 : (0 : Int) ≤ (s.size : Int) - 1 := by omega
        have hl2 := backN_le (ofN (s.data.toList.take (s.size - 1)) + (s[s.size - 1]'(by omega)).toNat * 256)
        go_wp2_with (go_at_call 41; refine (fold_any _ _ (by omega)).mono ?_; rintro e w' ⟨rfl, rfl⟩)
        go_ret
        exact ⟨ret_int (by rw [HS.out]), n, HW.out⟩
      · have e1 : k = s.size := by have := HK.out; omega
        have hb : ((s.size : Int) % 2 == 1) = false := by simp; omega
        rw [e1] at hl
        go_wp2
        go_ret
        exact ⟨by rw [e1, List.take_of_length_le (by simp)]; rfl, n, HW.out⟩

def sumI : List UInt8 → Nat → Nat
  | [], _ => 0
  | a :: l, i => (if i % 2 = 0 then a.toNat * 256 else a.toNat) + sumI l (i + 1)
theorem sumI_two : ∀ (l : List UInt8) (i : Nat), sumI l (i + 2) = sumI l i
  | [], _ => rfl
  | a :: l, i => by simp only [sumI]; rw [show i + 2 + 1 = i + 1 + 2 by omega, sumI_two l (i + 1), show (i + 2) % 2 = i % 2 by omega]
theorem sumI_sumL : ∀ l : List UInt8, sumI l 0 = sumL l
  | [] => rfl
  | [a] => by simp [sumI, sumL]
  | a :: b :: l => by simp [sumI, sumL, sumI_two l 0, sumI_sumL l]; omega
theorem sumI_snoc : ∀ (l : List UInt8) (a : UInt8) (i : Nat), sumI (l ++ [a]) i = sumI l i + (if (i + l.length) % 2 = 0 then a.toNat * 256 else a.toNat)
  | [], a, i => by simp [sumI]
  | b :: l, a, i => by simp only [List.cons_append, sumI, sumI_snoc l a (i + 1), List.length_cons]; rw [show i + 1 + l.length = i + (l.length + 1) by omega]; omega
theorem sumI_le : ∀ (l : List UInt8) (i : Nat), sumI l i ≤ 65280 * l.length
  | [], _ => by simp [sumI]
  | a :: l, i => by have := a.toNat_lt; have := sumI_le l (i + 1); simp only [sumI, List.length_cons]; split <;> omega

theorem take_one (s : ByteArray) (k : Nat) (h : k < s.size) : s.data.toList.take (k + 1) = s.data.toList.take k ++ [s[k]] := by
  rw [List.take_succ_eq_append_getElem (by simpa using h)]; rfl

set_option maxHeartbeats 400000 in
theorem back_any (n : Nat) (w : World) (h : n ≤ 9223372036854775807) :
    Calls Try.prog 44 #[.int .i64 n] w fun e w' => e = .returned (.int .i64 (backN n)) ∧ w' = w := by
  unfold backN
  by_cases h0 : n = 0
  · subst h0
    go_enter Try.func44, Try.ntmps44
    go_wp2
    go_ret
    exact ⟨rfl, rfl⟩
  · have hb : ((n : Int) == 0) = false := by simp; omega
    have h1 : 1 ≤ n := by omega
    go_enter Try.func44, Try.ntmps44
    go_wp2
    go_ret
    exact ⟨ret_int (by omega), rfl⟩

set_option maxHeartbeats 1000000 in
theorem SumOf_any (s : ByteArray) (w : World) (hs : s.size ≤ 140737488351232) :
    Calls Try.prog 40 #[.string s] w fun e w' => e = .returned (.int .i64 (ofN s.data.toList)) ∧ Ext w w' := by
  go_enter Try.func40, Try.ntmps40
  go_wp2_with (refine wpList_bytes s rfl _ _ _ _ rfl rfl Try.underlying9 Try.underlying34 Try.underlying5 ?_; intro cap w1 hcap hz hb hc)
  go_loop [3, 10] (fun v i => ∃ k : Nat, k ≤ s.size ∧ i = .int .i64 k ∧ v = .int .i64 (sumI (s.data.toList.take k) 0)) (fun _ i => s.size - (intOf i).toNat)
  case atStart => exact ⟨0, Nat.zero_le _, rfl, rfl⟩
  case round =>
    obtain ⟨k, hk, rfl, rfl⟩ := hrel
    have hl := sumI_le (s.data.toList.take k) 0
    have hl2 : (s.data.toList.take k).length = k := by simp; omega
    have hl3 : sumI (s.data.toList.take k) 0 ≤ 65280 * k := by rw [hl2] at hl; exact hl
    clear hl
    by_cases hlt : k < s.size
    · have hsn := sumI_snoc (s.data.toList.take k) s[k] 0
      rw [← take_one s k hlt, hl2, Nat.zero_add] at hsn
      have HS := Lib.hid hsn
      have b1 := s[k].toNat_lt
      have hck := hc k hlt
      have i1 : (k : Int) < s.size := by omega
      clear hsn hl2
      by_cases h2 : k % 2 = 0
      · have hb2 : ((k : Int) % 2 == 0) = true := by simp; omega
        go_wp2
        go_round
        case rel => exact ⟨k + 1, by omega, by go_num, by rw [HS.out, if_pos h2]; go_num⟩
        case measure => simp [intOf]; omega
      · have hb2 : ((k : Int) % 2 == 0) = false := by simp; omega
        go_wp2
        go_round
        case rel => exact ⟨k + 1, by omega, by go_num, by rw [HS.out, if_neg h2]; go_num⟩
        case measure => simp [intOf]; omega
    · clear hl2
      have e1 : sumI (s.data.toList.take k) 0 = sumL s.data.toList := by rw [List.take_of_length_le (by simp; omega), sumI_sumL]
      have E := Lib.hid e1; clear e1
      have hbl := hb
      go_wp2_with (go_at_call 44; refine (back_any _ _ (by omega)).mono ?_; rintro e w' ⟨rfl, rfl⟩)
      go_ret
      exact ⟨ret_int (by rw [E.out]; rfl), hbl⟩


theorem Of_below (s : ByteArray) (w : World) (hs : s.size ≤ 140737488351232) :
    Calls Try.prog 22 #[.string s] w fun e w' => e = .returned (.int .i64 (ofN s.data.toList)) ∧ Ext w w' :=
  (Of_any s w (by unfold maxLen; omega)).mono fun _ _ ⟨he, n, hn⟩ => ⟨he, by rw [hn]; exact Ext.drewN w n⟩

def checkN (l : List UInt8) : Nat := 65535 - ofN l
theorem checkN_eq (l : List UInt8) : (65535 : Int) - (ofN l : Int) = (checkN l : Int) := by have := ofN_le l; unfold checkN; omega
theorem checkN_le (l : List UInt8) : checkN l ≤ 65535 := by unfold checkN; omega

set_option maxHeartbeats 400000 in
theorem Check_any (s : ByteArray) (w : World) (hs : s.size ≤ 281474976710656) :
    Calls Try.prog 26 #[.string s] w fun e w' => e = .returned (.int .i64 (checkN s.data.toList)) ∧ ∃ n, w' = w.drewN n := by
  have hl := ofN_le s.data.toList
  have hE := Lib.hid (checkN_eq s.data.toList)
  go_enter Try.func26, Try.ntmps26
  go_wp2_with (go_at_call 22; refine (Of_any _ _ (by unfold maxLen; omega)).mono ?_; rintro e w' ⟨rfl, n, rfl⟩)
  go_ret
  exact ⟨ret_int hE.out, _, rfl⟩

set_option maxHeartbeats 400000 in
theorem CheckOf_any (s : ByteArray) (w : World) (hs : s.size ≤ 140737488351232) :
    Calls Try.prog 29 #[.string s] w fun e w' => e = .returned (.int .i64 (checkN s.data.toList)) ∧ Ext w w' := by
  have hl := ofN_le s.data.toList
  have hE := Lib.hid (checkN_eq s.data.toList)
  go_enter Try.func29, Try.ntmps29
  go_wp2_with (go_at_call 40; refine (SumOf_any _ _ hs).mono ?_; rintro e w' ⟨rfl, hb⟩)
  go_ret
  exact ⟨ret_int hE.out, hb⟩

set_option maxHeartbeats 400000 in
theorem Update_any (c m n : Int) (w : World) :
    Calls Try.prog 45 #[.int .i64 c, .int .i64 m, .int .i64 n] w fun e w' => e = .returned (.int .i64 (65535 - addN (addN (65535 - c % 65536) (65535 - m % 65536)) n)) ∧ w' = w := by
  have hl := addN_le (addN (65535 - c % 65536) (65535 - m % 65536)) n
  go_enter Try.func45, Try.ntmps45
  go_wp2_with (go_at_call 46; refine (Add_any _ _ _).mono ?_; rintro e w' ⟨rfl, rfl⟩)
  go_ret
  exact ⟨rfl, rfl⟩

end Go.Proofs.Ytblimjilinkmbaa
