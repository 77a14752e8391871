/- Numbers of bytes, the highest first, as a machine reckons them. No conditions but the ones that stand in each. -/
import Derived.Test.YtblimjilinkmbaaBe
namespace Go.Proofs.Ytblimjilinkmbaa
set_option linter.all false
set_option linter.unusedSimpArgs false
open Go.RowKit

theorem or_mulN (a b : Nat) (h : a < 256) : (b * 256) ||| a = b * 256 + a := by
  have : b * 256 = b <<< 8 := by rw [Nat.shiftLeft_eq]
  rw [this, Nat.shiftLeft_add_eq_or_of_lt (show a < 2 ^ 8 from h)]
theorem or_low (v c : Int) (c0 : 0 ≤ c) (c1 : c < 256) : bits .or .i64 (IntKind.i64.wrap (v * 256)) c = IntKind.i64.wrap (256 * v + c) := by
  obtain ⟨n, rfl⟩ := Int.eq_ofNat_of_zero_le c0
  have hn : n < 256 := by omega
  show IntKind.i64.wrap (((BitVec.ofInt 64 (IntKind.i64.wrap (v * 256))) ||| (BitVec.ofInt 64 (n : Int))).toNat : Int) = _
  rw [BitVec.toNat_or, BitVec.toNat_ofInt, BitVec.toNat_ofInt]
  have e1 : ((n : Int) % ((2 ^ 64 : Nat) : Int)).toNat = n := by omega
  have e2 : (IntKind.i64.wrap (v * 256) % ((2 ^ 64 : Nat) : Int)).toNat = (v % 72057594037927936).toNat * 256 := by
    rw [IntKind.wrap_i64]; omega
  rw [e1, e2, or_mulN _ _ hn, IntKind.wrap_i64, IntKind.wrap_i64]
  omega
/-- The number of bytes, reckoned on from v. -/
def nbW : Int → List UInt8 → Int
  | v, [] => v
  | v, c :: l => nbW (IntKind.i64.wrap (256 * v + c.toNat)) l
def nbI (l : List UInt8) : Int := nbW 0 l
theorem nbW_snoc (l : List UInt8) (c : UInt8) : ∀ v, nbW v (l ++ [c]) = IntKind.i64.wrap (256 * nbW v l + c.toNat) := by
  induction l with
  | nil => intro v; rfl
  | cons a l ih => intro v; simp only [List.cons_append, nbW]; exact ih _
theorem nbI_succ (l : List UInt8) (k : Nat) (h : k < l.length) : nbI (l.take (k + 1)) = IntKind.i64.wrap (256 * nbI (l.take k) + (l.getD k 0).toNat) := by
  have e : l.take (k + 1) = l.take k ++ [l.getD k 0] := by
    rw [List.take_add_one, List.getElem?_eq_getElem h]; simp [List.getD, h]
  rw [e]; exact nbW_snoc _ _ _
/-- The same without a bound. -/
def nbN : Nat → List UInt8 → Nat
  | v, [] => v
  | v, c :: l => nbN (256 * v + c.toNat) l
theorem nbN_lt (l : List UInt8) : ∀ v, nbN v l < (v + 1) * 256 ^ l.length := by
  induction l with
  | nil => intro v; simp [nbN]
  | cons c l ih =>
    intro v
    refine Nat.lt_of_lt_of_le (ih _) ?_
    rw [List.length_cons, Nat.pow_succ, Nat.mul_comm (256 ^ l.length) 256, ← Nat.mul_assoc]
    refine Nat.mul_le_mul_right _ ?_
    have := UInt8.toNat_lt c
    omega
theorem nbN_append (l m : List UInt8) : ∀ v, nbN v (l ++ m) = nbN (nbN v l) m := by
  induction l with
  | nil => intro v; rfl
  | cons c l ih => intro v; exact ih _
theorem nbN_add (l : List UInt8) : ∀ v, nbN v l = v * 256 ^ l.length + nbN 0 l := by
  induction l with
  | nil => intro v; simp [nbN]
  | cons c l ih =>
    intro v
    simp only [nbN]
    rw [ih, ih (256 * 0 + c.toNat), List.length_cons, Nat.pow_succ, Nat.add_mul, Nat.mul_zero, Nat.zero_add, Nat.mul_comm 256 v, Nat.mul_assoc, Nat.mul_comm 256]
    omega
theorem nbW_nat (l : List UInt8) : ∀ (v : Nat), (v + 1) * 256 ^ l.length ≤ 9223372036854775808 → nbW v l = nbN v l := by
  induction l with
  | nil => intro v _; rfl
  | cons c l ih =>
    intro v h
    have h2 : (256 * v + c.toNat + 1) * 256 ^ l.length ≤ (v + 1) * 256 ^ (c :: l).length := by
      rw [List.length_cons, Nat.pow_succ, Nat.mul_comm (256 ^ l.length) 256, ← Nat.mul_assoc]
      refine Nat.mul_le_mul_right _ ?_
      have := UInt8.toNat_lt c
      omega
    have h3 := Nat.pos_of_ne_zero (n := 256 ^ l.length) (by have : 0 < 256 ^ l.length := Nat.pow_pos (by decide); omega)
    have h4 : 256 * v + c.toNat < 9223372036854775808 := by
      have : 256 * v + c.toNat + 1 ≤ (256 * v + c.toNat + 1) * 256 ^ l.length := Nat.le_mul_of_pos_right _ h3
      omega
    show nbW (IntKind.i64.wrap (256 * v + c.toNat)) l = nbN (256 * v + c.toNat) l
    have e : IntKind.i64.wrap (256 * (v : Int) + (c.toNat : Int)) = ((256 * v + c.toNat : Nat) : Int) := by rw [IntKind.wrap_i64]; omega
    rw [e]
    exact ih _ (Nat.le_trans h2 h)
theorem nbI_nat (l : List UInt8) (h : l.length ≤ 7) : nbI l = nbN 0 l := by
  refine nbW_nat l 0 ?_
  have : 256 ^ l.length ≤ 256 ^ 7 := Nat.pow_le_pow_right (by decide) h
  omega
/-- Bytes of a number, and the number of bytes. -/
theorem byteI_eq' (v : Int) (k : Nat) (hk : k ≤ 8) : byteI v k = UInt8.ofNat ((v / 256 ^ k) % 256).toNat := by
  unfold byteI
  rw [IntKind.wrap_u8]
  have e : min (8 * (k : Int)).toNat 64 = 8 * k := by omega
  rw [e, Int.fdiv_eq_ediv_of_nonneg _ (Int.pow_nonneg (by decide))]
  have e2 : (2 : Int) ^ (8 * k) = 256 ^ k := by rw [Int.pow_mul]; rfl
  rw [e2]
theorem byte_nat (v k : Nat) (hk : k ≤ 8) : (byteI v k).toNat = v / 256 ^ k % 256 := by
  rw [byteI_eq' _ _ hk]
  have e : ((v : Int) / 256 ^ k % 256).toNat = v / 256 ^ k % 256 := by
    have : ((v : Int) / 256 ^ k % 256) = ((v / 256 ^ k % 256 : Nat) : Int) := by simp
    rw [this]; exact Int.toNat_natCast _
  rw [e]
  simp only [UInt8.toNat_ofNat', Nat.reducePow]
  omega
theorem nbN_be (v : Nat) : ∀ n, n ≤ 8 → nbN 0 (be v n) = v % 256 ^ n
  | 0, _ => by simp [be, nbN, Nat.mod_one]
  | n + 1, h => by
    simp only [be, nbN]
    rw [nbN_add, be_len, nbN_be v n (by omega), byte_nat v n (by omega), Nat.mul_zero, Nat.zero_add]
    have := Nat.mod_mul (x := v) (a := 256 ^ n) (b := 256)
    rw [← Nat.pow_succ] at this
    rw [this, Nat.mul_comm (256 ^ n)]
    omega
theorem be_nbN : ∀ l : List UInt8, l.length ≤ 8 → be (nbN 0 l) l.length = l
  | [], _ => rfl
  | c :: l, h => by
    have hl : l.length ≤ 8 := by simp at h; omega
    have ih := be_nbN l hl
    have e0 : nbN 0 (c :: l) = c.toNat * 256 ^ l.length + nbN 0 l := by
      simp only [nbN]; rw [nbN_add]; simp
    have hlt : nbN 0 l < 256 ^ l.length := by have := nbN_lt l 0; omega
    have hp : 0 < 256 ^ l.length := Nat.pow_pos (by decide)
    simp only [List.length_cons, be]
    congr 1
    · apply UInt8.toNat_inj.1
      rw [byte_nat _ _ hl, e0, Nat.add_comm, Nat.add_mul_div_right _ _ hp, Nat.div_eq_of_lt hlt, Nat.zero_add]
      exact Nat.mod_eq_of_lt (UInt8.toNat_lt c)
    · have key : ∀ n, n ≤ l.length → be ((nbN 0 (c :: l) : Nat) : Int) n = be ((nbN 0 l : Nat) : Int) n := by
        intro n
        induction n with
        | zero => intro _; rfl
        | succ n ihn =>
          intro hn
          simp only [be]
          rw [ihn (by omega)]
          congr 1
          apply UInt8.toNat_inj.1
          rw [byte_nat _ _ (by omega), byte_nat _ _ (by omega), e0]
          obtain ⟨d, hd⟩ : ∃ d, l.length = n + 1 + d := ⟨l.length - (n + 1), by omega⟩
          have : c.toNat * 256 ^ l.length = (c.toNat * 256 ^ d * 256) * 256 ^ n := by
            rw [hd, Nat.pow_add, Nat.pow_succ]
            simp only [Nat.mul_comm, Nat.mul_left_comm, Nat.mul_assoc]
          rw [this, Nat.add_comm, Nat.add_mul_div_right _ _ (Nat.pow_pos (by decide))]
          omega
      rw [key _ (Nat.le_refl _)]
      exact ih
theorem wrap_step (v c : Int) : IntKind.i64.wrap (256 * IntKind.i64.wrap v + c) = IntKind.i64.wrap (256 * v + c) := by
  rw [IntKind.wrap_i64, IntKind.wrap_i64, IntKind.wrap_i64]; omega
theorem nbW_wrap (l : List UInt8) : ∀ v : Nat, nbW (IntKind.i64.wrap v) l = IntKind.i64.wrap (nbN v l) := by
  induction l with
  | nil => intro v; rfl
  | cons c l ih =>
    intro v
    show nbW (IntKind.i64.wrap (256 * IntKind.i64.wrap v + c.toNat)) l = _
    rw [wrap_step]
    have e : (256 * (v : Int) + (c.toNat : Int)) = ((256 * v + c.toNat : Nat) : Int) := by omega
    rw [e]; exact ih _
theorem nbI_wrap (l : List UInt8) : nbI l = IntKind.i64.wrap (nbN 0 l) := by
  have h0 : IntKind.i64.wrap ((0 : Nat) : Int) = 0 := by rw [IntKind.wrap_i64]; decide
  rw [← nbW_wrap, h0]; rfl
theorem nbI_be (v : Int) (n : Nat) (h : n ≤ 8) (h0 : 0 ≤ v) (h1 : v < 256 ^ n) (h2 : v < 9223372036854775808) : nbI (be v n) = v := by
  obtain ⟨m, rfl⟩ := Int.eq_ofNat_of_zero_le h0
  have h1' : m < 256 ^ n := by
    have e : ((256 : Int) ^ n) = ((256 ^ n : Nat) : Int) := by rw [Int.natCast_pow]; rfl
    rw [e] at h1; omega
  rw [nbI_wrap, nbN_be m n h, Nat.mod_eq_of_lt h1', IntKind.wrap_i64]
  omega
theorem be_nbI (l : List UInt8) (h : l.length ≤ 8) (h0 : 0 ≤ nbI l) : be (nbI l) l.length = l := by
  have e : nbI l = nbN 0 l := by
    have hlt := nbN_lt l 0
    have : 256 ^ l.length ≤ 256 ^ 8 := Nat.pow_le_pow_right (by decide) h
    rw [nbI_wrap, IntKind.wrap_i64] at h0 ⊢
    omega
  rw [e]; exact be_nbN l h
theorem nbI_bd (l : List UInt8) (n : Nat) (h : l.length = n) (h7 : n ≤ 7) : 0 ≤ nbI l ∧ nbI l < ((256 ^ n : Nat) : Int) := by
  subst h
  rw [nbI_nat l h7]
  have := nbN_lt l 0
  omega
theorem nbI_b4 (l : List UInt8) (h : l.length = 4) : 0 ≤ nbI l ∧ nbI l < 4294967296 := nbI_bd l 4 h (by decide)
theorem nbI_b2 (l : List UInt8) (h : l.length = 2) : 0 ≤ nbI l ∧ nbI l < 65536 := nbI_bd l 2 h (by decide)
theorem nbI_b1 (l : List UInt8) (h : l.length = 1) : 0 ≤ nbI l ∧ nbI l < 256 := nbI_bd l 1 h (by decide)
theorem cut_l (l : List UInt8) (a b : Nat) (h : a + b ≤ l.length) : ((l.drop a).take b).length = b := by rw [List.length_take, List.length_drop]; omega
end Go.Proofs.Ytblimjilinkmbaa
