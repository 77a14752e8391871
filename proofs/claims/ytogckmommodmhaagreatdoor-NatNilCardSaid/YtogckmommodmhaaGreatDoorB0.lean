/- Small general lemmas on numbers, lists of bytes and worlds. No conditions but the ones that stand in each. -/
import Derived.WalkKit
import Derived.WalkSpells
import Derived.WalkLawsBesides
import Derived.BigQuiet
import Derived.Lib.Hide
namespace Go.Proofs.YtogckmommodmhaaGreatDoor
open Go.RowKit

theorem wrap_i64_nat (n : Nat) (h : n < 9223372036854775808) : IntKind.i64.wrap (n : Int) = n := by rw [IntKind.wrap_i64]; omega
theorem and16_i64 (x : Int) : bits .and .i64 x 65535 = x % 65536 := by
  have h0 : bits .and .i64 x 65535 = IntKind.i64.wrap ((BitVec.ofInt 64 x &&& BitVec.ofInt 64 65535).toNat : Int) := rfl
  have h : ((BitVec.ofInt 64 x) &&& (BitVec.ofInt 64 65535)).toNat = (x % 65536).toNat := by
    rw [BitVec.toNat_and, BitVec.toNat_ofInt, BitVec.toNat_ofInt]
    have e : ((65535 : Int) % (2 ^ 64 : Nat)).toNat = 65535 := by decide
    rw [e, nat_mask16]
    omega
  rw [h0, h]
  rw [wrap_i64_nat _ (by omega)]
  omega
theorem and16_u32 (x : Int) : bits .and .u32 x 65535 = x % 65536 := by
  have h0 : bits .and .u32 x 65535 = IntKind.u32.wrap ((BitVec.ofInt 32 x &&& BitVec.ofInt 32 65535).toNat : Int) := rfl
  have h : ((BitVec.ofInt 32 x) &&& (BitVec.ofInt 32 65535)).toNat = (x % 65536).toNat := by
    rw [BitVec.toNat_and, BitVec.toNat_ofInt, BitVec.toNat_ofInt]
    have e : ((65535 : Int) % (2 ^ 32 : Nat)).toNat = 65535 := by decide
    rw [e, nat_mask16]
    omega
  rw [h0, h]
  rw [IntKind.wrap_u32]
  omega
attribute [go_sem] and16_i64 and16_u32

/-- w' is w with new blocks (and draws): nothing that was there has turned. -/
def Ext (w w' : World) : Prop := Below w.heap.size w w'
theorem Ext.refl (w : World) : Ext w w := Below.refl _ _
theorem Ext.trans {a b c : World} (h : Ext a b) (k : Ext b c) : Ext a c := Below.trans h (Below.mono k h.size)
theorem Ext.drewN (w : World) (n : Nat) : Ext w (w.drewN n) := ⟨rfl, rfl, rfl, Nat.le_refl _, fun _ _ => rfl⟩
theorem Ext.drew (w : World) : Ext w w.drew := ⟨rfl, rfl, rfl, Nat.le_refl _, fun _ _ => rfl⟩
theorem Ext.alloc (w : World) (o : Obj) : Ext w (w.alloc o) := (Below.refl _ _).alloc (Nat.le_refl _) _
theorem Ext.drewN' {a w : World} (h : Ext a w) (n : Nat) : Ext a (w.drewN n) := h.trans (Ext.drewN w n)
theorem Ext.drew' {a w : World} (h : Ext a w) : Ext a w.drew := h.trans (Ext.drew w)
theorem Ext.alloc' {a w : World} (h : Ext a w) (o : Obj) : Ext a (w.alloc o) := h.trans (Ext.alloc w o)
theorem Ext.setCell' {a w : World} (h : Ext a w) {p : Addr} (hp : a.heap.size ≤ p.block) (u : Value) : Ext a (w.setCell p u) := Below.setCell h hp u
theorem Ext.grown' {a w w' : World} {row : Option Nat} (h : Ext a w) (hg : w.grownBy w' row) (hr : ∀ k, row = some k → a.heap.size ≤ k) : Ext a w' := Below.grown h hg h.size hr
theorem Ext.size {a w : World} (h : Ext a w) : a.heap.size ≤ w.heap.size := Below.size h
theorem Ext.cell {a w : World} (h : Ext a w) {b o : Nat} {s : Option Nat} (hb : b < a.heap.size) : w.cell? ⟨b, o, s⟩ = a.cell? ⟨b, o, s⟩ := Below.cell h (p := ⟨b, o, s⟩) hb
theorem Ext.frozen {a w : World} (h : Ext a w) {b o : Nat} {s : Option Nat} (hb : b < a.heap.size) : w.frozen? ⟨b, o, s⟩ = a.frozen? ⟨b, o, s⟩ := Below.frozen h (p := ⟨b, o, s⟩) hb

theorem ret_bool {a b : Bool} (h : a = b) : Ending.returned (.bool a) = .returned (.bool b) := by rw [h]
theorem ret_int {k : IntKind} {a b : Int} (h : a = b) : Ending.returned (.int k a) = .returned (.int k b) := by rw [h]

/-- An operation that yields a value, at the head of a list of operations. -/
theorem wpList_value {P : Program} {w w1 : World} {ops : Array Oper} {rest : List Oper} {o : Oper} {a : Act} {Q : Exit → Act → World → Prop} (v : Value)
    (hg : o.guard = none) (hrun : (execOp a.eval o).run P w = .ok (.value v) w1) (h : wpList P ops Q rest (a.put o.dst v) w1) : wpList P ops Q (o :: rest) a w := by
  refine wpList_plain hg fun K hK => ?_
  unfold Oper.wp
  rw [hrun]
  exact hK _ _ h

theorem grownCap_ge (w : World) (need old : Nat) (e : TypeId) : need ≤ grownCap w need old e := by
  unfold grownCap Question.cut
  simp only
  omega

theorem bytesRow_get (s : ByteArray) (cap i : Nat) (h : i < s.size) : (bytesRow s cap)[i]? = some (.int .u8 s[i].toNat) := by
  unfold bytesRow
  rw [Array.getElem?_append_left (by simpa using h)]
  simp [h]
  rfl

/-- '[]byte(s)', read only: a new block holds the bytes. -/
theorem wpList_bytes {P : Program} {w : World} {ops : Array Oper} {rest : List Oper} {o : Oper} {a : Act} {Q : Exit → Act → World → Prop} (s : ByteArray)
    (hg : o.guard = none) (src dst e : TypeId) (x : Operand) (hop : o.op = .convert src dst x) (hx : a.eval x = .string s)
    (hs : P.underlying src = some .string) (hd : P.underlying dst = some (.slice e)) (he : P.underlying e = some (.int .u8))
    (h : ∀ cap w1, s.size ≤ cap → w1.heap.size = w.heap.size + 1 → Ext w w1 → (∀ i (hi : i < s.size), w1.cell? ⟨w.heap.size, i, none⟩ = some (.int .u8 s[i].toNat)) →
      wpList P ops Q rest (a.put o.dst (.slice (some ⟨w.heap.size, 0, none⟩) s.size cap)) w1) : wpList P ops Q (o :: rest) a w := by
  have hrun := run_bytes_of_string (P := P) w src dst e s hs hd he
  refine wpList_value (w1 := w.drew.alloc (.cells (bytesRow s (grownCap w s.size 0 e)) e ((bytesRow s (grownCap w s.size 0 e)).size, (bytesRow s (grownCap w s.size 0 e)).size + 1))) _ hg ?_
    (h (grownCap w s.size 0 e) _ (grownCap_ge _ _ _ _) (by simp) ((Ext.drew w).alloc' _) fun i hi => ?_)
  · simp only [execOp, hop, hx, hrun, Sem.run_bind, Result.andThen_ok, Sem.run_pure]
  · rw [← bytesRow_get s (grownCap w s.size 0 e) i hi]
    exact cell_of_row _ _ _ _ _ _ (heap_alloc_new w.drew _)

/-- 'string(b)' of a slice of bytes whose cells are known. -/
theorem wpList_string {P : Program} {w : World} {ops : Array Oper} {rest : List Oper} {o : Oper} {a : Act} {Q : Exit → Act → World → Prop} (l : List UInt8)
    (hg : o.guard = none) (src dst e : TypeId) (x : Operand) (hop : o.op = .convert src dst x) (ad : Addr) (n cap : Nat) (hx : a.eval x = .slice (some ad) n cap) (hn : n = l.length)
    (hs : P.underlying src = some (.slice e)) (he : P.underlying e = some (.int .u8)) (hd : P.underlying dst = some .string)
    (hc : ∀ j (hj : j < l.length), w.cell? (ad.add j) = some (.int .u8 (l[j].toNat : Int)))
    (h : wpList P ops Q rest (a.put o.dst (.string ⟨l.toArray⟩)) w) : wpList P ops Q (o :: rest) a w := by
  subst hn
  have hrun := run_convert_bytes_back (P := P) w src dst e ad cap l hs he hd hc
  refine wpList_value _ hg (w1 := w) ?_ h
  simp only [execOp, hop, hx, hrun, Sem.run_bind, Result.andThen_ok, Sem.run_pure]

/-- Carries put back. -/
def backN (n : Nat) : Nat := if n = 0 then 0 else (n - 1) % 65535 + 1
theorem backN_small (n : Nat) (h : n ≤ 65535) : backN n = n := by unfold backN; split <;> omega
theorem backN_step (n : Nat) (h : 65535 < n) : backN (n % 65536 + n / 65536) = backN n := by
  unfold backN; rw [if_neg (by omega), if_neg (by omega)]; omega
theorem backN_le (n : Nat) : backN n ≤ 65535 := by unfold backN; split <;> omega
end Go.Proofs.YtogckmommodmhaaGreatDoor

/-! Lemmas on numbers. No conditions but the ones that stand in each. -/
namespace Go.Proofs.YtogckmommodmhaaGreatDoor
open Go.RowKit

theorem tmod_low (x : Int) : (x.tmod 65536 + 65536) % 65536 = x % 65536 := by
  rw [Int.tmod_def]; omega
theorem tmod_bd (x m : Int) (h : 0 < m) : -m < x.tmod m ∧ x.tmod m < m := by
  rw [Int.tmod_eq_emod]
  have := Int.emod_nonneg x (show m ≠ 0 by omega)
  have := Int.emod_lt_of_pos x h
  split
  · omega
  · rename_i hh
    have e : (m.natAbs : Int) = m := by omega
    by_cases h0 : x % m = 0
    · exfalso; apply hh; right; exact Int.dvd_of_emod_eq_zero h0
    · omega

end Go.Proofs.YtogckmommodmhaaGreatDoor

/-! Numbers as bytes. No conditions but the ones that stand in each. -/
namespace Go.Proofs.YtogckmommodmhaaGreatDoor
set_option linter.all false
set_option linter.unusedSimpArgs false
open Go.RowKit

/-- A byte of a number. -/
def byteI (v : Int) (k : Nat) : UInt8 := UInt8.ofNat (IntKind.u8.wrap (v.fdiv (2 ^ min (8 * (k : Int)).toNat 64))).toNat
/-- The lowest n bytes of a number, the highest first. -/
def be (v : Int) : Nat → List UInt8
  | 0 => []
  | k + 1 => byteI v k :: be v k
theorem be_len (v : Int) : ∀ n, (be v n).length = n
  | 0 => rfl
  | n + 1 => by simp [be, be_len v n]
end Go.Proofs.YtogckmommodmhaaGreatDoor

/-! Numbers of bytes, the highest first, as a machine reckons them. No conditions but the ones that stand in each. -/
namespace Go.Proofs.YtogckmommodmhaaGreatDoor
set_option linter.all false
set_option linter.unusedSimpArgs false
open Go.RowKit

theorem or_mulN (a b : Nat) (h : a < 256) : (b * 256) ||| a = b * 256 + a := by
  have : b * 256 = b <<< 8 := by rw [Nat.shiftLeft_eq]
  rw [this, Nat.shiftLeft_add_eq_or_of_lt (show a < 2 ^ 8 from h)]
theorem or_low (v c : Int) (c0 : 0 ≤ c) (c1 : c < 256) : bits .or .i64 (IntKind.i64.wrap (v * 256)) c = IntKind.i64.wrap (256 * v + c) := by
  obtain ⟨n, rfl⟩ := Int.eq_ofNat_of_zero_le c0
  have hn : n < 256 := by omega
  show IntKind.i64.wrap (((BitVec.ofInt 64 (IntKind.i64.wrap (v * 256))) ||| (BitVec.ofInt 64 (n : Int))).toNat : Int) = _
  rw [BitVec.toNat_or, BitVec.toNat_ofInt, BitVec.toNat_ofInt]
  have e1 : ((n : Int) % ((2 ^ 64 : Nat) : Int)).toNat = n := by omega
  have e2 : (IntKind.i64.wrap (v * 256) % ((2 ^ 64 : Nat) : Int)).toNat = (v % 72057594037927936).toNat * 256 := by
    rw [IntKind.wrap_i64]; omega
  rw [e1, e2, or_mulN _ _ hn, IntKind.wrap_i64, IntKind.wrap_i64]
  omega
/-- The number of bytes, reckoned on from v. -/
def nbW : Int → List UInt8 → Int
  | v, [] => v
  | v, c :: l => nbW (IntKind.i64.wrap (256 * v + c.toNat)) l
def nbI (l : List UInt8) : Int := nbW 0 l
theorem nbW_snoc (l : List UInt8) (c : UInt8) : ∀ v, nbW v (l ++ [c]) = IntKind.i64.wrap (256 * nbW v l + c.toNat) := by
  induction l with
  | nil => intro v; rfl
  | cons a l ih => intro v; simp only [List.cons_append, nbW]; exact ih _
theorem nbI_succ (l : List UInt8) (k : Nat) (h : k < l.length) : nbI (l.take (k + 1)) = IntKind.i64.wrap (256 * nbI (l.take k) + (l.getD k 0).toNat) := by
  have e : l.take (k + 1) = l.take k ++ [l.getD k 0] := by
    rw [List.take_add_one, List.getElem?_eq_getElem h]; simp [List.getD, h]
  rw [e]; exact nbW_snoc _ _ _
/-- The same without a bound. -/
def nbN : Nat → List UInt8 → Nat
  | v, [] => v
  | v, c :: l => nbN (256 * v + c.toNat) l
theorem nbN_lt (l : List UInt8) : ∀ v, nbN v l < (v + 1) * 256 ^ l.length := by
  induction l with
  | nil => intro v; simp [nbN]
  | cons c l ih =>
    intro v
    refine Nat.lt_of_lt_of_le (ih _) ?_
    rw [List.length_cons, Nat.pow_succ, Nat.mul_comm (256 ^ l.length) 256, ← Nat.mul_assoc]
    refine Nat.mul_le_mul_right _ ?_
    have := UInt8.toNat_lt c
    omega
theorem nbN_append (l m : List UInt8) : ∀ v, nbN v (l ++ m) = nbN (nbN v l) m := by
  induction l with
  | nil => intro v; rfl
  | cons c l ih => intro v; exact ih _
theorem nbN_add (l : List UInt8) : ∀ v, nbN v l = v * 256 ^ l.length + nbN 0 l := by
  induction l with
  | nil => intro v; simp [nbN]
  | cons c l ih =>
    intro v
    simp only [nbN]
    rw [ih, ih (256 * 0 + c.toNat), List.length_cons, Nat.pow_succ, Nat.add_mul, Nat.mul_zero, Nat.zero_add, Nat.mul_comm 256 v, Nat.mul_assoc, Nat.mul_comm 256]
    omega
theorem nbW_nat (l : List UInt8) : ∀ (v : Nat), (v + 1) * 256 ^ l.length ≤ 9223372036854775808 → nbW v l = nbN v l := by
  induction l with
  | nil => intro v _; rfl
  | cons c l ih =>
    intro v h
    have h2 : (256 * v + c.toNat + 1) * 256 ^ l.length ≤ (v + 1) * 256 ^ (c :: l).length := by
      rw [List.length_cons, Nat.pow_succ, Nat.mul_comm (256 ^ l.length) 256, ← Nat.mul_assoc]
      refine Nat.mul_le_mul_right _ ?_
      have := UInt8.toNat_lt c
      omega
    have h3 := Nat.pos_of_ne_zero (n := 256 ^ l.length) (by have : 0 < 256 ^ l.length := Nat.pow_pos (by decide); omega)
    have h4 : 256 * v + c.toNat < 9223372036854775808 := by
      have : 256 * v + c.toNat + 1 ≤ (256 * v + c.toNat + 1) * 256 ^ l.length := Nat.le_mul_of_pos_right _ h3
      omega
    show nbW (IntKind.i64.wrap (256 * v + c.toNat)) l = nbN (256 * v + c.toNat) l
    have e : IntKind.i64.wrap (256 * (v : Int) + (c.toNat : Int)) = ((256 * v + c.toNat : Nat) : Int) := by rw [IntKind.wrap_i64]; omega
    rw [e]
    exact ih _ (Nat.le_trans h2 h)
theorem nbI_nat (l : List UInt8) (h : l.length ≤ 7) : nbI l = nbN 0 l := by
  refine nbW_nat l 0 ?_
  have : 256 ^ l.length ≤ 256 ^ 7 := Nat.pow_le_pow_right (by decide) h
  omega
/-- Bytes of a number, and the number of bytes. -/
theorem byteI_eq' (v : Int) (k : Nat) (hk : k ≤ 8) : byteI v k = UInt8.ofNat ((v / 256 ^ k) % 256).toNat := by
  unfold byteI
  rw [IntKind.wrap_u8]
  have e : min (8 * (k : Int)).toNat 64 = 8 * k := by omega
  rw [e, Int.fdiv_eq_ediv_of_nonneg _ (Int.pow_nonneg (by decide))]
  have e2 : (2 : Int) ^ (8 * k) = 256 ^ k := by rw [Int.pow_mul]; rfl
  rw [e2]
theorem byte_nat (v k : Nat) (hk : k ≤ 8) : (byteI v k).toNat = v / 256 ^ k % 256 := by
  rw [byteI_eq' _ _ hk]
  have e : ((v : Int) / 256 ^ k % 256).toNat = v / 256 ^ k % 256 := by
    have : ((v : Int) / 256 ^ k % 256) = ((v / 256 ^ k % 256 : Nat) : Int) := by simp
    rw [this]; exact Int.toNat_natCast _
  rw [e]
  simp only [UInt8.toNat_ofNat', Nat.reducePow]
  omega
theorem nbN_be (v : Nat) : ∀ n, n ≤ 8 → nbN 0 (be v n) = v % 256 ^ n
  | 0, _ => by simp [be, nbN, Nat.mod_one]
  | n + 1, h => by
    simp only [be, nbN]
    rw [nbN_add, be_len, nbN_be v n (by omega), byte_nat v n (by omega), Nat.mul_zero, Nat.zero_add]
    have := Nat.mod_mul (x := v) (a := 256 ^ n) (b := 256)
    rw [← Nat.pow_succ] at this
    rw [this, Nat.mul_comm (256 ^ n)]
    omega
theorem be_nbN : ∀ l : List UInt8, l.length ≤ 8 → be (nbN 0 l) l.length = l
  | [], _ => rfl
  | c :: l, h => by
    have hl : l.length ≤ 8 := by simp at h; omega
    have ih := be_nbN l hl
    have e0 : nbN 0 (c :: l) = c.toNat * 256 ^ l.length + nbN 0 l := by
      simp only [nbN]; rw [nbN_add]; simp
    have hlt : nbN 0 l < 256 ^ l.length := by have := nbN_lt l 0; omega
    have hp : 0 < 256 ^ l.length := Nat.pow_pos (by decide)
    simp only [List.length_cons, be]
    congr 1
    · apply UInt8.toNat_inj.1
      rw [byte_nat _ _ hl, e0, Nat.add_comm, Nat.add_mul_div_right _ _ hp, Nat.div_eq_of_lt hlt, Nat.zero_add]
      exact Nat.mod_eq_of_lt (UInt8.toNat_lt c)
    · have key : ∀ n, n ≤ l.length → be ((nbN 0 (c :: l) : Nat) : Int) n = be ((nbN 0 l : Nat) : Int) n := by
        intro n
        induction n with
        | zero => intro _; rfl
        | succ n ihn =>
          intro hn
          simp only [be]
          rw [ihn (by omega)]
          congr 1
          apply UInt8.toNat_inj.1
          rw [byte_nat _ _ (by omega), byte_nat _ _ (by omega), e0]
          obtain ⟨d, hd⟩ : ∃ d, l.length = n + 1 + d := ⟨l.length - (n + 1), by omega⟩
          have : c.toNat * 256 ^ l.length = (c.toNat * 256 ^ d * 256) * 256 ^ n := by
            rw [hd, Nat.pow_add, Nat.pow_succ]
            simp only [Nat.mul_comm, Nat.mul_left_comm, Nat.mul_assoc]
          rw [this, Nat.add_comm, Nat.add_mul_div_right _ _ (Nat.pow_pos (by decide))]
          omega
      rw [key _ (Nat.le_refl _)]
      exact ih
theorem wrap_step (v c : Int) : IntKind.i64.wrap (256 * IntKind.i64.wrap v + c) = IntKind.i64.wrap (256 * v + c) := by
  rw [IntKind.wrap_i64, IntKind.wrap_i64, IntKind.wrap_i64]; omega
theorem nbW_wrap (l : List UInt8) : ∀ v : Nat, nbW (IntKind.i64.wrap v) l = IntKind.i64.wrap (nbN v l) := by
  induction l with
  | nil => intro v; rfl
  | cons c l ih =>
    intro v
    show nbW (IntKind.i64.wrap (256 * IntKind.i64.wrap v + c.toNat)) l = _
    rw [wrap_step]
    have e : (256 * (v : Int) + (c.toNat : Int)) = ((256 * v + c.toNat : Nat) : Int) := by omega
    rw [e]; exact ih _
theorem nbI_wrap (l : List UInt8) : nbI l = IntKind.i64.wrap (nbN 0 l) := by
  have h0 : IntKind.i64.wrap ((0 : Nat) : Int) = 0 := by rw [IntKind.wrap_i64]; decide
  rw [← nbW_wrap, h0]; rfl
theorem nbI_be (v : Int) (n : Nat) (h : n ≤ 8) (h0 : 0 ≤ v) (h1 : v < 256 ^ n) (h2 : v < 9223372036854775808) : nbI (be v n) = v := by
  obtain ⟨m, rfl⟩ := Int.eq_ofNat_of_zero_le h0
  have h1' : m < 256 ^ n := by
    have e : ((256 : Int) ^ n) = ((256 ^ n : Nat) : Int) := by rw [Int.natCast_pow]; rfl
    rw [e] at h1; omega
  rw [nbI_wrap, nbN_be m n h, Nat.mod_eq_of_lt h1', IntKind.wrap_i64]
  omega
theorem be_nbI (l : List UInt8) (h : l.length ≤ 8) (h0 : 0 ≤ nbI l) : be (nbI l) l.length = l := by
  have e : nbI l = nbN 0 l := by
    have hlt := nbN_lt l 0
    have : 256 ^ l.length ≤ 256 ^ 8 := Nat.pow_le_pow_right (by decide) h
    rw [nbI_wrap, IntKind.wrap_i64] at h0 ⊢
    omega
  rw [e]; exact be_nbN l h
theorem nbI_bd (l : List UInt8) (n : Nat) (h : l.length = n) (h7 : n ≤ 7) : 0 ≤ nbI l ∧ nbI l < ((256 ^ n : Nat) : Int) := by
  subst h
  rw [nbI_nat l h7]
  have := nbN_lt l 0
  omega
theorem nbI_b4 (l : List UInt8) (h : l.length = 4) : 0 ≤ nbI l ∧ nbI l < 4294967296 := nbI_bd l 4 h (by decide)
theorem nbI_b2 (l : List UInt8) (h : l.length = 2) : 0 ≤ nbI l ∧ nbI l < 65536 := nbI_bd l 2 h (by decide)
theorem nbI_b1 (l : List UInt8) (h : l.length = 1) : 0 ≤ nbI l ∧ nbI l < 256 := nbI_bd l 1 h (by decide)
theorem cut_l (l : List UInt8) (a b : Nat) (h : a + b ≤ l.length) : ((l.drop a).take b).length = b := by rw [List.length_take, List.length_drop]; omega
end Go.Proofs.YtogckmommodmhaaGreatDoor
