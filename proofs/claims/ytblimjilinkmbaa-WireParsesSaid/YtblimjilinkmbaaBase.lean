/- Small general lemmas on numbers, lists of bytes and worlds. No conditions but the ones that stand in each. -/
import Derived.WalkKit
import Derived.WalkSpells
import Derived.WalkLawsBesides
import Derived.BigQuiet
import Derived.Lib.Hide
namespace Go.Proofs.Ytblimjilinkmbaa
open Go.RowKit

theorem wrap_i64_nat (n : Nat) (h : n < 9223372036854775808) : IntKind.i64.wrap (n : Int) = n := by rw [IntKind.wrap_i64]; omega
theorem and16_i64 (x : Int) : bits .and .i64 x 65535 = x % 65536 := by
  have h0 : bits .and .i64 x 65535 = IntKind.i64.wrap ((BitVec.ofInt 64 x &&& BitVec.ofInt 64 65535).toNat : Int) := rfl
  have h : ((BitVec.ofInt 64 x) &&& (BitVec.ofInt 64 65535)).toNat = (x % 65536).toNat := by
    rw [BitVec.toNat_and, BitVec.toNat_ofInt, BitVec.toNat_ofInt]
    have e : ((65535 : Int) % (2 ^ 64 : Nat)).toNat = 65535 := by decide
    rw [e, nat_mask16]
    omega
  rw [h0, h]
  rw [wrap_i64_nat _ (by omega)]
  omega
theorem and16_u32 (x : Int) : bits .and .u32 x 65535 = x % 65536 := by
  have h0 : bits .and .u32 x 65535 = IntKind.u32.wrap ((BitVec.ofInt 32 x &&& BitVec.ofInt 32 65535).toNat : Int) := rfl
  have h : ((BitVec.ofInt 32 x) &&& (BitVec.ofInt 32 65535)).toNat = (x % 65536).toNat := by
    rw [BitVec.toNat_and, BitVec.toNat_ofInt, BitVec.toNat_ofInt]
    have e : ((65535 : Int) % (2 ^ 32 : Nat)).toNat = 65535 := by decide
    rw [e, nat_mask16]
    omega
  rw [h0, h]
  rw [IntKind.wrap_u32]
  omega
attribute [go_sem] and16_i64 and16_u32

/-- w' is w with new blocks (and draws): nothing that was there has turned. -/
def Ext (w w' : World) : Prop := Below w.heap.size w w'
theorem Ext.refl (w : World) : Ext w w := Below.refl _ _
theorem Ext.trans {a b c : World} (h : Ext a b) (k : Ext b c) : Ext a c := Below.trans h (Below.mono k h.size)
theorem Ext.drewN (w : World) (n : Nat) : Ext w (w.drewN n) := ⟨rfl, rfl, rfl, Nat.le_refl _, fun _ _ => rfl⟩
theorem Ext.drew (w : World) : Ext w w.drew := ⟨rfl, rfl, rfl, Nat.le_refl _, fun _ _ => rfl⟩
theorem Ext.alloc (w : World) (o : Obj) : Ext w (w.alloc o) := (Below.refl _ _).alloc (Nat.le_refl _) _
theorem Ext.drewN' {a w : World} (h : Ext a w) (n : Nat) : Ext a (w.drewN n) := h.trans (Ext.drewN w n)
theorem Ext.drew' {a w : World} (h : Ext a w) : Ext a w.drew := h.trans (Ext.drew w)
theorem Ext.alloc' {a w : World} (h : Ext a w) (o : Obj) : Ext a (w.alloc o) := h.trans (Ext.alloc w o)
theorem Ext.setCell' {a w : World} (h : Ext a w) {p : Addr} (hp : a.heap.size ≤ p.block) (u : Value) : Ext a (w.setCell p u) := Below.setCell h hp u
theorem Ext.grown' {a w w' : World} {row : Option Nat} (h : Ext a w) (hg : w.grownBy w' row) (hr : ∀ k, row = some k → a.heap.size ≤ k) : Ext a w' := Below.grown h hg h.size hr
theorem Ext.size {a w : World} (h : Ext a w) : a.heap.size ≤ w.heap.size := Below.size h
theorem Ext.cell {a w : World} (h : Ext a w) {b o : Nat} {s : Option Nat} (hb : b < a.heap.size) : w.cell? ⟨b, o, s⟩ = a.cell? ⟨b, o, s⟩ := Below.cell h (p := ⟨b, o, s⟩) hb
theorem Ext.frozen {a w : World} (h : Ext a w) {b o : Nat} {s : Option Nat} (hb : b < a.heap.size) : w.frozen? ⟨b, o, s⟩ = a.frozen? ⟨b, o, s⟩ := Below.frozen h (p := ⟨b, o, s⟩) hb

theorem ret_bool {a b : Bool} (h : a = b) : Ending.returned (.bool a) = .returned (.bool b) := by rw [h]
theorem ret_int {k : IntKind} {a b : Int} (h : a = b) : Ending.returned (.int k a) = .returned (.int k b) := by rw [h]

/-- An operation that yields a value, at the head of a list of operations. -/
theorem wpList_value {P : Program} {w w1 : World} {ops : Array Oper} {rest : List Oper} {o : Oper} {a : Act} {Q : Exit → Act → World → Prop} (v : Value)
    (hg : o.guard = none) (hrun : (execOp a.eval o).run P w = .ok (.value v) w1) (h : wpList P ops Q rest (a.put o.dst v) w1) : wpList P ops Q (o :: rest) a w := by
  refine wpList_plain hg fun K hK => ?_
  unfold Oper.wp
  rw [hrun]
  exact hK _ _ h

theorem grownCap_ge (w : World) (need old : Nat) (e : TypeId) : need ≤ grownCap w need old e := by
  unfold grownCap Question.cut
  simp only
  omega

theorem bytesRow_get (s : ByteArray) (cap i : Nat) (h : i < s.size) : (bytesRow s cap)[i]? = some (.int .u8 s[i].toNat) := by
  unfold bytesRow
  rw [Array.getElem?_append_left (by simpa using h)]
  simp [h]
  rfl

/-- '[]byte(s)', read only: a new block holds the bytes. -/
theorem wpList_bytes {P : Program} {w : World} {ops : Array Oper} {rest : List Oper} {o : Oper} {a : Act} {Q : Exit → Act → World → Prop} (s : ByteArray)
    (hg : o.guard = none) (src dst e : TypeId) (x : Operand) (hop : o.op = .convert src dst x) (hx : a.eval x = .string s)
    (hs : P.underlying src = some .string) (hd : P.underlying dst = some (.slice e)) (he : P.underlying e = some (.int .u8))
    (h : ∀ cap w1, s.size ≤ cap → w1.heap.size = w.heap.size + 1 → Ext w w1 → (∀ i (hi : i < s.size), w1.cell? ⟨w.heap.size, i, none⟩ = some (.int .u8 s[i].toNat)) →
      wpList P ops Q rest (a.put o.dst (.slice (some ⟨w.heap.size, 0, none⟩) s.size cap)) w1) : wpList P ops Q (o :: rest) a w := by
  have hrun := run_bytes_of_string (P := P) w src dst e s hs hd he
  refine wpList_value (w1 := w.drew.alloc (.cells (bytesRow s (grownCap w s.size 0 e)) e ((bytesRow s (grownCap w s.size 0 e)).size, (bytesRow s (grownCap w s.size 0 e)).size + 1))) _ hg ?_
    (h (grownCap w s.size 0 e) _ (grownCap_ge _ _ _ _) (by simp) ((Ext.drew w).alloc' _) fun i hi => ?_)
  · simp only [execOp, hop, hx, hrun, Sem.run_bind, Result.andThen_ok, Sem.run_pure]
  · rw [← bytesRow_get s (grownCap w s.size 0 e) i hi]
    exact cell_of_row _ _ _ _ _ _ (heap_alloc_new w.drew _)

/-- 'string(b)' of a slice of bytes whose cells are known. -/
theorem wpList_string {P : Program} {w : World} {ops : Array Oper} {rest : List Oper} {o : Oper} {a : Act} {Q : Exit → Act → World → Prop} (l : List UInt8)
    (hg : o.guard = none) (src dst e : TypeId) (x : Operand) (hop : o.op = .convert src dst x) (ad : Addr) (n cap : Nat) (hx : a.eval x = .slice (some ad) n cap) (hn : n = l.length)
    (hs : P.underlying src = some (.slice e)) (he : P.underlying e = some (.int .u8)) (hd : P.underlying dst = some .string)
    (hc : ∀ j (hj : j < l.length), w.cell? (ad.add j) = some (.int .u8 (l[j].toNat : Int)))
    (h : wpList P ops Q rest (a.put o.dst (.string ⟨l.toArray⟩)) w) : wpList P ops Q (o :: rest) a w := by
  subst hn
  have hrun := run_convert_bytes_back (P := P) w src dst e ad cap l hs he hd hc
  refine wpList_value _ hg (w1 := w) ?_ h
  simp only [execOp, hop, hx, hrun, Sem.run_bind, Result.andThen_ok, Sem.run_pure]

/-- Carries put back. -/
def backN (n : Nat) : Nat := if n = 0 then 0 else (n - 1) % 65535 + 1
theorem backN_small (n : Nat) (h : n ≤ 65535) : backN n = n := by unfold backN; split <;> omega
theorem backN_step (n : Nat) (h : 65535 < n) : backN (n % 65536 + n / 65536) = backN n := by
  unfold backN; rw [if_neg (by omega), if_neg (by omega)]; omega
theorem backN_le (n : Nat) : backN n ≤ 65535 := by unfold backN; split <;> omega
end Go.Proofs.Ytblimjilinkmbaa
