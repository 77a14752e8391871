/- What a log says: plain. No conditions. -/
import Derived.Test.YtglkiaiipkdkbaaDoorRk
namespace Go.Proofs.YtglkiaiipkdkbaaDoor
set_option linter.all false
set_option linter.unusedSimpArgs false
open Go.RowKit

def n2 (s : List UInt8) (k : Nat) : Int := nbI ((s.drop k).take 2)
def n4 (s : List UInt8) (k : Nat) : Int := nbI ((s.drop k).take 4)
theorem n2_bd (s : List UInt8) (k : Nat) (h : k + 2 ≤ s.length) : 0 ≤ n2 s k ∧ n2 s k ≤ 65535 := by
  have := nbI_b2 ((s.drop k).take 2) (cut_l _ _ _ h)
  unfold n2; omega
theorem n4_bd (s : List UInt8) (k : Nat) (h : k + 4 ≤ s.length) : 0 ≤ n4 s k ∧ n4 s k ≤ 4294967295 := by
  have := nbI_b4 ((s.drop k).take 4) (cut_l _ _ _ h)
  unfold n4; omega
def ev0 : Ev := ⟨0, 0, 0, 0, false⟩
def lastT (l : List Ev) : Int := (l.getD (l.length - 1) ev0).t
/-- The events of a body, behind those that were read. -/
noncomputable def rdEvs (time : Int) : Nat → List Ev → List UInt8 → Option (List Ev)
  | 0, l, _ => some l
  | m + 1, l, b => match rdEv b with
    | none => none
    | some e => if e.t % 4294967296 = time ∧ (l = [] ∨ lastT l ≤ e.t) then rdEvs time m (l ++ [e]) (b.drop 21) else none
def hdOk (s : List UInt8) : Prop := 16 ≤ s.length ∧ n2 s 0 = 10 ∧ 20 ≤ n2 s 2 ∧ n2 s 2 ≤ s.length ∧ n4 s 12 = 1
def setOk (s : List UInt8) : Prop := (n2 s 16 = 2 ∨ n2 s 16 = 300) ∧ n2 s 18 = n2 s 2 - 16
def okR (l : List Ev) : AV := .tup [.isl l.length (evs5 l), .int .i64 0]
def errR (e : Int) : AV := .tup [.nils, .int .i64 e]
/-- How many bytes the first message has. -/
def msgN (s : List UInt8) : Nat := (n2 s 2).toNat
open Classical in
noncomputable def rdLogF : Nat → List Ev → Bool → List UInt8 → Except Int (List Ev)
  | 0, l, _, _ => .ok l
  | f + 1, l, k, s =>
    if s = [] then .ok l
    else if ¬ hdOk s then .error 1
    else if ¬ setOk s then .error 1
    else if n4 s 8 ≠ l.length then .error 3
    else if n2 s 16 = 2 then if msgB l.length 0 2 (tmpl 6) = s.take (msgN s) then rdLogF f l true (s.drop (msgN s)) else .error 4
    else if k = false then .error 7
    else if msgN s = 20 ∨ (msgN s - 20) % 21 ≠ 0 then .error 1
    else match rdEvs (n4 s 4) ((msgN s - 20) / 21) l ((s.take (msgN s)).drop 20) with
      | none => .error 2
      | some l' => rdLogF f l' k (s.drop (msgN s))
noncomputable def rdLog (s : List UInt8) : Except Int (List Ev) := rdLogF s.length [] false s
def rdAV : Except Int (List Ev) → AV
  | .ok l => okR l
  | .error e => errR e
theorem rdAV_nm (n : Nat) (x : Except Int (List Ev)) : nmOk n (rdAV x) := by
  cases x with
  | error e => simp [rdAV, errR, nmOk, nmAll]
  | ok l => simp [rdAV, okR, nmOk, nmAll, evs5_nm]

section
variable {f : Nat} {l : List Ev} {k : Bool} {s : List UInt8}
theorem rf_nil : rdLogF f l k [] = .ok l := by cases f <;> simp [rdLogF]
theorem rf1 (h0 : s ≠ []) (h1 : ¬ hdOk s) : rdLogF (f + 1) l k s = .error 1 := by unfold rdLogF; rw [if_neg h0, if_pos h1]
theorem rf2 (h0 : s ≠ []) (h1 : hdOk s) (h2 : ¬ setOk s) : rdLogF (f + 1) l k s = .error 1 := by unfold rdLogF; rw [if_neg h0, if_neg (Classical.not_not.2 h1), if_pos h2]
theorem rf3 (h0 : s ≠ []) (h1 : hdOk s) (h2 : setOk s) (h3 : n4 s 8 ≠ l.length) : rdLogF (f + 1) l k s = .error 3 := by unfold rdLogF; rw [if_neg h0, if_neg (Classical.not_not.2 h1), if_neg (Classical.not_not.2 h2), if_pos h3]
theorem rf4 (h0 : s ≠ []) (h1 : hdOk s) (h2 : setOk s) (h3 : n4 s 8 = l.length) (h4 : n2 s 16 = 2) (h5 : ¬ msgB l.length 0 2 (tmpl 6) = s.take (msgN s)) : rdLogF (f + 1) l k s = .error 4 := by
  unfold rdLogF; rw [if_neg h0, if_neg (Classical.not_not.2 h1), if_neg (Classical.not_not.2 h2), if_neg (Classical.not_not.2 h3), if_pos h4, if_neg h5]
theorem rf5 (h0 : s ≠ []) (h1 : hdOk s) (h2 : setOk s) (h3 : n4 s 8 = l.length) (h4 : n2 s 16 = 2) (h5 : msgB l.length 0 2 (tmpl 6) = s.take (msgN s)) : rdLogF (f + 1) l k s = rdLogF f l true (s.drop (msgN s)) := by
  rw [rdLogF, if_neg h0, if_neg (Classical.not_not.2 h1), if_neg (Classical.not_not.2 h2), if_neg (Classical.not_not.2 h3), if_pos h4, if_pos h5]
theorem rf6 (h0 : s ≠ []) (h1 : hdOk s) (h2 : setOk s) (h3 : n4 s 8 = l.length) (h4 : n2 s 16 ≠ 2) (h5 : k = false) : rdLogF (f + 1) l k s = .error 7 := by
  unfold rdLogF; rw [if_neg h0, if_neg (Classical.not_not.2 h1), if_neg (Classical.not_not.2 h2), if_neg (Classical.not_not.2 h3), if_neg h4, if_pos h5]
theorem rf7 (h0 : s ≠ []) (h1 : hdOk s) (h2 : setOk s) (h3 : n4 s 8 = l.length) (h4 : n2 s 16 ≠ 2) (h5 : k = true) (h6 : msgN s = 20 ∨ (msgN s - 20) % 21 ≠ 0) : rdLogF (f + 1) l k s = .error 1 := by
  unfold rdLogF; rw [if_neg h0, if_neg (Classical.not_not.2 h1), if_neg (Classical.not_not.2 h2), if_neg (Classical.not_not.2 h3), if_neg h4, if_neg (by simp [h5]), if_pos h6]
theorem rf8 (h0 : s ≠ []) (h1 : hdOk s) (h2 : setOk s) (h3 : n4 s 8 = l.length) (h4 : n2 s 16 ≠ 2) (h5 : k = true) (h6 : ¬ (msgN s = 20 ∨ (msgN s - 20) % 21 ≠ 0)) : rdLogF (f + 1) l k s =
    match rdEvs (n4 s 4) ((msgN s - 20) / 21) l ((s.take (msgN s)).drop 20) with
      | none => .error 2
      | some l' => rdLogF f l' k (s.drop (msgN s)) := by
  rw [rdLogF, if_neg h0, if_neg (Classical.not_not.2 h1), if_neg (Classical.not_not.2 h2), if_neg (Classical.not_not.2 h3), if_neg h4, if_neg (by simp [h5]), if_neg h6]
end
end Go.Proofs.YtglkiaiipkdkbaaDoor
