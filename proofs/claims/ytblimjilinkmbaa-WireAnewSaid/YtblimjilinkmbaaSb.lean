/- Sums, as contracts of the second way. No conditions but the ones that stand in each. -/
import Derived.Test.YtblimjilinkmbaaBr
import Derived.Test.YtblimjilinkmbaaSums
namespace Go.Proofs.Ytblimjilinkmbaa
set_option linter.all false
set_option linter.unusedSimpArgs false
open Go.RowKit

theorem Fix.str (l : List UInt8) : Fix (.str l) (.string ⟨l.toArray⟩) := fun _ _ _ u => ⟨fun h => by cases h; rfl, fun h => by subst h; exact .str _⟩
theorem Of_ps (gl : Nat → AV) (l : List UInt8) (h : l.length ≤ 140737488351232) : PS Try.prog gl 22 [.str l] (.int .i64 (ofN l)) :=
  .of_calls (vs := [.string ⟨l.toArray⟩]) ⟨_, Try.func22, by kernel_rfl, by kernel_rfl⟩ ⟨.str l, trivial⟩ (.int _ _) fun w => Of_below ⟨l.toArray⟩ w h
theorem Check_ps (gl : Nat → AV) (l : List UInt8) (h : l.length ≤ 140737488351232) : PS Try.prog gl 26 [.str l] (.int .i64 (checkN l)) :=
  .of_calls (vs := [.string ⟨l.toArray⟩]) ⟨_, Try.func26, by kernel_rfl, by kernel_rfl⟩ ⟨.str l, trivial⟩ (.int _ _)
    fun w => (Check_any ⟨l.toArray⟩ w (Nat.le_trans h (by decide))).mono fun _ _ ⟨he, n, hn⟩ => ⟨he, by rw [hn]; exact Ext.drewN w n⟩
theorem Update_ps (gl : Nat → AV) (c m n : Int) : PS Try.prog gl 45 [.int .i64 c, .int .i64 m, .int .i64 n] (.int .i64 (65535 - addN (addN (65535 - c % 65536) (65535 - m % 65536)) n)) :=
  .of_calls (vs := [.int .i64 c, .int .i64 m, .int .i64 n]) ⟨_, Try.func45, by kernel_rfl, by kernel_rfl⟩ ⟨.int _ _, .int _ _, .int _ _, trivial⟩ (.int _ _)
    fun w => (Update_any c m n w).mono fun _ _ ⟨he, hn⟩ => ⟨he, by rw [hn]; exact Ext.refl w⟩
theorem SumOf_ps (gl : Nat → AV) (l : List UInt8) (h : l.length ≤ 140737488351232) : PS Try.prog gl 40 [.str l] (.int .i64 (ofN l)) :=
  .of_calls (vs := [.string ⟨l.toArray⟩]) ⟨_, Try.func40, by kernel_rfl, by kernel_rfl⟩ ⟨.str l, trivial⟩ (.int _ _) fun w => SumOf_any ⟨l.toArray⟩ w h
theorem CheckOf_ps (gl : Nat → AV) (l : List UInt8) (h : l.length ≤ 140737488351232) : PS Try.prog gl 29 [.str l] (.int .i64 (checkN l)) :=
  .of_calls (vs := [.string ⟨l.toArray⟩]) ⟨_, Try.func29, by kernel_rfl, by kernel_rfl⟩ ⟨.str l, trivial⟩ (.int _ _) fun w => CheckOf_any ⟨l.toArray⟩ w h
end Go.Proofs.Ytblimjilinkmbaa
