/- A text that came in. No conditions. -/
import Derived.Test.YtglkiaiipkdkbaaDoorE1
namespace Go.Proofs.YtglkiaiipkdkbaaDoor
set_option linter.all false
set_option linter.unusedSimpArgs false
open Go.RowKit

theorem vr_string {g : Nat → GM} {W : Nat → Prop} {w : World} (s : ByteArray) : VR g W w (.str s.data.toList) (.string s) := by
  have : Value.string s = .string ⟨s.data.toList.toArray⟩ := by cases s; simp
  rw [this]; exact .str _
end Go.Proofs.YtglkiaiipkdkbaaDoor
