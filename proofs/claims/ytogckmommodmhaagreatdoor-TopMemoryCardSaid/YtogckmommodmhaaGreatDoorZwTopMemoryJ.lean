import Derived.Test.YtogckmommodmhaaGreatDoorZwTopMemoryI
namespace Go.Proofs.YtogckmommodmhaaGreatDoor
open Go.ChangeShapes Go.WideShapes Go.ChangeAt Go.RowKit
open Go.RowKit
set_option linter.all false
set_option linter.unusedSimpArgs false
set_option maxRecDepth 100000
theorem Qun:(Rows.topMemoryRow.inPlace == Tryz.pinned.checked.prog.inPlace 12)=true:=by kernel_rfl
theorem Qwy:(Rows.topMemoryRow.unfollowed == Tryz.pinned.checked.prog.unfollowed 12)=true:=by kernel_rfl
theorem Qwg:(Rows.topMemoryRow.recurses == Tryz.pinned.checked.prog.recurses 12)=true:=by kernel_rfl
theorem Qxs:(Rows.topMemoryRow.named == Tryz.pinned.checked.prog.varsNamed 12)=true:=by kernel_rfl
theorem Qqo:Rows.topMemoryRow.holds Tryz.pinned (OpenSpec.ofChange Rows.topMemorySpec) :=
 OpenClaim.holds_of_wide 12 Tryz.f12 rfl rfl rfl rfl rfl rfl rfl ⟨rfl,rfl,rfl,rfl,rfl⟩ rfl rfl rfl rfl rfl (by kernel_rfl) Tryz.func12 (by unfold joinedFacts;rw[Qun,Qwy,Qwg,Qxs];kernel_rfl)
  (of_decide_eq_true (by kernel_rfl)) (by unfold Func.isWrapper;first|(rw[if_pos (by decide +kernel)];kernel_rfl)|(rw[if_neg (by decide +kernel)];exact ⟨rfl,rfl⟩))
  (fun os started H enc _=>Qnm os started H enc)
end Go.Proofs.YtogckmommodmhaaGreatDoor
