import Derived.Test.YtogckmommodmhaaGreatDoorZtTopRunsI
set_option maxHeartbeats 16000000
namespace Go.Proofs.YtogckmommodmhaaGreatDoor
open Go.ChangeShapes Go.WideShapes Go.ChangeAt Go.RowKit
open Go.RowKit
set_option linter.all false
set_option linter.unusedSimpArgs false
set_option maxRecDepth 100000
theorem Xiv:(Rows.topRunsRow.inPlace == Tryz.pinned.checked.prog.inPlace 15)=true:=by kernel_rfl
theorem Xie:(Rows.topRunsRow.unfollowed == Tryz.pinned.checked.prog.unfollowed 15)=true:=by kernel_rfl
theorem Xfn:(Rows.topRunsRow.recurses == Tryz.pinned.checked.prog.recurses 15)=true:=by kernel_rfl
theorem Xcy:(Rows.topRunsRow.named == Tryz.pinned.checked.prog.varsNamed 15)=true:=by kernel_rfl
theorem Qum:Rows.topRunsRow.holds Tryz.pinned (OpenSpec.ofChange Rows.topRunsSpec) :=
 OpenClaim.holds_of_wide 15 Tryz.f15 rfl rfl rfl rfl rfl rfl rfl ⟨rfl,rfl,rfl,rfl,rfl⟩ rfl rfl rfl rfl rfl (by kernel_rfl) Tryz.func15 (by unfold joinedFacts;rw[Xiv,Xie,Xfn,Xcy];kernel_rfl)
  (of_decide_eq_true (by kernel_rfl)) (by unfold Func.isWrapper;first|(rw[if_pos (by decide +kernel)];kernel_rfl)|(rw[if_neg (by decide +kernel)];exact ⟨rfl,rfl⟩))
  (fun os started H enc _=>Qqc os started H enc)
end Go.Proofs.YtogckmommodmhaaGreatDoor
