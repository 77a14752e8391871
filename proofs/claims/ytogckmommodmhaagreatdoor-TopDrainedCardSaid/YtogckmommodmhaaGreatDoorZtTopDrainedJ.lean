import Derived.Test.YtogckmommodmhaaGreatDoorZtTopDrainedI
set_option maxHeartbeats 16000000
namespace Go.Proofs.YtogckmommodmhaaGreatDoor
open Go.ChangeShapes Go.WideShapes Go.ChangeAt Go.RowKit
open Go.RowKit
set_option linter.all false
set_option linter.unusedSimpArgs false
set_option maxRecDepth 100000
theorem Qt2:(Rows.topDrainedRow.inPlace == Tryz.pinned.checked.prog.inPlace 14)=true:=by kernel_rfl
theorem Qsz:(Rows.topDrainedRow.unfollowed == Tryz.pinned.checked.prog.unfollowed 14)=true:=by kernel_rfl
theorem Qsq:(Rows.topDrainedRow.recurses == Tryz.pinned.checked.prog.recurses 14)=true:=by kernel_rfl
theorem Qt1:(Rows.topDrainedRow.named == Tryz.pinned.checked.prog.varsNamed 14)=true:=by kernel_rfl
theorem Qoj:Rows.topDrainedRow.holds Tryz.pinned (OpenSpec.ofChange Rows.topDrainedSpec) :=
 OpenClaim.holds_of_wide 14 Tryz.f14 rfl rfl rfl rfl rfl rfl rfl ⟨rfl,rfl,rfl,rfl,rfl⟩ rfl rfl rfl rfl rfl (by kernel_rfl) Tryz.func14 (by unfold joinedFacts;rw[Qt2,Qsz,Qsq,Qt1];kernel_rfl)
  (of_decide_eq_true (by kernel_rfl)) (by unfold Func.isWrapper;first|(rw[if_pos (by decide +kernel)];kernel_rfl)|(rw[if_neg (by decide +kernel)];exact ⟨rfl,rfl⟩))
  (fun os started H enc _=>Qn6 os started H enc)
end Go.Proofs.YtogckmommodmhaaGreatDoor
