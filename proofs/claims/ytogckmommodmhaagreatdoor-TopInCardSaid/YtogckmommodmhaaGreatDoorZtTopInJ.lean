import Derived.Test.YtogckmommodmhaaGreatDoorZtTopInI
set_option maxHeartbeats 16000000
namespace Go.Proofs.YtogckmommodmhaaGreatDoor
open Go.ChangeShapes Go.WideShapes Go.ChangeAt Go.RowKit
open Go.RowKit
set_option linter.all false
set_option linter.unusedSimpArgs false
set_option maxRecDepth 100000
theorem Xsx:(Rows.topInRow.inPlace == Tryz.pinned.checked.prog.inPlace 10)=true:=by kernel_rfl
theorem Xti:(Rows.topInRow.unfollowed == Tryz.pinned.checked.prog.unfollowed 10)=true:=by kernel_rfl
theorem Xwn:(Rows.topInRow.recurses == Tryz.pinned.checked.prog.recurses 10)=true:=by kernel_rfl
theorem Xsb:(Rows.topInRow.named == Tryz.pinned.checked.prog.varsNamed 10)=true:=by kernel_rfl
theorem Xf4:Rows.topInRow.holds Tryz.pinned (OpenSpec.ofChange Rows.topInSpec) :=
 OpenClaim.holds_of_wide 10 Tryz.f10 rfl rfl rfl rfl rfl rfl rfl ⟨rfl,rfl,rfl,rfl,rfl⟩ rfl rfl rfl rfl rfl (by kernel_rfl) Tryz.func10 (by unfold joinedFacts;rw[Xsx,Xti,Xwn,Xsb];kernel_rfl)
  (of_decide_eq_true (by kernel_rfl)) (by unfold Func.isWrapper;first|(rw[if_pos (by decide +kernel)];kernel_rfl)|(rw[if_neg (by decide +kernel)];exact ⟨rfl,rfl⟩))
  (fun os started H enc _=>Qtq os started H enc)
end Go.Proofs.YtogckmommodmhaaGreatDoor
