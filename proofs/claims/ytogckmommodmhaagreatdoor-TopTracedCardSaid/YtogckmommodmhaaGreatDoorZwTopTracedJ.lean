import Derived.Test.YtogckmommodmhaaGreatDoorZwTopTracedI
namespace Go.Proofs.YtogckmommodmhaaGreatDoor
open Go.ChangeShapes Go.WideShapes Go.ChangeAt Go.RowKit
open Go.RowKit
set_option linter.all false
set_option linter.unusedSimpArgs false
set_option maxRecDepth 100000
theorem Qur:(Rows.topTracedRow.inPlace == Tryz.pinned.checked.prog.inPlace 18)=true:=by kernel_rfl
theorem Quh:(Rows.topTracedRow.unfollowed == Tryz.pinned.checked.prog.unfollowed 18)=true:=by kernel_rfl
theorem Qub:(Rows.topTracedRow.recurses == Tryz.pinned.checked.prog.recurses 18)=true:=by kernel_rfl
theorem Qu1:(Rows.topTracedRow.named == Tryz.pinned.checked.prog.varsNamed 18)=true:=by kernel_rfl
theorem Qqu:Rows.topTracedRow.holds Tryz.pinned (OpenSpec.ofChange Rows.topTracedSpec) :=
 OpenClaim.holds_of_wide 18 Tryz.f18 rfl rfl rfl rfl rfl rfl rfl ⟨rfl,rfl,rfl,rfl,rfl⟩ rfl rfl rfl rfl rfl (by kernel_rfl) Tryz.func18 (by unfold joinedFacts;rw[Qur,Quh,Qub,Qu1];kernel_rfl)
  (of_decide_eq_true (by kernel_rfl)) (by unfold Func.isWrapper;first|(rw[if_pos (by decide +kernel)];kernel_rfl)|(rw[if_neg (by decide +kernel)];exact ⟨rfl,rfl⟩))
  (fun os started H enc _=>Qob os started H enc)
end Go.Proofs.YtogckmommodmhaaGreatDoor
