import Derived.Test.YtogckmommodmhaaGreatDoorZxNatPlaysI
namespace Go.Proofs.YtogckmommodmhaaGreatDoor
open Go.ChangeShapes Go.WideShapes Go.ChangeAt Go.RowKit
open Go.RowKit
set_option linter.all false
set_option maxRecDepth 100000
theorem TF:(Rows.natPlaysRow.inPlace==Tryz.pinned.checked.prog.inPlace 5)=true:=by kernel_rfl
theorem TG:(Rows.natPlaysRow.unfollowed==Tryz.pinned.checked.prog.unfollowed 5)=true:=by kernel_rfl
theorem TH:(Rows.natPlaysRow.recurses==Tryz.pinned.checked.prog.recurses 5)=true:=by kernel_rfl
theorem TI:(Rows.natPlaysRow.named==Tryz.pinned.checked.prog.varsNamed 5)=true:=by kernel_rfl
theorem TJ:Rows.natPlaysRow.holds Tryz.pinned (OpenSpec.ofChange Rows.natPlaysSpec) :=
 OpenClaim.holds_of_wide 5 Tryz.f5 rfl rfl rfl rfl rfl rfl rfl ⟨rfl,rfl,rfl,rfl,rfl⟩ rfl rfl rfl rfl rfl (by kernel_rfl) Tryz.func5 (by unfold joinedFacts;rw[TF,TG,TH,TI];kernel_rfl)
  (ap (by kernel_rfl)) (by unfold Func.isWrapper;first|(rw[am (by decide +kernel)];kernel_rfl)|(rw[aa (by decide +kernel)];exact ⟨rfl,rfl⟩))
  (fun os started H enc _=>TA os started H enc)
end Go.Proofs.YtogckmommodmhaaGreatDoor
