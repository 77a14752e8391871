import Derived.Test.YtogckmommodmhaaGreatDoorZyNatRunsI
namespace Go.Proofs.YtogckmommodmhaaGreatDoor
open Go.ChangeShapes Go.WideShapes Go.ChangeAt Go.RowKit
open Go.RowKit
set_option linter.all false
set_option maxRecDepth 100000
theorem Tp:(Rows.natRunsRow.inPlace==Tryz.pinned.checked.prog.inPlace 4)=true:=by kernel_rfl
theorem Tq:(Rows.natRunsRow.unfollowed==Tryz.pinned.checked.prog.unfollowed 4)=true:=by kernel_rfl
theorem Tr:(Rows.natRunsRow.recurses==Tryz.pinned.checked.prog.recurses 4)=true:=by kernel_rfl
theorem Tt:(Rows.natRunsRow.named==Tryz.pinned.checked.prog.varsNamed 4)=true:=by kernel_rfl
theorem Tu:Rows.natRunsRow.holds Tryz.pinned (OpenSpec.ofChange Rows.natRunsSpec) :=
 OpenClaim.holds_of_wide 4 Tryz.f4 rfl rfl rfl rfl rfl rfl rfl ⟨rfl,rfl,rfl,rfl,rfl⟩ rfl rfl rfl rfl rfl (by kernel_rfl) Tryz.func4 (by unfold joinedFacts;rw[Tp,Tq,Tr,Tt];kernel_rfl)
  (ap (by kernel_rfl)) (by unfold Func.isWrapper;first|(rw[am (by decide +kernel)];kernel_rfl)|(rw[aa (by decide +kernel)];exact ⟨rfl,rfl⟩))
  (fun os started H enc _=>Tj os started H enc)
end Go.Proofs.YtogckmommodmhaaGreatDoor
