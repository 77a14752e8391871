import Derived.Test.YtogckmommodmhaaGreatDoorZrTopEndsI
namespace Go.Proofs.YtogckmommodmhaaGreatDoor
open Go.ChangeShapes Go.WideShapes Go.ChangeAt Go.RowKit
open Go.RowKit
set_option linter.all false
set_option linter.unusedSimpArgs false
set_option maxRecDepth 100000
theorem Xb1:(Rows.topEndsRow.inPlace == Tryz.pinned.checked.prog.inPlace 13)=true:=by kernel_rfl
theorem Xed:(Rows.topEndsRow.unfollowed == Tryz.pinned.checked.prog.unfollowed 13)=true:=by kernel_rfl
theorem Xdh:(Rows.topEndsRow.recurses == Tryz.pinned.checked.prog.recurses 13)=true:=by kernel_rfl
theorem Xbi:(Rows.topEndsRow.named == Tryz.pinned.checked.prog.varsNamed 13)=true:=by kernel_rfl
theorem Qvm:Rows.topEndsRow.holds Tryz.pinned (OpenSpec.ofChange Rows.topEndsSpec) :=
 OpenClaim.holds_of_wide 13 Tryz.f13 rfl rfl rfl rfl rfl rfl rfl ⟨rfl,rfl,rfl,rfl,rfl⟩ rfl rfl rfl rfl rfl (by kernel_rfl) Tryz.func13 (by unfold joinedFacts;rw[Xb1,Xed,Xdh,Xbi];kernel_rfl)
  (of_decide_eq_true (by kernel_rfl)) (by unfold Func.isWrapper;first|(rw[if_pos (by decide +kernel)];kernel_rfl)|(rw[if_neg (by decide +kernel)];exact ⟨rfl,rfl⟩))
  (fun os started H enc _=>Qo8 os started H enc)
end Go.Proofs.YtogckmommodmhaaGreatDoor
