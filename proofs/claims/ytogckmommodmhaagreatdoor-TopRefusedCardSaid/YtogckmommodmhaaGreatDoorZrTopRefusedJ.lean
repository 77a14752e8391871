import Derived.Test.YtogckmommodmhaaGreatDoorZrTopRefusedI
namespace Go.Proofs.YtogckmommodmhaaGreatDoor
open Go.ChangeShapes Go.WideShapes Go.ChangeAt Go.RowKit
open Go.RowKit
set_option linter.all false
set_option linter.unusedSimpArgs false
set_option maxRecDepth 100000
theorem Qr1:(Rows.topRefusedRow.inPlace == Tryz.pinned.checked.prog.inPlace 17)=true:=by kernel_rfl
theorem Qqm:(Rows.topRefusedRow.unfollowed == Tryz.pinned.checked.prog.unfollowed 17)=true:=by kernel_rfl
theorem Qqk:(Rows.topRefusedRow.recurses == Tryz.pinned.checked.prog.recurses 17)=true:=by kernel_rfl
theorem Qqv:(Rows.topRefusedRow.named == Tryz.pinned.checked.prog.varsNamed 17)=true:=by kernel_rfl
theorem Qnn:Rows.topRefusedRow.holds Tryz.pinned (OpenSpec.ofChange Rows.topRefusedSpec) :=
 OpenClaim.holds_of_wide 17 Tryz.f17 rfl rfl rfl rfl rfl rfl rfl ⟨rfl,rfl,rfl,rfl,rfl⟩ rfl rfl rfl rfl rfl (by kernel_rfl) Tryz.func17 (by unfold joinedFacts;rw[Qr1,Qqm,Qqk,Qqv];kernel_rfl)
  (of_decide_eq_true (by kernel_rfl)) (by unfold Func.isWrapper;first|(rw[if_pos (by decide +kernel)];kernel_rfl)|(rw[if_neg (by decide +kernel)];exact ⟨rfl,rfl⟩))
  (fun os started H enc _=>Ql0 os started H enc)
end Go.Proofs.YtogckmommodmhaaGreatDoor
