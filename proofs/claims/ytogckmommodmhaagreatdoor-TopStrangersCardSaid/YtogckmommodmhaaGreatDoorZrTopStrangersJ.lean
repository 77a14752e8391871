import Derived.Test.YtogckmommodmhaaGreatDoorZrTopStrangersI
namespace Go.Proofs.YtogckmommodmhaaGreatDoor
open Go.ChangeShapes Go.WideShapes Go.ChangeAt Go.RowKit
open Go.RowKit
set_option linter.all false
set_option linter.unusedSimpArgs false
set_option maxRecDepth 100000
theorem Qmv:(Rows.topStrangersRow.inPlace == Tryz.pinned.checked.prog.inPlace 11)=true:=by kernel_rfl
theorem Qn3:(Rows.topStrangersRow.unfollowed == Tryz.pinned.checked.prog.unfollowed 11)=true:=by kernel_rfl
theorem Qmg:(Rows.topStrangersRow.recurses == Tryz.pinned.checked.prog.recurses 11)=true:=by kernel_rfl
theorem Qni:(Rows.topStrangersRow.named == Tryz.pinned.checked.prog.varsNamed 11)=true:=by kernel_rfl
theorem Qkz:Rows.topStrangersRow.holds Tryz.pinned (OpenSpec.ofChange Rows.topStrangersSpec) :=
 OpenClaim.holds_of_wide 11 Tryz.f11 rfl rfl rfl rfl rfl rfl rfl ⟨rfl,rfl,rfl,rfl,rfl⟩ rfl rfl rfl rfl rfl (by kernel_rfl) Tryz.func11 (by unfold joinedFacts;rw[Qmv,Qn3,Qmg,Qni];kernel_rfl)
  (of_decide_eq_true (by kernel_rfl)) (by unfold Func.isWrapper;first|(rw[if_pos (by decide +kernel)];kernel_rfl)|(rw[if_neg (by decide +kernel)];exact ⟨rfl,rfl⟩))
  (fun os started H enc _=>Qis os started H enc)
end Go.Proofs.YtogckmommodmhaaGreatDoor
