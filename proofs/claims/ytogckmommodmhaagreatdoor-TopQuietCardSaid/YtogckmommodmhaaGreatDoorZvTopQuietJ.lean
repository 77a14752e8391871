import Derived.Test.YtogckmommodmhaaGreatDoorZvTopQuietI
namespace Go.Proofs.YtogckmommodmhaaGreatDoor
open Go.ChangeShapes Go.WideShapes Go.ChangeAt Go.RowKit
open Go.RowKit
set_option linter.all false
set_option linter.unusedSimpArgs false
set_option maxRecDepth 100000
theorem Xb4:(Rows.topQuietRow.inPlace == Tryz.pinned.checked.prog.inPlace 19)=true:=by kernel_rfl
theorem Qyu:(Rows.topQuietRow.unfollowed == Tryz.pinned.checked.prog.unfollowed 19)=true:=by kernel_rfl
theorem Qzp:(Rows.topQuietRow.recurses == Tryz.pinned.checked.prog.recurses 19)=true:=by kernel_rfl
theorem Qzk:(Rows.topQuietRow.named == Tryz.pinned.checked.prog.varsNamed 19)=true:=by kernel_rfl
theorem Qt0:Rows.topQuietRow.holds Tryz.pinned (OpenSpec.ofChange Rows.topQuietSpec) :=
 OpenClaim.holds_of_wide 19 Tryz.f19 rfl rfl rfl rfl rfl rfl rfl ⟨rfl,rfl,rfl,rfl,rfl⟩ rfl rfl rfl rfl rfl (by kernel_rfl) Tryz.func19 (by unfold joinedFacts;rw[Xb4,Qyu,Qzp,Qzk];kernel_rfl)
  (of_decide_eq_true (by kernel_rfl)) (by unfold Func.isWrapper;first|(rw[if_pos (by decide +kernel)];kernel_rfl)|(rw[if_neg (by decide +kernel)];exact ⟨rfl,rfl⟩))
  (fun os started H enc _=>Qom os started H enc)
end Go.Proofs.YtogckmommodmhaaGreatDoor
