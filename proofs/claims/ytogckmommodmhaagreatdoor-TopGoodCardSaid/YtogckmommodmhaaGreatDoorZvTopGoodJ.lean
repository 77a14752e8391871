import Derived.Test.YtogckmommodmhaaGreatDoorZvTopGoodI
namespace Go.Proofs.YtogckmommodmhaaGreatDoor
open Go.ChangeShapes Go.WideShapes Go.ChangeAt Go.RowKit
open Go.RowKit
set_option linter.all false
set_option linter.unusedSimpArgs false
set_option maxRecDepth 100000
theorem Xh3:(Rows.topGoodRow.inPlace == Tryz.pinned.checked.prog.inPlace 16)=true:=by kernel_rfl
theorem Xi0:(Rows.topGoodRow.unfollowed == Tryz.pinned.checked.prog.unfollowed 16)=true:=by kernel_rfl
theorem Xdd:(Rows.topGoodRow.recurses == Tryz.pinned.checked.prog.recurses 16)=true:=by kernel_rfl
theorem Xid:(Rows.topGoodRow.named == Tryz.pinned.checked.prog.varsNamed 16)=true:=by kernel_rfl
theorem Qx6:Rows.topGoodRow.holds Tryz.pinned (OpenSpec.ofChange Rows.topGoodSpec) :=
 OpenClaim.holds_of_wide 16 Tryz.f16 rfl rfl rfl rfl rfl rfl rfl ⟨rfl,rfl,rfl,rfl,rfl⟩ rfl rfl rfl rfl rfl (by kernel_rfl) Tryz.func16 (by unfold joinedFacts;rw[Xh3,Xi0,Xdd,Xid];kernel_rfl)
  (of_decide_eq_true (by kernel_rfl)) (by unfold Func.isWrapper;first|(rw[if_pos (by decide +kernel)];kernel_rfl)|(rw[if_neg (by decide +kernel)];exact ⟨rfl,rfl⟩))
  (fun os started H enc _=>Qrg os started H enc)
end Go.Proofs.YtogckmommodmhaaGreatDoor
