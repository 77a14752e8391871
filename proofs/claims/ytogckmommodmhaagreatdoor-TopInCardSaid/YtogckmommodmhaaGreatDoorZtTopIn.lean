/- The statement TopIn is proved: for every list of acts, what comes in goes to just that port which the outer port stands for, is otherwise as it was, and moves nothing. No conditions. -/
import Derived.Test.YtogckmommodmhaaGreatDoorZtTopInJ
set_option maxHeartbeats 16000000
namespace Go.Proofs.YtogckmommodmhaaGreatDoor
open Go.ChangeShapes Go.WideShapes Go.ChangeAt Go.RowKit
open Go.RowKit
set_option linter.all false
set_option linter.unusedSimpArgs false
set_option maxRecDepth 100000
theorem Yb2:false=Tryz.pinned.checked.prog.looks []:=by kernel_rfl
theorem Yc9:false=Rows.topInRow.goesBy Tryz.pinned.checked.prog:=by kernel_rfl
theorem TopIn_holds:Rows.TopInCardSaid :=
 Claim7.holds_tied_plain_at .later [] [.data] true _ false
  Xf4 (fun _ h=>by cases h) (by kernel_rfl) (fun _ h=>by cases h) topIn_row_tie rfl ⟨rfl,rfl⟩ (by kernel_rfl) rfl
  (fun f fn hf lB=>by
   obtain rfl : f = 10 := Option.some.inj ((show Tryz.prog.funcNamed "rentroll/rentrolltop.TopIn" = some 10 by kernel_rfl).symm.trans hf) |>.symm
   obtain rfl:fn=Tryz.f10:=(Option.some.inj (Tryz.func10.symm.trans lB)).symm
   exact ⟨Yb2,fun j t ht=>by
    rw[Tryz.params10]at ht
    have hm:t ∈ [4,44]:=by simpa using Array.mem_of_getElem? ht
    have bO:([4,44].all fun u=>!Tryz.prog.wantsStandIn u)=true:=by kernel_rfl
    exact (show Tryz.prog.wantsStandIn t=false by simpa using List.all_eq_true.1 bO t hm)⟩)
  Yc9
end Go.Proofs.YtogckmommodmhaaGreatDoor
