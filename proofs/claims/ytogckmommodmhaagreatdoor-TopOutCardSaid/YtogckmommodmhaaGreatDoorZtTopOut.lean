/- The statement TopOut is proved: for every list of acts, what goes out comes from the port that stands for its sender, and is otherwise as it was but for its time to live. No conditions. -/
import Derived.Test.YtogckmommodmhaaGreatDoorZtTopOutJ
set_option maxHeartbeats 16000000
namespace Go.Proofs.YtogckmommodmhaaGreatDoor
open Go.ChangeShapes Go.WideShapes Go.ChangeAt Go.RowKit
open Go.RowKit
set_option linter.all false
set_option linter.unusedSimpArgs false
set_option maxRecDepth 100000
theorem Xx5:false=Tryz.pinned.checked.prog.looks []:=by kernel_rfl
theorem Xs1:false=Rows.topOutRow.goesBy Tryz.pinned.checked.prog:=by kernel_rfl
theorem TopOut_holds:Rows.TopOutCardSaid :=
 Claim7.holds_tied_plain_at .later [] [.data] true _ false
  Qyt (fun _ h=>by cases h) (by kernel_rfl) (fun _ h=>by cases h) topOut_row_tie rfl ⟨rfl,rfl⟩ (by kernel_rfl) rfl
  (fun f fn hf lB=>by
   obtain rfl : f = 9 := Option.some.inj ((show Tryz.prog.funcNamed "rentroll/rentrolltop.TopOut" = some 9 by kernel_rfl).symm.trans hf) |>.symm
   obtain rfl:fn=Tryz.f9:=(Option.some.inj (Tryz.func9.symm.trans lB)).symm
   exact ⟨Xx5,fun j t ht=>by
    rw[Tryz.params9]at ht
    have hm:t ∈ [4,44]:=by simpa using Array.mem_of_getElem? ht
    have bO:([4,44].all fun u=>!Tryz.prog.wantsStandIn u)=true:=by kernel_rfl
    exact (show Tryz.prog.wantsStandIn t=false by simpa using List.all_eq_true.1 bO t hm)⟩)
  Xs1
end Go.Proofs.YtogckmommodmhaaGreatDoor
