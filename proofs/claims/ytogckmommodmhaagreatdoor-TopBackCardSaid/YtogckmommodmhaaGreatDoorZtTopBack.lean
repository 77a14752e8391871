/- The statement TopBack is proved: for every list of acts, one who was sent to may answer, the answer comes to the sender, and what is sent to another goes from the same port. No conditions. -/
import Derived.Test.YtogckmommodmhaaGreatDoorZtTopBackJ
set_option maxHeartbeats 16000000
namespace Go.Proofs.YtogckmommodmhaaGreatDoor
open Go.ChangeShapes Go.WideShapes Go.ChangeAt Go.RowKit
open Go.RowKit
set_option linter.all false
set_option linter.unusedSimpArgs false
set_option maxRecDepth 100000
theorem Xo4:false=Tryz.pinned.checked.prog.looks []:=by kernel_rfl
theorem Xk4:false=Rows.topBackRow.goesBy Tryz.pinned.checked.prog:=by kernel_rfl
theorem TopBack_holds:Rows.TopBackCardSaid :=
 Claim7.holds_tied_plain_at .later [] [.data] true _ false
  Qvt (fun _ h=>by cases h) (by kernel_rfl) (fun _ h=>by cases h) topBack_row_tie rfl ⟨rfl,rfl⟩ (by kernel_rfl) rfl
  (fun f fn hf lB=>by
   obtain rfl : f = 6 := Option.some.inj ((show Tryz.prog.funcNamed "rentroll/rentrolltop.TopBack" = some 6 by kernel_rfl).symm.trans hf) |>.symm
   obtain rfl:fn=Tryz.f6:=(Option.some.inj (Tryz.func6.symm.trans lB)).symm
   exact ⟨Xo4,fun j t ht=>by
    rw[Tryz.params6]at ht
    have hm:t ∈ [4,44,3,3,3,3,3]:=by simpa using Array.mem_of_getElem? ht
    have bO:([4,44,3,3,3,3,3].all fun u=>!Tryz.prog.wantsStandIn u)=true:=by kernel_rfl
    exact (show Tryz.prog.wantsStandIn t=false by simpa using List.all_eq_true.1 bO t hm)⟩)
  Xk4
end Go.Proofs.YtogckmommodmhaaGreatDoor
