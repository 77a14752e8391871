/- The statement TopRate is proved: for every list of acts, no more refusals are told at once than allowed, one more at each tick, and each has the first bytes of what was refused. No conditions. -/
import Derived.Test.YtogckmommodmhaaGreatDoorZtTopRateJ
set_option maxHeartbeats 16000000
namespace Go.Proofs.YtogckmommodmhaaGreatDoor
open Go.ChangeShapes Go.WideShapes Go.ChangeAt Go.RowKit
open Go.RowKit
set_option linter.all false
set_option linter.unusedSimpArgs false
set_option maxRecDepth 100000
theorem Xp9:false=Tryz.pinned.checked.prog.looks []:=by kernel_rfl
theorem Xly:false=Rows.topRateRow.goesBy Tryz.pinned.checked.prog:=by kernel_rfl
theorem TopRate_holds:Rows.TopRateCardSaid :=
 Claim7.holds_tied_plain_at .later [] [.data] true _ false
  Qx0 (fun _ h=>by cases h) (by kernel_rfl) (fun _ h=>by cases h) topRate_row_tie rfl ⟨rfl,rfl⟩ (by kernel_rfl) rfl
  (fun f fn hf lB=>by
   obtain rfl : f = 7 := Option.some.inj ((show Tryz.prog.funcNamed "rentroll/rentrolltop.TopRate" = some 7 by kernel_rfl).symm.trans hf) |>.symm
   obtain rfl:fn=Tryz.f7:=(Option.some.inj (Tryz.func7.symm.trans lB)).symm
   exact ⟨Xp9,fun j t ht=>by
    rw[Tryz.params7]at ht
    have hm:t ∈ [4,44]:=by simpa using Array.mem_of_getElem? ht
    have bO:([4,44].all fun u=>!Tryz.prog.wantsStandIn u)=true:=by kernel_rfl
    exact (show Tryz.prog.wantsStandIn t=false by simpa using List.all_eq_true.1 bO t hm)⟩)
  Xly
end Go.Proofs.YtogckmommodmhaaGreatDoor
