/- The statement TopDrained is proved: for every list of acts, nothing new is taken of an address that is drained, and it is empty just when all of it was given back. No conditions. -/
import Derived.Test.YtogckmommodmhaaGreatDoorZtTopDrainedJ
set_option maxHeartbeats 16000000
namespace Go.Proofs.YtogckmommodmhaaGreatDoor
open Go.ChangeShapes Go.WideShapes Go.ChangeAt Go.RowKit
open Go.RowKit
set_option linter.all false
set_option linter.unusedSimpArgs false
set_option maxRecDepth 100000
theorem Qti:false=Tryz.pinned.checked.prog.looks []:=by kernel_rfl
theorem Qub:false=Rows.topDrainedRow.goesBy Tryz.pinned.checked.prog:=by kernel_rfl
theorem TopDrained_holds:Rows.TopDrainedCardSaid :=
 Claim7.holds_tied_plain_at .later [] [.data] true _ false
  Qoj (fun _ h=>by cases h) (by kernel_rfl) (fun _ h=>by cases h) topDrained_row_tie rfl ⟨rfl,rfl⟩ (by kernel_rfl) rfl
  (fun f fn hf lB=>by
   obtain rfl : f = 14 := Option.some.inj ((show Tryz.prog.funcNamed "rentroll/rentrolltop.TopDrained" = some 14 by kernel_rfl).symm.trans hf) |>.symm
   obtain rfl:fn=Tryz.f14:=(Option.some.inj (Tryz.func14.symm.trans lB)).symm
   exact ⟨Qti,fun j t ht=>by
    rw[Tryz.params14]at ht
    have hm:t ∈ [4,44]:=by simpa using Array.mem_of_getElem? ht
    have bO:([4,44].all fun u=>!Tryz.prog.wantsStandIn u)=true:=by kernel_rfl
    exact (show Tryz.prog.wantsStandIn t=false by simpa using List.all_eq_true.1 bO t hm)⟩)
  Qub
end Go.Proofs.YtogckmommodmhaaGreatDoor
