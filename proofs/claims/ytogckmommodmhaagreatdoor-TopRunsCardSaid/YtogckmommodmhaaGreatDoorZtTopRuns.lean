/- The statement TopRuns is proved: for every list of acts, what is replied to a beginning of it is a beginning of the replies. No conditions. -/
import Derived.Test.YtogckmommodmhaaGreatDoorZtTopRunsJ
set_option maxHeartbeats 16000000
namespace Go.Proofs.YtogckmommodmhaaGreatDoor
open Go.ChangeShapes Go.WideShapes Go.ChangeAt Go.RowKit
open Go.RowKit
set_option linter.all false
set_option linter.unusedSimpArgs false
set_option maxRecDepth 100000
theorem Xny:false=Tryz.pinned.checked.prog.looks []:=by kernel_rfl
theorem Xnw:false=Rows.topRunsRow.goesBy Tryz.pinned.checked.prog:=by kernel_rfl
theorem TopRuns_holds:Rows.TopRunsCardSaid :=
 Claim7.holds_tied_plain_at .later [] [.data] true _ false
  Qum (fun _ h=>by cases h) (by kernel_rfl) (fun _ h=>by cases h) topRuns_row_tie rfl ⟨rfl,rfl⟩ (by kernel_rfl) rfl
  (fun f fn hf lB=>by
   obtain rfl : f = 15 := Option.some.inj ((show Tryz.prog.funcNamed "rentroll/rentrolltop.TopRuns" = some 15 by kernel_rfl).symm.trans hf) |>.symm
   obtain rfl:fn=Tryz.f15:=(Option.some.inj (Tryz.func15.symm.trans lB)).symm
   exact ⟨Xny,fun j t ht=>by
    rw[Tryz.params15]at ht
    have hm:t ∈ [4,44,3]:=by simpa using Array.mem_of_getElem? ht
    have bO:([4,44,3].all fun u=>!Tryz.prog.wantsStandIn u)=true:=by kernel_rfl
    exact (show Tryz.prog.wantsStandIn t=false by simpa using List.all_eq_true.1 bO t hm)⟩)
  Xnw
end Go.Proofs.YtogckmommodmhaaGreatDoor
