/- The statement NatRuns is proved: for every list of acts, Run answers exactly the replies of the document, or ErrFull. No conditions. -/
import Derived.Test.YtogckmommodmhaaGreatDoorZyNatRunsJ
namespace Go.Proofs.YtogckmommodmhaaGreatDoor
open Go.ChangeShapes Go.WideShapes Go.ChangeAt Go.RowKit
open Go.RowKit
set_option linter.all false
set_option maxRecDepth 100000
theorem Tv:false=Tryz.pinned.checked.prog.looks []:=by kernel_rfl
theorem Tw:false=Rows.natRunsRow.goesBy Tryz.pinned.checked.prog:=by kernel_rfl
theorem NatRuns_holds:Rows.NatRunsCardSaid :=
 Claim7.holds_tied_plain_at .later [] [.data] true _ false
  Tu (fun _ h=>by cases h) (by kernel_rfl) (fun _ h=>by cases h) natRuns_row_tie rfl ⟨rfl,rfl⟩ (by kernel_rfl) rfl
  (fun f fn hf kO=>by
   obtain rfl : f = 4 := Option.some.inj ((show Tryz.prog.funcNamed "rentroll/rentrolllaw.NatRuns" = some 4 by kernel_rfl).symm.trans hf) |>.symm
   obtain rfl:fn=Tryz.f4:=(Option.some.inj (Tryz.func4.symm.trans kO)).symm;exact ⟨Tv,fun j t ht=>by
    rw[Tryz.params4]at ht;have hm:t ∈ [4,44]:=by simpa using Array.mem_of_getElem? ht
    have bl:([4,44].all fun u=>!Tryz.prog.wantsStandIn u)=true:=by kernel_rfl
    exact (show Tryz.prog.wantsStandIn t=false by simpa using List.all_eq_true.1 bl t hm)⟩)
  Tw
end Go.Proofs.YtogckmommodmhaaGreatDoor
