/- The statement NatPlays is proved: for every list of acts, each reply and the time, and at the end the table and the flows, are exactly those of the document. No conditions. -/
import Derived.Test.YtogckmommodmhaaGreatDoorZxNatPlaysJ
namespace Go.Proofs.YtogckmommodmhaaGreatDoor
open Go.ChangeShapes Go.WideShapes Go.ChangeAt Go.RowKit
open Go.RowKit
set_option linter.all false
set_option maxRecDepth 100000
theorem TK:false=Tryz.pinned.checked.prog.looks []:=by kernel_rfl
theorem TL:false=Rows.natPlaysRow.goesBy Tryz.pinned.checked.prog:=by kernel_rfl
theorem NatPlays_holds:Rows.NatPlaysCardSaid :=
 Claim7.holds_tied_plain_at .later [] [.data] true _ false
  TJ (fun _ h=>by cases h) (by kernel_rfl) (fun _ h=>by cases h) natPlays_row_tie rfl ⟨rfl,rfl⟩ (by kernel_rfl) rfl
  (fun f fn hf jB=>by
   obtain rfl : f = 5 := Option.some.inj ((show Tryz.prog.funcNamed "rentroll/rentrolllaw.NatPlays" = some 5 by kernel_rfl).symm.trans hf) |>.symm
   obtain rfl:fn=Tryz.f5:=(Option.some.inj (Tryz.func5.symm.trans jB)).symm;exact ⟨TK,fun j t ht=>by
    rw[Tryz.params5]at ht;have hm:t ∈ [4,44]:=by simpa using Array.mem_of_getElem? ht
    have bl:([4,44].all fun u=>!Tryz.prog.wantsStandIn u)=true:=by kernel_rfl
    exact (show Tryz.prog.wantsStandIn t=false by simpa using List.all_eq_true.1 bl t hm)⟩)
  TL
end Go.Proofs.YtogckmommodmhaaGreatDoor
