/- The statement TopGood is proved: for every list of acts, behind each the table is good, maps and flows belong to each other one to one, no two flows are alike, and none is over. No conditions. -/
import Derived.Test.YtogckmommodmhaaGreatDoorZvTopGoodJ
namespace Go.Proofs.YtogckmommodmhaaGreatDoor
open Go.ChangeShapes Go.WideShapes Go.ChangeAt Go.RowKit
open Go.RowKit
set_option linter.all false
set_option linter.unusedSimpArgs false
set_option maxRecDepth 100000
theorem Xmn:false=Tryz.pinned.checked.prog.looks []:=by kernel_rfl
theorem Xqt:false=Rows.topGoodRow.goesBy Tryz.pinned.checked.prog:=by kernel_rfl
theorem TopGood_holds:Rows.TopGoodCardSaid :=
 Claim7.holds_tied_plain_at .later [] [.data] true _ false
  Qx6 (fun _ h=>by cases h) (by kernel_rfl) (fun _ h=>by cases h) topGood_row_tie rfl ⟨rfl,rfl⟩ (by kernel_rfl) rfl
  (fun f fn hf mD=>by
   obtain rfl : f = 16 := Option.some.inj ((show Tryz.prog.funcNamed "rentroll/rentrolltop.TopGood" = some 16 by kernel_rfl).symm.trans hf) |>.symm
   obtain rfl:fn=Tryz.f16:=(Option.some.inj (Tryz.func16.symm.trans mD)).symm
   exact ⟨Xmn,fun j t ht=>by
    rw[Tryz.params16]at ht
    have hm:t ∈ [4,44]:=by simpa using Array.mem_of_getElem? ht
    have b8:([4,44].all fun u=>!Tryz.prog.wantsStandIn u)=true:=by kernel_rfl
    exact (show Tryz.prog.wantsStandIn t=false by simpa using List.all_eq_true.1 b8 t hm)⟩)
  Xqt
end Go.Proofs.YtogckmommodmhaaGreatDoor
