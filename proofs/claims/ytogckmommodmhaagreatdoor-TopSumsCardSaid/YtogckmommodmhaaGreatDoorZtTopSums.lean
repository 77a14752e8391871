/- The statement TopSums is proved: for every list of acts, all that is sent has right checks. No conditions. -/
import Derived.Test.YtogckmommodmhaaGreatDoorZtTopSumsJ
set_option maxHeartbeats 16000000
namespace Go.Proofs.YtogckmommodmhaaGreatDoor
open Go.ChangeShapes Go.WideShapes Go.ChangeAt Go.RowKit
open Go.RowKit
set_option linter.all false
set_option linter.unusedSimpArgs false
set_option maxRecDepth 100000
theorem Xo0:false=Tryz.pinned.checked.prog.looks []:=by kernel_rfl
theorem Xkv:false=Rows.topSumsRow.goesBy Tryz.pinned.checked.prog:=by kernel_rfl
theorem TopSums_holds:Rows.TopSumsCardSaid :=
 Claim7.holds_tied_plain_at .later [] [.data] true _ false
  Qtl (fun _ h=>by cases h) (by kernel_rfl) (fun _ h=>by cases h) topSums_row_tie rfl ⟨rfl,rfl⟩ (by kernel_rfl) rfl
  (fun f fn hf lB=>by
   obtain rfl : f = 8 := Option.some.inj ((show Tryz.prog.funcNamed "rentroll/rentrolltop.TopSums" = some 8 by kernel_rfl).symm.trans hf) |>.symm
   obtain rfl:fn=Tryz.f8:=(Option.some.inj (Tryz.func8.symm.trans lB)).symm
   exact ⟨Xo0,fun j t ht=>by
    rw[Tryz.params8]at ht
    have hm:t ∈ [4,44]:=by simpa using Array.mem_of_getElem? ht
    have bO:([4,44].all fun u=>!Tryz.prog.wantsStandIn u)=true:=by kernel_rfl
    exact (show Tryz.prog.wantsStandIn t=false by simpa using List.all_eq_true.1 bO t hm)⟩)
  Xkv
end Go.Proofs.YtogckmommodmhaaGreatDoor
