/- The statement TopEnds is proved: for every list of acts, behind as many as are allowed each one more is refused and changes nothing. No conditions. -/
import Derived.Test.YtogckmommodmhaaGreatDoorZrTopEndsJ
namespace Go.Proofs.YtogckmommodmhaaGreatDoor
open Go.ChangeShapes Go.WideShapes Go.ChangeAt Go.RowKit
open Go.RowKit
set_option linter.all false
set_option linter.unusedSimpArgs false
set_option maxRecDepth 100000
theorem Xn6:false=Tryz.pinned.checked.prog.looks []:=by kernel_rfl
theorem Xh5:false=Rows.topEndsRow.goesBy Tryz.pinned.checked.prog:=by kernel_rfl
theorem TopEnds_holds:Rows.TopEndsCardSaid :=
 Claim7.holds_tied_plain_at .later [] [.data] true _ false
  Qvm (fun _ h=>by cases h) (by kernel_rfl) (fun _ h=>by cases h) topEnds_row_tie rfl ⟨rfl,rfl⟩ (by kernel_rfl) rfl
  (fun f fn hf hfn=>by
   obtain rfl : f = 13 := Option.some.inj ((show Tryz.prog.funcNamed "rentroll/rentrolltop.TopEnds" = some 13 by kernel_rfl).symm.trans hf) |>.symm
   obtain rfl:fn=Tryz.f13:=(Option.some.inj (Tryz.func13.symm.trans hfn)).symm
   exact ⟨Xn6,fun j t ht=>by
    rw[Tryz.params13]at ht
    have hm:t ∈ [4,44,23]:=by simpa using Array.mem_of_getElem? ht
    have hall:([4,44,23].all fun u=>!Tryz.prog.wantsStandIn u)=true:=by kernel_rfl
    exact (show Tryz.prog.wantsStandIn t=false by simpa using List.all_eq_true.1 hall t hm)⟩)
  Xh5
end Go.Proofs.YtogckmommodmhaaGreatDoor
