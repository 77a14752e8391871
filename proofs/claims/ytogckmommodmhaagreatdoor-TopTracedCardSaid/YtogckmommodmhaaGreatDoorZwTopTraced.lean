/- The statement TopTraced is proved: for every list of acts, the log can be read at any time, says which block is whose, and what goes out is from a port of a block of its sender by the log alone. No conditions. -/
import Derived.Test.YtogckmommodmhaaGreatDoorZwTopTracedJ
namespace Go.Proofs.YtogckmommodmhaaGreatDoor
open Go.ChangeShapes Go.WideShapes Go.ChangeAt Go.RowKit
open Go.RowKit
set_option linter.all false
set_option linter.unusedSimpArgs false
set_option maxRecDepth 100000
theorem Xa9:false=Tryz.pinned.checked.prog.looks []:=by kernel_rfl
theorem Qyv:false=Rows.topTracedRow.goesBy Tryz.pinned.checked.prog:=by kernel_rfl
theorem TopTraced_holds:Rows.TopTracedCardSaid :=
 Claim7.holds_tied_plain_at .later [] [.data] true _ false
  Qqu (fun _ h=>by cases h) (by kernel_rfl) (fun _ h=>by cases h) topTraced_row_tie rfl ⟨rfl,rfl⟩ (by kernel_rfl) rfl
  (fun f fn hf tW=>by
   obtain rfl : f = 18 := Option.some.inj ((show Tryz.prog.funcNamed "rentroll/rentrolltop.TopTraced" = some 18 by kernel_rfl).symm.trans hf) |>.symm
   obtain rfl:fn=Tryz.f18:=(Option.some.inj (Tryz.func18.symm.trans tW)).symm
   exact ⟨Xa9,fun j t ht=>by
    rw[Tryz.params18]at ht
    have hm:t ∈ [4,44]:=by simpa using Array.mem_of_getElem? ht
    have cg:([4,44].all fun u=>!Tryz.prog.wantsStandIn u)=true:=by kernel_rfl
    exact (show Tryz.prog.wantsStandIn t=false by simpa using List.all_eq_true.1 cg t hm)⟩)
  Qyv
end Go.Proofs.YtogckmommodmhaaGreatDoor
