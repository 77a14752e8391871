/- The statement TopQuiet is proved: for every list of acts, when nothing is heard for as long as a flow may last, no flow, map or block is left, and the log says so. No conditions. -/
import Derived.Test.YtogckmommodmhaaGreatDoorZvTopQuietJ
namespace Go.Proofs.YtogckmommodmhaaGreatDoor
open Go.ChangeShapes Go.WideShapes Go.ChangeAt Go.RowKit
open Go.RowKit
set_option linter.all false
set_option linter.unusedSimpArgs false
set_option maxRecDepth 100000
theorem Xhv:false=Tryz.pinned.checked.prog.looks []:=by kernel_rfl
theorem Xev:false=Rows.topQuietRow.goesBy Tryz.pinned.checked.prog:=by kernel_rfl
theorem TopQuiet_holds:Rows.TopQuietCardSaid :=
 Claim7.holds_tied_plain_at .later [] [.data] true _ false
  Qt0 (fun _ h=>by cases h) (by kernel_rfl) (fun _ h=>by cases h) topQuiet_row_tie rfl ⟨rfl,rfl⟩ (by kernel_rfl) rfl
  (fun f fn hf mD=>by
   obtain rfl : f = 19 := Option.some.inj ((show Tryz.prog.funcNamed "rentroll/rentrolltop.TopQuiet" = some 19 by kernel_rfl).symm.trans hf) |>.symm
   obtain rfl:fn=Tryz.f19:=(Option.some.inj (Tryz.func19.symm.trans mD)).symm
   exact ⟨Xhv,fun j t ht=>by
    rw[Tryz.params19]at ht
    have hm:t ∈ [4,44]:=by simpa using Array.mem_of_getElem? ht
    have b8:([4,44].all fun u=>!Tryz.prog.wantsStandIn u)=true:=by kernel_rfl
    exact (show Tryz.prog.wantsStandIn t=false by simpa using List.all_eq_true.1 b8 t hm)⟩)
  Xev
end Go.Proofs.YtogckmommodmhaaGreatDoor
