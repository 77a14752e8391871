/- The statement TopRefused is proved: for every list of acts, one more that is refused moves nothing, but for what was done on its way out where it comes back in. No conditions. -/
import Derived.Test.YtogckmommodmhaaGreatDoorZrTopRefusedJ
namespace Go.Proofs.YtogckmommodmhaaGreatDoor
open Go.ChangeShapes Go.WideShapes Go.ChangeAt Go.RowKit
open Go.RowKit
set_option linter.all false
set_option linter.unusedSimpArgs false
set_option maxRecDepth 100000
theorem Qun:false=Tryz.pinned.checked.prog.looks []:=by kernel_rfl
theorem Qtz:false=Rows.topRefusedRow.goesBy Tryz.pinned.checked.prog:=by kernel_rfl
theorem TopRefused_holds:Rows.TopRefusedCardSaid :=
 Claim7.holds_tied_plain_at .later [] [.data] true _ false
  Qnn (fun _ h=>by cases h) (by kernel_rfl) (fun _ h=>by cases h) topRefused_row_tie rfl ⟨rfl,rfl⟩ (by kernel_rfl) rfl
  (fun f fn hf hfn=>by
   obtain rfl : f = 17 := Option.some.inj ((show Tryz.prog.funcNamed "rentroll/rentrolltop.TopRefused" = some 17 by kernel_rfl).symm.trans hf) |>.symm
   obtain rfl:fn=Tryz.f17:=(Option.some.inj (Tryz.func17.symm.trans hfn)).symm
   exact ⟨Qun,fun j t ht=>by
    rw[Tryz.params17]at ht
    have hm:t ∈ [4,44,23]:=by simpa using Array.mem_of_getElem? ht
    have hall:([4,44,23].all fun u=>!Tryz.prog.wantsStandIn u)=true:=by kernel_rfl
    exact (show Tryz.prog.wantsStandIn t=false by simpa using List.all_eq_true.1 hall t hm)⟩)
  Qtz
end Go.Proofs.YtogckmommodmhaaGreatDoor
