/- The statement TopStrangers is proved: for every list of acts on a road that is not loose, one to whom a port has not sent gets nothing in to it, and moves nothing. No conditions. -/
import Derived.Test.YtogckmommodmhaaGreatDoorZrTopStrangersJ
namespace Go.Proofs.YtogckmommodmhaaGreatDoor
open Go.ChangeShapes Go.WideShapes Go.ChangeAt Go.RowKit
open Go.RowKit
set_option linter.all false
set_option linter.unusedSimpArgs false
set_option maxRecDepth 100000
theorem Qoe:false=Tryz.pinned.checked.prog.looks []:=by kernel_rfl
theorem Qor:false=Rows.topStrangersRow.goesBy Tryz.pinned.checked.prog:=by kernel_rfl
theorem TopStrangers_holds:Rows.TopStrangersCardSaid :=
 Claim7.holds_tied_plain_at .later [] [.data] true _ false
  Qkz (fun _ h=>by cases h) (by kernel_rfl) (fun _ h=>by cases h) topStrangers_row_tie rfl ⟨rfl,rfl⟩ (by kernel_rfl) rfl
  (fun f fn hf hfn=>by
   obtain rfl : f = 11 := Option.some.inj ((show Tryz.prog.funcNamed "rentroll/rentrolltop.TopStrangers" = some 11 by kernel_rfl).symm.trans hf) |>.symm
   obtain rfl:fn=Tryz.f11:=(Option.some.inj (Tryz.func11.symm.trans hfn)).symm
   exact ⟨Qoe,fun j t ht=>by
    rw[Tryz.params11]at ht
    have hm:t ∈ [44,3,3,3,3]:=by simpa using Array.mem_of_getElem? ht
    have hall:([44,3,3,3,3].all fun u=>!Tryz.prog.wantsStandIn u)=true:=by kernel_rfl
    exact (show Tryz.prog.wantsStandIn t=false by simpa using List.all_eq_true.1 hall t hm)⟩)
  Qor
end Go.Proofs.YtogckmommodmhaaGreatDoor
