/- The statement TopMemory is proved: for every list of acts, a road whose answers are written over answers as a road to which nothing is done. No conditions. -/
import Derived.Test.YtogckmommodmhaaGreatDoorZwTopMemoryJ
namespace Go.Proofs.YtogckmommodmhaaGreatDoor
open Go.ChangeShapes Go.WideShapes Go.ChangeAt Go.RowKit
open Go.RowKit
set_option linter.all false
set_option linter.unusedSimpArgs false
set_option maxRecDepth 100000
theorem Qyu:false=Tryz.pinned.checked.prog.looks []:=by kernel_rfl
theorem Xb1:false=Rows.topMemoryRow.goesBy Tryz.pinned.checked.prog:=by kernel_rfl
theorem TopMemory_holds:Rows.TopMemoryCardSaid :=
 Claim7.holds_tied_plain_at .later [] [.data] true _ false
  Qqo (fun _ h=>by cases h) (by kernel_rfl) (fun _ h=>by cases h) topMemory_row_tie rfl ⟨rfl,rfl⟩ (by kernel_rfl) rfl
  (fun f fn hf tW=>by
   obtain rfl : f = 12 := Option.some.inj ((show Tryz.prog.funcNamed "rentroll/rentrolltop.TopMemory" = some 12 by kernel_rfl).symm.trans hf) |>.symm
   obtain rfl:fn=Tryz.f12:=(Option.some.inj (Tryz.func12.symm.trans tW)).symm
   exact ⟨Qyu,fun j t ht=>by
    rw[Tryz.params12]at ht
    have hm:t ∈ [4,44]:=by simpa using Array.mem_of_getElem? ht
    have cg:([4,44].all fun u=>!Tryz.prog.wantsStandIn u)=true:=by kernel_rfl
    exact (show Tryz.prog.wantsStandIn t=false by simpa using List.all_eq_true.1 cg t hm)⟩)
  Xb1
end Go.Proofs.YtogckmommodmhaaGreatDoor
