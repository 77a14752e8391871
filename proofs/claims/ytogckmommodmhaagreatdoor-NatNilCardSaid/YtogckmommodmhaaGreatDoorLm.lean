/- From a contract to the row of a statement that lists record.fields. No conditions but the ones that stand in each. -/
import Derived.Test.YtogckmommodmhaaGreatDoorFrameL
namespace Go.Proofs.YtogckmommodmhaaGreatDoor
set_option linter.all false
open Go.RowKit Go.ChangeShapes Go.WideShapes

theorem PS.law {f : FuncId} {args : List AV} {vs : List Value} {W : World} (h : PS Tryz.prog glF f args (.bool true)) (hg : ∀ i, VR (fun _ => .un) (fun _ => False) W (glF i) (.pointer (some ⟨i, 0, none⟩))) (hv : VRs (fun _ => .un) (fun _ => False) W args vs) :
    Calls Tryz.prog f vs.toArray W fun e W' => e = .returned (.bool true) ∧ Below W.heap.size W W' :=
  (h.2 W vs (fun _ => False) (fun _ h => h.elim) hg hv).mono fun e w' ⟨u, e1, e2, e3⟩ => by
    cases e2
    exact ⟨e1, ⟨e3.os, e3.tape, e3.output, e3.size, fun k hk => e3.keep k hk fun h => h.elim⟩⟩
end Go.Proofs.YtogckmommodmhaaGreatDoor
