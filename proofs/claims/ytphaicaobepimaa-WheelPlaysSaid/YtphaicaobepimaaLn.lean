/- From a contract to a law's row. No conditions but the ones that stand in each. -/
import Derived.Test.YtphaicaobepimaaE3
import Derived.Test.YtphaicaobepimaaR0
namespace Go.Proofs.Ytphaicaobepimaa
set_option linter.all false
open Go.RowKit Go.ChangeShapes Go.WideShapes

theorem PS.lawN {f : FuncId} {args : List AV} {vs : List Value} {W : World} (h : PS Try.prog (fun _ => .any) f args (.bool true)) (hv : VRs (fun _ => .un) (fun _ => False) W args vs) :
    Calls Try.prog f vs.toArray W fun e W' => e = .returned (.bool true) ∧ Below W.heap.size W W' :=
  (h.2 W vs (fun _ => False) (fun _ h => h.elim) (fun _ => .any _) hv).mono fun e w' ⟨u, e1, e2, e3⟩ => by
    cases e2
    exact ⟨e1, ⟨e3.os, e3.tape, e3.output, e3.size, fun k hk => e3.keep k hk fun h => h.elim⟩⟩
end Go.Proofs.Ytphaicaobepimaa
