/- Small things for walks. No conditions. -/
import Derived.Test.YtblimjilinkmbaaAw
namespace Go.Proofs.Ytblimjilinkmbaa
set_option linter.all false
set_option linter.unusedSimpArgs false
open Go.RowKit

section
variable {P : Program} {c : Cx}
theorem z1 {o : TOp} {r : List TOp} {K : St → Prop} {s : St} (h : PendR P c o r K s) : PendR P c o r K s := h
theorem z2 {t : TC} {Q : EX → St → Prop} {s : St} (h : xw P c t Q s) : xw P c t Q s := h
theorem z3 {anc : List Nat} {o : TOp} {r : List TOp} {fs : List Foot} {K : St → Prop} {s : St} (h : PendDR P c anc o r fs K s) : PendDR P c anc o r fs K s := h
end
attribute [go_sem] if_true if_false List.length_replicate List.length_take List.length_drop List.length_set List.length_cons List.length_nil decide_true decide_false bne_self_eq_false beq_self_eq_true
end Go.Proofs.Ytblimjilinkmbaa
