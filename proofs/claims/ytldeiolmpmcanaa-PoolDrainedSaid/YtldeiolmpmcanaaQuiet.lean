/- A region that draws its order, whose operations read and whose callees make memory of their own alone: one walk, in the order of the text. No conditions but the ones that stand in each. -/
import Derived.Test.YtldeiolmpmcanaaBase
namespace Go.Proofs.Ytldeiolmpmcanaa
open Go.RowKit

/-- A world that w0 has grown into. -/
structure ExtW (w0 : World) where
  w : World
  h : Ext w0 w
instance (w0 : World) : Nonempty (ExtW w0) := ⟨⟨w0, Ext.refl w0⟩⟩
theorem ExtW.cell {w0 : World} (x : ExtW w0) {b : Nat} (hb : b < w0.heap.size) (o : Nat) : x.w.cell? ⟨b, o, none⟩ = w0.cell? ⟨b, o, none⟩ := x.h.cell hb

theorem wp_region_ext_lit {P : Program} {id : Nat} {Q : Exit → Act → World → Prop} {a : Act} {w : World} {l : List Oper} (hm : P.follows .mixedOrders = true) (hB : Region.lexB .any l.toArray = true)
    (h : wpQuiet P l.toArray (fun w' => ∃ x : ExtW w, w' = x.w) (fun a' => ∀ w', (∃ x : ExtW w, w' = x.w) → Q .normal a' w') l a) : (Code.region id l.toArray true).wp P Q a w :=
  wp_region_quiet (C := fun w' => ∃ x : ExtW w, w' = x.w) hm hB ⟨⟨_, Ext.drew w⟩, rfl⟩ (by simpa using h)

/-- A callee's contract, met in a world of the class. -/
theorem Calls.ext_of {P : Program} {f : FuncId} {args : Array Value} {w : World} {x : ExtW w} {v : Value}
    (h : Calls P f args x.w fun e w' => e = .returned v ∧ Ext x.w w') : Calls P f args x.w fun e w'' => e = .returned v ∧ ∃ y : ExtW w, w'' = y.w :=
  h.mono fun _ w' ⟨he, hb⟩ => ⟨he, ⟨w', x.h.trans hb⟩, rfl⟩
/-- .. of a callee that leaves the world as it is. -/
theorem Calls.ext_of_same {P : Program} {f : FuncId} {args : Array Value} {w : World} {x : ExtW w} {v : Value}
    (h : Calls P f args x.w fun e w' => e = .returned v ∧ w' = x.w) : Calls P f args x.w fun e w'' => e = .returned v ∧ ∃ y : ExtW w, w'' = y.w :=
  h.mono fun _ _ ⟨he, hb⟩ => ⟨he, x, hb⟩
/-- .. of one that draws. -/
theorem Calls.ext_of_drew {P : Program} {f : FuncId} {args : Array Value} {w : World} {x : ExtW w} {v : Value}
    (h : Calls P f args x.w fun e w' => e = .returned v ∧ ∃ n, w' = x.w.drewN n) : Calls P f args x.w fun e w'' => e = .returned v ∧ ∃ y : ExtW w, w'' = y.w :=
  h.mono fun _ _ ⟨he, n, hb⟩ => ⟨he, ⟨x.w.drewN n, x.h.drewN' n⟩, hb⟩
end Go.Proofs.Ytldeiolmpmcanaa
