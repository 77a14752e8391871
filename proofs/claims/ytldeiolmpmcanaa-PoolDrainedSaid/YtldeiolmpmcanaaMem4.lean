/- A store of one cell into a block known whole. No conditions but the ones that stand in each. -/
import Derived.Test.YtldeiolmpmcanaaMem3
import Derived.Test.YtldeiolmpmcanaaMix
namespace Go.Proofs.Ytldeiolmpmcanaa
open Go.RowKit

section
variable {P : Program} {w w' : World} {g : Nat} {t : TypeId} {cs : List Value}
variable {ops : Array Oper} {rest : List Oper} {o : Oper} {a : Act} {Q : Exit → Act → World → Prop}
theorem run_storeVar_one (w : World) (b o : Nat) (ty : TypeId) (v : Value) (hv : v.cells = #[v]) (ht : w.there b o 1) (hi : (P.info? ty).map (·.size) = some 1) (h1 : v.oneCell' = true) :
    (storeVar ty ⟨b, o, none⟩ v).run P w = .ok () (w.setCell ⟨b, o, none⟩ v) := by
  have := run_storeCells_cells (P := P) b o [v] 0 w (fun j hj => by simpa using (ht j (by simpa using hj)).1) (fun j hj => by simpa using (ht j (by simpa using hj)).2)
    (fun u hu => by simp at hu; subst hu; exact h1)
  cases hq : P.info? ty with
  | none => simp [hq] at hi
  | some i =>
    have hs : i.size = 1 := by simpa [hq] using hi
    simp only [Nat.add_zero] at this
    simp [storeVar, sizeOf, typeInfo, hq, hv, hs, this, World.setCells]
/-- A store of one cell. -/
theorem wpList_st1 (hb : Blk w g t cs) (off : Nat) (v : Value) (hgd : Region.wanted o (yielded ops a.tmps) = true) (ty : TypeId) (x y : Operand) (ho : o.op = .store ty x y) (hx : a.eval x = .pointer (some ⟨g, off, none⟩)) (hy : a.eval y = v)
    (hv : v.cells = #[v]) (hi : (P.info? ty).map (·.size) = some 1) (h1 : v.oneCell' = true) (hn : off < cs.length)
    (h : ∀ w2, Blk w2 g t (cs.set off v) → w.grownBy w2 (some g) → w2.heap.size = w.heap.size → wpList P ops Q rest (a.put o.dst undef) w2) : wpList P ops Q (o :: rest) a w := by
  refine wpList_wanted hgd fun _ hK => ?_
  unfold Oper.wp execOp
  simp only [ho, hx, hy, Instr.storeAt, Instr.sureAddr, Sem.run_bind, Sem.run_pure, Result.andThen_ok, run_storeVar_one w g off ty v hv (hb.there off 1 (by omega)) hi h1]
  refine hK _ _ (h _ (hb.set_ off v) ?_ (by simp [World.setCell]))
  have := grownBy_setCells g [v] off w
  simpa [World.setCells] using this
end
theorem ret_agg {a b : Array Value} (h : a = b) : Ending.returned (.agg a) = .returned (.agg b) := by rw [h]
end Go.Proofs.Ytldeiolmpmcanaa
