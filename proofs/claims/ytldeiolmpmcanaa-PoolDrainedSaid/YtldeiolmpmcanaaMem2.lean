/- Indices of arrays that are held by value. No conditions but the ones that stand in each. -/
import Derived.Test.YtldeiolmpmcanaaMem
namespace Go.Proofs.Ytldeiolmpmcanaa
open Go.RowKit

section
variable {P : Program} {w : World} {ops : Array Oper} {rest : List Oper} {o : Oper} {a : Act} {Q : Exit → Act → World → Prop}

theorem run_index_row (t e n m : Nat) (d : TypeDesc) (cs : List Value) (i : Int) (k : Nat) (hi : i = k) (hk : k < n) (hu : P.underlying t = some (.array n e)) (he : P.underlying e = some d) (hd : d.isRow = true) (hm : (P.info? e).map (·.size) = some m) :
    (Instr.index t (.agg cs.toArray) (.int .i64 i)).run P w = .ok (.agg ((cs.drop (k * m)).take m).toArray) w := by
  subst hi
  cases hq : P.info? e with
  | none => simp [hq] at hm
  | some x =>
    have hs : x.size = m := by simpa [hq] using hm
    have hagg : (isAgg e).run P w = .ok true w := by
      unfold isAgg
      rw [Sem.run_bind, run_underlying he w]
      cases d <;> simp_all
    have hb : (0 : Int) ≤ k ∧ (k : Int) < n := by omega
    simp [Instr.index, asIntOf, run_underlying hu, hb, part, hagg, sizeOf, typeInfo, hq, hs]
    omega

theorem run_index_cell (t e n : Nat) (d : TypeDesc) (cs : List Value) (i : Int) (k : Nat) (v : Value) (hi : i = k) (hk : k < n) (hv : cs[k]? = some v) (hu : P.underlying t = some (.array n e)) (he : P.underlying e = some d) (hd : d.isRow = false) (hm : (P.info? e).map (·.size) = some 1) :
    (Instr.index t (.agg cs.toArray) (.int .i64 i)).run P w = .ok v w := by
  subst hi
  cases hq : P.info? e with
  | none => simp [hq] at hm
  | some x =>
    have hs : x.size = 1 := by simpa [hq] using hm
    have hagg : (isAgg e).run P w = .ok false w := by
      unfold isAgg
      rw [Sem.run_bind, run_underlying he w]
      cases d <;> simp_all
    have hb : (0 : Int) ≤ k ∧ (k : Int) < n := by omega
    simp [Instr.index, asIntOf, run_underlying hu, hb, part, hagg, sizeOf, typeInfo, hq, hs, hv]
    omega

theorem wpList_ix_row (k m n e : Nat) (d : TypeDesc) (cs : List Value) (i : Int) (hgd : Region.wanted o (yielded ops a.tmps) = true) (t : TypeId) (x y : Operand) (ho : o.op = .index t x y) (hx : a.eval x = .agg cs.toArray) (hy : a.eval y = .int .i64 i) (hi : i = k) (hk : k < n)
    (hu : P.underlying t = some (.array n e)) (he : P.underlying e = some d) (hd : d.isRow = true) (hm : (P.info? e).map (·.size) = some m)
    (h : wpList P ops Q rest (a.put o.dst (.agg ((cs.drop (k * m)).take m).toArray)) w) : wpList P ops Q (o :: rest) a w :=
  wpList_val _ hgd (by simp only [execOp, ho, hx, hy, Sem.run_bind, run_index_row t e n m d cs i k hi hk hu he hd hm, Result.andThen_ok, Sem.run_pure]) h
theorem wpList_ix_cell (k n e : Nat) (d : TypeDesc) (cs : List Value) (i : Int) (v : Value) (hgd : Region.wanted o (yielded ops a.tmps) = true) (t : TypeId) (x y : Operand) (ho : o.op = .index t x y) (hx : a.eval x = .agg cs.toArray) (hy : a.eval y = .int .i64 i) (hi : i = k) (hk : k < n) (hv : cs[k]? = some v)
    (hu : P.underlying t = some (.array n e)) (he : P.underlying e = some d) (hd : d.isRow = false) (hm : (P.info? e).map (·.size) = some 1)
    (h : wpList P ops Q rest (a.put o.dst v) w) : wpList P ops Q (o :: rest) a w :=
  wpList_val _ hgd (by simp only [execOp, ho, hx, hy, Sem.run_bind, run_index_cell t e n d cs i k v hi hk hv hu he hd hm, Result.andThen_ok, Sem.run_pure]) h
end
end Go.Proofs.Ytldeiolmpmcanaa
