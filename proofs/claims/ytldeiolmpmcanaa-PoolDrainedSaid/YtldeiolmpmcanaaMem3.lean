/- Slices that the call itself makes. No conditions but the ones that stand in each. -/
import Derived.Test.YtldeiolmpmcanaaMem2
import Derived.Deep.AppendLies
namespace Go.Proofs.Ytldeiolmpmcanaa
open Go.RowKit

/-- The slice value v, of n elements of type e (size cells each), made since w0, holds the cells xs. -/
abbrev Sl (w0 w : World) (e size : Nat) (v : Value) (n : Nat) (xs : List Value) : Prop := w.ownsRow w0.heap.size e size v n xs

theorem grownBy_of_alloc {W w' : World} {o : Obj} {row : Option Nat} (h : (W.alloc o).grownBy w' row) : W.grownBy w' row :=
  ⟨h.os, h.tape, h.output, Nat.le_trans (by simp) h.size, fun k hk hne => (h.block k (by simp; omega) hne).trans (Below.heap_alloc W o k hk)⟩

theorem Sl.form0 {w0 w : World} {e size : Nat} {v : Value} {n : Nat} {xs : List Value} (h : Sl w0 w e size v n xs) : ∃ A cap, v = .slice A n cap := by
  rcases h.2 with ⟨rfl, rfl⟩ | ⟨g, cap, cur, rfl, _⟩
  · exact ⟨none, 0, rfl⟩
  · exact ⟨_, _, rfl⟩
theorem Sl.form {w0 w : World} {e size : Nat} {v : Value} {n : Nat} {xs : List Value} (h : Sl w0 w e size v n xs) (hn : 0 < n) : ∃ g cap, v = .slice (some ⟨g, 0, none⟩) n cap ∧ w0.heap.size ≤ g ∧ g < w.heap.size ∧ ∀ (j : Nat) u, xs[j]? = some u → w.cell? ⟨g, j, none⟩ = some u := by
  obtain ⟨g, cap, rfl, h1, h2⟩ := World.ownsRow.form h hn
  refine ⟨g, cap, rfl, h1, h2, fun j u hj => ?_⟩
  have := h.cells (g := g) rfl j u hj
  rwa [show (⟨g, 0, none⟩ : Addr).add j = ⟨g, j, none⟩ by unfold Addr.add; split <;> simp_all] at this
theorem Sl.ext {w0 w w' : World} {e size : Nat} {v : Value} {n : Nat} {xs : List Value} (h : Sl w0 w e size v n xs) (he : Ext w w') : Sl w0 w' e size v n xs := by
  refine ⟨h.1, ?_⟩
  rcases h.2 with hn | ⟨g, cap, cur, hv, hb, hg, r⟩
  · exact .inl hn
  · exact .inr ⟨g, cap, cur, hv, hb, (he.block g (Array.getElem?_eq_some_iff.1 hg).1).trans hg, r⟩
theorem Sl.nil (w0 w : World) (e size : Nat) : Sl w0 w e size (.slice none 0 0) 0 [] := World.ownsRow_nil _ _ _ _

section
variable {P : Program} {ops : Array Oper} {rest : List Oper} {o : Oper} {a : Act} {Q : Exit → Act → World → Prop}
/-- 'out = append(out, x)', out nil or made since w0. -/
theorem wpList_push {w0 W : World} (hE : Ext w0 W) (e size bytes : Nat) (z : Value) (hinfo : (P.info? e).map (fun i => (i.zero, i.size, i.bytes)) = some (some z, size, bytes)) (hzs : z.cells.size = size) (hsz : 0 < size)
    (v : Value) (n : Nat) (xs news : List Value) (hown : Sl w0 W e size v n xs) (hlen : news.length = size) (h1 : ∀ u ∈ news, u.oneCell' = true) (hn : (n + 1) * bytes ≤ 140737488355328) (hn2 : n + 1 ≤ maxLen)
    (hgd : o.guard = none) (t : TypeId) (s x : Operand) (ho : o.op = .call { callee := .builtin .append, args := #[s, x], argTypes := #[t, t] }) (ht : P.underlying t = some (.slice e))
    (hs : a.eval s = v) (hx : a.eval x = .slice (some ⟨W.heap.size, 0, none⟩) 1 1)
    (h : ∀ v' w', Sl w0 w' e size v' (n + 1) (xs ++ news) → Ext w0 w' → W.grownBy w' v.ownBlock → wpList P ops Q rest (a.put o.dst v') w') :
    wpList P ops Q (o :: rest) a (W.alloc (.cells news.toArray e)) := by
  cases hq : P.info? e with
  | none => simp [hq] at hinfo
  | some i =>
    simp [hq] at hinfo
    obtain ⟨hz, hs1, hb1⟩ := hinfo
    have hbk := Blk.new W e news
    have hsz1 := hE.size
    refine wpList_append_own _ hgd s x t ho w0.heap.size e i z size bytes ht hq hz hs1 hb1 hzs hsz v n xs hs (hown.alloc _) ⟨W.heap.size, 0, none⟩ 1 1 news hx (by omega) (fun j u hj => ?_) h1 (by omega) hn (by simp; omega) (fun v' w' h2 h3 _ => ?_)
    · have : (⟨W.heap.size, 0, none⟩ : Addr).add j = ⟨W.heap.size, j, none⟩ := by unfold Addr.add; split <;> simp_all
      rw [this, hbk.cell]; exact hj
    · have hg := grownBy_of_alloc h3
      exact h v' w' h2 (hE.grown' hg (fun k hk => (hown.lt k hk).1)) hg
end
end Go.Proofs.Ytldeiolmpmcanaa
