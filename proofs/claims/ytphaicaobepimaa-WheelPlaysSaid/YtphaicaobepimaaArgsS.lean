/- A slice of structs that came in, opened. No conditions but the ones that stand in each. -/
import Derived.Test.YtphaicaobepimaaR0
import Derived.Deep.Slices
import Derived.Deep.Fields
import Derived.ChangeSame
import Derived.Deep.MidRow
namespace Go.Proofs.Ytphaicaobepimaa
open Go.ChangeShapes Go.WideShapes Go.Deep Go.RowKit

section
variable {H : Type} {enc : TypeId × Value → H} {P : Program} {w : World} {base : Nat} {spare : Nat → Bool} {held : Bool}
theorem open_slice_fields {t e : TypeId} {fs : Array Field} {fuel : Nat} {cs : List Value} {x : DataW H × List MemPlace} (ht : P.underlying t = some (.slice e)) (he : P.underlying e = some (.struct fs))
    (hone : oneCellFields P fs = true) (hC : P.cellsOf e = fs.size) (h : DataW.trod enc P w base spare held fuel t cs = some x) :
    (cs = [.slice none 0 0] ∧ x = (.nil, [])) ∨
    ∃ (a : Addr) (len cap m : Nat) (D : Nat → DataW H) (Pl : Nat → List MemPlace), cs = [.slice (some a) len cap] ∧ base ≤ a.block ∧ len ≤ cap ∧ cap ≤ maxLen ∧ m = (if spare a.block then cap else len) ∧
      x = (.slice ((List.range len).map D) ((List.range (m - len)).map fun j => D (len + j)), MemPlace.row a (m * fs.size) ++ (List.range m).flatMap Pl) ∧
      ∀ i, i < m → ∃ (ys : List (DataW H × List MemPlace)) (n : Nat), D i = .agg (ys.map (·.1)) ∧ Pl i = ys.flatMap (·.2) ∧ ys.length = fs.size ∧
        ∀ (j : Nat) (f : Field), fs[j]? = some f → ∃ (v : Value) (y : DataW H × List MemPlace), w.cell? (a.add (i * fs.size + j)) = some v ∧ ys[j]? = some y ∧ DataW.trod enc P w base spare held n f.type [v] = some y := by
  rcases open_slice ht h with h0 | ⟨a, len, cap, m, n, D, Pl, hcs, hb, hl, hm, hmm, hx, hi⟩
  · exact .inl h0
  · refine .inr ⟨a, len, cap, m, D, Pl, hcs, hb, hl, hm, hmm, by rw [hC] at hx; exact hx, fun i him => ?_⟩
    obtain ⟨cs', hc, ht'⟩ := hi i him
    rw [hC] at hc
    obtain ⟨ys, n', hn', hy, hlen, hyl, hf⟩ := DataW.trod_struct he ht'
    obtain ⟨_, hcl, hat⟩ := World.cells?_some hc
    simp only [Prod.mk.injEq] at hy
    refine ⟨ys, n', hy.1, hy.2, hyl, fun j f hj => ?_⟩
    obtain ⟨ho, hk⟩ := hone_of hone j f hj
    have hjl : j < fs.size := (Array.getElem?_eq_some_iff.1 hj).1
    have hcell := hat j hjl
    have hv : cs'[j]? = some (cs'[j]'(by omega)) := List.getElem?_eq_getElem (by omega)
    have h1 := hf j f hj
    rw [ho, hk] at h1
    have hone' : (cs'.drop j).take 1 = [cs'[j]'(by omega)] := by
      rw [List.drop_eq_getElem_cons (by omega)]
      rfl
    rw [hone'] at h1
    have hys : ys[j]? = some (ys[j]'(by omega)) := List.getElem?_eq_getElem (by omega)
    refine ⟨_, _, ?_, hys, h1.trans hys⟩
    rw [← Go.Deep.add_add, hcell, hv]
/-- The value v is a slice of n structs of sz fields; field j of struct i is what R i j says. -/
structure InSl (w : World) (v : Value) (n sz : Nat) (R : Nat → Nat → Value → Prop) : Prop where
  form : ∃ A cap, v = .slice A n cap ∧ n ≤ cap ∧ cap ≤ maxLen ∧ (0 < n → ∃ b o, A = some ⟨b, o, none⟩ ∧ b < w.heap.size ∧ ∀ i, i < n → ∀ j, j < sz → ∃ u, w.cell? ⟨b, o + (i * sz + j), none⟩ = some u ∧ R i j u)
theorem arg_slice {b0 : Nat} {t e : TypeId} {fs : Array Field} {v : Value} {d : DataW H} {p : List MemPlace} (ht : P.underlying t = some (.slice e)) (he : P.underlying e = some (.struct fs)) (hone : oneCellFields P fs = true) (hC : P.cellsOf e = fs.size) (hpos : 0 < fs.size)
    (hval : Value.okWide P w .any b0 t v) (h : DataW.Trod enc P w base spare held t v d p) :
    ∃ n, (d = .nil ∧ n = 0 ∨ ∃ es sp, d = .slice es sp ∧ es.length = n) ∧ InSl w v n fs.size (fun _ j u => ∃ f m y, fs[j]? = some f ∧ DataW.trod enc P w base spare held m f.type [u] = some y) := by
  obtain ⟨A, len, cap, rfl⟩ := okWide_slice ht hval
  obtain ⟨fuel, h⟩ := h
  rcases open_slice_fields ht he hone hC h with ⟨h0, h1⟩ | ⟨a, len', cap', m, D, Pl, hcs, hb, hl, hm, hmm, hx, hi⟩
  · simp [Value.cells] at h0
    obtain ⟨rfl, rfl, rfl⟩ := h0
    exact ⟨0, .inl ⟨(Prod.mk.inj h1).1, rfl⟩, ⟨none, 0, rfl, Nat.le_refl _, by unfold maxLen; omega, fun h => by omega⟩⟩
  · simp [Value.cells] at hcs
    obtain ⟨rfl, rfl, rfl⟩ := hcs
    refine ⟨len, .inr ⟨_, _, (Prod.mk.inj hx).1, by simp⟩, ⟨some a, cap, rfl, hl, hm, fun h0 => ?_⟩⟩
    have hlm : len ≤ m := by rw [hmm]; split <;> omega
    obtain ⟨ab, ao, asp⟩ := a
    obtain ⟨ys, n', _, _, _, hf⟩ := hi 0 (by omega)
    obtain ⟨v0, y0, hc0, _, _⟩ := hf 0 fs[0] (Array.getElem?_eq_getElem (by omega))
    have hsp : asp = none := by
      simp only [Nat.zero_mul, Nat.add_zero, Addr.add, if_pos] at hc0
      unfold World.cell? at hc0
      cases asp with
      | none => rfl
      | some s => revert hc0; cases w.heap[ab]? with
        | none => simp
        | some o => cases o <;> simp
    subst hsp
    refine ⟨ab, ao, rfl, ?_, fun i hin j hj => ?_⟩
    · rcases Nat.lt_or_ge ab w.heap.size with h | h
      · exact h
      · simp only [Nat.zero_mul, Nat.add_zero, Addr.add, if_pos] at hc0
        unfold World.cell? at hc0
        rw [Array.getElem?_eq_none h] at hc0
        cases hc0
    · obtain ⟨ys, n', _, _, _, hf⟩ := hi i (by omega)
      obtain ⟨u, y, hc, _, ht'⟩ := hf j fs[j] (Array.getElem?_eq_getElem hj)
      rw [Addr.add_mid] at hc
      exact ⟨u, hc, fs[j], n', y, Array.getElem?_eq_getElem hj, ht'⟩
end
end Go.Proofs.Ytphaicaobepimaa
