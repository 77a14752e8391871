/- Plays of a wheel that came in. No conditions but the ones that stand in each. -/
import Derived.Test.YtphaicaobepimaaAi
namespace Go.Proofs.Ytphaicaobepimaa
set_option linter.all false
set_option linter.unusedSimpArgs false
open Go.RowKit Go.ChangeShapes Go.WideShapes Go.Deep

theorem ti_types : ((Try.prog.fieldsOf 78).toList.map (·.type)) = [3, 3, 3] := by kernel_rfl
theorem ti_struct : Try.prog.underlying 78 = some (.struct (Try.prog.fieldsOf 78)) := by kernel_rfl
theorem ti_size : (Try.prog.fieldsOf 78).size = 3 := by kernel_rfl
theorem ti_one : oneCellFields Try.prog (Try.prog.fieldsOf 78) = true := by kernel_rfl
theorem ti_cells : Try.prog.cellsOf 78 = (Try.prog.fieldsOf 78).size := by kernel_rfl
theorem ti_bytes : Try.prog.bytesOf 78 = 24 := by kernel_rfl
section
variable {H : Type} {enc : TypeId × Value → H} {w : World} {base : Nat} {spare : Nat → Bool} {held : Bool}
theorem InSl.tis {v : Value} {n : Nat} (h : InSl w v n 3 (fun _ j u => ∃ f m y, (Try.prog.fieldsOf 78)[j]? = some f ∧ DataW.trod enc Try.prog w base spare held m f.type [u] = some y)) :
    ∃ l : List Int, l.length = n * 3 ∧ (∀ x ∈ l, inI x) ∧ VR (fun _ => .un) (fun _ => False) w (.isl n (Proofs.Ytphaicaobepimaa.ints l)) v :=
  h.intsN (by decide) fun i j u ⟨f, m, y, h1, h2⟩ => by
    have ht : [3, 3, 3][j]? = some f.type := by
      rw [← ti_types, List.getElem?_map, Array.getElem?_toList, h1]; rfl
    have e : f.type = 3 := by
      rcases j with _ | _ | _ | j
      · simpa using ht.symm
      · simpa using ht.symm
      · simpa using ht.symm
      · simp at ht
    rw [e] at h2
    exact intF h2
end
end Go.Proofs.Ytphaicaobepimaa
