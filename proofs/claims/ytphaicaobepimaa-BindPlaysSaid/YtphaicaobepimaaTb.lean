/- Rows of wishes that came in. No conditions but the ones that stand in each. -/
import Derived.Test.YtphaicaobepimaaTa
namespace Go.Proofs.Ytphaicaobepimaa
set_option linter.all false
set_option linter.unusedSimpArgs false
open Go.RowKit Go.ChangeShapes Go.WideShapes Go.Deep

theorem ws_types : ((Try.prog.fieldsOf 52).toList.map (·.type)) = [3, 3, 3, 3, 3] := by kernel_rfl
theorem ws_struct : Try.prog.underlying 52 = some (.struct (Try.prog.fieldsOf 52)) := by kernel_rfl
theorem ws_size : (Try.prog.fieldsOf 52).size = 5 := by kernel_rfl
theorem ws_one : oneCellFields Try.prog (Try.prog.fieldsOf 52) = true := by kernel_rfl
theorem ws_cells : Try.prog.cellsOf 52 = (Try.prog.fieldsOf 52).size := by kernel_rfl
theorem ws_bytes : Try.prog.bytesOf 52 = 40 := by kernel_rfl
section
variable {H : Type} {enc : TypeId × Value → H} {w : World} {base : Nat} {spare : Nat → Bool} {held : Bool}
theorem ws_type {j : Nat} {f : Field} (h : (Try.prog.fieldsOf 52)[j]? = some f) : [3, 3, 3, 3, 3][j]? = some f.type := by
  rw [← ws_types, List.getElem?_map, Array.getElem?_toList, h]; rfl
theorem ws_cell {i j : Nat} {u : Value} (h : ∃ f m y, (Try.prog.fieldsOf 52)[j]? = some f ∧ DataW.trod enc Try.prog w base spare held m f.type [u] = some y) : ∃ z, u = .int .i64 z ∧ -9223372036854775808 ≤ z ∧ z ≤ 9223372036854775807 := by
  obtain ⟨f, m, y, h1, h2⟩ := h
  have ht := ws_type h1
  have e : f.type = 3 := by
    rcases j with _ | _ | _ | _ | _ | j
    · simpa using ht.symm
    · simpa using ht.symm
    · simpa using ht.symm
    · simpa using ht.symm
    · simpa using ht.symm
    · simp at ht
  rw [e] at h2
  obtain ⟨z, hz, _, hw⟩ := DataW.trod_int Try.underlying3 h2
  simp [Lit.wf, IntKind.min, IntKind.max, IntKind.bits, IntKind.signed] at hw
  exact ⟨z, by simpa using hz, by omega, by omega⟩
theorem InSl.wss {v : Value} {n : Nat} (h : InSl w v n 5 (fun _ j u => ∃ f m y, (Try.prog.fieldsOf 52)[j]? = some f ∧ DataW.trod enc Try.prog w base spare held m f.type [u] = some y)) :
    ∃ l : List Mp, l.length = n ∧ (∀ m ∈ l, MpB m) ∧ VR (fun _ => .un) (fun _ => False) w (.isl n (Proofs.Ytphaicaobepimaa.mps l)) v := h.mps fun _ _ _ h => ws_cell (i := 0) (enc := enc) h
end
end Go.Proofs.Ytphaicaobepimaa
