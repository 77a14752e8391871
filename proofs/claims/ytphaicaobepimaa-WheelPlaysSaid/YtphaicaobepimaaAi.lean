/- Slices of whole numbers that came in. No conditions but the ones that stand in each. -/
import Derived.Test.YtphaicaobepimaaSl
import Derived.Test.YtphaicaobepimaaVo
namespace Go.Proofs.Ytphaicaobepimaa
set_option linter.all false
set_option linter.unusedSimpArgs false
open Go.RowKit Go.ChangeShapes Go.WideShapes Go.Deep

section
variable {H : Type} {enc : TypeId × Value → H} {w : World} {base : Nat} {spare : Nat → Bool} {held : Bool}
def IntR (_ _ : Nat) (u : Value) : Prop := ∃ z, u = .int .i64 z ∧ inI z
theorem int_cells1 : Try.prog.cellsOf 3 = 1 := by kernel_rfl
theorem int_bytes8 : Try.prog.bytesOf 3 = 8 := by kernel_rfl
set_option maxRecDepth 100000 in
theorem arg_sliceI {b0 : Nat} {v : Value} {d : DataW H} {p : List MemPlace}
    (hval : Value.okWide Try.prog w .any b0 57 v) (h : DataW.Trod enc Try.prog w base spare held 57 v d p) :
    ∃ n, (d = .nil ∧ n = 0 ∨ ∃ es sp, d = .slice es sp ∧ es.length = n) ∧ InSl w v n 1 IntR := by
  obtain ⟨A, len, cap, rfl⟩ := okWide_slice Try.underlying57 hval
  obtain ⟨fuel, h⟩ := h
  rcases open_slice1 Try.underlying57 int_cells1 h with ⟨h0, h1⟩ | ⟨a, len', cap', m, n, V, D, Pl, hcs, hb, hl, hm, hmm, hx, hi⟩
  · simp [Value.cells] at h0
    obtain ⟨rfl, rfl, rfl⟩ := h0
    exact ⟨0, .inl ⟨(Prod.mk.inj h1).1, rfl⟩, ⟨none, 0, rfl, Nat.le_refl _, by unfold maxLen; omega, fun h => by omega⟩⟩
  · simp [Value.cells] at hcs
    obtain ⟨rfl, rfl, rfl⟩ := hcs
    refine ⟨len, .inr ⟨_, _, (Prod.mk.inj hx).1, by simp⟩, ⟨some a, cap, rfl, hl, hm, fun h0 => ?_⟩⟩
    have hlm : len ≤ m := by rw [hmm]; split <;> omega
    obtain ⟨ab, ao, asp⟩ := a
    obtain ⟨hc0, _⟩ := hi 0 (by omega)
    have hsp : asp = none := by
      simp only [Nat.add_zero, Addr.add, if_pos] at hc0
      unfold World.cell? at hc0
      cases asp with
      | none => rfl
      | some s => revert hc0; cases w.heap[ab]? with
        | none => simp
        | some o => cases o <;> simp
    subst hsp
    refine ⟨ab, ao, rfl, ?_, fun i hin j hj => ?_⟩
    · rcases Nat.lt_or_ge ab w.heap.size with h | h
      · exact h
      · simp only [Nat.add_zero, Addr.add, if_pos] at hc0
        unfold World.cell? at hc0
        rw [Array.getElem?_eq_none h] at hc0
        cases hc0
    · obtain ⟨hc, ht'⟩ := hi i (by omega)
      obtain ⟨z, hz, _, hw⟩ := DataW.trod_int Try.underlying3 ht'
      simp [Lit.wf, IntKind.min, IntKind.max, IntKind.bits, IntKind.signed] at hw
      obtain rfl : j = 0 := by omega
      refine ⟨_, by rw [Nat.mul_one, Nat.add_zero]; have h2 := hc; rw [show Addr.add ⟨ab, ao, none⟩ i = ⟨ab, ao + i, none⟩ by simp only [Addr.add]; split <;> simp_all] at h2; exact h2, z, by simpa using hz, by unfold inI; omega⟩
theorem InSl.ints {v : Value} {n : Nat} (h : InSl w v n 1 IntR) :
    ∃ l : List Int, l.length = n ∧ (∀ x ∈ l, inI x) ∧ VR (fun _ => .un) (fun _ => False) w (.isl n (Proofs.Ytphaicaobepimaa.ints l)) v := by
  obtain ⟨us, hu, hv⟩ := h.isl (by decide) fun i j u hr => by
    obtain ⟨z, rfl, _⟩ := hr; rfl
  have hI : ∀ i, i < n → ∃ z, us i = .int .i64 z ∧ inI z := fun i hi => by
    have := hu i hi 0 (by omega)
    rw [Nat.mul_one, Nat.add_zero] at this
    exact this
  let gi (v : Value) : Int := match v with | .int _ z => z | _ => 0
  refine ⟨(List.range n).map fun i => gi (us i), by simp, fun e he => ?_, ?_⟩
  · obtain ⟨i, hi, rfl⟩ := List.mem_map.1 he
    rw [List.mem_range] at hi
    obtain ⟨z0, e0, b0⟩ := hI i hi
    simp only [e0, gi]
    exact b0
  · have heq : (List.range (n * 1)).map (fun m => ofS (us m)) = Proofs.Ytphaicaobepimaa.ints ((List.range n).map fun i => gi (us i)) := by
      rw [Nat.mul_one, Proofs.Ytphaicaobepimaa.ints, List.map_map]
      refine List.map_congr_left fun i hi => ?_
      rw [List.mem_range] at hi
      obtain ⟨z0, e0, _⟩ := hI i hi
      simp only [e0, gi, Function.comp, ofS]
    rw [heq] at hv
    exact hv
/-- A slice of structs of whole numbers, as their numbers one after another. -/
theorem InSl.intsN {v : Value} {n sz : Nat} {R : Nat → Nat → Value → Prop} (hsz : 0 < sz) (hR : ∀ i j u, R i j u → IntR i j u) (h : InSl w v n sz R) :
    ∃ l : List Int, l.length = n * sz ∧ (∀ x ∈ l, inI x) ∧ VR (fun _ => .un) (fun _ => False) w (.isl n (Proofs.Ytphaicaobepimaa.ints l)) v := by
  obtain ⟨us, hu, hv⟩ := h.isl hsz fun i j u hr => by
    obtain ⟨z, rfl, _⟩ := hR _ _ _ hr; rfl
  have hI : ∀ i, i < n * sz → ∃ z, us i = .int .i64 z ∧ inI z := fun i hi => by
    have hd : i / sz < n := Nat.div_lt_of_lt_mul (by rw [Nat.mul_comm]; exact hi)
    have := hR _ _ _ (hu (i / sz) hd (i % sz) (Nat.mod_lt _ hsz))
    rw [show i / sz * sz + i % sz = i by rw [Nat.mul_comm]; exact Nat.div_add_mod i sz] at this
    exact this
  let gi (v : Value) : Int := match v with | .int _ z => z | _ => 0
  refine ⟨(List.range (n * sz)).map fun i => gi (us i), by simp, fun e he => ?_, ?_⟩
  · obtain ⟨i, hi, rfl⟩ := List.mem_map.1 he
    rw [List.mem_range] at hi
    obtain ⟨z0, e0, b0⟩ := hI i hi
    simp only [e0, gi]
    exact b0
  · have heq : (List.range (n * sz)).map (fun m => ofS (us m)) = Proofs.Ytphaicaobepimaa.ints ((List.range (n * sz)).map fun i => gi (us i)) := by
      rw [Proofs.Ytphaicaobepimaa.ints, List.map_map]
      refine List.map_congr_left fun i hi => ?_
      rw [List.mem_range] at hi
      obtain ⟨z0, e0, _⟩ := hI i hi
      simp only [e0, gi, Function.comp, ofS]
    rw [heq] at hv
    exact hv
theorem intF {i j m : Nat} {u : Value} {y : DataW H × List MemPlace} (h : DataW.trod enc Try.prog w base spare held m 3 [u] = some y) : IntR i j u := by
  obtain ⟨z, hz, _, hw⟩ := DataW.trod_int Try.underlying3 h
  simp [Lit.wf, IntKind.min, IntKind.max, IntKind.bits, IntKind.signed] at hw
  exact ⟨z, by simpa using hz, by unfold inI; omega⟩
end
end Go.Proofs.Ytphaicaobepimaa
