/- Slices of events that came in. No conditions but the ones that stand in each. -/
import Derived.Test.YtglkiaiipkdkbaaDoorRg
import Derived.Test.YtglkiaiipkdkbaaDoorSl
import Derived.Test.YtglkiaiipkdkbaaDoorFrameL
namespace Go.Proofs.YtglkiaiipkdkbaaDoor
set_option linter.all false
set_option linter.unusedSimpArgs false
open Go.RowKit Go.ChangeShapes Go.WideShapes Go.Deep

theorem ev_types : ((Tryd.prog.fieldsOf 34).toList.map (·.type)) = [3, 3, 3, 3, 4] := by kernel_rfl
theorem ev_struct : Tryd.prog.underlying 34 = some (.struct (Tryd.prog.fieldsOf 34)) := by kernel_rfl
theorem ev_size : (Tryd.prog.fieldsOf 34).size = 5 := by kernel_rfl
theorem ev_one : oneCellFields Tryd.prog (Tryd.prog.fieldsOf 34) = true := by kernel_rfl
theorem ev_cells : Tryd.prog.cellsOf 34 = (Tryd.prog.fieldsOf 34).size := by kernel_rfl
theorem ev_bytes : Tryd.prog.bytesOf 34 = 40 := by kernel_rfl
section
variable {H : Type} {enc : TypeId × Value → H} {w : World} {base : Nat} {spare : Nat → Bool} {held : Bool}
def EvR (enc : TypeId × Value → H) (w : World) (base : Nat) (spare : Nat → Bool) (held : Bool) (_ j : Nat) (u : Value) : Prop :=
  ∃ f m y, (Tryd.prog.fieldsOf 34)[j]? = some f ∧ DataW.trod enc Tryd.prog w base spare held m f.type [u] = some y
theorem ev_type {j : Nat} {f : Field} (h : (Tryd.prog.fieldsOf 34)[j]? = some f) : [3, 3, 3, 3, 4][j]? = some f.type := by
  rw [← ev_types, List.getElem?_map, Array.getElem?_toList, h]; rfl
theorem ev_cell {i j : Nat} {u : Value} (h : EvR enc w base spare held i j u) : (j < 4 ∧ ∃ z, u = .int .i64 z ∧ -9223372036854775808 ≤ z ∧ z ≤ 9223372036854775807) ∨ (j = 4 ∧ ∃ b, u = .bool b) := by
  obtain ⟨f, m, y, h1, h2⟩ := h
  have ht := ev_type h1
  have hint : f.type = 3 → ∃ z, u = .int .i64 z ∧ -9223372036854775808 ≤ z ∧ z ≤ 9223372036854775807 := fun e => by
    rw [e] at h2
    obtain ⟨z, hz, _, hw⟩ := DataW.trod_int Tryd.underlying3 h2
    simp [Lit.wf, IntKind.min, IntKind.max, IntKind.bits, IntKind.signed] at hw
    exact ⟨z, by simpa using hz, by omega, by omega⟩
  rcases j with _ | _ | _ | _ | _ | j
  · exact .inl ⟨by omega, hint (by simpa using ht.symm)⟩
  · exact .inl ⟨by omega, hint (by simpa using ht.symm)⟩
  · exact .inl ⟨by omega, hint (by simpa using ht.symm)⟩
  · exact .inl ⟨by omega, hint (by simpa using ht.symm)⟩
  · have e : f.type = 4 := by simpa using ht.symm
    rw [e] at h2
    obtain ⟨z, hz, _⟩ := DataW.trod_bool Tryd.underlying4 h2
    exact .inr ⟨rfl, z, by simpa using hz⟩
  · simp at ht

/-- All numbers of an event are those of a machine's word. -/
def EvB (e : Ev) : Prop := (-9223372036854775808 ≤ e.t ∧ e.t ≤ 9223372036854775807) ∧ (-9223372036854775808 ≤ e.s ∧ e.s ≤ 9223372036854775807) ∧ (-9223372036854775808 ≤ e.a ∧ e.a ≤ 9223372036854775807) ∧ (-9223372036854775808 ≤ e.b ∧ e.b ≤ 9223372036854775807)
theorem InSl.evs {W : World} {v : Value} {n : Nat} (h : InSl W v n 5 (EvR enc w base spare held)) :
    ∃ l : List Ev, l.length = n ∧ (∀ e ∈ l, EvB e) ∧ VR (fun _ => .un) (fun _ => False) W (.isl n (evs5 l)) v := by
  obtain ⟨us, hu, hv⟩ := h.isl (by decide) fun i j u hr => by
    rcases ev_cell hr with ⟨_, z, rfl, _⟩ | ⟨_, b, rfl⟩ <;> rfl
  have hI : ∀ i, i < n → ∀ j, j < 4 → ∃ z, us (i * 5 + j) = .int .i64 z ∧ -9223372036854775808 ≤ z ∧ z ≤ 9223372036854775807 := fun i hi j hj => by
    rcases ev_cell (hu i hi j (by omega)) with ⟨_, z, hz⟩ | ⟨h, _⟩
    · exact ⟨z, hz⟩
    · omega
  have hB : ∀ i, i < n → ∃ b, us (i * 5 + 4) = .bool b := fun i hi => by
    rcases ev_cell (hu i hi 4 (by omega)) with ⟨h, _⟩ | ⟨_, b, hb⟩
    · omega
    · exact ⟨b, hb⟩
  let gi (v : Value) : Int := match v with | .int _ z => z | _ => 0
  let gb (v : Value) : Bool := match v with | .bool b => b | _ => false
  let ev (i : Nat) : Ev := ⟨gi (us (i * 5 + 0)), gi (us (i * 5 + 1)), gi (us (i * 5 + 2)), gi (us (i * 5 + 3)), gb (us (i * 5 + 4))⟩
  refine ⟨(List.range n).map ev, by simp, fun e he => ?_, ?_⟩
  · obtain ⟨i, hi, rfl⟩ := List.mem_map.1 he
    rw [List.mem_range] at hi
    obtain ⟨z0, e0, b0⟩ := hI i hi 0 (by omega)
    obtain ⟨z1, e1, b1⟩ := hI i hi 1 (by omega)
    obtain ⟨z2, e2, b2⟩ := hI i hi 2 (by omega)
    obtain ⟨z3, e3, b3⟩ := hI i hi 3 (by omega)
    simp only [EvB, ev, e0, e1, e2, e3, gi]
    exact ⟨b0, b1, b2, b3⟩
  · have heq : (List.range (n * 5)).map (fun m => ofS (us m)) = evs5 ((List.range n).map ev) := by
      apply List.ext_getElem
      · rw [evs5_len]; simp
      · intro m h1 h2
        have hm : m < n * 5 := by simpa using h1
        have hi : m / 5 < n := by omega
        have e0 := evs5_get ((List.range n).map ev) (m / 5) (by simpa using hi) (m % 5) (by omega)
        rw [show m / 5 * 5 + m % 5 = m by omega] at e0
        have e1 : (evs5 ((List.range n).map ev)).getD m .any = (evs5 ((List.range n).map ev))[m] := by simp [List.getD, h2]
        rw [e1] at e0
        rw [e0]
        simp only [List.getElem_map, List.getElem_range]
        have hd : m = m / 5 * 5 + m % 5 := by omega
        have hr : m % 5 < 5 := Nat.mod_lt _ (by decide)
        generalize m / 5 = q at *
        generalize m % 5 = r at *
        subst hd
        obtain ⟨z0, f0, _⟩ := hI q hi 0 (by omega)
        obtain ⟨z1, f1, _⟩ := hI q hi 1 (by omega)
        obtain ⟨z2, f2, _⟩ := hI q hi 2 (by omega)
        obtain ⟨z3, f3, _⟩ := hI q hi 3 (by omega)
        obtain ⟨b4, f4⟩ := hB q hi
        match r, hr with
        | 0, _ => simp only [f0, ofS, ev, Ev.enc, gi]; rfl
        | 1, _ => simp only [f1, ofS, ev, Ev.enc, gi]; rfl
        | 2, _ => simp only [f2, ofS, ev, Ev.enc, gi]; rfl
        | 3, _ => simp only [f3, ofS, ev, Ev.enc, gi]; rfl
        | 4, _ => simp only [f4, ofS, ev, Ev.enc, gb]; rfl
    rw [heq] at hv
    exact hv
end

theorem vr_string {g : Nat → GM} {W : Nat → Prop} {w : World} (s : ByteArray) : VR g W w (.str s.data.toList) (.string s) := by
  have : Value.string s = .string ⟨s.data.toList.toArray⟩ := by cases s; simp
  rw [this]; exact .str _
/-- From a contract of the second way to what the frame asks. -/
theorem PS.law {f : FuncId} {args : List AV} {vs : List Value} {W : World} (h : PS Tryd.prog glF f args (.bool true)) (hg : ∀ i, VR (fun _ => .un) (fun _ => False) W (glF i) (.pointer (some ⟨i, 0, none⟩))) (hv : VRs (fun _ => .un) (fun _ => False) W args vs) :
    Calls Tryd.prog f vs.toArray W fun e W' => e = .returned (.bool true) ∧ Below W.heap.size W W' :=
  (h.2 W vs (fun _ => False) (fun _ h => h.elim) hg hv).mono fun e w' ⟨u, e1, e2, e3⟩ => by
    cases e2
    exact ⟨e1, ⟨e3.os, e3.tape, e3.output, e3.size, fun k hk => e3.keep k hk fun h => h.elim⟩⟩
end Go.Proofs.YtglkiaiipkdkbaaDoor
