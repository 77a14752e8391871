/- Slices of structs that hold slices of events, as they came in. No conditions but the ones that stand in each. -/
import Derived.Test.YtglkiaiipkdkbaaDoorRv
import Derived.Test.YtglkiaiipkdkbaaDoorRs
namespace Go.Proofs.YtglkiaiipkdkbaaDoor
set_option linter.all false
set_option linter.unusedSimpArgs false
open Go.RowKit Go.ChangeShapes Go.WideShapes Go.Deep

theorem tl_types : ((Tryd.prog.fieldsOf 46).toList.map (·.type)) = [3, 22] := by kernel_rfl
theorem tl_struct : Tryd.prog.underlying 46 = some (.struct (Tryd.prog.fieldsOf 46)) := by kernel_rfl
theorem tl_size : (Tryd.prog.fieldsOf 46).size = 2 := by kernel_rfl
theorem tl_one : oneCellFields Tryd.prog (Tryd.prog.fieldsOf 46) = true := by kernel_rfl
theorem tl_cells : Tryd.prog.cellsOf 46 = (Tryd.prog.fieldsOf 46).size := by kernel_rfl
theorem tl_bytes : Tryd.prog.bytesOf 46 = 32 := by kernel_rfl
section
variable {H : Type} {enc : TypeId × Value → H} {P : Program} {w : World} {base : Nat} {spare : Nat → Bool} {held : Bool}
/-- A slice of structs that lies in a cell. -/
theorem trod_inSl {t e : TypeId} {fs : Array Field} {u : Value} {fuel : Nat} {x : DataW H × List MemPlace} (ht : P.underlying t = some (.slice e)) (he : P.underlying e = some (.struct fs)) (hone : oneCellFields P fs = true) (hC : P.cellsOf e = fs.size) (hpos : 0 < fs.size)
    (h : DataW.trod enc P w base spare held fuel t [u] = some x) :
    ∃ n, n ≤ maxLen ∧ u.oneCell' = true ∧ InSl w u n fs.size (fun _ j u => ∃ f m y, fs[j]? = some f ∧ DataW.trod enc P w base spare held m f.type [u] = some y) := by
  rcases open_slice_fields ht he hone hC h with ⟨h0, h1⟩ | ⟨a, len, cap, m, D, Pl, hcs, hb, hl, hm, hmm, hx, hi⟩
  · simp only [List.cons.injEq, and_true] at h0
    subst h0
    exact ⟨0, by unfold maxLen; omega, rfl, ⟨none, 0, rfl, Nat.le_refl _, by unfold maxLen; omega, fun h => by omega⟩⟩
  · simp only [List.cons.injEq, and_true] at hcs
    subst hcs
    refine ⟨len, by omega, rfl, ⟨some a, cap, rfl, hl, hm, fun h0 => ?_⟩⟩
    have hlm : len ≤ m := by rw [hmm]; split <;> omega
    obtain ⟨ab, ao, asp⟩ := a
    obtain ⟨ys, n', _, _, _, hf⟩ := hi 0 (by omega)
    obtain ⟨v0, y0, hc0, _, _⟩ := hf 0 fs[0] (Array.getElem?_eq_getElem (by omega))
    have hsp : asp = none := by
      simp only [Nat.zero_mul, Nat.add_zero, Addr.add, if_pos] at hc0
      unfold World.cell? at hc0
      cases asp with
      | none => rfl
      | some s => revert hc0; cases w.heap[ab]? with
        | none => simp
        | some o => cases o <;> simp
    subst hsp
    refine ⟨ab, ao, rfl, ?_, fun i hin j hj => ?_⟩
    · rcases Nat.lt_or_ge ab w.heap.size with h | h
      · exact h
      · simp only [Nat.zero_mul, Nat.add_zero, Addr.add, if_pos] at hc0
        unfold World.cell? at hc0
        rw [Array.getElem?_eq_none h] at hc0
        cases hc0
    · obtain ⟨ys, n', _, _, _, hf⟩ := hi i (by omega)
      obtain ⟨u, y, hc, _, ht'⟩ := hf j fs[j] (Array.getElem?_eq_getElem hj)
      rw [Addr.add_mid] at hc
      exact ⟨u, hc, fs[j], n', y, Array.getElem?_eq_getElem hj, ht'⟩
def TlR (enc : TypeId × Value → H) (w : World) (base : Nat) (spare : Nat → Bool) (held : Bool) (_ j : Nat) (u : Value) : Prop :=
  ∃ f m y, (Tryd.prog.fieldsOf 46)[j]? = some f ∧ DataW.trod enc Tryd.prog w base spare held m f.type [u] = some y
theorem tl_type {j : Nat} {f : Field} (h : (Tryd.prog.fieldsOf 46)[j]? = some f) : [3, 22][j]? = some f.type := by
  rw [← tl_types, List.getElem?_map, Array.getElem?_toList, h]; rfl
theorem tl_cell0 {i : Nat} {u : Value} (h : TlR enc w base spare held i 0 u) : ∃ z, u = .int .i64 z ∧ -9223372036854775808 ≤ z ∧ z ≤ 9223372036854775807 := by
  obtain ⟨f, m, y, h1, h2⟩ := h
  have ht := tl_type h1
  have e : f.type = 3 := by simpa using ht.symm
  rw [e] at h2
  obtain ⟨z, hz, _, hw⟩ := DataW.trod_int Tryd.underlying3 h2
  simp [Lit.wf, IntKind.min, IntKind.max, IntKind.bits, IntKind.signed] at hw
  exact ⟨z, by simpa using hz, by omega, by omega⟩
theorem tl_cell1 {i : Nat} {u : Value} (h : TlR enc w base spare held i 1 u) : u.oneCell' = true ∧ ∃ es : List Ev, es.length ≤ 9223372036854775807 ∧ VR (fun _ => .un) (fun _ => False) w (.isl es.length (evs5 es)) u := by
  obtain ⟨f, m, y, h1, h2⟩ := h
  have ht := tl_type h1
  have e : f.type = 22 := by simpa using ht.symm
  rw [e] at h2
  obtain ⟨n, hn, ho, hs⟩ := trod_inSl Tryd.underlying22 ev_struct ev_one ev_cells (by rw [ev_size]; decide) h2
  rw [ev_size] at hs
  obtain ⟨es, rfl, _, hv⟩ := hs.evs
  exact ⟨ho, es, by unfold maxLen at hn; omega, hv⟩
theorem InSl.tls {v : Value} {n : Nat} (h : InSl w v n 2 (TlR enc w base spare held)) :
    ∃ l : List Tl, l.length = n ∧ (∀ x ∈ l, (-9223372036854775808 ≤ x.t ∧ x.t ≤ 9223372036854775807) ∧ x.es.length ≤ 9223372036854775807) ∧ VR (fun _ => .un) (fun _ => False) w (.isl n (Proofs.YtglkiaiipkdkbaaDoor.tls l)) v := by
  obtain ⟨A, cap, rfl, hn, hm, hc⟩ := h.form
  rcases Nat.eq_zero_or_pos n with rfl | hpos
  · exact ⟨[], rfl, fun x hx => (by cases hx), .isl (us := fun _ => undef) hn hm (fun j hj => (by cases hj)) fun j hj => (by cases hj)⟩
  · obtain ⟨b, o, rfl, hb, hcell⟩ := hc hpos
    have key : ∀ i : Fin n, ∃ x : Tl, ∃ u0 u1 : Value, w.cell? ⟨b, o + (i.1 * 2 + 0), none⟩ = some u0 ∧ w.cell? ⟨b, o + (i.1 * 2 + 1), none⟩ = some u1 ∧ u0 = .int .i64 x.t ∧ u1.oneCell' = true ∧
        ((-9223372036854775808 ≤ x.t ∧ x.t ≤ 9223372036854775807) ∧ x.es.length ≤ 9223372036854775807) ∧ VR (fun _ => .un) (fun _ => False) w (.isl x.es.length (evs5 x.es)) u1 := fun i => by
      obtain ⟨u0, c0, r0⟩ := hcell i.1 i.2 0 (by decide)
      obtain ⟨u1, c1, r1⟩ := hcell i.1 i.2 1 (by decide)
      obtain ⟨z, hz, z0, z1⟩ := tl_cell0 r0
      obtain ⟨ho, es, he, hv⟩ := tl_cell1 r1
      exact ⟨⟨z, es⟩, u0, u1, c0, c1, hz, ho, ⟨⟨z0, z1⟩, he⟩, hv⟩
    let X : Nat → Tl := fun i => if hi : i < n then (key ⟨i, hi⟩).choose else ⟨0, []⟩
    have hX : ∀ i (hi : i < n), X i = (key ⟨i, hi⟩).choose := fun i hi => dif_pos hi
    have hk : ∀ i, i < n → ∃ u0 u1 : Value, w.cell? ⟨b, o + (i * 2 + 0), none⟩ = some u0 ∧ w.cell? ⟨b, o + (i * 2 + 1), none⟩ = some u1 ∧ u0 = .int .i64 (X i).t ∧ u1.oneCell' = true ∧
        ((-9223372036854775808 ≤ (X i).t ∧ (X i).t ≤ 9223372036854775807) ∧ (X i).es.length ≤ 9223372036854775807) ∧ VR (fun _ => .un) (fun _ => False) w (.isl (X i).es.length (evs5 (X i).es)) u1 := fun i hi => by
      rw [hX i hi]; exact (key ⟨i, hi⟩).choose_spec
    refine ⟨(List.range n).map X, by simp, fun x hx => ?_, ?_⟩
    · obtain ⟨i, hi, rfl⟩ := List.mem_map.1 hx
      obtain ⟨_, _, _, _, _, _, hb, _⟩ := hk i (List.mem_range.1 hi)
      exact hb
    · have hlen : (Proofs.YtglkiaiipkdkbaaDoor.tls ((List.range n).map X)).length = n * 2 := by rw [tls_len]; simp
      have hget : ∀ i, i < n → ∀ j, j < 2 → (Proofs.YtglkiaiipkdkbaaDoor.tls ((List.range n).map X)).getD (i * 2 + j) .any = (X i).enc.getD j .any := fun i hi j hj => by
        rw [tls_get _ i (by simpa using hi) j hj]; simp
      have cellm : ∀ m, m < n * 2 → ∃ u, w.cell? ⟨b, o + m, none⟩ = some u ∧ u.oneCell' = true ∧ VR (fun _ => .un) (fun _ => False) w ((Proofs.YtglkiaiipkdkbaaDoor.tls ((List.range n).map X)).getD m .any) u := fun m hm => by
        have hi : m / 2 < n := by omega
        obtain ⟨u0, u1, c0, c1, e0, o1, _, v1⟩ := hk (m / 2) hi
        rcases (by omega : m = m / 2 * 2 + 0 ∨ m = m / 2 * 2 + 1) with hq | hq
        · refine ⟨u0, by rw [hq]; exact c0, by rw [e0]; rfl, ?_⟩
          rw [hq, hget _ hi 0 (by decide), e0]
          exact .int _ _
        · refine ⟨u1, by rw [hq]; exact c1, o1, ?_⟩
          rw [hq, hget _ hi 1 (by decide)]
          exact v1
      refine .isl (us := fun m => (w.cell? ⟨b, o + m, none⟩).getD undef) hn hm (fun j hj => ⟨b, o, rfl, ?_, id, ?_⟩) fun j hj => ?_
      · rw [hlen] at hj
        obtain ⟨u, hu, _, _⟩ := cellm j hj
        show w.cell? ⟨b, o + j, none⟩ = some ((w.cell? ⟨b, o + j, none⟩).getD undef)
        rw [hu]; rfl
      · rw [hlen] at hj
        obtain ⟨u, hu, h1, _⟩ := cellm j hj
        show ((w.cell? ⟨b, o + j, none⟩).getD undef).oneCell' = true
        rw [hu]; exact h1
      · rw [hlen] at hj
        obtain ⟨u, hu, _, h2⟩ := cellm j hj
        show VR _ _ w _ ((w.cell? ⟨b, o + j, none⟩).getD undef)
        rw [hu]; exact h2
end
end Go.Proofs.YtglkiaiipkdkbaaDoor
