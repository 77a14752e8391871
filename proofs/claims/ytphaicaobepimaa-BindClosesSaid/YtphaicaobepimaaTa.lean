/- Tables of maps that came in. No conditions but the ones that stand in each. -/
import Derived.Test.YtphaicaobepimaaDe
import Derived.Test.YtphaicaobepimaaR0
import Derived.Test.YtphaicaobepimaaArgsS
import Derived.Test.YtphaicaobepimaaSl
namespace Go.Proofs.Ytphaicaobepimaa
set_option linter.all false
set_option linter.unusedSimpArgs false
open Go.RowKit Go.ChangeShapes Go.WideShapes Go.Deep

section
variable {H : Type} {enc : TypeId × Value → H} {P : Program} {w : World} {base : Nat} {spare : Nat → Bool} {held : Bool}
/-- A slice of structs that lies in a cell, and what is told of it. -/
theorem trod_sl {t e : TypeId} {fs : Array Field} {u : Value} {fuel : Nat} {x : DataW H × List MemPlace} (ht : P.underlying t = some (.slice e)) (he : P.underlying e = some (.struct fs)) (hone : oneCellFields P fs = true) (hC : P.cellsOf e = fs.size) (hpos : 0 < fs.size)
    (h : DataW.trod enc P w base spare held fuel t [u] = some x) :
    ∃ n, (x.1 = .nil ∧ n = 0 ∨ ∃ es sp, x.1 = .slice es sp ∧ es.length = n) ∧ u.oneCell' = true ∧ InSl w u n fs.size (fun _ j u => ∃ f m y, fs[j]? = some f ∧ DataW.trod enc P w base spare held m f.type [u] = some y) := by
  rcases open_slice_fields ht he hone hC h with ⟨h0, h1⟩ | ⟨a, len, cap, m, D, Pl, hcs, hb, hl, hm, hmm, hx, hi⟩
  · simp only [List.cons.injEq, and_true] at h0
    subst h0
    exact ⟨0, .inl ⟨by rw [h1], rfl⟩, rfl, ⟨none, 0, rfl, Nat.le_refl _, by unfold maxLen; omega, fun h => by omega⟩⟩
  · simp only [List.cons.injEq, and_true] at hcs
    subst hcs
    refine ⟨len, .inr ⟨_, _, by rw [hx], by simp⟩, rfl, ⟨some a, cap, rfl, hl, hm, fun h0 => ?_⟩⟩
    have hlm : len ≤ m := by rw [hmm]; split <;> omega
    obtain ⟨ab, ao, asp⟩ := a
    obtain ⟨ys, n', _, _, _, hf⟩ := hi 0 (by omega)
    obtain ⟨v0, y0, hc0, _, _⟩ := hf 0 fs[0] (Array.getElem?_eq_getElem (by omega))
    have hsp : asp = none := by
      simp only [Nat.zero_mul, Nat.add_zero, Addr.add, if_pos] at hc0
      unfold World.cell? at hc0
      cases asp with
      | none => rfl
      | some s => revert hc0; cases w.heap[ab]? with
        | none => simp
        | some o => cases o <;> simp
    subst hsp
    refine ⟨ab, ao, rfl, ?_, fun i hin j hj => ?_⟩
    · rcases Nat.lt_or_ge ab w.heap.size with h | h
      · exact h
      · simp only [Nat.zero_mul, Nat.add_zero, Addr.add, if_pos] at hc0
        unfold World.cell? at hc0
        rw [Array.getElem?_eq_none h] at hc0
        cases hc0
    · obtain ⟨ys, n', _, _, _, hf⟩ := hi i (by omega)
      obtain ⟨u, y, hc, _, ht'⟩ := hf j fs[j] (Array.getElem?_eq_getElem hj)
      rw [Addr.add_mid] at hc
      exact ⟨u, hc, fs[j], n', y, Array.getElem?_eq_getElem hj, ht'⟩
theorem sized_field {ts : List TypeId} {ds : List (DataW H)} (h : (DataW.weightsEach P ts ds).all (· ≤ reachBytes) = true) {j k : Nat} {t t2 e : TypeId} {fs : Array Field} {parts elems sp : List (DataW H)} (ht : ts[j]? = some t) (hd : ds[j]? = some (.agg parts))
    (hu : P.underlying t = some (.struct fs)) (hf : (fs.toList.map (·.type))[k]? = some t2) (hp : parts[k]? = some (.slice elems sp)) (hu2 : P.underlying t2 = some (.slice e)) : (elems.length + sp.length) * P.bytesOf e ≤ reachBytes := by
  have h1 : (elems.length + sp.length) * P.bytesOf e ∈ DataW.weights P t (.agg parts) := by
    simp only [DataW.weights, hu]
    exact DataW.weights_mem_each hf hp _ (by simp [DataW.weights, hu2])
  have := List.all_eq_true.1 h _ (DataW.weights_mem_each ht hd _ h1)
  simpa using this
end
theorem mp_types : ((Try.prog.fieldsOf 32).toList.map (·.type)) = [3, 3, 3, 3, 3] := by kernel_rfl
theorem mp_struct : Try.prog.underlying 32 = some (.struct (Try.prog.fieldsOf 32)) := by kernel_rfl
theorem mp_size : (Try.prog.fieldsOf 32).size = 5 := by kernel_rfl
theorem mp_one : oneCellFields Try.prog (Try.prog.fieldsOf 32) = true := by kernel_rfl
theorem mp_cells : Try.prog.cellsOf 32 = (Try.prog.fieldsOf 32).size := by kernel_rfl
theorem mp_bytes : Try.prog.bytesOf 32 = 40 := by kernel_rfl
theorem tb_types : ((Try.prog.fieldsOf 30).toList.map (·.type)) = [26, 27, 28] := by kernel_rfl
theorem tb_struct : Try.prog.underlying 30 = some (.struct (Try.prog.fieldsOf 30)) := by kernel_rfl
theorem tb_off : ((Try.prog.fieldsOf 30).toList.map (·.offset)) = [0, 21, 29] := by kernel_rfl
theorem tb_size : (Try.prog.fieldsOf 30).size = 3 := by kernel_rfl
theorem mps_cell : Try.prog.cellsOf 28 = 1 := by kernel_rfl
theorem tb_cells : Try.prog.cellsOf 30 = 30 := by kernel_rfl
theorem tb_cellTypes : Try.prog.cellTypes Try.prog.depth 30 = some (List.replicate 18 3 ++ (List.replicate 3 4 ++ (List.replicate 8 3 ++ [28]))) := by kernel_rfl
section
variable {H : Type} {enc : TypeId × Value → H} {w : World} {base : Nat} {spare : Nat → Bool} {held : Bool}
def MpR (enc : TypeId × Value → H) (w : World) (base : Nat) (spare : Nat → Bool) (held : Bool) (_ j : Nat) (u : Value) : Prop :=
  ∃ f m y, (Try.prog.fieldsOf 32)[j]? = some f ∧ DataW.trod enc Try.prog w base spare held m f.type [u] = some y
theorem mp_type {j : Nat} {f : Field} (h : (Try.prog.fieldsOf 32)[j]? = some f) : [3, 3, 3, 3, 3][j]? = some f.type := by
  rw [← mp_types, List.getElem?_map, Array.getElem?_toList, h]; rfl
theorem mp_cell {i j : Nat} {u : Value} (h : MpR enc w base spare held i j u) : ∃ z, u = .int .i64 z ∧ -9223372036854775808 ≤ z ∧ z ≤ 9223372036854775807 := by
  obtain ⟨f, m, y, h1, h2⟩ := h
  have ht := mp_type h1
  have e : f.type = 3 := by
    rcases j with _ | _ | _ | _ | _ | j
    · simpa using ht.symm
    · simpa using ht.symm
    · simpa using ht.symm
    · simpa using ht.symm
    · simpa using ht.symm
    · simp at ht
  rw [e] at h2
  obtain ⟨z, hz, _, hw⟩ := DataW.trod_int Try.underlying3 h2
  simp [Lit.wf, IntKind.min, IntKind.max, IntKind.bits, IntKind.signed] at hw
  exact ⟨z, by simpa using hz, by omega, by omega⟩
theorem mps_get (l : List Mp) (i : Nat) (h : i < l.length) (j : Nat) (hj : j < 5) : (mps l).getD (i * 5 + j) .any = (l[i]).enc.getD j .any := by
  have := mps_cut l i h
  rw [← this]
  simp only [List.getD, List.getElem?_take, hj, if_true, List.getElem?_drop]
theorem InSl.mps {v : Value} {n : Nat} {R : Nat → Nat → Value → Prop} (hR : ∀ i j u, R i j u → ∃ z, u = .int .i64 z ∧ -9223372036854775808 ≤ z ∧ z ≤ 9223372036854775807) (h : InSl w v n 5 R) :
    ∃ l : List Mp, l.length = n ∧ (∀ m ∈ l, MpB m) ∧ VR (fun _ => .un) (fun _ => False) w (.isl n (Proofs.Ytphaicaobepimaa.mps l)) v := by
  obtain ⟨us, hu, hv⟩ := h.isl (by decide) fun i j u hr => by
    obtain ⟨z, rfl, _⟩ := hR _ _ _ hr; rfl
  have hI : ∀ i, i < n → ∀ j, j < 5 → ∃ z, us (i * 5 + j) = .int .i64 z ∧ -9223372036854775808 ≤ z ∧ z ≤ 9223372036854775807 := fun i hi j hj => hR _ _ _ (hu i hi j hj)
  let gi (v : Value) : Int := match v with | .int _ z => z | _ => 0
  let mp (i : Nat) : Mp := ⟨gi (us (i * 5 + 0)), gi (us (i * 5 + 1)), gi (us (i * 5 + 2)), gi (us (i * 5 + 3)), gi (us (i * 5 + 4))⟩
  refine ⟨(List.range n).map mp, by simp, fun e he => ?_, ?_⟩
  · obtain ⟨i, hi, rfl⟩ := List.mem_map.1 he
    rw [List.mem_range] at hi
    obtain ⟨z0, e0, b0⟩ := hI i hi 0 (by omega)
    obtain ⟨z1, e1, b1⟩ := hI i hi 1 (by omega)
    obtain ⟨z2, e2, b2⟩ := hI i hi 2 (by omega)
    obtain ⟨z3, e3, b3⟩ := hI i hi 3 (by omega)
    obtain ⟨z4, e4, b4⟩ := hI i hi 4 (by omega)
    simp only [MpB, mp, e0, e1, e2, e3, e4, gi]
    exact ⟨b0, b1, b2, b3, b4⟩
  · have heq : (List.range (n * 5)).map (fun m => ofS (us m)) = Proofs.Ytphaicaobepimaa.mps ((List.range n).map mp) := by
      apply List.ext_getElem
      · rw [mps_len]; simp
      · intro m h1 h2
        have hm : m < n * 5 := by simpa using h1
        have hi : m / 5 < n := by omega
        have e0 := mps_get ((List.range n).map mp) (m / 5) (by simpa using hi) (m % 5) (by omega)
        rw [show m / 5 * 5 + m % 5 = m by omega] at e0
        have e1 : (Proofs.Ytphaicaobepimaa.mps ((List.range n).map mp)).getD m .any = (Proofs.Ytphaicaobepimaa.mps ((List.range n).map mp))[m] := by simp [List.getD, h2]
        rw [e1] at e0
        rw [e0]
        simp only [List.getElem_map, List.getElem_range]
        have hd : m = m / 5 * 5 + m % 5 := by omega
        have hr : m % 5 < 5 := Nat.mod_lt _ (by decide)
        generalize m / 5 = q at *
        generalize m % 5 = r at *
        subst hd
        obtain ⟨z0, f0, _⟩ := hI q hi 0 (by omega)
        obtain ⟨z1, f1, _⟩ := hI q hi 1 (by omega)
        obtain ⟨z2, f2, _⟩ := hI q hi 2 (by omega)
        obtain ⟨z3, f3, _⟩ := hI q hi 3 (by omega)
        obtain ⟨z4, f4, _⟩ := hI q hi 4 (by omega)
        match r, hr with
        | 0, _ => simp only [f0, ofS, mp, Mp.enc, gi]; rfl
        | 1, _ => simp only [f1, ofS, mp, Mp.enc, gi]; rfl
        | 2, _ => simp only [f2, ofS, mp, Mp.enc, gi]; rfl
        | 3, _ => simp only [f3, ofS, mp, Mp.enc, gi]; rfl
        | 4, _ => simp only [f4, ofS, mp, Mp.enc, gi]; rfl
    rw [heq] at hv
    exact hv
theorem hom_mk (p : Pool) (l : List Mp) (f : Nat → Int) {s : Nat} (hs : s < 8) : Tb.hom ⟨p, (List.range 8).map f, l⟩ s = f s := by
  unfold Tb.hom
  simp [List.getD, hs]
set_option maxRecDepth 100000 in
theorem arg_table2 {b0 : Nat} {v : Value} {d : DataW H} {p : List MemPlace} (hval : Value.okWide Try.prog w .any b0 30 v) (h : DataW.Trod enc Try.prog w base spare held 30 v d p) :
    ∃ (t : Tb), t.wf ∧ (∀ m ∈ t.maps, MpB m) ∧ (∀ s, s < 8 → -9223372036854775808 ≤ t.hom s ∧ t.hom s ≤ 9223372036854775807) ∧ (∃ d0 d1 d2, d = .agg [d0, d1, d2] ∧ (d2 = .nil ∧ t.maps.length = 0 ∨ ∃ es sp, d2 = .slice es sp ∧ es.length = t.maps.length)) ∧ VR (fun _ => .un) (fun _ => False) w (.agg t.enc) v := by
  obtain ⟨cs, rfl, hs, hall⟩ := arg_cells (.inl ⟨_, tb_struct⟩) tb_cellTypes tb_cells rfl hval
  obtain ⟨fuel, h⟩ := h
  obtain ⟨xs, n', hn', hx, hlen, hxl, hf⟩ := DataW.trod_struct tb_struct h
  rw [tb_size] at hxl
  have hcell29 : ∃ y, xs[2]? = some y ∧ DataW.trod enc Try.prog w base spare held n' 28 [cs.getD 29 undef] = some y := by
    have h2l : 2 < (Try.prog.fieldsOf 30).size := by rw [tb_size]; decide
    have hF : (Try.prog.fieldsOf 30)[2]? = some (Try.prog.fieldsOf 30)[2] := Array.getElem?_eq_getElem h2l
    have hty : (Try.prog.fieldsOf 30)[2].type = 28 := by
      have := congrArg (fun l => l[2]?) tb_types
      simp only [List.getElem?_map, Array.getElem?_toList, hF] at this
      simpa using this
    have hof : (Try.prog.fieldsOf 30)[2].offset = 29 := by
      have := congrArg (fun l => l[2]?) tb_off
      simp only [List.getElem?_map, Array.getElem?_toList, hF] at this
      simpa using this
    have h3 := hf 2 _ hF
    rw [hty, hof, mps_cell] at h3
    have hcs : ((Value.agg cs).cells.toList.drop 29).take 1 = [cs.getD 29 undef] := by
      show (cs.toList.drop 29).take 1 = _
      have h29 : 29 < cs.toList.length := by simp; omega
      rw [List.drop_eq_getElem_cons h29]
      simp [Array.getD_eq_getD_getElem?, show 29 < cs.size by omega]
    rw [hcs] at h3
    have h4 : xs[2]? = some (xs[2]'(by omega)) := List.getElem?_eq_getElem (by omega)
    exact ⟨_, h4, by rw [h3, h4]⟩
  obtain ⟨y, hy, h3⟩ := hcell29
  obtain ⟨n, hn, hone, hsl⟩ := trod_sl Try.underlying28 mp_struct mp_one mp_cells (by rw [mp_size]; decide) h3
  rw [mp_size] at hsl
  obtain ⟨l, rfl, hmb, hvl⟩ := InSl.mps (R := MpR enc w base spare held) (fun _ _ _ h => mp_cell (enc := enc) h) hsl
  let gi (v : Value) : Int := match v with | .int _ z => z | _ => 0
  let gb (v : Value) : Bool := match v with | .bool b => b | _ => false
  have hint : ∀ i, (i < 18 ∨ 21 ≤ i ∧ i < 29) → ∃ z, cs.getD i undef = .int .i64 z ∧ -9223372036854775808 ≤ z ∧ z ≤ 9223372036854775807 := fun i hi => by
    have hty : (List.replicate 18 3 ++ (List.replicate 3 4 ++ (List.replicate 8 3 ++ [28])))[i]? = some 3 := by
      rcases hi with hi | ⟨h1, h2⟩
      · rw [List.getElem?_append_left (by simpa using hi), List.getElem?_replicate, if_pos hi]
      · rw [List.getElem?_append_right (by simp; omega), List.getElem?_append_right (by simp; omega), List.getElem?_append_left (by simp; omega), List.getElem?_replicate, if_pos (by simp; omega)]
    obtain ⟨x, hx, hc⟩ := hall i _ hty
    obtain ⟨z, rfl, hz⟩ := cell_int hc Try.underlying3
    exact ⟨z, by rw [Array.getD_eq_getD_getElem?, hx]; rfl, hz⟩
  have hboo : ∀ i, (18 ≤ i ∧ i < 21) → ∃ b, cs.getD i undef = .bool b := fun i hi => by
    have hty : (List.replicate 18 3 ++ (List.replicate 3 4 ++ (List.replicate 8 3 ++ [28])))[i]? = some 4 := by
      rw [List.getElem?_append_right (by simp; omega), List.getElem?_append_left (by simp; omega), List.getElem?_replicate, if_pos (by simp; omega)]
    obtain ⟨x, hx, hc⟩ := hall i _ hty
    obtain ⟨b, rfl⟩ := cell_bool hc Try.underlying4
    exact ⟨b, by rw [Array.getD_eq_getD_getElem?, hx]; rfl⟩
  refine ⟨⟨⟨(List.range 18).map fun i => gi (cs.getD i undef), (List.range 3).map fun i => gb (cs.getD (18 + i) undef)⟩, (List.range 8).map fun i => gi (cs.getD (21 + i) undef), l⟩, ⟨⟨by simp, by simp⟩, by simp⟩, hmb, fun s hs => ?_, ?_, ?_⟩
  · obtain ⟨z, e, hz⟩ := hint (21 + s) (.inr (by omega))
    have : gi (cs.getD (21 + s) undef) = z := by rw [e]
    rw [hom_mk _ _ _ hs, this]; exact hz
  · match xs, hxl with
    | [x0, x1, x2], _ =>
      have : x2 = y := by simpa using hy
      subst this
      exact ⟨x0.1, x1.1, x2.1, (Prod.mk.inj hx).1, hn⟩
  · have henc : ∀ j, j < 29 → (Tb.enc ⟨⟨(List.range 18).map fun i => gi (cs.getD i undef), (List.range 3).map fun i => gb (cs.getD (18 + i) undef)⟩, (List.range 8).map fun i => gi (cs.getD (21 + i) undef), l⟩).getD j .any = if j < 18 then .int .i64 (gi (cs.getD j undef)) else if j < 21 then .bool (gb (cs.getD j undef)) else .int .i64 (gi (cs.getD j undef)) := fun j hj => by
      unfold Tb.enc Tb.hd Pool.enc ints bools
      simp only [List.getD, List.append_assoc]
      by_cases h1 : j < 18
      · rw [List.getElem?_append_left (by simp; omega), if_pos h1]; simp [h1]
      · rw [List.getElem?_append_right (by simp; omega), if_neg h1]
        by_cases h2 : j < 21
        · rw [List.getElem?_append_left (by simp; omega), if_pos h2]
          simp [show j - 18 < 3 by omega, show 18 + (j - 18) = j by omega]
        · rw [List.getElem?_append_right (by simp; omega), List.getElem?_append_left (by simp; omega), if_neg h2]
          simp [show j - 18 - 3 < 8 by omega, show 21 + (j - 18 - 3) = j by omega]
    have hel : (Tb.enc ⟨⟨(List.range 18).map fun i => gi (cs.getD i undef), (List.range 3).map fun i => gb (cs.getD (18 + i) undef)⟩, (List.range 8).map fun i => gi (cs.getD (21 + i) undef), l⟩).length = 30 := Tb.enc_len ⟨⟨by simp, by simp⟩, by simp⟩
    have hem : (Tb.enc ⟨⟨(List.range 18).map fun i => gi (cs.getD i undef), (List.range 3).map fun i => gb (cs.getD (18 + i) undef)⟩, (List.range 8).map fun i => gi (cs.getD (21 + i) undef), l⟩).getD 29 .any = .isl l.length (Proofs.Ytphaicaobepimaa.mps l) := Tb.enc_maps ⟨⟨by simp, by simp⟩, by simp⟩
    refine .agg (by rw [hel, hs]) (fun j hj => ?_) fun j hj => ?_
    · rw [hel] at hj
      by_cases h1 : j < 18 ∨ 21 ≤ j ∧ j < 29
      · obtain ⟨z, e, _⟩ := hint j h1; rw [e]; rfl
      · by_cases h2 : j = 29
        · subst h2; exact hone
        · obtain ⟨b, e⟩ := hboo j (by omega); rw [e]; rfl
    · rw [hel] at hj
      by_cases h2 : j = 29
      · subst h2; rw [hem]; exact hvl
      · rw [henc j (by omega)]
        by_cases h1 : j < 18
        · obtain ⟨z, e, _⟩ := hint j (.inl h1); rw [if_pos h1, e]; exact .int _ _
        · rw [if_neg h1]
          by_cases h3 : j < 21
          · obtain ⟨b, e⟩ := hboo j (by omega); rw [if_pos h3, e]; exact .bool _
          · obtain ⟨z, e, _⟩ := hint j (.inr (by omega)); rw [if_neg h3, e]; exact .int _ _
set_option maxRecDepth 100000 in
theorem arg_table {b0 : Nat} {v : Value} {d : DataW H} {p : List MemPlace} (hval : Value.okWide Try.prog w .any b0 30 v) (h : DataW.Trod enc Try.prog w base spare held 30 v d p) :
    ∃ (t : Tb), t.wf ∧ (∀ m ∈ t.maps, MpB m) ∧ (∃ d0 d1 d2, d = .agg [d0, d1, d2] ∧ (d2 = .nil ∧ t.maps.length = 0 ∨ ∃ es sp, d2 = .slice es sp ∧ es.length = t.maps.length)) ∧ VR (fun _ => .un) (fun _ => False) w (.agg t.enc) v := by
  obtain ⟨t, h1, h2, _, h3, h4⟩ := arg_table2 hval h
  exact ⟨t, h1, h2, h3, h4⟩
end
theorem PS.lawN {f : FuncId} {args : List AV} {vs : List Value} {W : World} (h : PS Try.prog (fun _ => .any) f args (.bool true)) (hv : VRs (fun _ => .un) (fun _ => False) W args vs) :
    Calls Try.prog f vs.toArray W fun e W' => e = .returned (.bool true) ∧ Below W.heap.size W W' :=
  (h.2 W vs (fun _ => False) (fun _ h => h.elim) (fun _ => .any _) hv).mono fun e w' ⟨u, e1, e2, e3⟩ => by
    cases e2
    exact ⟨e1, ⟨e3.os, e3.tape, e3.output, e3.size, fun k hk => e3.keep k hk fun h => h.elim⟩⟩
end Go.Proofs.Ytphaicaobepimaa
