/- A slice that came in, as a row that nobody writes; the walk of TrackRuns. No conditions but the ones that stand in each. -/
import Derived.Test.YtldeiolmpmcanaaTm
import Derived.Test.YtldeiolmpmcanaaArgsS
namespace Go.Proofs.Ytldeiolmpmcanaa
set_option linter.all false
set_option linter.unusedSimpArgs false
open Go.RowKit Go.ChangeShapes Go.WideShapes Go.Deep

theorem InSl.isl {W : World} {v : Value} {n sz : Nat} {R : Nat → Nat → Value → Prop} (hsz : 0 < sz) (h : InSl W v n sz R) (h1 : ∀ i j u, R i j u → u.oneCell' = true) :
    ∃ us : Nat → Value, (∀ i, i < n → ∀ j, j < sz → R i j (us (i * sz + j))) ∧ VR (fun _ => .un) (fun _ => False) W (.isl n ((List.range (n * sz)).map fun m => ofS (us m))) v := by
  obtain ⟨A, cap, rfl, hn, hm, hc⟩ := h.form
  rcases Nat.eq_zero_or_pos n with rfl | hpos
  · exact ⟨fun _ => undef, fun i hi => absurd hi (by omega), .isl (us := fun _ => undef) hn hm (fun j hj => by simp at hj) fun j hj => by simp at hj⟩
  · obtain ⟨b, o, rfl, hb, hcell⟩ := hc hpos
    have key : ∀ i, i < n → ∀ j, j < sz → W.cell? ⟨b, o + (i * sz + j), none⟩ = some ((W.cell? ⟨b, o + (i * sz + j), none⟩).getD undef) ∧ R i j ((W.cell? ⟨b, o + (i * sz + j), none⟩).getD undef) := by
      intro i hi j hj
      obtain ⟨u, hu, hr⟩ := hcell i hi j hj
      rw [hu]; exact ⟨rfl, hr⟩
    refine ⟨fun m => (W.cell? ⟨b, o + m, none⟩).getD undef, fun i hi j hj => (key i hi j hj).2, ?_⟩
    have at_ : ∀ m, m < n * sz → W.cell? ⟨b, o + m, none⟩ = some ((W.cell? ⟨b, o + m, none⟩).getD undef) ∧ ((W.cell? ⟨b, o + m, none⟩).getD undef).oneCell' = true := by
      intro m hm
      have hd : m / sz < n := Nat.div_lt_of_lt_mul (by rw [Nat.mul_comm]; exact hm)
      have hr := Nat.mod_lt m hsz
      have e : m / sz * sz + m % sz = m := by rw [Nat.mul_comm]; exact Nat.div_add_mod m sz
      have := key _ hd _ hr
      rw [e] at this
      exact ⟨this.1, h1 _ _ _ this.2⟩
    refine .isl (us := fun m => (W.cell? ⟨b, o + m, none⟩).getD undef) hn hm (fun j hj => ⟨b, o, rfl, ?_, id, ?_⟩) fun j hj => ?_
    · simp only [List.length_map, List.length_range] at hj; exact (at_ j hj).1
    · simp only [List.length_map, List.length_range] at hj; exact (at_ j hj).2
    · simp only [List.length_map, List.length_range] at hj
      have : ((List.range (n * sz)).map fun m => ofS ((W.cell? ⟨b, o + m, none⟩).getD undef)).getD j .any = ofS ((W.cell? ⟨b, o + j, none⟩).getD undef) := by simp [List.getD, hj]
      rw [this]
      exact ofS_ok _

theorem seen_types : ((Try.prog.fieldsOf 33).toList.map (·.type)) = [3, 3, 4] := by kernel_rfl
theorem seen_struct : Try.prog.underlying 33 = some (.struct (Try.prog.fieldsOf 33)) := by kernel_rfl
section
variable {H : Type} {enc : TypeId × Value → H} {w : World} {base : Nat} {spare : Nat → Bool} {held : Bool}
def SeenR (enc : TypeId × Value → H) (w : World) (base : Nat) (spare : Nat → Bool) (held : Bool) (_ j : Nat) (u : Value) : Prop :=
  ∃ f m y, (Try.prog.fieldsOf 33)[j]? = some f ∧ DataW.trod enc Try.prog w base spare held m f.type [u] = some y
theorem seen_type {j : Nat} {f : Field} (h : (Try.prog.fieldsOf 33)[j]? = some f) : [3, 3, 4][j]? = some f.type := by
  rw [← seen_types, List.getElem?_map, Array.getElem?_toList, h]; rfl
theorem seen_cell {i j : Nat} {u : Value} (h : SeenR enc w base spare held i j u) : (j < 2 ∧ ∃ z, u = .int .i64 z) ∨ (j = 2 ∧ ∃ b, u = .bool b) := by
  obtain ⟨f, m, y, h1, h2⟩ := h
  have ht := seen_type h1
  rcases j with _ | _ | _ | j
  · have e : f.type = 3 := by simpa using ht.symm
    rw [e] at h2
    obtain ⟨z, hz, _⟩ := DataW.trod_int Try.underlying3 h2
    exact .inl ⟨by omega, z, by simpa using hz⟩
  · have e : f.type = 3 := by simpa using ht.symm
    rw [e] at h2
    obtain ⟨z, hz, _⟩ := DataW.trod_int Try.underlying3 h2
    exact .inl ⟨by omega, z, by simpa using hz⟩
  · have e : f.type = 4 := by simpa using ht.symm
    rw [e] at h2
    obtain ⟨z, hz, _⟩ := DataW.trod_bool Try.underlying4 h2
    exact .inr ⟨rfl, z, by simpa using hz⟩
  · simp at ht

theorem seen_size : (Try.prog.fieldsOf 33).size = 3 := by kernel_rfl
theorem LTrackRuns (v : Value) (n : Nat) (w : World) (h : InSl w v n 3 (SeenR enc w base spare held)) :
    Calls Try.prog 3 #[v] w fun e w' => e = .returned (.bool true) ∧ Ext w w' := by
  obtain ⟨us, hu, hv⟩ := h.isl (by decide) fun i j u hr => by
    rcases seen_cell hr with ⟨_, z, rfl⟩ | ⟨_, b, rfl⟩ <;> rfl
  have at_ : ∀ m, m < n * 3 → ((List.range (n * 3)).map fun m => ofS (us m)).getD m .any = ofS (us m) := fun m hm => by simp [List.getD, hm]
  have hs : SeenOk n ((List.range (n * 3)).map fun m => ofS (us m)) := by
    refine ⟨by simp, fun i hi => ?_, fun i hi => ?_, fun i hi => ?_⟩
    · rw [at_ _ (by omega)]
      rcases seen_cell (hu i hi 0 (by decide)) with ⟨_, z, hz⟩ | ⟨hj, _⟩
      · rw [Nat.add_zero] at hz; rw [hz]; exact ⟨z, rfl⟩
      · omega
    · rw [at_ _ (by omega)]
      rcases seen_cell (hu i hi 1 (by decide)) with ⟨_, z, hz⟩ | ⟨hj, _⟩
      · rw [hz]; exact ⟨z, rfl⟩
      · omega
    · rw [at_ _ (by omega)]
      rcases seen_cell (hu i hi 2 (by decide)) with ⟨hj, _⟩ | ⟨_, z, hz⟩
      · omega
      · rw [hz]; exact ⟨z, rfl⟩
  refine ((TrackRuns_ps (fun _ => .any) n _ hs).2 w [v] (fun _ => False) (fun _ h => h.elim) (fun _ => .any _) ⟨hv, trivial⟩).mono fun e w' ⟨u, e1, e2, e3⟩ => ?_
  cases e2
  exact ⟨e1, e3.os, e3.tape, e3.output, e3.size, fun k hk => e3.keep k hk fun h => h.elim⟩
end
end Go.Proofs.Ytldeiolmpmcanaa
