/- A slice of structs that came in, as a row that nobody writes. No conditions but the ones that stand in each. -/
import Derived.Test.YtphaicaobepimaaE2
import Derived.Test.YtphaicaobepimaaArgsS
namespace Go.Proofs.Ytphaicaobepimaa
set_option linter.all false
set_option linter.unusedSimpArgs false
open Go.RowKit Go.ChangeShapes Go.WideShapes Go.Deep

theorem InSl.isl {W : World} {v : Value} {n sz : Nat} {R : Nat → Nat → Value → Prop} (hsz : 0 < sz) (h : InSl W v n sz R) (h1 : ∀ i j u, R i j u → u.oneCell' = true) :
    ∃ us : Nat → Value, (∀ i, i < n → ∀ j, j < sz → R i j (us (i * sz + j))) ∧ VR (fun _ => .un) (fun _ => False) W (.isl n ((List.range (n * sz)).map fun m => ofS (us m))) v := by
  obtain ⟨A, cap, rfl, hn, hm, hc⟩ := h.form
  rcases Nat.eq_zero_or_pos n with rfl | hpos
  · exact ⟨fun _ => undef, fun i hi => absurd hi (by omega), .isl (us := fun _ => undef) hn hm (fun j hj => by simp at hj) fun j hj => by simp at hj⟩
  · obtain ⟨b, o, rfl, hb, hcell⟩ := hc hpos
    have key : ∀ i, i < n → ∀ j, j < sz → W.cell? ⟨b, o + (i * sz + j), none⟩ = some ((W.cell? ⟨b, o + (i * sz + j), none⟩).getD undef) ∧ R i j ((W.cell? ⟨b, o + (i * sz + j), none⟩).getD undef) := by
      intro i hi j hj
      obtain ⟨u, hu, hr⟩ := hcell i hi j hj
      rw [hu]; exact ⟨rfl, hr⟩
    refine ⟨fun m => (W.cell? ⟨b, o + m, none⟩).getD undef, fun i hi j hj => (key i hi j hj).2, ?_⟩
    have at_ : ∀ m, m < n * sz → W.cell? ⟨b, o + m, none⟩ = some ((W.cell? ⟨b, o + m, none⟩).getD undef) ∧ ((W.cell? ⟨b, o + m, none⟩).getD undef).oneCell' = true := by
      intro m hm
      have hd : m / sz < n := Nat.div_lt_of_lt_mul (by rw [Nat.mul_comm]; exact hm)
      have hr := Nat.mod_lt m hsz
      have e : m / sz * sz + m % sz = m := by rw [Nat.mul_comm]; exact Nat.div_add_mod m sz
      have := key _ hd _ hr
      rw [e] at this
      exact ⟨this.1, h1 _ _ _ this.2⟩
    refine .isl (us := fun m => (W.cell? ⟨b, o + m, none⟩).getD undef) hn hm (fun j hj => ⟨b, o, rfl, ?_, id, ?_⟩) fun j hj => ?_
    · simp only [List.length_map, List.length_range] at hj; exact (at_ j hj).1
    · simp only [List.length_map, List.length_range] at hj; exact (at_ j hj).2
    · simp only [List.length_map, List.length_range] at hj
      have : ((List.range (n * sz)).map fun m => ofS ((W.cell? ⟨b, o + m, none⟩).getD undef)).getD j .any = ofS ((W.cell? ⟨b, o + j, none⟩).getD undef) := by simp [List.getD, hj]
      rw [this]
      exact ofS_ok _

end Go.Proofs.Ytphaicaobepimaa
