/- A row that is nil, as a row of no cells that has a name. No conditions but the ones that stand in each. -/
import Derived.Test.YtphaicaobepimaaE3
namespace Go.Proofs.Ytphaicaobepimaa
set_option linter.all false
set_option linter.unusedSimpArgs false
open Go.RowKit

section
variable {P : Program} {c : Cx} {g : Nat → GM} {s : St} {a : Act} {w : World}
/-- The same, the row that is nil under a name of its own. -/
def St.named (s : St) (i es : Nat) : St := ⟨(i, .sl es s.n 0 0 0) :: s.t, (s.n, .cells []) :: s.h, s.n + 1⟩
theorem R.named {i es : Nat} (hR : R c g s.fs a w) (hi : look s.t i = .nils) (hf : s.fs.H s.n = .free) : R c (fun b => if b = s.n then .ph else g b) (s.named i es).fs a w := by
  have hun : g s.n = .un := by
    have := hR.h s.n
    rw [hf] at this
    generalize g s.n = m at this
    cases this; rfl
  have hH : ∀ b, b ≠ s.n → (s.named i es).fs.H b = s.fs.H b := fun b hb => by
    show lookb ((s.n, _) :: s.h) (s.n + 1) b = lookb s.h s.n b
    rw [lookb_cons, if_neg (fun e => hb e.symm), lookb_up _ _ _ hb]
  have hHn : (s.named i es).fs.H s.n = .cells [] := by
    show lookb ((s.n, _) :: s.h) (s.n + 1) s.n = _
    rw [lookb_cons, if_pos rfl]
  have hne : ∀ {b k}, (if b = s.n then GM.ph else g b) = .re k → b ≠ s.n ∧ g b = .re k := fun {b k} h => by
    by_cases hb : b = s.n
    · rw [if_pos hb] at h; cases h
    · rw [if_neg hb] at h; exact ⟨hb, h⟩
  have hg : ∀ b, g b ≠ .un → (if b = s.n then GM.ph else g b) = g b := fun b hb => by
    rw [if_neg]; rintro rfl; exact hb hun
  have hW : ∀ k, wset c (fun b => if b = s.n then .ph else g b) (s.named i es).fs k → wset c g s.fs k := by
    rintro k (h | ⟨b, h1, h2⟩)
    · exact .inl h
    · obtain ⟨hb, h3⟩ := hne h2
      rw [hH b hb] at h1
      exact .inr ⟨b, h1, h3⟩
  have mono : ∀ {v u}, VR g (wset c g s.fs) w v u → VR (fun b => if b = s.n then .ph else g b) (wset c (fun b => if b = s.n then .ph else g b) (s.named i es).fs) w v u := fun h => h.mono (Fr.refl _ _) (fun k _ => hW k) hg
  refine ⟨hR.size, hR.def_, fun j => ?_, fun j => (hR.gl j).mono (Fr.refl _ _) (fun k _ => hW k) (fun _ _ => rfl), fun b => ?_, fun b b' k h1 h2 e1 e2 => ?_, fun b k h1 e1 => ?_, hR.fr, hR.xs, fun p hp => ?_⟩
  · show VR _ _ w (look ((i, _) :: s.t) j) _
    rw [look_cons]
    split
    · rename_i hij
      subst hij
      have := hR.t i
      have e : s.fs.T i = .nils := hi
      rw [e] at this
      generalize a.tmps.getD i undef = u at this ⊢
      cases this
      exact .slp (if_pos rfl) rfl
    · exact mono (hR.t j)
  · by_cases hb : b = s.n
    · subst hb
      show BR _ _ w (if s.n = s.n then _ else _) _
      rw [if_pos rfl, hHn]; exact .ph
    · show BR _ _ w (if b = s.n then _ else _) _
      rw [if_neg hb, hH b hb]
      exact (hR.h b).mono (Fr.refl _ _) (fun k _ => hW k) hg (fun _ _ _ => rfl)
  · obtain ⟨b1, g1⟩ := hne e1
    obtain ⟨b2, g2⟩ := hne e2
    rw [hH b b1] at h1
    rw [hH b' b2] at h2
    exact hR.inj b b' k h1 h2 g1 g2
  · obtain ⟨b1, g1⟩ := hne e1
    rw [hH b b1] at h1
    exact hR.old b k h1 g1
  · obtain ⟨q1, q2⟩ := hR.pin p hp
    exact ⟨by show (if p.1 = s.n then GM.ph else g p.1) = _; rw [hg _ (by rw [q1]; exact q2)]; exact q1, q2⟩
theorem loop_nil {b : TC} {Q : EX → St → Prop} (i es : Nat) (hi : look s.t i = .nils) (hf : s.fs.H s.n = .free) (h : LoopVC P c b Q (s.named i es)) : LoopVC P c b Q s :=
  fun code he g a w hR => h code he _ a w (hR.named hi hf)
end
end Go.Proofs.Ytphaicaobepimaa
