/- Rows that are nil, under a name, at the head of a loop. No conditions but the ones that stand in each. -/
import Derived.Test.YtblimjilinkmbaaAt
namespace Go.Proofs.Ytblimjilinkmbaa
set_option linter.all false
set_option linter.unusedSimpArgs false
open Go.RowKit

def St.ph (s : St) (d es : Nat) : St := (s.nw (.cells [])).put d (.sl es s.n 0 0 0)
def St.phs (s : St) : List (Nat × Nat) → St
  | [] => s
  | (d, es) :: r => (s.ph d es).phs r
def phOk (s : St) : List (Nat × Nat) → Prop
  | [] => True
  | (d, es) :: r => (s.fs.H s.n = .free ∧ look s.t d = .nils) ∧ phOk (s.ph d es) r
section
variable {P : Program} {c : Cx}
theorem R.ph {s : St} {d es : Nat} {g : Nat → GM} {a : Act} {w : World} (hR : R c g s.fs a w) (hfree : s.fs.H s.n = .free) (hd : look s.t d = .nils) : ∃ g', R c g' (s.ph d es).fs a w := by
  have h1 := R.phantom hR hfree
  refine ⟨updG g s.n .ph, ?_⟩
  have e : (s.ph d es).fs = (s.fs.putB s.n (.cells [])).put d (.sl es s.n 0 0 0) := by
    unfold St.ph; rw [St.fs_put, St.fs_nw]
  rw [e]
  refine ⟨h1.size, h1.def_, fun i => ?_, h1.gl, h1.h, h1.inj, h1.old, h1.fr, h1.xs, h1.pin⟩
  rw [FS.T_put]
  split
  · rename_i hi
    subst hi
    have := hR.t d
    have e2 : s.fs.T d = .nils := hd
    rw [e2] at this
    obtain ⟨ad, h⟩ := nils_inv this
    rw [h]
    exact .slp (by simp [updG]) rfl
  · exact h1.t i
theorem R.phs : ∀ {ps : List (Nat × Nat)} {s : St} {g : Nat → GM} {a : Act} {w : World}, R c g s.fs a w → phOk s ps → ∃ g', R c g' (s.phs ps).fs a w
  | [], s, g, a, w, hR, _ => ⟨g, hR⟩
  | (d, es) :: r, s, g, a, w, hR, h => by
    obtain ⟨g1, h1⟩ := hR.ph (es := es) h.1.1 h.1.2
    exact R.phs (ps := r) (s := s.ph d es) h1 h.2
theorem loopVC_ph {ps : List (Nat × Nat)} {b : TC} {Q : EX → St → Prop} {s : St} (h0 : phOk s ps) (h : LoopVC P c b Q (s.phs ps)) : LoopVC P c b Q s := fun code he g a w hR => by
  obtain ⟨g1, h1⟩ := hR.phs h0
  exact h code he g1 a w h1
end
attribute [go_sem] St.ph St.phs phOk
end Go.Proofs.Ytblimjilinkmbaa
