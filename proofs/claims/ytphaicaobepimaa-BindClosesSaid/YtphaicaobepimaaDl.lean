/- What bind.Open answers. No conditions but the ones that stand in each. -/
import Derived.Test.YtphaicaobepimaaDk
namespace Go.Proofs.Ytphaicaobepimaa
set_option linter.all false
set_option linter.unusedSimpArgs false
open Go.RowKit

theorem opnT_nm (x : Tb × Mp × Bool × Int) (n : Nat) : nmOk n (opnT x) = True := putT_nm ..
theorem opnT_ren (x : Tb × Mp × Bool × Int) (ρ : Nat → Nat) : ren ρ (opnT x) = opnT x := putT_ren ..
attribute [go_sem] opnT_nm opnT_ren
theorem bOpen_ps (gl : Nat → AV) (t : Tb) (ht : t.ok) (proto s inn draw : Int) : PS Try.prog gl 23 [.agg t.enc, .int .i64 proto, .int .i64 s, .int .i64 inn, .int .i64 draw] (opnT (t.opn proto s inn draw)) := by
  by_cases hb : goodB t = false ∨ knownB proto s inn = false
  · have e : t.opn proto s inn draw = (t, mp0, false, 2) := if_pos hb
    rw [e]
    exact bOpen_bad gl t ht proto s inn draw hb
  have e : t.opn proto s inn draw = match t.maps.find? (isFwd proto s inn) with
    | some m => (t, m, false, 0)
    | none =>
      if 12 ≤ manyOf t.maps s then (t, mp0, false, 6) else
      match firstFree t proto (t.hom s.toNat - 1) (ownL t s.toNat) with
      | some port => (t.add ⟨proto, s, inn, t.hom s.toNat - 1, port⟩, ⟨proto, s, inn, t.hom s.toNat - 1, port⟩, false, 0)
      | none =>
        if 2 ≤ (ownL t s.toNat).length then (t, mp0, false, 6) else
        if 1 ≤ t.hom s.toNat then t.tk proto s inn (t.hom s.toNat - 1) draw else
        if (t.pool.pick draw).2 ≠ 0 then (t, mp0, false, (t.pool.pick draw).2) else t.tk proto s inn (t.pool.pick draw).1 draw := if_neg hb
  have hg : goodB t = true := by
    cases h : goodB t
    · exact (hb (Or.inl h)).elim
    · rfl
  have hk : knownB proto s inn = true := by
    cases h : knownB proto s inn
    · exact (hb (Or.inr h)).elim
    · rfl
  obtain ⟨_, ⟨hs0, hs8⟩, _⟩ := known_bd hk
  obtain ⟨S, rfl⟩ := Int.eq_ofNat_of_zero_le hs0
  rw [Int.toNat_natCast] at e
  refine bOpen_in gl t ht ((goodB_iff t).1 hg) proto S inn draw hk _ (by rw [opnT_nm]; trivial) (Lib.hid fun m hm => ?_) (Lib.hid fun hm h12 => ?_) (Lib.hid fun hm h12 => ⟨fun port hp => ?_, fun hp => ⟨fun h2 => ?_, fun h2 => ⟨fun h1 => ?_, fun h1 => ⟨fun hz => ?_, fun hz => ?_⟩⟩⟩⟩)
  · rw [e, hm]; rfl
  · rw [e, hm]; dsimp only; rw [if_pos h12]; rfl
  · rw [e, hm]; dsimp only; rw [if_neg h12, hp]; rfl
  · rw [e, hm]; dsimp only; rw [if_neg h12, hp]; dsimp only; rw [if_pos h2]; rfl
  · rw [e, hm]; dsimp only; rw [if_neg h12, hp]; dsimp only; rw [if_neg h2, if_pos h1]
  · rw [e, hm]; dsimp only; rw [if_neg h12, hp]; dsimp only; rw [if_neg h2, if_neg h1, if_pos hz]; rfl
  · rw [e, hm]; dsimp only; rw [if_neg h12, hp]; dsimp only; rw [if_neg h2, if_neg h1, if_neg (by simp [hz])]
end Go.Proofs.Ytphaicaobepimaa
