/- A play upon a wheel: each answer is the document's. No conditions but the ones that stand in each. -/
import Derived.Test.YtphaicaobepimaaVy
import Derived.Test.YtphaicaobepimaaVw
namespace Go.Proofs.Ytphaicaobepimaa
set_option linter.all false
set_option linter.unusedSimpArgs false
open Go.RowKit

section
variable {P : Program} {c : Cx} {ex h1 h2 h1' h2' : List (Nat × Bk)} {σ τ : Nat → Nat} {m k n : Nat}
theorem prD_gdRG {v : Bool} {d : Option Nat} {kk : PK} {f : FuncId} {xs : List TV} {args : List AV} {p : List Nat} {r : AV} {t : List (Nat × AV)} {gd : Option (Nat × Bool)} {anc : List Nat} {fs : List Foot} {r0 : List TOp} {K : St → Prop} (hq : GD P c.gl f args h1 m p r h1') (F : Fm ex τ h2 k σ h1 m n) (hp : ∀ b ∈ p, b < m)
    (hb : gB (⟨t, (ex ++ renH τ h2) ++ renH σ h1, n⟩ : St).fs gd = some true ∧ gOk (⟨t, (ex ++ renH τ h2) ++ renH σ h1, n⟩ : St).fs gd)
    (hc : cokAll none (evs c.gl (⟨t, (ex ++ renH τ h2) ++ renH σ h1, n⟩ : St).fs xs) ∧ cArgs v f ((evs c.gl (⟨t, (ex ++ renH τ h2) ++ renH σ h1, n⟩ : St).fs xs).map strip) = some (f, rens σ args) ∧ nmAll m args) (hk : kk = (bif v then .callv else .call f)) (hHL' : HL h1' m) (hr : nmOk m r)
    (h : XD P c anc r0 (⟨gdT gd ++ tmpsOf xs, gxN σ m n, d.toList, gxN σ m n⟩ :: fs) K (gxSt t (ex ++ renH τ h2) h1' σ p m n d r)) : PendDR P c anc (.pd d kk xs gd) r0 fs K ⟨t, (ex ++ renH τ h2) ++ renH σ h1, n⟩ :=
  ⟨_, _, on_AOkT hb.1 hb.2 (gx_AOkT hq (F.ok hp hc) hk hHL' hr), h⟩
theorem cut3 {ι : Type} (J : ι → Prop) (st : ι → St) {A : TC} {Q : EX → St → Prop} {s : St} (h2 : ∀ i, J i → Q .normal (st i)) (h1 : ∀ Q' : EX → St → Prop, (∀ i, J i → Q' .normal (st i)) → xw P c A Q' s) : xw P c A Q s := h1 Q h2
end
theorem Fm.fresh {ex h1 h2 : List (Nat × Bk)} {σ τ : Nat → Nat} {m k n : Nat} (F : Fm ex τ h2 k σ h1 m n) : lookb ((ex ++ renH τ h2) ++ renH σ h1) n n = .free := by
  rw [lookb_exS fun q hq e => by have := (F.exL q hq).2; omega, lookb_renO (fun b hb e => by have := F.l1 b hb; omega) fun q hq => (F.hl1.mem q hq).1, if_neg (by omega)]
theorem gxN_off {σ : Nat → Nat} {m n j : Nat} (h : offS σ m j) (hj : j < n) : ¬ j ∈ gxN σ m n := fun hm => by
  rcases gxN_mem.1 hm with ⟨b, hb, e⟩ | ⟨b, hb, e⟩
  · exact h b hb e
  · omega
theorem gxN_ne {σ : Nat → Nat} {m n j : Nat} (h : offS σ m j) (hj : j < n) : ∀ x, x ∈ gxN σ m n → ¬ x = j := fun x hx e => gxN_off h hj (e ▸ hx)
theorem ints_cut3 (L : List Int) (i : Nat) (h : i * 3 + 3 ≤ L.length) : ∃ x y z, ((ints L).drop (i * 3)).take 3 = [.int .i64 x, .int .i64 y, .int .i64 z] ∧ x ∈ L ∧ y ∈ L ∧ z ∈ L := by
  have e : ∀ j, i * 3 + j < L.length → (L.drop (i * 3))[j]? = L[i * 3 + j]? := fun j _ => List.getElem?_drop
  refine ⟨L[i * 3], L[i * 3 + 1], L[i * 3 + 2], ?_, List.getElem_mem _, List.getElem_mem _, List.getElem_mem _⟩
  unfold ints
  rw [← List.map_drop, List.drop_eq_getElem_cons (by omega : i * 3 < L.length), List.drop_eq_getElem_cons (by omega : i * 3 + 1 < L.length), List.drop_eq_getElem_cons (by omega : i * 3 + 1 + 1 < L.length)]
  rfl
theorem advR_len {n : Nat} {D : List Tm} {to : Int} : (advR n D to).2.1.length ≤ D.length := by
  unfold advR
  split
  · simp
  · unfold outT
    dsimp only
    rw [List.length_map, (srt_perm _).length_eq]
    exact List.length_filter_le _ _
/-- A state of the play. -/
structure PlW where
  t : List (Nat × AV)
  ex : List (Nat × Bk)
  τ : Nat → Nat
  σ : Nat → Nat
  T : WT
  a : Nat
  D : List Tm
  n : Nat
def PlW.st (y : PlW) : St := ⟨y.t, (y.ex ++ renH y.τ (rwH y.a y.D)) ++ renH y.σ y.T.hb, y.n⟩
structure PlK (y : PlW) : Prop where
  wi : WI y.T y.a y.D
  fm : Fm y.ex y.τ (rwH y.a y.D) 2 y.σ y.T.hb 67 y.n
  t0 : y.τ 0 = 67
  s0 : y.σ 0 = 0
/-- The variable of a round, and what it holds. -/
structure PlX (cnt i : Nat) (L : List Int) (kx : Nat) (K id N : Int) (y : PlW) : Prop where
  k : PlK y
  h1 : look y.t 1 = .isl cnt (ints L)
  h5 : look y.t 5 = .ptr 0 0
  h7 : look y.t 7 = .ptr 67 0
  h8 : look y.t 8 = .int .i64 i
  h9 : look y.t 9 = .ptr kx 0
  hx : ∃ q ∈ y.ex, q.1 = kx
  lk : ∀ A B n, lookb ((y.ex ++ A) ++ B) n kx = .cells [.int .i64 K, .int .i64 id, .int .i64 N]
theorem look_rw {ex : List (Nat × Bk)} {τ σ : Nat → Nat} {a m n : Nat} {D : List Tm} {h1 : List (Nat × Bk)} (F : Fm ex τ (rwH a D) 2 σ h1 m n) (h : τ 0 = 67) (l : List (Nat × Bk)) (n' : Nat) : lookb ((ex ++ renH τ (rwH a D)) ++ l) n' 67 = .cells [.int .i64 a, .sl 2 (τ 1) 0 D.length D.length] := by
  have := lookb_renS F (b := 0) (by decide) l n'
  rw [h] at this
  rw [List.append_assoc, this]
  show renB τ (.cells [.int .i64 a, .sl 2 1 0 D.length D.length]) = _
  simp [renB, rens, ren]
end Go.Proofs.Ytphaicaobepimaa
