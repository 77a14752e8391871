/- Two families of blocks beside each other: calls that take one of them. No conditions but the ones that stand in each. -/
import Derived.Test.YtphaicaobepimaaVn
namespace Go.Proofs.Ytphaicaobepimaa
set_option linter.all false
set_option linter.unusedSimpArgs false
open Go.RowKit

structure Fm (ex : List (Nat × Bk)) (τ : Nat → Nat) (h2 : List (Nat × Bk)) (k : Nat) (σ : Nat → Nat) (h1 : List (Nat × Bk)) (m n : Nat) : Prop where
  i1 : ∀ b b', b < m → b' < m → σ b = σ b' → b = b'
  l1 : ∀ b, b < m → σ b < n
  hl1 : HL h1 m
  i2 : ∀ b b', b < k → b' < k → τ b = τ b' → b = b'
  l2 : ∀ b, b < k → τ b < n
  hl2 : HL h2 k
  dis : ∀ b, b < m → ∀ b', b' < k → σ b ≠ τ b'
  ex : ∀ q ∈ ex, q.1 < n ∧ offS σ m q.1 ∧ offS τ k q.1
section
variable {ex h1 h2 h1' h2' : List (Nat × Bk)} {σ τ : Nat → Nat} {m k n : Nat}
theorem Fm.swap (F : Fm ex τ h2 k σ h1 m n) : Fm ex σ h1 m τ h2 k n :=
  ⟨F.i2, F.l2, F.hl2, F.i1, F.l1, F.hl1, fun b hb b' hb' e => F.dis b' hb' b hb e.symm, fun q hq => ⟨(F.ex q hq).1, (F.ex q hq).2.2, (F.ex q hq).2.1⟩⟩
theorem sgx_or (σ : Nat → Nat) (p : List Nat) (n b : Nat) : sgx σ p n b = σ b ∨ sgx σ p n b = n + b := by
  by_cases h : b ∈ p
  · exact .inl (sgx_in h)
  · exact .inr (sgx_out h)
theorem Fm.stepR (F : Fm ex τ h2 k σ h1 m n) (p : List Nat) (hl : HL h1' m) : Fm ex τ h2 k (sgx σ p n) h1' m (n + m) :=
  ⟨fun b b' h h' e => sgx_inj F.i1 F.l1 h h' e, fun b hb => by
    have := F.l1 b hb
    rcases sgx_or σ p n b with e | e <;> rw [e] <;> omega, hl, F.i2, fun b hb => by have := F.l2 b hb; omega, F.hl2, fun b hb b' hb' => by
    have h1 := F.l2 b' hb'
    have h2 := F.dis b hb b' hb'
    rcases sgx_or σ p n b with e | e <;> rw [e]
    · exact h2
    · omega, fun q hq => by
    obtain ⟨h1, h2, h3⟩ := F.ex q hq
    refine ⟨by omega, fun b hb => ?_, h3⟩
    rcases sgx_or σ p n b with e | e <;> rw [e]
    · exact h2 b hb
    · omega⟩
theorem Fm.stepL (F : Fm ex τ h2 k σ h1 m n) (p : List Nat) (hl : HL h2' k) : Fm ex (sgx τ p n) h2' k σ h1 m (n + k) := (F.swap.stepR p hl).swap
theorem Fm.more (F : Fm ex τ h2 k σ h1 m n) (x : Bk) : Fm ((n, x) :: ex) τ h2 k σ h1 m (n + 1) :=
  ⟨F.i1, fun b hb => by have := F.l1 b hb; omega, F.hl1, F.i2, fun b hb => by have := F.l2 b hb; omega, F.hl2, F.dis, fun q hq => by
    rcases List.mem_cons.1 hq with rfl | hq
    · exact ⟨by dsimp only; omega, fun b hb e => by have := F.l1 b hb; have e : σ b = n := e; omega, fun b hb e => by have := F.l2 b hb; have e : τ b = n := e; omega⟩
    · have := F.ex q hq; exact ⟨by omega, this.2⟩⟩
theorem Fm.less (F : Fm ex τ h2 k σ h1 m n) : Fm [] τ h2 k σ h1 m n := ⟨F.i1, F.l1, F.hl1, F.i2, F.l2, F.hl2, F.dis, fun q hq => by cases hq⟩
theorem Fm.exL (F : Fm ex τ h2 k σ h1 m n) : ∀ q ∈ ex ++ renH τ h2, offS σ m q.1 ∧ q.1 < n := fun q hq => by
  rcases List.mem_append.1 hq with hq | hq
  · exact ⟨(F.ex q hq).2.1, (F.ex q hq).1⟩
  · obtain ⟨q', hq', rfl⟩ := List.mem_map.1 hq
    have hk := (F.hl2.mem q' hq').1
    exact ⟨fun b hb e => F.dis b hb q'.1 hk e, F.l2 _ hk⟩
theorem Fm.ok (F : Fm ex τ h2 k σ h1 m n) {gl : Nat → AV} {xs : List TV} {v : Bool} {f : FuncId} {args : List AV} {p : List Nat} {t : List (Nat × AV)} (hp : ∀ b ∈ p, b < m)
    (hc : cokAll none (evs gl (⟨t, (ex ++ renH τ h2) ++ renH σ h1, n⟩ : St).fs xs) ∧ cArgs v f ((evs gl (⟨t, (ex ++ renH τ h2) ++ renH σ h1, n⟩ : St).fs xs).map strip) = some (f, rens σ args) ∧ nmAll m args) : GxOk gl xs v f args σ p m t (ex ++ renH τ h2) h1 n :=
  ⟨F.i1, F.l1, F.hl1, hp, F.exL, hc.1, hc.2.1, hc.2.2⟩
theorem lookb_renS (F : Fm ex τ h2 k σ h1 m n) {b : Nat} (hb : b < k) (l : List (Nat × Bk)) (n' : Nat) : lookb (ex ++ (renH τ h2 ++ l)) n' (τ b) = renB τ (lookb h2 k b) := by
  rw [lookb_exS fun q hq e => (F.ex q hq).2.2 b hb e.symm]
  have hg : ∀ (h : List (Nat × Bk)), (∀ q ∈ h, q.1 < k) → (∃ q ∈ h, q.1 = b) → lookb (renH τ h ++ l) n' (τ b) = lookb (renH τ h) n' (τ b) := fun h => by
    induction h with
    | nil => rintro _ ⟨q, hq, _⟩; cases hq
    | cons q h ih =>
      obtain ⟨i, x⟩ := q
      intro hm hq
      show lookb ((τ i, renB τ x) :: (renH τ h ++ l)) n' _ = lookb ((τ i, renB τ x) :: renH τ h) n' _
      rw [lookb_cons, lookb_cons]
      by_cases e : i = b
      · rw [if_pos (by rw [e]), if_pos (by rw [e])]
      · have hi := hm (i, x) (by simp)
        rw [if_neg fun e2 => e (F.i2 _ _ hi hb e2), if_neg fun e2 => e (F.i2 _ _ hi hb e2)]
        obtain ⟨q, hq, e2⟩ := hq
        rcases List.mem_cons.1 hq with rfl | hq
        · exact (e e2).elim
        · exact ih (fun q hq => hm q (by simp [hq])) ⟨q, hq, e2⟩
  rw [hg h2 (fun q hq => (F.hl2.mem q hq).1) (F.hl2.cov b hb)]
  exact lookb_renH F.i2 hb (fun q hq => (F.hl2.mem q hq).1) (F.hl2.cov b hb)
theorem lookb_renN {l : List (Nat × Bk)} {n' j : Nat} : ∀ {h : List (Nat × Bk)} (_ : ∀ q ∈ h, τ q.1 ≠ j), lookb (renH τ h ++ l) n' j = lookb l n' j
  | [], _ => rfl
  | (i, x) :: h, hm => by
    show lookb ((τ i, renB τ x) :: (renH τ h ++ l)) n' j = _
    rw [lookb_cons, if_neg (hm (i, x) (by simp))]
    exact lookb_renN fun q hq => hm q (by simp [hq])
theorem Fm.look (F : Fm ex τ h2 k σ h1 m n) (j : Nat) : lookb ((ex ++ renH τ h2) ++ renH σ h1) n j = lookb ((ex ++ renH σ h1) ++ renH τ h2) n j := by
  rw [List.append_assoc, List.append_assoc]
  refine lookb_exO ?_
  have G := F.less
  by_cases e1 : ∃ b, b < k ∧ τ b = j
  · obtain ⟨b, hb, rfl⟩ := e1
    have := lookb_renS G hb (renH σ h1) n
    rw [List.nil_append] at this
    rw [this, lookb_renN fun q hq e => F.dis q.1 (F.hl1.mem q hq).1 b hb e]
    exact (lookb_renH F.i2 hb (fun q hq => (F.hl2.mem q hq).1) (F.hl2.cov b hb)).symm
  · have ho : offS τ k j := fun b hb e => e1 ⟨b, hb, e⟩
    rw [lookb_renN fun q hq e => ho q.1 (F.hl2.mem q hq).1 e]
    by_cases e2 : ∃ b, b < m ∧ σ b = j
    · obtain ⟨b, hb, rfl⟩ := e2
      have := lookb_renS G.swap hb (renH τ h2) n
      rw [List.nil_append] at this
      rw [this]
      exact lookb_renH F.i1 hb (fun q hq => (F.hl1.mem q hq).1) (F.hl1.cov b hb)
    · have ho2 : offS σ m j := fun b hb e => e2 ⟨b, hb, e⟩
      rw [lookb_renN fun q hq e => ho2 q.1 (F.hl1.mem q hq).1 e, lookb_renO ho fun q hq => (F.hl2.mem q hq).1]
      exact lookb_renO ho2 fun q hq => (F.hl1.mem q hq).1
theorem Fm.fs (F : Fm ex τ h2 k σ h1 m n) (t : List (Nat × AV)) : (⟨t, (ex ++ renH τ h2) ++ renH σ h1, n⟩ : St).fs = (⟨t, (ex ++ renH σ h1) ++ renH τ h2, n⟩ : St).fs := fs_ext (fun _ => rfl) F.look
theorem Fm.fsO (F : Fm ex τ h2 k σ h1 m n) (t : List (Nat × AV)) (d : Option Nat) (r : AV) : (St.putO ⟨t, (ex ++ renH τ h2) ++ renH σ h1, n⟩ d r).fs = (St.putO ⟨t, (ex ++ renH σ h1) ++ renH τ h2, n⟩ d r).fs := by
  cases d with
  | none => exact F.fs t
  | some d => exact F.fs _
/-! ### Calls that take the family that stands ahead -/
variable {P : Program} {c : Cx}
def gxL (t : List (Nat × AV)) (ex hout : List (Nat × Bk)) (τ : Nat → Nat) (p : List Nat) (k : Nat) (σ : Nat → Nat) (h1 : List (Nat × Bk)) (n : Nat) (d : Option Nat) (r : AV) : St := St.putO ⟨t, (ex ++ renH (sgx τ p n) hout) ++ renH σ h1, n + k⟩ d (ren (sgx τ p n) r)
theorem gxL_AOkT {v : Bool} {d : Option Nat} {kk : PK} {f : FuncId} {xs : List TV} {args : List AV} {p : List Nat} {r : AV} {t : List (Nat × AV)} (hq : GD P c.gl f args h2 k p r h2') (F : Fm ex τ h2 k σ h1 m n) (hp : ∀ b ∈ p, b < k)
    (hc : cokAll none (evs c.gl (⟨t, (ex ++ renH τ h2) ++ renH σ h1, n⟩ : St).fs xs) ∧ cArgs v f ((evs c.gl (⟨t, (ex ++ renH τ h2) ++ renH σ h1, n⟩ : St).fs xs).map strip) = some (f, rens τ args) ∧ nmAll k args) (hk : kk = (bif v then .callv else .call f)) (hHL' : HL h2' k) (hr : nmOk k r) :
    AOkT P c (.pd d kk xs none) (⟨t, (ex ++ renH τ h2) ++ renH σ h1, n⟩ : St).fs ⟨tmpsOf xs, gxN τ k n, d.toList, gxN τ k n⟩ (gxL t ex h2' τ p k σ h1 n d r).fs := by
  rw [F.fs] at hc ⊢
  unfold gxL
  rw [(F.stepL p hHL').fsO]
  exact gx_AOkT hq (F.swap.ok hp hc) hk hHL' hr
theorem pr_gdL {v : Bool} {d : Option Nat} {kk : PK} {f : FuncId} {xs : List TV} {args : List AV} {p : List Nat} {r : AV} {t : List (Nat × AV)} {r0 : List TOp} {K : St → Prop} (hq : GD P c.gl f args h2 k p r h2') (F : Fm ex τ h2 k σ h1 m n) (hp : ∀ b ∈ p, b < k)
    (hc : cokAll none (evs c.gl (⟨t, (ex ++ renH τ h2) ++ renH σ h1, n⟩ : St).fs xs) ∧ cArgs v f ((evs c.gl (⟨t, (ex ++ renH τ h2) ++ renH σ h1, n⟩ : St).fs xs).map strip) = some (f, rens τ args) ∧ nmAll k args) (hk : kk = (bif v then .callv else .call f)) (hHL' : HL h2' k) (hr : nmOk k r)
    (h : XP P c r0 K (gxL t ex h2' τ p k σ h1 n d r)) : PendR P c (.pd d kk xs none) r0 K ⟨t, (ex ++ renH τ h2) ++ renH σ h1, n⟩ :=
  .inl ⟨_, _, gxL_AOkT hq F hp hc hk hHL' hr, h⟩
theorem prD_gdL {v : Bool} {d : Option Nat} {kk : PK} {f : FuncId} {xs : List TV} {args : List AV} {p : List Nat} {r : AV} {t : List (Nat × AV)} {anc : List Nat} {fs : List Foot} {r0 : List TOp} {K : St → Prop} (hq : GD P c.gl f args h2 k p r h2') (F : Fm ex τ h2 k σ h1 m n) (hp : ∀ b ∈ p, b < k)
    (hc : cokAll none (evs c.gl (⟨t, (ex ++ renH τ h2) ++ renH σ h1, n⟩ : St).fs xs) ∧ cArgs v f ((evs c.gl (⟨t, (ex ++ renH τ h2) ++ renH σ h1, n⟩ : St).fs xs).map strip) = some (f, rens τ args) ∧ nmAll k args) (hk : kk = (bif v then .callv else .call f)) (hHL' : HL h2' k) (hr : nmOk k r)
    (h : XD P c anc r0 (⟨tmpsOf xs, gxN τ k n, d.toList, gxN τ k n⟩ :: fs) K (gxL t ex h2' τ p k σ h1 n d r)) : PendDR P c anc (.pd d kk xs none) r0 fs K ⟨t, (ex ++ renH τ h2) ++ renH σ h1, n⟩ :=
  ⟨_, _, gxL_AOkT hq F hp hc hk hHL' hr, h⟩
/-- A call that takes the family that stands behind. -/
theorem pr_gdR {v : Bool} {d : Option Nat} {kk : PK} {f : FuncId} {xs : List TV} {args : List AV} {p : List Nat} {r : AV} {t : List (Nat × AV)} {r0 : List TOp} {K : St → Prop} (hq : GD P c.gl f args h1 m p r h1') (F : Fm ex τ h2 k σ h1 m n) (hp : ∀ b ∈ p, b < m)
    (hc : cokAll none (evs c.gl (⟨t, (ex ++ renH τ h2) ++ renH σ h1, n⟩ : St).fs xs) ∧ cArgs v f ((evs c.gl (⟨t, (ex ++ renH τ h2) ++ renH σ h1, n⟩ : St).fs xs).map strip) = some (f, rens σ args) ∧ nmAll m args) (hk : kk = (bif v then .callv else .call f)) (hHL' : HL h1' m) (hr : nmOk m r)
    (h : XP P c r0 K (gxSt t (ex ++ renH τ h2) h1' σ p m n d r)) : PendR P c (.pd d kk xs none) r0 K ⟨t, (ex ++ renH τ h2) ++ renH σ h1, n⟩ :=
  .inl ⟨_, _, gx_AOkT hq (F.ok hp hc) hk hHL' hr, h⟩
theorem prD_gdR {v : Bool} {d : Option Nat} {kk : PK} {f : FuncId} {xs : List TV} {args : List AV} {p : List Nat} {r : AV} {t : List (Nat × AV)} {anc : List Nat} {fs : List Foot} {r0 : List TOp} {K : St → Prop} (hq : GD P c.gl f args h1 m p r h1') (F : Fm ex τ h2 k σ h1 m n) (hp : ∀ b ∈ p, b < m)
    (hc : cokAll none (evs c.gl (⟨t, (ex ++ renH τ h2) ++ renH σ h1, n⟩ : St).fs xs) ∧ cArgs v f ((evs c.gl (⟨t, (ex ++ renH τ h2) ++ renH σ h1, n⟩ : St).fs xs).map strip) = some (f, rens σ args) ∧ nmAll m args) (hk : kk = (bif v then .callv else .call f)) (hHL' : HL h1' m) (hr : nmOk m r)
    (h : XD P c anc r0 (⟨tmpsOf xs, gxN σ m n, d.toList, gxN σ m n⟩ :: fs) K (gxSt t (ex ++ renH τ h2) h1' σ p m n d r)) : PendDR P c anc (.pd d kk xs none) r0 fs K ⟨t, (ex ++ renH τ h2) ++ renH σ h1, n⟩ :=
  ⟨_, _, gx_AOkT hq (F.ok hp hc) hk hHL' hr, h⟩
end
end Go.Proofs.Ytphaicaobepimaa
