/- Calls of functions that take a family of blocks of which most move: the blocks that come back under new names. No conditions but the ones that stand in each. -/
import Derived.Test.YtphaicaobepimaaEd
namespace Go.Proofs.Ytphaicaobepimaa
set_option linter.all false
set_option linter.unusedSimpArgs false
open Go.RowKit

/-- The caller's names behind such a call. -/
def sgx (σ : Nat → Nat) (p : List Nat) (n0 b : Nat) : Nat := bif p.contains b then σ b else n0 + b
theorem sgx_in {σ : Nat → Nat} {p : List Nat} {n0 b : Nat} (h : b ∈ p) : sgx σ p n0 b = σ b := by
  unfold sgx; rw [List.contains_iff_mem.2 h]; rfl
theorem sgx_out {σ : Nat → Nat} {p : List Nat} {n0 b : Nat} (h : b ∉ p) : sgx σ p n0 b = n0 + b := by
  unfold sgx
  cases e : p.contains b with
  | true => exact absurd (List.contains_iff_mem.1 e) h
  | false => rfl
theorem sgx_inj {σ : Nat → Nat} {p : List Nat} {m n0 : Nat} (hinj : ∀ b b', b < m → b' < m → σ b = σ b' → b = b') (hlt : ∀ b, b < m → σ b < n0) {b b' : Nat} (hb : b < m) (hb' : b' < m) (e : sgx σ p n0 b = sgx σ p n0 b') : b = b' := by
  by_cases h1 : b ∈ p <;> by_cases h2 : b' ∈ p
  · rw [sgx_in h1, sgx_in h2] at e; exact hinj _ _ hb hb' e
  · rw [sgx_in h1, sgx_out h2] at e; have := hlt b hb; omega
  · rw [sgx_out h1, sgx_in h2] at e; have := hlt b' hb'; omega
  · rw [sgx_out h1, sgx_out h2] at e; omega
section
variable {P : Program} {c : Cx}
theorem gx_back {σ : Nat → Nat} {n0 : Nat} {s s3 : FS} {a : Act} {w w' : World} {g g1 g2 : Nat → GM} {h h' : List (Nat × Bk)} {m : Nat} {p : List Nat} (hR : R c g s a w) (hinj : ∀ b b', b < m → b' < m → σ b = σ b' → b = b') (hlt : ∀ b, b < m → σ b < n0) (hfree : ∀ b, b < m → s.H (n0 + b) = .free)
    (hh : HL h m) (hh' : HL h' m) (fit : ∀ b, b < m → s.H (σ b) = renB σ (lookb h m b)) (hp : ∀ b ∈ p, b < m)
    (hg1 : ∀ b, b < m → g (σ b) ≠ .un → g (σ b) = g1 b) (hg2 : ∀ b, b ∈ p → g2 b = g1 b) (hR2 : R (lentC c g s w σ h m) g2 (Hst h' m) ⟨#[], []⟩ w')
    (e3T : ∀ i, s3.T i = s.T i) (e3H : ∀ b, b < m → s3.H (sgx σ p n0 b) = renB (sgx σ p n0) (lookb h' m b)) (e3D : ∀ b, b < m → b ∉ p → s3.H (σ b) = .dead) (e3F : ∀ b, b ∈ p → s3.H (n0 + b) = .dead)
    (e3O : ∀ j, offS σ m j → (∀ b, b < m → n0 + b ≠ j) → s3.H j = s.H j) :
    ∃ g3, R c g3 s3 a w' ∧ ∀ {r : AV} {v : Value}, nmOk m r → VR g2 (wset (lentC c g s w σ h m) g2 (Hst h' m)) w' r v → VR g3 (wset c g3 s3) w' (ren (sgx σ p n0) r) v := by
  have hlv : ∀ b, b < m → (lookb h m b).live := fun b hb => by
    obtain ⟨_, q, hq, _, e⟩ := hh.live hb m
    rw [e]; exact live_of_nmB (hh.mem q hq).2
  have hlv' : ∀ b, b < m → (lookb h' m b).live := fun b hb => by
    obtain ⟨_, q, hq, _, e⟩ := hh'.live hb m
    rw [e]; exact live_of_nmB (hh'.mem q hq).2
  have hlvS : ∀ b, b < m → (s.H (σ b)).live := fun b hb => by rw [fit b hb, live_renB]; exact hlv b hb
  have named : ∀ b, b < m → g (σ b) ≠ .un := fun b hb e => (e ▸ hR.h (σ b)).ne_un (hlvS b hb)
  have named2 : ∀ b, b < m → g2 b ≠ .un := fun b hb e => by
    have := hR2.h b
    rw [e] at this
    exact this.ne_un (hlv' b hb)
  have unf : ∀ b, b < m → g (n0 + b) = .un := fun b hb => by
    have := hR.h (n0 + b)
    rw [hfree b hb] at this
    generalize g (n0 + b) = x at this
    cases this; rfl
  have low : ∀ b, (lookb h m b).live → b < m := fun b hl => by
    rcases lookb_cases h m b with q | ⟨q, hq, rfl, _⟩
    · rw [q] at hl; split at hl <;> exact hl.elim
    · exact (hh.mem q hq).1
  let g3 : Nat → GM := fun j => if n0 ≤ j ∧ j < n0 + m then g2 (j - n0) else g j
  have g3n : ∀ b, b < m → g3 (n0 + b) = g2 b := fun b hb => by
    show (if n0 ≤ n0 + b ∧ n0 + b < n0 + m then g2 (n0 + b - n0) else g (n0 + b)) = g2 b
    rw [if_pos (by omega), Nat.add_sub_cancel_left]
  have g3o : ∀ j, (∀ b, b < m → n0 + b ≠ j) → g3 j = g j := fun j hj => by
    show (if _ then _ else _) = _
    rw [if_neg]
    rintro ⟨h1, h2⟩
    exact hj (j - n0) (by omega) (by omega)
  have gk : ∀ j, g j ≠ .un → g3 j = g j := fun j hj => g3o j fun b hb e => hj (e ▸ unf b hb)
  have offn : ∀ b, b < m → ∀ b', b' < m → n0 + b' ≠ σ b := fun b hb b' hb' => by have := hlt b hb; omega
  have g3s : ∀ b, b < m → g3 (σ b) = g (σ b) := fun b hb => g3o _ fun b' hb' => offn b hb b' hb'
  have gm : ∀ b, b < m → g3 (sgx σ p n0 b) = g2 b := fun b hb => by
    by_cases hbp : b ∈ p
    · rw [sgx_in hbp, g3s b hb, hg2 b hbp]; exact hg1 b hb (named b hb)
    · rw [sgx_out hbp]; exact g3n b hb
  have part : ∀ j, (∃ b, b < m ∧ sgx σ p n0 b = j) ∨ (∃ b, b < m ∧ b ∉ p ∧ σ b = j) ∨ (∃ b, b ∈ p ∧ n0 + b = j) ∨ (offS σ m j ∧ ∀ b, b < m → n0 + b ≠ j) := fun j => by
    by_cases e1 : ∃ b, b < m ∧ sgx σ p n0 b = j
    · exact .inl e1
    by_cases e2 : ∃ b, b < m ∧ σ b = j
    · obtain ⟨b, hb, e⟩ := e2
      exact .inr (.inl ⟨b, hb, fun hbp => e1 ⟨b, hb, by rw [sgx_in hbp]; exact e⟩, e⟩)
    by_cases e3 : ∃ b, b < m ∧ n0 + b = j
    · obtain ⟨b, hb, e⟩ := e3
      by_cases hbp : b ∈ p
      · exact .inr (.inr (.inl ⟨b, hbp, e⟩))
      · exact (e1 ⟨b, hb, by rw [sgx_out hbp]; exact e⟩).elim
    · exact .inr (.inr (.inr ⟨fun b h1 h2 => e2 ⟨b, h1, h2⟩, fun b h1 h2 => e3 ⟨b, h1, h2⟩⟩))
  have hf : Fr w w' (lentG g σ h m) := hR2.fr
  have hGW : ∀ k, lentG g σ h m k → wset c g s k := fun k ⟨b, h1, h2⟩ => .inr ⟨σ b, hlvS b (low b h1), h2⟩
  have hfW : Fr w w' (wset c g s) := hf.weak hGW
  have oth : ∀ j k, offS σ m j → (s.H j).live → g j = .re k → ¬ lentG g σ h m k := fun j k h1 h2 h3 ⟨b, q1, q2⟩ =>
    h1 b (low b q1) (hR.inj (σ b) j k (hlvS b (low b q1)) h2 q2 h3)
  have mem2 : ∀ b k, b < m → g2 b = .re k → w.heap.size ≤ k ∨ ∃ b0, b0 < m ∧ g (σ b0) = .re k := fun b k hb hk => by
    rcases hR2.old b k (hlv' b hb) hk with h | ⟨b0, q1, q2⟩
    · exact .inl h
    · exact .inr ⟨b0, low b0 q1, q2⟩
  have live3 : ∀ j, (s3.H j).live → (∃ b, b < m ∧ sgx σ p n0 b = j) ∨ (offS σ m j ∧ (∀ b, b < m → n0 + b ≠ j) ∧ (s.H j).live) := fun j hl => by
    rcases part j with h | ⟨b, hb, hbp, rfl⟩ | ⟨b, hbp, rfl⟩ | ⟨h1, h2⟩
    · exact .inl h
    · rw [e3D b hb hbp] at hl; exact hl.elim
    · rw [e3F b hbp] at hl; exact hl.elim
    · rw [e3O j h1 h2] at hl; exact .inr ⟨h1, h2, hl⟩
  have hW3 : ∀ k, k < w.heap.size → wset c g3 s3 k → wset c g s k := by
    rintro k hk (h | ⟨j, h1, h2⟩)
    · exact .inl h
    · rcases live3 j h1 with ⟨b, hb, rfl⟩ | ⟨hj, hj2, hl⟩
      · rw [gm b hb] at h2
        rcases mem2 b k hb h2 with h | ⟨b0, q1, q2⟩
        · omega
        · exact .inr ⟨σ b0, hlvS b0 q1, q2⟩
      · rw [g3o j hj2] at h2; exact .inr ⟨j, hl, h2⟩
  have hW2 : ∀ k, wset c g3 s3 k → wset (lentC c g s w σ h m) g2 (Hst h' m) k := by
    rintro k (h | ⟨j, h1, h2⟩)
    · refine .inl ⟨.inl h, fun ⟨b, q1, q2⟩ => ?_⟩
      obtain ⟨x1, x2⟩ := hR.xs k h
      rcases hR.old (σ b) k (hlvS b (low b q1)) q2 with h | h
      · omega
      · exact x2 h
    · rcases live3 j h1 with ⟨b, hb, rfl⟩ | ⟨hj, hj2, hl⟩
      · rw [gm b hb] at h2; exact .inr ⟨b, hlv' b hb, h2⟩
      · rw [g3o j hj2] at h2; exact .inl ⟨.inr ⟨j, hl, h2⟩, oth j k hj hl h2⟩
  have sinj := fun {b b'} => @sgx_inj σ p m n0 hinj hlt b b'
  refine ⟨g3, ⟨hR.size, hR.def_, fun i => ?_, fun i => (hR.gl i).mono hfW hW3 (fun _ _ => rfl), fun j => ?_, fun j j' k h1 h2 e1 e2 => ?_, fun j k h1 e1 => ?_, hR.fr.trans hf fun k hk ⟨b, q1, q2⟩ => ?_, hR.xs, fun q hq => ?_⟩, fun {r v} hn hv => ?_⟩
  · rw [e3T]; exact (hR.t i).mono hfW hW3 gk
  · rcases part j with ⟨b, hb, rfl⟩ | ⟨b, hb, hbp, rfl⟩ | ⟨b, hbp, rfl⟩ | ⟨hj, hj2⟩
    · rw [gm b hb, e3H b hb]
      have hbr := hR2.h b
      have e : (Hst h' m).H b = lookb h' m b := rfl
      rw [e] at hbr
      obtain ⟨_, q, hq, _, eq⟩ := hh'.live hb m
      rw [eq] at hbr ⊢
      exact hbr.ren (n := m) gm (hh'.mem q hq).2 hW2
    · rw [e3D b hb hbp, g3s b hb]; exact .dead (named b hb)
    · rw [e3F b hbp, g3n b (hp b hbp)]; exact .dead (named2 b (hp b hbp))
    · rw [g3o j hj2, e3O j hj hj2]
      refine (hR.h j).mono hfW hW3 gk fun k hk hl => hf.keep k ?_ (oth j k hj hl hk)
      exact BR.lt (hk ▸ hR.h j) hl
  · change g3 j = _ at e1
    change g3 j' = _ at e2
    rcases live3 j h1 with ⟨b, hb, rfl⟩ | ⟨hj, hj2, hl⟩ <;> rcases live3 j' h2 with ⟨b', hb', rfl⟩ | ⟨hj', hj2', hl'⟩
    · rw [gm b hb] at e1; rw [gm b' hb'] at e2
      rw [hR2.inj b b' k (hlv' b hb) (hlv' b' hb') e1 e2]
    · rw [gm b hb] at e1; rw [g3o j' hj2'] at e2
      have hlt := BR.lt (e2 ▸ hR.h j') hl'
      rcases mem2 b k hb e1 with h | ⟨b0, q1, q2⟩
      · omega
      · exact (hj' b0 q1 (hR.inj (σ b0) j' k (hlvS b0 q1) hl' q2 e2)).elim
    · rw [gm b' hb'] at e2; rw [g3o j hj2] at e1
      have hlt := BR.lt (e1 ▸ hR.h j) hl
      rcases mem2 b' k hb' e2 with h | ⟨b0, q1, q2⟩
      · omega
      · exact (hj b0 q1 (hR.inj (σ b0) j k (hlvS b0 q1) hl q2 e1)).elim
    · rw [g3o j hj2] at e1; rw [g3o j' hj2'] at e2
      exact hR.inj j j' k hl hl' e1 e2
  · change g3 j = _ at e1
    rcases live3 j h1 with ⟨b, hb, rfl⟩ | ⟨hj, hj2, hl⟩
    · rw [gm b hb] at e1
      rcases mem2 b k hb e1 with h | ⟨b0, q1, q2⟩
      · have := hR.fr.size; exact .inl (by omega)
      · exact hR.old (σ b0) k (hlvS b0 q1) q2
    · rw [g3o j hj2] at e1; exact hR.old j k hl e1
  · rcases hR.old (σ b) k (hlvS b (low b q1)) q2 with h | h
    · omega
    · exact h
  · obtain ⟨q1, q2⟩ := hR.pin q hq
    refine ⟨?_, q2⟩
    show g3 q.1 = _
    rw [gk q.1 (by rw [q1]; exact q2), q1]
  · exact (hv.ren (ρ := sgx σ p n0) (g := g3) gm hn).mono (Fr.refl _ _) (fun k _ => hW2 k) (fun _ _ => rfl)
/-- What such a call needs of its caller. -/
structure GxOk (gl : Nat → AV) (xs : List TV) (v : Bool) (f : FuncId) (args : List AV) (σ : Nat → Nat) (p : List Nat) (m : Nat) (t : List (Nat × AV)) (ex hin : List (Nat × Bk)) (n : Nat) : Prop where
  inj : ∀ b b', b < m → b' < m → σ b = σ b' → b = b'
  lt : ∀ b, b < m → σ b < n
  hl : HL hin m
  pin : ∀ b ∈ p, b < m
  hex : ∀ q ∈ ex, offS σ m q.1 ∧ q.1 < n
  cok : cokAll none (evs gl (⟨t, ex ++ renH σ hin, n⟩ : St).fs xs)
  hargs : cArgs v f ((evs gl (⟨t, ex ++ renH σ hin, n⟩ : St).fs xs).map strip) = some (f, rens σ args)
  nm : nmAll m args
def gxN (σ : Nat → Nat) (m n : Nat) : List Nat := (List.range m).map σ ++ (List.range m).map fun b => n + b
theorem gxN_mem {σ : Nat → Nat} {m n j : Nat} : j ∈ gxN σ m n ↔ (∃ b, b < m ∧ σ b = j) ∨ ∃ b, b < m ∧ n + b = j := by simp [gxN]
def gxSt (t : List (Nat × AV)) (ex hout : List (Nat × Bk)) (σ : Nat → Nat) (p : List Nat) (m n : Nat) (d : Option Nat) (r : AV) : St := St.putO ⟨t, ex ++ renH (sgx σ p n) hout, n + m⟩ d (ren (sgx σ p n) r)
theorem gx_AOkT {v : Bool} {d : Option Nat} {k : PK} {f : FuncId} {xs : List TV} {args : List AV} {hin hout : List (Nat × Bk)} {σ : Nat → Nat} {m n : Nat} {p : List Nat} {r : AV} {t : List (Nat × AV)} {ex : List (Nat × Bk)} (hq : GQ P c.gl f args hin m p (fun _ : Unit => True) (fun _ => r) (fun _ => hout))
    (ok : GxOk c.gl xs v f args σ p m t ex hin n) (hk : k = (bif v then .callv else .call f)) (hHL' : HL hout m) (hr : nmOk m r) : AOkT P c (.pd d k xs none) (⟨t, ex ++ renH σ hin, n⟩ : St).fs ⟨tmpsOf xs, gxN σ m n, d.toList, gxN σ m n⟩ (gxSt t ex hout σ p m n d r).fs := by
  intro ops io he
  obtain ⟨hgd, hdst, hd, ys, hel, rfl⟩ := elab_pd he
  have hcallv : ∀ (s2 : FS) (g : Nat → GM) (a : Act) (w : World), (∀ i ∈ tmpsOf (ys.map tvO), s2.T i = (⟨t, ex ++ renH σ hin, n⟩ : St).fs.T i) → R c g s2 a w → ∃ vs : List Value, (execOp a.eval io).run P w = .ok (.enter f vs.toArray) w ∧ VRs g (wset c g s2) w (rens σ args) vs := fun s2 g a w hT hR => by
    have hargs := ok.hargs
    have hcok := ok.cok
    cases v with
    | false =>
      subst hk
      obtain ⟨ts, hop⟩ := elab_call hel
      have hevs : evs c.gl s2 (ys.map tvO) = evs c.gl (⟨t, ex ++ renH σ hin, n⟩ : St).fs (ys.map tvO) := evs_congr fun i hi => hT i hi
      have hv := VRs_strip (hR.evs ys) (by rw [hevs]; exact hcok)
      rw [hevs] at hv
      simp only [cArgs, cond_false, Option.some.injEq, Prod.mk.injEq, true_and] at hargs
      rw [hargs] at hv
      exact ⟨_, run_call hq.1 hop a w, hv⟩
    | true =>
      subst hk
      obtain ⟨x, ys, ts, rfl, hop⟩ := elab_callv hel
      have hevs : evs c.gl s2 ((x :: ys).map tvO) = evs c.gl (⟨t, ex ++ renH σ hin, n⟩ : St).fs ((x :: ys).map tvO) := evs_congr fun i hi => hT i hi
      have hv := VRs_strip (hR.evs (x :: ys)) (by rw [hevs]; exact hcok)
      rw [hevs] at hv
      simp only [cArgs, cond_true] at hargs
      generalize (evs c.gl (⟨t, ex ++ renH σ hin, n⟩ : St).fs ((x :: ys).map tvO)).map strip = zs at hargs hv
      cases zs with
      | nil => simp [vArgs] at hargs
      | cons z zs =>
        unfold vArgs at hargs
        split at hargs
        · rename_i f' caps' r' heq
          simp only [Option.some.injEq, Prod.mk.injEq] at hargs
          obtain ⟨rfl, hargs⟩ := hargs
          simp only [List.cons.injEq] at heq
          obtain ⟨rfl, rfl⟩ := heq
          rw [List.map_cons] at hv
          obtain ⟨h1, h2⟩ := hv
          generalize hx : a.eval x = vx at h1
          cases h1 with
          | cl hs h =>
            refine ⟨_, run_callv hq.1 hop a w _ hx, ?_⟩
            rw [← hargs]
            exact VRs_append h2 (VRs_of (xs := caps') (us := Array.toList _) (by simpa using hs) fun j hj => by
              have := h j hj
              simpa [Array.getD_eq_getD_getElem?, List.getD] using this)
        · cases hargs
  have hxs : ∀ (y : Option Nat) j, ((gxSt t ex hout σ p m n y r).fs.H j) = lookb (ex ++ renH (sgx σ p n) hout) (n + m) j := fun y j => by cases y <;> rfl
  have hT' : ∀ i, (gxSt t ex hout σ p m n d r).fs.T i = match d with | some d => (if d = i then ren (sgx σ p n) r else look t i) | none => look t i := fun i => by
    cases d with
    | none => rfl
    | some d => show look ((d, _) :: t) i = _; rw [look_cons]
  have offE : ∀ b, b < m → ∀ q ∈ ex, q.1 ≠ σ b := fun b hb q hq e => (ok.hex q hq).1 b hb e.symm
  have offN : ∀ b, ∀ q ∈ ex, q.1 ≠ n + b := fun b q hq => by have := (ok.hex q hq).2; omega
  have fit : ∀ b, b < m → (⟨t, ex ++ renH σ hin, n⟩ : St).fs.H (σ b) = renB σ (lookb hin m b) := fun b hb => by
    show lookb (ex ++ renH σ hin) n (σ b) = _
    rw [lookb_exS (offE b hb)]; exact lookb_renH ok.inj hb (fun q hq => (ok.hl.mem q hq).1) (ok.hl.cov b hb)
  have sinj := fun {b b'} => @sgx_inj σ p m n ok.inj ok.lt b b'
  have hmE : ∀ q ∈ hin, q.1 < m := fun q hq => (ok.hl.mem q hq).1
  have hmO : ∀ q ∈ hout, q.1 < m := fun q hq => (hHL'.mem q hq).1
  have free : ∀ b, (⟨t, ex ++ renH σ hin, n⟩ : St).fs.H (n + b) = .free := fun b => by
    show lookb (ex ++ renH σ hin) n (n + b) = _
    rw [lookb_exS (offN b), lookb_renO (fun b' hb' e => by have := ok.lt b' hb'; omega) hmE, if_neg (by omega)]
  have e3H : ∀ b, b < m → lookb (ex ++ renH (sgx σ p n) hout) (n + m) (sgx σ p n b) = renB (sgx σ p n) (lookb hout m b) := fun b hb => by
    rw [lookb_exS]
    · exact lookb_renH (fun b b' h1 h2 e => sinj h1 h2 e) hb hmO (hHL'.cov b hb)
    · by_cases h : b ∈ p
      · rw [sgx_in h]; exact offE b hb
      · rw [sgx_out h]; exact offN b
  have e3D : ∀ b, b < m → b ∉ p → lookb (ex ++ renH (sgx σ p n) hout) (n + m) (σ b) = .dead := fun b hb hbp => by
    rw [lookb_exS (offE b hb), lookb_renO (fun b' hb' e => ?_) hmO, if_pos (by have := ok.lt b hb; omega)]
    by_cases h : b' ∈ p
    · rw [sgx_in h] at e; exact hbp (ok.inj _ _ hb' hb e ▸ h)
    · rw [sgx_out h] at e; have := ok.lt b hb; omega
  have e3F : ∀ b, b ∈ p → lookb (ex ++ renH (sgx σ p n) hout) (n + m) (n + b) = .dead := fun b hbp => by
    have hb := ok.pin b hbp
    rw [lookb_exS (offN b), lookb_renO (fun b' hb' e => ?_) hmO, if_pos (by omega)]
    by_cases h : b' ∈ p
    · rw [sgx_in h] at e; have := ok.lt b' hb'; omega
    · rw [sgx_out h] at e; exact h ((by omega : b' = b) ▸ hbp)
  have e3O : ∀ j, offS σ m j → (∀ b, b < m → n + b ≠ j) → lookb (ex ++ renH (sgx σ p n) hout) (n + m) j = (⟨t, ex ++ renH σ hin, n⟩ : St).fs.H j := fun j h1 h2 => by
    show _ = lookb (ex ++ renH σ hin) n j
    have ho : offS (sgx σ p n) m j := fun b hb e => by
      by_cases h : b ∈ p
      · rw [sgx_in h] at e; exact h1 b hb e
      · rw [sgx_out h] at e; exact h2 b hb e
    have key : ∀ l : List (Nat × Bk), lookb (l ++ renH (sgx σ p n) hout) (n + m) j = lookb (l ++ renH σ hin) n j := fun l => by
      induction l with
      | nil =>
        rw [List.nil_append, List.nil_append, lookb_renO ho hmO, lookb_renO h1 hmE]
        by_cases hj : j < n
        · rw [if_pos hj, if_pos (by omega)]
        · rw [if_neg hj, if_neg]
          intro hj2
          exact h2 (j - n) (by omega) (by omega)
      | cons q l ih => obtain ⟨i, x⟩ := q; rw [List.cons_append, List.cons_append, lookb_cons, lookb_cons, ih]
    exact key ex
  have hN1 : ∀ b, b < m → sgx σ p n b ∈ gxN σ m n := fun b hb => by
    by_cases h : b ∈ p
    · rw [sgx_in h]; exact gxN_mem.2 (.inl ⟨b, hb, rfl⟩)
    · rw [sgx_out h]; exact gxN_mem.2 (.inr ⟨b, hb, rfl⟩)
  refine ⟨fun i hi => ?_, fun j hj => ?_, fun s2 hT hH g a w hR K Q' hK => exec_of_none (gd_none hgd) ?_⟩
  · rw [hT']
    cases d with
    | none => rfl
    | some d => simp only [Option.toList_some, List.mem_singleton] at hi; simp only; rw [if_neg fun e => hi e.symm]; rfl
  · rw [hxs]
    exact e3O j (fun b hb e => hj (gxN_mem.2 (.inl ⟨b, hb, e⟩))) (fun b hb e => hj (gxN_mem.2 (.inr ⟨b, hb, e⟩)))
  · obtain ⟨vs, hrun, hv⟩ := hcallv s2 g a w hT hR
    have fit2 : ∀ b, b < m → s2.H (σ b) = renB σ (lookb hin m b) := fun b hb => by rw [hH _ (gxN_mem.2 (.inl ⟨b, hb, rfl⟩))]; exact fit b hb
    have fitI : Fit σ s2 hin m := by
      refine ⟨fun q hq => ⟨hmE q hq, (ok.hl.mem q hq).2, ?_⟩, fun q hq q' hq' e => ok.inj _ _ (hmE q hq) (hmE q' hq') e⟩
      rw [fit2 q.1 (hmE q hq), ok.hl.self q hq]
    obtain ⟨g1, hg1, hRl, hWl⟩ := lend hR fitI
    have hv1 := VRs_unren (g1 := g1) hg1 hWl ok.nm hv
    unfold Oper.wp
    rw [hrun]
    rw [Oper.upon_enter]
    refine (hq.2 w _ _ _ g1 hRl hv1).mono fun e w' ⟨x, v, g2, hQ, e1, e2, e3, e4⟩ => ?_
    subst e1
    let s3 : FS := ⟨s2.T, fun j => if j ∈ gxN σ m n then lookb (ex ++ renH (sgx σ p n) hout) (n + m) j else s2.H j⟩
    have s3in : ∀ j, j ∈ gxN σ m n → s3.H j = lookb (ex ++ renH (sgx σ p n) hout) (n + m) j := fun j hj => if_pos hj
    obtain ⟨g3, hR3, hval⟩ := gx_back (s3 := s3) (n0 := n) (p := p) hR ok.inj ok.lt (fun b hb => by rw [hH _ (gxN_mem.2 (.inr ⟨b, hb, rfl⟩))]; exact free b) ok.hl hHL' fit2 ok.pin hg1 e3 e2 (fun i => rfl)
      (fun b hb => by rw [s3in _ (hN1 b hb)]; exact e3H b hb) (fun b hb hbp => by rw [s3in _ (gxN_mem.2 (.inl ⟨b, hb, rfl⟩))]; exact e3D b hb hbp) (fun b hbp => by rw [s3in _ (gxN_mem.2 (.inr ⟨b, ok.pin b hbp, rfl⟩))]; exact e3F b hbp)
      (fun j h1 h2 => if_neg fun hj => by
        rcases gxN_mem.1 hj with ⟨b, hb, e⟩ | ⟨b, hb, e⟩
        · exact h1 b hb e
        · exact h2 b hb e)
    have hv3 := hval hr e4
    show K (a.put io.dst v) w'
    rw [hdst]
    cases d with
    | none =>
      refine hK g3 _ w' ?_
      have : ovr s2 (gxSt t ex hout σ p m n none r).fs ⟨tmpsOf (ys.map tvO), gxN σ m n, [], gxN σ m n⟩ = s3 := by
        refine fs_ext (fun i => ?_) fun j => ?_
        · show (if i ∈ ([] : List Nat) then (gxSt t ex hout σ p m n none r).fs.T i else s2.T i) = s2.T i
          simp
        · show (if j ∈ gxN σ m n then (gxSt t ex hout σ p m n none r).fs.H j else s2.H j) = _
          rw [hxs]
      show R c _ (ovr s2 (gxSt t ex hout σ p m n none r).fs ⟨tmpsOf (ys.map tvO), gxN σ m n, [], gxN σ m n⟩) _ _
      rw [this]; exact hR3
    | some d =>
      refine hK g3 _ w' ?_
      have : ovr s2 (gxSt t ex hout σ p m n (some d) r).fs ⟨tmpsOf (ys.map tvO), gxN σ m n, [d], gxN σ m n⟩ = s3.put d (ren (sgx σ p n) r) := by
        refine fs_ext (fun i => ?_) fun j => ?_
        · show (if i ∈ [d] then (gxSt t ex hout σ p m n (some d) r).fs.T i else s2.T i) = _
          rw [FS.T_put, hT']
          by_cases h : d = i
          · subst h; simp
          · rw [if_neg (by simpa using fun e : i = d => h e.symm), if_neg h]
        · show (if j ∈ gxN σ m n then (gxSt t ex hout σ p m n (some d) r).fs.H j else s2.H j) = _
          rw [hxs]; rfl
      show R c _ (ovr s2 (gxSt t ex hout σ p m n (some d) r).fs ⟨tmpsOf (ys.map tvO), gxN σ m n, [d], gxN σ m n⟩) _ _
      rw [this]; exact hR3.put (by simpa using hd) hv3
abbrev GD (P : Program) (gl : Nat → AV) (f : FuncId) (args : List AV) (hin : List (Nat × Bk)) (m : Nat) (p : List Nat) (r : AV) (hout : List (Nat × Bk)) : Prop := GQ P gl f args hin m p (fun _ : Unit => True) (fun _ => r) (fun _ => hout)
theorem pr_gd {v : Bool} {d : Option Nat} {k : PK} {f : FuncId} {xs : List TV} {args : List AV} {hin hout : List (Nat × Bk)} {σ : Nat → Nat} {m n : Nat} {p : List Nat} {r : AV} {t : List (Nat × AV)} {ex : List (Nat × Bk)} {r0 : List TOp} {K : St → Prop} (hq : GD P c.gl f args hin m p r hout)
    (ok : GxOk c.gl xs v f args σ p m t ex hin n) (hk : k = (bif v then .callv else .call f)) (hHL' : HL hout m) (hr : nmOk m r) (h : XP P c r0 K (gxSt t ex hout σ p m n d r)) : PendR P c (.pd d k xs none) r0 K ⟨t, ex ++ renH σ hin, n⟩ :=
  .inl ⟨_, _, gx_AOkT hq ok hk hHL' hr, h⟩
theorem prD_gd {v : Bool} {d : Option Nat} {k : PK} {f : FuncId} {xs : List TV} {args : List AV} {hin hout : List (Nat × Bk)} {σ : Nat → Nat} {m n : Nat} {p : List Nat} {r : AV} {t : List (Nat × AV)} {ex : List (Nat × Bk)} {anc : List Nat} {fs : List Foot} {r0 : List TOp} {K : St → Prop} (hq : GD P c.gl f args hin m p r hout)
    (ok : GxOk c.gl xs v f args σ p m t ex hin n) (hk : k = (bif v then .callv else .call f)) (hHL' : HL hout m) (hr : nmOk m r) (h : XD P c anc r0 (⟨tmpsOf xs, gxN σ m n, d.toList, gxN σ m n⟩ :: fs) K (gxSt t ex hout σ p m n d r)) : PendDR P c anc (.pd d k xs none) r0 fs K ⟨t, ex ++ renH σ hin, n⟩ :=
  ⟨_, _, gx_AOkT hq ok hk hHL' hr, h⟩
end
end Go.Proofs.Ytphaicaobepimaa
