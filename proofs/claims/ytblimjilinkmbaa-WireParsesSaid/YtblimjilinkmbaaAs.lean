/- Calls that take named blocks and hand blocks back. No conditions but the ones that stand in each. -/
import Derived.Test.YtblimjilinkmbaaAr
namespace Go.Proofs.Ytblimjilinkmbaa
set_option linter.all false
set_option linter.unusedSimpArgs false
open Go.RowKit

section
variable {P : Program} {c : Cx} {g g' : Nat → GM} {s : FS} {a : Act} {w w' : World} {W W' : Nat → Prop}

/-- A block's cells under other names. -/
theorem BR.unren {ρ : Nat → Nat} {n : Nat} (hg' : ∀ b, b < n → g (ρ b) ≠ .un → g (ρ b) = g' b) {mm : GM} {x : Bk} (h : BR g W w mm (renB ρ x)) (hn : nmB n x) (hW : ∀ k, W' k → W k) : BR g' W' w mm x := by
  have back : ∀ {v u}, nmOk n v → VR g W w (ren ρ v) u → VR g' W' w v u := fun hn h => (h.unren hg' _ rfl hn).mono (Fr.refl w W) (fun k _ => hW k) (fun _ _ => rfl)
  cases x with
  | free => exact hn.elim
  | dead => exact hn.elim
  | cells cs =>
    simp only [renB] at h
    simp only [nmB] at hn
    generalize hcs : rens ρ cs = cs' at h
    cases h with
    | ph =>
      have : cs = [] := by cases cs <;> simp_all [rens]
      subst this; exact .ph
    | cells hb hl h1 hv hz =>
      subst hcs
      rw [rens_len] at hl h1 hv
      exact .cells hb hl h1 (fun j hj => back (nmAll_get hn j) (by have := hv j hj; rwa [rens_get] at this)) hz
  | mapb kvs =>
    simp only [renB] at h
    simp only [nmB] at hn
    generalize hcs : (kvs.map fun p => (ren ρ p.1, ren ρ p.2)) = kvs' at h
    cases h with
    | mapb hb hs hkk hv hc ha =>
      subst hcs
      rw [List.length_map] at hs hkk hv
      have hget : ∀ j, j < kvs.length → (kvs.map fun p => (ren ρ p.1, ren ρ p.2)).getD j (.any, .any) = (ren ρ (kvs.getD j (.any, .any)).1, ren ρ (kvs.getD j (.any, .any)).2) := fun j hj => by simp [List.getD, hj]
      have hmem : ∀ j, j < kvs.length → kvs.getD j (.any, .any) ∈ kvs := fun j hj => by simp [List.getD, hj]
      exact .mapb hb hs (fun j hj => back (hn _ (hmem j hj)).1 (by have := hkk j hj; rwa [hget j hj] at this)) (fun j hj => back (hn _ (hmem j hj)).2 (by have := hv j hj; rwa [hget j hj] at this)) hc ha

/-- The blocks of a caller as the callee is to see them. -/
structure Fit (σ : Nat → Nat) (s : FS) (hin : List (Nat × Bk)) (m : Nat) : Prop where
  mem : ∀ p ∈ hin, p.1 < m ∧ nmB m p.2 ∧ s.H (σ p.1) = renB σ p.2
  inj : ∀ p ∈ hin, ∀ q ∈ hin, σ p.1 = σ q.1 → p.1 = q.1
def lentG (g : Nat → GM) (σ : Nat → Nat) (hin : List (Nat × Bk)) (m : Nat) (k : Nat) : Prop := ∃ b, (lookb hin m b).live ∧ g (σ b) = .re k
def lentX (c : Cx) (g : Nat → GM) (s : FS) (G : Nat → Prop) (k : Nat) : Prop := wset c g s k ∧ ¬ G k
def lentC (c : Cx) (g : Nat → GM) (s : FS) (w : World) (σ : Nat → Nat) (hin : List (Nat × Bk)) (m : Nat) : Cx := ⟨0, w, lentG g σ hin m, lentX c g s (lentG g σ hin m), c.gl, []⟩
theorem listed_of_live {h : List (Nat × Bk)} {m b : Nat} (hl : (lookb h m b).live) : ∃ p ∈ h, p.1 = b ∧ lookb h m b = p.2 := by
  rcases lookb_cases h m b with e | e
  · rw [e] at hl; split at hl <;> exact hl.elim
  · exact e

open Classical in
theorem lend {σ : Nat → Nat} {hin : List (Nat × Bk)} {m : Nat} (hR : R c g s a w) (fit : Fit σ s hin m) : ∃ g1 : Nat → GM, (∀ b, b < m → g (σ b) ≠ .un → g (σ b) = g1 b) ∧
    R (lentC c g s w σ hin m) g1 (⟨[], hin, m⟩ : St).fs ⟨#[], []⟩ w ∧ (∀ k, wset (lentC c g s w σ hin m) g1 (⟨[], hin, m⟩ : St).fs k → wset c g s k) := by
  let g1 : Nat → GM := fun b => if b < m then (if g (σ b) = .un then .ph else g (σ b)) else .un
  have hg1 : ∀ b, b < m → g (σ b) ≠ .un → g (σ b) = g1 b := fun b hb h => by simp only [g1, if_pos hb, if_neg h]
  have hge : ∀ b, m ≤ b → g1 b = .un := fun b hb => by simp only [g1]; rw [if_neg (by omega)]
  have hne : ∀ b, b < m → g1 b ≠ .un := fun b hb => by
    simp only [g1, if_pos hb]
    split
    · intro h; cases h
    · assumption
  have hlv : ∀ b, (lookb hin m b).live → b < m ∧ (s.H (σ b)).live ∧ g1 b = g (σ b) := fun b hl => by
    obtain ⟨p, hp, rfl, e⟩ := listed_of_live hl
    obtain ⟨h1, h2, h3⟩ := fit.mem p hp
    have hlv : (s.H (σ p.1)).live := by rw [h3, live_renB]; exact live_of_nmB h2
    refine ⟨h1, hlv, (hg1 _ h1 fun e => ?_).symm⟩
    have := hR.h (σ p.1)
    rw [e] at this
    generalize s.H (σ p.1) = x at this hlv
    cases this <;> first | exact hlv | (rename_i h; exact h rfl)
  have hW : ∀ k, wset (lentC c g s w σ hin m) g1 (⟨[], hin, m⟩ : St).fs k → wset c g s k := by
    rintro k (h | ⟨b, h1, h2⟩)
    · exact h.1
    · obtain ⟨_, h4, h5⟩ := hlv b h1
      exact .inr ⟨σ b, h4, by rw [← h5]; exact h2⟩
  refine ⟨g1, hg1, ⟨rfl, rfl, fun i => .any _, fun i => (hR.gl i).mono (Fr.refl w _) (fun k _ => hW k) (fun _ _ => rfl), fun b => ?_, fun b b' k h1 h2 e1 e2 => ?_, fun b k h1 e1 => ?_, Fr.refl _ _, fun k hk => ⟨?_, hk.2⟩, fun p hp => by cases hp⟩, hW⟩
  · show BR g1 _ w _ (lookb hin m b)
    rcases lookb_cases hin m b with h | ⟨p, h1, rfl, h3⟩
    · rw [h]
      split
      · rename_i hb; exact .dead (hne b hb)
      · rename_i hb; rw [hge b (by omega)]; exact .free
    · rw [h3]
      obtain ⟨q1, q2, q3⟩ := fit.mem p h1
      obtain ⟨_, _, e5⟩ := hlv p.1 (by rw [h3]; exact live_of_nmB q2)
      rw [e5]
      have hbr := hR.h (σ p.1)
      rw [q3] at hbr
      exact hbr.unren hg1 q2 hW
  · obtain ⟨p1, hp1, rfl, _⟩ := listed_of_live h1
    obtain ⟨p2, hp2, rfl, _⟩ := listed_of_live h2
    obtain ⟨_, l1, d1⟩ := hlv _ h1
    obtain ⟨_, l2, d2⟩ := hlv _ h2
    exact fit.inj p1 hp1 p2 hp2 (hR.inj _ _ k l1 l2 (by rw [← d1]; exact e1) (by rw [← d2]; exact e2))
  · obtain ⟨_, l1, d1⟩ := hlv _ h1
    exact .inr ⟨b, h1, by rw [← d1]; exact e1⟩
  · rcases hk.1 with h | ⟨b', hl, hg'⟩
    · have := (hR.xs k h).1; have := hR.fr.size; show k < w.heap.size; omega
    · exact BR.lt (hg' ▸ hR.h b') hl

def Hst (h : List (Nat × Bk)) (n : Nat) : FS := (⟨[], h, n⟩ : St).fs
/-- Of these arguments, and with these blocks under the names below m, the call yields r and leaves these blocks. -/
def GS (P : Program) (gl : Nat → AV) (f : FuncId) (args : List AV) (hin : List (Nat × Bk)) (m : Nat) (r : AV) (hout : List (Nat × Bk)) (n : Nat) : Prop :=
  Callable P f ∧ ∀ (w : World) (vs : List Value) (G X : Nat → Prop) (g : Nat → GM), R ⟨0, w, G, X, gl, []⟩ g (Hst hin m) ⟨#[], []⟩ w → VRs g (wset ⟨0, w, G, X, gl, []⟩ g (Hst hin m)) w args vs →
    Calls P f vs.toArray w fun e w' => ∃ v g', e = .returned v ∧ R ⟨0, w, G, X, gl, []⟩ g' (Hst hout n) ⟨#[], []⟩ w' ∧ (∀ b, b < m → g' b = g b) ∧ VR g' (wset ⟨0, w, G, X, gl, []⟩ g' (Hst hout n)) w' r v

/-- The end of such a body: its names brought in order. -/
def genK (m : Nat) (rs : List RS) (r : AV) (hout : List (Nat × Bk)) (n : Nat) : EX → St → Prop
  | .exit _, _ => False
  | _, s => rvOk s.fs rs ∧ ∃ ρ, pinL m ρ n ∧ Sub (rl ρ) ⟨[(0, rvs s.fs rs)], s.h, s.n⟩ ⟨[(0, r)], hout, n⟩

theorem R_startG {w : World} {vs : List Value} {args : List AV} {N : Nat} (hN : args.length ≤ N) {G X : Nat → Prop} {gl : Nat → AV} {g : Nat → GM} {hin : List (Nat × Bk)} {m : Nat} {gh : List (Nat × GM)} (hR : R ⟨0, w, G, X, gl, []⟩ g (Hst hin m) ⟨#[], []⟩ w)
    (hv : VRs g (wset ⟨0, w, G, X, gl, []⟩ g (Hst hin m)) w args vs) (hpin : ∀ p ∈ gh, g p.1 = p.2 ∧ p.2 ≠ .un) :
    R ⟨N, w, G, X, gl, gh⟩ g (⟨argT 0 args, hin, m⟩ : St).fs { tmps := vs.toArray ++ Array.replicate (N - vs.toArray.size) undef, defers := [] } w := by
  have hl := hv.length
  refine ⟨by simp; omega, rfl, fun i => ?_, hR.gl, hR.h, hR.inj, hR.old, hR.fr, hR.xs, hpin⟩
  show VR g _ w (look (argT 0 args) i) _
  rw [look_argT]
  split
  · rename_i h
    have hi : i < vs.length := by omega
    have := hv.get i (by omega)
    have e : (vs.toArray ++ Array.replicate (N - vs.toArray.size) undef).getD i undef = vs.getD i undef := by
      simp only [Array.getD_eq_getD_getElem?, List.getD]
      rw [Array.getElem?_append_left (by simpa using hi)]
      simp
    rw [e]
    have h2 : VR g (wset ⟨0, w, G, X, gl, []⟩ g (Hst hin m)) w (args.getD (i - 0) .any) (vs.getD i undef) := by simpa using this
    exact h2
  · exact .any _

theorem gs_of_xw {gl : Nat → AV} {f : FuncId} {fn : Func} {code : Code} {t : TC} {rs : List RS} {args : List AV} {hin hout : List (Nat × Bk)} {m n : Nat} {r : AV} (hm : P.follows .mixedOrders = true) (hf : P.funcs[f]? = some fn) (hb : fn.body = some code) (hname : (fn.name == "runtime.NumGoroutine") = false)
    (he : elabC P fn.ntmps code = some t) (hr : elabR P fn.results.toList = some rs) (hN : args.length ≤ fn.ntmps) (hlive : ∀ p ∈ hin, p.2.live)
    (h : ∀ c : Cx, (∀ p ∈ c.gh, p.1 < m) → c.gl = gl → xw P c t (genK m rs r hout n) ⟨argT 0 args, hin, m⟩) : GS P gl f args hin m r hout n := by
  refine ⟨⟨fn, hf, by rw [hb]; rfl, hname⟩, fun w vs G X g hR0 hv => ?_⟩
  refine calls_of_wp hf hb ?_
  have hun : ∀ b, b < m → g b ≠ .un := fun b hbm e => by
    have := hR0.h b
    rw [e] at this
    have hh : (Hst hin m).H b = lookb hin m b := rfl
    rw [hh] at this
    rcases lookb_cases hin m b with q | ⟨p, hp, _, q⟩
    · rw [q, if_pos hbm] at this; cases this; rename_i h; exact h rfl
    · rw [q] at this
      have hl := hlive p hp
      cases hx : p.2 with
      | free => rw [hx] at hl; exact hl.elim
      | dead => rw [hx] at hl; exact hl.elim
      | cells cs => rw [hx] at this; cases this
      | mapb kvs => rw [hx] at this; cases this
  have hpin : ∀ p ∈ (List.range m).map (fun b => (b, g b)), g p.1 = p.2 ∧ p.2 ≠ .un := fun p hp => by
    obtain ⟨b, hbm, rfl⟩ := List.mem_map.1 hp
    exact ⟨rfl, hun b (List.mem_range.1 hbm)⟩
  have hgh : ∀ p ∈ (List.range m).map (fun b => (b, g b)), p.1 < m := fun p hp => by
    obtain ⟨b, hbm, rfl⟩ := List.mem_map.1 hp
    exact List.mem_range.1 hbm
  have hR := R_startG (N := fn.ntmps) hN hR0 hv hpin
  have := xw_sound (c := ⟨fn.ntmps, w, G, X, gl, (List.range m).map (fun b => (b, g b))⟩) hm code t _ _ he (h _ hgh rfl) _ _ _ hR
  refine wp_mono this fun e a' w' hq => ?_
  have fin : ∀ (g1 : Nat → GM) (s : St), R ⟨fn.ntmps, w, G, X, gl, (List.range m).map (fun b => (b, g b))⟩ g1 s.fs a' w' → (rvOk s.fs rs ∧ ∃ ρ, pinL m ρ n ∧ Sub (rl ρ) ⟨[(0, rvs s.fs rs)], s.h, s.n⟩ ⟨[(0, r)], hout, n⟩) →
      a'.defers = [] ∧ ∃ v, (results fn a'.tmps).run P w' = .ok v w' ∧ (∃ v_1 g', Ending.returned v = .returned v_1 ∧ R ⟨0, w, G, X, gl, []⟩ g' (Hst hout n) ⟨#[], []⟩ w' ∧ (∀ b, b < m → g' b = g b) ∧ VR g' (wset ⟨0, w, G, X, gl, []⟩ g' (Hst hout n)) w' r v_1) := by
    intro g1 s hR' ⟨h1, ρ, h2, h3⟩
    obtain ⟨v, h4, h5⟩ := run_results hR' hr h1
    refine ⟨hR'.def_, v, h4, v, ?_⟩
    have hR1 : R ⟨1, w, G, X, gl, (List.range m).map (fun b => (b, g b))⟩ g1 (⟨[(0, rvs s.fs rs)], s.h, s.n⟩ : St).fs ⟨#[v], []⟩ w' := by
      refine ⟨rfl, rfl, fun i => ?_, hR'.gl, hR'.h, hR'.inj, hR'.old, hR'.fr, hR'.xs, hR'.pin⟩
      show VR g1 _ w' (look [(0, rvs s.fs rs)] i) _
      rw [look_cons]
      split
      · rename_i hi; subst hi; exact h5
      · exact .any _
    obtain ⟨g2, hR2⟩ := h3.to hR1 (pinL_ok hgh h2)
    refine ⟨g2, rfl, ⟨rfl, rfl, fun i => .any _, hR2.gl, hR2.h, hR2.inj, hR2.old, hR2.fr, hR2.xs, fun p hp => by cases hp⟩, fun b hb => ?_, ?_⟩
    · exact (hR2.pin (b, g b) (List.mem_map.2 ⟨b, List.mem_range.2 hb, rfl⟩)).1
    · exact hR2.t 0
  cases e with
  | normal => obtain ⟨g, s, hR', hq'⟩ := hq; exact fin g s hR' hq'
  | ret => obtain ⟨g, s, hR', hq'⟩ := hq; exact fin g s hR' hq'
  | exit i => obtain ⟨g, s, hR', hq'⟩ := hq; exact hq'.elim
  | goto l => exact hq.elim
  | panic ch => exact hq.elim
  | outgrown => exact hq.elim

/-! ### The caller's side -/
def renB' (σ : Nat → Nat) : Bk → Bk
  | .dead => .dead
  | x => renB σ x
theorem BR.ren {σ : Nat → Nat} {n : Nat} (hg : ∀ b, b < n → g' (σ b) = g b) {mm : GM} {x : Bk} (h : BR g W w mm x) (hn : nmB n x) (hW : ∀ k, W' k → W k) : BR g' W' w mm (renB σ x) := by
  have fwd : ∀ {v u}, nmOk n v → VR g W w v u → VR g' W' w (Proofs.Ytblimjilinkmbaa.ren σ v) u := fun hn h => (h.ren (ρ := σ) (g := g') hg hn).mono (Fr.refl w W) (fun k _ => hW k) (fun _ _ => rfl)
  cases h with
  | free => exact hn.elim
  | dead h => exact hn.elim
  | ph => simp only [renB, rens]; exact .ph
  | cells hb hl h1 hv hz =>
    simp only [renB, nmB] at hn ⊢
    refine .cells hb (by rw [rens_len]; exact hl) (by rw [rens_len]; exact h1) (fun j hj => ?_) hz
    rw [rens_len] at hj
    rw [rens_get]; exact fwd (nmAll_get hn j) (hv j hj)
  | mapb hb hs hkk hv hc ha =>
    rename_i k kvs es clock
    simp only [renB, nmB] at hn ⊢
    have hget : ∀ j, j < kvs.length → (kvs.map fun p => (Proofs.Ytblimjilinkmbaa.ren σ p.1, Proofs.Ytblimjilinkmbaa.ren σ p.2)).getD j (.any, .any) = (Proofs.Ytblimjilinkmbaa.ren σ (kvs.getD j (.any, .any)).1, Proofs.Ytblimjilinkmbaa.ren σ (kvs.getD j (.any, .any)).2) := fun j hj => by simp [List.getD, hj]
    have hmem : ∀ j, j < kvs.length → kvs.getD j (.any, .any) ∈ kvs := fun j hj => by simp [List.getD, hj]
    refine .mapb hb (by rw [List.length_map]; exact hs) (fun j hj => ?_) (fun j hj => ?_) hc ha
    · rw [List.length_map] at hj; rw [hget j hj]; exact fwd (hn _ (hmem j hj)).1 (hkk j hj)
    · rw [List.length_map] at hj; rw [hget j hj]; exact fwd (hn _ (hmem j hj)).2 (hv j hj)

/-- What a caller has behind such a call. -/
structure Back (σ : Nat → Nat) (s s3 : FS) (hout : List (Nat × Bk)) (n : Nat) : Prop where
  T : ∀ i, s3.T i = s.T i
  H : ∀ b, b < n → s3.H (σ b) = renB' σ (lookb hout n b)
  rest : ∀ j, (∀ b, b < n → σ b ≠ j) → s3.H j = s.H j
open Classical in
noncomputable def backG (g g2 : Nat → GM) (σ : Nat → Nat) (n : Nat) (j : Nat) : GM := if h : ∃ b, b < n ∧ σ b = j then g2 h.choose else g j

theorem take_back {σ : Nat → Nat} {hin hout : List (Nat × Bk)} {m n : Nat} {s3 : FS} {g1 g2 : Nat → GM} (hR : R c g s a w) (fit : Fit σ s hin m) (hcov : ∀ b, b < m → ∃ p ∈ hin, p.1 = b) (hmn : m ≤ n) (hinj : ∀ b b', b < n → b' < n → σ b = σ b' → b = b') (hnew : ∀ b, m ≤ b → b < n → s.H (σ b) = .free)
    (hnm : ∀ p ∈ hout, nmB n p.2) (hlt : ∀ p ∈ hout, p.1 < n) (hg1 : ∀ b, b < m → g (σ b) ≠ .un → g (σ b) = g1 b) (hg2 : ∀ b, b < m → g2 b = g1 b) (hR2 : R (lentC c g s w σ hin m) g2 (Hst hout n) ⟨#[], []⟩ w') (hb : Back σ s s3 hout n) :
    R c (backG g g2 σ n) s3 a w' ∧ ∀ {r : AV} {v : Value}, nmOk n r → VR g2 (wset (lentC c g s w σ hin m) g2 (Hst hout n)) w' r v → VR (backG g g2 σ n) (wset c (backG g g2 σ n) s3) w' (ren σ r) v := by
  have gs : ∀ b, b < n → backG g g2 σ n (σ b) = g2 b := fun b hbn => by
    unfold backG
    have hex : ∃ b', b' < n ∧ σ b' = σ b := ⟨b, hbn, rfl⟩
    rw [dif_pos hex]
    rw [hinj _ _ hex.choose_spec.1 hbn hex.choose_spec.2]
  have go : ∀ j, (∀ b, b < n → σ b ≠ j) → backG g g2 σ n j = g j := fun j h => by
    unfold backG
    rw [dif_neg]
    rintro ⟨b, h1, h2⟩; exact h b h1 h2
  have named : ∀ b, b < m → g (σ b) ≠ .un := fun b hbm e => by
    obtain ⟨p, hp, rfl⟩ := hcov b hbm
    obtain ⟨_, q2, q3⟩ := fit.mem p hp
    have := hR.h (σ p.1)
    rw [e, q3] at this
    have hl : (renB σ p.2).live := live_renB.2 (live_of_nmB q2)
    generalize renB σ p.2 = x at this hl
    cases this <;> first | exact hl | (rename_i h; exact h rfl)
  have gm : ∀ b, b < m → g2 b = g (σ b) := fun b hbm => by rw [hg2 b hbm, ← hg1 b hbm (named b hbm)]
  have gk : ∀ j, g j ≠ .un → backG g g2 σ n j = g j := fun j hj => by
    by_cases h : ∃ b, b < n ∧ σ b = j
    · obtain ⟨b, hbn, rfl⟩ := h
      rw [gs b hbn]
      by_cases hbm : b < m
      · exact gm b hbm
      · have := hR.h (σ b)
        rw [hnew b (by omega) hbn] at this
        generalize g (σ b) = x at this hj
        cases this; exact (hj rfl).elim
    · exact go j fun b h1 h2 => h ⟨b, h1, h2⟩
  have lout : ∀ b, (lookb hout n b).live → b < n := fun b hl => by
    obtain ⟨p, hp, rfl, _⟩ := listed_of_live hl
    exact hlt p hp
  have lin : ∀ b, (lookb hin m b).live → b < m := fun b hl => by
    obtain ⟨p, hp, rfl, _⟩ := listed_of_live hl
    exact (fit.mem p hp).1
  have linS : ∀ b, (lookb hin m b).live → (s.H (σ b)).live := fun b hl => by
    obtain ⟨p, hp, rfl, _⟩ := listed_of_live hl
    obtain ⟨_, q2, q3⟩ := fit.mem p hp
    rw [q3, live_renB]; exact live_of_nmB q2
  have live3 : ∀ j, (s3.H j).live → (∃ b, b < n ∧ σ b = j ∧ (lookb hout n b).live) ∨ ((∀ b, b < n → σ b ≠ j) ∧ (s.H j).live) := fun j hl => by
    by_cases h : ∃ b, b < n ∧ σ b = j
    · obtain ⟨b, hbn, rfl⟩ := h
      rw [hb.H b hbn] at hl
      refine .inl ⟨b, hbn, rfl, ?_⟩
      cases hx : lookb hout n b with
      | free => rw [hx] at hl; exact hl.elim
      | dead => rw [hx] at hl; exact hl.elim
      | cells cs => trivial
      | mapb kvs => trivial
    · have hno : ∀ b, b < n → σ b ≠ j := fun b h1 h2 => h ⟨b, h1, h2⟩
      rw [hb.rest j hno] at hl
      exact .inr ⟨hno, hl⟩
  -- memory of a block that comes back
  have mem2 : ∀ b k, (lookb hout n b).live → g2 b = .re k → w.heap.size ≤ k ∨ ∃ b0, (lookb hin m b0).live ∧ g (σ b0) = .re k := fun b k hl hk => hR2.old b k hl hk
  have hf : Fr w w' (lentG g σ hin m) := hR2.fr
  have hGW : ∀ k, lentG g σ hin m k → wset c g s k := fun k ⟨b, h1, h2⟩ => .inr ⟨σ b, linS b h1, h2⟩
  have hfW : Fr w w' (wset c g s) := hf.weak hGW
  have oth : ∀ j k, (∀ b, b < n → σ b ≠ j) → (s.H j).live → g j = .re k → ¬ lentG g σ hin m k := fun j k h1 h2 h3 ⟨b, q1, q2⟩ =>
    h1 b (Nat.lt_of_lt_of_le (lin b q1) hmn) (hR.inj (σ b) j k (linS b q1) h2 q2 h3)
  have hW3 : ∀ k, k < w.heap.size → wset c (backG g g2 σ n) s3 k → wset c g s k := by
    rintro k hk (h | ⟨j, h1, h2⟩)
    · exact .inl h
    · rcases live3 j h1 with ⟨b, hbn, rfl, hl⟩ | ⟨hno, hl⟩
      · rw [gs b hbn] at h2
        rcases mem2 b k hl h2 with h | ⟨b0, q1, q2⟩
        · omega
        · exact hGW k ⟨b0, q1, q2⟩
      · rw [go j hno] at h2; exact .inr ⟨j, hl, h2⟩
  have hW2 : ∀ k, wset c (backG g g2 σ n) s3 k → wset (lentC c g s w σ hin m) g2 (Hst hout n) k := by
    rintro k (h | ⟨j, h1, h2⟩)
    · refine .inl ⟨.inl h, fun ⟨b, q1, q2⟩ => ?_⟩
      obtain ⟨x1, x2⟩ := hR.xs k h
      rcases hR.old (σ b) k (linS b q1) q2 with h | h
      · omega
      · exact x2 h
    · rcases live3 j h1 with ⟨b, hbn, rfl, hl⟩ | ⟨hno, hl⟩
      · rw [gs b hbn] at h2; exact .inr ⟨b, hl, h2⟩
      · rw [go j hno] at h2; exact .inl ⟨.inr ⟨j, hl, h2⟩, oth j k hno hl h2⟩
  refine ⟨⟨hR.size, hR.def_, fun i => ?_, fun i => (hR.gl i).mono hfW hW3 (fun _ _ => rfl), fun j => ?_, fun j j' k h1 h2 e1 e2 => ?_, fun j k h1 e1 => ?_, hR.fr.trans hf fun k hk ⟨b, q1, q2⟩ => ?_, hR.xs, fun p hp => ?_⟩, fun {r v} hn hv => ?_⟩
  · rw [hb.T]; exact (hR.t i).mono hfW hW3 gk
  · by_cases h : ∃ b, b < n ∧ σ b = j
    · obtain ⟨b, hbn, rfl⟩ := h
      rw [hb.H b hbn, gs b hbn]
      have hbr := hR2.h b
      have e : (Hst hout n).H b = lookb hout n b := rfl
      rw [e] at hbr
      rcases lookb_cases hout n b with q | ⟨p, hp, _, q⟩
      · rw [q, if_pos hbn] at hbr ⊢
        generalize g2 b = x at hbr ⊢
        cases hbr with
        | dead h => exact .dead h
      · rw [q] at hbr ⊢
        have hnb := hnm p hp
        have : renB' σ p.2 = renB σ p.2 := by
          cases hx : p.2 <;> first | rfl | (rw [hx] at hnb; exact hnb.elim)
        rw [this]
        exact hbr.ren (g' := backG g g2 σ n) gs hnb hW2
    · have hno : ∀ b, b < n → σ b ≠ j := fun b h1 h2 => h ⟨b, h1, h2⟩
      rw [hb.rest j hno, go j hno]
      refine (hR.h j).mono hfW hW3 gk fun k hk hl => hf.keep k ?_ (oth j k hno hl hk)
      exact BR.lt (hk ▸ hR.h j) hl
  · rcases live3 j h1 with ⟨b, hbn, rfl, hl⟩ | ⟨hno, hl⟩ <;> rcases live3 j' h2 with ⟨b', hbn', rfl, hl'⟩ | ⟨hno', hl'⟩
    · rw [gs b hbn] at e1; rw [gs b' hbn'] at e2
      rw [hR2.inj b b' k hl hl' e1 e2]
    · rw [gs b hbn] at e1; rw [go j' hno'] at e2
      have hlt := BR.lt (e2 ▸ hR.h j') hl'
      rcases mem2 b k hl e1 with h | hG
      · omega
      · exact (oth j' k hno' hl' e2 hG).elim
    · rw [gs b' hbn'] at e2; rw [go j hno] at e1
      have hlt := BR.lt (e1 ▸ hR.h j) hl
      rcases mem2 b' k hl' e2 with h | hG
      · omega
      · exact (oth j k hno hl e1 hG).elim
    · rw [go j hno] at e1; rw [go j' hno'] at e2
      exact hR.inj j j' k hl hl' e1 e2
  · rcases live3 j h1 with ⟨b, hbn, rfl, hl⟩ | ⟨hno, hl⟩
    · rw [gs b hbn] at e1
      rcases mem2 b k hl e1 with h | ⟨b0, q1, q2⟩
      · have := hR.fr.size; exact .inl (by omega)
      · exact hR.old (σ b0) k (linS b0 q1) q2
    · rw [go j hno] at e1; exact hR.old j k hl e1
  · rcases hR.old (σ b) k (linS b q1) q2 with h | h
    · omega
    · exact h
  · obtain ⟨q1, q2⟩ := hR.pin p hp
    exact ⟨by rw [gk p.1 (by rw [q1]; exact q2), q1], q2⟩
  · exact (hv.ren (ρ := σ) (g := backG g g2 σ n) gs hn).mono (Fr.refl _ _) (fun k _ => hW2 k) (fun _ _ => rfl)
end
end Go.Proofs.Ytblimjilinkmbaa
