/- Calls that may turn names into others, and what may be told of them in more than one way. No conditions but the ones that stand in each. -/
import Derived.Test.YtphaicaobepimaaEa
namespace Go.Proofs.Ytphaicaobepimaa
set_option linter.all false
set_option linter.unusedSimpArgs false
open Go.RowKit

mutual
/-- Only names of S are mentioned. -/
def nmP (S : Nat → Prop) : AV → Prop
  | .cnd _ v => nmP S v
  | .agg cs => nmPs S cs
  | .tup cs => nmPs S cs
  | .xp cs _ => nmPs S cs
  | .isl _ cs => nmPs S cs
  | .cl _ cs => nmPs S cs
  | .ptr b _ => S b
  | .sl _ b _ _ _ => S b
  | .mp b => S b
  | _ => True
def nmPs (S : Nat → Prop) : List AV → Prop
  | [] => True
  | x :: xs => nmP S x ∧ nmPs S xs
end
theorem nmPs_iff {S : Nat → Prop} : ∀ {cs : List AV}, nmPs S cs ↔ ∀ x ∈ cs, nmP S x
  | [] => by simp [nmPs]
  | x :: xs => by simp [nmPs, nmPs_iff (cs := xs)]
theorem nmPs_get {S : Nat → Prop} {cs : List AV} (h : nmPs S cs) (j : Nat) : nmP S (cs.getD j .any) := by
  by_cases hj : j < cs.length
  · rw [getD_lt hj]; exact nmPs_iff.1 h _ (List.getElem_mem _)
  · have : cs.getD j .any = .any := by simp [List.getD, Nat.le_of_not_lt hj]
    rw [this]; simp [nmP]
def nmPB (S : Nat → Prop) : Bk → Prop
  | .cells cs => nmPs S cs
  | .mapb kvs _ => ∀ p ∈ kvs, nmP S p.1 ∧ nmP S p.2
  | .mapx kvs _ _ => ∀ p ∈ kvs, nmP S p.1 ∧ nmP S p.2
  | .iter b _ _ => S b
  | .bag ls => ∀ l ∈ ls, nmAll 0 l
  | _ => True
section
variable {S : Nat → Prop} {W W' : Nat → Prop} {w w' : World} {g g' : Nat → GM}
theorem VR.only (hg : ∀ b, S b → g b ≠ .un → g b = g' b) {v : AV} {u : Value} (h : VR g W w v u) : nmP S v → VR g' W w v u := by
  induction h with
  | any v => intro _; exact .any _
  | cnd h h0 ih => intro hn; simp only [nmP] at hn; exact .cnd (fun hb => ih hb hn) h0
  | int k n => intro _; exact .int _ _
  | bool b => intro _; exact .bool _
  | str l => intro _; exact .str _
  | agg hs h1 h ih => intro hn; simp only [nmP] at hn; exact .agg hs h1 fun j hj => ih j hj (nmPs_get hn j)
  | tup hs h ih => intro hn; simp only [nmP] at hn; exact .tup hs fun j hj => ih j hj (nmPs_get hn j)
  | ptr e => intro hn; simp only [nmP] at hn; exact .ptr (by rw [← hg _ hn (by rw [e]; intro x; cases x)]; exact e)
  | xp hc h ih => intro hn; simp only [nmP] at hn; exact .xp hc fun j hj => ih j hj (nmPs_get hn j)
  | sl e a b c d f => intro hn; simp only [nmP] at hn; exact .sl (by rw [← hg _ hn (by rw [e]; intro x; cases x)]; exact e) a b c d f
  | slp e hc => intro hn; simp only [nmP] at hn; exact .slp (by rw [← hg _ hn (by rw [e]; intro x; cases x)]; exact e) hc
  | isl a b hc h ih => intro hn; simp only [nmP] at hn; exact .isl a b hc fun j hj => ih j hj (nmPs_get hn j)
  | nils a => intro _; exact .nils _
  | cl hs h ih => intro hn; simp only [nmP] at hn; exact .cl hs fun j hj => ih j hj (nmPs_get hn j)
  | mp e => intro hn; simp only [nmP] at hn; exact .mp (by rw [← hg _ hn (by rw [e]; intro x; cases x)]; exact e)
  | lit v => intro _; exact .lit _
theorem BR.only (hg : ∀ b, S b → g b ≠ .un → g b = g' b) {m : GM} {x : Bk} (h : BR g W w m x) (hn : nmPB S x) : BR g' W w m x := by
  cases h with
  | free => exact .free
  | dead h => exact .dead h
  | ph => exact .ph
  | cells hb hl h1 hv hz => exact .cells hb hl h1 (fun j hj => (hv j hj).only hg (nmPs_get hn j)) hz
  | mapb hb hs hkk hv hc ha hd =>
    rename_i k kvs dn es clock
    have hmem : ∀ j, j < kvs.length → kvs.getD j (.any, .any) ∈ kvs := fun j hj => by simp [List.getD, hj]
    exact .mapb hb hs (fun j hj => (hkk j hj).only hg (hn _ (hmem j hj)).1) (fun j hj => (hv j hj).only hg (hn _ (hmem j hj)).2) hc ha hd
  | mapx hb hs hkk hv hc ha hd =>
    rename_i k kvs bs es clock
    have hmem : ∀ j, j < kvs.length → kvs.getD j (.any, .any) ∈ kvs := fun j hj => by simp [List.getD, hj]
    exact .mapx hb hs (fun j hj => (hkk j hj).only hg (hn _ (hmem j hj)).1) (fun j hj => (hv j hj).only hg (hn _ (hmem j hj)).2) hc ha hd
  | iter hb hg0 => exact .iter hb (by rw [← hg _ hn (by rw [hg0]; intro x; cases x)]; exact hg0)
  | bag hp h => exact BR.bag_any (.bag hp h) hn fun _ h => h
end

/-- What is known by s is known by s', the names of L staying what they are. -/
def To (p : List Nat) (s s' : St) : Prop := ∀ (c : Cx) (g : Nat → GM) (a : Act) (w : World), (∀ q ∈ c.gh, q.1 ∈ p) → R c g s.fs a w → ∃ g', R c g' s'.fs a w
theorem To.refl (p : List Nat) (s : St) : To p s s := fun c g a w _ hR => ⟨g, hR⟩
theorem To.trans {p : List Nat} {s s' s2 : St} (h : To p s s') (k : To p s' s2) : To p s s2 := fun c g a w hp hR => by
  obtain ⟨g1, h1⟩ := h c g a w hp hR
  exact k c g1 a w hp h1
/-- A renaming keeps the names of L. -/
def pinB (p : List Nat) (ρ : List (Nat × Nat)) (n : Nat) : Bool := ρ.all (fun q => !p.contains q.1) && p.all (fun b => decide (b < n))
theorem rl_not {p : List Nat} : ∀ {ρ : List (Nat × Nat)}, ρ.all (fun q => !p.contains q.1) = true → ∀ b ∈ p, rl ρ b = b
  | [], _, _, _ => rfl
  | (i, j) :: l, h, b, hb => by
    simp only [List.all_cons, Bool.and_eq_true, Bool.not_eq_true'] at h
    have hi : (i == b) = false := by
      cases e : i == b with
      | false => rfl
      | true =>
        have : i = b := by simpa using e
        subst this
        have := h.1
        rw [List.contains_iff_mem.2 hb] at this; cases this
    show (bif i == b then j else rl l b) = b
    rw [hi]; exact rl_not h.2 b hb
theorem To.sub {p : List Nat} {s s' : St} {ρ : List (Nat × Nat)} (hp : pinB p ρ s'.n = true) (h : Sub (rl ρ) s s') : To p s s' := fun c g a w hg hR => h.to hR fun q hq => by
  unfold pinB at hp
  rw [Bool.and_eq_true] at hp
  exact ⟨rl_not hp.1 _ (hg q hq), of_decide_eq_true (List.all_eq_true.1 hp.2 _ (hg q hq))⟩
theorem To.subF {p : List Nat} {s s' : St} {ρ : Nat → Nat} (hp : ∀ b, b ∈ p → ρ b = b ∧ b < s'.n) (h : Sub ρ s s') : To p s s' := fun c g a w hg hR => h.to hR fun q hq => hp _ (hg q hq)
section
variable {P : Program} {c : Cx}
theorem pr_to {p : List Nat} {o : TOp} {r0 : List TOp} {K : St → Prop} {s s' : St} (hgh : ∀ q ∈ c.gh, q.1 ∈ p) (h : To p s s') (k : PendR P c o r0 K s') : PendR P c o r0 K s := by
  refine .inr fun ops io he g a w hR K' Q' hK => ?_
  obtain ⟨g', hR'⟩ := h c g a w hgh hR
  rcases k with ⟨F, s2, hA, hr⟩ | hS
  · have hA' := hA ops io he
    refine hA'.step s'.fs (fun _ _ => rfl) (fun _ _ => rfl) g' a w hR' K' Q' fun g2 a' w' hR2 => ?_
    rw [ovr_self hA'.outT hA'.outH] at hR2
    exact hK g2 s2 a' w' hr hR2
  · exact hS ops io he g' a w hR' K' Q' hK
def loopKS {σ : Type} (p : List Nat) (I : σ → Prop) (emb : σ → St) (μ : σ → Nat) (x : σ) (Q : EX → St → Prop) : EX → St → Prop
  | .normal, s => ∃ y, I y ∧ To p s (emb y) ∧ μ y < μ x
  | e, s => Q e s
theorem loop_ruleS {σ : Type} (I : σ → Prop) (emb : σ → St) (μ : σ → Nat) {b : TC} {Q : EX → St → Prop} {s : St} (hm : P.follows .mixedOrders = true) (p : List Nat) (hgh : ∀ q ∈ c.gh, q.1 ∈ p) (h0 : ∃ y, I y ∧ To p s (emb y))
    (hr : ∀ x, I x → xw P c b (loopKS p I emb μ x Q) (emb x)) : LoopVC P c b Q s := by
  intro code he g a w hR
  obtain ⟨y0, hy0, hs0⟩ := h0
  obtain ⟨g0, hR0⟩ := hs0 c g a w hgh hR
  have key : ∀ n (x : σ), μ x = n → I x → ∀ g a w, R c g (emb x).fs a w → ∀ (fr : Frame) (k : List Item) (cs : List Frame), ∃ e a' w', lift c Q e a' w' ∧ Arrives P (lone (fr.at a (.code code :: .inLoop code :: k)) cs w) fr k cs e a' w' := by
    intro n
    induction n using Nat.strongRecOn with
    | _ n ih =>
      intro x hx hI g a w hR fr k cs
      have hb := xw_sound hm code b _ _ he (hr x hI) g a w hR
      obtain ⟨e, a1, w1, hq, harr⟩ := hb fr (.inLoop code :: k) cs
      cases e with
      | normal =>
        obtain ⟨g1, s1, hR1, y, hIy, hs, hlt⟩ := hq
        obtain ⟨g2, hR2⟩ := hs c g1 a1 w1 hgh hR1
        obtain ⟨e2, a2, w2, hq2, harr2⟩ := ih (μ y) (by omega) y rfl hIy g2 a1 w1 hR2 fr k cs
        exact ⟨e2, a2, w2, hq2, .of_steps (Steps.trans harr (.one step_inLoop)) harr2⟩
      | exit i => exact ⟨.exit i, a1, w1, hq, .pass (x := .inLoop code) rfl (fun _ _ => .inl (by simp)) harr⟩
      | ret => exact ⟨.ret, a1, w1, hq, .pass (x := .inLoop code) rfl (fun _ _ => .inl (by simp)) harr⟩
      | goto l => exact hq.elim
      | panic ch => exact hq.elim
      | outgrown => exact hq.elim
  intro fr k cs
  obtain ⟨e, a', w', hq, harr⟩ := key _ y0 rfl hy0 g0 a w hR0 fr k cs
  exact ⟨e, a', w', hq, .of_steps (.one step_loop) harr⟩

/-- Of these arguments, and with these blocks under the names below m, the call yields one of a family; the names of p stay what they are. -/
def GQ (P : Program) (gl : Nat → AV) (f : FuncId) (args : List AV) (hin : List (Nat × Bk)) (m : Nat) (p : List Nat) {ι : Type} (Q : ι → Prop) (r : ι → AV) (hout : ι → List (Nat × Bk)) : Prop :=
  Callable P f ∧ ∀ (w : World) (vs : List Value) (G X : Nat → Prop) (g : Nat → GM), R ⟨0, w, G, X, gl, []⟩ g (Hst hin m) ⟨#[], []⟩ w → VRs g (wset ⟨0, w, G, X, gl, []⟩ g (Hst hin m)) w args vs →
    Calls P f vs.toArray w fun e w' => ∃ x v g', Q x ∧ e = .returned v ∧ R ⟨0, w, G, X, gl, []⟩ g' (Hst (hout x) m) ⟨#[], []⟩ w' ∧ (∀ b, b ∈ p → g' b = g b) ∧ VR g' (wset ⟨0, w, G, X, gl, []⟩ g' (Hst (hout x) m)) w' (r x) v
/-- The end of such a body. -/
def genQ (m : Nat) (p : List Nat) (rs : List RS) {ι : Type} (Q : ι → Prop) (r : ι → AV) (hout : ι → List (Nat × Bk)) : EX → St → Prop
  | .exit _, _ => False
  | _, s => rvOk s.fs rs ∧ ∃ x, Q x ∧ To p ⟨[(0, rvs s.fs rs)], s.h, s.n⟩ ⟨[(0, r x)], hout x, m⟩
theorem gq_of_xw {gl : Nat → AV} {f : FuncId} {fn : Func} {code : Code} {t : TC} {rs : List RS} {args : List AV} {hin : List (Nat × Bk)} {m : Nat} {p : List Nat} {ι : Type} {Q : ι → Prop} {r : ι → AV} {hout : ι → List (Nat × Bk)} (hm : P.follows .mixedOrders = true) (hf : P.funcs[f]? = some fn) (hb : fn.body = some code) (hname : (fn.name == "runtime.NumGoroutine") = false)
    (he : elabC P fn.ntmps code = some t) (hr : elabR P fn.results.toList = some rs) (hN : args.length ≤ fn.ntmps) (hlive : ∀ q ∈ hin, q.2.live) (hpm : ∀ b ∈ p, b < m)
    (h : ∀ c : Cx, (∀ q ∈ c.gh, q.1 ∈ p) → c.gl = gl → xw P c t (genQ m p rs Q r hout) ⟨argT 0 args, hin, m⟩) : GQ P gl f args hin m p Q r hout := by
  refine ⟨⟨fn, hf, by rw [hb]; rfl, hname⟩, fun w vs G X g hR0 hv => ?_⟩
  refine calls_of_wp hf hb ?_
  have hun : ∀ b, b < m → g b ≠ .un := fun b hbm e => by
    have := hR0.h b
    rw [e] at this
    have hh : (Hst hin m).H b = lookb hin m b := rfl
    rw [hh] at this
    rcases lookb_cases hin m b with q | ⟨q0, hp, _, q⟩
    · rw [q, if_pos hbm] at this; cases this; rename_i h; exact h rfl
    · rw [q] at this
      have hl := hlive q0 hp
      cases hx : q0.2 with
      | free => rw [hx] at hl; exact hl.elim
      | dead => rw [hx] at hl; exact hl.elim
      | cells cs => rw [hx] at this; cases this
      | mapb kvs dn => rw [hx] at this; cases this
      | mapx kvs bs ck => rw [hx] at this; cases this
      | iter b0 ck seen => rw [hx] at this; cases this
      | bag ls => rw [hx] at this; cases this with | bag _ h => cases h
  have hpin : ∀ q ∈ p.map (fun b => (b, g b)), g q.1 = q.2 ∧ q.2 ≠ .un := fun q hp => by
    obtain ⟨b, hbm, rfl⟩ := List.mem_map.1 hp
    exact ⟨rfl, hun b (hpm b hbm)⟩
  have hgh : ∀ q ∈ p.map (fun b => (b, g b)), q.1 ∈ p := fun q hp => by
    obtain ⟨b, hbm, rfl⟩ := List.mem_map.1 hp
    exact hbm
  have hR := R_startG (N := fn.ntmps) hN hR0 hv hpin
  have := xw_sound (c := ⟨fn.ntmps, w, G, X, gl, p.map (fun b => (b, g b))⟩) hm code t _ _ he (h _ hgh rfl) _ _ _ hR
  refine wp_mono this fun e a' w' hq => ?_
  have fin : ∀ (g1 : Nat → GM) (s : St), R ⟨fn.ntmps, w, G, X, gl, p.map (fun b => (b, g b))⟩ g1 s.fs a' w' → (rvOk s.fs rs ∧ ∃ x, Q x ∧ To p ⟨[(0, rvs s.fs rs)], s.h, s.n⟩ ⟨[(0, r x)], hout x, m⟩) →
      a'.defers = [] ∧ ∃ v, (results fn a'.tmps).run P w' = .ok v w' ∧ (∃ x v_1 g', Q x ∧ Ending.returned v = .returned v_1 ∧ R ⟨0, w, G, X, gl, []⟩ g' (Hst (hout x) m) ⟨#[], []⟩ w' ∧ (∀ b, b ∈ p → g' b = g b) ∧ VR g' (wset ⟨0, w, G, X, gl, []⟩ g' (Hst (hout x) m)) w' (r x) v_1) := by
    intro g1 s hR' ⟨h1, x, hQ, h3⟩
    obtain ⟨v, h4, h5⟩ := run_results hR' hr h1
    refine ⟨hR'.def_, v, h4, x, v, ?_⟩
    have hR1 : R ⟨1, w, G, X, gl, p.map (fun b => (b, g b))⟩ g1 (⟨[(0, rvs s.fs rs)], s.h, s.n⟩ : St).fs ⟨#[v], []⟩ w' := by
      refine ⟨rfl, rfl, fun i => ?_, hR'.gl, hR'.h, hR'.inj, hR'.old, hR'.fr, hR'.xs, hR'.pin⟩
      show VR g1 _ w' (look [(0, rvs s.fs rs)] i) _
      rw [look_cons]
      split
      · rename_i hi; subst hi; exact h5
      · exact .any _
    obtain ⟨g2, hR2⟩ := h3 _ g1 _ _ hgh hR1
    refine ⟨g2, hQ, rfl, ⟨rfl, rfl, fun i => .any _, hR2.gl, hR2.h, hR2.inj, hR2.old, hR2.fr, hR2.xs, fun q hp => by cases hp⟩, fun b hb => ?_, ?_⟩
    · exact (hR2.pin (b, g b) (List.mem_map.2 ⟨b, hb, rfl⟩)).1
    · exact hR2.t 0
  cases e with
  | normal => obtain ⟨g, s, hR', hq'⟩ := hq; exact fin g s hR' hq'
  | ret => obtain ⟨g, s, hR', hq'⟩ := hq; exact fin g s hR' hq'
  | exit i => obtain ⟨g, s, hR', hq'⟩ := hq; exact hq'.elim
  | goto l => exact hq.elim
  | panic ch => exact hq.elim
  | outgrown => exact hq.elim
theorem FT.gq {P : Program} {gl : Nat → AV} {f : FuncId} {fn : Func} {t : TC} {rs : List RS} (hF : FT P f fn t rs) {args : List AV} {hin : List (Nat × Bk)} {m : Nat} {p : List Nat} {ι : Type} {Q : ι → Prop} {r : ι → AV} {hout : ι → List (Nat × Bk)} (hN : args.length ≤ fn.ntmps) (hlive : ∀ q ∈ hin, q.2.live) (hpm : ∀ b ∈ p, b < m)
    (h : ∀ c : Cx, (∀ q ∈ c.gh, q.1 ∈ p) → c.gl = gl → xw P c t (genQ m p rs Q r hout) ⟨argT 0 args, hin, m⟩) : GQ P gl f args hin m p Q r hout := by
  have hc := hF.code
  cases hb : fn.body with
  | none => rw [hb] at hc; simp at hc
  | some code =>
    rw [hb] at hc
    exact gq_of_xw hF.mixed hF.func hb hF.name hc hF.res hN hlive hpm h

/-- A list of blocks under all the names below m. -/
structure HL (h : List (Nat × Bk)) (m : Nat) : Prop where
  mem : ∀ q ∈ h, q.1 < m ∧ nmB m q.2
  cov : ∀ b, b < m → ∃ q ∈ h, q.1 = b
  self : ∀ q ∈ h, lookb h m q.1 = q.2
theorem HL.live {h : List (Nat × Bk)} {m b : Nat} (H : HL h m) (hb : b < m) (n : Nat) : lookb h n b = lookb h m b ∧ ∃ q ∈ h, q.1 = b ∧ lookb h m b = q.2 := by
  have key : ∀ (l : List (Nat × Bk)), (∃ q ∈ l, q.1 = b) → lookb l n b = lookb l m b ∧ ∃ q ∈ l, q.1 = b ∧ lookb l m b = q.2 := fun l => by
    induction l with
    | nil => rintro ⟨q, hq, _⟩; cases hq
    | cons p l ih =>
      obtain ⟨i, x⟩ := p
      rintro ⟨q, hq, e⟩
      rw [lookb_cons, lookb_cons]
      by_cases hi : i = b
      · rw [if_pos hi, if_pos hi]
        exact ⟨rfl, (i, x), by simp, hi, rfl⟩
      · rw [if_neg hi, if_neg hi]
        rcases List.mem_cons.1 hq with rfl | hq
        · exact (hi e).elim
        · obtain ⟨h1, q', h2, h3, h4⟩ := ih ⟨q, hq, e⟩
          exact ⟨h1, q', by simp [h2], h3, h4⟩
  exact key h (H.cov b hb)
/-- Outside of the names that may turn. -/
def outS (σ : Nat → Nat) (p : List Nat) (m : Nat) (j : Nat) : Prop := ∀ b, b < m → σ b = j → b ∈ p
def offS (σ : Nat → Nat) (m : Nat) (j : Nat) : Prop := ∀ b, b < m → σ b ≠ j
theorem gq_back {σ : Nat → Nat} {s s3 : FS} {a : Act} {w w' : World} {g g1 g2 : Nat → GM} {h h' : List (Nat × Bk)} {m : Nat} {p : List Nat} (hR : R c g s a w) (hinj : ∀ b b', b < m → b' < m → σ b = σ b' → b = b') (hh : HL h m) (hh' : HL h' m) (fit : ∀ b, b < m → s.H (σ b) = renB σ (lookb h m b))
    (hT : ∀ i, nmP (outS σ p m) (s.T i)) (hB : ∀ j, offS σ m j → nmPB (outS σ p m) (s.H j)) (hgh : ∀ q ∈ c.gh, outS σ p m q.1)
    (hg1 : ∀ b, b < m → g (σ b) ≠ .un → g (σ b) = g1 b) (hg2 : ∀ b, b ∈ p → g2 b = g1 b) (hR2 : R (lentC c g s w σ h m) g2 (Hst h' m) ⟨#[], []⟩ w')
    (e3T : ∀ i, s3.T i = s.T i) (e3H : ∀ b, b < m → s3.H (σ b) = renB σ (lookb h' m b)) (e3O : ∀ j, offS σ m j → s3.H j = s.H j) :
    R c (backG g g2 σ m) s3 a w' ∧ ∀ {r : AV} {v : Value}, nmOk m r → VR g2 (wset (lentC c g s w σ h m) g2 (Hst h' m)) w' r v → VR (backG g g2 σ m) (wset c (backG g g2 σ m) s3) w' (ren σ r) v := by
  have hlv : ∀ b, b < m → (lookb h m b).live := fun b hb => by
    obtain ⟨_, q, hq, _, e⟩ := hh.live hb m
    rw [e]; exact live_of_nmB (hh.mem q hq).2
  have hlv' : ∀ b, b < m → (lookb h' m b).live := fun b hb => by
    obtain ⟨_, q, hq, _, e⟩ := hh'.live hb m
    rw [e]; exact live_of_nmB (hh'.mem q hq).2
  have hlvS : ∀ b, b < m → (s.H (σ b)).live := fun b hb => by rw [fit b hb, live_renB]; exact hlv b hb
  have named : ∀ b, b < m → g (σ b) ≠ .un := fun b hb e => by
    have := hR.h (σ b)
    rw [e] at this
    have hl := hlvS b hb
    generalize s.H (σ b) = x at this hl
    exact this.ne_un hl
  have low : ∀ b, (lookb h m b).live → b < m := fun b hl => by
    rcases lookb_cases h m b with q | ⟨q, hq, rfl, _⟩
    · rw [q] at hl; split at hl <;> exact hl.elim
    · exact (hh.mem q hq).1
  have low' : ∀ b, (lookb h' m b).live → b < m := fun b hl => by
    rcases lookb_cases h' m b with q | ⟨q, hq, rfl, _⟩
    · rw [q] at hl; split at hl <;> exact hl.elim
    · exact (hh'.mem q hq).1
  have gs : ∀ b, b < m → backG g g2 σ m (σ b) = g2 b := fun b hbn => by
    unfold backG
    have hex : ∃ b', b' < m ∧ σ b' = σ b := ⟨b, hbn, rfl⟩
    rw [dif_pos hex]
    rw [hinj _ _ hex.choose_spec.1 hbn hex.choose_spec.2]
  have go : ∀ j, offS σ m j → backG g g2 σ m j = g j := fun j h => by
    unfold backG
    rw [dif_neg]
    rintro ⟨b, h1, h2⟩; exact h b h1 h2
  have part : ∀ j, (∃ b, b < m ∧ σ b = j) ∨ offS σ m j := fun j => by
    by_cases e : ∃ b, b < m ∧ σ b = j
    · exact .inl e
    · exact .inr fun b h1 h2 => e ⟨b, h1, h2⟩
  have gS : ∀ j, outS σ p m j → g j ≠ .un → g j = backG g g2 σ m j := fun j hj hne => by
    rcases part j with ⟨b, hb, rfl⟩ | hoff
    · rw [gs b hb, hg2 b (hj b hb rfl)]; exact hg1 b hb hne
    · rw [go j hoff]
  have hf : Fr w w' (lentG g σ h m) := hR2.fr
  have hGW : ∀ k, lentG g σ h m k → wset c g s k := fun k ⟨b, h1, h2⟩ => .inr ⟨σ b, hlvS b (low b h1), h2⟩
  have hfW : Fr w w' (wset c g s) := hf.weak hGW
  have oth : ∀ j k, offS σ m j → (s.H j).live → g j = .re k → ¬ lentG g σ h m k := fun j k h1 h2 h3 ⟨b, q1, q2⟩ =>
    h1 b (low b q1) (hR.inj (σ b) j k (hlvS b (low b q1)) h2 q2 h3)
  have mem2 : ∀ b k, b < m → g2 b = .re k → w.heap.size ≤ k ∨ ∃ b0, b0 < m ∧ g (σ b0) = .re k := fun b k hb hk => by
    rcases hR2.old b k (hlv' b hb) hk with h | ⟨b0, q1, q2⟩
    · exact .inl h
    · exact .inr ⟨b0, low b0 q1, q2⟩
  have live3 : ∀ j, (s3.H j).live → (∃ b, b < m ∧ σ b = j) ∨ (offS σ m j ∧ (s.H j).live) := fun j hl => by
    rcases part j with h | h
    · exact .inl h
    · rw [e3O j h] at hl; exact .inr ⟨h, hl⟩
  have hW3 : ∀ k, k < w.heap.size → wset c (backG g g2 σ m) s3 k → wset c g s k := by
    rintro k hk (h | ⟨j, h1, h2⟩)
    · exact .inl h
    · rcases live3 j h1 with ⟨b, hb, rfl⟩ | ⟨hj, hl⟩
      · rw [gs b hb] at h2
        rcases mem2 b k hb h2 with h | ⟨b0, q1, q2⟩
        · omega
        · exact .inr ⟨σ b0, hlvS b0 q1, q2⟩
      · rw [go j hj] at h2; exact .inr ⟨j, hl, h2⟩
  have hW2 : ∀ k, wset c (backG g g2 σ m) s3 k → wset (lentC c g s w σ h m) g2 (Hst h' m) k := by
    rintro k (h | ⟨j, h1, h2⟩)
    · refine .inl ⟨.inl h, fun ⟨b, q1, q2⟩ => ?_⟩
      obtain ⟨x1, x2⟩ := hR.xs k h
      rcases hR.old (σ b) k (hlvS b (low b q1)) q2 with h | h
      · omega
      · exact x2 h
    · rcases live3 j h1 with ⟨b, hb, rfl⟩ | ⟨hj, hl⟩
      · rw [gs b hb] at h2; exact .inr ⟨b, hlv' b hb, h2⟩
      · rw [go j hj] at h2; exact .inl ⟨.inr ⟨j, hl, h2⟩, oth j k hj hl h2⟩
  refine ⟨⟨hR.size, hR.def_, fun i => ?_, fun i => (hR.gl i).mono hfW hW3 (fun _ _ => rfl), fun j => ?_, fun j j' k h1 h2 e1 e2 => ?_, fun j k h1 e1 => ?_, hR.fr.trans hf fun k hk ⟨b, q1, q2⟩ => ?_, hR.xs, fun q hq => ?_⟩, fun {r v} hn hv => ?_⟩
  · rw [e3T]; exact ((hR.t i).only gS (hT i)).mono hfW hW3 (fun _ _ => rfl)
  · rcases part j with ⟨b, hb, rfl⟩ | hj
    · rw [gs b hb, e3H b hb]
      have hbr := hR2.h b
      have e : (Hst h' m).H b = lookb h' m b := rfl
      rw [e] at hbr
      obtain ⟨_, q, hq, _, eq⟩ := hh'.live hb m
      rw [eq] at hbr ⊢
      exact hbr.ren (n := m) gs (hh'.mem q hq).2 hW2
    · rw [go j hj, e3O j hj]
      refine ((hR.h j).only gS (hB j hj)).mono hfW hW3 (fun _ _ => rfl) fun k hk hl => hf.keep k ?_ (oth j k hj hl hk)
      exact BR.lt (hk ▸ hR.h j) hl
  · rcases live3 j h1 with ⟨b, hb, rfl⟩ | ⟨hj, hl⟩ <;> rcases live3 j' h2 with ⟨b', hb', rfl⟩ | ⟨hj', hl'⟩
    · rw [gs b hb] at e1; rw [gs b' hb'] at e2
      rw [hR2.inj b b' k (hlv' b hb) (hlv' b' hb') e1 e2]
    · rw [gs b hb] at e1; rw [go j' hj'] at e2
      have hlt := BR.lt (e2 ▸ hR.h j') hl'
      rcases mem2 b k hb e1 with h | ⟨b0, q1, q2⟩
      · omega
      · exact (hj' b0 q1 (hR.inj (σ b0) j' k (hlvS b0 q1) hl' q2 e2)).elim
    · rw [gs b' hb'] at e2; rw [go j hj] at e1
      have hlt := BR.lt (e1 ▸ hR.h j) hl
      rcases mem2 b' k hb' e2 with h | ⟨b0, q1, q2⟩
      · omega
      · exact (hj b0 q1 (hR.inj (σ b0) j k (hlvS b0 q1) hl q2 e1)).elim
    · rw [go j hj] at e1; rw [go j' hj'] at e2
      exact hR.inj j j' k hl hl' e1 e2
  · rcases live3 j h1 with ⟨b, hb, rfl⟩ | ⟨hj, hl⟩
    · rw [gs b hb] at e1
      rcases mem2 b k hb e1 with h | ⟨b0, q1, q2⟩
      · have := hR.fr.size; exact .inl (by omega)
      · exact hR.old (σ b0) k (hlvS b0 q1) q2
    · rw [go j hj] at e1; exact hR.old j k hl e1
  · rcases hR.old (σ b) k (hlvS b (low b q1)) q2 with h | h
    · omega
    · exact h
  · obtain ⟨q1, q2⟩ := hR.pin q hq
    refine ⟨?_, q2⟩
    have := gS q.1 (hgh q hq) (by rw [q1]; exact q2)
    rw [← this, q1]
  · exact (hv.ren (ρ := σ) (g := backG g g2 σ m) gs hn).mono (Fr.refl _ _) (fun k _ => hW2 k) (fun _ _ => rfl)
end
theorem renB_id {x : Bk} : renB id x = x := by
  cases x with
  | cells cs => simp only [renB]; rw [rens_eq]; congr 1; exact (List.map_congr_left fun x _ => ren_id id (fun _ => rfl) x).trans (List.map_id cs)
  | mapb kvs dn => simp only [renB]; congr 1; exact (List.map_congr_left fun x _ => by rw [ren_id id (fun _ => rfl), ren_id id (fun _ => rfl)]; rfl).trans (List.map_id kvs)
  | mapx kvs bs ck => simp only [renB]; congr 1; exact (List.map_congr_left fun x _ => by rw [ren_id id (fun _ => rfl), ren_id id (fun _ => rfl)]; rfl).trans (List.map_id kvs)
  | iter b0 ck seen => rfl
  | bag ls => rfl
  | free => rfl
  | dead => rfl
theorem rens_id (l : List AV) : rens id l = l := by rw [rens_eq]; exact (List.map_congr_left fun x _ => ren_id id (fun _ => rfl) x).trans (List.map_id l)
def tPs (S : Nat → Prop) : List (Nat × AV) → Prop
  | [] => True
  | q :: l => nmP S q.2 ∧ tPs S l
theorem tPs_look {S : Nat → Prop} : ∀ {l : List (Nat × AV)}, tPs S l → ∀ i, nmP S (look l i)
  | [], _, i => by simp [look, nmP]
  | (j, v) :: l, h, i => by
    rw [look_cons]
    split
    · exact h.1
    · exact tPs_look h.2 i
/-- A list of blocks under other names. -/
def renH (σ : Nat → Nat) (h : List (Nat × Bk)) : List (Nat × Bk) := h.map fun q => (σ q.1, renB σ q.2)
theorem renH_id (h : List (Nat × Bk)) : renH id h = h := by
  unfold renH
  exact (List.map_congr_left fun q _ => by rw [renB_id]; rfl).trans (List.map_id h)
theorem lookb_renH {σ : Nat → Nat} {m : Nat} (hinj : ∀ b b', b < m → b' < m → σ b = σ b' → b = b') {n b : Nat} (hb : b < m) : ∀ {h : List (Nat × Bk)}, (∀ q ∈ h, q.1 < m) → (∃ q ∈ h, q.1 = b) → lookb (renH σ h) n (σ b) = renB σ (lookb h m b)
  | [], _, ⟨q, hq, _⟩ => by cases hq
  | (i, x) :: l, hm, ⟨q, hq, e⟩ => by
    show lookb ((σ i, renB σ x) :: renH σ l) n (σ b) = _
    rw [lookb_cons, lookb_cons]
    by_cases hi : i = b
    · rw [if_pos hi, if_pos (by rw [hi])]
    · rw [if_neg hi, if_neg fun e => hi (hinj _ _ (hm (i, x) (by simp)) hb e)]
      rcases List.mem_cons.1 hq with rfl | hq
      · exact (hi e).elim
      · exact lookb_renH hinj hb (fun q hq => hm q (by simp [hq])) ⟨q, hq, e⟩
theorem lookb_renO {σ : Nat → Nat} {m n j : Nat} (hj : offS σ m j) : ∀ {h : List (Nat × Bk)}, (∀ q ∈ h, q.1 < m) → lookb (renH σ h) n j = if j < n then .dead else .free
  | [], _ => rfl
  | (i, x) :: l, hm => by
    show lookb ((σ i, renB σ x) :: renH σ l) n j = _
    rw [lookb_cons, if_neg (hj i (hm (i, x) (by simp)))]
    exact lookb_renO hj fun q hq => hm q (by simp [hq])
theorem lookb_exS {n j : Nat} {h : List (Nat × Bk)} : ∀ {ex : List (Nat × Bk)}, (∀ q ∈ ex, q.1 ≠ j) → lookb (ex ++ h) n j = lookb h n j
  | [], _ => rfl
  | (i, x) :: l, hm => by
    rw [List.cons_append, lookb_cons, if_neg (hm (i, x) (by simp))]
    exact lookb_exS fun q hq => hm q (by simp [hq])
theorem lookb_exO {n j : Nat} {h h' : List (Nat × Bk)} (e : lookb h n j = lookb h' n j) : ∀ {ex : List (Nat × Bk)}, lookb (ex ++ h) n j = lookb (ex ++ h') n j
  | [] => e
  | (i, x) :: l => by
    rw [List.cons_append, List.cons_append, lookb_cons, lookb_cons, lookb_exO e]
def exOk (σ : Nat → Nat) (p : List Nat) (m : Nat) (ex : List (Nat × Bk)) : Prop := ∀ q ∈ ex, offS σ m q.1 ∧ nmPB (outS σ p m) q.2
/-- The function that is called, and its arguments: those that are given, and those that a value holds. -/
def cArgs (v : Bool) (f : FuncId) (l : List AV) : Option (FuncId × List AV) := bif v then vArgs l else some (f, l)
/-- What a call needs of its caller: names, blocks, arguments. -/
structure GqOk (gl : Nat → AV) (s : St) (xs : List TV) (v : Bool) (f : FuncId) (args : List AV) (σ : Nat → Nat) (p pc : List Nat) (m : Nat) (t : List (Nat × AV)) (ex hin : List (Nat × Bk)) (n : Nat) : Prop where
  to : To pc s ⟨t, ex ++ renH σ hin, n⟩
  inj : ∀ b b', b < m → b' < m → σ b = σ b' → b = b'
  hl : HL hin m
  pc : ∀ b ∈ pc, outS σ p m b
  hex : exOk σ p m ex
  ht : tPs (outS σ p m) t
  cok : cokAll none (evs gl (⟨t, ex ++ renH σ hin, n⟩ : St).fs xs)
  hargs : cArgs v f ((evs gl (⟨t, ex ++ renH σ hin, n⟩ : St).fs xs).map strip) = some (f, rens σ args)
  nm : nmAll m args
section
variable {P : Program} {c : Cx}
theorem gq_core {v : Bool} {s : St} {f : FuncId} {xs : List TV} {args : List AV} {hin : List (Nat × Bk)} {σ : Nat → Nat} {m n : Nat} {p pc : List Nat} {ι : Type} {Q : ι → Prop} {r : ι → AV} {hout : ι → List (Nat × Bk)} {t : List (Nat × AV)} {ex : List (Nat × Bk)} (hq : GQ P c.gl f args hin m p Q r hout)
    (hgh : ∀ q ∈ c.gh, q.1 ∈ pc) (ok : GqOk c.gl s xs v f args σ p pc m t ex hin n) (hHL' : ∀ x, Q x → HL (hout x) m) (hr : ∀ x, Q x → nmOk m (r x)) {g0 : Nat → GM} {a : Act} {w : World} (hR0 : R c g0 s.fs a w) :
    ∃ g, R c g (⟨t, ex ++ renH σ hin, n⟩ : St).fs a w ∧ ∀ vs, VRs g (wset c g (⟨t, ex ++ renH σ hin, n⟩ : St).fs) w (rens σ args) vs → Calls P f vs.toArray w fun e w' => ∃ x v g3, Q x ∧ e = .returned v ∧ R c g3 (⟨t, ex ++ renH σ (hout x), n⟩ : St).fs a w' ∧ VR g3 (wset c g3 (⟨t, ex ++ renH σ (hout x), n⟩ : St).fs) w' (ren σ (r x)) v := by
  obtain ⟨g, hR⟩ := ok.to c g0 a w hgh hR0
  refine ⟨g, hR, fun vs hv => ?_⟩
  have offE : ∀ b, b < m → ∀ q ∈ ex, q.1 ≠ σ b := fun b hb q hq e => (ok.hex q hq).1 b hb e.symm
  have fit : ∀ b, b < m → (⟨t, ex ++ renH σ hin, n⟩ : St).fs.H (σ b) = renB σ (lookb hin m b) := fun b hb => by
    show lookb (ex ++ renH σ hin) n (σ b) = _
    rw [lookb_exS (offE b hb)]; exact lookb_renH ok.inj hb (fun q hq => (ok.hl.mem q hq).1) (ok.hl.cov b hb)
  have fitI : Fit σ (⟨t, ex ++ renH σ hin, n⟩ : St).fs hin m := by
    refine ⟨fun q hq => ⟨(ok.hl.mem q hq).1, (ok.hl.mem q hq).2, ?_⟩, fun q hq q' hq' e => ok.inj _ _ (ok.hl.mem q hq).1 (ok.hl.mem q' hq').1 e⟩
    rw [fit q.1 (ok.hl.mem q hq).1, ok.hl.self q hq]
  obtain ⟨g1, hg1, hRl, hWl⟩ := lend hR fitI
  have hv1 := VRs_unren (σ := σ) (g1 := g1) hg1 hWl ok.nm hv
  refine (hq.2 w _ _ _ g1 hRl hv1).mono fun e w' ⟨x, v, g2, hQ, e1, e2, e3, e4⟩ => ?_
  have hXB : ∀ j, offS σ m j → nmPB (outS σ p m) ((⟨t, ex ++ renH σ hin, n⟩ : St).fs.H j) := fun j hj => by
    show nmPB _ (lookb (ex ++ renH σ hin) n j)
    rcases lookb_cases (ex ++ renH σ hin) n j with q | ⟨q, hq, rfl, q2⟩
    · rw [q]; split <;> trivial
    · rw [q2]
      rcases List.mem_append.1 hq with h | h
      · exact (ok.hex q h).2
      · obtain ⟨q', hq', rfl⟩ := List.mem_map.1 h
        exact (hj q'.1 (ok.hl.mem q' hq').1 rfl).elim
  obtain ⟨hR3, hval⟩ := gq_back (s3 := (⟨t, ex ++ renH σ (hout x), n⟩ : St).fs) hR ok.inj ok.hl (hHL' x hQ) fit (tPs_look ok.ht) hXB (fun q hq => ok.pc _ (hgh q hq)) hg1 e3 e2 (fun i => rfl)
    (fun b hb => by
      show lookb (ex ++ renH σ (hout x)) n (σ b) = _
      rw [lookb_exS (offE b hb)]; exact lookb_renH ok.inj hb (fun q hq => ((hHL' x hQ).mem q hq).1) ((hHL' x hQ).cov b hb))
    (fun j hj => lookb_exO (by rw [lookb_renO hj fun q hq => ((hHL' x hQ).mem q hq).1, lookb_renO hj fun q hq => (ok.hl.mem q hq).1]))
  exact ⟨x, v, _, hQ, e1, hR3, hval (hr x hQ) e4⟩
/-- A call of such a function. -/
theorem pr_gq {r0 : List TOp} {K : St → Prop} {s : St} {d : Option Nat} {f : FuncId} {xs : List TV} {args : List AV} {hin : List (Nat × Bk)} {σ : Nat → Nat} {m n : Nat} {p pc : List Nat} {ι : Type} {Q : ι → Prop} {r : ι → AV} {hout : ι → List (Nat × Bk)} (hq : GQ P c.gl f args hin m p Q r hout)
    (hgh : ∀ q ∈ c.gh, q.1 ∈ pc) (t : List (Nat × AV)) (ex : List (Nat × Bk)) (ok : GqOk c.gl s xs false f args σ p pc m t ex hin n) (hHL' : ∀ x, Q x → HL (hout x) m) (hr : ∀ x, Q x → nmOk m (r x))
    (hk : ∀ x, Q x → XP P c r0 K (St.putO ⟨t, ex ++ renH σ (hout x), n⟩ d (ren σ (r x)))) : PendR P c (.pd d (.call f) xs none) r0 K s := by
  refine .inr fun ops io he g0 a w hR0 K' Q' hK => ?_
  obtain ⟨g, hR, hcall⟩ := gq_core hq hgh ok hHL' hr hR0
  obtain ⟨hgd, hdst, hd, ys, hel, rfl⟩ := elab_pd he
  obtain ⟨ts, hop⟩ := elab_call hel
  have hv := VRs_strip (hR.evs ys) ok.cok
  have hargs := ok.hargs
  simp only [cArgs, cond_false, Option.some.injEq, Prod.mk.injEq, true_and] at hargs
  rw [hargs] at hv
  refine exec_of_none (gd_none hgd) ?_
  unfold Oper.wp
  rw [run_call hq.1 hop]
  rw [Oper.upon_enter]
  refine (hcall _ hv).mono fun e w' ⟨x, v, g3, hQ, e1, hR3, hv3⟩ => ?_
  subst e1
  show K' (a.put io.dst v) w'
  rw [hdst]
  cases d with
  | none => exact hK g3 _ _ _ (hk x hQ) (hR3.putNone v)
  | some d =>
    refine hK g3 ((⟨t, ex ++ renH σ (hout x), n⟩ : St).put d (ren σ (r x))) _ _ (hk x hQ) ?_
    rw [St.fs_put]
    exact hR3.put (by simpa using hd) hv3
/-- A call of a value that is such a function. -/
theorem pr_gqv {r0 : List TOp} {K : St → Prop} {s : St} {d : Option Nat} {f : FuncId} {xs : List TV} {args : List AV} {hin : List (Nat × Bk)} {σ : Nat → Nat} {m n : Nat} {p pc : List Nat} {ι : Type} {Q : ι → Prop} {r : ι → AV} {hout : ι → List (Nat × Bk)} (hq : GQ P c.gl f args hin m p Q r hout)
    (hgh : ∀ q ∈ c.gh, q.1 ∈ pc) (t : List (Nat × AV)) (ex : List (Nat × Bk)) (ok : GqOk c.gl s xs true f args σ p pc m t ex hin n) (hHL' : ∀ x, Q x → HL (hout x) m) (hr : ∀ x, Q x → nmOk m (r x))
    (hk : ∀ x, Q x → XP P c r0 K (St.putO ⟨t, ex ++ renH σ (hout x), n⟩ d (ren σ (r x)))) : PendR P c (.pd d .callv xs none) r0 K s := by
  refine .inr fun ops io he g0 a w hR0 K' Q' hK => ?_
  obtain ⟨g, hR, hcall⟩ := gq_core hq hgh ok hHL' hr hR0
  obtain ⟨hgd, hdst, hd, ys, hel, rfl⟩ := elab_pd he
  obtain ⟨x, ys, ts, rfl, hop⟩ := elab_callv hel
  have hv := VRs_strip (hR.evs (x :: ys)) ok.cok
  have hargs := ok.hargs
  simp only [cArgs, cond_true] at hargs
  generalize (evs c.gl (⟨t, ex ++ renH σ hin, n⟩ : St).fs ((x :: ys).map tvO)).map strip = zs at hargs hv
  cases zs with
  | nil => simp [vArgs] at hargs
  | cons z zs =>
    unfold vArgs at hargs
    split at hargs
    · rename_i f' caps' r' heq
      simp only [Option.some.injEq, Prod.mk.injEq] at hargs
      obtain ⟨rfl, hargs⟩ := hargs
      simp only [List.cons.injEq] at heq
      obtain ⟨rfl, rfl⟩ := heq
      rw [List.map_cons] at hv
      obtain ⟨h1, h2⟩ := hv
      generalize hx : a.eval x = vx at h1
      cases h1 with
      | cl hs h =>
        refine exec_of_none (gd_none hgd) ?_
        unfold Oper.wp
        rw [run_callv hq.1 hop a w _ hx]
        rw [Oper.upon_enter]
        have hv2 := VRs_append h2 (VRs_of (xs := caps') (us := Array.toList _) (by simpa using hs) fun j hj => by
          have := h j hj
          simpa [Array.getD_eq_getD_getElem?, List.getD] using this)
        rw [hargs] at hv2
        refine (hcall _ hv2).mono fun e w' ⟨x, v, g3, hQ, e1, hR3, hv3⟩ => ?_
        subst e1
        show K' (a.put io.dst v) w'
        rw [hdst]
        cases d with
        | none => exact hK g3 _ _ _ (hk x hQ) (hR3.putNone v)
        | some d =>
          refine hK g3 ((⟨t, ex ++ renH σ (hout x), n⟩ : St).put d (ren σ (r x))) _ _ (hk x hQ) ?_
          rw [St.fs_put]
          exact hR3.put (by simpa using hd) hv3
    · cases hargs
end
end Go.Proofs.Ytphaicaobepimaa
