/- Loops; what a call may be told to yield; how a body proves it. No conditions but the ones that stand in each. -/
import Derived.Test.YtblimjilinkmbaaAl
namespace Go.Proofs.Ytblimjilinkmbaa
set_option linter.all false
set_option linter.unusedSimpArgs false
open Go.RowKit

/-- Names by a list of pairs, the others as they are. -/
def rl : List (Nat × Nat) → Nat → Nat
  | [], b => b
  | (i, j) :: r, b => bif i == b then j else rl r b
def renB (ρ : Nat → Nat) : Bk → Bk
  | .cells cs => .cells (rens ρ cs)
  | .mapb kvs => .mapb (kvs.map fun p => (ren ρ p.1, ren ρ p.2))
  | x => x
def nmB (n : Nat) : Bk → Prop
  | .cells cs => nmAll n cs
  | .mapb kvs => ∀ p ∈ kvs, nmOk n p.1 ∧ nmOk n p.2
  | _ => False
def subT (ρ : Nat → Nat) (n : Nat) (st : List (Nat × AV)) : List (Nat × AV) → Prop
  | [] => True
  | (i, v) :: r => (nmOk n v ∧ look st i = ren ρ v) ∧ subT ρ n st r
def rhoNot (ρ : Nat → Nat) (b : Nat) : List (Nat × Bk) → Prop
  | [] => True
  | (b', _) :: r => ρ b' ≠ ρ b ∧ rhoNot ρ b r
def subH (ρ : Nat → Nat) (n : Nat) (s : St) : List (Nat × Bk) → Prop
  | [] => True
  | (b, x) :: r => (b < n ∧ nmB n x ∧ lookb s.h s.n (ρ b) = renB ρ x ∧ rhoNot ρ b r) ∧ subH ρ n s r
/-- s' knows no more than s does, its names put in others' places. -/
def Sub (ρ : Nat → Nat) (s s' : St) : Prop := subT ρ s'.n s.t s'.t ∧ subH ρ s'.n s s'.h

theorem look_cases : ∀ (l : List (Nat × AV)) (i : Nat), look l i = .any ∨ ∃ p ∈ l, p.1 = i ∧ look l i = p.2
  | [], _ => .inl rfl
  | (j, v) :: l, i => by
    rw [look_cons]
    by_cases h : j = i
    · rw [if_pos h]; exact .inr ⟨(j, v), by simp, h, rfl⟩
    · rw [if_neg h]
      rcases look_cases l i with h' | ⟨p, h1, h2, h3⟩
      · exact .inl h'
      · exact .inr ⟨p, by simp [h1], h2, h3⟩
theorem lookb_cases : ∀ (l : List (Nat × Bk)) (n i : Nat), (lookb l n i = if i < n then .dead else .free) ∨ ∃ p ∈ l, p.1 = i ∧ lookb l n i = p.2
  | [], n, i => by
    exact .inl rfl
  | (j, v) :: l, n, i => by
    rw [lookb_cons]
    by_cases h : j = i
    · rw [if_pos h]; exact .inr ⟨(j, v), by simp, h, rfl⟩
    · rw [if_neg h]
      rcases lookb_cases l n i with h' | ⟨p, h1, h2, h3⟩
      · exact .inl h'
      · exact .inr ⟨p, by simp [h1], h2, h3⟩
theorem subT_mem {ρ : Nat → Nat} {n : Nat} {st : List (Nat × AV)} : ∀ {l : List (Nat × AV)}, subT ρ n st l → ∀ p ∈ l, nmOk n p.2 ∧ look st p.1 = ren ρ p.2
  | [], _, p, hp => by cases hp
  | (i, v) :: r, h, p, hp => by
    rcases List.mem_cons.1 hp with rfl | hp
    · exact h.1
    · exact subT_mem h.2 p hp
theorem rhoNot_mem {ρ : Nat → Nat} {b : Nat} : ∀ {l : List (Nat × Bk)}, rhoNot ρ b l → ∀ p ∈ l, ρ p.1 ≠ ρ b
  | [], _, p, hp => by cases hp
  | (i, v) :: r, h, p, hp => by
    rcases List.mem_cons.1 hp with rfl | hp
    · exact h.1
    · exact rhoNot_mem h.2 p hp
theorem subH_mem {ρ : Nat → Nat} {n : Nat} {s : St} : ∀ {l : List (Nat × Bk)}, subH ρ n s l → ∀ p ∈ l, p.1 < n ∧ nmB n p.2 ∧ lookb s.h s.n (ρ p.1) = renB ρ p.2
  | [], _, p, hp => by cases hp
  | (i, v) :: r, h, p, hp => by
    rcases List.mem_cons.1 hp with rfl | hp
    · exact ⟨h.1.1, h.1.2.1, h.1.2.2.1⟩
    · exact subH_mem h.2 p hp
theorem subH_inj {ρ : Nat → Nat} {n : Nat} {s : St} : ∀ {l : List (Nat × Bk)}, subH ρ n s l → ∀ p ∈ l, ∀ q ∈ l, ρ p.1 = ρ q.1 → p.1 = q.1
  | [], _, p, hp => by cases hp
  | (i, v) :: r, h, p, hp => by
    intro q hq e
    rcases List.mem_cons.1 hp with rfl | hp <;> rcases List.mem_cons.1 hq with rfl | hq
    · rfl
    · exact absurd e.symm (rhoNot_mem h.1.2.2.2 q hq)
    · exact absurd e (rhoNot_mem h.1.2.2.2 p hp)
    · exact subH_inj h.2 p hp q hq e

theorem live_of_nmB {n : Nat} {x : Bk} (h : nmB n x) : x.live := by cases x <;> simp_all [nmB, Bk.live]
theorem live_renB {ρ : Nat → Nat} {x : Bk} : (renB ρ x).live ↔ x.live := by cases x <;> simp [renB, Bk.live]

section
variable {P : Program} {c : Cx}

open Classical in
theorem Sub.to {ρ : Nat → Nat} {s s' : St} (hs : Sub ρ s s') {g : Nat → GM} {a : Act} {w : World} (hR : R c g s.fs a w) (hpin : ∀ p ∈ c.gh, ρ p.1 = p.1 ∧ p.1 < s'.n) : ∃ g', R c g' s'.fs a w := by
  obtain ⟨hT, hH⟩ := hs
  let g' : Nat → GM := fun b => if b < s'.n then (if g (ρ b) = .un then .ph else g (ρ b)) else .un
  have hg' : ∀ b, b < s'.n → g (ρ b) ≠ .un → g (ρ b) = g' b := fun b hb h => by simp only [g', if_pos hb, if_neg h]
  have hge : ∀ b, s'.n ≤ b → g' b = .un := fun b hb => by simp only [g']; rw [if_neg (by omega)]
  have hne : ∀ b, b < s'.n → g' b ≠ .un := fun b hb => by
    simp only [g', if_pos hb]
    split
    · intro h; cases h
    · assumption
  -- what a live name of s' is
  have hlive : ∀ b, (s'.fs.H b).live → ∃ p ∈ s'.h, p.1 = b ∧ s'.fs.H b = p.2 := fun b hl => by
    rcases lookb_cases s'.h s'.n b with h | h
    · have : s'.fs.H b = if b < s'.n then .dead else .free := h
      rw [this] at hl; split at hl <;> exact hl.elim
    · exact h
  have hliveS : ∀ b, (s'.fs.H b).live → b < s'.n ∧ (s.fs.H (ρ b)).live ∧ g' b = g (ρ b) := fun b hl => by
    obtain ⟨p, hp, rfl, e⟩ := hlive b hl
    obtain ⟨h1, h2, h3⟩ := subH_mem hH p hp
    have hlv : (s.fs.H (ρ p.1)).live := by
      show (lookb s.h s.n (ρ p.1)).live
      rw [h3, live_renB]; exact live_of_nmB h2
    refine ⟨h1, hlv, (hg' _ h1 fun e => ?_).symm⟩
    have := hR.h (ρ p.1)
    rw [e] at this
    generalize s.fs.H (ρ p.1) = x at this hlv
    cases this <;> first | exact hlv | (rename_i h; exact h rfl)
  have hW : ∀ k, wset c g' s'.fs k → wset c g s.fs k := by
    rintro k (h | ⟨b, h1, h2⟩)
    · exact .inl h
    · obtain ⟨_, h4, h5⟩ := hliveS b h1
      exact .inr ⟨ρ b, h4, by rw [← h5]; exact h2⟩
  have hf := Fr.refl w (wset c g s.fs)
  have vmono : ∀ {v u}, VR g' (wset c g s.fs) w v u → VR g' (wset c g' s'.fs) w v u := fun h => h.mono hf (fun k _ => hW k) (fun _ _ => rfl)
  have back : ∀ {v u}, nmOk s'.n v → VR g (wset c g s.fs) w (ren ρ v) u → VR g' (wset c g' s'.fs) w v u := fun hn h => vmono (h.unren hg' _ rfl hn)
  refine ⟨g', hR.size, hR.def_, fun i => ?_, fun i => (hR.gl i).mono hf (fun k _ => hW k) (fun _ _ => rfl), fun b => ?_, fun b b' k h1 h2 e1 e2 => ?_, fun b k h1 e1 => ?_, hR.fr, hR.xs, fun p hp => ?_⟩
  · rcases look_cases s'.t i with h | ⟨p, h1, rfl, h3⟩
    · show VR g' _ w (look s'.t i) _
      rw [h]; exact .any _
    · show VR g' _ w (look s'.t p.1) _
      rw [h3]
      obtain ⟨q1, q2⟩ := subT_mem hT p h1
      have := hR.t p.1
      have e : s.fs.T p.1 = ren ρ p.2 := q2
      rw [e] at this
      exact back q1 this
  · rcases lookb_cases s'.h s'.n b with h | ⟨p, h1, rfl, h3⟩
    · show BR g' _ w _ (lookb s'.h s'.n b)
      rw [h]
      split
      · rename_i hb; exact .dead (hne b hb)
      · rename_i hb; rw [hge b (by omega)]; exact .free
    · show BR g' _ w _ (lookb s'.h s'.n p.1)
      rw [h3]
      obtain ⟨q1, q2, q3⟩ := subH_mem hH p h1
      have hl : (s'.fs.H p.1).live := by
        show (lookb s'.h s'.n p.1).live
        rw [h3]; exact live_of_nmB q2
      obtain ⟨_, _, e5⟩ := hliveS p.1 hl
      rw [e5]
      have hbr := hR.h (ρ p.1)
      have e : s.fs.H (ρ p.1) = renB ρ p.2 := q3
      rw [e] at hbr
      generalize g (ρ p.1) = m at hbr
      cases hx : p.2 with
      | free => rw [hx] at q2; exact q2.elim
      | dead => rw [hx] at q2; exact q2.elim
      | cells cs =>
        rw [hx] at hbr q2
        simp only [renB] at hbr
        simp only [nmB] at q2
        generalize hcs : rens ρ cs = cs' at hbr
        cases hbr with
        | ph =>
          have : cs = [] := by cases cs <;> simp_all [rens]
          subst this; exact .ph
        | cells hb hl h1 hv hz =>
          subst hcs
          rw [rens_len] at hl h1 hv
          exact .cells hb hl h1 (fun j hj => back (nmAll_get q2 j) (by have := hv j hj; rwa [rens_get] at this)) hz
      | mapb kvs =>
        rw [hx] at hbr q2
        simp only [renB] at hbr
        simp only [nmB] at q2
        generalize hcs : (kvs.map fun p => (ren ρ p.1, ren ρ p.2)) = kvs' at hbr
        cases hbr with
        | mapb hb hs hkk hv hc ha =>
          subst hcs
          rw [List.length_map] at hs hkk hv
          have hget : ∀ j, j < kvs.length → (kvs.map fun p => (ren ρ p.1, ren ρ p.2)).getD j (.any, .any) = (ren ρ (kvs.getD j (.any, .any)).1, ren ρ (kvs.getD j (.any, .any)).2) := fun j hj => by simp [List.getD, hj]
          have hmem : ∀ j, j < kvs.length → kvs.getD j (.any, .any) ∈ kvs := fun j hj => by simp [List.getD, hj]
          exact .mapb hb hs (fun j hj => back (q2 _ (hmem j hj)).1 (by have := hkk j hj; rwa [hget j hj] at this)) (fun j hj => back (q2 _ (hmem j hj)).2 (by have := hv j hj; rwa [hget j hj] at this)) hc ha
  · obtain ⟨p1, hp1, rfl, _⟩ := hlive b h1
    obtain ⟨p2, hp2, rfl, _⟩ := hlive b' h2
    obtain ⟨_, l1, d1⟩ := hliveS _ h1
    obtain ⟨_, l2, d2⟩ := hliveS _ h2
    exact subH_inj hH p1 hp1 p2 hp2 (hR.inj _ _ k l1 l2 (by rw [← d1]; exact e1) (by rw [← d2]; exact e2))
  · obtain ⟨_, l1, d1⟩ := hliveS _ h1
    exact hR.old _ k l1 (by rw [← d1]; exact e1)
  · obtain ⟨q1, q2⟩ := hR.pin p hp
    obtain ⟨q3, q4⟩ := hpin p hp
    have := hg' p.1 q4 (by rw [q3, q1]; exact q2)
    rw [← this, q3]; exact ⟨q1, q2⟩

/-- What is asked at the end of a round. -/
def loopK {σ : Type} (I : σ → Prop) (emb : σ → St) (μ : σ → Nat) (x : σ) (Q : EX → St → Prop) : EX → St → Prop
  | .normal, s => ∃ y, I y ∧ (∃ ρ, Sub (rl ρ) s (emb y)) ∧ μ y < μ x
  | e, s => Q e s
/-- A loop: the states at its head are those of a family, each round leads on to one with a smaller measure. -/
theorem loop_rule {σ : Type} (I : σ → Prop) (emb : σ → St) (μ : σ → Nat) {b : TC} {Q : EX → St → Prop} {s : St} (hm : P.follows .mixedOrders = true) (hgh : c.gh = []) (h0 : ∃ y, I y ∧ ∃ ρ, Sub (rl ρ) s (emb y))
    (hr : ∀ x, I x → xw P c b (loopK I emb μ x Q) (emb x)) : LoopVC P c b Q s := by
  intro code he g a w hR
  obtain ⟨y0, hy0, ρ0, hs0⟩ := h0
  obtain ⟨g0, hR0⟩ := hs0.to hR (by rw [hgh]; intro p hp; cases hp)
  have key : ∀ n (x : σ), μ x = n → I x → ∀ g a w, R c g (emb x).fs a w → ∀ (fr : Frame) (k : List Item) (cs : List Frame), ∃ e a' w', lift c Q e a' w' ∧ Arrives P (lone (fr.at a (.code code :: .inLoop code :: k)) cs w) fr k cs e a' w' := by
    intro n
    induction n using Nat.strongRecOn with
    | _ n ih =>
      intro x hx hI g a w hR fr k cs
      have hb := xw_sound hm code b _ _ he (hr x hI) g a w hR
      obtain ⟨e, a1, w1, hq, harr⟩ := hb fr (.inLoop code :: k) cs
      cases e with
      | normal =>
        obtain ⟨g1, s1, hR1, y, hIy, ⟨ρ, hs⟩, hlt⟩ := hq
        obtain ⟨g2, hR2⟩ := hs.to hR1 (by rw [hgh]; intro p hp; cases hp)
        obtain ⟨e2, a2, w2, hq2, harr2⟩ := ih (μ y) (by omega) y rfl hIy g2 a1 w1 hR2 fr k cs
        exact ⟨e2, a2, w2, hq2, .of_steps (Steps.trans harr (.one step_inLoop)) harr2⟩
      | exit i => exact ⟨.exit i, a1, w1, hq, .pass (x := .inLoop code) rfl (fun _ _ => .inl (by simp)) harr⟩
      | ret => exact ⟨.ret, a1, w1, hq, .pass (x := .inLoop code) rfl (fun _ _ => .inl (by simp)) harr⟩
      | goto l => exact hq.elim
      | panic ch => exact hq.elim
      | outgrown => exact hq.elim
  intro fr k cs
  obtain ⟨e, a', w', hq, harr⟩ := key _ y0 rfl hy0 g0 a w hR0 fr k cs
  exact ⟨e, a', w', hq, .of_steps (.one step_loop) harr⟩

/-- The names that came in stay. -/
def pinL (m : Nat) (ρ : List (Nat × Nat)) (n : Nat) : Prop := (∀ p ∈ ρ, m ≤ p.1) ∧ m ≤ n
theorem rl_low {m : Nat} : ∀ {ρ : List (Nat × Nat)} (_ : ∀ p ∈ ρ, m ≤ p.1) {b : Nat}, b < m → rl ρ b = b
  | [], _, _, _ => rfl
  | (i, j) :: ρ, h, b, hb => by
    have h1 : m ≤ i := h (i, j) (by simp)
    have h2 := rl_low (ρ := ρ) (fun p hp => h p (by simp [hp])) hb
    have : (i == b) = false := by simp; omega
    simp only [rl, this, cond_false, h2]
theorem pinL_ok {m : Nat} {ρ : List (Nat × Nat)} {n : Nat} (hgh : ∀ p ∈ c.gh, p.1 < m) (h : pinL m ρ n) : ∀ p ∈ c.gh, rl ρ p.1 = p.1 ∧ p.1 < n := fun p hp => ⟨rl_low h.1 (hgh p hp), Nat.lt_of_lt_of_le (hgh p hp) h.2⟩
def loopKG {σ : Type} (m : Nat) (I : σ → Prop) (emb : σ → St) (μ : σ → Nat) (x : σ) (Q : EX → St → Prop) : EX → St → Prop
  | .normal, s => ∃ y, I y ∧ (∃ ρ, pinL m ρ (emb y).n ∧ Sub (rl ρ) s (emb y)) ∧ μ y < μ x
  | e, s => Q e s
theorem loop_ruleG {σ : Type} (I : σ → Prop) (emb : σ → St) (μ : σ → Nat) {b : TC} {Q : EX → St → Prop} {s : St} (hm : P.follows .mixedOrders = true) (m : Nat) (hgh : ∀ p ∈ c.gh, p.1 < m) (h0 : ∃ y, I y ∧ ∃ ρ, pinL m ρ (emb y).n ∧ Sub (rl ρ) s (emb y))
    (hr : ∀ x, I x → xw P c b (loopKG m I emb μ x Q) (emb x)) : LoopVC P c b Q s := by
  intro code he g a w hR
  obtain ⟨y0, hy0, ρ0, hp0, hs0⟩ := h0
  obtain ⟨g0, hR0⟩ := hs0.to hR (pinL_ok hgh hp0)
  have key : ∀ n (x : σ), μ x = n → I x → ∀ g a w, R c g (emb x).fs a w → ∀ (fr : Frame) (k : List Item) (cs : List Frame), ∃ e a' w', lift c Q e a' w' ∧ Arrives P (lone (fr.at a (.code code :: .inLoop code :: k)) cs w) fr k cs e a' w' := by
    intro n
    induction n using Nat.strongRecOn with
    | _ n ih =>
      intro x hx hI g a w hR fr k cs
      have hb := xw_sound hm code b _ _ he (hr x hI) g a w hR
      obtain ⟨e, a1, w1, hq, harr⟩ := hb fr (.inLoop code :: k) cs
      cases e with
      | normal =>
        obtain ⟨g1, s1, hR1, y, hIy, ⟨ρ, hp, hs⟩, hlt⟩ := hq
        obtain ⟨g2, hR2⟩ := hs.to hR1 (pinL_ok hgh hp)
        obtain ⟨e2, a2, w2, hq2, harr2⟩ := ih (μ y) (by omega) y rfl hIy g2 a1 w1 hR2 fr k cs
        exact ⟨e2, a2, w2, hq2, .of_steps (Steps.trans harr (.one step_inLoop)) harr2⟩
      | exit i => exact ⟨.exit i, a1, w1, hq, .pass (x := .inLoop code) rfl (fun _ _ => .inl (by simp)) harr⟩
      | ret => exact ⟨.ret, a1, w1, hq, .pass (x := .inLoop code) rfl (fun _ _ => .inl (by simp)) harr⟩
      | goto l => exact hq.elim
      | panic ch => exact hq.elim
      | outgrown => exact hq.elim
  intro fr k cs
  obtain ⟨e, a', w', hq, harr⟩ := key _ y0 rfl hy0 g0 a w hR0 fr k cs
  exact ⟨e, a', w', hq, .of_steps (.one step_loop) harr⟩

/-! ### Calls that leave all as it was -/
/-- A function that may be called. -/
def Callable (P : Program) (f : FuncId) : Prop := ∃ fn, P.funcs[f]? = some fn ∧ fn.body.isNone = false ∧ (fn.name == "runtime.NumGoroutine") = false
/-- Of these arguments the call yields r; nothing that was there turns. -/
def PS (P : Program) (gl : Nat → AV) (f : FuncId) (args : List AV) (r : AV) : Prop :=
  Callable P f ∧ ∀ (w : World) (vs : List Value) (X : Nat → Prop), (∀ k, X k → k < w.heap.size) → (∀ i, VR (fun _ => .un) X w (gl i) (.pointer (some ⟨i, 0, none⟩))) → VRs (fun _ => .un) X w args vs →
    Calls P f vs.toArray w fun e w' => ∃ v, e = .returned v ∧ VR (fun _ => .un) X w' r v ∧ Fr w w' (fun _ => False)

inductive RS where
  | t (i : Nat)
  | cell (a : Nat) (ty : TY)
def elabR (P : Program) : List ResultVar → Option (List RS)
  | [] => some []
  | .tmp t :: r => (elabR P r).map (.t t :: ·)
  | .cell a t :: r => match tyOf P t, elabR P r with
    | some ty, some l => some (.cell a ty :: l)
    | _, _ => none
def rv (s : FS) : RS → AV
  | .t i => s.T i
  | .cell a ty => match s.T a with
    | .ptr b off => match s.H b with
      | .cells cs => wr ty cs off
      | _ => .any
    | _ => .any
def rvOk (s : FS) : List RS → Prop
  | [] => True
  | .t _ :: r => rvOk s r
  | .cell a ty :: r => (match s.T a with
    | .ptr b off => match s.H b with
      | .cells cs => wrOk ty cs off
      | _ => False
    | _ => False) ∧ rvOk s r
def rvs (s : FS) : List RS → AV
  | [x] => rv s x
  | l => .tup (l.map (rv s))
/-- Rows that the call made are handed on as rows that nobody writes. -/
def frzS (s : FS) : AV → AV
  | .sl es b off n _ => match s.H b with
    | .cells cs => .isl n ((cs.drop off).take (n * es))
    | _ => .any
  | v => v
def frzA (s : FS) : AV → AV
  | .agg cs => .agg (cs.map (frzS s))
  | v => frzS s v
def frz (s : FS) : AV → AV
  | .tup vs => .tup (vs.map (frzA s))
  | v => frzA s v
def pureK (rs : List RS) (r : AV) : EX → St → Prop
  | .exit _, _ => False
  | _, s => rvOk s.fs rs ∧ frz s.fs (rvs s.fs rs) = r
def argT : Nat → List AV → List (Nat × AV)
  | _, [] => []
  | k, x :: xs => (k, x) :: argT (k + 1) xs

theorem look_argT : ∀ (xs : List AV) (k i : Nat), look (argT k xs) i = if k ≤ i ∧ i < k + xs.length then xs.getD (i - k) .any else .any
  | [], k, i => by
    rw [if_neg (fun h => by have := h.2; simp at this; omega)]; rfl
  | x :: xs, k, i => by
    simp only [argT]
    rw [look_cons, look_argT xs (k + 1) i]
    by_cases h : k = i
    · subst h; rw [if_pos rfl, if_pos (by simp)]; simp
    · rw [if_neg h]
      simp only [List.length_cons]
      by_cases h2 : k + 1 ≤ i ∧ i < k + 1 + xs.length
      · rw [if_pos h2, if_pos (by omega)]
        have : i - k = (i - (k + 1)) + 1 := by omega
        rw [this]; simp
      · rw [if_neg h2, if_neg (by omega)]

theorem run_rv {g : Nat → GM} {s : FS} {a : Act} {w : World} (hR : R c g s a w) : ∀ (rs : List ResultVar) (l : List RS), elabR P rs = some l → rvOk s l →
    ∃ vs : List Value, (rs.mapM (fun x => (match x with | .tmp t => pure (a.tmps.getD t undef) | .cell ad t => do loadVar t (← asAddr (a.tmps.getD ad undef)) : Sem Value))).run P w = .ok vs w ∧ VRs g (wset c g s) w (l.map (rv s)) vs
  | [], l, he, _ => by simp [elabR] at he; subst he; exact ⟨[], by simp, trivial⟩
  | .tmp t :: r, l, he, ho => by
    simp only [elabR, Option.map_eq_some_iff] at he
    obtain ⟨l', h1, rfl⟩ := he
    obtain ⟨vs, h2, h3⟩ := run_rv hR r l' h1 ho
    exact ⟨a.tmps.getD t undef :: vs, by simp only [List.mapM_cons, Sem.run_bind, Sem.run_pure, Result.andThen_ok, h2], hR.t t, h3⟩
  | .cell ad t :: r, l, he, ho => by
    simp only [elabR] at he
    split at he
    · rename_i ty l' hty hl
      simp at he; subst he
      obtain ⟨ho1, ho2⟩ := ho
      obtain ⟨vs, h2, h3⟩ := run_rv hR r l' hl ho2
      have ht := hR.t ad
      cases hT : s.T ad <;> rw [hT] at ho1 <;> simp only at ho1
      rename_i b off
      rw [hT] at ht
      obtain ⟨k, e1, e2⟩ := ptr_inv ht
      cases hH : s.H b <;> rw [hH] at ho1 <;> simp only at ho1
      rename_i cs
      have hbr := hR.h b
      rw [hH] at hbr
      have hload : ∃ v, (loadVar t ⟨k, off, none⟩).run P w = .ok v w ∧ VR g (wset c g s) w (wr ty cs off) v := by
        by_cases hpos : 0 < cs.length
        · obtain ⟨k', us, q1, q2, q3, q4⟩ := block_cells hbr hpos
          rw [e2] at q1; cases q1
          obtain ⟨v, hr, hvr⟩ := run_load_row (P := P) (o := 0) hty q2 q3 q4 ho1
          exact ⟨v, by simpa [Instr.loadAt, Instr.sureAddr] using hr, hvr⟩
        · obtain ⟨rfl, rfl, rfl⟩ := wrOk_pos ho1 hpos
          obtain ⟨v, hr, hvr⟩ := run_load_row (P := P) (g := g) (W := wset c g s) (k := k) (o := 0) (us := fun _ => undef) hty (fun j hj => absurd hj (by simp)) (fun j hj => absurd hj (by simp)) (fun j hj => absurd hj (by simp)) ho1
          exact ⟨v, by simpa [Instr.loadAt, Instr.sureAddr] using hr, hvr⟩
      obtain ⟨v, hv1, hv2⟩ := hload
      refine ⟨v :: vs, ?_, ?_, h3⟩
      · have hasa : (asAddr (a.tmps.getD ad undef)).run P w = .ok ⟨k, off, none⟩ w := by rw [e1]; rfl
        simp only [List.mapM_cons, Sem.run_bind, hasa, Sem.run_pure, Result.andThen_ok, hv1, h2]
      · have : rv s (.cell ad ty) = wr ty cs off := by simp only [rv, hT, hH]
        rw [this]; exact hv2
    · cases he

theorem run_results {fn : Func} {l : List RS} {g : Nat → GM} {s : FS} {a : Act} {w : World} (hR : R c g s a w) (he : elabR P fn.results.toList = some l) (ho : rvOk s l) : ∃ v, (results fn a.tmps).run P w = .ok v w ∧ VR g (wset c g s) w (rvs s l) v := by
  obtain ⟨vs, h1, h2⟩ := run_rv hR _ _ he ho
  have h3 : (fn.results.mapM (fun x => (match x with | .tmp t => pure (a.tmps.getD t undef) | .cell ad t => do loadVar t (← asAddr (a.tmps.getD ad undef)) : Sem Value))).run P w = .ok vs.toArray w := by
    rw [Array.mapM_eq_mapM_toList]
    simp only [Sem.run_map, h1, Result.andThen_ok]
  have h4 : (results fn a.tmps).run P w = .ok (if h : vs.toArray.size = 1 then vs.toArray[0] else .tuple vs.toArray) w := by
    unfold results
    rw [Sem.run_bind]
    exact (congrArg (fun r => Result.andThen r _) h3).trans rfl
  refine ⟨_, h4, ?_⟩
  clear h4 h3 h1
  match l, vs, h2 with
  | [x], [v], h2 => exact h2.1
  | [], [], _ => exact .tup rfl fun j hj => absurd hj (by simp)
  | x :: y :: l, u :: v :: vs, h2 =>
    rw [dif_neg (by simp)]
    have hl := h2.length
    exact .tup (by simp at hl ⊢; omega) fun j hj => by
      have := h2.get j hj
      simpa using this

/-! ### A body proves what a call yields -/
theorem wset_X {g : Nat → GM} {s : FS} {a : Act} {w : World} (hR : R c g s a w) {b k : Nat} (hl : (s.H b).live) (hg : g b = .re k) : ¬ c.X k := fun hx => by
  have h1 := hR.xs k hx
  rcases hR.old b k hl hg with h | h
  · omega
  · exact h1.2 h

theorem VR.shut {g : Nat → GM} {s : FS} {a : Act} {w : World} (hR : R c g s a w) {v : AV} {u : Value} (h : VR g (wset c g s) w v u) (hn : nmOk 0 v) : VR (fun _ => .un) c.X w v u :=
  (h.nm hn (g' := fun _ => .un) (fun b hb => absurd hb (by omega))).mono (Fr.refl _ _) (fun _ _ h => .inl h) (fun _ _ => rfl)

theorem frzS_ok {g : Nat → GM} {s : FS} {a : Act} {w : World} (hR : R c g s a w) {v : AV} {u : Value} (h : VR g (wset c g s) w v u) (hn : nmOk 0 (frzS s v)) : VR (fun _ => .un) c.X w (frzS s v) u := by
  by_cases hs : ∃ es b off n k, v = .sl es b off n k
  · obtain ⟨es, b, off, n, k, rfl⟩ := hs
    simp only [frzS] at hn ⊢
    cases hH : s.H b with
    | cells cs =>
      rw [hH] at hn
      simp only at hn ⊢
      simp only [nmOk] at hn
      have hbr := hR.h b
      rw [hH] at hbr
      rcases sl_inv h with ⟨kk, cap, e, cur, fz, rfl, hg, h1, h2, h3, h4, h5⟩ | ⟨ad0, rfl, hg, rfl, rfl⟩
      · rw [hg] at hbr
        have hx := wset_X hR (by rw [hH]; trivial) hg
        cases hbr with
        | cells hb hl h11 hv hz =>
          rename_i cur2 e2 fz2
          rw [h4] at hb; cases hb
          have hlen : ∀ j, j < ((cs.drop off).take (n * es)).length → off + j < cs.length ∧ j < n * es := fun j hj => by simp at hj; omega
          refine .isl (us := fun j => cur.getD (off + j) undef) (by omega) h3 (fun j hj => ?_) fun j hj => ?_
          · obtain ⟨hj1, hj2⟩ := hlen j hj
            refine ⟨kk, off, rfl, ?_, hx, h11 _ hj1⟩
            have := cell_of_row w kk (off + j) cur e fz h4
            unfold cellOf
            rw [this]
            have : off + j < cur.size := by omega
            simp [Array.getD, this]
          · obtain ⟨hj1, hj2⟩ := hlen j hj
            have ee : ((cs.drop off).take (n * es)).getD j .any = cs.getD (off + j) .any := by simp only [List.getD, List.getElem?_take, List.getElem?_drop, if_pos hj2]
            have hn' := nmAll_get hn j
            rw [ee] at hn' ⊢
            exact (hv _ hj1).shut hR hn'
      · refine .isl (us := fun _ => undef) (Nat.le_refl 0) (by simp [maxLen]) (fun j hj => ?_) fun j hj => ?_
        · simp at hj
        · simp at hj
    | _ => exact .any _
  · have : frzS s v = v := by
      cases v <;> first | rfl | exact absurd ⟨_, _, _, _, _, rfl⟩ hs
    rw [this] at hn ⊢
    exact h.shut hR hn
theorem frzA_ok {g : Nat → GM} {s : FS} {a : Act} {w : World} (hR : R c g s a w) {v : AV} {u : Value} (h : VR g (wset c g s) w v u) (hn : nmOk 0 (frzA s v)) : VR (fun _ => .un) c.X w (frzA s v) u := by
  by_cases hs : ∃ cs, v = .agg cs
  · obtain ⟨cs, rfl⟩ := hs
    simp only [frzA] at hn ⊢
    simp only [nmOk] at hn
    obtain ⟨us, rfl, h1, h2, h3⟩ := agg_inv h
    refine .agg (by simpa using h1) (fun j hj => h2 j (by simpa using hj)) fun j hj => ?_
    have hj' : j < cs.length := by simpa using hj
    have ee : (cs.map (frzS s)).getD j .any = frzS s (cs.getD j .any) := by simp [List.getD, hj']
    have hn' := nmAll_get hn j
    rw [ee] at hn' ⊢
    exact frzS_ok hR (h3 j hj') hn'
  · have : frzA s v = frzS s v := by
      cases v <;> first | rfl | exact absurd ⟨_, rfl⟩ hs
    rw [this] at hn ⊢
    exact frzS_ok hR h hn
theorem frz_ok {g : Nat → GM} {s : FS} {a : Act} {w : World} (hR : R c g s a w) {v : AV} {u : Value} (h : VR g (wset c g s) w v u) (hn : nmOk 0 (frz s v)) : VR (fun _ => .un) c.X w (frz s v) u := by
  by_cases hs : ∃ cs, v = .tup cs
  · obtain ⟨cs, rfl⟩ := hs
    simp only [frz] at hn ⊢
    simp only [nmOk] at hn
    obtain ⟨us, rfl, h1, h3⟩ := tup_inv h
    refine .tup (by simpa using h1) fun j hj => ?_
    have hj' : j < cs.length := by simpa using hj
    have ee : (cs.map (frzA s)).getD j .any = frzA s (cs.getD j .any) := by simp [List.getD, hj']
    have hn' := nmAll_get hn j
    rw [ee] at hn' ⊢
    exact frzA_ok hR (h3 j hj') hn'
  · have : frz s v = frzA s v := by
      cases v <;> first | rfl | exact absurd ⟨_, rfl⟩ hs
    rw [this] at hn ⊢
    exact frzA_ok hR h hn

/-- The frame that a call begins with. -/
theorem R_start {w : World} {vs : List Value} {args : List AV} {N : Nat} (hN : args.length ≤ N) {X : Nat → Prop} {gl : Nat → AV} (hX : ∀ k, X k → k < w.heap.size) (hgl : ∀ i, VR (fun _ => .un) X w (gl i) (.pointer (some ⟨i, 0, none⟩)))
    (hv : VRs (fun _ => .un) X w args vs) : R ⟨N, w, fun _ => False, X, gl, []⟩ (fun _ => .un) (⟨argT 0 args, [], 0⟩ : St).fs { tmps := vs.toArray ++ Array.replicate (N - vs.toArray.size) undef, defers := [] } w := by
  have hl := hv.length
  have hH : ∀ b, (⟨argT 0 args, [], 0⟩ : St).fs.H b = .free := fun b => by
    show lookb [] 0 b = .free
    rcases lookb_cases [] 0 b with h | ⟨p, hp, _⟩
    · rw [h]; simp
    · cases hp
  have hW : ∀ k, wset ⟨N, w, fun _ => False, X, gl, []⟩ (fun _ => .un) (⟨argT 0 args, [], 0⟩ : St).fs k → X k := by
    rintro k (h | ⟨b, h1, _⟩)
    · exact h
    · rw [hH] at h1; exact h1.elim
  have hmono : ∀ {v u}, VR (fun _ => .un) X w v u → VR (fun _ => .un) (wset ⟨N, w, fun _ => False, X, gl, []⟩ (fun _ => .un) (⟨argT 0 args, [], 0⟩ : St).fs) w v u := fun h => h.mono (Fr.refl _ _) (fun k _ => hW k) (fun _ _ => rfl)
  refine ⟨by simp; omega, rfl, fun i => ?_, fun i => hmono (hgl i), fun b => by rw [hH]; exact .free, fun b b' k h => by rw [hH] at h; exact h.elim, fun b k h => by rw [hH] at h; exact h.elim, Fr.refl _ _, fun k hk => ⟨hX k hk, id⟩, fun p hp => by cases hp⟩
  show VR _ _ w (look (argT 0 args) i) _
  rw [look_argT]
  split
  · rename_i h
    have hi : i < vs.length := by omega
    have := hv.get i (by omega)
    have e : (vs.toArray ++ Array.replicate (N - vs.toArray.size) undef).getD i undef = vs.getD i undef := by
      simp only [Array.getD_eq_getD_getElem?, List.getD]
      rw [Array.getElem?_append_left (by simpa using hi)]
      simp
    rw [e]
    simpa using hmono this
  · exact .any _

theorem ps_of_xw {gl : Nat → AV} {f : FuncId} {fn : Func} {code : Code} {t : TC} {rs : List RS} {args : List AV} {r : AV} (hm : P.follows .mixedOrders = true) (hf : P.funcs[f]? = some fn) (hb : fn.body = some code) (hname : (fn.name == "runtime.NumGoroutine") = false)
    (he : elabC P fn.ntmps code = some t) (hr : elabR P fn.results.toList = some rs) (hN : args.length ≤ fn.ntmps) (hnm : nmOk 0 r)
    (h : ∀ c : Cx, c.gh = [] → c.gl = gl → xw P c t (pureK rs r) ⟨argT 0 args, [], 0⟩) : PS P gl f args r := by
  refine ⟨⟨fn, hf, by rw [hb]; rfl, hname⟩, fun w vs X hX hgl hv => ?_⟩
  refine calls_of_wp hf hb ?_
  have hR := R_start hN hX hgl hv
  have := xw_sound (c := ⟨fn.ntmps, w, fun _ => False, X, gl, []⟩) hm code t _ _ he (h _ rfl rfl) _ _ _ hR
  refine wp_mono this fun e a' w' hq => ?_
  have fin : ∀ (g : Nat → GM) (s : St), R ⟨fn.ntmps, w, fun _ => False, X, gl, []⟩ g s.fs a' w' → (rvOk s.fs rs ∧ frz s.fs (rvs s.fs rs) = r) → a'.defers = [] ∧ ∃ v, (results fn a'.tmps).run P w' = .ok v w' ∧ (∃ v_1, Ending.returned v = .returned v_1 ∧ VR (fun _ => .un) X w' r v_1 ∧ Fr w w' fun _ => False) := by
    intro g s hR' ⟨h1, h2⟩
    obtain ⟨v, h3, h4⟩ := run_results hR' hr h1
    refine ⟨hR'.def_, v, h3, v, rfl, ?_, hR'.fr⟩
    rw [← h2] at hnm ⊢
    exact frz_ok hR' h4 hnm
  cases e with
  | normal => obtain ⟨g, s, hR', hq'⟩ := hq; exact fin g s hR' hq'
  | ret => obtain ⟨g, s, hR', hq'⟩ := hq; exact fin g s hR' hq'
  | exit i => obtain ⟨g, s, hR', hq'⟩ := hq; exact hq'.elim
  | goto l => exact hq.elim
  | panic ch => exact hq.elim
  | outgrown => exact hq.elim

/-! ### A call in a row of operations -/
theorem elab_call {o : Oper} {f : FuncId} {xs : List Operand} (h : elabPK P o = some (.call f, xs)) : ∃ ts, o.op = .call ⟨.value (.func f), xs.toArray, ts⟩ := by
  unfold elabPK at h
  repeat' split at h
  all_goals first
    | (simp only [Option.some.injEq, Prod.mk.injEq, PK.call.injEq] at h; obtain ⟨rfl, rfl⟩ := h; rename_i hop; exact ⟨_, by rw [hop]⟩)
    | (simp at h; done)
    | (cases h; done)
    | (simp [Option.map_eq_some_iff] at h; done)
theorem run_call {f : FuncId} (hc : Callable P f) {o : Oper} {xs : List Operand} {ts : Array TypeId} (ho : o.op = .call ⟨.value (.func f), xs.toArray, ts⟩) (a : Act) (w : World) :
    (execOp a.eval o).run P w = .ok (.enter f (xs.map a.eval).toArray) w := by
  obtain ⟨fn, h1, h2, h3⟩ := hc
  have h2' : fn.body ≠ none := fun e => by rw [e] at h2; cases h2
  have h3' : fn.name ≠ "runtime.NumGoroutine" := fun e => by rw [e] at h3; cases h3
  simp [execOp, ho, resolve, Act.eval, Deferred.ofValue, invoke, callFunc, program, Sem.run, h1, h2', h3']

theorem VRs_nm {g g' : Nat → GM} {W : Nat → Prop} {w : World} {n : Nat} (hg : ∀ b, b < n → g b = g' b) : ∀ {xs : List AV} {vs : List Value}, VRs g W w xs vs → nmAll n xs → VRs g' W w xs vs
  | [], [], _, _ => trivial
  | _ :: _, _ :: _, h, hn => ⟨h.1.nm hn.1 hg, VRs_nm hg h.2 hn.2⟩
  | [], _ :: _, h, _ => h.elim
  | _ :: _, [], h, _ => h.elim

def callFoot (d : Option Nat) (xs : List TV) (gd : Option (Nat × Bool)) : Foot := ⟨gdT gd ++ tmpsOf xs, [], d.toList, []⟩
def St.putO (s : St) (d : Option Nat) (v : AV) : St :=
  match d with
  | some d => s.put d v
  | none => s
def callOk (gl : Nat → AV) (s : FS) (xs : List TV) (gd : Option (Nat × Bool)) : Prop := gOk s gd ∧ cokAll (gB s gd) (evs gl s xs)

theorem call_AOkT {s : St} {d : Option Nat} {f : FuncId} {xs : List TV} {gd : Option (Nat × Bool)} {args : List AV} {r : AV} (hok : callOk c.gl s.fs xs gd) (hargs : (evs c.gl s.fs xs).map strip = args) (hnm : nmAll 0 args)
    (hps : ob (gB s.fs gd) (PS P c.gl f args r)) : AOkT P c (.pd d (.call f) xs gd) s.fs (callFoot d xs gd) (s.putO d (cw (gB s.fs gd) r)).fs := by
  intro ops io he
  obtain ⟨hgd, hdst, hd, ys, hel, rfl⟩ := elab_pd he
  obtain ⟨ts, hop⟩ := elab_call hel
  have hput : (s.putO d (cw (gB s.fs gd) r)).fs = match d with | some d => s.fs.put d (cw (gB s.fs gd) r) | none => s.fs := by
    cases d with
    | none => rfl
    | some d => exact St.fs_put _ _ _
  rw [hput]
  refine ⟨fun i hi => ?_, fun b _ => by cases d <;> rfl, ?_⟩
  · cases d with
    | none => rfl
    | some d => show (s.fs.put d _).T i = _; rw [FS.T_put, if_neg (fun e => hi (by simp [callFoot, e]))]
  · intro s2 hT hH g a w hR K Q' hK
    have hevs : evs c.gl s2 (ys.map tvO) = evs c.gl s.fs (ys.map tvO) := evs_congr fun i hi => hT i (by simp [callFoot, hi])
    have hg : ∀ t b, gd = some (t, b) → s2.T t = s.fs.T t := fun t b e => hT t (by simp [callFoot, e, gdT])
    have hgB : gB s2 gd = gB s.fs gd := by
      cases gd with
      | none => rfl
      | some p => obtain ⟨t, b⟩ := p; simp only [gB, hg t b rfl]
    have hgO : gOk s2 gd := by
      have := hok.1
      cases gd with
      | none => exact this
      | some p => obtain ⟨t, b⟩ := p; simpa only [gOk, hg t b rfl] using this
    have hK' : ∀ v w', Fr w w' (fun _ => False) → VR g (wset c g s2) w' (cw (gB s.fs gd) r) v → K (a.put io.dst v) w' := fun v w' hf hv => by
      rw [hdst]
      have hR' := hR.grow hf
      cases d with
      | none =>
        refine hK g _ w' ?_
        have : ovr s2 s.fs (callFoot none (ys.map tvO) gd) = s2 := by unfold ovr callFoot; simp
        simp only [this]; exact hR'
      | some d =>
        refine hK g _ w' ?_
        show R c g (ovr s2 (s.fs.put d _) ⟨gdT gd ++ tmpsOf (ys.map tvO), [], [d], []⟩) _ _
        rw [ovr_put]
        exact hR'.put (by simpa using hd) hv
    unfold Exec1
    rw [guard_ok hgd hR hgO, hgB]
    have run : (∀ b, gB s.fs gd = some b → b = true) → io.wp P a w K Q' := by
      intro hb
      have hc1 : cokAll none (evs c.gl s2 (ys.map tvO)) := by
        rw [hevs]
        have := hok.2
        cases hgb : gB s.fs gd with
        | none => rw [hgb] at this; exact this
        | some b => rw [hgb] at this; exact cokAll_mono (hb b hgb) this
      have hps' : PS P c.gl f args r := by
        cases hgb : gB s.fs gd with
        | none => rw [hgb] at hps; exact hps
        | some b => rw [hgb] at hps; exact hps (hb b hgb)
      have hv := VRs_strip (hR.evs ys) hc1
      rw [hevs, hargs] at hv
      have hv' : VRs (fun _ => .un) (wset c g s2) w args (ys.map a.eval) := VRs_nm (n := 0) (fun b hb => absurd hb (by omega)) hv hnm
      have hX : ∀ k, wset c g s2 k → k < w.heap.size := by
        rintro k (h | ⟨b', hl, hg'⟩)
        · have := (hR.xs k h).1; have := hR.fr.size; omega
        · exact BR.lt (hg' ▸ hR.h b') hl
      have hcall := hps'.2 w _ _ hX (fun i => (hR.gl i)) hv'
      unfold Oper.wp
      rw [run_call hps'.1 hop]
      rw [Oper.upon_enter]
      refine hcall.mono fun e w' ⟨v, e1, e2, e3⟩ => ?_
      subst e1
      refine hK' v w' e3 ?_
      have hv2 : VR g (wset c g s2) w' r v := e2.mono (Fr.refl _ _) (fun _ _ h => h) (fun _ h => absurd rfl h)
      cases hgb : gB s.fs gd with
      | none => exact hv2
      | some b => exact .cnd (fun _ => hv2) fun h => by rw [hb b hgb] at h; cases h
    cases hgb : gB s.fs gd with
    | none => simp only [Option.getD_none, if_true]; exact run fun b h => by rw [hgb] at h; cases h
    | some b =>
      cases b with
      | true => simp only [Option.getD_some, if_true]; exact run fun b h => by rw [hgb] at h; cases h; rfl
      | false =>
        simp only [Option.getD_some, Bool.false_eq_true, if_false]
        refine hK' undef w (Fr.refl _ _) ?_
        rw [hgb]
        exact .cnd (fun h => by cases h) fun _ => rfl

theorem pr_ps {r0 : List TOp} {K : St → Prop} {s : St} {d : Option Nat} {f : FuncId} {xs : List TV} {gd : Option (Nat × Bool)} {args : List AV} {r : AV} (hps : ob (gB s.fs gd) (PS P c.gl f args r)) (hargs : (evs c.gl s.fs xs).map strip = args)
    (hok : callOk c.gl s.fs xs gd ∧ nmAll 0 args ∧ XP P c r0 K (s.putO d (cw (gB s.fs gd) r))) : PendR P c (.pd d (.call f) xs gd) r0 K s :=
  ⟨_, _, call_AOkT hok.1 hargs hok.2.1 hps, hok.2.2⟩
theorem prD_ps {anc : List Nat} {fs : List Foot} {r0 : List TOp} {K : St → Prop} {s : St} {d : Option Nat} {f : FuncId} {xs : List TV} {gd : Option (Nat × Bool)} {args : List AV} {r : AV} (hps : ob (gB s.fs gd) (PS P c.gl f args r)) (hargs : (evs c.gl s.fs xs).map strip = args)
    (hok : callOk c.gl s.fs xs gd ∧ nmAll 0 args ∧ XD P c anc r0 (callFoot d xs gd :: fs) K (s.putO d (cw (gB s.fs gd) r))) : PendDR P c anc (.pd d (.call f) xs gd) r0 fs K s :=
  ⟨_, _, call_AOkT hok.1 hargs hok.2.1 hps, hok.2.2⟩
theorem pend_ps {K : St → Prop} {s : St} {d : Option Nat} {f : FuncId} {xs : List TV} {gd : Option (Nat × Bool)} {args : List AV} {r : AV} (hps : ob (gB s.fs gd) (PS P c.gl f args r)) (hargs : (evs c.gl s.fs xs).map strip = args)
    (hok : callOk c.gl s.fs xs gd ∧ nmAll 0 args ∧ K (s.putO d (cw (gB s.fs gd) r))) : Pend P c (.pd d (.call f) xs gd) K s :=
  ⟨_, _, call_AOkT hok.1 hargs hok.2.1 hps, hok.2.2⟩
theorem pendD_ps {K : Foot → St → Prop} {s : St} {d : Option Nat} {f : FuncId} {xs : List TV} {gd : Option (Nat × Bool)} {args : List AV} {r : AV} (hps : ob (gB s.fs gd) (PS P c.gl f args r)) (hargs : (evs c.gl s.fs xs).map strip = args)
    (hok : callOk c.gl s.fs xs gd ∧ nmAll 0 args ∧ K (callFoot d xs gd) (s.putO d (cw (gB s.fs gd) r))) : PendD P c (.pd d (.call f) xs gd) K s :=
  ⟨_, _, call_AOkT hok.1 hargs hok.2.1 hps, hok.2.2⟩

/-! ### What a function's text is -/
structure FT (P : Program) (f : FuncId) (fn : Func) (t : TC) (rs : List RS) : Prop where
  func : P.funcs[f]? = some fn
  code : fn.body.bind (elabC P fn.ntmps) = some t
  res : elabR P fn.results.toList = some rs
  name : (fn.name == "runtime.NumGoroutine") = false
  mixed : P.follows .mixedOrders = true
theorem FT.ps {gl : Nat → AV} {f : FuncId} {fn : Func} {t : TC} {rs : List RS} (hF : FT P f fn t rs) {args : List AV} {r : AV} (hN : args.length ≤ fn.ntmps) (hnm : nmOk 0 r)
    (h : ∀ c : Cx, c.gh = [] → c.gl = gl → xw P c t (pureK rs r) ⟨argT 0 args, [], 0⟩) : PS P gl f args r := by
  have hc := hF.code
  cases hb : fn.body with
  | none => rw [hb] at hc; simp at hc
  | some code =>
    rw [hb] at hc
    exact ps_of_xw hF.mixed hF.func hb hF.name hc hF.res hN hnm h
end
end Go.Proofs.Ytblimjilinkmbaa
