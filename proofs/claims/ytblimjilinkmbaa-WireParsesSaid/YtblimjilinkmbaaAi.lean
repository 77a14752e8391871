/- Rows of operations, whole bodies of code. No conditions but the ones that stand in each. -/
import Derived.Test.YtblimjilinkmbaaAh
namespace Go.Proofs.Ytblimjilinkmbaa
set_option linter.all false
set_option linter.unusedSimpArgs false
open Go.RowKit

section
variable {P : Program} {N : Nat} {ops : Array Oper} {io : Oper}
theorem elab_q {d : Nat} {q : Q1} {xs : List TV} {gd : Option (Nat × Bool)} (h : elabOp P N ops io = some (.q d q xs gd)) :
    gdOf ops io = some gd ∧ io.dst = some d ∧ d < N ∧ ∃ ys, elabQ P io = some (q, ys) ∧ xs = ys.map tvO := by
  unfold elabOp at h
  split at h
  · cases h
  · rename_i gd' hg
    split at h
    · split at h
      · split at h <;> simp at h
      · cases h
    · split at h <;> simp at h
    · split at h <;> simp at h
    · split at h
      · rename_i q' ys d' hq hd
        split at h
        · rename_i hlt
          simp only [Option.some.injEq, TOp.q.injEq] at h
          obtain ⟨rfl, rfl, rfl, rfl⟩ := h
          exact ⟨hg, hd, hlt, ys, hq, rfl⟩
        · cases h
      · split at h
        · split at h <;> simp at h
        · cases h
theorem elab_al {d : Nat} {z : List AV} (h : elabOp P N ops io = some (.al d z)) : gdOf ops io = some none ∧ io.dst = some d ∧ d < N ∧ ∃ t zv, io.op = .alloc t ∧ (P.info? t).bind (·.zero) = some zv ∧ zv.cells.all (·.oneCell') = true ∧ z = zv.cells.toList.map ofS := by
  unfold elabOp at h
  split at h
  · cases h
  · rename_i gd' hg
    split at h
    · rename_i t d' hop hd
      split at h
      · rename_i zv hz
        split at h
        · rename_i hc
          simp only [Option.some.injEq, TOp.al.injEq] at h
          obtain ⟨rfl, rfl⟩ := h
          exact ⟨hg, hd, hc.1, t, zv, hop, hz, hc.2, rfl⟩
        · cases h
      · cases h
    · split at h <;> simp at h
    · split at h <;> simp at h
    · split at h
      · split at h <;> simp at h
      · split at h
        · split at h <;> simp at h
        · cases h
theorem elab_bx {d : Nat} {x : TV} (h : elabOp P N ops io = some (.bx d x)) : gdOf ops io = some none ∧ io.dst = some d ∧ d < N ∧ ∃ t y, io.op = .box t y ∧ x = tvO y := by
  unfold elabOp at h
  split at h
  · cases h
  · rename_i gd' hg
    split at h
    · split at h
      · split at h <;> simp at h
      · cases h
    · rename_i t y d' hop hd
      split at h
      · rename_i hc
        simp only [Option.some.injEq, TOp.bx.injEq] at h
        obtain ⟨rfl, rfl⟩ := h
        exact ⟨by rw [hg, hc.2], hd, hc.1, t, y, hop, rfl⟩
      · cases h
    · split at h <;> simp at h
    · split at h
      · split at h <;> simp at h
      · split at h
        · split at h <;> simp at h
        · cases h
theorem elab_sto {ty : TY} {x y : TV} (h : elabOp P N ops io = some (.sto ty x y)) : gdOf ops io = some none ∧ io.dst = none ∧ ∃ t xa xv, io.op = .store t xa xv ∧ tyOf P t = some ty ∧ x = tvO xa ∧ y = tvO xv := by
  unfold elabOp at h
  split at h
  · cases h
  · rename_i gd' hg
    split at h
    · split at h
      · split at h <;> simp at h
      · cases h
    · split at h <;> simp at h
    · rename_i t a v hop hd
      split at h
      · rename_i hty
        simp only [Option.some.injEq, TOp.sto.injEq] at h
        obtain ⟨rfl, rfl, rfl⟩ := h
        exact ⟨hg, hd, t, a, v, hop, hty, rfl, rfl⟩
      · cases h
    · split at h
      · split at h <;> simp at h
      · split at h
        · split at h <;> simp at h
        · cases h
theorem elab_pd {d : Option Nat} {k : PK} {xs : List TV} {gd : Option (Nat × Bool)} (h : elabOp P N ops io = some (.pd d k xs gd)) :
    gdOf ops io = some gd ∧ io.dst = d ∧ d.all (· < N) = true ∧ ∃ ys, elabPK P io = some (k, ys) ∧ xs = ys.map tvO := by
  unfold elabOp at h
  split at h
  · cases h
  · rename_i gd' hg
    split at h
    · split at h
      · split at h <;> simp at h
      · cases h
    · split at h <;> simp at h
    · split at h <;> simp at h
    · split at h
      · split at h <;> simp at h
      · split at h
        · rename_i k' ys hk
          split at h
          · rename_i hd
            simp only [Option.some.injEq, TOp.pd.injEq] at h
            obtain ⟨rfl, rfl, rfl, rfl⟩ := h
            exact ⟨hg, rfl, hd, ys, hk, rfl⟩
          · cases h
        · cases h
end

/-! ### What has a rule of its own -/
def AOkT (P : Program) (c : Cx) (o : TOp) (s : FS) (F : Foot) (s' : FS) : Prop := ∀ ops io, elabOp P c.N ops io = some o → AOk P c ops io s F s'
def Pend (P : Program) (c : Cx) (o : TOp) (K : St → Prop) (s : St) : Prop := ∃ F s', AOkT P c o s.fs F s'.fs ∧ K s'
def PendD (P : Program) (c : Cx) (o : TOp) (K : Foot → St → Prop) (s : St) : Prop := ∃ F s', AOkT P c o s.fs F s'.fs ∧ K F s'

/-- A row of operations in the order of the text. -/
def XP (P : Program) (c : Cx) : List TOp → (St → Prop) → St → Prop
  | [], K, s => K s
  | .q d q xs gd :: r, K, s => qOk c.gl s.fs q xs gd ∧ XP P c r K (s.put d (qRes c.gl s.fs q xs gd))
  | .al d z :: r, K, s => s.fs.H s.n = .free ∧ XP P c r K ((s.nw (.cells z)).put d (.ptr s.n 0))
  | .bx d x :: r, K, s => bxOk (evT c.gl s.fs x) ∧ s.fs.H s.n = .free ∧ XP P c r K ((s.nw (.cells (cellsA (evT c.gl s.fs x)))).put d (.ptr s.n 0))
  | .sto ty a v :: r, K, s => stOk s.fs ty (evT c.gl s.fs a) (evT c.gl s.fs v) ∧
      XP P c r K (s.putB (ptrB (evT c.gl s.fs a)) (.cells (putC ty (cellsB (s.fs.H (ptrB (evT c.gl s.fs a)))) (ptrO (evT c.gl s.fs a)) (evT c.gl s.fs v))))
  | .pd d k xs gd :: r, K, s => Pend P c (.pd d k xs gd) (XP P c r K) s

/-- Two that must keep their order. -/
def clash (x y : Foot) : Bool := x.wt.any (fun i => y.rt.contains i || y.wt.contains i) || y.wt.any (fun i => x.rt.contains i) || x.wb.any (fun i => y.rb.contains i || y.wb.contains i) || y.wb.any (fun i => x.rb.contains i)
def clashAll (anc : Nat) (y : Foot) : Nat → List Foot → Bool
  | _, [] => true
  | i, x :: r => (!clash x y || anc.testBit i) && clashAll anc y (i + 1) r
/-- fs: the feet so far. -/
def drawOk (anc : List Nat) (fs : List Foot) : List Foot → Bool
  | [] => true
  | y :: r => clashAll (anc.getD fs.length 0) y 0 fs && drawOk anc (fs ++ [y]) r

def XD (P : Program) (c : Cx) (anc : List Nat) : List TOp → List Foot → (St → Prop) → St → Prop
  | [], fs, K, s => drawOk anc [] fs.reverse = true ∧ K s
  | .q d q xs gd :: r, fs, K, s => qOk c.gl s.fs q xs gd ∧ XD P c anc r (qFoot c.gl s.fs d xs gd :: fs) K (s.put d (qRes c.gl s.fs q xs gd))
  | .al d z :: r, fs, K, s => s.fs.H s.n = .free ∧ XD P c anc r (⟨[], [s.n], [d], [s.n]⟩ :: fs) K ((s.nw (.cells z)).put d (.ptr s.n 0))
  | .bx d x :: r, fs, K, s => bxOk (evT c.gl s.fs x) ∧ s.fs.H s.n = .free ∧ XD P c anc r (⟨tmpsOf [x], [s.n], [d], [s.n]⟩ :: fs) K ((s.nw (.cells (cellsA (evT c.gl s.fs x)))).put d (.ptr s.n 0))
  | .sto ty a v :: r, fs, K, s => stOk s.fs ty (evT c.gl s.fs a) (evT c.gl s.fs v) ∧
      XD P c anc r (⟨tmpsOf [a, v], [ptrB (evT c.gl s.fs a)], [], [ptrB (evT c.gl s.fs a)]⟩ :: fs) K (s.putB (ptrB (evT c.gl s.fs a)) (.cells (putC ty (cellsB (s.fs.H (ptrB (evT c.gl s.fs a)))) (ptrO (evT c.gl s.fs a)) (evT c.gl s.fs v))))
  | .pd d k xs gd :: r, fs, K, s => PendD P c (.pd d k xs gd) (fun F => XD P c anc r (F :: fs) K) s

/-- An operation that has a rule of its own, at the head of a row. -/
def PendR (P : Program) (c : Cx) (o : TOp) (r : List TOp) (K : St → Prop) (s : St) : Prop := Pend P c o (XP P c r K) s
def PendDR (P : Program) (c : Cx) (anc : List Nat) (o : TOp) (r : List TOp) (fs : List Foot) (K : St → Prop) (s : St) : Prop := PendD P c o (fun F => XD P c anc r (F :: fs) K) s
section
variable {P : Program} {c : Cx} {K : St → Prop} {s : St} {r : List TOp} {anc : List Nat} {fs : List Foot}
theorem XP_nil : XP P c [] K s = K s := rfl
theorem XP_q (d : Nat) (q : Q1) (xs : List TV) (gd : Option (Nat × Bool)) : XP P c (.q d q xs gd :: r) K s = (qOk c.gl s.fs q xs gd ∧ XP P c r K (s.put d (qRes c.gl s.fs q xs gd))) := rfl
theorem XP_al (d : Nat) (z : List AV) : XP P c (.al d z :: r) K s = (s.fs.H s.n = .free ∧ XP P c r K ((s.nw (.cells z)).put d (.ptr s.n 0))) := rfl
theorem XP_bx (d : Nat) (x : TV) : XP P c (.bx d x :: r) K s = (bxOk (evT c.gl s.fs x) ∧ s.fs.H s.n = .free ∧ XP P c r K ((s.nw (.cells (cellsA (evT c.gl s.fs x)))).put d (.ptr s.n 0))) := rfl
theorem XP_sto (ty : TY) (a v : TV) : XP P c (.sto ty a v :: r) K s = (stOk s.fs ty (evT c.gl s.fs a) (evT c.gl s.fs v) ∧
      XP P c r K (s.putB (ptrB (evT c.gl s.fs a)) (.cells (putC ty (cellsB (s.fs.H (ptrB (evT c.gl s.fs a)))) (ptrO (evT c.gl s.fs a)) (evT c.gl s.fs v))))) := rfl
theorem XP_pd (d : Option Nat) (k : PK) (xs : List TV) (gd : Option (Nat × Bool)) : XP P c (.pd d k xs gd :: r) K s = PendR P c (.pd d k xs gd) r K s := rfl
theorem XD_nil : XD P c anc [] fs K s = (drawOk anc [] fs.reverse = true ∧ K s) := rfl
theorem XD_q (d : Nat) (q : Q1) (xs : List TV) (gd : Option (Nat × Bool)) : XD P c anc (.q d q xs gd :: r) fs K s = (qOk c.gl s.fs q xs gd ∧ XD P c anc r (qFoot c.gl s.fs d xs gd :: fs) K (s.put d (qRes c.gl s.fs q xs gd))) := rfl
theorem XD_al (d : Nat) (z : List AV) : XD P c anc (.al d z :: r) fs K s = (s.fs.H s.n = .free ∧ XD P c anc r (⟨[], [s.n], [d], [s.n]⟩ :: fs) K ((s.nw (.cells z)).put d (.ptr s.n 0))) := rfl
theorem XD_bx (d : Nat) (x : TV) : XD P c anc (.bx d x :: r) fs K s = (bxOk (evT c.gl s.fs x) ∧ s.fs.H s.n = .free ∧ XD P c anc r (⟨tmpsOf [x], [s.n], [d], [s.n]⟩ :: fs) K ((s.nw (.cells (cellsA (evT c.gl s.fs x)))).put d (.ptr s.n 0))) := rfl
theorem XD_sto (ty : TY) (a v : TV) : XD P c anc (.sto ty a v :: r) fs K s = (stOk s.fs ty (evT c.gl s.fs a) (evT c.gl s.fs v) ∧
      XD P c anc r (⟨tmpsOf [a, v], [ptrB (evT c.gl s.fs a)], [], [ptrB (evT c.gl s.fs a)]⟩ :: fs) K (s.putB (ptrB (evT c.gl s.fs a)) (.cells (putC ty (cellsB (s.fs.H (ptrB (evT c.gl s.fs a)))) (ptrO (evT c.gl s.fs a)) (evT c.gl s.fs v))))) := rfl
theorem XD_pd (d : Option Nat) (k : PK) (xs : List TV) (gd : Option (Nat × Bool)) : XD P c anc (.pd d k xs gd :: r) fs K s = PendDR P c anc (.pd d k xs gd) r fs K s := rfl
end

section
variable {P : Program} {c : Cx}

theorem q_AOkT {s : St} {d : Nat} {q : Q1} {xs : List TV} {gd : Option (Nat × Bool)} (hp : qOk c.gl s.fs q xs gd) : AOkT P c (.q d q xs gd) s.fs (qFoot c.gl s.fs d xs gd) (s.put d (qRes c.gl s.fs q xs gd)).fs := by
  intro ops io he
  obtain ⟨h1, h2, h3, ys, h4, rfl⟩ := elab_q he
  rw [St.fs_put]
  exact q_AOk h1 h2 h3 h4 hp
theorem al_AOkT {s : St} {d : Nat} {z : List AV} (hf : s.fs.H s.n = .free) : AOkT P c (.al d z) s.fs ⟨[], [s.n], [d], [s.n]⟩ ((s.nw (.cells z)).put d (.ptr s.n 0)).fs := by
  intro ops io he
  obtain ⟨h1, h2, h3, t, zv, h4, h5, h6, rfl⟩ := elab_al he
  rw [St.fs_put, St.fs_nw]
  exact al_AOk h1 h4 h2 h3 h5 h6 hf
theorem bx_AOkT {s : St} {d : Nat} {x : TV} (hx : bxOk (evT c.gl s.fs x)) (hf : s.fs.H s.n = .free) : AOkT P c (.bx d x) s.fs ⟨tmpsOf [x], [s.n], [d], [s.n]⟩ ((s.nw (.cells (cellsA (evT c.gl s.fs x)))).put d (.ptr s.n 0)).fs := by
  intro ops io he
  obtain ⟨h1, h2, h3, t, y, h4, rfl⟩ := elab_bx he
  rw [St.fs_put, St.fs_nw]
  exact bx_AOk h1 h4 h2 h3 hx hf
theorem sto_AOkT {s : St} {ty : TY} {a v : TV} (hp : stOk s.fs ty (evT c.gl s.fs a) (evT c.gl s.fs v)) :
    AOkT P c (.sto ty a v) s.fs ⟨tmpsOf [a, v], [ptrB (evT c.gl s.fs a)], [], [ptrB (evT c.gl s.fs a)]⟩ (s.putB (ptrB (evT c.gl s.fs a)) (.cells (putC ty (cellsB (s.fs.H (ptrB (evT c.gl s.fs a)))) (ptrO (evT c.gl s.fs a)) (evT c.gl s.fs v)))).fs := by
  intro ops io he
  obtain ⟨h1, h2, t, xa, xv, h3, h4, rfl, rfl⟩ := elab_sto he
  rw [St.fs_putB]
  exact sto_AOk h1 h3 h2 h4 hp

theorem XP_step {o : TOp} {r : List TOp} {K : St → Prop} {s : St} (h : XP P c (o :: r) K s) : ∃ F s', AOkT P c o s.fs F s'.fs ∧ XP P c r K s' := by
  cases o with
  | q d q xs gd => exact ⟨_, _, q_AOkT h.1, h.2⟩
  | al d z => exact ⟨_, _, al_AOkT h.1, h.2⟩
  | bx d x => exact ⟨_, _, bx_AOkT h.1 h.2.1, h.2.2⟩
  | sto ty a v => exact ⟨_, _, sto_AOkT h.1, h.2⟩
  | pd d k xs gd => exact h

theorem XD_step {anc : List Nat} {o : TOp} {r : List TOp} {fs : List Foot} {K : St → Prop} {s : St} (h : XD P c anc (o :: r) fs K s) : ∃ F s', AOkT P c o s.fs F s'.fs ∧ XD P c anc r (F :: fs) K s' := by
  cases o with
  | q d q xs gd => exact ⟨_, _, q_AOkT h.1, h.2⟩
  | al d z => exact ⟨_, _, al_AOkT h.1, h.2⟩
  | bx d x => exact ⟨_, _, bx_AOkT h.1 h.2.1, h.2.2⟩
  | sto ty a v => exact ⟨_, _, sto_AOkT h.1, h.2⟩
  | pd d k xs gd => exact h

def elabs (P : Program) (N : Nat) (ops : Array Oper) : List Oper → Option (List TOp)
  | [] => some []
  | o :: r => match elabOp P N ops o, elabs P N ops r with
    | some x, some l => some (x :: l)
    | _, _ => none

/-- A row in the order of the text. -/
theorem XP_sound {ops : Array Oper} {Q : Exit → Act → World → Prop} {K : St → Prop} (hK : ∀ s g a w, K s → R c g s.fs a w → Q .normal a w) : ∀ (os : List Oper) (l : List TOp) (s : St), elabs P c.N ops os = some l → XP P c l K s →
    ∀ g a w, R c g s.fs a w → wpList P ops Q os a w
  | [], l, s, he, h, g, a, w, hR => by
    simp [elabs] at he; subst he
    exact hK s g a w h hR
  | o :: os, l, s, he, h, g, a, w, hR => by
    unfold elabs at he
    split at he
    · rename_i x l' hx hl
      simp at he; subst he
      obtain ⟨F, s', hA, hr⟩ := XP_step h
      have hA' := hA ops o hx
      have := hA'.step s.fs (fun _ _ => rfl) (fun _ _ => rfl) g a w hR (wpList P ops Q os) Q fun g' a' w' hR' => by
        rw [ovr_self hA'.outT hA'.outH] at hR'
        exact XP_sound hK os l' s' hl hr g' a' w' hR'
      unfold Exec1 at this
      unfold wpList
      split
      · rename_i hw; rw [if_pos hw] at this; exact .inl this
      · rename_i hw; rw [if_neg hw] at this; exact this
    · cases he
end
end Go.Proofs.Ytblimjilinkmbaa
