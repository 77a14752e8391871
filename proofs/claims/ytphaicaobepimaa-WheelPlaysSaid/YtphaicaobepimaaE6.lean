/- A row compared with nil; a nil row that is given a name behind a call. No conditions but the ones that stand in each. -/
import Derived.Test.YtphaicaobepimaaE5
namespace Go.Proofs.Ytphaicaobepimaa
set_option linter.all false
set_option linter.unusedSimpArgs false
open Go.RowKit

section
variable {P : Program} {w : World}

/-- The same, of operands that are known. -/
def QRunT (P : Program) (c : Cx) (k : PK) (xs : List TV) (vs : List AV) (r : AV) : Prop :=
  ∀ (o : Oper) (ys : List Operand), elabPK P o = some (k, ys) → ys.map tvO = xs → ∀ (g : Nat → GM) (W : Nat → Prop) (a : Act) (w : World), (∀ i, W i → i < w.heap.size) → (∀ i, VR (fun _ => .un) W w (c.gl i) (.pointer (some ⟨i, 0, none⟩))) → VRs g W w vs (ys.map a.eval) →
    ∀ (K : Act → World → Prop) (Q : Exit → Act → World → Prop), (∀ v w', Fr w w' (fun _ => False) → VR g W w' r v → K (a.put o.dst v) w') → o.wp P a w K Q
theorem qrunT_AOkT {c : Cx} {s : St} {d : Option Nat} {k : PK} {xs : List TV} {gd : Option (Nat × Bool)} {args : List AV} {r : AV} (hok : callOk c.gl s.fs xs gd) (hargs : (evs c.gl s.fs xs).map strip = args)
    (hq : ob (gB s.fs gd) (QRunT P c k xs args r)) : AOkT P c (.pd d k xs gd) s.fs (callFoot d xs gd) (s.putO d (cw (gB s.fs gd) r)).fs := by
  intro ops io he
  obtain ⟨hgd, hdst, hd, ys, hel, rfl⟩ := elab_pd he
  have hput : (s.putO d (cw (gB s.fs gd) r)).fs = match d with | some d => s.fs.put d (cw (gB s.fs gd) r) | none => s.fs := by
    cases d with
    | none => rfl
    | some d => exact St.fs_put _ _ _
  rw [hput]
  refine ⟨fun i hi => ?_, fun b _ => by cases d <;> rfl, ?_⟩
  · cases d with
    | none => rfl
    | some d => show (s.fs.put d _).T i = _; rw [FS.T_put, if_neg (fun e => hi (by simp [callFoot, e]))]
  · intro s2 hT hH g a w hR K Q' hK
    have hevs : evs c.gl s2 (ys.map tvO) = evs c.gl s.fs (ys.map tvO) := evs_congr fun i hi => hT i (by simp [callFoot, hi])
    have hg : ∀ t b, gd = some (t, b) → s2.T t = s.fs.T t := fun t b e => hT t (by simp [callFoot, e, gdT])
    have hgB : gB s2 gd = gB s.fs gd := by
      cases gd with
      | none => rfl
      | some p => obtain ⟨t, b⟩ := p; simp only [gB, hg t b rfl]
    have hgO : gOk s2 gd := by
      have := hok.1
      cases gd with
      | none => exact this
      | some p => obtain ⟨t, b⟩ := p; simpa only [gOk, hg t b rfl] using this
    have hK' : ∀ v w', Fr w w' (fun _ => False) → VR g (wset c g s2) w' (cw (gB s.fs gd) r) v → K (a.put io.dst v) w' := fun v w' hf hv => by
      rw [hdst]
      have hR' := hR.grow hf
      cases d with
      | none =>
        refine hK g _ w' ?_
        have : ovr s2 s.fs (callFoot none (ys.map tvO) gd) = s2 := by unfold ovr callFoot; simp
        simp only [this]; exact hR'
      | some d =>
        refine hK g _ w' ?_
        show R c g (ovr s2 (s.fs.put d _) ⟨gdT gd ++ tmpsOf (ys.map tvO), [], [d], []⟩) _ _
        rw [ovr_put]
        exact hR'.put (by simpa using hd) hv
    unfold Exec1
    rw [guard_ok hgd hR hgO, hgB]
    have run : (∀ b, gB s.fs gd = some b → b = true) → io.wp P a w K Q' := by
      intro hb
      have hc1 : cokAll none (evs c.gl s2 (ys.map tvO)) := by
        rw [hevs]
        have := hok.2
        cases hgb : gB s.fs gd with
        | none => rw [hgb] at this; exact this
        | some b => rw [hgb] at this; exact cokAll_mono (hb b hgb) this
      have hq' : QRunT P c k (ys.map tvO) args r := by
        cases hgb : gB s.fs gd with
        | none => rw [hgb] at hq; exact hq
        | some b => rw [hgb] at hq; exact hq (hb b hgb)
      have hv := VRs_strip (hR.evs ys) hc1
      rw [hevs, hargs] at hv
      have hX : ∀ k, wset c g s2 k → k < w.heap.size := by
        rintro k (h | ⟨b', hl, hg'⟩)
        · have := (hR.xs k h).1; have := hR.fr.size; omega
        · exact BR.lt (hg' ▸ hR.h b') hl
      refine hq' io ys hel rfl g _ a w hX (fun i => (hR.gl i)) hv K Q' fun v w' hf hv2 => ?_
      refine hK' v w' hf ?_
      cases hgb : gB s.fs gd with
      | none => exact hv2
      | some b => exact .cnd (fun _ => hv2) fun h => by rw [hb b hgb] at h; cases h
    cases hgb : gB s.fs gd with
    | none => simp only [Option.getD_none, if_true]; exact run fun b h => by rw [hgb] at h; cases h
    | some b =>
      cases b with
      | true => simp only [Option.getD_some, if_true]; exact run fun b h => by rw [hgb] at h; cases h; rfl
      | false =>
        simp only [Option.getD_some, Bool.false_eq_true, if_false]
        refine hK' undef w (Fr.refl _ _) ?_
        rw [hgb]
        exact .cnd (fun h => by cases h) fun _ => rfl
theorem pr_qrunT {c : Cx} {r0 : List TOp} {K : St → Prop} {s : St} {d : Option Nat} {k : PK} {xs : List TV} {gd : Option (Nat × Bool)} {args : List AV} {r : AV} (hargs : (evs c.gl s.fs xs).map strip = args) (hq : QRunT P c k xs args r)
    (hok : callOk c.gl s.fs xs gd ∧ XP P c r0 K (s.putO d (cw (gB s.fs gd) r))) : PendR P c (.pd d k xs gd) r0 K s := .inl ⟨_, _, qrunT_AOkT hok.1 hargs (ob_of hq), hok.2⟩
theorem prD_qrunT {c : Cx} {anc : List Nat} {fs : List Foot} {r0 : List TOp} {K : St → Prop} {s : St} {d : Option Nat} {k : PK} {xs : List TV} {gd : Option (Nat × Bool)} {args : List AV} {r : AV} (hargs : (evs c.gl s.fs xs).map strip = args) (hq : QRunT P c k xs args r)
    (hok : callOk c.gl s.fs xs gd ∧ XD P c anc r0 (callFoot d xs gd :: fs) K (s.putO d (cw (gB s.fs gd) r))) : PendDR P c anc (.pd d k xs gd) r0 fs K s := ⟨_, _, qrunT_AOkT hok.1 hargs (ob_of hq), hok.2⟩
/-- Is a row nil? -/
def nilq : AV → Option Bool
  | .isl _ (_ :: _) => some false
  | .lit (.slice a _ _) => some a.isNone
  | _ => none
theorem nilq_run {g : Nat → GM} {W : Nat → Prop} {x : AV} {v : Value} {b : Bool} (hx : VR g W w x v) (h : nilq x = some b) : ∃ a n cap, v = .slice a n cap ∧ a.isNone = b := by
  unfold nilq at h
  split at h
  · obtain ⟨a, cap, us, rfl, _, _, h3, _⟩ := isl_inv hx
    obtain ⟨k, o, rfl, _⟩ := h3 0 (by simp)
    cases h
    exact ⟨_, _, _, rfl, rfl⟩
  · cases h; cases hx; exact ⟨_, _, _, rfl, rfl⟩
  · cases h
theorem run_eql_nil (w : World) (t e : TypeId) (a : Option Addr) (l c : Nat) (h : P.underlying t = some (.slice e)) : (binOp .eql t (.slice a l c) (.slice none 0 0)).run P w = .ok (.bool a.isNone) w := by
  simp only [binOp]
  simp [run_equal_slice_nil w t e a l c h]
theorem tvO_nils {y : Operand} (h : tvO y = .c .nils) : y = .const (.slice none 0 0) := by
  cases y with
  | const v =>
    simp only [tvO, TV.c.injEq] at h
    cases v <;> simp only [ofV, ofS] at h <;> first | (cases h; done) | skip
    all_goals split at h
    all_goals first | (cases h; done) | rfl | (simp at h; obtain ⟨rfl, rfl, rfl⟩ := h; rfl) | simp_all
  | _ => simp [tvO] at h
theorem cnil_run {c : Cx} {ne : Bool} {t e : TypeId} {x : TV} {v : AV} {b : Bool} (ht : P.underlying t = some (.slice e)) (hb : nilq v = some b) : QRunT P c (.cA ne t) [x, .c .nils] [v, .nils] (.bool (ne != b)) := by
  intro o ys hel hys g W a w _ _ hv K Q hK
  obtain ⟨x', y', u, hop, rfl⟩ := elab_cA hel
  simp only [List.map_cons, List.map_nil, List.cons.injEq, and_true] at hys
  have hy := tvO_nils hys.2
  subst hy
  obtain ⟨hx, _, _⟩ := hv
  obtain ⟨ad, n, cap, hxv, rfl⟩ := nilq_run hx hb
  have ey : a.eval (.const (.slice none 0 0)) = .slice none 0 0 := rfl
  have run : (execOp a.eval o).run P w = .ok (.value (.bool (ne != ad.isNone))) w := by
    unfold execOp
    cases ne
    · simp only [hop, hxv, ey, cond_false, Sem.run_bind]; simp [eqGuard, run_eql_nil w t e ad n cap ht]
    · simp only [hop, hxv, ey, cond_true, Sem.run_bind]; simp [eqGuard, run_neq_slice_nil w t e ad n cap ht]
  unfold Oper.wp
  rw [run]
  exact hK _ _ (Fr.refl _ _) (.bool _)
/-- A row of no elements that is made. -/
theorem bsl0_run {c : Cx} {es : Nat} {zs : List AV} : QRun P c (.bsl es 0 zs []) [] .nils := by
  intro o ys hel g W a w _ _ hv K Q hK
  obtain ⟨t, e, i, z, parts, hop, hu, hi, hz, hzs, hpos, hz1, h24, h24', rfl, rfl, hps, rfl⟩ := elab_bsl hel
  have hp : parts = #[] := by
    have := congrArg List.length hps
    simp at this
    exact Array.eq_empty_of_size_eq_zero this.symm
  subst hp
  have run : (execOp a.eval o).run P w = .ok (.value (.slice (some ⟨w.heap.size, 0, none⟩) 0 0)) (w.alloc (.cells #[] e)) := by
    unfold execOp
    simp only [hop, Sem.run_bind]
    simp [Instr.buildSlice, run_underlying hu, sizeOf, typeInfo, hi, Instr.fill, newRow]
    have : (Array.map (fun x : Nat => (default : Value)) (Array.range 0)) = #[] := Array.eq_empty_of_size_eq_zero (by simp)
    rw [this]
  unfold Oper.wp
  rw [run]
  exact hK _ _ (Fr.alloc _ _ _) (.nils _)
/-- A call of a row of no cells, by whether it is nil; the row that comes back may be nil. -/
theorem GS.empty {gl : Nat → AV} {f : FuncId} {es : Nat} {cs : List AV} (h1 : ∀ cap, GS P gl f [.lit (.slice none 0 cap)] [] 0 .nils [] 0) (h2 : ∀ a cap, GS P gl f [.lit (.slice (some a) 0 cap)] [] 0 (.sl es 0 0 0 0) [(0, .cells [])] 1) : GS P gl f [.isl 0 cs] [] 0 (.sl es 0 0 0 0) [(0, .cells [])] 1 := by
  refine ⟨(h1 0).1, fun w vs G X g hR hv => ?_⟩
  cases vs with
  | nil => exact hv.elim
  | cons v vs =>
  cases vs with
  | cons _ _ => exact hv.2.elim
  | nil =>
  obtain ⟨hv, _⟩ := hv
  obtain ⟨a, cap, us, rfl, _⟩ := isl_inv hv
  cases a with
  | some a => exact (h2 a cap).2 w [.slice (some a) 0 cap] G X g hR ⟨.lit _, trivial⟩
  | none =>
    refine ((h1 cap).2 w [.slice none 0 cap] G X g hR ⟨.lit _, trivial⟩).mono ?_
    rintro e w' ⟨v, g', rfl, hR', _, hv'⟩
    have hR1 : R ⟨1, w, G, X, gl, []⟩ g' (⟨[(0, .nils)], [], 0⟩ : St).fs ⟨#[v], []⟩ w' := by
      refine ⟨rfl, rfl, fun i => ?_, hR'.gl, hR'.h, hR'.inj, hR'.old, hR'.fr, hR'.xs, fun p hp => by cases hp⟩
      show VR g' _ w' (look [(0, .nils)] i) _
      rw [look_cons]
      split
      · rename_i hi; subst hi; exact hv'
      · exact .any _
    have hR2 := hR1.named (i := 0) (es := es) rfl rfl
    exact ⟨v, _, rfl, ⟨rfl, rfl, fun i => .any _, hR2.gl, hR2.h, hR2.inj, hR2.old, hR2.fr, hR2.xs, fun p hp => by cases hp⟩, fun b hb => by omega, hR2.t 0⟩
end
end Go.Proofs.Ytphaicaobepimaa
