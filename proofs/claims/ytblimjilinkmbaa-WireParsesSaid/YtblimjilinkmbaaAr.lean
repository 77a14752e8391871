/- Calls that are lent rows. No conditions but the ones that stand in each. -/
import Derived.Test.YtblimjilinkmbaaAq
namespace Go.Proofs.Ytblimjilinkmbaa
set_option linter.all false
set_option linter.unusedSimpArgs false
open Go.RowKit

/-- What says the same in every world. -/
def Flat (r : AV) : Prop := ∀ (g g' : Nat → GM) (W W' : Nat → Prop) (w w' : World) (v : Value), VR g W w r v → VR g' W' w' r v
theorem Flat.int (k : IntKind) (n : Int) : Flat (.int k n) := fun _ _ _ _ _ _ _ h => by cases h; exact .int _ _
theorem Flat.bool (b : Bool) : Flat (.bool b) := fun _ _ _ _ _ _ _ h => by cases h; exact .bool _
theorem Flat.str (l : List UInt8) : Flat (.str l) := fun _ _ _ _ _ _ _ h => by cases h; exact .str _
theorem Flat.nils : Flat .nils := fun _ _ _ _ _ _ _ h => by cases h; exact .nils _
theorem Flat.agg {cs : List AV} (h : ∀ x ∈ cs, Flat x) : Flat (.agg cs) := fun g g' W W' w w' v hv => by
  obtain ⟨us, rfl, h1, h2, h3⟩ := agg_inv hv
  refine .agg h1 h2 fun j hj => ?_
  refine h _ ?_ _ _ _ _ _ _ _ (h3 j hj)
  simp only [List.getD, List.getElem?_eq_getElem hj, Option.getD_some]; exact List.getElem_mem hj
theorem Flat.tup {cs : List AV} (h : ∀ x ∈ cs, Flat x) : Flat (.tup cs) := fun g g' W W' w w' v hv => by
  obtain ⟨us, rfl, h1, h3⟩ := tup_inv hv
  refine .tup h1 fun j hj => ?_
  refine h _ ?_ _ _ _ _ _ _ _ (h3 j hj)
  simp only [List.getD, List.getElem?_eq_getElem hj, Option.getD_some]; exact List.getElem_mem hj
theorem Flat.ints (l : List Int) : ∀ x ∈ ints l, Flat x := fun x hx => by
  simp only [Proofs.Ytblimjilinkmbaa.ints, List.mem_map] at hx; obtain ⟨n, _, rfl⟩ := hx; exact .int _ _
theorem Flat.bools (l : List Bool) : ∀ x ∈ bools l, Flat x := fun x hx => by
  simp only [Proofs.Ytblimjilinkmbaa.bools, List.mem_map] at hx; obtain ⟨n, _, rfl⟩ := hx; exact .bool _

def namesS : AV → List Nat
  | .sl _ b _ _ _ => [b]
  | _ => []
def namesA : AV → List Nat
  | .agg cs => cs.flatMap namesS
  | v => namesS v
theorem frzS_congr {s s2 : FS} : ∀ {v : AV}, (∀ b ∈ namesS v, s2.H b = s.H b) → frzS s2 v = frzS s v := fun {v} h => by
  cases v <;> simp only [frzS]
  rw [h _ (by simp [namesS])]
theorem frzA_congr {s s2 : FS} {v : AV} (h : ∀ b ∈ namesA v, s2.H b = s.H b) : frzA s2 v = frzA s v := by
  cases v <;> simp only [frzA]
  case agg cs =>
    congr 1
    refine List.map_congr_left fun x hx => frzS_congr fun b hb => h b ?_
    simp only [namesA, List.mem_flatMap]; exact ⟨x, hx, hb⟩
  all_goals exact frzS_congr h

section
variable {P : Program} {c : Cx}
def borFoot (s : FS) (gl : Nat → AV) (d : Option Nat) (xs : List TV) (gd : Option (Nat × Bool)) : Foot := ⟨gdT gd ++ tmpsOf xs, ((evs gl s xs).map strip).flatMap namesA, d.toList, []⟩
theorem VRs_map {g g' : Nat → GM} {W W' : Nat → Prop} {w : World} {f : AV → AV} : ∀ {xs : List AV} {vs : List Value}, VRs g W w xs vs → (∀ x ∈ xs, ∀ v, VR g W w x v → VR g' W' w (f x) v) → VRs g' W' w (xs.map f) vs
  | [], [], _, _ => trivial
  | x :: xs, v :: vs, h, k => ⟨k x (by simp) v h.1, VRs_map h.2 fun y hy => k y (by simp [hy])⟩
  | [], _ :: _, h, _ => h.elim
  | _ :: _, [], h, _ => h.elim
theorem bor_AOkT {s : St} {d : Option Nat} {f : FuncId} {xs : List TV} {gd : Option (Nat × Bool)} {args : List AV} {r : AV} (hok : callOk c.gl s.fs xs gd) (hargs : ((evs c.gl s.fs xs).map strip).map (frzA s.fs) = args) (hnm : nmAll 0 args) (hfl : Flat r)
    (hps : ob (gB s.fs gd) (PS P c.gl f args r)) : AOkT P c (.pd d (.call f) xs gd) s.fs (borFoot s.fs c.gl d xs gd) (s.putO d (cw (gB s.fs gd) r)).fs := by
  intro ops io he
  obtain ⟨hgd, hdst, hd, ys, hel, rfl⟩ := elab_pd he
  obtain ⟨ts, hop⟩ := elab_call hel
  have hput : (s.putO d (cw (gB s.fs gd) r)).fs = match d with | some d => s.fs.put d (cw (gB s.fs gd) r) | none => s.fs := by
    cases d with
    | none => rfl
    | some d => exact St.fs_put _ _ _
  rw [hput]
  refine ⟨fun i hi => ?_, fun b _ => by cases d <;> rfl, ?_⟩
  · cases d with
    | none => rfl
    | some d => show (s.fs.put d _).T i = _; rw [FS.T_put, if_neg (fun e => hi (by simp [borFoot, e]))]
  · intro s2 hT hH g a w hR K Q' hK
    have hevs : evs c.gl s2 (ys.map tvO) = evs c.gl s.fs (ys.map tvO) := evs_congr fun i hi => hT i (by simp [borFoot, hi])
    have hg : ∀ t b, gd = some (t, b) → s2.T t = s.fs.T t := fun t b e => hT t (by simp [borFoot, e, gdT])
    have hgB : gB s2 gd = gB s.fs gd := by
      cases gd with
      | none => rfl
      | some p => obtain ⟨t, b⟩ := p; simp only [gB, hg t b rfl]
    have hgO : gOk s2 gd := by
      have := hok.1
      cases gd with
      | none => exact this
      | some p => obtain ⟨t, b⟩ := p; simpa only [gOk, hg t b rfl] using this
    have hK' : ∀ v w', Fr w w' (fun _ => False) → VR g (wset c g s2) w' (cw (gB s.fs gd) r) v → K (a.put io.dst v) w' := fun v w' hf hv => by
      rw [hdst]
      have hR' := hR.grow hf
      cases d with
      | none =>
        refine hK g _ w' ?_
        have : ovr s2 s.fs (borFoot s.fs c.gl none (ys.map tvO) gd) = s2 := by unfold ovr borFoot; simp
        simp only [this]; exact hR'
      | some d =>
        refine hK g _ w' ?_
        show R c g (ovr s2 (s.fs.put d _) ⟨gdT gd ++ tmpsOf (ys.map tvO), _, [d], []⟩) _ _
        rw [ovr_put]
        exact hR'.put (by simpa using hd) hv
    unfold Exec1
    rw [guard_ok hgd hR hgO, hgB]
    have run : (∀ b, gB s.fs gd = some b → b = true) → io.wp P a w K Q' := by
      intro hb
      have hc1 : cokAll none (evs c.gl s2 (ys.map tvO)) := by
        rw [hevs]
        have := hok.2
        cases hgb : gB s.fs gd with
        | none => rw [hgb] at this; exact this
        | some b => rw [hgb] at this; exact cokAll_mono (hb b hgb) this
      have hps' : PS P c.gl f args r := by
        cases hgb : gB s.fs gd with
        | none => rw [hgb] at hps; exact hps
        | some b => rw [hgb] at hps; exact hps (hb b hgb)
      have hv := VRs_strip (hR.evs ys) hc1
      rw [hevs] at hv
      have hcg : ∀ x ∈ (evs c.gl s.fs (ys.map tvO)).map strip, frzA s2 x = frzA s.fs x := fun x hx => frzA_congr fun b hb => hH b (by simp only [borFoot, List.mem_flatMap]; exact ⟨x, hx, hb⟩)
      have hv' : VRs (fun _ => .un) c.X w args (ys.map a.eval) := by
        rw [← hargs] at hnm ⊢
        refine VRs_map hv fun x hx v h => ?_
        have hn := nmAll_iff.1 hnm (frzA s.fs x) (List.mem_map_of_mem hx)
        rw [← hcg x hx] at hn ⊢
        exact frzA_ok hR h hn
      have hX : ∀ k, c.X k → k < w.heap.size := fun k h => by have := (hR.xs k h).1; have := hR.fr.size; omega
      have hgl : ∀ i, VR (fun _ => .un) c.X w (c.gl i) (.pointer (some ⟨i, 0, none⟩)) := fun i => (hR.gl i).mono (Fr.refl _ _) (fun k _ h => .inl h) (fun _ _ => rfl)
      have hcall := hps'.2 w _ _ hX hgl hv'
      unfold Oper.wp
      rw [run_call hps'.1 hop]
      rw [Oper.upon_enter]
      refine hcall.mono fun e w' ⟨v, e1, e2, e3⟩ => ?_
      subst e1
      refine hK' v w' e3 ?_
      have hv2 : VR g (wset c g s2) w' r v := hfl _ _ _ _ _ _ _ e2
      cases hgb : gB s.fs gd with
      | none => exact hv2
      | some b => exact .cnd (fun _ => hv2) fun h => by rw [hb b hgb] at h; cases h
    cases hgb : gB s.fs gd with
    | none => simp only [Option.getD_none, if_true]; exact run fun b h => by rw [hgb] at h; cases h
    | some b =>
      cases b with
      | true => simp only [Option.getD_some, if_true]; exact run fun b h => by rw [hgb] at h; cases h; rfl
      | false =>
        simp only [Option.getD_some, Bool.false_eq_true, if_false]
        refine hK' undef w (Fr.refl _ _) ?_
        rw [hgb]
        exact .cnd (fun h => by cases h) fun _ => rfl
theorem pr_bor {r0 : List TOp} {K : St → Prop} {s : St} {d : Option Nat} {f : FuncId} {xs : List TV} {gd : Option (Nat × Bool)} {args : List AV} {r : AV} (hargs : ((evs c.gl s.fs xs).map strip).map (frzA s.fs) = args) (hps : PS P c.gl f args r) (hfl : Flat r)
    (hok : callOk c.gl s.fs xs gd ∧ nmAll 0 args ∧ XP P c r0 K (s.putO d (cw (gB s.fs gd) r))) : PendR P c (.pd d (.call f) xs gd) r0 K s := ⟨_, _, bor_AOkT hok.1 hargs hok.2.1 hfl (ob_of hps), hok.2.2⟩
theorem prD_bor {anc : List Nat} {fs : List Foot} {r0 : List TOp} {K : St → Prop} {s : St} {d : Option Nat} {f : FuncId} {xs : List TV} {gd : Option (Nat × Bool)} {args : List AV} {r : AV} (hargs : ((evs c.gl s.fs xs).map strip).map (frzA s.fs) = args) (hps : PS P c.gl f args r) (hfl : Flat r)
    (hok : callOk c.gl s.fs xs gd ∧ nmAll 0 args ∧ XD P c anc r0 (borFoot s.fs c.gl d xs gd :: fs) K (s.putO d (cw (gB s.fs gd) r))) : PendDR P c anc (.pd d (.call f) xs gd) r0 fs K s := ⟨_, _, bor_AOkT hok.1 hargs hok.2.1 hfl (ob_of hps), hok.2.2⟩
end
theorem r_namesS_sl (es b o n c : Nat) : namesS (.sl es b o n c) = [b] := rfl
attribute [go_sem] borFoot r_namesS_sl namesS namesA List.flatMap_cons List.flatMap_nil
end Go.Proofs.Ytblimjilinkmbaa
