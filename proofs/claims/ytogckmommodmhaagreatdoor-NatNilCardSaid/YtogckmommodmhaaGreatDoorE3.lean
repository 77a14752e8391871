/- Rows that are made and that grow, as steps of a walk. No conditions but the ones that stand in each. -/
import Derived.Test.YtogckmommodmhaaGreatDoorE2
import Derived.KernelRfl
namespace Go.Proofs.YtogckmommodmhaaGreatDoor
set_option linter.all false
set_option linter.unusedSimpArgs false
open Go.RowKit

section
variable {P : Program} {c : Cx} {ops : Array Oper} {io : Oper}

theorem killO_T (s : FS) (kb : Option Nat) (i : Nat) : (s.killO kb).T i = s.T i := by cases kb <;> rfl
theorem killO_H (s : FS) (kb : Option Nat) (j : Nat) : (s.killO kb).H j = if kb = some j then .dead else s.H j := by
  cases kb with
  | none => rfl
  | some b => simp only [FS.killO, FS.H_putB, Option.some.injEq]
theorem ovr_row {s s2 : FS} {nm d : Nat} {kb : Option Nat} {X : Bk} {V : AV} {rt rb : List Nat} : ovr s2 (((s.killO kb).putB nm X).put d V) ⟨rt, rb, [d], nm :: kb.toList⟩ = ((s2.killO kb).putB nm X).put d V := by
  refine fs_ext (fun i => ?_) fun j => ?_
  · show (if i ∈ [d] then _ else _) = _
    simp only [FS.T_put, List.mem_singleton]
    by_cases h : i = d
    · subst h; simp
    · rw [if_neg h, if_neg fun e => h e.symm]; show _ = (s2.killO kb).T i; rw [killO_T]
  · show (if j ∈ nm :: kb.toList then (((s.killO kb).putB nm X).put d V).H j else s2.H j) = _
    simp only [FS.H_put, FS.H_putB, killO_H, List.mem_cons, Option.mem_toList]
    by_cases h : nm = j
    · subst h; simp
    · simp only [if_neg h, if_neg (fun e : j = nm => h e.symm), false_or, (fun e => h e.symm : ¬ j = nm)]
      by_cases hk : kb = some j
      · subst hk; simp
      · have hk' : ¬ j ∈ kb := fun e => hk e
        simp [hk, hk']
        exact fun e => absurd e.symm h
theorem row_AOk {s : FS} {nm d : Nat} {kb : Option Nat} {X : List AV} {V : AV} {rt rb : List Nat} (hg : io.guard = none) (hdst : io.dst = some d) (hd : d < c.N)
    (core : ∀ s2 : FS, (∀ i ∈ rt, s2.T i = s.T i) → (∀ b ∈ rb, s2.H b = s.H b) → ∀ g a w, R c g s2 a w → ∃ g' v' w', (execOp a.eval io).run P w = .ok (.value v') w' ∧ R c g' ((s2.killO kb).putB nm (.cells X)) a w' ∧ VR g' (wset c g' ((s2.killO kb).putB nm (.cells X))) w' V v') :
    AOk P c ops io s ⟨rt, rb, [d], nm :: kb.toList⟩ (((s.killO kb).putB nm (.cells X)).put d V) := by
  refine ⟨fun i hi => ?_, fun j hj => ?_, fun s2 hT hH g a w hR K Q' hK => exec_of_none hg ?_⟩
  · rw [FS.T_put, if_neg (fun e => hi (by simp [e]))]; exact killO_T s kb i
  · rw [FS.H_put, FS.H_putB, killO_H, if_neg (fun e => hj (by simp [e])), if_neg (fun e => hj (by simp [e]))]
  · obtain ⟨g', v', w', hr, hR', hv⟩ := core s2 hT hH g a w hR
    unfold Oper.wp
    rw [hr]
    show K (a.put io.dst v') w'
    rw [hdst]
    refine hK g' _ w' ?_
    rw [ovr_row]
    exact hR'.put hd hv

/-! ### append -/
theorem elab_app {o : Oper} {es by_ : Nat} {str : Bool} {xs : List Operand} (h : elabPK P o = some (.app es by_ str, xs)) :
    ∃ x y t u e i z, xs = [x, y] ∧ o.op = .call ⟨.builtin .append, ⟨[x, y]⟩, ⟨[t, u]⟩⟩ ∧ P.underlying t = some (.slice e) ∧ P.info? e = some i ∧ i.zero = some z ∧ z.cells.size = i.size ∧ i.size = es ∧ i.bytes = by_ ∧ (u = t ∨ P.underlying u = some .string) := by
  unfold elabPK at h
  repeat' split at h
  all_goals first
    | (cases h; exact ⟨_, _, _, _, _, _, _, rfl, by assumption, by assumption, by assumption, by assumption, (by rename_i hc _; exact hc.1), rfl, rfl, .inl (by assumption)⟩)
    | (cases h; exact ⟨_, _, _, _, _, _, _, rfl, by assumption, by assumption, by assumption, by assumption, (by rename_i hc _ _ _; exact hc.1), rfl, rfl, .inr (by assumption)⟩)
    | (simp at h; done)
    | (cases h; done)
    | (simp [Option.map_eq_some_iff] at h; done)
    | trace_state

def appOk (s : FS) (es by_ : Nat) (str : Bool) (nm : Nat) : List AV → Prop
  | [vb, vx] => baseOk s es vb ∧ srcOk s es str vx ∧ s.H nm = .free ∧ srcN vb + srcN vx ≤ 9223372036854775807 ∧ (srcN vb + srcN vx) * by_ ≤ 140737488355328
  | _ => False
def appV (es nm : Nat) : List AV → AV
  | [vb, vx] => .sl es nm 0 (srcN vb + srcN vx) (srcN vb + srcN vx)
  | _ => .any
def appC (s : FS) (es : Nat) : List AV → List AV
  | [vb, vx] => srcC s es vb ++ srcC s es vx
  | _ => []
def appB : List AV → Option Nat
  | vb :: _ => srcB vb
  | [] => none
def appR : List AV → List Nat
  | [vb, vx] => (srcB vb).toList ++ (srcB vx).toList
  | _ => []
def St.killO (s : St) : Option Nat → St
  | some b => s.putB b .dead
  | none => s
theorem St.fs_killO (s : St) (kb : Option Nat) : (s.killO kb).fs = s.fs.killO kb := by
  cases kb with
  | none => rfl
  | some b => exact St.fs_putB _ _ _
theorem St.n_killO (s : St) (kb : Option Nat) : (s.killO kb).n = s.n := by cases kb <;> rfl
theorem srcN_congr : True := trivial
theorem srcC_congr {s s2 : FS} {es : Nat} {x : AV} (h : ∀ b, srcB x = some b → s2.H b = s.H b) : srcC s2 es x = srcC s es x := by
  cases x <;> simp only [srcC]
  rename_i b o n cc
  rw [h _ rfl]
theorem srcOk_congr {s s2 : FS} {es : Nat} {str : Bool} {x : AV} (h : ∀ b, srcB x = some b → s2.H b = s.H b) (ok : srcOk s es str x) : srcOk s2 es str x := by
  cases x <;> simp only [srcOk] at ok ⊢ <;> try exact ok
  rw [h _ rfl]; exact ok
theorem baseOk_congr {s s2 : FS} {es : Nat} {x : AV} (h : ∀ b, srcB x = some b → s2.H b = s.H b) (ok : baseOk s es x) : baseOk s2 es x := by
  cases x <;> simp only [baseOk] at ok ⊢ <;> try exact ok
  rw [h _ rfl]; exact ok

def rowFoot (s : St) (gl : Nat → AV) (d : Nat) (xs : List TV) : Foot := ⟨tmpsOf xs, s.n :: appR ((evs gl s.fs xs).map strip), [d], s.n :: (appB ((evs gl s.fs xs).map strip)).toList⟩
def rowSt (s : St) (gl : Nat → AV) (d es : Nat) (xs : List TV) : St := ((s.killO (appB ((evs gl s.fs xs).map strip))).nw (.cells (appC s.fs es ((evs gl s.fs xs).map strip)))).put d (appV es s.n ((evs gl s.fs xs).map strip))
theorem app_AOkT {s : St} {d es by_ : Nat} {str : Bool} {xs : List TV} (hc : cokAll none (evs c.gl s.fs xs)) (hok : appOk s.fs es by_ str s.n ((evs c.gl s.fs xs).map strip)) :
    AOkT P c (.pd (some d) (.app es by_ str) xs none) s.fs (rowFoot s c.gl d xs) (rowSt s c.gl d es xs).fs := by
  intro ops io he
  obtain ⟨hgd, hdst, hd, ys, hel, rfl⟩ := elab_pd he
  obtain ⟨x, y, t, u, e, i, z, rfl, hop, hu, hi, hz, hzs, hes, hby, hut⟩ := elab_app hel
  have hv2 : (evs c.gl s.fs ([x, y].map tvO)).map strip = [strip (evT c.gl s.fs (tvO x)), strip (evT c.gl s.fs (tvO y))] := rfl
  unfold rowFoot rowSt
  rw [hv2] at hok ⊢
  generalize hvb : strip (evT c.gl s.fs (tvO x)) = vb at *
  generalize hvx : strip (evT c.gl s.fs (tvO y)) = vx at *
  obtain ⟨okb, okx, hfree, h63, hb⟩ := hok
  rw [St.fs_put, St.fs_nw, St.fs_killO, St.n_killO]
  simp only [appB, appC, appV, appR]
  refine row_AOk (gd_none hgd) hdst (by simpa using hd) fun s2 hT hH g a w hR => ?_
  have hevs : evs c.gl s2 ([x, y].map tvO) = evs c.gl s.fs ([x, y].map tvO) := evs_congr hT
  have hvs := VRs_strip (hR.evs [x, y]) (by rw [hevs]; exact hc)
  rw [hevs, hv2] at hvs
  obtain ⟨v1, v2, _⟩ := hvs
  have hHb : ∀ b, srcB vb = some b → s2.H b = s.fs.H b := fun b h => hH b (by simp [h])
  have hHx : ∀ b, srcB vx = some b → s2.H b = s.fs.H b := fun b h => hH b (by simp [h])
  obtain ⟨g', v', w', hr, h1, h2⟩ := app_core (P := P) (ty := io.type) hR (nm := s.n) (by rw [hH _ (by simp)]; exact hfree) hu hut hi hz hes (hzs.trans hes) v1 v2 (baseOk_congr hHb okb) (srcOk_congr hHx okx) (by unfold maxLen; omega) (by rw [hby]; exact hb)
  rw [srcC_congr hHb, srcC_congr hHx] at h1 h2
  refine ⟨g', v', w', ?_, h1, h2⟩
  unfold execOp
  simp only [hop, resolve, invoke, builtin, Sem.run_bind, Sem.run_pure, Result.andThen_ok, List.map_toArray, List.map_cons, List.map_nil, hr]
theorem pr_app {r0 : List TOp} {K : St → Prop} {s : St} {d es by_ : Nat} {str : Bool} {xs : List TV} (h : cokAll none (evs c.gl s.fs xs) ∧ appOk s.fs es by_ str s.n ((evs c.gl s.fs xs).map strip) ∧ XP P c r0 K (rowSt s c.gl d es xs)) :
    PendR P c (.pd (some d) (.app es by_ str) xs none) r0 K s := .inl ⟨_, _, app_AOkT h.1 h.2.1, h.2.2⟩
theorem prD_app {anc : List Nat} {fs : List Foot} {r0 : List TOp} {K : St → Prop} {s : St} {d es by_ : Nat} {str : Bool} {xs : List TV} (h : cokAll none (evs c.gl s.fs xs) ∧ appOk s.fs es by_ str s.n ((evs c.gl s.fs xs).map strip) ∧ XD P c anc r0 (rowFoot s c.gl d xs :: fs) K (rowSt s c.gl d es xs)) :
    PendDR P c anc (.pd (some d) (.app es by_ str) xs none) r0 fs K s := ⟨_, _, app_AOkT h.1 h.2.1, h.2.2⟩

/-! ### Slices that are written out -/
theorem fold_size (v : List (Value × Nat)) : ∀ (off : Nat) (cs : Array Value), (v.foldl (fun cs (c, j) => cs.setIfInBounds (off + j) c) cs).size = cs.size := by
  induction v with
  | nil => intro off cs; rfl
  | cons p v ih => intro off cs; rw [List.foldl_cons, ih]; simp
theorem fill_size {place : Nat → Option (Nat × Nat)} : ∀ (l : List (Nat × Value)) (cells cells' : Array Value), Instr.fill place cells l = some cells' → cells'.size = cells.size
  | [], cells, cells', h => by simp [Instr.fill] at h; rw [h]
  | (i, v) :: l, cells, cells', h => by
    unfold Instr.fill at h
    split at h
    · cases h
    · split at h
      · cases h
      · rw [fill_size l _ _ h]
        rw [← Array.foldl_toList]
        exact fold_size _ _ _
theorem Instr_fill_size {place : Nat → Option (Nat × Nat)} {cells cells' : Array Value} {l : List (Nat × Value)} (h : Instr.fill place cells l = some cells') : cells'.size = cells.size := fill_size l cells cells' h
def reps : Nat → List AV → List AV
  | 0, _ => []
  | n + 1, z => z ++ reps n z
theorem reps_len (z : List AV) : ∀ n, (reps n z).length = n * z.length
  | 0 => by simp [reps]
  | n + 1 => by simp [reps, reps_len z n, Nat.add_mul]; omega
theorem reps_get (z : List AV) : ∀ n j, j < n * z.length → (reps n z).getD j .any = z.getD (j % z.length) .any
  | 0, j, h => by simp at h
  | n + 1, j, h => by
    simp only [reps, List.getD]
    by_cases hj : j < z.length
    · rw [List.getElem?_append_left hj, Nat.mod_eq_of_lt hj]
    · rw [List.getElem?_append_right (by omega)]
      have h2 : j - z.length < n * z.length := by rw [Nat.add_mul] at h; omega
      have ih := reps_get z n (j - z.length) h2
      simp only [List.getD] at ih
      rw [ih, ← Nat.mod_eq_sub_mod (by omega)]
theorem elab_bsl {o : Oper} {es len : Nat} {zs : List AV} {ps : List (Nat × Nat)} {xs : List Operand} (h : elabPK P o = some (.bsl es len zs ps, xs)) :
    ∃ t e i z parts, o.op = .buildSlice t len parts ∧ P.underlying t = some (.slice e) ∧ P.info? e = some i ∧ i.zero = some z ∧ z.cells.size = i.size ∧ 0 < i.size ∧ z.cells.all (·.oneCell') = true ∧ len * i.size ≤ 2 ^ 24 ∧ len ≤ 2 ^ 24 ∧
      es = i.size ∧ zs = z.cells.toList.map ofS ∧ ps = parts.toList.map (fun p => (p.1 * i.size, i.size)) ∧ xs = parts.toList.map (·.2) := by
  unfold elabPK at h
  repeat' split at h
  all_goals first
    | (simp only [Option.some.injEq, Prod.mk.injEq, PK.bsl.injEq] at h; obtain ⟨⟨rfl, rfl, rfl, rfl⟩, rfl⟩ := h
       rename_i hc; exact ⟨_, _, _, _, _, by assumption, by assumption, by assumption, by assumption, hc.1, hc.2.1, hc.2.2.1, hc.2.2.2.1, hc.2.2.2.2, rfl, rfl, rfl, rfl⟩)
    | (simp at h; done)
    | (cases h; done)
    | (simp [Option.map_eq_some_iff] at h; done)
theorem bsl_AOkT {s : St} {d es len : Nat} {zs : List AV} {ps : List (Nat × Nat)} {xs : List TV} (hc : cokAll none (evs c.gl s.fs xs)) (hlen : 0 < len) (hfree : s.fs.H s.n = .free) (hok : bldOk (reps len zs).length ps ((evs c.gl s.fs xs).map strip)) :
    AOkT P c (.pd (some d) (.bsl es len zs ps) xs none) s.fs ⟨tmpsOf xs, [s.n], [d], [s.n]⟩ ((s.nw (.cells (bldC (reps len zs) ps ((evs c.gl s.fs xs).map strip)))).put d (.sl es s.n 0 len len)).fs := by
  intro ops io he
  obtain ⟨hgd, hdst, hd, ys, hel, rfl⟩ := elab_pd he
  obtain ⟨t, e, i, z, parts, hop, hu, hi, hz, hzs, hpos, hz1, h24, h24', rfl, rfl, rfl, rfl⟩ := elab_bsl hel
  rw [St.fs_put, St.fs_nw]
  refine row_AOk (kb := none) (gd_none hgd) hdst (by simpa using hd) fun s2 hT hH g a w hR => ?_
  have hevs := evs_congr (gl := c.gl) hT
  have hvs := VRs_strip (hR.evs (parts.toList.map (·.2))) (by rw [hevs]; exact hc)
  rw [hevs] at hvs
  have hf2 : s2.H s.n = .free := by rw [hH _ (by simp), hfree]
  have hzl : (z.cells.toList.map ofS).length = i.size := by simp [hzs]
  have hrl : (reps len (z.cells.toList.map ofS)).length = len * i.size := by rw [reps_len, hzl]
  have hcl : ((Array.range (len * i.size)).map (z.cells[· % z.cells.size]!)).size = len * i.size := by simp
  have hcg : ∀ j, j < len * i.size → ((Array.range (len * i.size)).map (z.cells[· % z.cells.size]!)).getD j undef = z.cells.getD (j % i.size) undef := fun j hj => by
    have hm := Nat.mod_lt j hpos
    simp [Array.getD_eq_getD_getElem?, hj, hzs, hm]
  have h1z : ∀ j, j < i.size → (z.cells.getD j undef).oneCell' = true := fun j hj => by
    have := Array.all_eq_true.1 hz1 j (by omega)
    simpa [Array.getD_eq_getD_getElem?, show j < z.cells.size by omega] using this
  have hgz : ∀ j, j < i.size → (z.cells.toList.map ofS).getD j .any = ofS (z.cells.getD j undef) := fun j hj => by
    simp [List.getD, Array.getD_eq_getD_getElem?, show j < z.cells.size by omega]
  obtain ⟨cells', f1, f2⟩ := fill_ok (g := g) (W := wset c g s2) (w := w) (place := fun j => some (j * i.size, i.size)) (parts.toList.map fun (p : Nat × Operand) => (p.1 * i.size, i.size)) (parts.toList.map (fun (p : Nat × Operand) => p.1)) (by simp) hvs (by simp) (cs := reps len (z.cells.toList.map ofS)) (cells := (Array.range (len * i.size)).map (z.cells[· % z.cells.size]!)) hok (by rw [hcl, hrl])
    (fun j hj => by rw [hrl] at hj; rw [hcg j hj]; exact h1z _ (Nat.mod_lt _ hpos)) (fun j hj => by
      rw [hrl] at hj
      rw [hcg j hj, reps_get _ _ _ (by rw [hzl]; exact hj), hzl, hgz _ (Nat.mod_lt _ hpos)]
      exact ofS_ok _)
  obtain ⟨us, eu, q1, q2, q3⟩ := agg_inv f2
  cases eu
  have hpz : (parts.map fun (p : Nat × Operand) => (p.1, a.eval p.2)).toList = (parts.toList.map (·.1)).zip ((parts.toList.map (·.2)).map a.eval) := by
    simp only [Array.toList_map]
    induction parts.toList with
    | nil => rfl
    | cons p l ih => simp [ih]
  have hbl : (bldC (reps len (z.cells.toList.map ofS)) (parts.toList.map fun p => (p.1 * i.size, i.size)) ((evs c.gl s.fs ((parts.toList.map (·.2)).map tvO)).map strip)).length = len * i.size := by
    rw [← q1]
    have := Instr_fill_size f1
    rw [this, hcl]
  have hr := run_buildSlice (P := P) w t e len (parts.map fun (j, x) => (j, a.eval x)) cells' i z hu hi hz (by omega) (Nat.ne_of_gt (Nat.mul_pos hlen hpos)) (by rw [← hpz] at f1; exact f1)
  have hge : ∀ k, wset c g s2 k → k < w.heap.size := by
    rintro k (h | ⟨b', hl, hg'⟩)
    · have := (hR.xs k h).1; have := hR.fr.size; omega
    · exact BR.lt (hg' ▸ hR.h b') hl
  have hnew := heap_alloc_new w (.cells cells' e)
  have hR' := hR.new (b := s.n) (x := .cells (bldC (reps len (z.cells.toList.map ofS)) (parts.toList.map fun p => (p.1 * i.size, i.size)) ((evs c.gl s.fs ((parts.toList.map (·.2)).map tvO)).map strip))) (.cells cells' e) hf2 trivial fun g' hg' =>
    .cells (cur := cells') (e := e) (fz := (0, 0)) hnew (by omega) q2 (fun j hj => (q3 j hj).mono (Fr.alloc w _ _) (fun k hk h => h.resolve_right (by omega)) hg') (.inl rfl)
  refine ⟨_, _, _, ?_, hR', .sl (k := w.heap.size) (e := e) (cur := cells') (fz := (0, 0)) updG_self (Nat.le_refl _) (Nat.le_refl _) (by unfold maxLen; omega) hnew (by rw [q1, hbl]; omega)⟩
  unfold execOp
  simp only [hop, Sem.run_bind, hr, Result.andThen_ok, Sem.run_pure]
theorem pr_bsl {r0 : List TOp} {K : St → Prop} {s : St} {d es len : Nat} {zs : List AV} {ps : List (Nat × Nat)} {xs : List TV} (h : cokAll none (evs c.gl s.fs xs) ∧ 0 < len ∧ s.fs.H s.n = .free ∧ bldOk (reps len zs).length ps ((evs c.gl s.fs xs).map strip) ∧
    XP P c r0 K ((s.nw (.cells (bldC (reps len zs) ps ((evs c.gl s.fs xs).map strip)))).put d (.sl es s.n 0 len len))) : PendR P c (.pd (some d) (.bsl es len zs ps) xs none) r0 K s := .inl ⟨_, _, bsl_AOkT h.1 h.2.1 h.2.2.1 h.2.2.2.1, h.2.2.2.2⟩
theorem prD_bsl {anc : List Nat} {fs : List Foot} {r0 : List TOp} {K : St → Prop} {s : St} {d es len : Nat} {zs : List AV} {ps : List (Nat × Nat)} {xs : List TV} (h : cokAll none (evs c.gl s.fs xs) ∧ 0 < len ∧ s.fs.H s.n = .free ∧ bldOk (reps len zs).length ps ((evs c.gl s.fs xs).map strip) ∧
    XD P c anc r0 (⟨tmpsOf xs, [s.n], [d], [s.n]⟩ :: fs) K ((s.nw (.cells (bldC (reps len zs) ps ((evs c.gl s.fs xs).map strip)))).put d (.sl es s.n 0 len len))) : PendDR P c anc (.pd (some d) (.bsl es len zs ps) xs none) r0 fs K s := ⟨_, _, bsl_AOkT h.1 h.2.1 h.2.2.1 h.2.2.2.1, h.2.2.2.2⟩

/-! ### The bytes of a string, as a new row -/
theorem elab_s2b {o : Oper} {xs : List Operand} (h : elabPK P o = some (.s2b, xs)) : ∃ src dst e x, o.op = .convert src dst x ∧ P.underlying src = some .string ∧ P.underlying dst = some (.slice e) ∧ P.underlying e = some (.int .u8) ∧ xs = [x] := by
  unfold elabPK at h
  repeat' split at h
  all_goals first
    | (simp only [Option.some.injEq, Prod.mk.injEq, true_and] at h; subst h; exact ⟨_, _, _, _, by assumption, by assumption, by assumption, by assumption, rfl⟩)
    | (simp at h; done)
    | (cases h; done)
    | (simp [Option.map_eq_some_iff] at h; done)
def isStr : AV → Prop
  | .str _ => True
  | _ => False
theorem s2b_AOkT {s : St} {d : Nat} {x : TV} (hc : cok none (evT c.gl s.fs x)) (hfree : s.fs.H s.n = .free) (hok : isStr (strip (evT c.gl s.fs x)) ∧ (asS (strip (evT c.gl s.fs x))).length ≤ 9223372036854775807) :
    AOkT P c (.pd (some d) .s2b [x] none) s.fs ⟨tmpsOf [x], [s.n], [d], [s.n]⟩ ((s.nw (.cells (byts (asS (strip (evT c.gl s.fs x)))))).put d (.sl 1 s.n 0 (asS (strip (evT c.gl s.fs x))).length (asS (strip (evT c.gl s.fs x))).length)).fs := by
  intro ops io he
  obtain ⟨hgd, hdst, hd, ys, hel, hys⟩ := elab_pd he
  obtain ⟨src, dst, e, y, hop, hs, hdd, hee, rfl⟩ := elab_s2b hel
  simp only [List.map_cons, List.map_nil, List.cons.injEq, and_true] at hys
  subst hys
  rw [St.fs_put, St.fs_nw]
  refine row_AOk (kb := none) (gd_none hgd) hdst (by simpa using hd) fun s2 hT hH g a w hR => ?_
  have hev : evT c.gl s2 (tvO y) = evT c.gl s.fs (tvO y) := by
    have := evs_congr (gl := c.gl) (xs := [tvO y]) hT
    simpa [evs] using this
  have hv := strip_ok (hR.ev y) (by rw [hev]; exact hc)
  rw [hev] at hv
  obtain ⟨h1, h2⟩ := hok
  generalize strip (evT c.gl s.fs (tvO y)) = v at *
  cases v <;> simp only [isStr] at h1
  rename_i l
  simp only [asS] at h2 ⊢
  have hf2 : s2.H s.n = .free := by rw [hH _ (by simp), hfree]
  generalize hy : a.eval y = uy at hv
  cases hv
  have hr := run_bytes_of_string (P := P) w src dst e ⟨l.toArray⟩ hs hdd hee
  have hsz : (⟨l.toArray⟩ : ByteArray).size = l.length := rfl
  rw [hsz] at hr
  generalize hcap : grownCap w l.length 0 e = cap at hr
  have hge : l.length ≤ cap := by rw [← hcap]; exact grownCap_ge w _ _ _
  have hle : cap ≤ maxLen := by rw [← hcap]; exact grownCap_le_maxLen w _ _ _ (by unfold maxLen; omega)
  have hbs : (bytesRow ⟨l.toArray⟩ cap).size = cap := by simp [bytesRow, hsz]; omega
  have hbg : ∀ j (hj : j < l.length), (bytesRow ⟨l.toArray⟩ cap).getD j undef = .int .u8 (l[j]).toNat := fun j hj => by
    have := bytesRow_at ⟨l.toArray⟩ cap j (by simpa using hj)
    rw [Array.getD_eq_getD_getElem?, this]; simp
  have hRd : R c g s2 a w.drew := hR.grow (Fr.drew w _)
  have hge' : ∀ k, wset c g s2 k → k < w.drew.heap.size := by
    rintro k (h | ⟨b', hl, hg'⟩)
    · have := (hRd.xs k h).1; have := hRd.fr.size; omega
    · exact BR.lt (hg' ▸ hRd.h b') hl
  have hnew := heap_alloc_new w.drew (.cells (bytesRow ⟨l.toArray⟩ cap) e ((bytesRow ⟨l.toArray⟩ cap).size, (bytesRow ⟨l.toArray⟩ cap).size + 1))
  have hbl : (byts l).length = l.length := byts_len l
  have hR' := hRd.new (b := s.n) (x := .cells (byts l)) (.cells (bytesRow ⟨l.toArray⟩ cap) e ((bytesRow ⟨l.toArray⟩ cap).size, (bytesRow ⟨l.toArray⟩ cap).size + 1)) hf2 trivial fun g' hg' => by
    refine .cells (cur := bytesRow ⟨l.toArray⟩ cap) (e := e) hnew (by rw [hbl, hbs]; exact hge) (fun j hj => ?_) (fun j hj => ?_) (.inr (Nat.le_refl _))
    · rw [hbg j (by omega)]; rfl
    · rw [hbg j (by omega), byts_get (by omega)]
      simp only [List.getD, List.getElem?_eq_getElem (show j < l.length by omega), Option.getD_some]
      exact .int _ _
  refine ⟨_, _, _, ?_, hR', .sl (k := w.heap.size) (e := e) updG_self (Nat.le_refl _) hge hle hnew (by rw [hbs]; omega)⟩
  unfold execOp
  simp only [hop, hy, Sem.run_bind, hr, Result.andThen_ok, Sem.run_pure]
theorem pr_s2b {r0 : List TOp} {K : St → Prop} {s : St} {d : Nat} {x : TV} (h : cok none (evT c.gl s.fs x) ∧ s.fs.H s.n = .free ∧ (isStr (strip (evT c.gl s.fs x)) ∧ (asS (strip (evT c.gl s.fs x))).length ≤ 9223372036854775807) ∧
    XP P c r0 K ((s.nw (.cells (byts (asS (strip (evT c.gl s.fs x)))))).put d (.sl 1 s.n 0 (asS (strip (evT c.gl s.fs x))).length (asS (strip (evT c.gl s.fs x))).length))) : PendR P c (.pd (some d) .s2b [x] none) r0 K s := .inl ⟨_, _, s2b_AOkT h.1 h.2.1 h.2.2.1, h.2.2.2⟩
theorem prD_s2b {anc : List Nat} {fs : List Foot} {r0 : List TOp} {K : St → Prop} {s : St} {d : Nat} {x : TV} (h : cok none (evT c.gl s.fs x) ∧ s.fs.H s.n = .free ∧ (isStr (strip (evT c.gl s.fs x)) ∧ (asS (strip (evT c.gl s.fs x))).length ≤ 9223372036854775807) ∧
    XD P c anc r0 (⟨tmpsOf [x], [s.n], [d], [s.n]⟩ :: fs) K ((s.nw (.cells (byts (asS (strip (evT c.gl s.fs x)))))).put d (.sl 1 s.n 0 (asS (strip (evT c.gl s.fs x))).length (asS (strip (evT c.gl s.fs x))).length))) : PendDR P c anc (.pd (some d) .s2b [x] none) r0 fs K s := ⟨_, _, s2b_AOkT h.1 h.2.1 h.2.2.1, h.2.2.2⟩
end
theorem r_srcC_isl (s : FS) (es m : Nat) (ds : List AV) : srcC s es (.isl m ds) = ds.take (m * es) := rfl
theorem r_srcC_sl (s : FS) (es es2 b o m c : Nat) : srcC s es (.sl es2 b o m c) = ((cellsB (s.H b)).drop o).take (m * es) := rfl
theorem r_srcC_str (s : FS) (es : Nat) (l : List UInt8) : srcC s es (.str l) = byts l := rfl
theorem r_srcC_nils (s : FS) (es : Nat) : srcC s es .nils = [] := rfl
theorem r_srcOk_isl (s : FS) (es m : Nat) (b : Bool) (ds : List AV) : srcOk s es b (.isl m ds) = (b = false ∧ m * es ≤ ds.length) := rfl
theorem r_srcOk_sl (s : FS) (es es2 k o m c : Nat) (b : Bool) : srcOk s es b (.sl es2 k o m c) = (b = false ∧ es2 = es ∧ o + m * es ≤ (cellsB (s.H k)).length) := rfl
theorem r_srcOk_str (s : FS) (es : Nat) (b : Bool) (l : List UInt8) : srcOk s es b (.str l) = (b = true ∧ es = 1) := rfl
theorem r_srcOk_lit (s : FS) (es : Nat) (b : Bool) (a : Option Addr) (c : Nat) : srcOk s es b (.lit (.slice a 0 c)) = (b = false) := by simp [srcOk, noRow]
theorem r_srcN_lit (v : Value) : srcN (.lit v) = 0 := rfl
theorem r_srcB_lit (v : Value) : srcB (.lit v) = none := rfl
theorem r_srcC_lit (s : FS) (es : Nat) (v : Value) : srcC s es (.lit v) = [] := rfl
theorem r_srcOk_nils (s : FS) (es : Nat) (b : Bool) : srcOk s es b .nils = (b = false) := rfl
theorem r_baseOk_sl (s : FS) (es es2 b o n c : Nat) : baseOk s es (.sl es2 b o n c) = (es2 = es ∧ o = 0 ∧ n * es ≤ (cellsB (s.H b)).length ∧ (s.H b).live) := rfl
theorem r_baseOk_nils (s : FS) (es : Nat) : baseOk s es .nils = True := rfl
theorem r_srcB_sl (es b o n c : Nat) : srcB (.sl es b o n c) = some b := rfl
theorem r_srcB_nils : srcB .nils = none := rfl
theorem r_srcB_isl (n : Nat) (cs : List AV) : srcB (.isl n cs) = none := rfl
theorem r_srcB_str (l : List UInt8) : srcB (.str l) = none := rfl
theorem r_appOk (s : FS) (es by_ nm : Nat) (b : Bool) (x y : AV) : appOk s es by_ b nm [x, y] = (baseOk s es x ∧ srcOk s es b y ∧ s.H nm = .free ∧ srcN x + srcN y ≤ 9223372036854775807 ∧ (srcN x + srcN y) * by_ ≤ 140737488355328) := rfl
theorem r_appV (es nm : Nat) (x y : AV) : appV es nm [x, y] = .sl es nm 0 (srcN x + srcN y) (srcN x + srcN y) := rfl
theorem r_appC (s : FS) (es : Nat) (x y : AV) : appC s es [x, y] = srcC s es x ++ srcC s es y := rfl
theorem r_appB (x : AV) (r : List AV) : appB (x :: r) = srcB x := rfl
theorem r_appR (x y : AV) : appR [x, y] = (srcB x).toList ++ (srcB y).toList := rfl
theorem r_killS (s : St) (b : Nat) : s.killO (some b) = s.putB b .dead := rfl
theorem r_killN (s : St) : s.killO none = s := rfl
theorem r_reps0 (z : List AV) : reps 0 z = [] := rfl
theorem r_reps1 (n : Nat) (z : List AV) : reps (n + 1) z = z ++ reps n z := rfl
theorem r_isStr (l : List UInt8) : isStr (.str l) = True := rfl
theorem r_live (cs : List AV) : (Bk.cells cs).live = True := rfl
theorem byts_snocW (l : List UInt8) (n : Int) (r : List AV) : byts l ++ (.int .u8 (IntKind.u8.wrap n) :: r) = byts (l ++ [UInt8.ofNat (IntKind.u8.wrap n).toNat]) ++ r := by
  have h0 : 0 ≤ IntKind.u8.wrap n ∧ IntKind.u8.wrap n < 256 := by rw [IntKind.wrap_u8]; omega
  generalize IntKind.u8.wrap n = k at h0 ⊢
  simp [byts]; omega
theorem byts_snoc {l : List UInt8} {n : Int} {r : List AV} (h0 : 0 ≤ n) (h1 : n < 256) : byts l ++ (.int .u8 n :: r) = byts (l ++ [UInt8.ofNat n.toNat]) ++ r := by
  simp [byts]; omega
theorem byts_nil : byts [] = [] := rfl
theorem ints_nil : ints [] = [] := rfl
theorem ints_snoc {l : List Int} {n : Int} {r : List AV} : ints l ++ (.int .i64 n :: r) = ints (l ++ [n]) ++ r := by simp [ints]
attribute [go_sem] srcN_sl srcN_isl srcN_str srcN_nils r_srcC_isl r_srcC_sl r_srcC_str r_srcC_nils r_srcOk_isl r_srcOk_sl r_srcOk_str r_srcOk_nils r_srcOk_lit r_srcN_lit r_srcB_lit r_srcC_lit r_baseOk_sl r_baseOk_nils r_srcB_sl r_srcB_nils r_srcB_isl r_srcB_str r_appOk r_appV r_appC r_appB r_appR r_killS r_killN r_reps0 r_reps1 r_isStr r_live byts_snocW byts_snoc ints_snoc byts_nil ints_nil rowFoot rowSt List.append_nil List.length_append byts_app ints_app
end Go.Proofs.YtogckmommodmhaaGreatDoor

/-! Calls that are lent rows. No conditions but the ones that stand in each. -/
namespace Go.Proofs.YtogckmommodmhaaGreatDoor
set_option linter.all false
set_option linter.unusedSimpArgs false
open Go.RowKit

/-- What says the same in every world. -/
def Flat (r : AV) : Prop := ∀ (g g' : Nat → GM) (W W' : Nat → Prop) (w w' : World) (v : Value), VR g W w r v → VR g' W' w' r v
theorem Flat.int (k : IntKind) (n : Int) : Flat (.int k n) := fun _ _ _ _ _ _ _ h => by cases h; exact .int _ _
theorem Flat.bool (b : Bool) : Flat (.bool b) := fun _ _ _ _ _ _ _ h => by cases h; exact .bool _
theorem Flat.str (l : List UInt8) : Flat (.str l) := fun _ _ _ _ _ _ _ h => by cases h; exact .str _
theorem Flat.nils : Flat .nils := fun _ _ _ _ _ _ _ h => by cases h; exact .nils _
theorem Flat.agg {cs : List AV} (h : ∀ x ∈ cs, Flat x) : Flat (.agg cs) := fun g g' W W' w w' v hv => by
  obtain ⟨us, rfl, h1, h2, h3⟩ := agg_inv hv
  refine .agg h1 h2 fun j hj => ?_
  refine h _ ?_ _ _ _ _ _ _ _ (h3 j hj)
  simp only [List.getD, List.getElem?_eq_getElem hj, Option.getD_some]; exact List.getElem_mem hj
theorem Flat.tup {cs : List AV} (h : ∀ x ∈ cs, Flat x) : Flat (.tup cs) := fun g g' W W' w w' v hv => by
  obtain ⟨us, rfl, h1, h3⟩ := tup_inv hv
  refine .tup h1 fun j hj => ?_
  refine h _ ?_ _ _ _ _ _ _ _ (h3 j hj)
  simp only [List.getD, List.getElem?_eq_getElem hj, Option.getD_some]; exact List.getElem_mem hj
theorem Flat.ints (l : List Int) : ∀ x ∈ ints l, Flat x := fun x hx => by
  simp only [Proofs.YtogckmommodmhaaGreatDoor.ints, List.mem_map] at hx; obtain ⟨n, _, rfl⟩ := hx; exact .int _ _
theorem Flat.bools (l : List Bool) : ∀ x ∈ bools l, Flat x := fun x hx => by
  simp only [Proofs.YtogckmommodmhaaGreatDoor.bools, List.mem_map] at hx; obtain ⟨n, _, rfl⟩ := hx; exact .bool _

def namesS : AV → List Nat
  | .sl _ b _ _ _ => [b]
  | _ => []
def namesA : AV → List Nat
  | .agg cs => cs.flatMap namesS
  | v => namesS v
theorem frzS_congr {s s2 : FS} : ∀ {v : AV}, (∀ b ∈ namesS v, s2.H b = s.H b) → frzS s2 v = frzS s v := fun {v} h => by
  cases v <;> simp only [frzS]
  rw [h _ (by simp [namesS])]
theorem frzA_congr {s s2 : FS} {v : AV} (h : ∀ b ∈ namesA v, s2.H b = s.H b) : frzA s2 v = frzA s v := by
  cases v <;> simp only [frzA]
  case agg cs =>
    congr 1
    refine List.map_congr_left fun x hx => frzS_congr fun b hb => h b ?_
    simp only [namesA, List.mem_flatMap]; exact ⟨x, hx, hb⟩
  all_goals exact frzS_congr h

section
variable {P : Program} {c : Cx}
def borFoot (s : FS) (gl : Nat → AV) (d : Option Nat) (xs : List TV) (gd : Option (Nat × Bool)) : Foot := ⟨gdT gd ++ tmpsOf xs, ((evs gl s xs).map strip).flatMap namesA, d.toList, []⟩
theorem VRs_map {g g' : Nat → GM} {W W' : Nat → Prop} {w : World} {f : AV → AV} : ∀ {xs : List AV} {vs : List Value}, VRs g W w xs vs → (∀ x ∈ xs, ∀ v, VR g W w x v → VR g' W' w (f x) v) → VRs g' W' w (xs.map f) vs
  | [], [], _, _ => trivial
  | x :: xs, v :: vs, h, k => ⟨k x (by simp) v h.1, VRs_map h.2 fun y hy => k y (by simp [hy])⟩
  | [], _ :: _, h, _ => h.elim
  | _ :: _, [], h, _ => h.elim
theorem bor_AOkT {s : St} {d : Option Nat} {f : FuncId} {xs : List TV} {gd : Option (Nat × Bool)} {args : List AV} {r : AV} (hok : callOk c.gl s.fs xs gd) (hargs : ((evs c.gl s.fs xs).map strip).map (frzA s.fs) = args) (hnm : nmAll 0 args) (hfl : Flat r)
    (hps : ob (gB s.fs gd) (PS P c.gl f args r)) : AOkT P c (.pd d (.call f) xs gd) s.fs (borFoot s.fs c.gl d xs gd) (s.putO d (cw (gB s.fs gd) r)).fs := by
  intro ops io he
  obtain ⟨hgd, hdst, hd, ys, hel, rfl⟩ := elab_pd he
  obtain ⟨ts, hop⟩ := elab_call hel
  have hput : (s.putO d (cw (gB s.fs gd) r)).fs = match d with | some d => s.fs.put d (cw (gB s.fs gd) r) | none => s.fs := by
    cases d with
    | none => rfl
    | some d => exact St.fs_put _ _ _
  rw [hput]
  refine ⟨fun i hi => ?_, fun b _ => by cases d <;> rfl, ?_⟩
  · cases d with
    | none => rfl
    | some d => show (s.fs.put d _).T i = _; rw [FS.T_put, if_neg (fun e => hi (by simp [borFoot, e]))]
  · intro s2 hT hH g a w hR K Q' hK
    have hevs : evs c.gl s2 (ys.map tvO) = evs c.gl s.fs (ys.map tvO) := evs_congr fun i hi => hT i (by simp [borFoot, hi])
    have hg : ∀ t b, gd = some (t, b) → s2.T t = s.fs.T t := fun t b e => hT t (by simp [borFoot, e, gdT])
    have hgB : gB s2 gd = gB s.fs gd := by
      cases gd with
      | none => rfl
      | some p => obtain ⟨t, b⟩ := p; simp only [gB, hg t b rfl]
    have hgO : gOk s2 gd := by
      have := hok.1
      cases gd with
      | none => exact this
      | some p => obtain ⟨t, b⟩ := p; simpa only [gOk, hg t b rfl] using this
    have hK' : ∀ v w', Fr w w' (fun _ => False) → VR g (wset c g s2) w' (cw (gB s.fs gd) r) v → K (a.put io.dst v) w' := fun v w' hf hv => by
      rw [hdst]
      have hR' := hR.grow hf
      cases d with
      | none =>
        refine hK g _ w' ?_
        have : ovr s2 s.fs (borFoot s.fs c.gl none (ys.map tvO) gd) = s2 := by unfold ovr borFoot; simp
        simp only [this]; exact hR'
      | some d =>
        refine hK g _ w' ?_
        show R c g (ovr s2 (s.fs.put d _) ⟨gdT gd ++ tmpsOf (ys.map tvO), _, [d], []⟩) _ _
        rw [ovr_put]
        exact hR'.put (by simpa using hd) hv
    unfold Exec1
    rw [guard_ok hgd hR hgO, hgB]
    have run : (∀ b, gB s.fs gd = some b → b = true) → io.wp P a w K Q' := by
      intro hb
      have hc1 : cokAll none (evs c.gl s2 (ys.map tvO)) := by
        rw [hevs]
        have := hok.2
        cases hgb : gB s.fs gd with
        | none => rw [hgb] at this; exact this
        | some b => rw [hgb] at this; exact cokAll_mono (hb b hgb) this
      have hps' : PS P c.gl f args r := by
        cases hgb : gB s.fs gd with
        | none => rw [hgb] at hps; exact hps
        | some b => rw [hgb] at hps; exact hps (hb b hgb)
      have hv := VRs_strip (hR.evs ys) hc1
      rw [hevs] at hv
      have hcg : ∀ x ∈ (evs c.gl s.fs (ys.map tvO)).map strip, frzA s2 x = frzA s.fs x := fun x hx => frzA_congr fun b hb => hH b (by simp only [borFoot, List.mem_flatMap]; exact ⟨x, hx, hb⟩)
      have hv' : VRs (fun _ => .un) c.X w args (ys.map a.eval) := by
        rw [← hargs] at hnm ⊢
        refine VRs_map hv fun x hx v h => ?_
        have hn := nmAll_iff.1 hnm (frzA s.fs x) (List.mem_map_of_mem hx)
        rw [← hcg x hx] at hn ⊢
        exact frzA_ok hR h hn
      have hX : ∀ k, c.X k → k < w.heap.size := fun k h => by have := (hR.xs k h).1; have := hR.fr.size; omega
      have hgl : ∀ i, VR (fun _ => .un) c.X w (c.gl i) (.pointer (some ⟨i, 0, none⟩)) := fun i => (hR.gl i).mono (Fr.refl _ _) (fun k _ h => .inl h) (fun _ _ => rfl)
      have hcall := hps'.2 w _ _ hX hgl hv'
      unfold Oper.wp
      rw [run_call hps'.1 hop]
      rw [Oper.upon_enter]
      refine hcall.mono fun e w' ⟨v, e1, e2, e3⟩ => ?_
      subst e1
      refine hK' v w' e3 ?_
      have hv2 : VR g (wset c g s2) w' r v := hfl _ _ _ _ _ _ _ e2
      cases hgb : gB s.fs gd with
      | none => exact hv2
      | some b => exact .cnd (fun _ => hv2) fun h => by rw [hb b hgb] at h; cases h
    cases hgb : gB s.fs gd with
    | none => simp only [Option.getD_none, if_true]; exact run fun b h => by rw [hgb] at h; cases h
    | some b =>
      cases b with
      | true => simp only [Option.getD_some, if_true]; exact run fun b h => by rw [hgb] at h; cases h; rfl
      | false =>
        simp only [Option.getD_some, Bool.false_eq_true, if_false]
        refine hK' undef w (Fr.refl _ _) ?_
        rw [hgb]
        exact .cnd (fun h => by cases h) fun _ => rfl
theorem pr_bor {r0 : List TOp} {K : St → Prop} {s : St} {d : Option Nat} {f : FuncId} {xs : List TV} {gd : Option (Nat × Bool)} {args : List AV} {r : AV} (hargs : ((evs c.gl s.fs xs).map strip).map (frzA s.fs) = args) (hps : PS P c.gl f args r) (hfl : Flat r)
    (hok : callOk c.gl s.fs xs gd ∧ nmAll 0 args ∧ XP P c r0 K (s.putO d (cw (gB s.fs gd) r))) : PendR P c (.pd d (.call f) xs gd) r0 K s := .inl ⟨_, _, bor_AOkT hok.1 hargs hok.2.1 hfl (ob_of hps), hok.2.2⟩
theorem prD_bor {anc : List Nat} {fs : List Foot} {r0 : List TOp} {K : St → Prop} {s : St} {d : Option Nat} {f : FuncId} {xs : List TV} {gd : Option (Nat × Bool)} {args : List AV} {r : AV} (hargs : ((evs c.gl s.fs xs).map strip).map (frzA s.fs) = args) (hps : PS P c.gl f args r) (hfl : Flat r)
    (hok : callOk c.gl s.fs xs gd ∧ nmAll 0 args ∧ XD P c anc r0 (borFoot s.fs c.gl d xs gd :: fs) K (s.putO d (cw (gB s.fs gd) r))) : PendDR P c anc (.pd d (.call f) xs gd) r0 fs K s := ⟨_, _, bor_AOkT hok.1 hargs hok.2.1 hfl (ob_of hps), hok.2.2⟩
end
theorem r_namesS_sl (es b o n c : Nat) : namesS (.sl es b o n c) = [b] := rfl
attribute [go_sem] borFoot r_namesS_sl namesS namesA List.flatMap_cons List.flatMap_nil
end Go.Proofs.YtogckmommodmhaaGreatDoor

/-! Calls that take named blocks and hand blocks back. No conditions but the ones that stand in each. -/
namespace Go.Proofs.YtogckmommodmhaaGreatDoor
set_option linter.all false
set_option linter.unusedSimpArgs false
open Go.RowKit

section
variable {P : Program} {c : Cx} {g g' : Nat → GM} {s : FS} {a : Act} {w w' : World} {W W' : Nat → Prop}

/-- The blocks of a caller as the callee is to see them. -/
structure Fit (σ : Nat → Nat) (s : FS) (hin : List (Nat × Bk)) (m : Nat) : Prop where
  mem : ∀ p ∈ hin, p.1 < m ∧ nmB m p.2 ∧ s.H (σ p.1) = renB σ p.2
  inj : ∀ p ∈ hin, ∀ q ∈ hin, σ p.1 = σ q.1 → p.1 = q.1
def lentG (g : Nat → GM) (σ : Nat → Nat) (hin : List (Nat × Bk)) (m : Nat) (k : Nat) : Prop := ∃ b, (lookb hin m b).live ∧ g (σ b) = .re k
def lentX (c : Cx) (g : Nat → GM) (s : FS) (G : Nat → Prop) (k : Nat) : Prop := wset c g s k ∧ ¬ G k
def lentC (c : Cx) (g : Nat → GM) (s : FS) (w : World) (σ : Nat → Nat) (hin : List (Nat × Bk)) (m : Nat) : Cx := ⟨0, w, lentG g σ hin m, lentX c g s (lentG g σ hin m), c.gl, []⟩
theorem listed_of_live {h : List (Nat × Bk)} {m b : Nat} (hl : (lookb h m b).live) : ∃ p ∈ h, p.1 = b ∧ lookb h m b = p.2 := by
  rcases lookb_cases h m b with e | e
  · rw [e] at hl; split at hl <;> exact hl.elim
  · exact e

open Classical in
theorem lend {σ : Nat → Nat} {hin : List (Nat × Bk)} {m : Nat} (hR : R c g s a w) (fit : Fit σ s hin m) : ∃ g1 : Nat → GM, (∀ b, b < m → g (σ b) ≠ .un → g (σ b) = g1 b) ∧
    R (lentC c g s w σ hin m) g1 (⟨[], hin, m⟩ : St).fs ⟨#[], []⟩ w ∧ (∀ k, wset (lentC c g s w σ hin m) g1 (⟨[], hin, m⟩ : St).fs k → wset c g s k) := by
  let g1 : Nat → GM := fun b => if b < m then (if g (σ b) = .un then .ph else g (σ b)) else .un
  have hg1 : ∀ b, b < m → g (σ b) ≠ .un → g (σ b) = g1 b := fun b hb h => by simp only [g1, if_pos hb, if_neg h]
  have hge : ∀ b, m ≤ b → g1 b = .un := fun b hb => by simp only [g1]; rw [if_neg (by omega)]
  have hne : ∀ b, b < m → g1 b ≠ .un := fun b hb => by
    simp only [g1, if_pos hb]
    split
    · intro h; cases h
    · assumption
  have hlv : ∀ b, (lookb hin m b).live → b < m ∧ (s.H (σ b)).live ∧ g1 b = g (σ b) := fun b hl => by
    obtain ⟨p, hp, rfl, e⟩ := listed_of_live hl
    obtain ⟨h1, h2, h3⟩ := fit.mem p hp
    have hlv : (s.H (σ p.1)).live := by rw [h3, live_renB]; exact live_of_nmB h2
    refine ⟨h1, hlv, (hg1 _ h1 fun e => ?_).symm⟩
    have := hR.h (σ p.1)
    rw [e] at this
    generalize s.H (σ p.1) = x at this hlv
    exact this.ne_un hlv
  have hW : ∀ k, wset (lentC c g s w σ hin m) g1 (⟨[], hin, m⟩ : St).fs k → wset c g s k := by
    rintro k (h | ⟨b, h1, h2⟩)
    · exact h.1
    · obtain ⟨_, h4, h5⟩ := hlv b h1
      exact .inr ⟨σ b, h4, by rw [← h5]; exact h2⟩
  refine ⟨g1, hg1, ⟨rfl, rfl, fun i => .any _, fun i => (hR.gl i).mono (Fr.refl w _) (fun k _ => hW k) (fun _ _ => rfl), fun b => ?_, fun b b' k h1 h2 e1 e2 => ?_, fun b k h1 e1 => ?_, Fr.refl _ _, fun k hk => ⟨?_, hk.2⟩, fun p hp => by cases hp⟩, hW⟩
  · show BR g1 _ w _ (lookb hin m b)
    rcases lookb_cases hin m b with h | ⟨p, h1, rfl, h3⟩
    · rw [h]
      split
      · rename_i hb; exact .dead (hne b hb)
      · rename_i hb; rw [hge b (by omega)]; exact .free
    · rw [h3]
      obtain ⟨q1, q2, q3⟩ := fit.mem p h1
      obtain ⟨_, _, e5⟩ := hlv p.1 (by rw [h3]; exact live_of_nmB q2)
      rw [e5]
      have hbr := hR.h (σ p.1)
      rw [q3] at hbr
      exact hbr.unren hg1 q2 hW
  · obtain ⟨p1, hp1, rfl, _⟩ := listed_of_live h1
    obtain ⟨p2, hp2, rfl, _⟩ := listed_of_live h2
    obtain ⟨_, l1, d1⟩ := hlv _ h1
    obtain ⟨_, l2, d2⟩ := hlv _ h2
    exact fit.inj p1 hp1 p2 hp2 (hR.inj _ _ k l1 l2 (by rw [← d1]; exact e1) (by rw [← d2]; exact e2))
  · obtain ⟨_, l1, d1⟩ := hlv _ h1
    exact .inr ⟨b, h1, by rw [← d1]; exact e1⟩
  · rcases hk.1 with h | ⟨b', hl, hg'⟩
    · have := (hR.xs k h).1; have := hR.fr.size; show k < w.heap.size; omega
    · exact BR.lt (hg' ▸ hR.h b') hl

def Hst (h : List (Nat × Bk)) (n : Nat) : FS := (⟨[], h, n⟩ : St).fs
/-- Of these arguments, and with these blocks under the names below m, the call yields r and leaves these blocks. -/
def GS (P : Program) (gl : Nat → AV) (f : FuncId) (args : List AV) (hin : List (Nat × Bk)) (m : Nat) (r : AV) (hout : List (Nat × Bk)) (n : Nat) : Prop :=
  Callable P f ∧ ∀ (w : World) (vs : List Value) (G X : Nat → Prop) (g : Nat → GM), R ⟨0, w, G, X, gl, []⟩ g (Hst hin m) ⟨#[], []⟩ w → VRs g (wset ⟨0, w, G, X, gl, []⟩ g (Hst hin m)) w args vs →
    Calls P f vs.toArray w fun e w' => ∃ v g', e = .returned v ∧ R ⟨0, w, G, X, gl, []⟩ g' (Hst hout n) ⟨#[], []⟩ w' ∧ (∀ b, b < m → g' b = g b) ∧ VR g' (wset ⟨0, w, G, X, gl, []⟩ g' (Hst hout n)) w' r v

/-- The end of such a body: its names brought in order. -/
def genK (m : Nat) (rs : List RS) (r : AV) (hout : List (Nat × Bk)) (n : Nat) : EX → St → Prop
  | .exit _, _ => False
  | _, s => rvOk s.fs rs ∧ ∃ ρ, pinL m ρ n ∧ Sub (rl ρ) ⟨[(0, rvs s.fs rs)], s.h, s.n⟩ ⟨[(0, r)], hout, n⟩

theorem R_startG {w : World} {vs : List Value} {args : List AV} {N : Nat} (hN : args.length ≤ N) {G X : Nat → Prop} {gl : Nat → AV} {g : Nat → GM} {hin : List (Nat × Bk)} {m : Nat} {gh : List (Nat × GM)} (hR : R ⟨0, w, G, X, gl, []⟩ g (Hst hin m) ⟨#[], []⟩ w)
    (hv : VRs g (wset ⟨0, w, G, X, gl, []⟩ g (Hst hin m)) w args vs) (hpin : ∀ p ∈ gh, g p.1 = p.2 ∧ p.2 ≠ .un) :
    R ⟨N, w, G, X, gl, gh⟩ g (⟨argT 0 args, hin, m⟩ : St).fs { tmps := vs.toArray ++ Array.replicate (N - vs.toArray.size) undef, defers := [] } w := by
  have hl := hv.length
  refine ⟨by simp; omega, rfl, fun i => ?_, hR.gl, hR.h, hR.inj, hR.old, hR.fr, hR.xs, hpin⟩
  show VR g _ w (look (argT 0 args) i) _
  rw [look_argT]
  split
  · rename_i h
    have hi : i < vs.length := by omega
    have := hv.get i (by omega)
    have e : (vs.toArray ++ Array.replicate (N - vs.toArray.size) undef).getD i undef = vs.getD i undef := by
      simp only [Array.getD_eq_getD_getElem?, List.getD]
      rw [Array.getElem?_append_left (by simpa using hi)]
      simp
    rw [e]
    have h2 : VR g (wset ⟨0, w, G, X, gl, []⟩ g (Hst hin m)) w (args.getD (i - 0) .any) (vs.getD i undef) := by simpa using this
    exact h2
  · exact .any _

theorem gs_of_xw {gl : Nat → AV} {f : FuncId} {fn : Func} {code : Code} {t : TC} {rs : List RS} {args : List AV} {hin hout : List (Nat × Bk)} {m n : Nat} {r : AV} (hm : P.follows .mixedOrders = true) (hf : P.funcs[f]? = some fn) (hb : fn.body = some code) (hname : (fn.name == "runtime.NumGoroutine") = false)
    (he : elabC P fn.ntmps code = some t) (hr : elabR P fn.results.toList = some rs) (hN : args.length ≤ fn.ntmps) (hlive : ∀ p ∈ hin, p.2.live)
    (h : ∀ c : Cx, (∀ p ∈ c.gh, p.1 < m) → c.gl = gl → xw P c t (genK m rs r hout n) ⟨argT 0 args, hin, m⟩) : GS P gl f args hin m r hout n := by
  refine ⟨⟨fn, hf, by rw [hb]; rfl, hname⟩, fun w vs G X g hR0 hv => ?_⟩
  refine calls_of_wp hf hb ?_
  have hun : ∀ b, b < m → g b ≠ .un := fun b hbm e => by
    have := hR0.h b
    rw [e] at this
    have hh : (Hst hin m).H b = lookb hin m b := rfl
    rw [hh] at this
    rcases lookb_cases hin m b with q | ⟨p, hp, _, q⟩
    · rw [q, if_pos hbm] at this; cases this; rename_i h; exact h rfl
    · rw [q] at this
      have hl := hlive p hp
      cases hx : p.2 with
      | free => rw [hx] at hl; exact hl.elim
      | dead => rw [hx] at hl; exact hl.elim
      | cells cs => rw [hx] at this; cases this
      | mapb kvs dn => rw [hx] at this; cases this
      | mapx kvs bs ck => rw [hx] at this; cases this
      | iter b0 ck seen => rw [hx] at this; cases this
      | bag ls => rw [hx] at this; cases this with | bag _ h => cases h
  have hpin : ∀ p ∈ (List.range m).map (fun b => (b, g b)), g p.1 = p.2 ∧ p.2 ≠ .un := fun p hp => by
    obtain ⟨b, hbm, rfl⟩ := List.mem_map.1 hp
    exact ⟨rfl, hun b (List.mem_range.1 hbm)⟩
  have hgh : ∀ p ∈ (List.range m).map (fun b => (b, g b)), p.1 < m := fun p hp => by
    obtain ⟨b, hbm, rfl⟩ := List.mem_map.1 hp
    exact List.mem_range.1 hbm
  have hR := R_startG (N := fn.ntmps) hN hR0 hv hpin
  have := xw_sound (c := ⟨fn.ntmps, w, G, X, gl, (List.range m).map (fun b => (b, g b))⟩) hm code t _ _ he (h _ hgh rfl) _ _ _ hR
  refine wp_mono this fun e a' w' hq => ?_
  have fin : ∀ (g1 : Nat → GM) (s : St), R ⟨fn.ntmps, w, G, X, gl, (List.range m).map (fun b => (b, g b))⟩ g1 s.fs a' w' → (rvOk s.fs rs ∧ ∃ ρ, pinL m ρ n ∧ Sub (rl ρ) ⟨[(0, rvs s.fs rs)], s.h, s.n⟩ ⟨[(0, r)], hout, n⟩) →
      a'.defers = [] ∧ ∃ v, (results fn a'.tmps).run P w' = .ok v w' ∧ (∃ v_1 g', Ending.returned v = .returned v_1 ∧ R ⟨0, w, G, X, gl, []⟩ g' (Hst hout n) ⟨#[], []⟩ w' ∧ (∀ b, b < m → g' b = g b) ∧ VR g' (wset ⟨0, w, G, X, gl, []⟩ g' (Hst hout n)) w' r v_1) := by
    intro g1 s hR' ⟨h1, ρ, h2, h3⟩
    obtain ⟨v, h4, h5⟩ := run_results hR' hr h1
    refine ⟨hR'.def_, v, h4, v, ?_⟩
    have hR1 : R ⟨1, w, G, X, gl, (List.range m).map (fun b => (b, g b))⟩ g1 (⟨[(0, rvs s.fs rs)], s.h, s.n⟩ : St).fs ⟨#[v], []⟩ w' := by
      refine ⟨rfl, rfl, fun i => ?_, hR'.gl, hR'.h, hR'.inj, hR'.old, hR'.fr, hR'.xs, hR'.pin⟩
      show VR g1 _ w' (look [(0, rvs s.fs rs)] i) _
      rw [look_cons]
      split
      · rename_i hi; subst hi; exact h5
      · exact .any _
    obtain ⟨g2, hR2⟩ := h3.to hR1 (pinL_ok hgh h2)
    refine ⟨g2, rfl, ⟨rfl, rfl, fun i => .any _, hR2.gl, hR2.h, hR2.inj, hR2.old, hR2.fr, hR2.xs, fun p hp => by cases hp⟩, fun b hb => ?_, ?_⟩
    · exact (hR2.pin (b, g b) (List.mem_map.2 ⟨b, List.mem_range.2 hb, rfl⟩)).1
    · exact hR2.t 0
  cases e with
  | normal => obtain ⟨g, s, hR', hq'⟩ := hq; exact fin g s hR' hq'
  | ret => obtain ⟨g, s, hR', hq'⟩ := hq; exact fin g s hR' hq'
  | exit i => obtain ⟨g, s, hR', hq'⟩ := hq; exact hq'.elim
  | goto l => exact hq.elim
  | panic ch => exact hq.elim
  | outgrown => exact hq.elim

/-! ### The caller's side -/
def renB' (σ : Nat → Nat) : Bk → Bk
  | .dead => .dead
  | x => renB σ x
theorem BR.ren {σ : Nat → Nat} {n : Nat} (hg : ∀ b, b < n → g' (σ b) = g b) {mm : GM} {x : Bk} (h : BR g W w mm x) (hn : nmB n x) (hW : ∀ k, W' k → W k) : BR g' W' w mm (renB σ x) := by
  have fwd : ∀ {v u}, nmOk n v → VR g W w v u → VR g' W' w (Proofs.YtogckmommodmhaaGreatDoor.ren σ v) u := fun hn h => (h.ren (ρ := σ) (g := g') hg hn).mono (Fr.refl w W) (fun k _ => hW k) (fun _ _ => rfl)
  cases h with
  | free => exact hn.elim
  | dead h => exact hn.elim
  | ph => simp only [renB, rens]; exact .ph
  | cells hb hl h1 hv hz =>
    simp only [renB, nmB] at hn ⊢
    refine .cells hb (by rw [rens_len]; exact hl) (by rw [rens_len]; exact h1) (fun j hj => ?_) hz
    rw [rens_len] at hj
    rw [rens_get]; exact fwd (nmAll_get hn j) (hv j hj)
  | mapb hb hs hkk hv hc ha hd =>
    rename_i k kvs dn es clock
    simp only [renB, nmB] at hn ⊢
    have hget : ∀ j, j < kvs.length → (kvs.map fun p => (Proofs.YtogckmommodmhaaGreatDoor.ren σ p.1, Proofs.YtogckmommodmhaaGreatDoor.ren σ p.2)).getD j (.any, .any) = (Proofs.YtogckmommodmhaaGreatDoor.ren σ (kvs.getD j (.any, .any)).1, Proofs.YtogckmommodmhaaGreatDoor.ren σ (kvs.getD j (.any, .any)).2) := fun j hj => by simp [List.getD, hj]
    have hmem : ∀ j, j < kvs.length → kvs.getD j (.any, .any) ∈ kvs := fun j hj => by simp [List.getD, hj]
    refine .mapb hb (by rw [List.length_map]; exact hs) (fun j hj => ?_) (fun j hj => ?_) hc ha hd
    · rw [List.length_map] at hj; rw [hget j hj]; exact fwd (hn _ (hmem j hj)).1 (hkk j hj)
    · rw [List.length_map] at hj; rw [hget j hj]; exact fwd (hn _ (hmem j hj)).2 (hv j hj)
  | mapx hb hs hkk hv hc ha hd =>
    rename_i k kvs bs es clock
    simp only [renB, nmB] at hn ⊢
    have hget : ∀ j, j < kvs.length → (kvs.map fun p => (Proofs.YtogckmommodmhaaGreatDoor.ren σ p.1, Proofs.YtogckmommodmhaaGreatDoor.ren σ p.2)).getD j (.any, .any) = (Proofs.YtogckmommodmhaaGreatDoor.ren σ (kvs.getD j (.any, .any)).1, Proofs.YtogckmommodmhaaGreatDoor.ren σ (kvs.getD j (.any, .any)).2) := fun j hj => by simp [List.getD, hj]
    have hmem : ∀ j, j < kvs.length → kvs.getD j (.any, .any) ∈ kvs := fun j hj => by simp [List.getD, hj]
    refine .mapx hb (by rw [List.length_map]; exact hs) (fun j hj => ?_) (fun j hj => ?_) hc ha hd
    · rw [List.length_map] at hj; rw [hget j hj]; exact fwd (hn _ (hmem j hj)).1 (hkk j hj)
    · rw [List.length_map] at hj; rw [hget j hj]; exact fwd (hn _ (hmem j hj)).2 (hv j hj)
  | iter hb hg0 =>
    simp only [renB, nmB] at hn ⊢
    exact .iter hb (by rw [hg _ hn]; exact hg0)
  | bag hp h => exact BR.bag_any (.bag hp h) hn hW

/-- What a caller has behind such a call. -/
structure Back (σ : Nat → Nat) (s s3 : FS) (hout : List (Nat × Bk)) (n : Nat) : Prop where
  T : ∀ i, s3.T i = s.T i
  H : ∀ b, b < n → s3.H (σ b) = renB' σ (lookb hout n b)
  rest : ∀ j, (∀ b, b < n → σ b ≠ j) → s3.H j = s.H j
open Classical in
noncomputable def backG (g g2 : Nat → GM) (σ : Nat → Nat) (n : Nat) (j : Nat) : GM := if h : ∃ b, b < n ∧ σ b = j then g2 h.choose else g j

theorem take_back {σ : Nat → Nat} {hin hout : List (Nat × Bk)} {m n : Nat} {s3 : FS} {g1 g2 : Nat → GM} (hR : R c g s a w) (fit : Fit σ s hin m) (hcov : ∀ b, b < m → ∃ p ∈ hin, p.1 = b) (hmn : m ≤ n) (hinj : ∀ b b', b < n → b' < n → σ b = σ b' → b = b') (hnew : ∀ b, m ≤ b → b < n → s.H (σ b) = .free)
    (hnm : ∀ p ∈ hout, nmB n p.2) (hlt : ∀ p ∈ hout, p.1 < n) (hg1 : ∀ b, b < m → g (σ b) ≠ .un → g (σ b) = g1 b) (hg2 : ∀ b, b < m → g2 b = g1 b) (hR2 : R (lentC c g s w σ hin m) g2 (Hst hout n) ⟨#[], []⟩ w') (hb : Back σ s s3 hout n) :
    R c (backG g g2 σ n) s3 a w' ∧ ∀ {r : AV} {v : Value}, nmOk n r → VR g2 (wset (lentC c g s w σ hin m) g2 (Hst hout n)) w' r v → VR (backG g g2 σ n) (wset c (backG g g2 σ n) s3) w' (ren σ r) v := by
  have gs : ∀ b, b < n → backG g g2 σ n (σ b) = g2 b := fun b hbn => by
    unfold backG
    have hex : ∃ b', b' < n ∧ σ b' = σ b := ⟨b, hbn, rfl⟩
    rw [dif_pos hex]
    rw [hinj _ _ hex.choose_spec.1 hbn hex.choose_spec.2]
  have go : ∀ j, (∀ b, b < n → σ b ≠ j) → backG g g2 σ n j = g j := fun j h => by
    unfold backG
    rw [dif_neg]
    rintro ⟨b, h1, h2⟩; exact h b h1 h2
  have named : ∀ b, b < m → g (σ b) ≠ .un := fun b hbm e => by
    obtain ⟨p, hp, rfl⟩ := hcov b hbm
    obtain ⟨_, q2, q3⟩ := fit.mem p hp
    have := hR.h (σ p.1)
    rw [e, q3] at this
    have hl : (renB σ p.2).live := live_renB.2 (live_of_nmB q2)
    generalize renB σ p.2 = x at this hl
    exact this.ne_un hl
  have gm : ∀ b, b < m → g2 b = g (σ b) := fun b hbm => by rw [hg2 b hbm, ← hg1 b hbm (named b hbm)]
  have gk : ∀ j, g j ≠ .un → backG g g2 σ n j = g j := fun j hj => by
    by_cases h : ∃ b, b < n ∧ σ b = j
    · obtain ⟨b, hbn, rfl⟩ := h
      rw [gs b hbn]
      by_cases hbm : b < m
      · exact gm b hbm
      · have := hR.h (σ b)
        rw [hnew b (by omega) hbn] at this
        generalize g (σ b) = x at this hj
        cases this; exact (hj rfl).elim
    · exact go j fun b h1 h2 => h ⟨b, h1, h2⟩
  have lout : ∀ b, (lookb hout n b).live → b < n := fun b hl => by
    obtain ⟨p, hp, rfl, _⟩ := listed_of_live hl
    exact hlt p hp
  have lin : ∀ b, (lookb hin m b).live → b < m := fun b hl => by
    obtain ⟨p, hp, rfl, _⟩ := listed_of_live hl
    exact (fit.mem p hp).1
  have linS : ∀ b, (lookb hin m b).live → (s.H (σ b)).live := fun b hl => by
    obtain ⟨p, hp, rfl, _⟩ := listed_of_live hl
    obtain ⟨_, q2, q3⟩ := fit.mem p hp
    rw [q3, live_renB]; exact live_of_nmB q2
  have live3 : ∀ j, (s3.H j).live → (∃ b, b < n ∧ σ b = j ∧ (lookb hout n b).live) ∨ ((∀ b, b < n → σ b ≠ j) ∧ (s.H j).live) := fun j hl => by
    by_cases h : ∃ b, b < n ∧ σ b = j
    · obtain ⟨b, hbn, rfl⟩ := h
      rw [hb.H b hbn] at hl
      refine .inl ⟨b, hbn, rfl, ?_⟩
      cases hx : lookb hout n b with
      | free => rw [hx] at hl; exact hl.elim
      | dead => rw [hx] at hl; exact hl.elim
      | cells cs => trivial
      | mapb kvs dn => trivial
      | mapx kvs bs ck => trivial
      | iter b0 ck seen => trivial
      | bag ls => trivial
    · have hno : ∀ b, b < n → σ b ≠ j := fun b h1 h2 => h ⟨b, h1, h2⟩
      rw [hb.rest j hno] at hl
      exact .inr ⟨hno, hl⟩
  -- memory of a block that comes back
  have mem2 : ∀ b k, (lookb hout n b).live → g2 b = .re k → w.heap.size ≤ k ∨ ∃ b0, (lookb hin m b0).live ∧ g (σ b0) = .re k := fun b k hl hk => hR2.old b k hl hk
  have hf : Fr w w' (lentG g σ hin m) := hR2.fr
  have hGW : ∀ k, lentG g σ hin m k → wset c g s k := fun k ⟨b, h1, h2⟩ => .inr ⟨σ b, linS b h1, h2⟩
  have hfW : Fr w w' (wset c g s) := hf.weak hGW
  have oth : ∀ j k, (∀ b, b < n → σ b ≠ j) → (s.H j).live → g j = .re k → ¬ lentG g σ hin m k := fun j k h1 h2 h3 ⟨b, q1, q2⟩ =>
    h1 b (Nat.lt_of_lt_of_le (lin b q1) hmn) (hR.inj (σ b) j k (linS b q1) h2 q2 h3)
  have hW3 : ∀ k, k < w.heap.size → wset c (backG g g2 σ n) s3 k → wset c g s k := by
    rintro k hk (h | ⟨j, h1, h2⟩)
    · exact .inl h
    · rcases live3 j h1 with ⟨b, hbn, rfl, hl⟩ | ⟨hno, hl⟩
      · rw [gs b hbn] at h2
        rcases mem2 b k hl h2 with h | ⟨b0, q1, q2⟩
        · omega
        · exact hGW k ⟨b0, q1, q2⟩
      · rw [go j hno] at h2; exact .inr ⟨j, hl, h2⟩
  have hW2 : ∀ k, wset c (backG g g2 σ n) s3 k → wset (lentC c g s w σ hin m) g2 (Hst hout n) k := by
    rintro k (h | ⟨j, h1, h2⟩)
    · refine .inl ⟨.inl h, fun ⟨b, q1, q2⟩ => ?_⟩
      obtain ⟨x1, x2⟩ := hR.xs k h
      rcases hR.old (σ b) k (linS b q1) q2 with h | h
      · omega
      · exact x2 h
    · rcases live3 j h1 with ⟨b, hbn, rfl, hl⟩ | ⟨hno, hl⟩
      · rw [gs b hbn] at h2; exact .inr ⟨b, hl, h2⟩
      · rw [go j hno] at h2; exact .inl ⟨.inr ⟨j, hl, h2⟩, oth j k hno hl h2⟩
  refine ⟨⟨hR.size, hR.def_, fun i => ?_, fun i => (hR.gl i).mono hfW hW3 (fun _ _ => rfl), fun j => ?_, fun j j' k h1 h2 e1 e2 => ?_, fun j k h1 e1 => ?_, hR.fr.trans hf fun k hk ⟨b, q1, q2⟩ => ?_, hR.xs, fun p hp => ?_⟩, fun {r v} hn hv => ?_⟩
  · rw [hb.T]; exact (hR.t i).mono hfW hW3 gk
  · by_cases h : ∃ b, b < n ∧ σ b = j
    · obtain ⟨b, hbn, rfl⟩ := h
      rw [hb.H b hbn, gs b hbn]
      have hbr := hR2.h b
      have e : (Hst hout n).H b = lookb hout n b := rfl
      rw [e] at hbr
      rcases lookb_cases hout n b with q | ⟨p, hp, _, q⟩
      · rw [q, if_pos hbn] at hbr ⊢
        generalize g2 b = x at hbr ⊢
        cases hbr with
        | dead h => exact .dead h
      · rw [q] at hbr ⊢
        have hnb := hnm p hp
        have : renB' σ p.2 = renB σ p.2 := by
          cases hx : p.2 <;> first | rfl | (rw [hx] at hnb; exact hnb.elim)
        rw [this]
        exact hbr.ren (g' := backG g g2 σ n) gs hnb hW2
    · have hno : ∀ b, b < n → σ b ≠ j := fun b h1 h2 => h ⟨b, h1, h2⟩
      rw [hb.rest j hno, go j hno]
      refine (hR.h j).mono hfW hW3 gk fun k hk hl => hf.keep k ?_ (oth j k hno hl hk)
      exact BR.lt (hk ▸ hR.h j) hl
  · rcases live3 j h1 with ⟨b, hbn, rfl, hl⟩ | ⟨hno, hl⟩ <;> rcases live3 j' h2 with ⟨b', hbn', rfl, hl'⟩ | ⟨hno', hl'⟩
    · rw [gs b hbn] at e1; rw [gs b' hbn'] at e2
      rw [hR2.inj b b' k hl hl' e1 e2]
    · rw [gs b hbn] at e1; rw [go j' hno'] at e2
      have hlt := BR.lt (e2 ▸ hR.h j') hl'
      rcases mem2 b k hl e1 with h | hG
      · omega
      · exact (oth j' k hno' hl' e2 hG).elim
    · rw [gs b' hbn'] at e2; rw [go j hno] at e1
      have hlt := BR.lt (e1 ▸ hR.h j) hl
      rcases mem2 b' k hl' e2 with h | hG
      · omega
      · exact (oth j k hno hl e1 hG).elim
    · rw [go j hno] at e1; rw [go j' hno'] at e2
      exact hR.inj j j' k hl hl' e1 e2
  · rcases live3 j h1 with ⟨b, hbn, rfl, hl⟩ | ⟨hno, hl⟩
    · rw [gs b hbn] at e1
      rcases mem2 b k hl e1 with h | ⟨b0, q1, q2⟩
      · have := hR.fr.size; exact .inl (by omega)
      · exact hR.old (σ b0) k (linS b0 q1) q2
    · rw [go j hno] at e1; exact hR.old j k hl e1
  · rcases hR.old (σ b) k (linS b q1) q2 with h | h
    · omega
    · exact h
  · obtain ⟨q1, q2⟩ := hR.pin p hp
    exact ⟨by rw [gk p.1 (by rw [q1]; exact q2), q1], q2⟩
  · exact (hv.ren (ρ := σ) (g := backG g g2 σ n) gs hn).mono (Fr.refl _ _) (fun k _ => hW2 k) (fun _ _ => rfl)
end
end Go.Proofs.YtogckmommodmhaaGreatDoor

/-! Calls that take named blocks and hand blocks back, as steps of a walk. No conditions but the ones that stand in each. -/
namespace Go.Proofs.YtogckmommodmhaaGreatDoor
set_option linter.all false
set_option linter.unusedSimpArgs false
open Go.RowKit

def sg (ins : List Nat) (m n0 : Nat) (b : Nat) : Nat := if b < m then ins.getD b 0 else n0 + (b - m)
def fitL (σ : Nat → Nat) (s : FS) (m : Nat) : List (Nat × Bk) → Prop
  | [] => True
  | (b, x) :: r => b < m ∧ nmB m x ∧ s.H (σ b) = renB σ x ∧ fitL σ s m r
def distinct : List Nat → Bool
  | [] => true
  | x :: r => r.all (fun y => !(Nat.beq x y)) && distinct r
def insB (ins : List Nat) (m n0 : Nat) : Bool := (ins.length == m) && distinct ins && ins.all (fun j => decide (j < n0))
def freeL (s : FS) : List Nat → Prop
  | [] => True
  | j :: r => s.H j = .free ∧ freeL s r
def houtL (n : Nat) : List (Nat × Bk) → Prop
  | [] => True
  | (b, x) :: r => b < n ∧ nmB n x ∧ houtL n r
def newK (n0 : Nat) : Nat → List Nat
  | 0 => []
  | k + 1 => newK n0 k ++ [n0 + k]
def newN (n0 m n : Nat) : List Nat := newK n0 (n - m)
theorem newK_mem {n0 j : Nat} : ∀ {k : Nat}, j ∈ newK n0 k ↔ ∃ i, i < k ∧ n0 + i = j
  | 0 => by simp [newK]
  | k + 1 => by
    simp only [newK, List.mem_append, newK_mem (k := k), List.mem_singleton]
    constructor
    · rintro (⟨i, h, rfl⟩ | rfl)
      · exact ⟨i, by omega, rfl⟩
      · exact ⟨k, by omega, rfl⟩
    · rintro ⟨i, h, rfl⟩
      by_cases hk : i = k
      · subst hk; exact .inr rfl
      · exact .inl ⟨i, by omega, rfl⟩
def idx : List (Nat × Bk) → List Nat
  | [] => []
  | p :: r => p.1 :: idx r
def upto : Nat → List Nat
  | 0 => []
  | n + 1 => upto n ++ [n]
structure GsOk (s : FS) (n0 : Nat) (ins : List Nat) (args : List AV) (hin : List (Nat × Bk)) (m : Nat) (r : AV) (hout : List (Nat × Bk)) (n : Nat) : Prop where
  fit : fitL (sg ins m n0) s m hin
  cov : idx hin = upto m
  ins : insB ins m n0 = true
  free : freeL s (newN n0 m n)
  out : houtL n hout
  le : m ≤ n
  nr : nmOk n r
  na : nmAll m args

theorem fitL_mem {σ : Nat → Nat} {s : FS} {m : Nat} : ∀ {h : List (Nat × Bk)}, fitL σ s m h → ∀ p ∈ h, p.1 < m ∧ nmB m p.2 ∧ s.H (σ p.1) = renB σ p.2
  | [], _, p, hp => by cases hp
  | (b, x) :: r, h, p, hp => by
    rcases List.mem_cons.1 hp with rfl | hp
    · exact ⟨h.1, h.2.1, h.2.2.1⟩
    · exact fitL_mem h.2.2.2 p hp
theorem houtL_mem {n : Nat} : ∀ {h : List (Nat × Bk)}, houtL n h → ∀ p ∈ h, p.1 < n ∧ nmB n p.2
  | [], _, p, hp => by cases hp
  | (b, x) :: r, h, p, hp => by
    rcases List.mem_cons.1 hp with rfl | hp
    · exact ⟨h.1, h.2.1⟩
    · exact houtL_mem h.2.2 p hp
theorem freeL_mem {s : FS} : ∀ {l : List Nat}, freeL s l → ∀ j ∈ l, s.H j = .free
  | [], _, j, hj => by cases hj
  | x :: l, h, j, hj => by
    rcases List.mem_cons.1 hj with rfl | hj
    · exact h.1
    · exact freeL_mem h.2 j hj
theorem idx_eq : ∀ h : List (Nat × Bk), idx h = h.map (·.1)
  | [] => rfl
  | p :: r => by simp [idx, idx_eq r]
theorem upto_mem : ∀ {n b : Nat}, b ∈ upto n ↔ b < n
  | 0, b => by simp [upto]
  | n + 1, b => by simp [upto, upto_mem (n := n)]; omega
theorem distinct_get : ∀ {l : List Nat}, distinct l = true → ∀ i j, i < l.length → j < l.length → l.getD i 0 = l.getD j 0 → i = j
  | [], _, i, j, hi, _, _ => by simp at hi
  | x :: l, h, i, j, hi, hj, e => by
    simp only [distinct, Bool.and_eq_true] at h
    have hall : ∀ y ∈ l, x ≠ y := fun y hy exy => by
      have := List.all_eq_true.1 h.1 y hy
      subst exy; simp at this
    have hmem : ∀ k, k < l.length → l.getD k 0 ∈ l := fun k hk => by simp only [List.getD, List.getElem?_eq_getElem hk, Option.getD_some]; exact List.getElem_mem hk
    cases i with
    | zero =>
      cases j with
      | zero => rfl
      | succ j => simp only [List.getD_cons_zero, List.getD_cons_succ] at e; exact (hall _ (hmem j (by simpa using hj)) e).elim
    | succ i =>
      cases j with
      | zero => simp only [List.getD_cons_zero, List.getD_cons_succ] at e; exact (hall _ (hmem i (by simpa using hi)) e.symm).elim
      | succ j => simp only [List.getD_cons_succ] at e; rw [distinct_get h.2 i j (by simpa using hi) (by simpa using hj) e]
theorem sg_inj {ins : List Nat} {m n0 : Nat} (h : insB ins m n0 = true) {b b' : Nat} (e : sg ins m n0 b = sg ins m n0 b') : b = b' := by
  simp only [insB, Bool.and_eq_true, beq_iff_eq, List.all_eq_true, decide_eq_true_eq] at h
  obtain ⟨⟨h1, h2⟩, h3⟩ := h
  have hmem : ∀ k, k < m → ins.getD k 0 < n0 := fun k hk => h3 _ (by simp only [List.getD, List.getElem?_eq_getElem (show k < ins.length by omega), Option.getD_some]; exact List.getElem_mem _)
  unfold sg at e
  split at e <;> split at e
  · exact distinct_get h2 b b' (by omega) (by omega) e
  · rename_i x y; have := hmem b x; omega
  · rename_i x y; have := hmem b' y; omega
  · omega

section
variable {P : Program} {c : Cx}
/-- The blocks behind the call, as a list put ahead of those that were there. -/
def outH (σ : Nat → Nat) (hout : List (Nat × Bk)) (n : Nat) : Nat → List (Nat × Bk)
  | 0 => []
  | k + 1 => (σ k, renB' σ (lookb hout n k)) :: outH σ hout n k
def gsSt (s : St) (d : Option Nat) (ins : List Nat) (m : Nat) (r : AV) (hout : List (Nat × Bk)) (n : Nat) : St :=
  St.putO ⟨s.t, outH (sg ins m s.n) hout n n ++ s.h, s.n + (n - m)⟩ d (ren (sg ins m s.n) r)
def gsFoot (s : St) (d : Option Nat) (xs : List TV) (ins : List Nat) (m n : Nat) : Foot := ⟨tmpsOf xs, ins ++ newN s.n m n, d.toList, ins ++ newN s.n m n⟩
theorem lookb_app (h h2 : List (Nat × Bk)) (n j : Nat) : (∃ p ∈ h, p.1 = j) ∧ (∃ p ∈ h, p.1 = j ∧ lookb (h ++ h2) n j = p.2) ∨ (∀ p ∈ h, p.1 ≠ j) ∧ lookb (h ++ h2) n j = lookb h2 n j := by
  induction h with
  | nil => right; exact ⟨fun p hp => (by cases hp), rfl⟩
  | cons p r ih =>
    obtain ⟨i, x⟩ := p
    rw [List.cons_append, lookb_cons]
    by_cases hi : i = j
    · left
      rw [if_pos hi]
      exact ⟨⟨(i, x), by simp, hi⟩, (i, x), by simp, hi, rfl⟩
    · rw [if_neg hi]
      rcases ih with ⟨⟨p, hp, e⟩, q, hq, e1, e2⟩ | ⟨h1, h2⟩
      · exact .inl ⟨⟨p, by simp [hp], e⟩, q, by simp [hq], e1, e2⟩
      · refine .inr ⟨fun p hp => ?_, h2⟩
        rcases List.mem_cons.1 hp with rfl | hp
        · exact hi
        · exact h1 p hp
theorem outH_mem {σ : Nat → Nat} {hout : List (Nat × Bk)} {n : Nat} : ∀ {k : Nat} {p : Nat × Bk}, p ∈ outH σ hout n k ↔ ∃ b, b < k ∧ p = (σ b, renB' σ (lookb hout n b))
  | 0, p => by simp [outH]
  | k + 1, p => by
    simp only [outH, List.mem_cons, outH_mem (k := k)]
    constructor
    · rintro (rfl | ⟨b, hb, rfl⟩)
      · exact ⟨k, by omega, rfl⟩
      · exact ⟨b, by omega, rfl⟩
    · rintro ⟨b, hb, rfl⟩
      by_cases h : b = k
      · subst h; exact .inl rfl
      · exact .inr ⟨b, by omega, rfl⟩

theorem VRs_unren {σ : Nat → Nat} {m : Nat} {g g1 : Nat → GM} {W W' : Nat → Prop} {w : World} (hg : ∀ b, b < m → g (σ b) ≠ .un → g (σ b) = g1 b) (hW : ∀ k, W' k → W k) : ∀ {args : List AV} {vs : List Value}, nmAll m args → VRs g W w (rens σ args) vs → VRs g1 W' w args vs
  | [], [], _, _ => trivial
  | x :: xs, v :: vs, hn, h => by
    rw [rens_eq, List.map_cons, ← rens_eq] at h
    exact ⟨(h.1.unren hg x rfl hn.1).mono (Fr.refl _ _) (fun k _ => hW k) (fun _ _ => rfl), VRs_unren hg hW hn.2 h.2⟩
  | [], _ :: _, _, h => by rw [rens_eq] at h; exact h.elim
  | _ :: _, [], _, h => by rw [rens_eq] at h; exact h.elim
theorem gs_AOkT {s : St} {d : Option Nat} {f : FuncId} {xs : List TV} {ins : List Nat} {args : List AV} {hin : List (Nat × Bk)} {m : Nat} {r : AV} {hout : List (Nat × Bk)} {n : Nat} (hgs : GS P c.gl f args hin m r hout n) (hc : cokAll none (evs c.gl s.fs xs))
    (hargs : (evs c.gl s.fs xs).map strip = rens (sg ins m s.n) args) (ok : GsOk s.fs s.n ins args hin m r hout n) : AOkT P c (.pd d (.call f) xs none) s.fs (gsFoot s d xs ins m n) (gsSt s d ins m r hout n).fs := by
  intro ops io he
  obtain ⟨hgd, hdst, hd, ys, hel, rfl⟩ := elab_pd he
  obtain ⟨ts, hop⟩ := elab_call hel
  have hsg : ∀ b b', b < n → b' < n → sg ins m s.n b = sg ins m s.n b' → b = b' := fun b b' _ _ e => sg_inj ok.ins e
  have hlen : ins.length = m := by
    have := ok.ins; simp only [insB, Bool.and_eq_true, beq_iff_eq] at this; exact this.1.1
  -- the names that are touched
  have hnames : ∀ b, b < n → sg ins m s.n b ∈ ins ++ newN s.n m n := fun b hb => by
    unfold sg
    split
    · rename_i h
      refine List.mem_append_left _ ?_
      simp only [List.getD, List.getElem?_eq_getElem (show b < ins.length by omega), Option.getD_some]; exact List.getElem_mem _
    · refine List.mem_append_right _ ?_
      simp only [newN, newK_mem]; exact ⟨b - m, by omega, rfl⟩
  have hback : ∀ j, j ∈ ins ++ newN s.n m n → ∃ b, b < n ∧ sg ins m s.n b = j := fun j hj => by
    rcases List.mem_append.1 hj with h | h
    · obtain ⟨i, hi, rfl⟩ := List.getElem_of_mem h
      have := ok.le
      refine ⟨i, by omega, ?_⟩
      unfold sg; rw [if_pos (by omega)]; simp [List.getD, hi]
    · simp only [newN, newK_mem] at h
      obtain ⟨i, hi, rfl⟩ := h
      exact ⟨m + i, by omega, by unfold sg; rw [if_neg (by omega)]; omega⟩
  have hfsH : ∀ j, (gsSt s d ins m r hout n).fs.H j = lookb (outH (sg ins m s.n) hout n n ++ s.h) (s.n + (n - m)) j := fun j => by cases d <;> rfl
  have hfsT : ∀ i, (gsSt s d ins m r hout n).fs.T i = match d with | some d => (if d = i then ren (sg ins m s.n) r else s.fs.T i) | none => s.fs.T i := fun i => by
    cases d with
    | none => rfl
    | some d => show look ((d, _) :: s.t) i = _; rw [look_cons]; rfl
  have hin' : ∀ b, b < n → lookb (outH (sg ins m s.n) hout n n ++ s.h) (s.n + (n - m)) (sg ins m s.n b) = renB' (sg ins m s.n) (lookb hout n b) := fun b hb => by
    rcases lookb_app (outH (sg ins m s.n) hout n n) s.h (s.n + (n - m)) (sg ins m s.n b) with ⟨_, p, hp, e1, e2⟩ | ⟨h1, _⟩
    · obtain ⟨b', hb', rfl⟩ := outH_mem.1 hp
      have := hsg b' b hb' hb e1
      subst this; exact e2
    · exact (h1 _ (outH_mem.2 ⟨b, hb, rfl⟩) rfl).elim
  have hrest : ∀ j, j ∉ ins ++ newN s.n m n → lookb (outH (sg ins m s.n) hout n n ++ s.h) (s.n + (n - m)) j = s.fs.H j := fun j hj => by
    rcases lookb_app (outH (sg ins m s.n) hout n n) s.h (s.n + (n - m)) j with ⟨⟨p, hp, e⟩, _⟩ | ⟨_, h2⟩
    · obtain ⟨b, hb, rfl⟩ := outH_mem.1 hp
      exact (hj (e ▸ hnames b hb)).elim
    · rw [h2]
      show lookb s.h (s.n + (n - m)) j = lookb s.h s.n j
      have hno : ∀ k, k ≤ n - m → lookb s.h (s.n + k) j = lookb s.h s.n j := fun k hk => by
        induction k with
        | zero => rfl
        | succ k ih =>
          rw [← ih (by omega)]
          refine lookb_up s.h (s.n + k) j fun e => hj ?_
          refine List.mem_append_right _ ?_
          simp only [newN, newK_mem]; exact ⟨k, by omega, e.symm⟩
      exact hno _ (Nat.le_refl _)
  refine ⟨fun i hi => ?_, fun j hj => ?_, fun s2 hT hH g a w hR K Q' hK => exec_of_none (gd_none hgd) ?_⟩
  · rw [hfsT]
    cases d with
    | none => rfl
    | some d => simp only [gsFoot, Option.toList_some, List.mem_singleton] at hi; simp only; rw [if_neg fun e => hi e.symm]
  · rw [hfsH]; exact hrest j hj
  · have hevs : evs c.gl s2 (ys.map tvO) = evs c.gl s.fs (ys.map tvO) := evs_congr fun i hi => hT i hi
    have hv := VRs_strip (hR.evs ys) (by rw [hevs]; exact hc)
    rw [hevs, hargs] at hv
    have fit2 : Fit (sg ins m s.n) s2 hin m := by
      refine ⟨fun p hp => ?_, fun p hp q hq e => sg_inj ok.ins e⟩
      obtain ⟨q1, q2, q3⟩ := fitL_mem ok.fit p hp
      exact ⟨q1, q2, by rw [hH _ (hnames p.1 (Nat.lt_of_lt_of_le q1 ok.le))]; exact q3⟩
    have hcov : ∀ b, b < m → ∃ p ∈ hin, p.1 = b := fun b hb => by
      have := upto_mem.2 hb
      rw [← ok.cov, idx_eq] at this
      obtain ⟨p, hp, e⟩ := List.mem_map.1 this
      exact ⟨p, hp, e⟩
    have hnew : ∀ b, m ≤ b → b < n → s2.H (sg ins m s.n b) = .free := fun b h1 h2 => by
      rw [hH _ (hnames b h2)]
      refine freeL_mem ok.free _ ?_
      unfold sg; rw [if_neg (by omega)]
      simp only [newN, newK_mem]; exact ⟨b - m, by omega, rfl⟩
    obtain ⟨g1, hg1, hRl, hWl⟩ := lend hR fit2
    have hv1 := VRs_unren (g1 := g1) hg1 hWl ok.na hv
    have hcall := hgs.2 w _ _ _ g1 hRl hv1
    unfold Oper.wp
    rw [run_call hgs.1 hop]
    rw [Oper.upon_enter]
    refine hcall.mono fun e w' ⟨v, g2, e1, e2, e3, e4⟩ => ?_
    subst e1
    let s3 : FS := ⟨s2.T, fun j => if j ∈ ins ++ newN s.n m n then (gsSt s d ins m r hout n).fs.H j else s2.H j⟩
    have hb : Back (sg ins m s.n) s2 s3 hout n := by
      refine ⟨fun i => rfl, fun b hbn => ?_, fun j hj => ?_⟩
      · show (if _ then _ else _) = _
        rw [if_pos (hnames b hbn), hfsH, hin' b hbn]
      · show (if _ then _ else _) = _
        rw [if_neg fun h => ?_]
        obtain ⟨b, hbn, rfl⟩ := hback j h
        exact hj b hbn rfl
    obtain ⟨hR3, hval⟩ := take_back hR fit2 hcov ok.le hsg hnew (fun p hp => (houtL_mem ok.out p hp).2) (fun p hp => (houtL_mem ok.out p hp).1) hg1 e3 e2 hb
    have hv3 := hval ok.nr e4
    show K (a.put io.dst v) w'
    rw [hdst]
    cases d with
    | none =>
      refine hK (backG g g2 (sg ins m s.n) n) _ w' ?_
      have : ovr s2 (gsSt s none ins m r hout n).fs (gsFoot s none (ys.map tvO) ins m n) = s3 := by
        refine fs_ext (fun i => ?_) fun j => rfl
        show (if i ∈ ([] : List Nat) then (gsSt s none ins m r hout n).fs.T i else s2.T i) = s2.T i
        simp
      rw [this]; exact hR3
    | some d =>
      refine hK (backG g g2 (sg ins m s.n) n) _ w' ?_
      have : ovr s2 (gsSt s (some d) ins m r hout n).fs (gsFoot s (some d) (ys.map tvO) ins m n) = s3.put d (ren (sg ins m s.n) r) := by
        refine fs_ext (fun i => ?_) fun j => rfl
        show (if i ∈ [d] then (gsSt s (some d) ins m r hout n).fs.T i else s2.T i) = _
        rw [FS.T_put, hfsT]
        by_cases h : d = i
        · subst h; simp
        · rw [if_neg (by simpa using fun e : i = d => h e.symm), if_neg h]
      rw [this]; exact hR3.put (by simpa using hd) hv3
theorem pr_gs {r0 : List TOp} {K : St → Prop} {s : St} {d : Option Nat} {f : FuncId} {xs : List TV} {ins : List Nat} {args : List AV} {hin : List (Nat × Bk)} {m : Nat} {r : AV} {hout : List (Nat × Bk)} {n : Nat} (hgs : GS P c.gl f args hin m r hout n)
    (hargs : (evs c.gl s.fs xs).map strip = rens (sg ins m s.n) args) (h : cokAll none (evs c.gl s.fs xs) ∧ GsOk s.fs s.n ins args hin m r hout n ∧ XP P c r0 K (gsSt s d ins m r hout n)) : PendR P c (.pd d (.call f) xs none) r0 K s :=
  .inl ⟨_, _, gs_AOkT hgs h.1 hargs h.2.1, h.2.2⟩
theorem prD_gs {anc : List Nat} {fs : List Foot} {r0 : List TOp} {K : St → Prop} {s : St} {d : Option Nat} {f : FuncId} {xs : List TV} {ins : List Nat} {args : List AV} {hin : List (Nat × Bk)} {m : Nat} {r : AV} {hout : List (Nat × Bk)} {n : Nat} (hgs : GS P c.gl f args hin m r hout n)
    (hargs : (evs c.gl s.fs xs).map strip = rens (sg ins m s.n) args) (h : cokAll none (evs c.gl s.fs xs) ∧ GsOk s.fs s.n ins args hin m r hout n ∧ XD P c anc r0 (gsFoot s d xs ins m n :: fs) K (gsSt s d ins m r hout n)) : PendDR P c anc (.pd d (.call f) xs none) r0 fs K s :=
  ⟨_, _, gs_AOkT hgs h.1 hargs h.2.1, h.2.2⟩
end

theorem FT.gs {P : Program} {gl : Nat → AV} {f : FuncId} {fn : Func} {t : TC} {rs : List RS} (hF : FT P f fn t rs) {args : List AV} {hin hout : List (Nat × Bk)} {m n : Nat} {r : AV} (hN : args.length ≤ fn.ntmps) (hlive : ∀ p ∈ hin, p.2.live)
    (h : ∀ c : Cx, (∀ p ∈ c.gh, p.1 < m) → c.gl = gl → xw P c t (genK m rs r hout n) ⟨argT 0 args, hin, m⟩) : GS P gl f args hin m r hout n := by
  have hc := hF.code
  cases hb : fn.body with
  | none => rw [hb] at hc; simp at hc
  | some code =>
    rw [hb] at hc
    exact gs_of_xw hF.mixed hF.func hb hF.name hc hF.res hN hlive h
theorem gsOk_eq (s : FS) (n0 : Nat) (ins : List Nat) (args : List AV) (hin : List (Nat × Bk)) (m : Nat) (r : AV) (hout : List (Nat × Bk)) (n : Nat) : GsOk s n0 ins args hin m r hout n =
    (fitL (sg ins m n0) s m hin ∧ idx hin = upto m ∧ insB ins m n0 = true ∧ freeL s (newN n0 m n) ∧ houtL n hout ∧ m ≤ n ∧ nmOk n r ∧ nmAll m args) :=
  propext ⟨fun h => ⟨h.fit, h.cov, h.ins, h.free, h.out, h.le, h.nr, h.na⟩, fun ⟨a, b, c, d, e, f, g, h⟩ => ⟨a, b, c, d, e, f, g, h⟩⟩
theorem g_genK_ret (m : Nat) (rs : List RS) (r : AV) (hout : List (Nat × Bk)) (n : Nat) (s : St) : genK m rs r hout n .ret s = (rvOk s.fs rs ∧ ∃ ρ, pinL m ρ n ∧ Sub (rl ρ) ⟨[(0, rvs s.fs rs)], s.h, s.n⟩ ⟨[(0, r)], hout, n⟩) := rfl
theorem g_genK_normal (m : Nat) (rs : List RS) (r : AV) (hout : List (Nat × Bk)) (n : Nat) (s : St) : genK m rs r hout n .normal s = (rvOk s.fs rs ∧ ∃ ρ, pinL m ρ n ∧ Sub (rl ρ) ⟨[(0, rvs s.fs rs)], s.h, s.n⟩ ⟨[(0, r)], hout, n⟩) := rfl
theorem g_loopKG_normal {σ : Type} (m : Nat) (I : σ → Prop) (emb : σ → St) (μ : σ → Nat) (x : σ) (Q : EX → St → Prop) (s : St) : loopKG m I emb μ x Q .normal s = ∃ y, I y ∧ (∃ ρ, pinL m ρ (emb y).n ∧ Sub (rl ρ) s (emb y)) ∧ μ y < μ x := rfl
theorem g_loopKG_ret {σ : Type} (m : Nat) (I : σ → Prop) (emb : σ → St) (μ : σ → Nat) (x : σ) (Q : EX → St → Prop) (s : St) : loopKG m I emb μ x Q .ret s = Q .ret s := rfl
theorem g_loopKG_exit {σ : Type} (m : Nat) (I : σ → Prop) (emb : σ → St) (μ : σ → Nat) (x : σ) (Q : EX → St → Prop) (i : Nat) (s : St) : loopKG m I emb μ x Q (.exit i) s = Q (.exit i) s := rfl
theorem g_pinL_nil (m n : Nat) : pinL m [] n = (m ≤ n) := propext ⟨fun h => h.2, fun h => ⟨fun p hp => (by cases hp), h⟩⟩
theorem g_pinL_cons (m i j n : Nat) (r : List (Nat × Nat)) : pinL m ((i, j) :: r) n = (m ≤ i ∧ pinL m r n) := propext ⟨fun h => ⟨h.1 (i, j) (by simp), fun p hp => h.1 p (by simp [hp]), h.2⟩, fun h => ⟨fun p hp => by
  rcases List.mem_cons.1 hp with rfl | hp
  · exact h.1
  · exact h.2.1 p hp, h.2.2⟩⟩
theorem g_renB'_cells (σ : Nat → Nat) (cs : List AV) : renB' σ (.cells cs) = renB σ (.cells cs) := rfl
theorem g_renB'_mapb (σ : Nat → Nat) (kvs : List (AV × AV)) (dn : Bool) : renB' σ (.mapb kvs dn) = renB σ (.mapb kvs dn) := rfl
theorem g_renB'_dead (σ : Nat → Nat) : renB' σ .dead = .dead := rfl
theorem g_ob_sub (a : Nat) : a - 0 = a := rfl
attribute [go_sem] gsOk_eq gsSt gsFoot sg fitL houtL freeL newN newK outH idx upto insB distinct g_genK_ret g_genK_normal g_loopKG_normal g_loopKG_ret g_loopKG_exit g_pinL_nil g_pinL_cons g_renB'_cells g_renB'_mapb g_renB'_dead List.all_cons List.all_nil
end Go.Proofs.YtogckmommodmhaaGreatDoor

/-! Rows that are nil, under a name, at the head of a loop. No conditions but the ones that stand in each. -/
namespace Go.Proofs.YtogckmommodmhaaGreatDoor
set_option linter.all false
set_option linter.unusedSimpArgs false
open Go.RowKit

def St.ph (s : St) (d es : Nat) : St := (s.nw (.cells [])).put d (.sl es s.n 0 0 0)
def St.phs (s : St) : List (Nat × Nat) → St
  | [] => s
  | (d, es) :: r => (s.ph d es).phs r
def phOk (s : St) : List (Nat × Nat) → Prop
  | [] => True
  | (d, es) :: r => (s.fs.H s.n = .free ∧ look s.t d = .nils) ∧ phOk (s.ph d es) r
section
variable {P : Program} {c : Cx}
theorem R.ph {s : St} {d es : Nat} {g : Nat → GM} {a : Act} {w : World} (hR : R c g s.fs a w) (hfree : s.fs.H s.n = .free) (hd : look s.t d = .nils) : ∃ g', R c g' (s.ph d es).fs a w := by
  have h1 := R.phantom hR hfree
  refine ⟨updG g s.n .ph, ?_⟩
  have e : (s.ph d es).fs = (s.fs.putB s.n (.cells [])).put d (.sl es s.n 0 0 0) := by
    unfold St.ph; rw [St.fs_put, St.fs_nw]
  rw [e]
  refine ⟨h1.size, h1.def_, fun i => ?_, h1.gl, h1.h, h1.inj, h1.old, h1.fr, h1.xs, h1.pin⟩
  rw [FS.T_put]
  split
  · rename_i hi
    subst hi
    have := hR.t d
    have e2 : s.fs.T d = .nils := hd
    rw [e2] at this
    obtain ⟨ad, h⟩ := nils_inv this
    rw [h]
    exact .slp (by simp [updG]) rfl
  · exact h1.t i
theorem R.phs : ∀ {ps : List (Nat × Nat)} {s : St} {g : Nat → GM} {a : Act} {w : World}, R c g s.fs a w → phOk s ps → ∃ g', R c g' (s.phs ps).fs a w
  | [], s, g, a, w, hR, _ => ⟨g, hR⟩
  | (d, es) :: r, s, g, a, w, hR, h => by
    obtain ⟨g1, h1⟩ := hR.ph (es := es) h.1.1 h.1.2
    exact R.phs (ps := r) (s := s.ph d es) h1 h.2
theorem loopVC_ph {ps : List (Nat × Nat)} {b : TC} {Q : EX → St → Prop} {s : St} (h0 : phOk s ps) (h : LoopVC P c b Q (s.phs ps)) : LoopVC P c b Q s := fun code he g a w hR => by
  obtain ⟨g1, h1⟩ := hR.phs h0
  exact h code he g1 a w h1
end
attribute [go_sem] St.ph St.phs phOk
end Go.Proofs.YtogckmommodmhaaGreatDoor

/-! Operations that are not wanted. No conditions but the ones that stand in each. -/
namespace Go.Proofs.YtogckmommodmhaaGreatDoor
set_option linter.all false
set_option linter.unusedSimpArgs false
open Go.RowKit

section
variable {P : Program} {c : Cx}
def skipFoot (d : Option Nat) (gd : Option (Nat × Bool)) : Foot := ⟨gdT gd, [], d.toList, []⟩
theorem skip_AOkT {s : St} {d : Option Nat} {k : PK} {xs : List TV} {gd : Option (Nat × Bool)} (hb : gB s.fs gd = some false) (hok : gOk s.fs gd) : AOkT P c (.pd d k xs gd) s.fs (skipFoot d gd) (s.putO d (.cnd false .any)).fs := by
  intro ops io he
  obtain ⟨hgd, hdst, hd, ys, hel, rfl⟩ := elab_pd he
  have hput : (s.putO d (.cnd false .any)).fs = match d with | some d => s.fs.put d (.cnd false .any) | none => s.fs := by
    cases d with
    | none => rfl
    | some d => exact St.fs_put _ _ _
  rw [hput]
  refine ⟨fun i hi => ?_, fun b _ => by cases d <;> rfl, ?_⟩
  · cases d with
    | none => rfl
    | some d => show (s.fs.put d _).T i = _; rw [FS.T_put, if_neg (fun e => hi (by simp [skipFoot, e]))]
  · intro s2 hT hH g a w hR K Q' hK
    have hg : ∀ t b, gd = some (t, b) → s2.T t = s.fs.T t := fun t b e => hT t (by simp [skipFoot, e, gdT])
    have hgB : gB s2 gd = gB s.fs gd := by
      cases gd with
      | none => rfl
      | some p => obtain ⟨t, b⟩ := p; simp only [gB, hg t b rfl]
    have hgO : gOk s2 gd := by
      cases gd with
      | none => exact hok
      | some p => obtain ⟨t, b⟩ := p; simpa only [gOk, hg t b rfl] using hok
    have hK' : K (a.put io.dst undef) w := by
      rw [hdst]
      cases d with
      | none =>
        refine hK g _ w ?_
        have : ovr s2 s.fs (skipFoot none gd) = s2 := by unfold ovr skipFoot; simp
        simp only [this]; exact hR
      | some d =>
        refine hK g _ w ?_
        show R c g (ovr s2 (s.fs.put d _) ⟨gdT gd, [], [d], []⟩) _ _
        rw [ovr_put]
        exact hR.put (by simpa using hd) (.cnd (fun h => by cases h) fun _ => rfl)
    unfold Exec1
    rw [guard_ok hgd hR hgO, hgB, hb]
    simp only [Option.getD_some, Bool.false_eq_true, if_false]
    exact hK'
theorem pr_skip {r0 : List TOp} {K : St → Prop} {s : St} {d : Option Nat} {k : PK} {xs : List TV} {gd : Option (Nat × Bool)} (hb : gB s.fs gd = some false) (hok : gOk s.fs gd ∧ XP P c r0 K (s.putO d (.cnd false .any))) : PendR P c (.pd d k xs gd) r0 K s :=
  .inl ⟨_, _, skip_AOkT hb hok.1, hok.2⟩
theorem prD_skip {anc : List Nat} {fs : List Foot} {r0 : List TOp} {K : St → Prop} {s : St} {d : Option Nat} {k : PK} {xs : List TV} {gd : Option (Nat × Bool)} (hb : gB s.fs gd = some false) (hok : gOk s.fs gd ∧ XD P c anc r0 (skipFoot d gd :: fs) K (s.putO d (.cnd false .any))) : PendDR P c anc (.pd d k xs gd) r0 fs K s :=
  ⟨_, _, skip_AOkT hb hok.1, hok.2⟩
end
attribute [go_sem] skipFoot
end Go.Proofs.YtogckmommodmhaaGreatDoor

/-! Calls of functions that are values. No conditions but the ones that stand in each. -/
namespace Go.Proofs.YtogckmommodmhaaGreatDoor
set_option linter.all false
set_option linter.unusedSimpArgs false
open Go.RowKit

section
variable {P : Program} {c : Cx}
theorem gx_core {s s' : St} {d : Option Nat} {k : PK} {f : FuncId} {xs : List TV} {σ : Nat → Nat} {args : List AV} {hin : List (Nat × Bk)} {m : Nat} {r : AV} {hout : List (Nat × Bk)} {n : Nat} {N : List Nat} (hgs : GS P c.gl f args hin m r hout n)
    (hcallv : ∀ (o : Oper) (ys : List Operand), elabPK P o = some (k, ys) → xs = ys.map tvO → ∀ (s2 : FS) (g : Nat → GM) (a : Act) (w : World), (∀ i ∈ tmpsOf xs, s2.T i = s.fs.T i) → R c g s2 a w → ∃ vs : List Value, (execOp a.eval o).run P w = .ok (.enter f vs.toArray) w ∧ VRs g (wset c g s2) w (rens σ args) vs)
    (hsg : ∀ b b', b < n → b' < n → σ b = σ b' → b = b') (hfit : ∀ p ∈ hin, p.1 < m ∧ nmB m p.2 ∧ s.fs.H (σ p.1) = renB σ p.2) (hcov : ∀ b, b < m → ∃ p ∈ hin, p.1 = b) (hle : m ≤ n) (hfree : ∀ b, m ≤ b → b < n → s.fs.H (σ b) = .free)
    (hout' : ∀ p ∈ hout, p.1 < n ∧ nmB n p.2) (hnr : nmOk n r) (hna : nmAll m args)
    (hN1 : ∀ b, b < n → σ b ∈ N) (hN2 : ∀ j ∈ N, ∃ b, b < n ∧ σ b = j)
    (hfsT : ∀ i, s'.fs.T i = match d with | some d => (if d = i then ren σ r else s.fs.T i) | none => s.fs.T i) (hin' : ∀ b, b < n → s'.fs.H (σ b) = renB' σ (lookb hout n b)) (hrest : ∀ j, j ∉ N → s'.fs.H j = s.fs.H j) : AOkT P c (.pd d k xs none) s.fs ⟨tmpsOf xs, N, d.toList, N⟩ s'.fs := by
  intro ops io he
  obtain ⟨hgd, hdst, hd, ys, hel, rfl⟩ := elab_pd he
  refine ⟨fun i hi => ?_, fun j hj => hrest j hj, fun s2 hT hH g a w hR K Q' hK => exec_of_none (gd_none hgd) ?_⟩
  · rw [hfsT]
    cases d with
    | none => rfl
    | some d => simp only [Option.toList_some, List.mem_singleton] at hi; simp only; rw [if_neg fun e => hi e.symm]
  · obtain ⟨vs, hrun, hv⟩ := hcallv io ys hel rfl s2 g a w hT hR
    have fit2 : Fit σ s2 hin m := by
      refine ⟨fun p hp => ?_, fun p hp q hq e => hsg _ _ (Nat.lt_of_lt_of_le (hfit p hp).1 hle) (Nat.lt_of_lt_of_le (hfit q hq).1 hle) e⟩
      obtain ⟨q1, q2, q3⟩ := hfit p hp
      exact ⟨q1, q2, by rw [hH _ (hN1 p.1 (Nat.lt_of_lt_of_le q1 hle))]; exact q3⟩
    have hnew : ∀ b, m ≤ b → b < n → s2.H (σ b) = .free := fun b h1 h2 => by
      rw [hH _ (hN1 b h2)]; exact hfree b h1 h2
    obtain ⟨g1, hg1, hRl, hWl⟩ := lend hR fit2
    have hv1 := VRs_unren (g1 := g1) hg1 hWl hna hv
    have hcall := hgs.2 w _ _ _ g1 hRl hv1
    unfold Oper.wp
    rw [hrun]
    rw [Oper.upon_enter]
    refine hcall.mono fun e w' ⟨v, g2, e1, e2, e3, e4⟩ => ?_
    subst e1
    let s3 : FS := ⟨s2.T, fun j => if j ∈ N then s'.fs.H j else s2.H j⟩
    have hb : Back σ s2 s3 hout n := by
      refine ⟨fun i => rfl, fun b hbn => ?_, fun j hj => ?_⟩
      · show (if _ then _ else _) = _
        rw [if_pos (hN1 b hbn), hin' b hbn]
      · show (if _ then _ else _) = _
        rw [if_neg fun h => ?_]
        obtain ⟨b, hbn, rfl⟩ := hN2 j h
        exact hj b hbn rfl
    obtain ⟨hR3, hval⟩ := take_back hR fit2 hcov hle hsg hnew (fun p hp => (hout' p hp).2) (fun p hp => (hout' p hp).1) hg1 e3 e2 hb
    have hv3 := hval hnr e4
    show K (a.put io.dst v) w'
    rw [hdst]
    cases d with
    | none =>
      refine hK (backG g g2 σ n) _ w' ?_
      have : ovr s2 s'.fs ⟨tmpsOf (ys.map tvO), N, [], N⟩ = s3 := by
        refine fs_ext (fun i => ?_) fun j => rfl
        show (if i ∈ ([] : List Nat) then s'.fs.T i else s2.T i) = s2.T i
        simp
      show R c _ (ovr s2 s'.fs ⟨tmpsOf (ys.map tvO), N, [], N⟩) _ _
      rw [this]; exact hR3
    | some d =>
      refine hK (backG g g2 σ n) _ w' ?_
      have : ovr s2 s'.fs ⟨tmpsOf (ys.map tvO), N, [d], N⟩ = s3.put d (ren σ r) := by
        refine fs_ext (fun i => ?_) fun j => rfl
        show (if i ∈ [d] then s'.fs.T i else s2.T i) = _
        rw [FS.T_put, hfsT]
        by_cases h : d = i
        · subst h; simp
        · rw [if_neg (by simpa using fun e : i = d => h e.symm), if_neg h]
      show R c _ (ovr s2 s'.fs ⟨tmpsOf (ys.map tvO), N, [d], N⟩) _ _
      rw [this]; exact hR3.put (by simpa using hd) hv3
theorem gs_core {s : St} {d : Option Nat} {k : PK} {f : FuncId} {xs : List TV} {ins : List Nat} {args : List AV} {hin : List (Nat × Bk)} {m : Nat} {r : AV} {hout : List (Nat × Bk)} {n : Nat} (hgs : GS P c.gl f args hin m r hout n)
    (hcallv : ∀ (o : Oper) (ys : List Operand), elabPK P o = some (k, ys) → xs = ys.map tvO → ∀ (s2 : FS) (g : Nat → GM) (a : Act) (w : World), (∀ i ∈ tmpsOf xs, s2.T i = s.fs.T i) → R c g s2 a w → ∃ vs : List Value, (execOp a.eval o).run P w = .ok (.enter f vs.toArray) w ∧ VRs g (wset c g s2) w (rens (sg ins m s.n) args) vs)
    (ok : GsOk s.fs s.n ins args hin m r hout n) : AOkT P c (.pd d k xs none) s.fs (gsFoot s d xs ins m n) (gsSt s d ins m r hout n).fs := by
  have hsg : ∀ b b', b < n → b' < n → sg ins m s.n b = sg ins m s.n b' → b = b' := fun b b' _ _ e => sg_inj ok.ins e
  have hlen : ins.length = m := by
    have := ok.ins; simp only [insB, Bool.and_eq_true, beq_iff_eq] at this; exact this.1.1
  -- the names that are touched
  have hnames : ∀ b, b < n → sg ins m s.n b ∈ ins ++ newN s.n m n := fun b hb => by
    unfold sg
    split
    · rename_i h
      refine List.mem_append_left _ ?_
      simp only [List.getD, List.getElem?_eq_getElem (show b < ins.length by omega), Option.getD_some]; exact List.getElem_mem _
    · refine List.mem_append_right _ ?_
      simp only [newN, newK_mem]; exact ⟨b - m, by omega, rfl⟩
  have hback : ∀ j, j ∈ ins ++ newN s.n m n → ∃ b, b < n ∧ sg ins m s.n b = j := fun j hj => by
    rcases List.mem_append.1 hj with h | h
    · obtain ⟨i, hi, rfl⟩ := List.getElem_of_mem h
      have := ok.le
      refine ⟨i, by omega, ?_⟩
      unfold sg; rw [if_pos (by omega)]; simp [List.getD, hi]
    · simp only [newN, newK_mem] at h
      obtain ⟨i, hi, rfl⟩ := h
      exact ⟨m + i, by omega, by unfold sg; rw [if_neg (by omega)]; omega⟩
  have hfsH : ∀ j, (gsSt s d ins m r hout n).fs.H j = lookb (outH (sg ins m s.n) hout n n ++ s.h) (s.n + (n - m)) j := fun j => by cases d <;> rfl
  have hfsT : ∀ i, (gsSt s d ins m r hout n).fs.T i = match d with | some d => (if d = i then ren (sg ins m s.n) r else s.fs.T i) | none => s.fs.T i := fun i => by
    cases d with
    | none => rfl
    | some d => show look ((d, _) :: s.t) i = _; rw [look_cons]; rfl
  have hin' : ∀ b, b < n → lookb (outH (sg ins m s.n) hout n n ++ s.h) (s.n + (n - m)) (sg ins m s.n b) = renB' (sg ins m s.n) (lookb hout n b) := fun b hb => by
    rcases lookb_app (outH (sg ins m s.n) hout n n) s.h (s.n + (n - m)) (sg ins m s.n b) with ⟨_, p, hp, e1, e2⟩ | ⟨h1, _⟩
    · obtain ⟨b', hb', rfl⟩ := outH_mem.1 hp
      have := hsg b' b hb' hb e1
      subst this; exact e2
    · exact (h1 _ (outH_mem.2 ⟨b, hb, rfl⟩) rfl).elim
  have hrest : ∀ j, j ∉ ins ++ newN s.n m n → lookb (outH (sg ins m s.n) hout n n ++ s.h) (s.n + (n - m)) j = s.fs.H j := fun j hj => by
    rcases lookb_app (outH (sg ins m s.n) hout n n) s.h (s.n + (n - m)) j with ⟨⟨p, hp, e⟩, _⟩ | ⟨_, h2⟩
    · obtain ⟨b, hb, rfl⟩ := outH_mem.1 hp
      exact (hj (e ▸ hnames b hb)).elim
    · rw [h2]
      show lookb s.h (s.n + (n - m)) j = lookb s.h s.n j
      have hno : ∀ k, k ≤ n - m → lookb s.h (s.n + k) j = lookb s.h s.n j := fun k hk => by
        induction k with
        | zero => rfl
        | succ k ih =>
          rw [← ih (by omega)]
          refine lookb_up s.h (s.n + k) j fun e => hj ?_
          refine List.mem_append_right _ ?_
          simp only [newN, newK_mem]; exact ⟨k, by omega, e.symm⟩
      exact hno _ (Nat.le_refl _)
  exact gx_core (σ := sg ins m s.n) (N := ins ++ newN s.n m n) hgs hcallv hsg (fun p hp => fitL_mem ok.fit p hp) (fun b hb => by
    have := upto_mem.2 hb
    rw [← ok.cov, idx_eq] at this
    obtain ⟨p, hp, e⟩ := List.mem_map.1 this
    exact ⟨p, hp, e⟩) ok.le (fun b h1 h2 => by
    refine freeL_mem ok.free _ ?_
    unfold sg; rw [if_neg (by omega)]
    simp only [newN, newK_mem]; exact ⟨b - m, by omega, rfl⟩) (fun p hp => houtL_mem ok.out p hp) ok.nr ok.na hnames hback (fun i => by rw [hfsT]; cases d <;> rfl) (fun b hb => by rw [hfsH]; exact hin' b hb) (fun j hj => by rw [hfsH]; exact hrest j hj)
theorem elab_callv {o : Oper} {xs : List Operand} (h : elabPK P o = some (.callv, xs)) : ∃ x ys ts, xs = x :: ys ∧ o.op = .call ⟨.value x, ys.toArray, ts⟩ := by
  unfold elabPK at h
  repeat' split at h
  all_goals first
    | (simp only [Option.some.injEq, Prod.mk.injEq, true_and] at h; subst h; rename_i hop; exact ⟨_, _, _, rfl, by rw [hop]⟩)
    | (simp at h; done)
    | (cases h; done)
    | (simp [Option.map_eq_some_iff] at h; done)
theorem run_callv {f : FuncId} (hc : Callable P f) {o : Oper} {x : Operand} {ys : List Operand} {ts : Array TypeId} (ho : o.op = .call ⟨.value x, ys.toArray, ts⟩) (a : Act) (w : World) (us : Array Value) (hx : a.eval x = .func (.func f) #[] us) :
    (execOp a.eval o).run P w = .ok (.enter f (ys.map a.eval ++ us.toList).toArray) w := by
  have e : (ys.map a.eval ++ us.toList).toArray = (ys.map a.eval).toArray ++ us := Array.ext' (by simp)
  rw [e]
  obtain ⟨fn, h1, h2, h3⟩ := hc
  have h2' : fn.body ≠ none := fun e => by rw [e] at h2; cases h2
  have h3' : fn.name ≠ "runtime.NumGoroutine" := fun e => by rw [e] at h3; cases h3
  simp [execOp, ho, resolve, hx, Deferred.ofValue, invoke, callFunc, program, Sem.run, h1, h2', h3']
theorem VRs_append {g : Nat → GM} {W : Nat → Prop} {w : World} : ∀ {xs ys : List AV} {us vs : List Value}, VRs g W w xs us → VRs g W w ys vs → VRs g W w (xs ++ ys) (us ++ vs)
  | [], _, [], _, _, h => h
  | _ :: _, _, _ :: _, _, h, k => ⟨h.1, VRs_append h.2 k⟩
  | [], _, _ :: _, _, h, _ => h.elim
  | _ :: _, _, [], _, h, _ => h.elim
theorem VRs_of {g : Nat → GM} {W : Nat → Prop} {w : World} : ∀ {xs : List AV} {us : List Value}, us.length = xs.length → (∀ j, j < xs.length → VR g W w (xs.getD j .any) (us.getD j undef)) → VRs g W w xs us
  | [], [], _, _ => trivial
  | x :: xs, u :: us, hl, h => ⟨by simpa using h 0 (by simp), VRs_of (by simpa using hl) fun j hj => by simpa using h (j + 1) (by simp; omega)⟩
  | [], _ :: _, hl, _ => by simp at hl
  | _ :: _, [], hl, _ => by simp at hl
/-- The arguments of a call of a value: those that are given, and those that it holds. -/
def vArgs : List AV → Option (FuncId × List AV)
  | .cl f caps :: r => some (f, r ++ caps)
  | _ => none
theorem gsv_AOkT {s : St} {d : Option Nat} {f : FuncId} {xs : List TV} {ins : List Nat} {args : List AV} {hin : List (Nat × Bk)} {m : Nat} {r : AV} {hout : List (Nat × Bk)} {n : Nat} (hgs : GS P c.gl f args hin m r hout n) (hc : cokAll none (evs c.gl s.fs xs))
    (hargs : vArgs ((evs c.gl s.fs xs).map strip) = some (f, rens (sg ins m s.n) args)) (ok : GsOk s.fs s.n ins args hin m r hout n) : AOkT P c (.pd d .callv xs none) s.fs (gsFoot s d xs ins m n) (gsSt s d ins m r hout n).fs := by
  refine gs_core hgs (fun o zs hel hxs s2 g a w hT hR => ?_) ok
  obtain ⟨x, ys, ts, rfl, hop⟩ := elab_callv hel
  subst hxs
  have hevs : evs c.gl s2 ((x :: ys).map tvO) = evs c.gl s.fs ((x :: ys).map tvO) := evs_congr fun i hi => hT i hi
  have hv := VRs_strip (hR.evs (x :: ys)) (by rw [hevs]; exact hc)
  rw [hevs] at hv
  generalize (evs c.gl s.fs ((x :: ys).map tvO)).map strip = zs at hargs hv
  cases zs with
  | nil => simp [vArgs] at hargs
  | cons z zs =>
    unfold vArgs at hargs
    split at hargs
    · rename_i f' caps' r' heq
      simp only [Option.some.injEq, Prod.mk.injEq] at hargs
      obtain ⟨rfl, hargs⟩ := hargs
      simp only [List.cons.injEq] at heq
      obtain ⟨rfl, rfl⟩ := heq
      rw [List.map_cons] at hv
      obtain ⟨h1, h2⟩ := hv
      generalize hx : a.eval x = vx at h1
      cases h1 with
      | cl hs h =>
        refine ⟨_, run_callv hgs.1 hop a w _ hx, ?_⟩
        rw [← hargs]
        have := VRs_append h2 (VRs_of (xs := caps') (us := Array.toList _) (by simpa using hs) fun j hj => by
          have := h j hj
          simpa [Array.getD_eq_getD_getElem?, List.getD] using this)
        exact this
    · cases hargs
theorem pr_gsv {r0 : List TOp} {K : St → Prop} {s : St} {d : Option Nat} {f : FuncId} {xs : List TV} {ins : List Nat} {args : List AV} {hin : List (Nat × Bk)} {m : Nat} {r : AV} {hout : List (Nat × Bk)} {n : Nat} (hgs : GS P c.gl f args hin m r hout n)
    (hargs : vArgs ((evs c.gl s.fs xs).map strip) = some (f, rens (sg ins m s.n) args)) (h : cokAll none (evs c.gl s.fs xs) ∧ GsOk s.fs s.n ins args hin m r hout n ∧ XP P c r0 K (gsSt s d ins m r hout n)) : PendR P c (.pd d .callv xs none) r0 K s :=
  .inl ⟨_, _, gsv_AOkT hgs h.1 hargs h.2.1, h.2.2⟩
theorem prD_gsv {anc : List Nat} {fs : List Foot} {r0 : List TOp} {K : St → Prop} {s : St} {d : Option Nat} {f : FuncId} {xs : List TV} {ins : List Nat} {args : List AV} {hin : List (Nat × Bk)} {m : Nat} {r : AV} {hout : List (Nat × Bk)} {n : Nat} (hgs : GS P c.gl f args hin m r hout n)
    (hargs : vArgs ((evs c.gl s.fs xs).map strip) = some (f, rens (sg ins m s.n) args)) (h : cokAll none (evs c.gl s.fs xs) ∧ GsOk s.fs s.n ins args hin m r hout n ∧ XD P c anc r0 (gsFoot s d xs ins m n :: fs) K (gsSt s d ins m r hout n)) : PendDR P c anc (.pd d .callv xs none) r0 fs K s :=
  ⟨_, _, gsv_AOkT hgs h.1 hargs h.2.1, h.2.2⟩
theorem qcallv {f : FuncId} {caps as : List AV} {r : AV} (hps : PS P c.gl f (as ++ caps) r) (hnm : nmAll 0 (as ++ caps)) : QRun P c .callv (.cl f caps :: as) r := by
  intro o ys hel g W a w hX hgl hv K Q hK
  obtain ⟨x, zs, ts, rfl, hop⟩ := elab_callv hel
  rw [List.map_cons] at hv
  obtain ⟨h1, h2⟩ := hv
  generalize hx : a.eval x = vx at h1
  cases h1 with
  | cl hs h =>
    have h3 := VRs_append h2 (VRs_of (xs := caps) (us := Array.toList _) (by simpa using hs) fun j hj => by
      have := h j hj
      simpa [Array.getD_eq_getD_getElem?, List.getD] using this)
    have h4 : VRs (fun _ => .un) W w (as ++ caps) _ := VRs_nm (n := 0) (fun b hb => absurd hb (by omega)) h3 hnm
    unfold Oper.wp
    rw [run_callv hps.1 hop a w _ hx]
    rw [Oper.upon_enter]
    refine (hps.2 w _ _ hX hgl h4).mono fun e w' ⟨v, e1, e2, e3⟩ => ?_
    subst e1
    exact hK v w' e3 (e2.mono (Fr.refl _ _) (fun _ _ h => h) (fun _ h => absurd rfl h))
theorem elab_none {N : Nat} {ops : Array Oper} {io : Oper} {d : Option Nat} {k : PK} {xs : List TV} {gd : Option (Nat × Bool)} (h : elabOp P N ops io = some (.pd d k xs gd)) : elabOp P N ops { io with guard := none } = some (.pd d k xs none) := by
  have hg0 : gdOf ops { io with guard := none } = some none := rfl
  have hq : elabQ P { io with guard := none } = elabQ P io := rfl
  have hp : elabPK P { io with guard := none } = elabPK P io := rfl
  unfold elabOp at h ⊢
  rw [hg0, hq, hp]
  split at h
  · cases h
  · rename_i gd' hg
    dsimp only
    split at h
    · split at h
      · split at h <;> simp at h
      · cases h
    · split at h <;> simp at h
    · split at h <;> simp at h
    · rename_i n1 n2 n3
      have rest : ∀ {α : Type} (x : α), x = x := fun _ => rfl
      split at h
      · split at h <;> simp at h
      · rename_i n4
        split at h
        · rename_i k' ys hk
          split at h
          · rename_i hd
            simp only [Option.some.injEq, TOp.pd.injEq] at h
            obtain ⟨rfl, rfl, rfl, rfl⟩ := h
            split
            all_goals first
              | (exfalso; apply n1 <;> assumption)
              | (exfalso; apply n2 <;> assumption)
              | (exfalso; apply n3 <;> assumption)
              | (exfalso; apply n4 <;> assumption)
              | rfl
              | (exfalso; contradiction)
          · cases h
        · cases h
theorem on_AOkT {s : FS} {s' : FS} {d : Option Nat} {k : PK} {xs : List TV} {gd : Option (Nat × Bool)} {F : Foot} (hb : gB s gd = some true) (hok : gOk s gd) (h : AOkT P c (.pd d k xs none) s F s') : AOkT P c (.pd d k xs gd) s ⟨gdT gd ++ F.rt, F.rb, F.wt, F.wb⟩ s' := by
  intro ops io he
  obtain ⟨hgd, hdst, hd, ys, hel, rfl⟩ := elab_pd he
  obtain ⟨h1, h2, h3⟩ := h ops _ (elab_none he)
  refine ⟨h1, h2, fun s2 hT hH g a w hR K Q' hK => ?_⟩
  have hg : ∀ t b, gd = some (t, b) → s2.T t = s.T t := fun t b e => hT t (by simp [e, gdT])
  have hgB : gB s2 gd = gB s gd := by
    cases gd with
    | none => rfl
    | some p => obtain ⟨t, b⟩ := p; simp only [gB, hg t b rfl]
  have hgO : gOk s2 gd := by
    cases gd with
    | none => exact hok
    | some p => obtain ⟨t, b⟩ := p; simpa only [gOk, hg t b rfl] using hok
  have h4 := h3 s2 (fun i hi => hT i (by simp [hi])) hH g a w hR K Q' hK
  unfold Exec1 at h4 ⊢
  rw [guard_ok hgd hR hgO, hgB, hb]
  rw [wanted_none rfl, if_pos rfl] at h4
  rw [Option.getD_some, if_pos rfl]
  exact h4
theorem pr_on {r0 : List TOp} {K : St → Prop} {s : St} {d : Option Nat} {k : PK} {xs : List TV} {gd : Option (Nat × Bool)} (hb : gB s.fs gd = some true) (hok : gOk s.fs gd) (h : PendR P c (.pd d k xs none) r0 K s) : PendR P c (.pd d k xs gd) r0 K s := by
  rcases h with ⟨F, s', h1, h2⟩ | h
  · exact .inl ⟨_, s', on_AOkT hb hok h1, h2⟩
  · refine .inr fun ops io he g a w hR K' Q' hK => ?_
    obtain ⟨hgd, hdst, hd, ys, hel, rfl⟩ := elab_pd he
    have h4 := h ops _ (elab_none he) g a w hR K' Q' hK
    unfold Exec1 at h4 ⊢
    rw [guard_ok hgd hR hok, hb]
    rw [wanted_none rfl, if_pos rfl] at h4
    rw [Option.getD_some, if_pos rfl]
    exact h4
end
theorem g_vArgs_cl (f : FuncId) (caps r : List AV) : vArgs (.cl f caps :: r) = some (f, r ++ caps) := rfl
attribute [go_sem] g_vArgs_cl
end Go.Proofs.YtogckmommodmhaaGreatDoor

/-! Small things for walks. No conditions. -/
namespace Go.Proofs.YtogckmommodmhaaGreatDoor
set_option linter.all false
set_option linter.unusedSimpArgs false
open Go.RowKit

section
variable {P : Program} {c : Cx}
theorem z1 {o : TOp} {r : List TOp} {K : St → Prop} {s : St} (h : PendR P c o r K s) : PendR P c o r K s := h
theorem z2 {t : TC} {Q : EX → St → Prop} {s : St} (h : xw P c t Q s) : xw P c t Q s := h
theorem z3 {anc : List Nat} {o : TOp} {r : List TOp} {fs : List Foot} {K : St → Prop} {s : St} (h : PendDR P c anc o r fs K s) : PendDR P c anc o r fs K s := h
end
attribute [go_sem] if_true if_false List.length_replicate List.length_take List.length_drop List.length_set List.length_cons List.length_nil decide_true decide_false bne_self_eq_false beq_self_eq_true

/-! Steps whose reckoning is written once. No conditions but the ones that stand in each. -/
def nvr (n : Nat) : Nat := n
theorem zf1 : nvr 1 = 1 := rfl
theorem zf2 : nvr 2 = 2 := rfl
theorem zf3 : nvr 3 = 3 := rfl
theorem zf4 : nvr 4 = 4 := rfl
theorem zf5 : nvr 5 = 5 := rfl
theorem zf6 : nvr 6 = 6 := rfl
theorem zf7 : nvr 7 = 7 := rfl
theorem zf8 : nvr 8 = 8 := rfl
theorem zf9 : nvr 9 = 9 := rfl
class Main (p : Prop) : Prop where
  it : True
instance {P : Program} {c : Cx} {o : TOp} {r : List TOp} {K : St → Prop} {s : St} : Main (PendR P c o r K s) := ⟨trivial⟩
instance {P : Program} {c : Cx} {t : TC} {Q : EX → St → Prop} {s : St} : Main (xw P c t Q s) := ⟨trivial⟩
instance {P : Program} {c : Cx} {anc : List Nat} {o : TOp} {r : List TOp} {fs : List Foot} {K : St → Prop} {s : St} : Main (PendDR P c anc o r fs K s) := ⟨trivial⟩
instance {P : Program} {c : Cx} {b : TC} {Q : EX → St → Prop} {s : St} : Main (LoopVC P c b Q s) := ⟨trivial⟩
theorem zm {p : Prop} [Main p] (h : p) : p := h
theorem XG {p q : Prop} (k : q) (h : p = q := by (conv => lhs; simp (disch := first | omega | (simp only [go_sem] <;> omega) | fail) only [go_sem, ↓reduceIte, Nat.reduceBEq, Nat.reduceAdd, Nat.reduceMul, Nat.reduceSub, Nat.reduceLT, Nat.reduceLeDiff, Nat.reduceEqDiff, Int.reduceToNat, Int.reduceBEq, Int.reduceBNe, Int.reduceLT, Int.reduceLE, Int.reduceEq, zf1, zf2, zf3, zf4, zf5, zf6, zf7, zf8, zf9])) : p := h.mpr k
theorem XM {p q : Prop} (k : q) (h : p = q := by (conv => lhs; simp (disch := first | omega | (simp only [go_sem] <;> omega) | fail) only [go_sem, ↓reduceIte, Nat.reduceBEq, Nat.reduceAdd, Nat.reduceMul, Nat.reduceSub, Nat.reduceLT, Nat.reduceLeDiff, Nat.reduceEqDiff, Int.reduceToNat, Int.reduceBEq, Int.reduceBNe, Int.reduceLT, Int.reduceLE, Int.reduceEq, Int.reduceMul, Int.reduceAdd, Int.reduceSub, zf1, zf2, zf3, zf4, zf5, zf6, zf7, zf8, zf9])) : p := h.mpr k
theorem CL {p : Prop} (h : p := by (first | exact True.intro | omega | (show drawOk _ _ _ = true; decide +kernel) | (refine fun _ => ?_; simp_all; done) | fail)) : p := h
theorem xw_ifp {P : Program} {c : Cx} {Q : EX → St → Prop} {s : St} {x : TV} {a b : TC} {t : Bool} {A B : Prop} (ht : A → xw P c a Q s) (hf : B → xw P c b Q s)
    (h : evT c.gl s.fs x = .bool t := by (refine XG ?_; first | exact rfl | exact True.intro | fail))
    (hA : (t = true) = A := by (conv => lhs; (try simp only [decide_eq_true_eq, decide_eq_false_iff_not, Bool.or_eq_true, Bool.and_eq_true, Bool.not_eq_true', Bool.or_eq_false_iff, Bool.and_eq_false_iff, Bool.not_eq_false', beq_iff_eq, bne_iff_ne, ne_eq, beq_eq_false_iff_ne, bne_eq_false_iff_eq, Bool.true_eq_false, Bool.false_eq_true, Decidable.not_not])))
    (hB : (t = false) = B := by (conv => lhs; (try simp only [decide_eq_true_eq, decide_eq_false_iff_not, Bool.or_eq_true, Bool.and_eq_true, Bool.not_eq_true', Bool.or_eq_false_iff, Bool.and_eq_false_iff, Bool.not_eq_false', beq_iff_eq, bne_iff_ne, ne_eq, beq_eq_false_iff_ne, bne_eq_false_iff_eq, Bool.true_eq_false, Bool.false_eq_true, Decidable.not_not]))) : xw P c (.cond x a b) Q s :=
  xw_if h (fun e => ht (hA.mp e)) (fun e => hf (hB.mp e))
end Go.Proofs.YtogckmommodmhaaGreatDoor
