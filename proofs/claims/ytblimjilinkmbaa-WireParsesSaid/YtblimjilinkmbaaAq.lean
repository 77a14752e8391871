/- Rows that are made and that grow, as steps of a walk. No conditions but the ones that stand in each. -/
import Derived.Test.YtblimjilinkmbaaAp
namespace Go.Proofs.Ytblimjilinkmbaa
set_option linter.all false
set_option linter.unusedSimpArgs false
open Go.RowKit

section
variable {P : Program} {c : Cx} {ops : Array Oper} {io : Oper}

theorem killO_T (s : FS) (kb : Option Nat) (i : Nat) : (s.killO kb).T i = s.T i := by cases kb <;> rfl
theorem killO_H (s : FS) (kb : Option Nat) (j : Nat) : (s.killO kb).H j = if kb = some j then .dead else s.H j := by
  cases kb with
  | none => rfl
  | some b => simp only [FS.killO, FS.H_putB, Option.some.injEq]
theorem ovr_row {s s2 : FS} {nm d : Nat} {kb : Option Nat} {X : Bk} {V : AV} {rt rb : List Nat} : ovr s2 (((s.killO kb).putB nm X).put d V) ⟨rt, rb, [d], nm :: kb.toList⟩ = ((s2.killO kb).putB nm X).put d V := by
  refine fs_ext (fun i => ?_) fun j => ?_
  · show (if i ∈ [d] then _ else _) = _
    simp only [FS.T_put, List.mem_singleton]
    by_cases h : i = d
    · subst h; simp
    · rw [if_neg h, if_neg fun e => h e.symm]; show _ = (s2.killO kb).T i; rw [killO_T]
  · show (if j ∈ nm :: kb.toList then (((s.killO kb).putB nm X).put d V).H j else s2.H j) = _
    simp only [FS.H_put, FS.H_putB, killO_H, List.mem_cons, Option.mem_toList]
    by_cases h : nm = j
    · subst h; simp
    · simp only [if_neg h, if_neg (fun e : j = nm => h e.symm), false_or, (fun e => h e.symm : ¬ j = nm)]
      by_cases hk : kb = some j
      · subst hk; simp
      · have hk' : ¬ j ∈ kb := fun e => hk e
        simp [hk, hk']
        exact fun e => absurd e.symm h
theorem row_AOk {s : FS} {nm d : Nat} {kb : Option Nat} {X : List AV} {V : AV} {rt rb : List Nat} (hg : io.guard = none) (hdst : io.dst = some d) (hd : d < c.N)
    (core : ∀ s2 : FS, (∀ i ∈ rt, s2.T i = s.T i) → (∀ b ∈ rb, s2.H b = s.H b) → ∀ g a w, R c g s2 a w → ∃ g' v' w', (execOp a.eval io).run P w = .ok (.value v') w' ∧ R c g' ((s2.killO kb).putB nm (.cells X)) a w' ∧ VR g' (wset c g' ((s2.killO kb).putB nm (.cells X))) w' V v') :
    AOk P c ops io s ⟨rt, rb, [d], nm :: kb.toList⟩ (((s.killO kb).putB nm (.cells X)).put d V) := by
  refine ⟨fun i hi => ?_, fun j hj => ?_, fun s2 hT hH g a w hR K Q' hK => exec_of_none hg ?_⟩
  · rw [FS.T_put, if_neg (fun e => hi (by simp [e]))]; exact killO_T s kb i
  · rw [FS.H_put, FS.H_putB, killO_H, if_neg (fun e => hj (by simp [e])), if_neg (fun e => hj (by simp [e]))]
  · obtain ⟨g', v', w', hr, hR', hv⟩ := core s2 hT hH g a w hR
    unfold Oper.wp
    rw [hr]
    show K (a.put io.dst v') w'
    rw [hdst]
    refine hK g' _ w' ?_
    rw [ovr_row]
    exact hR'.put hd hv

/-! ### append -/
theorem elab_app {o : Oper} {es by_ : Nat} {str : Bool} {xs : List Operand} (h : elabPK P o = some (.app es by_ str, xs)) :
    ∃ x y t u e i z, xs = [x, y] ∧ o.op = .call ⟨.builtin .append, ⟨[x, y]⟩, ⟨[t, u]⟩⟩ ∧ P.underlying t = some (.slice e) ∧ P.info? e = some i ∧ i.zero = some z ∧ z.cells.size = i.size ∧ i.size = es ∧ i.bytes = by_ ∧ (u = t ∨ P.underlying u = some .string) := by
  unfold elabPK at h
  repeat' split at h
  all_goals first
    | (cases h; exact ⟨_, _, _, _, _, _, _, rfl, by assumption, by assumption, by assumption, by assumption, (by rename_i hc _; exact hc.1), rfl, rfl, .inl (by assumption)⟩)
    | (cases h; exact ⟨_, _, _, _, _, _, _, rfl, by assumption, by assumption, by assumption, by assumption, (by rename_i hc _ _ _; exact hc.1), rfl, rfl, .inr (by assumption)⟩)
    | (simp at h; done)
    | (cases h; done)
    | (simp [Option.map_eq_some_iff] at h; done)
    | trace_state

def appOk (s : FS) (es by_ : Nat) (str : Bool) (nm : Nat) : List AV → Prop
  | [vb, vx] => baseOk s es vb ∧ srcOk s es str vx ∧ s.H nm = .free ∧ srcN vb + srcN vx ≤ 9223372036854775807 ∧ (srcN vb + srcN vx) * by_ ≤ 140737488355328
  | _ => False
def appV (es nm : Nat) : List AV → AV
  | [vb, vx] => .sl es nm 0 (srcN vb + srcN vx) (srcN vb + srcN vx)
  | _ => .any
def appC (s : FS) (es : Nat) : List AV → List AV
  | [vb, vx] => srcC s es vb ++ srcC s es vx
  | _ => []
def appB : List AV → Option Nat
  | vb :: _ => srcB vb
  | [] => none
def appR : List AV → List Nat
  | [vb, vx] => (srcB vb).toList ++ (srcB vx).toList
  | _ => []
def St.killO (s : St) : Option Nat → St
  | some b => s.putB b .dead
  | none => s
theorem St.fs_killO (s : St) (kb : Option Nat) : (s.killO kb).fs = s.fs.killO kb := by
  cases kb with
  | none => rfl
  | some b => exact St.fs_putB _ _ _
theorem St.n_killO (s : St) (kb : Option Nat) : (s.killO kb).n = s.n := by cases kb <;> rfl
theorem srcN_congr : True := trivial
theorem srcC_congr {s s2 : FS} {es : Nat} {x : AV} (h : ∀ b, srcB x = some b → s2.H b = s.H b) : srcC s2 es x = srcC s es x := by
  cases x <;> simp only [srcC]
  rename_i b o n cc
  rw [h _ rfl]
theorem srcOk_congr {s s2 : FS} {es : Nat} {str : Bool} {x : AV} (h : ∀ b, srcB x = some b → s2.H b = s.H b) (ok : srcOk s es str x) : srcOk s2 es str x := by
  cases x <;> simp only [srcOk] at ok ⊢ <;> try exact ok
  rw [h _ rfl]; exact ok
theorem baseOk_congr {s s2 : FS} {es : Nat} {x : AV} (h : ∀ b, srcB x = some b → s2.H b = s.H b) (ok : baseOk s es x) : baseOk s2 es x := by
  cases x <;> simp only [baseOk] at ok ⊢ <;> try exact ok
  rw [h _ rfl]; exact ok

def rowFoot (s : St) (gl : Nat → AV) (d : Nat) (xs : List TV) : Foot := ⟨tmpsOf xs, s.n :: appR ((evs gl s.fs xs).map strip), [d], s.n :: (appB ((evs gl s.fs xs).map strip)).toList⟩
def rowSt (s : St) (gl : Nat → AV) (d es : Nat) (xs : List TV) : St := ((s.killO (appB ((evs gl s.fs xs).map strip))).nw (.cells (appC s.fs es ((evs gl s.fs xs).map strip)))).put d (appV es s.n ((evs gl s.fs xs).map strip))
theorem app_AOkT {s : St} {d es by_ : Nat} {str : Bool} {xs : List TV} (hc : cokAll none (evs c.gl s.fs xs)) (hok : appOk s.fs es by_ str s.n ((evs c.gl s.fs xs).map strip)) :
    AOkT P c (.pd (some d) (.app es by_ str) xs none) s.fs (rowFoot s c.gl d xs) (rowSt s c.gl d es xs).fs := by
  intro ops io he
  obtain ⟨hgd, hdst, hd, ys, hel, rfl⟩ := elab_pd he
  obtain ⟨x, y, t, u, e, i, z, rfl, hop, hu, hi, hz, hzs, hes, hby, hut⟩ := elab_app hel
  have hv2 : (evs c.gl s.fs ([x, y].map tvO)).map strip = [strip (evT c.gl s.fs (tvO x)), strip (evT c.gl s.fs (tvO y))] := rfl
  unfold rowFoot rowSt
  rw [hv2] at hok ⊢
  generalize hvb : strip (evT c.gl s.fs (tvO x)) = vb at *
  generalize hvx : strip (evT c.gl s.fs (tvO y)) = vx at *
  obtain ⟨okb, okx, hfree, h63, hb⟩ := hok
  rw [St.fs_put, St.fs_nw, St.fs_killO, St.n_killO]
  simp only [appB, appC, appV, appR]
  refine row_AOk (gd_none hgd) hdst (by simpa using hd) fun s2 hT hH g a w hR => ?_
  have hevs : evs c.gl s2 ([x, y].map tvO) = evs c.gl s.fs ([x, y].map tvO) := evs_congr hT
  have hvs := VRs_strip (hR.evs [x, y]) (by rw [hevs]; exact hc)
  rw [hevs, hv2] at hvs
  obtain ⟨v1, v2, _⟩ := hvs
  have hHb : ∀ b, srcB vb = some b → s2.H b = s.fs.H b := fun b h => hH b (by simp [h])
  have hHx : ∀ b, srcB vx = some b → s2.H b = s.fs.H b := fun b h => hH b (by simp [h])
  obtain ⟨g', v', w', hr, h1, h2⟩ := app_core (P := P) (ty := io.type) hR (nm := s.n) (by rw [hH _ (by simp)]; exact hfree) hu hut hi hz hes (hzs.trans hes) v1 v2 (baseOk_congr hHb okb) (srcOk_congr hHx okx) (by unfold maxLen; omega) (by rw [hby]; exact hb)
  rw [srcC_congr hHb, srcC_congr hHx] at h1 h2
  refine ⟨g', v', w', ?_, h1, h2⟩
  unfold execOp
  simp only [hop, resolve, invoke, builtin, Sem.run_bind, Sem.run_pure, Result.andThen_ok, List.map_toArray, List.map_cons, List.map_nil, hr]
theorem pr_app {r0 : List TOp} {K : St → Prop} {s : St} {d es by_ : Nat} {str : Bool} {xs : List TV} (h : cokAll none (evs c.gl s.fs xs) ∧ appOk s.fs es by_ str s.n ((evs c.gl s.fs xs).map strip) ∧ XP P c r0 K (rowSt s c.gl d es xs)) :
    PendR P c (.pd (some d) (.app es by_ str) xs none) r0 K s := ⟨_, _, app_AOkT h.1 h.2.1, h.2.2⟩
theorem prD_app {anc : List Nat} {fs : List Foot} {r0 : List TOp} {K : St → Prop} {s : St} {d es by_ : Nat} {str : Bool} {xs : List TV} (h : cokAll none (evs c.gl s.fs xs) ∧ appOk s.fs es by_ str s.n ((evs c.gl s.fs xs).map strip) ∧ XD P c anc r0 (rowFoot s c.gl d xs :: fs) K (rowSt s c.gl d es xs)) :
    PendDR P c anc (.pd (some d) (.app es by_ str) xs none) r0 fs K s := ⟨_, _, app_AOkT h.1 h.2.1, h.2.2⟩

/-! ### Slices that are written out -/
theorem fold_size (v : List (Value × Nat)) : ∀ (off : Nat) (cs : Array Value), (v.foldl (fun cs (c, j) => cs.setIfInBounds (off + j) c) cs).size = cs.size := by
  induction v with
  | nil => intro off cs; rfl
  | cons p v ih => intro off cs; rw [List.foldl_cons, ih]; simp
theorem fill_size {place : Nat → Option (Nat × Nat)} : ∀ (l : List (Nat × Value)) (cells cells' : Array Value), Instr.fill place cells l = some cells' → cells'.size = cells.size
  | [], cells, cells', h => by simp [Instr.fill] at h; rw [h]
  | (i, v) :: l, cells, cells', h => by
    unfold Instr.fill at h
    split at h
    · cases h
    · split at h
      · cases h
      · rw [fill_size l _ _ h]
        rw [← Array.foldl_toList]
        exact fold_size _ _ _
theorem Instr_fill_size {place : Nat → Option (Nat × Nat)} {cells cells' : Array Value} {l : List (Nat × Value)} (h : Instr.fill place cells l = some cells') : cells'.size = cells.size := fill_size l cells cells' h
def reps : Nat → List AV → List AV
  | 0, _ => []
  | n + 1, z => z ++ reps n z
theorem reps_len (z : List AV) : ∀ n, (reps n z).length = n * z.length
  | 0 => by simp [reps]
  | n + 1 => by simp [reps, reps_len z n, Nat.add_mul]; omega
theorem reps_get (z : List AV) : ∀ n j, j < n * z.length → (reps n z).getD j .any = z.getD (j % z.length) .any
  | 0, j, h => by simp at h
  | n + 1, j, h => by
    simp only [reps, List.getD]
    by_cases hj : j < z.length
    · rw [List.getElem?_append_left hj, Nat.mod_eq_of_lt hj]
    · rw [List.getElem?_append_right (by omega)]
      have h2 : j - z.length < n * z.length := by rw [Nat.add_mul] at h; omega
      have ih := reps_get z n (j - z.length) h2
      simp only [List.getD] at ih
      rw [ih, ← Nat.mod_eq_sub_mod (by omega)]
theorem elab_bsl {o : Oper} {es len : Nat} {zs : List AV} {ps : List (Nat × Nat)} {xs : List Operand} (h : elabPK P o = some (.bsl es len zs ps, xs)) :
    ∃ t e i z parts, o.op = .buildSlice t len parts ∧ P.underlying t = some (.slice e) ∧ P.info? e = some i ∧ i.zero = some z ∧ z.cells.size = i.size ∧ 0 < i.size ∧ z.cells.all (·.oneCell') = true ∧ len * i.size ≤ 2 ^ 24 ∧ len ≤ 2 ^ 24 ∧
      es = i.size ∧ zs = z.cells.toList.map ofS ∧ ps = parts.toList.map (fun p => (p.1 * i.size, i.size)) ∧ xs = parts.toList.map (·.2) := by
  unfold elabPK at h
  repeat' split at h
  all_goals first
    | (simp only [Option.some.injEq, Prod.mk.injEq, PK.bsl.injEq] at h; obtain ⟨⟨rfl, rfl, rfl, rfl⟩, rfl⟩ := h
       rename_i hc; exact ⟨_, _, _, _, _, by assumption, by assumption, by assumption, by assumption, hc.1, hc.2.1, hc.2.2.1, hc.2.2.2.1, hc.2.2.2.2, rfl, rfl, rfl, rfl⟩)
    | (simp at h; done)
    | (cases h; done)
    | (simp [Option.map_eq_some_iff] at h; done)
theorem bsl_AOkT {s : St} {d es len : Nat} {zs : List AV} {ps : List (Nat × Nat)} {xs : List TV} (hc : cokAll none (evs c.gl s.fs xs)) (hlen : 0 < len) (hfree : s.fs.H s.n = .free) (hok : bldOk (reps len zs).length ps ((evs c.gl s.fs xs).map strip)) :
    AOkT P c (.pd (some d) (.bsl es len zs ps) xs none) s.fs ⟨tmpsOf xs, [s.n], [d], [s.n]⟩ ((s.nw (.cells (bldC (reps len zs) ps ((evs c.gl s.fs xs).map strip)))).put d (.sl es s.n 0 len len)).fs := by
  intro ops io he
  obtain ⟨hgd, hdst, hd, ys, hel, rfl⟩ := elab_pd he
  obtain ⟨t, e, i, z, parts, hop, hu, hi, hz, hzs, hpos, hz1, h24, h24', rfl, rfl, rfl, rfl⟩ := elab_bsl hel
  rw [St.fs_put, St.fs_nw]
  refine row_AOk (kb := none) (gd_none hgd) hdst (by simpa using hd) fun s2 hT hH g a w hR => ?_
  have hevs := evs_congr (gl := c.gl) hT
  have hvs := VRs_strip (hR.evs (parts.toList.map (·.2))) (by rw [hevs]; exact hc)
  rw [hevs] at hvs
  have hf2 : s2.H s.n = .free := by rw [hH _ (by simp), hfree]
  have hzl : (z.cells.toList.map ofS).length = i.size := by simp [hzs]
  have hrl : (reps len (z.cells.toList.map ofS)).length = len * i.size := by rw [reps_len, hzl]
  have hcl : ((Array.range (len * i.size)).map (z.cells[· % z.cells.size]!)).size = len * i.size := by simp
  have hcg : ∀ j, j < len * i.size → ((Array.range (len * i.size)).map (z.cells[· % z.cells.size]!)).getD j undef = z.cells.getD (j % i.size) undef := fun j hj => by
    have hm := Nat.mod_lt j hpos
    simp [Array.getD_eq_getD_getElem?, hj, hzs, hm]
  have h1z : ∀ j, j < i.size → (z.cells.getD j undef).oneCell' = true := fun j hj => by
    have := Array.all_eq_true.1 hz1 j (by omega)
    simpa [Array.getD_eq_getD_getElem?, show j < z.cells.size by omega] using this
  have hgz : ∀ j, j < i.size → (z.cells.toList.map ofS).getD j .any = ofS (z.cells.getD j undef) := fun j hj => by
    simp [List.getD, Array.getD_eq_getD_getElem?, show j < z.cells.size by omega]
  obtain ⟨cells', f1, f2⟩ := fill_ok (g := g) (W := wset c g s2) (w := w) (place := fun j => some (j * i.size, i.size)) (parts.toList.map fun (p : Nat × Operand) => (p.1 * i.size, i.size)) (parts.toList.map (fun (p : Nat × Operand) => p.1)) (by simp) hvs (by simp) (cs := reps len (z.cells.toList.map ofS)) (cells := (Array.range (len * i.size)).map (z.cells[· % z.cells.size]!)) hok (by rw [hcl, hrl])
    (fun j hj => by rw [hrl] at hj; rw [hcg j hj]; exact h1z _ (Nat.mod_lt _ hpos)) (fun j hj => by
      rw [hrl] at hj
      rw [hcg j hj, reps_get _ _ _ (by rw [hzl]; exact hj), hzl, hgz _ (Nat.mod_lt _ hpos)]
      exact ofS_ok _)
  obtain ⟨us, eu, q1, q2, q3⟩ := agg_inv f2
  cases eu
  have hpz : (parts.map fun (p : Nat × Operand) => (p.1, a.eval p.2)).toList = (parts.toList.map (·.1)).zip ((parts.toList.map (·.2)).map a.eval) := by
    simp only [Array.toList_map]
    induction parts.toList with
    | nil => rfl
    | cons p l ih => simp [ih]
  have hbl : (bldC (reps len (z.cells.toList.map ofS)) (parts.toList.map fun p => (p.1 * i.size, i.size)) ((evs c.gl s.fs ((parts.toList.map (·.2)).map tvO)).map strip)).length = len * i.size := by
    rw [← q1]
    have := Instr_fill_size f1
    rw [this, hcl]
  have hr := run_buildSlice (P := P) w t e len (parts.map fun (j, x) => (j, a.eval x)) cells' i z hu hi hz (by omega) (Nat.ne_of_gt (Nat.mul_pos hlen hpos)) (by rw [← hpz] at f1; exact f1)
  have hge : ∀ k, wset c g s2 k → k < w.heap.size := by
    rintro k (h | ⟨b', hl, hg'⟩)
    · have := (hR.xs k h).1; have := hR.fr.size; omega
    · exact BR.lt (hg' ▸ hR.h b') hl
  have hnew := heap_alloc_new w (.cells cells' e)
  have hR' := hR.new (b := s.n) (x := .cells (bldC (reps len (z.cells.toList.map ofS)) (parts.toList.map fun p => (p.1 * i.size, i.size)) ((evs c.gl s.fs ((parts.toList.map (·.2)).map tvO)).map strip))) (.cells cells' e) hf2 trivial fun g' hg' =>
    .cells (cur := cells') (e := e) (fz := (0, 0)) hnew (by omega) q2 (fun j hj => (q3 j hj).mono (Fr.alloc w _ _) (fun k hk h => h.resolve_right (by omega)) hg') (.inl rfl)
  refine ⟨_, _, _, ?_, hR', .sl (k := w.heap.size) (e := e) (cur := cells') (fz := (0, 0)) updG_self (Nat.le_refl _) (Nat.le_refl _) (by unfold maxLen; omega) hnew (by rw [q1, hbl]; omega)⟩
  unfold execOp
  simp only [hop, Sem.run_bind, hr, Result.andThen_ok, Sem.run_pure]
theorem pr_bsl {r0 : List TOp} {K : St → Prop} {s : St} {d es len : Nat} {zs : List AV} {ps : List (Nat × Nat)} {xs : List TV} (h : cokAll none (evs c.gl s.fs xs) ∧ 0 < len ∧ s.fs.H s.n = .free ∧ bldOk (reps len zs).length ps ((evs c.gl s.fs xs).map strip) ∧
    XP P c r0 K ((s.nw (.cells (bldC (reps len zs) ps ((evs c.gl s.fs xs).map strip)))).put d (.sl es s.n 0 len len))) : PendR P c (.pd (some d) (.bsl es len zs ps) xs none) r0 K s := ⟨_, _, bsl_AOkT h.1 h.2.1 h.2.2.1 h.2.2.2.1, h.2.2.2.2⟩
theorem prD_bsl {anc : List Nat} {fs : List Foot} {r0 : List TOp} {K : St → Prop} {s : St} {d es len : Nat} {zs : List AV} {ps : List (Nat × Nat)} {xs : List TV} (h : cokAll none (evs c.gl s.fs xs) ∧ 0 < len ∧ s.fs.H s.n = .free ∧ bldOk (reps len zs).length ps ((evs c.gl s.fs xs).map strip) ∧
    XD P c anc r0 (⟨tmpsOf xs, [s.n], [d], [s.n]⟩ :: fs) K ((s.nw (.cells (bldC (reps len zs) ps ((evs c.gl s.fs xs).map strip)))).put d (.sl es s.n 0 len len))) : PendDR P c anc (.pd (some d) (.bsl es len zs ps) xs none) r0 fs K s := ⟨_, _, bsl_AOkT h.1 h.2.1 h.2.2.1 h.2.2.2.1, h.2.2.2.2⟩

/-! ### The bytes of a string, as a new row -/
theorem elab_s2b {o : Oper} {xs : List Operand} (h : elabPK P o = some (.s2b, xs)) : ∃ src dst e x, o.op = .convert src dst x ∧ P.underlying src = some .string ∧ P.underlying dst = some (.slice e) ∧ P.underlying e = some (.int .u8) ∧ xs = [x] := by
  unfold elabPK at h
  repeat' split at h
  all_goals first
    | (simp only [Option.some.injEq, Prod.mk.injEq, true_and] at h; subst h; exact ⟨_, _, _, _, by assumption, by assumption, by assumption, by assumption, rfl⟩)
    | (simp at h; done)
    | (cases h; done)
    | (simp [Option.map_eq_some_iff] at h; done)
def isStr : AV → Prop
  | .str _ => True
  | _ => False
theorem s2b_AOkT {s : St} {d : Nat} {x : TV} (hc : cok none (evT c.gl s.fs x)) (hfree : s.fs.H s.n = .free) (hok : isStr (strip (evT c.gl s.fs x)) ∧ (asS (strip (evT c.gl s.fs x))).length ≤ 9223372036854775807) :
    AOkT P c (.pd (some d) .s2b [x] none) s.fs ⟨tmpsOf [x], [s.n], [d], [s.n]⟩ ((s.nw (.cells (byts (asS (strip (evT c.gl s.fs x)))))).put d (.sl 1 s.n 0 (asS (strip (evT c.gl s.fs x))).length (asS (strip (evT c.gl s.fs x))).length)).fs := by
  intro ops io he
  obtain ⟨hgd, hdst, hd, ys, hel, hys⟩ := elab_pd he
  obtain ⟨src, dst, e, y, hop, hs, hdd, hee, rfl⟩ := elab_s2b hel
  simp only [List.map_cons, List.map_nil, List.cons.injEq, and_true] at hys
  subst hys
  rw [St.fs_put, St.fs_nw]
  refine row_AOk (kb := none) (gd_none hgd) hdst (by simpa using hd) fun s2 hT hH g a w hR => ?_
  have hev : evT c.gl s2 (tvO y) = evT c.gl s.fs (tvO y) := by
    have := evs_congr (gl := c.gl) (xs := [tvO y]) hT
    simpa [evs] using this
  have hv := strip_ok (hR.ev y) (by rw [hev]; exact hc)
  rw [hev] at hv
  obtain ⟨h1, h2⟩ := hok
  generalize strip (evT c.gl s.fs (tvO y)) = v at *
  cases v <;> simp only [isStr] at h1
  rename_i l
  simp only [asS] at h2 ⊢
  have hf2 : s2.H s.n = .free := by rw [hH _ (by simp), hfree]
  generalize hy : a.eval y = uy at hv
  cases hv
  have hr := run_bytes_of_string (P := P) w src dst e ⟨l.toArray⟩ hs hdd hee
  have hsz : (⟨l.toArray⟩ : ByteArray).size = l.length := rfl
  rw [hsz] at hr
  generalize hcap : grownCap w l.length 0 e = cap at hr
  have hge : l.length ≤ cap := by rw [← hcap]; exact grownCap_ge w _ _ _
  have hle : cap ≤ maxLen := by rw [← hcap]; exact grownCap_le_maxLen w _ _ _ (by unfold maxLen; omega)
  have hbs : (bytesRow ⟨l.toArray⟩ cap).size = cap := by simp [bytesRow, hsz]; omega
  have hbg : ∀ j (hj : j < l.length), (bytesRow ⟨l.toArray⟩ cap).getD j undef = .int .u8 (l[j]).toNat := fun j hj => by
    have := bytesRow_at ⟨l.toArray⟩ cap j (by simpa using hj)
    rw [Array.getD_eq_getD_getElem?, this]; simp
  have hRd : R c g s2 a w.drew := hR.grow (Fr.drew w _)
  have hge' : ∀ k, wset c g s2 k → k < w.drew.heap.size := by
    rintro k (h | ⟨b', hl, hg'⟩)
    · have := (hRd.xs k h).1; have := hRd.fr.size; omega
    · exact BR.lt (hg' ▸ hRd.h b') hl
  have hnew := heap_alloc_new w.drew (.cells (bytesRow ⟨l.toArray⟩ cap) e ((bytesRow ⟨l.toArray⟩ cap).size, (bytesRow ⟨l.toArray⟩ cap).size + 1))
  have hbl : (byts l).length = l.length := byts_len l
  have hR' := hRd.new (b := s.n) (x := .cells (byts l)) (.cells (bytesRow ⟨l.toArray⟩ cap) e ((bytesRow ⟨l.toArray⟩ cap).size, (bytesRow ⟨l.toArray⟩ cap).size + 1)) hf2 trivial fun g' hg' => by
    refine .cells (cur := bytesRow ⟨l.toArray⟩ cap) (e := e) hnew (by rw [hbl, hbs]; exact hge) (fun j hj => ?_) (fun j hj => ?_) (.inr (Nat.le_refl _))
    · rw [hbg j (by omega)]; rfl
    · rw [hbg j (by omega), byts_get (by omega)]
      simp only [List.getD, List.getElem?_eq_getElem (show j < l.length by omega), Option.getD_some]
      exact .int _ _
  refine ⟨_, _, _, ?_, hR', .sl (k := w.heap.size) (e := e) updG_self (Nat.le_refl _) hge hle hnew (by rw [hbs]; omega)⟩
  unfold execOp
  simp only [hop, hy, Sem.run_bind, hr, Result.andThen_ok, Sem.run_pure]
theorem pr_s2b {r0 : List TOp} {K : St → Prop} {s : St} {d : Nat} {x : TV} (h : cok none (evT c.gl s.fs x) ∧ s.fs.H s.n = .free ∧ (isStr (strip (evT c.gl s.fs x)) ∧ (asS (strip (evT c.gl s.fs x))).length ≤ 9223372036854775807) ∧
    XP P c r0 K ((s.nw (.cells (byts (asS (strip (evT c.gl s.fs x)))))).put d (.sl 1 s.n 0 (asS (strip (evT c.gl s.fs x))).length (asS (strip (evT c.gl s.fs x))).length))) : PendR P c (.pd (some d) .s2b [x] none) r0 K s := ⟨_, _, s2b_AOkT h.1 h.2.1 h.2.2.1, h.2.2.2⟩
theorem prD_s2b {anc : List Nat} {fs : List Foot} {r0 : List TOp} {K : St → Prop} {s : St} {d : Nat} {x : TV} (h : cok none (evT c.gl s.fs x) ∧ s.fs.H s.n = .free ∧ (isStr (strip (evT c.gl s.fs x)) ∧ (asS (strip (evT c.gl s.fs x))).length ≤ 9223372036854775807) ∧
    XD P c anc r0 (⟨tmpsOf [x], [s.n], [d], [s.n]⟩ :: fs) K ((s.nw (.cells (byts (asS (strip (evT c.gl s.fs x)))))).put d (.sl 1 s.n 0 (asS (strip (evT c.gl s.fs x))).length (asS (strip (evT c.gl s.fs x))).length))) : PendDR P c anc (.pd (some d) .s2b [x] none) r0 fs K s := ⟨_, _, s2b_AOkT h.1 h.2.1 h.2.2.1, h.2.2.2⟩
end
theorem r_srcC_isl (s : FS) (es m : Nat) (ds : List AV) : srcC s es (.isl m ds) = ds.take (m * es) := rfl
theorem r_srcC_sl (s : FS) (es es2 b o m c : Nat) : srcC s es (.sl es2 b o m c) = ((cellsB (s.H b)).drop o).take (m * es) := rfl
theorem r_srcC_str (s : FS) (es : Nat) (l : List UInt8) : srcC s es (.str l) = byts l := rfl
theorem r_srcC_nils (s : FS) (es : Nat) : srcC s es .nils = [] := rfl
theorem r_srcOk_isl (s : FS) (es m : Nat) (b : Bool) (ds : List AV) : srcOk s es b (.isl m ds) = (b = false ∧ m * es ≤ ds.length) := rfl
theorem r_srcOk_sl (s : FS) (es es2 k o m c : Nat) (b : Bool) : srcOk s es b (.sl es2 k o m c) = (b = false ∧ es2 = es ∧ o + m * es ≤ (cellsB (s.H k)).length) := rfl
theorem r_srcOk_str (s : FS) (es : Nat) (b : Bool) (l : List UInt8) : srcOk s es b (.str l) = (b = true ∧ es = 1) := rfl
theorem r_srcOk_nils (s : FS) (es : Nat) (b : Bool) : srcOk s es b .nils = (b = false) := rfl
theorem r_baseOk_sl (s : FS) (es es2 b o n c : Nat) : baseOk s es (.sl es2 b o n c) = (es2 = es ∧ o = 0 ∧ n * es ≤ (cellsB (s.H b)).length ∧ (s.H b).live) := rfl
theorem r_baseOk_nils (s : FS) (es : Nat) : baseOk s es .nils = True := rfl
theorem r_srcB_sl (es b o n c : Nat) : srcB (.sl es b o n c) = some b := rfl
theorem r_srcB_nils : srcB .nils = none := rfl
theorem r_srcB_isl (n : Nat) (cs : List AV) : srcB (.isl n cs) = none := rfl
theorem r_srcB_str (l : List UInt8) : srcB (.str l) = none := rfl
theorem r_appOk (s : FS) (es by_ nm : Nat) (b : Bool) (x y : AV) : appOk s es by_ b nm [x, y] = (baseOk s es x ∧ srcOk s es b y ∧ s.H nm = .free ∧ srcN x + srcN y ≤ 9223372036854775807 ∧ (srcN x + srcN y) * by_ ≤ 140737488355328) := rfl
theorem r_appV (es nm : Nat) (x y : AV) : appV es nm [x, y] = .sl es nm 0 (srcN x + srcN y) (srcN x + srcN y) := rfl
theorem r_appC (s : FS) (es : Nat) (x y : AV) : appC s es [x, y] = srcC s es x ++ srcC s es y := rfl
theorem r_appB (x : AV) (r : List AV) : appB (x :: r) = srcB x := rfl
theorem r_appR (x y : AV) : appR [x, y] = (srcB x).toList ++ (srcB y).toList := rfl
theorem r_killS (s : St) (b : Nat) : s.killO (some b) = s.putB b .dead := rfl
theorem r_killN (s : St) : s.killO none = s := rfl
theorem r_reps0 (z : List AV) : reps 0 z = [] := rfl
theorem r_reps1 (n : Nat) (z : List AV) : reps (n + 1) z = z ++ reps n z := rfl
theorem r_isStr (l : List UInt8) : isStr (.str l) = True := rfl
theorem r_live (cs : List AV) : (Bk.cells cs).live = True := rfl
theorem byts_snocW (l : List UInt8) (n : Int) (r : List AV) : byts l ++ (.int .u8 (IntKind.u8.wrap n) :: r) = byts (l ++ [UInt8.ofNat (IntKind.u8.wrap n).toNat]) ++ r := by
  have h0 : 0 ≤ IntKind.u8.wrap n ∧ IntKind.u8.wrap n < 256 := by rw [IntKind.wrap_u8]; omega
  generalize IntKind.u8.wrap n = k at h0 ⊢
  simp [byts]; omega
theorem byts_snoc {l : List UInt8} {n : Int} {r : List AV} (h0 : 0 ≤ n) (h1 : n < 256) : byts l ++ (.int .u8 n :: r) = byts (l ++ [UInt8.ofNat n.toNat]) ++ r := by
  simp [byts]; omega
theorem byts_nil : byts [] = [] := rfl
theorem ints_nil : ints [] = [] := rfl
theorem ints_snoc {l : List Int} {n : Int} {r : List AV} : ints l ++ (.int .i64 n :: r) = ints (l ++ [n]) ++ r := by simp [ints]
attribute [go_sem] srcN_sl srcN_isl srcN_str srcN_nils r_srcC_isl r_srcC_sl r_srcC_str r_srcC_nils r_srcOk_isl r_srcOk_sl r_srcOk_str r_srcOk_nils r_baseOk_sl r_baseOk_nils r_srcB_sl r_srcB_nils r_srcB_isl r_srcB_str r_appOk r_appV r_appC r_appB r_appR r_killS r_killN r_reps0 r_reps1 r_isStr r_live byts_snocW byts_snoc ints_snoc byts_nil ints_nil rowFoot rowSt List.append_nil List.length_append byts_app ints_app
end Go.Proofs.Ytblimjilinkmbaa
