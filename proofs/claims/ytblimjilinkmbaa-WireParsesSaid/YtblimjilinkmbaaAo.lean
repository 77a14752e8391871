/- Operations that turn nothing: what they yield; equality of rows of plain cells. No conditions but the ones that stand in each. -/
import Derived.Test.YtblimjilinkmbaaAn
import Derived.DeepKeys
import Derived.Laws.StructEq
namespace Go.Proofs.Ytblimjilinkmbaa
set_option linter.all false
set_option linter.unusedSimpArgs false
open Go.RowKit

section
variable {P : Program}

/-- A pending operation that turns nothing: what it yields. -/
def QRun (P : Program) (c : Cx) (k : PK) (vs : List AV) (r : AV) : Prop :=
  ∀ (o : Oper) (ys : List Operand), elabPK P o = some (k, ys) → ∀ (g : Nat → GM) (W : Nat → Prop) (a : Act) (w : World), (∀ i, W i → i < w.heap.size) → (∀ i, VR (fun _ => .un) W w (c.gl i) (.pointer (some ⟨i, 0, none⟩))) → VRs g W w vs (ys.map a.eval) →
    ∀ (K : Act → World → Prop) (Q : Exit → Act → World → Prop), (∀ v w', Fr w w' (fun _ => False) → VR g W w' r v → K (a.put o.dst v) w') → o.wp P a w K Q

theorem qrun_AOkT {c : Cx} {s : St} {d : Option Nat} {k : PK} {xs : List TV} {gd : Option (Nat × Bool)} {args : List AV} {r : AV} (hok : callOk c.gl s.fs xs gd) (hargs : (evs c.gl s.fs xs).map strip = args)
    (hq : ob (gB s.fs gd) (QRun P c k args r)) : AOkT P c (.pd d k xs gd) s.fs (callFoot d xs gd) (s.putO d (cw (gB s.fs gd) r)).fs := by
  intro ops io he
  obtain ⟨hgd, hdst, hd, ys, hel, rfl⟩ := elab_pd he
  have hput : (s.putO d (cw (gB s.fs gd) r)).fs = match d with | some d => s.fs.put d (cw (gB s.fs gd) r) | none => s.fs := by
    cases d with
    | none => rfl
    | some d => exact St.fs_put _ _ _
  rw [hput]
  refine ⟨fun i hi => ?_, fun b _ => by cases d <;> rfl, ?_⟩
  · cases d with
    | none => rfl
    | some d => show (s.fs.put d _).T i = _; rw [FS.T_put, if_neg (fun e => hi (by simp [callFoot, e]))]
  · intro s2 hT hH g a w hR K Q' hK
    have hevs : evs c.gl s2 (ys.map tvO) = evs c.gl s.fs (ys.map tvO) := evs_congr fun i hi => hT i (by simp [callFoot, hi])
    have hg : ∀ t b, gd = some (t, b) → s2.T t = s.fs.T t := fun t b e => hT t (by simp [callFoot, e, gdT])
    have hgB : gB s2 gd = gB s.fs gd := by
      cases gd with
      | none => rfl
      | some p => obtain ⟨t, b⟩ := p; simp only [gB, hg t b rfl]
    have hgO : gOk s2 gd := by
      have := hok.1
      cases gd with
      | none => exact this
      | some p => obtain ⟨t, b⟩ := p; simpa only [gOk, hg t b rfl] using this
    have hK' : ∀ v w', Fr w w' (fun _ => False) → VR g (wset c g s2) w' (cw (gB s.fs gd) r) v → K (a.put io.dst v) w' := fun v w' hf hv => by
      rw [hdst]
      have hR' := hR.grow hf
      cases d with
      | none =>
        refine hK g _ w' ?_
        have : ovr s2 s.fs (callFoot none (ys.map tvO) gd) = s2 := by unfold ovr callFoot; simp
        simp only [this]; exact hR'
      | some d =>
        refine hK g _ w' ?_
        show R c g (ovr s2 (s.fs.put d _) ⟨gdT gd ++ tmpsOf (ys.map tvO), [], [d], []⟩) _ _
        rw [ovr_put]
        exact hR'.put (by simpa using hd) hv
    unfold Exec1
    rw [guard_ok hgd hR hgO, hgB]
    have run : (∀ b, gB s.fs gd = some b → b = true) → io.wp P a w K Q' := by
      intro hb
      have hc1 : cokAll none (evs c.gl s2 (ys.map tvO)) := by
        rw [hevs]
        have := hok.2
        cases hgb : gB s.fs gd with
        | none => rw [hgb] at this; exact this
        | some b => rw [hgb] at this; exact cokAll_mono (hb b hgb) this
      have hq' : QRun P c k args r := by
        cases hgb : gB s.fs gd with
        | none => rw [hgb] at hq; exact hq
        | some b => rw [hgb] at hq; exact hq (hb b hgb)
      have hv := VRs_strip (hR.evs ys) hc1
      rw [hevs, hargs] at hv
      have hX : ∀ k, wset c g s2 k → k < w.heap.size := by
        rintro k (h | ⟨b', hl, hg'⟩)
        · have := (hR.xs k h).1; have := hR.fr.size; omega
        · exact BR.lt (hg' ▸ hR.h b') hl
      refine hq' io ys hel g _ a w hX (fun i => (hR.gl i)) hv K Q' fun v w' hf hv2 => ?_
      refine hK' v w' hf ?_
      cases hgb : gB s.fs gd with
      | none => exact hv2
      | some b => exact .cnd (fun _ => hv2) fun h => by rw [hb b hgb] at h; cases h
    cases hgb : gB s.fs gd with
    | none => simp only [Option.getD_none, if_true]; exact run fun b h => by rw [hgb] at h; cases h
    | some b =>
      cases b with
      | true => simp only [Option.getD_some, if_true]; exact run fun b h => by rw [hgb] at h; cases h; rfl
      | false =>
        simp only [Option.getD_some, Bool.false_eq_true, if_false]
        refine hK' undef w (Fr.refl _ _) ?_
        rw [hgb]
        exact .cnd (fun h => by cases h) fun _ => rfl
theorem pr_qrun {c : Cx} {r0 : List TOp} {K : St → Prop} {s : St} {d : Option Nat} {k : PK} {xs : List TV} {gd : Option (Nat × Bool)} {args : List AV} {r : AV} (hq : ob (gB s.fs gd) (QRun P c k args r)) (hargs : (evs c.gl s.fs xs).map strip = args)
    (hok : callOk c.gl s.fs xs gd ∧ XP P c r0 K (s.putO d (cw (gB s.fs gd) r))) : PendR P c (.pd d k xs gd) r0 K s :=
  ⟨_, _, qrun_AOkT hok.1 hargs hq, hok.2⟩
theorem prD_qrun {c : Cx} {anc : List Nat} {fs : List Foot} {r0 : List TOp} {K : St → Prop} {s : St} {d : Option Nat} {k : PK} {xs : List TV} {gd : Option (Nat × Bool)} {args : List AV} {r : AV} (hq : ob (gB s.fs gd) (QRun P c k args r)) (hargs : (evs c.gl s.fs xs).map strip = args)
    (hok : callOk c.gl s.fs xs gd ∧ XD P c anc r0 (callFoot d xs gd :: fs) K (s.putO d (cw (gB s.fs gd) r))) : PendDR P c anc (.pd d k xs gd) r0 fs K s :=
  ⟨_, _, qrun_AOkT hok.1 hargs hq, hok.2⟩

theorem ob_of {o : Option Bool} {p : Prop} (h : p) : ob o p := by cases o <;> first | exact h | exact fun _ => h
theorem pr_psu {c : Cx} {r0 : List TOp} {K : St → Prop} {s : St} {d : Option Nat} {f : FuncId} {xs : List TV} {gd : Option (Nat × Bool)} {args : List AV} {r : AV} (hps : PS P c.gl f args r) (hargs : (evs c.gl s.fs xs).map strip = args)
    (hok : callOk c.gl s.fs xs gd ∧ nmAll 0 args ∧ XP P c r0 K (s.putO d (cw (gB s.fs gd) r))) : PendR P c (.pd d (.call f) xs gd) r0 K s := pr_ps (ob_of hps) hargs hok
theorem prD_psu {c : Cx} {anc : List Nat} {fs : List Foot} {r0 : List TOp} {K : St → Prop} {s : St} {d : Option Nat} {f : FuncId} {xs : List TV} {gd : Option (Nat × Bool)} {args : List AV} {r : AV} (hps : PS P c.gl f args r) (hargs : (evs c.gl s.fs xs).map strip = args)
    (hok : callOk c.gl s.fs xs gd ∧ nmAll 0 args ∧ XD P c anc r0 (callFoot d xs gd :: fs) K (s.putO d (cw (gB s.fs gd) r))) : PendDR P c anc (.pd d (.call f) xs gd) r0 fs K s := prD_ps (ob_of hps) hargs hok
theorem pr_qrunu {c : Cx} {r0 : List TOp} {K : St → Prop} {s : St} {d : Option Nat} {k : PK} {xs : List TV} {gd : Option (Nat × Bool)} {args : List AV} {r : AV} (hq : QRun P c k args r) (hargs : (evs c.gl s.fs xs).map strip = args)
    (hok : callOk c.gl s.fs xs gd ∧ XP P c r0 K (s.putO d (cw (gB s.fs gd) r))) : PendR P c (.pd d k xs gd) r0 K s := pr_qrun (ob_of hq) hargs hok
theorem prD_qrunu {c : Cx} {anc : List Nat} {fs : List Foot} {r0 : List TOp} {K : St → Prop} {s : St} {d : Option Nat} {k : PK} {xs : List TV} {gd : Option (Nat × Bool)} {args : List AV} {r : AV} (hq : QRun P c k args r) (hargs : (evs c.gl s.fs xs).map strip = args)
    (hok : callOk c.gl s.fs xs gd ∧ XD P c anc r0 (callFoot d xs gd :: fs) K (s.putO d (cw (gB s.fs gd) r))) : PendDR P c anc (.pd d k xs gd) r0 fs K s := prD_qrun (ob_of hq) hargs hok

theorem pr_psv {c : Cx} {r0 : List TOp} {K : St → Prop} {s : St} {d : Option Nat} {f : FuncId} {xs : List TV} {gd : Option (Nat × Bool)} {args : List AV} {r : AV} (hargs : (evs c.gl s.fs xs).map strip = args) (hps : PS P c.gl f args r)
    (hok : callOk c.gl s.fs xs gd ∧ nmAll 0 args ∧ XP P c r0 K (s.putO d (cw (gB s.fs gd) r))) : PendR P c (.pd d (.call f) xs gd) r0 K s := pr_ps (ob_of hps) hargs hok
theorem prD_psv {c : Cx} {anc : List Nat} {fs : List Foot} {r0 : List TOp} {K : St → Prop} {s : St} {d : Option Nat} {f : FuncId} {xs : List TV} {gd : Option (Nat × Bool)} {args : List AV} {r : AV} (hargs : (evs c.gl s.fs xs).map strip = args) (hps : PS P c.gl f args r)
    (hok : callOk c.gl s.fs xs gd ∧ nmAll 0 args ∧ XD P c anc r0 (callFoot d xs gd :: fs) K (s.putO d (cw (gB s.fs gd) r))) : PendDR P c anc (.pd d (.call f) xs gd) r0 fs K s := prD_ps (ob_of hps) hargs hok
theorem pr_qrunv {c : Cx} {r0 : List TOp} {K : St → Prop} {s : St} {d : Option Nat} {k : PK} {xs : List TV} {gd : Option (Nat × Bool)} {args : List AV} {r : AV} (hargs : (evs c.gl s.fs xs).map strip = args) (hq : QRun P c k args r)
    (hok : callOk c.gl s.fs xs gd ∧ XP P c r0 K (s.putO d (cw (gB s.fs gd) r))) : PendR P c (.pd d k xs gd) r0 K s := pr_qrun (ob_of hq) hargs hok
theorem prD_qrunv {c : Cx} {anc : List Nat} {fs : List Foot} {r0 : List TOp} {K : St → Prop} {s : St} {d : Option Nat} {k : PK} {xs : List TV} {gd : Option (Nat × Bool)} {args : List AV} {r : AV} (hargs : (evs c.gl s.fs xs).map strip = args) (hq : QRun P c k args r)
    (hok : callOk c.gl s.fs xs gd ∧ XD P c anc r0 (callFoot d xs gd :: fs) K (s.putO d (cw (gB s.fs gd) r))) : PendDR P c anc (.pd d k xs gd) r0 fs K s := prD_qrun (ob_of hq) hargs hok

/-! ### Equality of rows of plain cells -/
def eqShF (rec : TypeId → Option (List SK)) (P : Program) : Nat → List Field → Option (List SK)
  | _, [] => some []
  | o, f :: fs => if f.name = "_" ∨ f.offset ≠ o ∨ (P.info? f.type).isNone then none else (rec f.type).bind fun ks => if P.cellsOf f.type = ks.length then (eqShF rec P (o + ks.length) fs).map (ks ++ ·) else none
/-- The kinds of the cells of a type that is compared cell by cell. -/
def eqSh (P : Program) : Nat → TypeId → Option (List SK)
  | 0, _ => none
  | d + 1, t => match P.underlying t with
    | some .bool => some [.bool]
    | some (.int k) => some [.int k]
    | some .string => some [.str]
    | some (.struct fs) => if P.stoodInHeld t then none else eqShF (eqSh P d) P 0 fs.toList
    | some (.array n e) => if (P.info? e).isNone then none else (eqSh P d e).bind fun ks => if P.cellsOf e = ks.length then some (List.replicate n ks).flatten else none
    | _ => none

def cellEq : SK → Value → Value → Bool
  | .int _, .int _ a, .int _ b => a == b
  | .bool, .bool a, .bool b => a == b
  | .str, .string a, .string b => a.toList == b.toList
  | _, _, _ => true
def cellOk : SK → Value → Prop
  | .int k, v => ∃ n, v = .int k n
  | .bool, v => ∃ b, v = .bool b
  | .str, v => ∃ b, v = .string b
  | .ref, _ => False
def rowEq : List SK → List Value → List Value → Bool
  | k :: ks, u :: us, v :: vs => cellEq k u v && rowEq ks us vs
  | _, _, _ => true
def rowOk : List SK → List Value → Prop
  | k :: ks, u :: us => cellOk k u ∧ rowOk ks us
  | [], _ => True
  | _ :: _, [] => False
theorem rowOk_app : ∀ (ks ls : List SK) (us : List Value), rowOk (ks ++ ls) us → rowOk ks us ∧ rowOk ls (us.drop ks.length)
  | [], _, us, h => ⟨by cases us <;> trivial, by simpa using h⟩
  | _ :: ks, ls, [], h => h.elim
  | _ :: ks, ls, _ :: us, h => ⟨⟨h.1, (rowOk_app ks ls us h.2).1⟩, by simpa using (rowOk_app ks ls us h.2).2⟩
theorem rowOk_len : ∀ (ks : List SK) (us : List Value), rowOk ks us → ks.length ≤ us.length
  | [], _, _ => by simp
  | _ :: _, [], h => h.elim
  | _ :: ks, _ :: us, h => by have := rowOk_len ks us h.2; simp; omega
theorem rowEq_app : ∀ (ks ls : List SK) (us vs : List Value), ks.length ≤ us.length → ks.length ≤ vs.length → rowEq (ks ++ ls) us vs = (rowEq ks us vs && rowEq ls (us.drop ks.length) (vs.drop ks.length))
  | [], _, _, _, _, _ => by simp [rowEq]
  | _ :: _, _, [], _, h, _ => by simp at h
  | _ :: _, _, _ :: _, [], _, h => by simp at h
  | k :: ks, ls, u :: us, v :: vs, h1, h2 => by
    simp only [List.length_cons] at h1 h2
    simp [rowEq, rowEq_app ks ls us vs (by omega) (by omega), Bool.and_assoc]
theorem rowOk_take : ∀ (ks : List SK) (us : List Value), rowOk ks us → rowOk ks (us.take ks.length)
  | [], us, _ => by cases us <;> trivial
  | _ :: _, [], h => h.elim
  | k :: ks, u :: us, h => ⟨h.1, rowOk_take ks us h.2⟩
theorem rowEq_take : ∀ (ks : List SK) (us vs : List Value), rowEq ks (us.take ks.length) (vs.take ks.length) = rowEq ks us vs
  | [], _, _ => by simp [rowEq]
  | _ :: _, [], _ => by simp [rowEq]
  | _ :: _, _ :: _, [] => by simp [rowEq]
  | k :: ks, u :: us, v :: vs => by simp [rowEq, rowEq_take ks us vs]

def holdsT (P : Program) (t : TypeId) (x : Value) (us : List Value) : Prop :=
  match P.underlying t with
  | some (.struct _) => x = .agg us.toArray
  | some (.array _ _) => x = .agg us.toArray
  | _ => us = [x]

theorem run_part_sh (w : World) {m : Nat} {e : TypeId} {ks : List SK} (h : eqSh P m e = some ks) (hi : (P.info? e).isSome) (hc : P.cellsOf e = ks.length) {xs : Array Value} {o : Nat} (hr : rowOk ks (xs.toList.drop o)) :
    ∃ a, (part e xs o).run P w = .ok a w ∧ holdsT P e a ((xs.toList.drop o).take ks.length) := by
  obtain ⟨i, hi⟩ := Option.isSome_iff_exists.1 hi
  cases m with
  | zero => cases h
  | succ m =>
    have one : ∀ k, ks = [k] → ∃ v, xs[o]? = some v ∧ (xs.toList.drop o).take ks.length = [v] := by
      rintro k rfl
      have hl := rowOk_len _ _ hr
      cases hd : xs.toList.drop o with
      | nil => rw [hd] at hl; simp at hl
      | cons v r =>
        refine ⟨v, ?_, by simp⟩
        have : (xs.toList.drop o)[0]? = some v := by rw [hd]; rfl
        simpa using this
    have agg : (xs.extract o (o + P.cellsOf e)).toList = (xs.toList.drop o).take ks.length := by
      rw [Array.toList_extract, hc]; simp [List.extract]
    unfold eqSh at h
    cases hu : P.underlying e with
    | none => simp [hu] at h
    | some kd =>
      rw [hu] at h
      cases kd <;> simp at h
      case bool => obtain ⟨v, h1, h2⟩ := one _ h.symm; exact ⟨v, by simp [part, isAgg, run_underlying hu, h1], by simp only [holdsT, hu]; exact h2⟩
      case int k => obtain ⟨v, h1, h2⟩ := one _ h.symm; exact ⟨v, by simp [part, isAgg, run_underlying hu, h1], by simp only [holdsT, hu]; exact h2⟩
      case string => obtain ⟨v, h1, h2⟩ := one _ h.symm; exact ⟨v, by simp [part, isAgg, run_underlying hu, h1], by simp only [holdsT, hu]; exact h2⟩
      case struct fs => exact ⟨.agg (xs.extract o (o + P.cellsOf e)), by simp [part, isAgg, run_underlying hu, run_sizeOf w hi], by simp only [holdsT, hu]; rw [← agg]⟩
      case array n e' => exact ⟨.agg (xs.extract o (o + P.cellsOf e)), by simp [part, isAgg, run_underlying hu, run_sizeOf w hi], by simp only [holdsT, hu]; rw [← agg]⟩

theorem isSome_of {α : Type} {x : Option α} (h : ¬ x.isNone = true) : x.isSome = true := by cases x <;> simp_all
def EqShAt (P : Program) (D : Nat) (t : TypeId) (ks : List SK) : Prop :=
  ∀ (w : World) (x y : Value) (us vs : List Value), holdsT P t x us → holdsT P t y vs → us.length = ks.length → vs.length = ks.length → rowOk ks us → rowOk ks vs → (Op.equalIn D t x y).run P w = .ok (rowEq ks us vs) w

theorem run_eqFields_sh {m D : Nat} (IH : ∀ t ks, eqSh P m t = some ks → EqShAt P D t ks) : ∀ (fs : List Field) (o : Nat) (ks : List SK), eqShF (eqSh P m) P o fs = some ks → ∀ (w : World) (xs ys : Array Value), rowOk ks (xs.toList.drop o) → rowOk ks (ys.toList.drop o) →
    (Op.eqFields D xs ys fs).run P w = .ok (rowEq ks (xs.toList.drop o) (ys.toList.drop o)) w
  | [], o, ks, h, w, xs, ys, _, _ => by cases h; simp [Op.eqFields, rowEq]
  | f :: fs, o, ks, h, w, xs, ys, hx, hy => by
    unfold eqShF at h
    split at h
    · cases h
    · rename_i hn
      simp only [not_or, Decidable.not_not] at hn
      obtain ⟨hname, hoff, hinfo'⟩ := hn
      have hinfo := isSome_of hinfo'
      simp only [Option.bind_eq_some_iff] at h
      obtain ⟨k1, h1, h2⟩ := h
      split at h2
      · rename_i hc
        simp only [Option.map_eq_some_iff] at h2
        obtain ⟨k2, h2, rfl⟩ := h2
        obtain ⟨x1, x2⟩ := rowOk_app _ _ _ hx
        obtain ⟨y1, y2⟩ := rowOk_app _ _ _ hy
        obtain ⟨a, pa, ha⟩ := run_part_sh w h1 hinfo hc x1
        obtain ⟨b, pb, hb⟩ := run_part_sh w h1 hinfo hc y1
        have lx := rowOk_len _ _ x1
        have ly := rowOk_len _ _ y1
        have hr := IH _ _ h1 w a b _ _ ha hb (by rw [List.length_take]; omega) (by rw [List.length_take]; omega) (rowOk_take _ _ x1) (rowOk_take _ _ y1)
        rw [rowEq_take] at hr
        rw [List.drop_drop] at x2 y2
        have ih := run_eqFields_sh IH fs (o + k1.length) k2 h2 w xs ys x2 y2
        rw [rowEq_app _ _ _ _ lx ly, List.drop_drop, List.drop_drop]
        simp only [Op.eqFields, hname, ne_eq, not_false_eq_true, if_true, Sem.run_bind, hoff, pa, pb, hr, Result.andThen_ok]
        cases hq : rowEq k1 (xs.toList.drop o) (ys.toList.drop o) with
        | false => simp
        | true => simpa using ih
      · cases h2

theorem run_eqItems_sh {m D : Nat} {e : TypeId} {ks : List SK} (he : eqSh P m e = some ks) (hi : (P.info? e).isSome) (hc : P.cellsOf e = ks.length) (IH : EqShAt P D e ks) (xs ys : Array Value) : ∀ (n i : Nat) (w : World), rowOk (List.replicate n ks).flatten (xs.toList.drop (i * ks.length)) → rowOk (List.replicate n ks).flatten (ys.toList.drop (i * ks.length)) →
    (Op.eqItems D e (P.cellsOf e) xs ys (List.range' i n)).run P w = .ok (rowEq (List.replicate n ks).flatten (xs.toList.drop (i * ks.length)) (ys.toList.drop (i * ks.length))) w
  | 0, i, w, _, _ => by simp [Op.eqItems, rowEq]
  | n + 1, i, w, hx, hy => by
    rw [List.replicate_succ, List.flatten_cons] at hx hy ⊢
    obtain ⟨x1, x2⟩ := rowOk_app _ _ _ hx
    obtain ⟨y1, y2⟩ := rowOk_app _ _ _ hy
    obtain ⟨a, pa, ha⟩ := run_part_sh w he hi hc x1
    obtain ⟨b, pb, hb⟩ := run_part_sh w he hi hc y1
    have lx := rowOk_len _ _ x1
    have ly := rowOk_len _ _ y1
    have hr := IH w a b _ _ ha hb (by rw [List.length_take]; omega) (by rw [List.length_take]; omega) (rowOk_take _ _ x1) (rowOk_take _ _ y1)
    rw [rowEq_take] at hr
    have e1 : i * ks.length + ks.length = (i + 1) * ks.length := by rw [Nat.add_mul, Nat.one_mul]
    rw [List.drop_drop, e1] at x2 y2
    have ih := run_eqItems_sh he hi hc IH xs ys n (i + 1) w x2 y2
    rw [rowEq_app _ _ _ _ lx ly, List.drop_drop, List.drop_drop, e1]
    rw [List.range'_succ]
    simp only [Op.eqItems, Sem.run_bind, hc, pa, pb, hr, Result.andThen_ok]
    cases hq : rowEq ks (xs.toList.drop (i * ks.length)) (ys.toList.drop (i * ks.length)) with
    | false => simp
    | true => rw [hc] at ih; simpa using ih

theorem run_eqSh (d : Nat) : ∀ (m : Nat) (t : TypeId) (ks : List SK), eqSh P m t = some ks → EqShAt P (d + m) t ks
  | 0, _, _, h => by cases h
  | m + 1, t, ks, h => by
    intro w x y us vs hx hy lu lv ou ov
    unfold eqSh at h
    cases hu : P.underlying t with
    | none => simp [hu] at h
    | some kd =>
      rw [hu] at h
      simp only [holdsT, hu] at hx hy
      cases kd <;> simp only [Option.some.injEq, reduceCtorEq] at h hx hy
      case bool =>
        subst h hx hy
        obtain ⟨⟨a, rfl⟩, _⟩ := ou
        obtain ⟨⟨b, rfl⟩, _⟩ := ov
        rw [← Nat.add_assoc, run_equalIn_bool' w _ t a b hu]
        simp [rowEq, cellEq]
      case int k =>
        subst h hx hy
        obtain ⟨⟨a, rfl⟩, _⟩ := ou
        obtain ⟨⟨b, rfl⟩, _⟩ := ov
        rw [← Nat.add_assoc, run_equalIn_int w _ t k k a b hu]
        simp [rowEq, cellEq]
      case string =>
        subst h hx hy
        obtain ⟨⟨a, rfl⟩, _⟩ := ou
        obtain ⟨⟨b, rfl⟩, _⟩ := ov
        rw [← Nat.add_assoc, run_equalIn_string w _ t a b hu]
        simp [rowEq, cellEq]
      case struct fs =>
        subst hx hy
        split at h
        · cases h
        · rename_i hp
          have hfs : P.fieldsOf t = fs := by simp [Program.fieldsOf, hu]
          rw [← Nat.add_assoc, run_equalIn_struct w (d + m) t _ _ (by rw [hfs]; exact hu) (by simpa using hp), hfs]
          have := run_eqFields_sh (run_eqSh d m) fs.toList 0 ks h w us.toArray vs.toArray (by simpa using ou) (by simpa using ov)
          simpa using this
      case array n e =>
        subst hx hy
        split at h
        · cases h
        · rename_i hi
          replace hi := isSome_of hi
          obtain ⟨i, hi'⟩ := Option.isSome_iff_exists.1 hi
          simp only [Option.bind_eq_some_iff] at h
          obtain ⟨k1, h1, h2⟩ := h
          split at h2
          · rename_i hc
            cases h2
            rw [← Nat.add_assoc, run_equalIn_array w (d + m) _ _ hu hi', List.range_eq_range']
            have := run_eqItems_sh h1 hi hc (run_eqSh d m e k1 h1) us.toArray vs.toArray n 0 w (by simpa using ou) (by simpa using ov)
            simpa using this
          · cases h2

/-! ### As abstract values have it -/
def kindA : AV → Option SK
  | .int k _ => some (.int k)
  | .bool _ => some .bool
  | .str _ => some .str
  | _ => none
theorem rowOk_of {g : Nat → GM} {W : Nat → Prop} {w : World} : ∀ (ks : List SK) (cs : List AV) (us : List Value), cs.map kindA = ks.map some → us.length = cs.length → (∀ j, j < cs.length → VR g W w (cs.getD j .any) (us.getD j undef)) → rowOk ks us
  | [], _, us, _, _, _ => by cases us <;> trivial
  | _ :: _, [], _, h, _, _ => by simp at h
  | _ :: _, _ :: _, [], _, h, _ => by simp at h
  | k :: ks, x :: cs, u :: us, h, hl, hv => by
    simp only [List.map_cons, List.cons.injEq] at h
    have h0 := hv 0 (by simp)
    simp only [List.getD_cons_zero] at h0
    refine ⟨?_, rowOk_of ks cs us h.2 (by simpa using hl) fun j hj => by simpa using hv (j + 1) (by simp; omega)⟩
    have hk := h.1
    cases x <;> simp [kindA] at hk <;> subst hk <;> cases h0 <;> exact ⟨_, rfl⟩
theorem rowEq_of {g : Nat → GM} {W : Nat → Prop} {w : World} : ∀ (ks : List SK) (cs ds : List AV) (us vs : List Value), cs.map kindA = ks.map some → ds.map kindA = ks.map some → us.length = cs.length → vs.length = ds.length → (∀ j, j < cs.length → VR g W w (cs.getD j .any) (us.getD j undef)) → (∀ j, j < ds.length → VR g W w (ds.getD j .any) (vs.getD j undef)) →
    (rowEq ks us vs = true ↔ cs = ds)
  | [], [], [], _, _, _, _, _, _, _, _ => by simp [rowEq]
  | [], [], _ :: _, _, _, _, h, _, _, _, _ => by simp at h
  | [], _ :: _, _, _, _, h, _, _, _, _, _ => by simp at h
  | _ :: _, [], _, _, _, h, _, _, _, _, _ => by simp at h
  | _ :: _, _ :: _, [], _, _, _, h, _, _, _, _ => by simp at h
  | _ :: _, _ :: _, _ :: _, [], _, _, _, h, _, _, _ => by simp at h
  | _ :: _, _ :: _, _ :: _, _ :: _, [], _, _, _, h, _, _ => by simp at h
  | k :: ks, x :: cs, y :: ds, u :: us, v :: vs, hc, hd, lu, lv, hu, hv => by
    simp only [List.map_cons, List.cons.injEq] at hc hd
    have h0 := hu 0 (by simp)
    have h1 := hv 0 (by simp)
    simp only [List.getD_cons_zero] at h0 h1
    have ih := rowEq_of ks cs ds us vs hc.2 hd.2 (by simpa using lu) (by simpa using lv) (fun j hj => by simpa using hu (j + 1) (by simp; omega)) (fun j hj => by simpa using hv (j + 1) (by simp; omega))
    simp only [rowEq, Bool.and_eq_true, ih, List.cons.injEq]
    refine and_congr_left fun _ => ?_
    have k1 := hc.1
    have k2 := hd.1
    cases x <;> simp [kindA] at k1 <;> subst k1 <;> cases y <;> simp [kindA] at k2 <;> cases h0 <;> cases h1 <;> simp_all [cellEq, ByteArray.toList_eq]

theorem elab_cA {o : Oper} {ne : Bool} {t : TypeId} {xs : List Operand} (h : elabPK P o = some (.cA ne t, xs)) : ∃ x y u, o.op = .binOp (bif ne then .neq else .eql) t x y u ∧ xs = [x, y] := by
  unfold elabPK at h
  repeat' split at h
  all_goals first
    | (simp only [Option.some.injEq, Prod.mk.injEq, PK.cA.injEq] at h; obtain ⟨⟨rfl, rfl⟩, rfl⟩ := h; rename_i hop; exact ⟨_, _, _, by rw [hop]; rfl, rfl⟩)
    | (simp at h; done)
    | (cases h; done)
    | (simp [Option.map_eq_some_iff] at h; done)

/-- '==' and '!=' of two rows of plain cells. -/
theorem cA_run {c : Cx} {ne : Bool} {t : TypeId} {ks : List SK} {cs ds : List AV} {b : Bool} (hs : eqSh P 100 t = some ks) (hk : (match P.underlying t with | some (.struct _) => true | some (.array _ _) => true | _ => false) = true) (hm : P.eqGuardType P.depth t = false)
    (hc : cs.map kindA = ks.map some) (hd : ds.map kindA = ks.map some) (hb : b = true ↔ cs = ds) : QRun P c (.cA ne t) [.agg cs, .agg ds] (.bool (ne != b)) := by
  intro o ys hel g W a w _ _ hv K Q hK
  obtain ⟨x, y, u, hop, rfl⟩ := elab_cA hel
  obtain ⟨hx, hy, _⟩ := hv
  obtain ⟨xs, ex, lx, _, vx⟩ := agg_inv hx
  obtain ⟨zs, ey, ly, _, vy⟩ := agg_inv hy
  have lx' : xs.toList.length = cs.length := by simpa using lx
  have ly' : zs.toList.length = ds.length := by simpa using ly
  have gx : ∀ j, xs.toList.getD j undef = xs.getD j undef := fun j => by simp [Array.getD_eq_getD_getElem?, List.getD]
  have gy : ∀ j, zs.toList.getD j undef = zs.getD j undef := fun j => by simp [Array.getD_eq_getD_getElem?, List.getD]
  have vx' : ∀ j, j < cs.length → VR g W w (cs.getD j .any) (xs.toList.getD j undef) := fun j hj => by rw [gx]; exact vx j hj
  have vy' : ∀ j, j < ds.length → VR g W w (ds.getD j .any) (zs.toList.getD j undef) := fun j hj => by rw [gy]; exact vy j hj
  have kl : cs.length = ks.length := by simpa using congrArg List.length hc
  have kl' : ds.length = ks.length := by simpa using congrArg List.length hd
  have hold : ∀ z : Array Value, holdsT P t (.agg z) z.toList := fun z => by
    unfold holdsT
    split at hk <;> simp_all
  have hr := run_eqSh (P := P) 9900 100 t ks hs w _ _ _ _ (hold xs) (hold zs) (by omega) (by omega) (rowOk_of ks cs _ hc lx' vx') (rowOk_of ks ds _ hd ly' vy')
  have he : rowEq ks xs.toList zs.toList = b := by
    have := (rowEq_of ks cs ds _ _ hc hd lx' ly' vx' vy').trans hb.symm
    cases hq : rowEq ks xs.toList zs.toList <;> cases b <;> simp_all
  rw [he] at hr
  have run : (execOp a.eval o).run P w = .ok (.value (.bool (ne != b))) w := by
    unfold execOp
    cases ne
    · simp only [hop, ex, ey, cond_false, Sem.run_bind, run_eqGuard_agg w _ t x y xs zs hm, run_eql_struct, hr, Result.andThen_ok, Sem.run_pure]; cases b <;> rfl
    · simp only [hop, ex, ey, cond_true, Sem.run_bind, run_eqGuard_agg w _ t x y xs zs hm, run_neq_struct, hr, Result.andThen_ok, Sem.run_pure]; cases b <;> rfl
  unfold Oper.wp
  rw [run]
  exact hK _ _ (Fr.refl _ _) (.bool _)
end
end Go.Proofs.Ytblimjilinkmbaa
