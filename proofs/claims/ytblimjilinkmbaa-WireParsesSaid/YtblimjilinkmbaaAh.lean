/- New variables and stores; rows of operations in the order of the text, and in every order that their edges allow. No conditions but the ones that stand in each. -/
import Derived.Test.YtblimjilinkmbaaAg
namespace Go.Proofs.Ytblimjilinkmbaa
set_option linter.all false
set_option linter.unusedSimpArgs false
open Go.RowKit

def bxOk : AV → Prop
  | .agg _ => True
  | v => one v
def stOkC : TY → List AV → Nat → AV → Prop
  | .sc _, cs, off, v => off < cs.length ∧ one v
  | .ag n, cs, off, .agg vs => vs.length = n ∧ off + n ≤ cs.length
  | .ag _, _, _, _ => False
def stOk (s : FS) (ty : TY) (a v : AV) : Prop :=
  match a with
  | .ptr b off => match s.H b with
    | .cells cs => stOkC ty cs off v
    | _ => False
  | _ => False
def ptrB : AV → Nat
  | .ptr b _ => b
  | _ => 0
def ptrO : AV → Nat
  | .ptr _ o => o
  | _ => 0
def cellsB : Bk → List AV
  | .cells cs => cs
  | _ => []

section
variable {P : Program} {c : Cx} {ops : Array Oper} {io : Oper}

theorem ovr_nw {s s2 : FS} {d b : Nat} {v : AV} {x : Bk} {rt rb : List Nat} : ovr s2 ((s.putB b x).put d v) ⟨rt, rb, [d], [b]⟩ = (s2.putB b x).put d v := by
  unfold ovr FS.put FS.putB
  congr 1
  · funext i
    simp only [List.mem_singleton]
    by_cases h : d = i
    · subst h; simp
    · rw [if_neg (fun e => h e.symm), if_neg h]
  · funext i
    simp only [List.mem_singleton]
    by_cases h : b = i
    · subst h; simp
    · rw [if_neg (fun e => h e.symm), if_neg h]
theorem ovr_putB {s s2 : FS} {b : Nat} {x : Bk} {rt rb : List Nat} : ovr s2 (s.putB b x) ⟨rt, rb, [], [b]⟩ = s2.putB b x := by
  unfold ovr FS.putB
  congr 1
  funext i
  simp only [List.mem_singleton]
  by_cases h : b = i
  · subst h; simp
  · rw [if_neg (fun e => h e.symm), if_neg h]

theorem exec_of_none {a : Act} {w : World} {K : Act → World → Prop} {Q : Exit → Act → World → Prop} (h : io.guard = none) (hw : io.wp P a w K Q) : Exec1 P ops io a w K Q := by
  unfold Exec1
  rw [wanted_none h]; exact hw
theorem gd_none (h : gdOf ops io = some none) : io.guard = none := by
  unfold gdOf at h
  cases hg : io.guard with
  | none => rfl
  | some p =>
    obtain ⟨j, b⟩ := p
    rw [hg] at h
    simp only at h
    split at h <;> simp at h

/-- A new block under a free name, the slot that gets its address. -/
theorem new_AOk {s : FS} {d b : Nat} {cs : List AV} {rt : List Nat} (hg : io.guard = none) (hdst : io.dst = some d) (hd : d < c.N) (hf : s.H b = .free)
    (hrun : ∀ s2 : FS, (∀ i ∈ rt, s2.T i = s.T i) → ∀ g a w, R c g s2 a w → ∃ (cur : Array Value) (t : TypeId), (execOp a.eval io).run P w = .ok (.value (.pointer (some ⟨w.heap.size, 0, none⟩))) (w.alloc (.cells cur t)) ∧ cur.size = cs.length ∧ (∀ j, j < cs.length → (cur.getD j undef).oneCell' = true) ∧
      ∀ j, j < cs.length → VR g (wset c g s2) w (cs.getD j .any) (cur.getD j undef)) :
    AOk P c ops io s ⟨rt, [b], [d], [b]⟩ ((s.putB b (.cells cs)).put d (.ptr b 0)) := by
  refine ⟨fun i hi => ?_, fun i hi => ?_, fun s2 hT hH g a w hR K Q' hK => exec_of_none hg ?_⟩
  · rw [FS.T_put, if_neg (fun e => hi (by simp [e]))]; rfl
  · show (s.putB b _).H i = _
    rw [FS.H_putB, if_neg (fun e => hi (by simp [e]))]
  · obtain ⟨cur, t, hr, hs, h1, hv⟩ := hrun s2 hT g a w hR
    unfold Oper.wp
    rw [hr]
    have hf2 : s2.H b = .free := by rw [hH b (by simp), hf]
    have hge : ∀ k, wset c g s2 k → k < w.heap.size := by
      rintro k (h | ⟨b', hl, hg'⟩)
      · have := (hR.xs k h).1; have := hR.fr.size; omega
      · exact BR.lt (hg' ▸ hR.h b') hl
    have hR' := hR.new (b := b) (x := .cells cs) (.cells cur t) hf2 trivial fun g' hg' => by
      exact .cells (cur := cur) (e := t) (fz := (0, 0)) (heap_alloc_new w _) (by omega) h1 (fun j hj => (hv j hj).mono (Fr.alloc w _ _) (fun k hk h => h.resolve_right (by omega)) hg') (.inl rfl)
    show K (a.put io.dst _) _
    rw [hdst]
    refine hK (updG g b (.re w.heap.size)) _ _ ?_
    rw [ovr_nw]
    refine hR'.put hd (.ptr ?_)
    simp [updG]

theorem al_AOk {s : FS} {d b : Nat} {t : TypeId} {z : Value} (hgd : gdOf ops io = some none) (hop : io.op = .alloc t) (hdst : io.dst = some d) (hd : d < c.N) (hz : (P.info? t).bind (·.zero) = some z) (h1 : z.cells.all (·.oneCell') = true) (hf : s.H b = .free) :
    AOk P c ops io s ⟨[], [b], [d], [b]⟩ ((s.putB b (.cells (z.cells.toList.map ofS))).put d (.ptr b 0)) := by
  refine new_AOk (gd_none hgd) hdst hd hf fun s2 _ g a w hR => ⟨z.cells, t, ?_, by simp, ?_⟩
  · cases hi : P.info? t with
    | none => rw [hi] at hz; simp at hz
    | some i =>
      rw [hi] at hz; simp at hz
      simp [execOp, hop, Instr.alloc, zeroValue, typeInfo, hi, hz, newVar, newRow, newObj, Sem.run]
  · have hv := ofV_ok (g := g) (W := wset c g s2) (w := w) (.agg z.cells)
    have hv' : ofV (.agg z.cells) = .agg (z.cells.toList.map ofS) := if_pos h1
    rw [hv'] at hv
    obtain ⟨us, e, q1, q2, q3⟩ := agg_inv hv
    cases e
    exact ⟨q2, q3⟩
theorem bx_AOk {s : FS} {d b : Nat} {t : TypeId} {x : Operand} (hgd : gdOf ops io = some none) (hop : io.op = .box t x) (hdst : io.dst = some d) (hd : d < c.N) (hx : bxOk (evT c.gl s (tvO x))) (hf : s.H b = .free) :
    AOk P c ops io s ⟨tmpsOf [tvO x], [b], [d], [b]⟩ ((s.putB b (.cells (cellsA (evT c.gl s (tvO x))))).put d (.ptr b 0)) := by
  refine new_AOk (gd_none hgd) hdst hd hf fun s2 hT g a w hR => ?_
  have hev := hR.ev x
  have he : evT c.gl s2 (tvO x) = evT c.gl s (tvO x) := by
    have := evs_congr (gl := c.gl) (xs := [tvO x]) hT
    simpa [evs] using this
  rw [he] at hev
  have hr : (execOp a.eval io).run P w = .ok (.value (.pointer (some ⟨w.heap.size, 0, none⟩))) (w.alloc (.cells (a.eval x).cells t)) := by
    simp [execOp, hop, Instr.box, newVar, newRow, newObj, Sem.run]
  refine ⟨_, _, hr, ?_⟩
  by_cases hag : ∃ vs, evT c.gl s (tvO x) = .agg vs
  · obtain ⟨vs, e⟩ := hag
    rw [e] at hev ⊢
    obtain ⟨us, e2, q1, q2, q3⟩ := agg_inv hev
    rw [e2]
    exact ⟨q1, q2, q3⟩
  · have h1 : one (evT c.gl s (tvO x)) := by
      revert hx hag
      cases evT c.gl s (tvO x) <;> simp [bxOk, one]
    have hc1 := hev.one h1
    have hcl : cellsA (evT c.gl s (tvO x)) = [evT c.gl s (tvO x)] := by
      revert hag
      cases evT c.gl s (tvO x) <;> simp [cellsA]
    rw [hcl, cells_one hc1]
    exact ⟨rfl, fun j hj => by simp at hj; subst hj; exact hc1, fun j hj => by simp at hj; subst hj; exact hev⟩

/-! ### Stores -/
theorem setCell_heap (w : World) (k o : Nat) (v : Value) (i : Nat) : (w.setCell ⟨k, o, none⟩ v).heap[i]? = if i = k then (w.heap[k]?).map (fun x => match x with | .cells c e fz => .cells (c.setIfInBounds o v) e fz | x => x) else w.heap[i]? := by
  simp only [World.setCell, Array.getElem?_modify]
  by_cases h : k = i
  · subst h; simp
    cases w.heap[k]? with
    | none => rfl
    | some x => cases x <;> rfl
  · rw [if_neg h, if_neg (fun e => h e.symm)]

/-- A row of cells stored into a block that is known. -/
theorem run_storeRow {k : Nat} {e : TypeId} {fz : Nat × Nat} (off : Nat) : ∀ (vs : List Value) (i : Nat) (w : World) (cur : Array Value), w.heap[k]? = some (.cells cur e fz) → (∀ v ∈ vs, v.oneCell' = true) → off + i + vs.length ≤ cur.size → (fz = (0, 0) ∨ cur.size ≤ fz.1) →
    ∃ w' cur', (storeCells ⟨k, off, none⟩ vs i).run P w = .ok () w' ∧ w'.heap[k]? = some (.cells cur' e fz) ∧ cur'.size = cur.size ∧ (∀ j, cur'.getD j undef = if off + i ≤ j ∧ j < off + i + vs.length ∧ j < cur.size then vs.getD (j - (off + i)) undef else cur.getD j undef) ∧ Fr w w' (fun x => x = k)
  | [], i, w, cur, hb, _, _, _ => ⟨w, cur, rfl, hb, rfl, fun j => by rw [if_neg (by simp; omega)], Fr.refl _ _⟩
  | v :: vs, i, w, cur, hb, h1, hl, hf => by
    have hlt : off + i < cur.size := by simp at hl; omega
    have hcell : w.cell? ⟨k, off + i, none⟩ = some cur[off + i] := by rw [cell_of_row w k _ cur e fz hb]; simp [hlt]
    have hfz : w.frozen? ⟨k, off + i, none⟩ = false := by
      simp only [World.frozen?, hb]
      rcases hf with h | h
      · subst h; simp
      · simp only [Bool.and_eq_false_iff, decide_eq_false_iff_not]; omega
    have hst : (store ⟨k, off + i, none⟩ v).run P w = .ok () (w.setCell ⟨k, off + i, none⟩ v) := by
      rw [run_store P w _ v _ (h1 v (by simp)), hcell]
      simp [hfz]
    have hb' : (w.setCell ⟨k, off + i, none⟩ v).heap[k]? = some (.cells (cur.setIfInBounds (off + i) v) e fz) := by rw [setCell_heap, if_pos rfl, hb]; rfl
    obtain ⟨w', cur', hr, hbb, hs, hg, hfr⟩ := run_storeRow off vs (i + 1) _ _ hb' (fun u hu => h1 u (by simp [hu])) (by simp at hl ⊢; omega) (by simpa using hf)
    refine ⟨w', cur', ?_, hbb, by rw [hs]; simp, fun j => ?_, ?_⟩
    · simp only [storeCells, Sem.run_bind, add_lit, hst, Result.andThen_ok, hr]
    · rw [hg j]
      simp only [Array.size_setIfInBounds, List.length_cons]
      by_cases hj : j = off + i
      · subst hj
        rw [if_neg (by omega), if_pos (by omega)]
        simp [hlt]
      · have e : (cur.setIfInBounds (off + i) v).getD j undef = cur.getD j undef := by
          simp only [Array.getD_eq_getD_getElem?, Array.getElem?_setIfInBounds]
          rw [if_neg (fun h => hj h.symm)]
        rw [e]
        by_cases hc : off + (i + 1) ≤ j ∧ j < off + (i + 1) + vs.length ∧ j < cur.size
        · rw [if_pos hc, if_pos (by omega)]
          have : j - (off + i) = (j - (off + (i + 1))) + 1 := by omega
          rw [this]; simp
        · rw [if_neg hc, if_neg (by omega)]
    · have h0 : Fr w (w.setCell ⟨k, off + i, none⟩ v) (fun x => x = k) := by
        refine ⟨rfl, rfl, rfl, by simp [World.setCell], fun x _ hx => by rw [setCell_heap, if_neg hx], fun x c0 e0 f0 hx => ?_⟩
        rw [setCell_heap]
        split
        · rename_i ex; subst ex
          rw [hb] at hx; cases hx
          rw [hb]
          exact ⟨_, rfl, by simp⟩
        · exact ⟨c0, hx, rfl⟩
      exact h0.trans hfr fun i _ h => h

theorem getD_extract {cur : Array Value} {n j : Nat} (h : j < n) : (cur.extract 0 n).getD j undef = cur.getD j undef := by
  simp only [Array.getD_eq_getD_getElem?, Array.getElem?_extract]
  by_cases hj : j < cur.size
  · rw [if_pos (by omega)]; simp
  · rw [if_neg (by omega)]; simp [Nat.le_of_not_lt hj]
theorem sto_AOk {s : FS} {t : TypeId} {ty : TY} {xa xv : Operand} (hgd : gdOf ops io = some none) (hop : io.op = .store t xa xv) (hdst : io.dst = none) (hty : tyOf P t = some ty)
    (hp : stOk s ty (evT c.gl s (tvO xa)) (evT c.gl s (tvO xv))) :
    AOk P c ops io s ⟨tmpsOf [tvO xa, tvO xv], [ptrB (evT c.gl s (tvO xa))], [], [ptrB (evT c.gl s (tvO xa))]⟩
      (s.putB (ptrB (evT c.gl s (tvO xa))) (.cells (putC ty (cellsB (s.H (ptrB (evT c.gl s (tvO xa))))) (ptrO (evT c.gl s (tvO xa))) (evT c.gl s (tvO xv))))) := by
  cases hea : evT c.gl s (tvO xa) <;> rw [hea] at hp <;> simp only [stOk] at hp
  rename_i b off
  simp only [ptrB, ptrO]
  cases hH : s.H b <;> rw [hH] at hp <;> simp only at hp
  rename_i cs
  simp only [cellsB]
  refine ⟨fun i _ => rfl, fun i hi => by rw [FS.H_putB, if_neg (fun e => hi (by simp [e]))], fun s2 hT hHH g a w hR K Q' hK => exec_of_none (gd_none hgd) ?_⟩
  have hevs := evs_congr (gl := c.gl) (xs := [tvO xa, tvO xv]) hT
  simp only [evs, List.map_cons, List.map_nil, List.cons.injEq, and_true] at hevs
  have hva := hR.ev xa
  have hvv := hR.ev xv
  rw [hevs.1, hea] at hva
  rw [hevs.2] at hvv
  obtain ⟨k, e1, e2⟩ := ptr_inv hva
  have hb2 : s2.H b = .cells cs := by rw [hHH b (by simp), hH]
  have hbr := hR.h b
  rw [hb2, e2] at hbr
  -- the cells that are stored
  have piece : ∃ (vs : List AV), (a.eval xv).cells.size = vs.length ∧ off + vs.length ≤ cs.length ∧ sizeT P t = some vs.length ∧ (∀ j, j < vs.length → ((a.eval xv).cells.getD j undef).oneCell' = true) ∧ (∀ j, j < vs.length → VR g (wset c g s2) w (vs.getD j .any) ((a.eval xv).cells.getD j undef)) ∧
      putC ty cs off (evT c.gl s (tvO xv)) = splc cs off vs := by
    cases ty with
    | sc q =>
      obtain ⟨hs, _⟩ := tyOf_sc hty
      obtain ⟨p1, p2⟩ := hp
      have h1 := hvv.one p2
      rw [cells_one h1]
      refine ⟨[evT c.gl s (tvO xv)], rfl, by simp; omega, hs, fun j hj => ?_, fun j hj => ?_, set_splice p1⟩
      · simp at hj; subst hj; exact h1
      · simp at hj; subst hj; exact hvv
    | ag n =>
      obtain ⟨hs, _⟩ := tyOf_ag hty
      clear hK
      generalize evT c.gl s (tvO xv) = ev at hp hvv
      cases ev <;> simp only [stOkC] at hp
      rename_i vs
      obtain ⟨us, e3, q1, q2, q3⟩ := agg_inv hvv
      rw [e3]
      exact ⟨vs, q1, by omega, by rw [hs, hp.1], q2, q3, rfl⟩
  obtain ⟨vs, q1, q2, q3, q4, q5, q6⟩ := piece
  rw [q6] at hK
  by_cases hne : 0 < cs.length
  · cases hbr with
    | cells hb hl h1 hv hf =>
      rename_i cur e fz
      obtain ⟨w', cur', r1, r2, r3, r4, r5⟩ := run_storeRow (P := P) off (a.eval xv).cells.toList 0 w cur hb (fun v hv => by
        obtain ⟨j, hj, e⟩ := List.getElem_of_mem hv
        have hj' : j < vs.length := by rw [← q1]; simpa using hj
        have := q4 j hj'
        have e' : (a.eval xv).cells.getD j undef = v := by
          rw [← e]
          have : j < (a.eval xv).cells.size := by simpa using hj
          simp [Array.getD, this]
        rw [← e']; exact this) (by simp [q1]; omega) hf
      have hrun : (execOp a.eval io).run P w = .ok .skip w' := by
        simp only [execOp, hop, e1, Instr.storeAt, Instr.sureAddr, storeVar, Sem.run_bind, Sem.run_pure, Result.andThen_ok, run_sizeT q3]
        rw [if_neg (by rw [q1]; simp)]
        simp [r1]
      unfold Oper.wp
      rw [hrun]
      show K (a.put io.dst undef) w'
      rw [hdst]
      refine hK g a w' ?_
      rw [ovr_putB]
      have hlive : (s2.H b).live := by rw [hb2]; trivial
      have hk : wset c g s2 k := .inr ⟨b, hlive, e2⟩
      have hmono : ∀ {x v}, VR g (wset c g s2) w x v → VR g (wset c g s2) w' x v := fun hx => hx.mono (r5.weak fun i e => e ▸ hk) (fun _ _ h => h) (fun _ _ => rfl)
      -- the row as it was, but for its end, and the piece
      obtain ⟨t1, t2, t3⟩ := splc_ok (g := g) (W := wset c g s2) (w := w') (cs := cs) (cells := cur.extract 0 cs.length) (by simp; omega)
        (fun j hj => by rw [getD_extract hj]; exact h1 j hj) (fun j hj => by rw [getD_extract hj]; exact hmono (hv j hj)) (vs := vs) (us := (a.eval xv).cells) q1 q4 (fun j hj => hmono (q5 j hj)) q2 (cells' := cur'.extract 0 cs.length) (by simp; omega) (fun j => by
          by_cases hj : j < cs.length
          · rw [getD_extract hj, getD_extract hj, r4 j]
            simp only [Nat.add_zero, Array.length_toList, Array.size_extract, Nat.sub_zero]
            by_cases hcnd : off ≤ j ∧ j < off + (a.eval xv).cells.size
            · rw [if_pos (by omega), if_pos (by omega)]
              simp [Array.getD_eq_getD_getElem?]
            · rw [if_neg (by omega), if_neg (by omega)]
          · rw [if_neg (by simp; omega)]
            have e1 : (cur'.extract 0 cs.length).getD j undef = undef := by simp [Array.getD]; omega
            have e2 : (cur.extract 0 cs.length).getD j undef = undef := by simp [Array.getD]; omega
            rw [e1, e2])
      have hlen := splc_len q2
      refine hR.setBlock e2 hlive trivial r5 (.cells r2 (by rw [hlen, r3]; exact hl) (fun j hj => ?_) (fun j hj => ?_) (by rw [r3]; exact hf))
      · have := t2 j hj; rwa [getD_extract (by omega)] at this
      · have := t3 j hj; rwa [getD_extract (by omega)] at this
  · have hc0 : cs = [] := List.eq_nil_of_length_eq_zero (by omega)
    subst hc0
    have hv0 : vs = [] := List.eq_nil_of_length_eq_zero (by simp at q2; simp [q2])
    subst hv0
    have hrun : (execOp a.eval io).run P w = .ok .skip w := by
      have hc1 : (a.eval xv).cells = #[] := Array.eq_empty_of_size_eq_zero q1
      simp only [execOp, hop, e1, Instr.storeAt, Instr.sureAddr, storeVar, Sem.run_bind, Sem.run_pure, Result.andThen_ok, run_sizeT q3]
      rw [if_neg (by rw [q1]; simp)]
      simp [hc1, storeCells]
    unfold Oper.wp
    rw [hrun]
    show K (a.put io.dst undef) w
    rw [hdst]
    refine hK g a w ?_
    rw [ovr_putB]
    have : s2.putB b (.cells (splc [] off [])) = s2 := by
      unfold FS.putB splc
      cases s2
      congr 1
      funext i
      split
      · rename_i e; subst e; simp at hb2; simp [hb2]
      · rfl
    rw [this]; exact hR
end
end Go.Proofs.Ytblimjilinkmbaa
