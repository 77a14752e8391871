/- All that a walk knows of memory in one fact: the blocks that the call has made, each known whole. No conditions but the ones that stand in each. -/
import Derived.Test.YtldeiolmpmcanaaMem4
namespace Go.Proofs.Ytldeiolmpmcanaa
open Go.RowKit

/-- w has grown out of w0; each listed block was made since, is known whole, and no two are one. -/
structure Mm (w0 w : World) (L : List (Nat × TypeId × List Value)) : Prop where
  ext : Ext w0 w
  blk : ∀ x ∈ L, Blk w x.1 x.2.1 x.2.2 ∧ w0.heap.size ≤ x.1
  nd : (L.map (·.1)).Nodup

section
variable {P : Program} {w0 w w' : World} {L : List (Nat × TypeId × List Value)} {g : Nat} {t : TypeId} {cs : List Value}
theorem Mm.nil (w : World) : Mm w w [] := ⟨Ext.refl w, by simp, by simp⟩
theorem Mm.nil' {w0 w : World} (h : Ext w0 w) : Mm w0 w [] := ⟨h, by simp, by simp⟩
theorem Mm.at_ (m : Mm w0 w L) (i : Nat) (h : L[i]? = some (g, t, cs)) : Blk w g t cs := (m.blk _ (List.mem_of_getElem? h)).1
theorem Mm.base (m : Mm w0 w L) (i : Nat) (h : L[i]? = some (g, t, cs)) : w0.heap.size ≤ g := (m.blk _ (List.mem_of_getElem? h)).2
theorem Mm.to (m : Mm w0 w L) (he : Ext w w') : Mm w0 w' L := ⟨m.ext.trans he, fun x hx => ⟨(m.blk x hx).1.ext he, (m.blk x hx).2⟩, m.nd⟩
theorem Mm.new (m : Mm w0 w L) (t : TypeId) (cs : List Value) : Mm w0 (w.alloc (.cells cs.toArray t)) (L ++ [(w.heap.size, t, cs)]) := by
  refine ⟨m.ext.alloc' _, fun x hx => ?_, ?_⟩
  · rcases List.mem_append.1 hx with h | h
    · exact ⟨(m.blk x h).1.alloc _, (m.blk x h).2⟩
    · simp at h; subst h; exact ⟨Blk.new w t cs, m.ext.size⟩
  · rw [List.map_append, List.nodup_append]
    refine ⟨m.nd, by simp, ?_⟩
    intro a ha b hb
    simp at hb; subst hb
    obtain ⟨x, hx, rfl⟩ := List.mem_map.1 ha
    have := (m.blk x hx).1.lt
    simp; omega
theorem Mm.add (m : Mm w0 w L) (he : Ext w w') (hg : w.heap.size ≤ g) (hb : Blk w' g t cs) : Mm w0 w' (L ++ [(g, t, cs)]) := by
  refine ⟨m.ext.trans he, fun x hx => ?_, ?_⟩
  · rcases List.mem_append.1 hx with h | h
    · exact ⟨(m.blk x h).1.ext he, (m.blk x h).2⟩
    · simp at h; subst h; exact ⟨hb, Nat.le_trans m.ext.size hg⟩
  · rw [List.map_append, List.nodup_append]
    refine ⟨m.nd, by simp, ?_⟩
    intro a ha b hb
    simp at hb; subst hb
    obtain ⟨x, hx, rfl⟩ := List.mem_map.1 ha
    have := (m.blk x hx).1.lt
    simp; omega
theorem Mm.newA (m : Mm w0 w L) (t : TypeId) (cs : Array Value) : Mm w0 (w.alloc (.cells cs t)) (L ++ [(w.heap.size, t, cs.toList)]) := by simpa using m.new t cs.toList
theorem Mm.grown (m : Mm w0 w L) {row : Option Nat} (hb : w.grownBy w' row) (h0 : ∀ k, row = some k → w0.heap.size ≤ k) (hg : ∀ x ∈ L, some x.1 ≠ row) : Mm w0 w' L :=
  ⟨m.ext.grown' hb h0, fun x hx => ⟨(m.blk x hx).1.grown hb (hg x hx), (m.blk x hx).2⟩, m.nd⟩
theorem Mm.put (m : Mm w0 w L) (i : Nat) (h : L[i]? = some (g, t, cs)) {cs' : List Value} (hb : w.grownBy w' (some g)) (hw : Blk w' g t cs') : Mm w0 w' (L.set i (g, t, cs')) := by
  have hi : i < L.length := (List.getElem?_eq_some_iff.1 h).1
  have hgi : (L.map (·.1))[i]? = some g := by rw [List.getElem?_map, h]; rfl
  refine ⟨m.ext.grown' hb (fun k hk => by cases hk; exact m.base i h), fun x hx => ?_, ?_⟩
  · obtain ⟨j, hj⟩ := List.mem_iff_getElem?.1 hx
    by_cases e : j = i
    · subst e
      rw [List.getElem?_set_self hi] at hj
      cases hj
      exact ⟨hw, m.base j h⟩
    · rw [List.getElem?_set_ne (fun h => e h.symm)] at hj
      have hm := List.mem_of_getElem? hj
      refine ⟨(m.blk x hm).1.grown hb (fun hc => ?_), (m.blk x hm).2⟩
      cases hc
      have hxj : (L.map (·.1))[j]? = some x.1 := by rw [List.getElem?_map, hj]; rfl
      exact e ((List.getElem?_inj (by simpa using (List.getElem?_eq_some_iff.1 hj).1) m.nd).1 (hxj.trans hgi.symm))
  · rw [List.map_set]
    have : (L.map (·.1)).set i g = L.map (·.1) := by
      apply List.ext_getElem?
      intro j
      by_cases e : j = i
      · subst e; rw [List.getElem?_set_self (by simpa using hi), hgi]
      · rw [List.getElem?_set_ne (fun h => e h.symm)]
    rw [this]; exact m.nd
variable {ops : Array Oper} {rest : List Oper} {o : Oper} {a : Act} {Q : Exit → Act → World → Prop}
/-- A load of a whole struct or array. -/
theorem Mm.ld (m : Mm w0 w L) (i : Nat) (h : L[i]? = some (g, t, cs)) (off : Nat) (vs : List Value) (hgd : Region.wanted o (yielded ops a.tmps) = true) (ty : TypeId) (x : Operand) (ho : o.op = .load ty x) (hx : a.eval x = .pointer (some ⟨g, off, none⟩)) (d : TypeDesc)
    (hu : P.underlying ty = some d) (hd : d.isRow = true) (hi : (P.info? ty).map (·.size) = some vs.length) (hv : ∀ j v, vs[j]? = some v → cs[off + j]? = some v)
    (k : wpList P ops Q rest (a.put o.dst (.agg vs.toArray)) w) : wpList P ops Q (o :: rest) a w := wpList_ld (m.at_ i h) off vs hgd ty x ho hx d hu hd hi hv k
/-- .. of the whole block. -/
theorem Mm.ldAll (m : Mm w0 w L) (i : Nat) (h : L[i]? = some (g, t, cs)) (hgd : Region.wanted o (yielded ops a.tmps) = true) (ty : TypeId) (x : Operand) (ho : o.op = .load ty x) (hx : a.eval x = .pointer (some ⟨g, 0, none⟩)) (d : TypeDesc)
    (hu : P.underlying ty = some d) (hd : d.isRow = true) (hi : (P.info? ty).map (·.size) = some cs.length)
    (k : wpList P ops Q rest (a.put o.dst (.agg cs.toArray)) w) : wpList P ops Q (o :: rest) a w := wpList_ld (m.at_ i h) 0 cs hgd ty x ho hx d hu hd hi (fun j v h => by simpa using h) k
/-- A store of a whole block. -/
theorem Mm.stAll (m : Mm w0 w L) (i : Nat) (h : L[i]? = some (g, t, cs)) (vs : List Value) (hgd : Region.wanted o (yielded ops a.tmps) = true) (ty : TypeId) (x y : Operand) (ho : o.op = .store ty x y) (hx : a.eval x = .pointer (some ⟨g, 0, none⟩)) (hy : a.eval y = .agg vs.toArray)
    (hi : (P.info? ty).map (·.size) = some vs.length) (h1 : ∀ v ∈ vs, v.oneCell' = true) (hn : cs.length = vs.length)
    (k : ∀ w2, Mm w0 w2 (L.set i (g, t, vs)) → w2.heap.size = w.heap.size → wpList P ops Q rest (a.put o.dst undef) w2) : wpList P ops Q (o :: rest) a w :=
  wpList_st (m.at_ i h) 0 vs hgd ty x y ho hx hy hi h1 (by omega) fun w2 hb hg hz => k w2 (m.put i h hg (by rw [splice_all _ _ hn] at hb; exact hb)) hz
/-- A store into a part of a block. -/
theorem Mm.st (m : Mm w0 w L) (i : Nat) (h : L[i]? = some (g, t, cs)) (off : Nat) (vs : List Value) (hgd : Region.wanted o (yielded ops a.tmps) = true) (ty : TypeId) (x y : Operand) (ho : o.op = .store ty x y) (hx : a.eval x = .pointer (some ⟨g, off, none⟩)) (hy : a.eval y = .agg vs.toArray)
    (hi : (P.info? ty).map (·.size) = some vs.length) (h1 : ∀ v ∈ vs, v.oneCell' = true) (hn : off + vs.length ≤ cs.length)
    (k : ∀ w2, Mm w0 w2 (L.set i (g, t, splice cs off vs)) → w2.heap.size = w.heap.size → wpList P ops Q rest (a.put o.dst undef) w2) : wpList P ops Q (o :: rest) a w :=
  wpList_st (m.at_ i h) off vs hgd ty x y ho hx hy hi h1 hn fun w2 hb hg hz => k w2 (m.put i h hg hb) hz
/-- A store of one cell. -/
theorem Mm.st1 (m : Mm w0 w L) (i : Nat) (h : L[i]? = some (g, t, cs)) (off : Nat) (v : Value) (hgd : Region.wanted o (yielded ops a.tmps) = true) (ty : TypeId) (x y : Operand) (ho : o.op = .store ty x y) (hx : a.eval x = .pointer (some ⟨g, off, none⟩)) (hy : a.eval y = v)
    (hv : v.cells = #[v]) (hi : (P.info? ty).map (·.size) = some 1) (h1 : v.oneCell' = true) (hn : off < cs.length)
    (k : ∀ w2, Mm w0 w2 (L.set i (g, t, cs.set off v)) → w2.heap.size = w.heap.size → wpList P ops Q rest (a.put o.dst undef) w2) : wpList P ops Q (o :: rest) a w :=
  wpList_st1 (m.at_ i h) off v hgd ty x y ho hx hy hv hi h1 hn fun w2 hb hg hz => k w2 (m.put i h hg hb) hz
/-- A new variable. -/
theorem Mm.al (m : Mm w0 w L) (zs : List Value) (hgd : Region.wanted o (yielded ops a.tmps) = true) (ty : TypeId) (ho : o.op = .alloc ty) (hz : (P.info? ty).map (·.zero) = some (some (.agg zs.toArray)))
    (k : ∀ g w2, Mm w0 w2 (L ++ [(g, ty, zs)]) → w2.heap.size = w.heap.size + 1 → wpList P ops Q rest (a.put o.dst (.pointer (some ⟨g, 0, none⟩))) w2) : wpList P ops Q (o :: rest) a w :=
  wpList_val _ hgd (alloc_run P ty zs.toArray hz o ho a w) (k _ _ (m.new ty zs) (by simp))
theorem box_run (P : Program) (t : TypeId) (v : Value) (x : Operand) (o : Oper) (ho : o.op = .box t x) (a : Act) (hx : a.eval x = v) (w : World) : (execOp a.eval o).run P w = .ok (.value (.pointer (some ⟨w.heap.size, 0, none⟩))) (w.alloc (.cells v.cells t)) := by
  subst hx
  simp [execOp, ho, go_sem]
/-- A parameter that is laid into memory. -/
theorem Mm.box (m : Mm w0 w L) (zs : List Value) (hgd : Region.wanted o (yielded ops a.tmps) = true) (ty : TypeId) (x : Operand) (ho : o.op = .box ty x) (hx : a.eval x = .agg zs.toArray)
    (k : ∀ g w2, Mm w0 w2 (L ++ [(g, ty, zs)]) → w2.heap.size = w.heap.size + 1 → wpList P ops Q rest (a.put o.dst (.pointer (some ⟨g, 0, none⟩))) w2) : wpList P ops Q (o :: rest) a w :=
  wpList_val _ hgd (box_run P ty _ x o ho a hx w) (k _ _ (m.new ty zs) (by simp))
end

/-- A callee's contract, as a region that draws its order wants it. -/
theorem Calls.ext_same {P : Program} {f : FuncId} {args : Array Value} {w : World} {v : Value}
    (h : Calls P f args w fun e w' => e = .returned v ∧ w' = w) : Calls P f args w fun e w' => e = .returned v ∧ Ext w w' :=
  h.mono fun _ _ ⟨he, hb⟩ => ⟨he, hb ▸ Ext.refl _⟩
theorem i64_in (x : Int) (h0 : -9223372036854775808 ≤ x) (h1 : x ≤ 9223372036854775807) : IntKind.i64.wrap x = x := by rw [IntKind.wrap_i64]; omega
theorem run_loadVar_one (P : Program) (w : World) (p : Addr) (ty : TypeId) (v : Value) (d : TypeDesc) (hc : w.cell? p = some v) (hu : P.underlying ty = some d) (hd : d.isRow = false) :
    (loadVar ty p).run P w = .ok v w := by
  have hagg : (isAgg ty).run P w = .ok false w := by
    unfold isAgg
    rw [Sem.run_bind, run_underlying hu w]
    cases d <;> simp_all
  simp [loadVar, Sem.run_bind, hagg, go_sem, hc]
/-- A load of one cell. -/
theorem Mm.ld1 {P : Program} {w0 w : World} {L : List (Nat × TypeId × List Value)} {g : Nat} {t : TypeId} {cs : List Value} {ops : Array Oper} {rest : List Oper} {o : Oper} {a : Act} {Q : Exit → Act → World → Prop}
    (m : Mm w0 w L) (i : Nat) (h : L[i]? = some (g, t, cs)) (off : Nat) (v : Value) (hv : cs[off]? = some v) (hgd : Region.wanted o (yielded ops a.tmps) = true) (ty : TypeId) (x : Operand) (ho : o.op = .load ty x) (hx : a.eval x = .pointer (some ⟨g, off, none⟩)) (d : TypeDesc)
    (hu : P.underlying ty = some d) (hd : d.isRow = false) (k : wpList P ops Q rest (a.put o.dst v) w) : wpList P ops Q (o :: rest) a w :=
  wpList_val _ hgd (by simp only [execOp, ho, hx, Instr.loadAt, Instr.sureAddr, Sem.run_bind, Sem.run_pure, Result.andThen_ok, run_loadVar_one P w ⟨g, off, none⟩ ty v d (by rw [(m.at_ i h).cell]; exact hv) hu hd]) k
section
variable {P : Program} {w0 w : World} {L : List (Nat × TypeId × List Value)} {g : Nat} {t : TypeId} {cs : List Value} {o : Oper} {a : Act} {K : Act → Prop}
/-- The loads of a region that draws its order. -/
theorem Mm.gld (m : Mm w0 w L) (i : Nat) (h : L[i]? = some (g, t, cs)) (off : Nat) (vs : List Value) (ty : TypeId) (x : Operand) (ho : o.op = .load ty x) (hx : a.eval x = .pointer (some ⟨g, off, none⟩)) (d : TypeDesc)
    (hu : P.underlying ty = some d) (hd : d.isRow = true) (hi : (P.info? ty).map (·.size) = some vs.length) (hv : ∀ j v, vs[j]? = some v → cs[off + j]? = some v)
    (hK : K (a.put o.dst (.agg vs.toArray))) : gOp P o a w K := gOp_ld (m.at_ i h) off vs ty x ho hx d hu hd hi hv hK
theorem Mm.gldAll (m : Mm w0 w L) (i : Nat) (h : L[i]? = some (g, t, cs)) (ty : TypeId) (x : Operand) (ho : o.op = .load ty x) (hx : a.eval x = .pointer (some ⟨g, 0, none⟩)) (d : TypeDesc)
    (hu : P.underlying ty = some d) (hd : d.isRow = true) (hi : (P.info? ty).map (·.size) = some cs.length)
    (hK : K (a.put o.dst (.agg cs.toArray))) : gOp P o a w K := gOp_ld (m.at_ i h) 0 cs ty x ho hx d hu hd hi (fun j v h => by simpa using h) hK
theorem Mm.gld1 (m : Mm w0 w L) (i : Nat) (h : L[i]? = some (g, t, cs)) (off : Nat) (v : Value) (hv : cs[off]? = some v) (ty : TypeId) (x : Operand) (ho : o.op = .load ty x) (hx : a.eval x = .pointer (some ⟨g, off, none⟩)) (d : TypeDesc)
    (hu : P.underlying ty = some d) (hd : d.isRow = false) (hK : K (a.put o.dst v)) : gOp P o a w K :=
  ⟨v, fun xw => by
    unfold gAt execOp
    simp only [ho, hx, Instr.loadAt, Instr.sureAddr, Sem.run_bind, Sem.run_pure, Result.andThen_ok, run_loadVar_one P xw.w ⟨g, off, none⟩ ty v d (by rw [((m.at_ i h).ext xw.h).cell]; exact hv) hu hd]
    exact ⟨rfl, rfl⟩, hK⟩
end
section
variable {P : Program} {w0 w : World} {L : List (Nat × TypeId × List Value)} {b off : Nat} {v : Value} {o : Oper} {a : Act}
theorem Mm.take (m : Mm w0 w L) (n : Nat) : Mm w0 w (L.take n) :=
  ⟨m.ext, fun x hx => m.blk x (List.mem_of_mem_take hx), by rw [List.map_take]; exact m.nd.sublist (List.take_sublist _ _)⟩
/-- A load of one cell that was there. -/
theorem Mm.ldOld {ops : Array Oper} {rest : List Oper} {Q : Exit → Act → World → Prop} (m : Mm w0 w L) (hc : w0.cell? ⟨b, off, none⟩ = some v) (hb : b < w0.heap.size) (hgd : Region.wanted o (yielded ops a.tmps) = true) (ty : TypeId) (x : Operand) (ho : o.op = .load ty x) (hx : a.eval x = .pointer (some ⟨b, off, none⟩)) (d : TypeDesc)
    (hu : P.underlying ty = some d) (hd : d.isRow = false) (k : wpList P ops Q rest (a.put o.dst v) w) : wpList P ops Q (o :: rest) a w :=
  wpList_val _ hgd (by simp only [execOp, ho, hx, Instr.loadAt, Instr.sureAddr, Sem.run_bind, Sem.run_pure, Result.andThen_ok, run_loadVar_one P w ⟨b, off, none⟩ ty v d (by rw [m.ext.cell hb]; exact hc) hu hd]) k
theorem Mm.gldOld {K : Act → Prop} (m : Mm w0 w L) (hc : w0.cell? ⟨b, off, none⟩ = some v) (hb : b < w0.heap.size) (ty : TypeId) (x : Operand) (ho : o.op = .load ty x) (hx : a.eval x = .pointer (some ⟨b, off, none⟩)) (d : TypeDesc)
    (hu : P.underlying ty = some d) (hd : d.isRow = false) (hK : K (a.put o.dst v)) : gOp P o a w K :=
  ⟨v, fun xw => by
    unfold gAt execOp
    simp only [ho, hx, Instr.loadAt, Instr.sureAddr, Sem.run_bind, Sem.run_pure, Result.andThen_ok, run_loadVar_one P xw.w ⟨b, off, none⟩ ty v d (by rw [(m.ext.trans xw.h).cell hb]; exact hc) hu hd]
    exact ⟨rfl, rfl⟩, hK⟩
end
end Go.Proofs.Ytldeiolmpmcanaa
