/- Rows that are made and that grow: slices made, append, bytes of a string. No conditions but the ones that stand in each. -/
import Derived.Test.YtblimjilinkmbaaAo
import Derived.Laws.AppendOwn
import Derived.Great.BuildSlice
import Derived.Laws.IdiomStrings
namespace Go.Proofs.Ytblimjilinkmbaa
set_option linter.all false
set_option linter.unusedSimpArgs false
open Go.RowKit

section
variable {P : Program} {c : Cx} {g : Nat → GM} {s : FS} {a : Act} {w w' : World}

/-- A free name is given to a row that is none. -/
theorem R.phantom (hR : R c g s a w) {b : Nat} (hfree : s.H b = .free) : R c (updG g b .ph) (s.putB b (.cells [])) a w := by
  have hun : g b = .un := by
    have := hR.h b; rw [hfree] at this; generalize g b = m at this; cases this; rfl
  have hg := updG_other (m := .ph) hun
  have hself : updG g b .ph b = .ph := by simp [updG]
  have hoth : ∀ i, i ≠ b → updG g b .ph i = g i := fun i h => by simp [updG, h]
  have hl : ∀ i k, ((s.putB b (.cells [])).H i).live → updG g b .ph i = .re k → i ≠ b ∧ (s.H i).live ∧ g i = .re k := fun i k h e => by
    have hne : i ≠ b := fun h => by subst h; rw [hself] at e; cases e
    rw [FS.H_putB, if_neg (fun h => hne h.symm)] at h
    rw [hoth i hne] at e
    exact ⟨hne, h, e⟩
  have hW : ∀ k, wset c (updG g b .ph) (s.putB b (.cells [])) k → wset c g s k := by
    rintro k (h | ⟨i, h1, h2⟩)
    · exact .inl h
    · exact .inr ⟨i, (hl i k h1 h2).2.1, (hl i k h1 h2).2.2⟩
  have hf := Fr.refl w (wset c g s)
  refine ⟨hR.size, hR.def_, fun i => (hR.t i).mono hf (fun k _ => hW k) hg, fun i => (hR.gl i).mono hf (fun k _ => hW k) (fun _ _ => rfl), fun i => ?_, fun p q m hp hq h1 h2 => ?_, fun p m hp h1 => ?_, hR.fr, hR.xs, pin_upd hR hun⟩
  · rw [FS.H_putB]
    split
    · rename_i e; subst e; rw [hself]; exact .ph
    · rename_i e
      rw [hoth i fun h => e h.symm]
      exact (hR.h i).mono hf (fun k _ => hW k) hg fun _ _ _ => rfl
  · exact hR.inj p q m (hl p m hp h1).2.1 (hl q m hq h2).2.1 (hl p m hp h1).2.2 (hl q m hq h2).2.2
  · exact hR.old p m (hl p m hp h1).2.1 (hl p m hp h1).2.2

/-! ### What append does in the model -/
theorem run_storeCells_fz (k o : Nat) (t : TypeId) (fz : Nat × Nat) : ∀ (vs : List Value) (i : Nat) (cur : Array Value) (w : World), w.heap[k]? = some (.cells cur t fz) → (fz = (0, 0) ∨ cur.size ≤ fz.1) → o + i + vs.length ≤ cur.size → (∀ v ∈ vs, v.oneCell' = true) →
    (storeCells ⟨k, o, none⟩ vs i).run P w = .ok () (w.setRow k (cur.toList.take (o + i) ++ vs ++ cur.toList.drop (o + i + vs.length)).toArray)
  | [], i, cur, w, hg, _, _, _ => by
    simp only [storeCells, List.append_nil, List.length_nil, Nat.add_zero, List.take_append_drop, Array.toArray_toList]
    rw [setRow_self w k cur t fz hg]
    rfl
  | v :: rest, i, cur, w, hg, hz, hl, h1 => by
    have hi : o + i < cur.size := by simp at hl; omega
    have hadd : (⟨k, o, none⟩ : Addr).add i = ⟨k, o + i, none⟩ := by unfold Addr.add; split <;> simp_all
    have hcell : w.cell? ⟨k, o + i, none⟩ = some cur[o + i] := by simp [World.cell?, hg, hi]
    have hfro : w.frozen? ⟨k, o + i, none⟩ = false := by
      simp only [World.frozen?, hg]
      rcases hz with rfl | hz
      · simp
      · have : ¬ fz.1 ≤ o + i := by omega
        simp [this]
    have hst : (store ((⟨k, o, none⟩ : Addr).add i) v).run P w = .ok () (w.setRow k (cur.setIfInBounds (o + i) v)) := by
      rw [hadd, run_store P w _ v _ (h1 v (by simp)), hcell]
      simp [hfro, setCell_eq_setRow w k (o + i) cur t fz v hg]
    have ih := run_storeCells_fz k o t fz rest (i + 1) (cur.setIfInBounds (o + i) v) (w.setRow k (cur.setIfInBounds (o + i) v)) (setRow_heap w k cur _ t _ hg) (by simpa using hz) (by simp at hl ⊢; omega) (fun x hx => h1 x (by simp [hx]))
    simp only [storeCells, Sem.run_bind, hst, Result.andThen_ok, ih, setRow_setRow]
    congr 3
    have e := list_seg_step cur.toList (o + i) v rest (by simp at hl ⊢; omega)
    simpa [Array.toList_setIfInBounds, Nat.add_assoc] using e

theorem run_append_more {t u ty e : TypeId} {i : TypeInfo} {z : Value} (ht : P.underlying t = some (.slice e)) (hu : u = t ∨ P.underlying u = some .string) (hi : P.info? e = some i) (hz : i.zero = some z)
    (ba : Option Addr) (sLen sCap : Nat) (x : Value) (m : Nat) (olds news : List Value) (w : World) (hlen : ∀ w, (Builtin.lenOf x).run P w = .ok m w)
    (hnew : ∀ w' : World, w'.heap = w.heap → (Builtin.firstCells i.size m x).run P w' = .ok news.toArray w') (hold : ∀ w' : World, w'.heap = w.heap → (Builtin.firstCells i.size sLen (.slice ba sLen sCap)).run P w' = .ok olds.toArray w')
    (hg : sCap < sLen + m) (h63 : ((sLen + m : Nat) : Int) ≤ 9223372036854775807) (hfit : Builtin.nextslicecap (sLen + m) sCap * i.bytes ≤ 281474976710656) :
    (Builtin.append_ #[t, u] ty #[.slice ba sLen sCap, x]).run P w =
      .ok (.slice (some ⟨w.heap.size, 0, none⟩) (sLen + m) (grownCap w (sLen + m) sCap e))
        (w.drew.alloc (.cells (olds.toArray ++ news.toArray ++ Builtin.zeroCells z.cells (grownCap w (sLen + m) sCap e - (sLen + m))) e)) := by
  have hn : ¬ (sLen + m ≤ sCap) := by omega
  have h63' : ¬ (9223372036854775807 < ((sLen : Int) + (m : Int))) := by omega
  have h48' : ¬ (281474976710656 < Builtin.nextslicecap (sLen + m) sCap * i.bytes) := by omega
  have hf := hnew w.drew rfl
  have hfo := hold w.drew rfl
  rcases hu with rfl | hu
  · simp [Builtin.append_, run_underlying ht, sizeOf, typeInfo, zeroValue, hi, hz, hlen, hn, h63', h48', Question.forced, hf, hfo, newRow, grownCap]
    congr 2; apply Array.ext'; simp
  · simp [Builtin.append_, run_underlying ht, run_underlying hu, sizeOf, typeInfo, zeroValue, hi, hz, hlen, hn, h63', h48', Question.forced, hf, hfo, newRow, grownCap]
    congr 2; apply Array.ext'; simp
theorem run_append_in {t u ty e : TypeId} {i : TypeInfo} (ht : P.underlying t = some (.slice e)) (hu : u = t ∨ P.underlying u = some .string) (hi : P.info? e = some i)
    (k sLen sCap : Nat) (x : Value) (m : Nat) (news : List Value) (cur : Array Value) (e' : TypeId) (fz : Nat × Nat) (w : World) (hlen : ∀ w, (Builtin.lenOf x).run P w = .ok m w) (hk : w.heap[k]? = some (.cells cur e' fz)) (hfz : fz = (0, 0) ∨ cur.size ≤ fz.1)
    (hnew : ∀ w' : World, w'.heap = w.heap → (Builtin.firstCells i.size m x).run P w' = .ok news.toArray w') (h1 : ∀ u ∈ news, u.oneCell' = true)
    (hroom : sLen + m ≤ sCap) (hfit : sLen * i.size + news.length ≤ cur.size) :
    (Builtin.append_ #[t, u] ty #[.slice (some ⟨k, 0, none⟩) sLen sCap, x]).run P w =
      .ok (.slice (some ⟨k, 0, none⟩) (sLen + m) sCap) (w.setRow k (cur.toList.take (sLen * i.size) ++ news ++ cur.toList.drop (sLen * i.size + news.length)).toArray) := by
  have hst := run_storeCells_fz (P := P) k (sLen * i.size) e' fz news 0 cur w hk hfz (by simpa using hfit) h1
  simp only [Nat.add_zero] at hst
  have hf := hnew w rfl
  rcases hu with rfl | hu
  · simp [Builtin.append_, run_underlying ht, sizeOf, typeInfo, hi, hlen, hroom, hf, Addr.add_lit, hst]
  · simp [Builtin.append_, run_underlying ht, run_underlying hu, sizeOf, typeInfo, hi, hlen, hroom, hf, Addr.add_lit, hst]
theorem run_append_no {t u ty e : TypeId} {i : TypeInfo} (ht : P.underlying t = some (.slice e)) (hu : u = t ∨ P.underlying u = some .string) (hi : P.info? e = some i)
    (ba : Option Addr) (sLen sCap : Nat) (x : Value) (w : World) (hlen : ∀ w, (Builtin.lenOf x).run P w = .ok 0 w)
    (hnew : ∀ w' : World, w'.heap = w.heap → (Builtin.firstCells i.size 0 x).run P w' = .ok #[] w') (hroom : sLen ≤ sCap) :
    (Builtin.append_ #[t, u] ty #[.slice ba sLen sCap, x]).run P w = .ok (.slice ba sLen sCap) w := by
  have hf := hnew w rfl
  rcases hu with rfl | hu
  · cases ba <;> simp [Builtin.append_, run_underlying ht, sizeOf, typeInfo, hi, hlen, hroom, hf, storeCells]
  · cases ba <;> simp [Builtin.append_, run_underlying ht, run_underlying hu, sizeOf, typeInfo, hi, hlen, hroom, hf, storeCells]

/-! ### What may grow, what may be put behind -/
def srcN : AV → Nat
  | .isl m _ => m
  | .sl _ _ _ m _ => m
  | .str l => l.length
  | _ => 0
theorem srcN_sl (es b o m cc : Nat) : srcN (.sl es b o m cc) = m := rfl
theorem srcN_isl (m : Nat) (ds : List AV) : srcN (.isl m ds) = m := rfl
theorem srcN_str (l : List UInt8) : srcN (.str l) = l.length := rfl
theorem srcN_nils : srcN .nils = 0 := rfl
def srcC (s : FS) (es : Nat) : AV → List AV
  | .isl m ds => ds.take (m * es)
  | .sl _ b o m _ => ((cellsB (s.H b)).drop o).take (m * es)
  | .str l => byts l
  | _ => []
def srcOk (s : FS) (es : Nat) (str : Bool) : AV → Prop
  | .isl m ds => str = false ∧ m * es ≤ ds.length
  | .sl es2 b o m _ => str = false ∧ es2 = es ∧ o + m * es ≤ (cellsB (s.H b)).length
  | .nils => str = false
  | .str _ => str = true ∧ es = 1
  | _ => False
def srcB : AV → Option Nat
  | .sl _ b _ _ _ => some b
  | _ => none
def baseOk (s : FS) (es : Nat) : AV → Prop
  | .sl es2 b o n _ => es2 = es ∧ o = 0 ∧ n * es ≤ (cellsB (s.H b)).length ∧ (s.H b).live
  | .nils => True
  | _ => False
def FS.killO (s : FS) : Option Nat → FS
  | some b => s.putB b .dead
  | none => s

theorem cellsB_row {s : FS} {b : Nat} {n : Nat} (h : n ≤ (cellsB (s.H b)).length) (hn : 0 < n) : ∃ cs, s.H b = .cells cs := by
  cases hh : s.H b with
  | cells cs => exact ⟨cs, rfl⟩
  | _ => rw [hh] at h; simp [cellsB] at h; omega
/-- Cells that lie in a block. -/
theorem row_cells {k o : Nat} {cur : Array Value} {e : TypeId} {fz : Nat × Nat} (hb : w.heap[k]? = some (.cells cur e fz)) {n : Nat} (hn : o + n ≤ cur.size) :
    ∀ (w' : World), w'.heap = w.heap → ∀ j v, ((cur.toList.drop o).take n)[j]? = some v → w'.cell? ((⟨k, o, none⟩ : Addr).add j) = some v := by
  intro w' hw j v hv
  have hadd : (⟨k, o, none⟩ : Addr).add j = ⟨k, o + j, none⟩ := by unfold Addr.add; split <;> simp_all
  rw [hadd]
  rw [List.getElem?_take] at hv
  split at hv
  · rw [List.getElem?_drop] at hv
    simp only [World.cell?, hw, hb]
    simpa using hv
  · cases hv
theorem run_first (es m : Nat) {a' : Option Addr} {len cap : Nat} {vs : List Value} (hl : vs.length = m * es) (h : ∀ w' : World, w'.heap = w.heap → ∀ j v, vs[j]? = some v → ∃ a0, a' = some a0 ∧ w'.cell? (a0.add j) = some v) :
    ∀ w' : World, w'.heap = w.heap → (Builtin.firstCells es m (.slice a' len cap)).run P w' = .ok vs.toArray w' := by
  intro w' hw
  cases a' with
  | none =>
    cases vs with
    | nil => simp [Builtin.firstCells]
    | cons v vs => obtain ⟨a0, h1, _⟩ := h w' hw 0 v rfl; cases h1
  | some a0 =>
    refine run_firstCells_some w' es m a0 len cap vs hl fun j v hj => ?_
    obtain ⟨a1, h1, h2⟩ := h w' hw j v hj
    cases h1; exact h2
theorem getD_of_lt {vs : List Value} {j : Nat} (h : j < vs.length) : vs[j]? = some (vs.getD j undef) := by simp [List.getD, h]

theorem src_core (hR : R c g s a w) {es : Nat} {str : Bool} {x : AV} {u : Value} (hx : VR g (wset c g s) w x u) (ok : srcOk s es str x) :
    ∃ news : List Value, (∀ w, (Builtin.lenOf u).run P w = .ok (srcN x) w) ∧ (∀ w' : World, w'.heap = w.heap → (Builtin.firstCells es (srcN x) u).run P w' = .ok news.toArray w') ∧
      news.length = srcN x * es ∧ (srcC s es x).length = srcN x * es ∧ (∀ v ∈ news, v.oneCell' = true) ∧ ∀ j, j < srcN x * es → VR g (wset c g s) w ((srcC s es x).getD j .any) (news.getD j undef) := by
  cases x <;> simp only [srcOk] at ok
  case isl m ds =>
    obtain ⟨rfl, hl⟩ := ok
    obtain ⟨ad, cap, us, rfl, h1, h2, h3, h4⟩ := isl_inv hx
    simp only [srcN]
    have hlen : ((List.range (m * es)).map us).length = m * es := by simp
    have hget : ∀ j, j < m * es → ((List.range (m * es)).map us).getD j undef = us j := fun j hj => by simp [List.getD, hj]
    refine ⟨(List.range (m * es)).map us, fun w => rfl, run_first es m hlen fun w' hw j v hj => ?_, hlen, by simp [srcC]; omega, fun v hv => ?_, fun j hj => ?_⟩
    · obtain ⟨hj', rfl⟩ := List.getElem?_eq_some_iff.1 hj
      rw [hlen] at hj'
      obtain ⟨k, o, rfl, h5, _⟩ := h3 j (by omega)
      refine ⟨_, rfl, ?_⟩
      have hadd : (⟨k, o, none⟩ : Addr).add j = ⟨k, o + j, none⟩ := by unfold Addr.add; split <;> simp_all
      rw [hadd]
      simp only [List.getElem_map, List.getElem_range]
      rw [← h5]; unfold cellOf World.cell?; simp only [hw]
    · obtain ⟨j, hj, rfl⟩ := List.mem_map.1 hv
      simp at hj
      obtain ⟨k, o, _, _, _, h6⟩ := h3 j (by omega)
      exact h6
    · rw [hget j hj]
      have : (srcC s es (.isl m ds)).getD j .any = ds.getD j .any := by simp [srcC, List.getD, List.getElem?_take, hj]
      rw [this]; exact h4 j (by omega)
  case sl es2 b o m cc =>
    obtain ⟨rfl, rfl, hl⟩ := ok
    simp only [srcN]
    rcases sl_inv hx with ⟨k, cap, e, cur, fz, rfl, h1, h2, h3, h4, h5, h6⟩ | ⟨ad, rfl, h1, rfl, rfl⟩
    · by_cases hpos : 0 < m * es2
      · obtain ⟨cs, hcs⟩ := cellsB_row (s := s) (b := b) (n := o + m * es2) hl (by omega)
        have hb := hR.h b
        rw [h1, hcs] at hb
        cases hb with
        | cells hb hll h1' hv hf =>
        rename_i cur' e' fz'
        rw [h5] at hb; cases hb
        have hlc : o + m * es2 ≤ cs.length := by rw [hcs] at hl; exact hl
        have hlen : ((cur.toList.drop o).take (m * es2)).length = m * es2 := by simp; omega
        have hget : ∀ j, j < m * es2 → ((cur.toList.drop o).take (m * es2)).getD j undef = cur.getD (o + j) undef := fun j hj => by simp [List.getD, List.getElem?_take, hj, Array.getD_eq_getD_getElem?]
        refine ⟨(cur.toList.drop o).take (m * es2), fun w => rfl, run_first es2 m hlen fun w' hw j v hj => ⟨_, rfl, row_cells h5 (by omega) w' hw j v hj⟩, hlen, by simp [srcC, hcs, cellsB]; omega, fun v hv => ?_, fun j hj => ?_⟩
        · obtain ⟨j, hj, rfl⟩ := List.getElem_of_mem hv
          rw [hlen] at hj
          have := h1' (o + j) (by omega)
          have hg := hget j hj
          simp only [List.getD, List.getElem?_eq_getElem (show j < ((cur.toList.drop o).take (m * es2)).length by omega), Option.getD_some] at hg
          rw [hg]; exact this
        · rw [hget j hj]
          have : (srcC s es2 (.sl es2 b o m cc)).getD j .any = cs.getD (o + j) .any := by simp [srcC, hcs, cellsB, List.getD, List.getElem?_take, hj]
          rw [this]; exact hv _ (by omega)
      · have hz : m * es2 = 0 := by omega
        refine ⟨[], fun w => rfl, run_first es2 m (by simp [hz]) fun w' hw j v hj => by simp at hj, by simp [srcN, hz], by simp [srcN, srcC, hz], fun v hv => (by cases hv), fun j hj => (by omega)⟩
    · refine ⟨[], fun w => rfl, run_first es2 0 (by simp) fun w' hw j v hj => by simp at hj, by simp [srcN], by simp [srcN, srcC], fun v hv => (by cases hv), fun j hj => (by omega)⟩
  case nils =>
    obtain ⟨ad, rfl⟩ := nils_inv hx
    simp only [srcN]
    refine ⟨[], fun w => rfl, run_first es 0 (by simp) fun w' hw j v hj => by simp at hj, by simp [srcN], by simp [srcN, srcC], fun v hv => (by cases hv), fun j hj => (by omega)⟩
  case str l =>
    obtain ⟨rfl, rfl⟩ := ok
    cases hx
    simp only [srcN]
    refine ⟨l.map fun b => .int .u8 b.toNat, fun w => ?_, fun w' _ => ?_, by simp [srcN], by simp [srcN, srcC, byts], fun v hv => ?_, fun j hj => ?_⟩
    · simp [Builtin.lenOf, srcN, ByteArray.size]
    · have hx : (⟨l.toArray⟩ : ByteArray).extract 0 l.length = ⟨l.toArray⟩ := by
        have : l.length = (⟨l.toArray⟩ : ByteArray).size := rfl
        rw [this, ByteArray.extract_zero_size]
      simp [Builtin.firstCells, srcN, hx]
    · obtain ⟨b, _, rfl⟩ := List.mem_map.1 hv; rfl
    · simp only [Nat.mul_one] at hj
      have e1 : (srcC s 1 (.str l)).getD j .any = .int .u8 (l[j]).toNat := by simp [srcC, byts, List.getD, hj]
      have e2 : (l.map fun b : UInt8 => Value.int .u8 b.toNat).getD j undef = .int .u8 (l[j]).toNat := by simp [List.getD, hj]
      rw [e1, e2]; exact .int _ _

theorem updG_self {g : Nat → GM} {b : Nat} {m : GM} : updG g b m b = m := by simp [updG]
/-- A new row, under a free name, behind a draw. -/
theorem grown_ok (hR : R c g s a w) {nm : Nat} (hfree : s.H nm = .free) {es N cap : Nat} {e : TypeId} {cs : List AV} {vs : List Value} {zs : Array Value} (hl : vs.length = N * es) (hcl : cs.length = N * es) (hzs : zs.size = (cap - N) * es) (hN : N ≤ cap) (hm : cap ≤ maxLen)
    (h1 : ∀ v ∈ vs, v.oneCell' = true) (hv : ∀ j, j < N * es → VR g (wset c g s) w (cs.getD j .any) (vs.getD j undef)) :
    ∃ g', R c g' (s.putB nm (.cells cs)) a (w.drew.alloc (.cells (vs.toArray ++ zs) e)) ∧ VR g' (wset c g' (s.putB nm (.cells cs))) (w.drew.alloc (.cells (vs.toArray ++ zs) e)) (.sl es nm 0 N N) (.slice (some ⟨w.heap.size, 0, none⟩) N cap) := by
  have hRd : R c g s a w.drew := hR.grow (Fr.drew w _)
  have hge : ∀ k, wset c g s k → k < w.heap.size := by
    rintro k (h | ⟨b', hl, hg'⟩)
    · have := (hR.xs k h).1; have := hR.fr.size; omega
    · exact BR.lt (hg' ▸ hR.h b') hl
  have hget : ∀ j, j < N * es → (vs.toArray ++ zs).getD j undef = vs.getD j undef := fun j hj => by
    simp [Array.getD_eq_getD_getElem?, List.getD, Array.getElem?_append, hl, hj]
  have hnew := heap_alloc_new w.drew (.cells (vs.toArray ++ zs) e)
  have hR' := hRd.new (b := nm) (x := .cells cs) (.cells (vs.toArray ++ zs) e) hfree trivial fun g' hg' => by
    refine .cells (cur := vs.toArray ++ zs) (e := e) (fz := (0, 0)) hnew (by simp [hl, hcl]) (fun j hj => ?_) (fun j hj => ?_) (.inl rfl)
    · rw [hget j (by omega)]
      have hj' : j < vs.length := by omega
      simp only [List.getD, List.getElem?_eq_getElem hj', Option.getD_some]
      exact h1 _ (List.getElem_mem hj')
    · rw [hget j (by omega)]
      exact ((hv j (by omega)).mono (Fr.drew w _) (fun _ _ h => h) (fun _ _ => rfl)).mono (Fr.alloc w.drew _ _) (fun k hk h => h.resolve_right (by simp at hk; simp; omega)) hg'
  refine ⟨_, hR', .sl (k := w.heap.size) (e := e) (cur := vs.toArray ++ zs) (fz := (0, 0)) updG_self (Nat.le_refl _) hN hm hnew ?_⟩
  simp [hl, hzs, ← Nat.add_mul]
  exact Nat.mul_le_mul_right _ (by omega)

theorem fs_ext {s s' : FS} (hT : ∀ i, s.T i = s'.T i) (hH : ∀ i, s.H i = s'.H i) : s = s' := by
  cases s; cases s'; congr 1 <;> funext i
  · exact hT i
  · exact hH i
theorem setRow_fr {w : World} {k : Nat} {cur new : Array Value} {e : TypeId} {fz : Nat × Nat} (hk : w.heap[k]? = some (.cells cur e fz)) (hs : new.size = cur.size) : Fr w (w.setRow k new) (fun i => i = k) :=
  ⟨rfl, rfl, rfl, by simp [World.setRow], fun i _ hne => setRow_other w k i new hne, fun i cur' e' fz' hi => by
    by_cases h : i = k
    · subst h
      rw [hk] at hi; cases hi
      exact ⟨new, setRow_heap w i cur new e fz hk, hs⟩
    · exact ⟨cur', by rw [setRow_other w k i new h]; exact hi, rfl⟩⟩
/-- Nothing lay there: the row is new, or none. -/
theorem app_nil (hR : R c g s a w) {nm : Nat} (hfree : s.H nm = .free) {t u ty e : TypeId} {i : TypeInfo} {z : Value} {es : Nat} (ht : P.underlying t = some (.slice e)) (hu : u = t ∨ P.underlying u = some .string) (hi : P.info? e = some i) (hz : i.zero = some z) (hes : i.size = es) (hzs : z.cells.size = es)
    (ad : Option Addr) {ux : Value} {m : Nat} {cs : List AV} {news : List Value} (q1 : ∀ w, (Builtin.lenOf ux).run P w = .ok m w) (q2 : ∀ w' : World, w'.heap = w.heap → (Builtin.firstCells es m ux).run P w' = .ok news.toArray w')
    (q3 : news.length = m * es) (q4 : cs.length = m * es) (q5 : ∀ v ∈ news, v.oneCell' = true) (q6 : ∀ j, j < m * es → VR g (wset c g s) w (cs.getD j .any) (news.getD j undef)) (h63 : m ≤ maxLen) (hby : m * i.bytes ≤ 140737488355328) :
    ∃ g' v' w', (Builtin.append_ #[t, u] ty #[.slice ad 0 0, ux]).run P w = .ok v' w' ∧ R c g' (s.putB nm (.cells cs)) a w' ∧ VR g' (wset c g' (s.putB nm (.cells cs))) w' (.sl es nm 0 m m) v' := by
  by_cases hm : m = 0
  · subst hm
    have hn : news = [] := List.eq_nil_of_length_eq_zero (by omega)
    have hc : cs = [] := List.eq_nil_of_length_eq_zero (by omega)
    subst hn hc
    exact ⟨_, _, _, run_append_no ht hu hi ad 0 0 ux w q1 (by rw [hes]; exact q2) (Nat.le_refl _), hR.phantom hfree, .slp updG_self rfl⟩
  · have hr := run_append_more (ty := ty) (P := P) ht hu hi hz ad 0 0 ux m [] news w q1 (by rw [hes]; exact q2) (fun w' _ => by cases ad <;> simp [Builtin.firstCells, loadCells, loadCellsFrom]) (by omega) (by simp only [maxLen] at h63; omega) (growslice_fits (by omega) (by simpa using hby))
    simp only [Nat.zero_add, List.nil_append] at hr
    have hge := grownCap_ge w m 0 e
    obtain ⟨g', h1, h2⟩ := grown_ok (es := es) (N := m) (cap := grownCap w m 0 e) (e := e) (zs := Builtin.zeroCells z.cells (grownCap w m 0 e - m)) hR hfree q3 q4 (by rw [size_zeroCells, hzs]) hge (grownCap_le_maxLen w m 0 e h63) q5 q6
    exact ⟨g', _, _, by rw [hr]; simp, h1, h2⟩

theorem app_core (hR : R c g s a w) {nm : Nat} (hfree : s.H nm = .free) {t u ty e : TypeId} {i : TypeInfo} {z : Value} {es : Nat} (ht : P.underlying t = some (.slice e)) (hu : u = t ∨ P.underlying u = some .string) (hi : P.info? e = some i) (hz : i.zero = some z) (hes : i.size = es) (hzs : z.cells.size = es)
    {vb vx : AV} {ub ux : Value} {str : Bool} (hb : VR g (wset c g s) w vb ub) (hx : VR g (wset c g s) w vx ux) (okb : baseOk s es vb) (okx : srcOk s es str vx) (h63 : srcN vb + srcN vx ≤ maxLen) (hby : (srcN vb + srcN vx) * i.bytes ≤ 140737488355328) :
    ∃ g' v' w', (Builtin.append_ #[t, u] ty #[ub, ux]).run P w = .ok v' w' ∧ R c g' ((s.killO (srcB vb)).putB nm (.cells (srcC s es vb ++ srcC s es vx))) a w' ∧
      VR g' (wset c g' ((s.killO (srcB vb)).putB nm (.cells (srcC s es vb ++ srcC s es vx)))) w' (.sl es nm 0 (srcN vb + srcN vx) (srcN vb + srcN vx)) v' := by
  obtain ⟨news, q1, q2, q3, q4, q5, q6⟩ := src_core (P := P) hR hx okx
  cases vb <;> simp only [baseOk] at okb
  case nils =>
    obtain ⟨ad, rfl⟩ := nils_inv hb
    simp only [srcN, srcC, srcB, FS.killO, Nat.zero_add, List.nil_append] at h63 hby ⊢
    exact app_nil hR hfree ht hu hi hz hes hzs ad q1 q2 q3 q4 q5 q6 h63 hby
  case sl es2 b o n cc =>
    obtain ⟨rfl, rfl, hl, hlive⟩ := okb
    have hne : nm ≠ b := fun h => by subst h; rw [hfree] at hlive; exact hlive
    have hgb : g b ≠ .un := fun h => by
      have := hR.h b; rw [h] at this
      cases hh : s.H b <;> rw [hh] at this hlive <;> first | exact hlive | cases this
    have hfk : (s.putB b .dead).H nm = .free := by rw [FS.H_putB, if_neg fun h => hne h.symm, hfree]
    have hRk := hR.kill hgb
    have hWk : ∀ k, wset c g (s.putB b .dead) k → wset c g s k := wset_putB_dead
    obtain ⟨olds, o1, o2, o3, o4, o5, o6⟩ := src_core (P := P) (str := false) hR hb (x := .sl es2 b 0 n cc) ⟨rfl, rfl, by simpa using hl⟩
    have hvk : ∀ {x : AV} {y : Value}, VR g (wset c g s) w x y → VR g (wset c g (s.putB b .dead)) w x y := fun h => h.mono (Fr.refl _ _) (fun k _ => hWk k) (fun _ _ => rfl)
    simp only [srcN_sl] at h63 hby o1 o2 o3 o4 o6 ⊢
    simp only [srcB, FS.killO]
    rcases sl_inv hb with ⟨k, cap, e', cur, fz, rfl, h1, h2, h3, h4, h5, h6⟩ | ⟨ad, rfl, h1, rfl, rfl⟩
    · have hlen : (olds ++ news).length = (n + srcN vx) * es2 := by rw [List.length_append, o3, q3, Nat.add_mul]
      have hclen : (srcC s es2 (.sl es2 b 0 n cc) ++ srcC s es2 vx).length = (n + srcN vx) * es2 := by rw [List.length_append, o4, q4, Nat.add_mul]
      have h1c : ∀ v ∈ olds ++ news, v.oneCell' = true := fun v hv => (List.mem_append.1 hv).elim (o5 v) (q5 v)
      have hvc : ∀ j, j < (n + srcN vx) * es2 → VR g (wset c g s) w ((srcC s es2 (.sl es2 b 0 n cc) ++ srcC s es2 vx).getD j .any) ((olds ++ news).getD j undef) := fun j hj => by
        by_cases hjn : j < n * es2
        · have := o6 j hjn
          simp only [List.getD, List.getElem?_append_left (show j < (srcC s es2 (.sl es2 b 0 n cc)).length by omega), List.getElem?_append_left (show j < olds.length by omega)] at this ⊢
          exact this
        · have := q6 (j - n * es2) (by rw [Nat.add_mul] at hj; omega)
          simp only [List.getD, List.getElem?_append_right (show (srcC s es2 (.sl es2 b 0 n cc)).length ≤ j by omega), List.getElem?_append_right (show olds.length ≤ j by omega), o3, o4] at this ⊢
          exact this
      by_cases hroom : n + srcN vx ≤ cap
      · -- in place
        have hBR := hR.h b
        rw [h1] at hBR
        have hfz : fz = (0, 0) ∨ cur.size ≤ fz.1 := by
          cases hh : s.H b with
          | cells cs => rw [hh] at hBR; cases hBR with | cells hb' _ _ _ hf => rw [h5] at hb'; cases hb'; exact hf
          | mapb kvs => rw [hh] at hBR; cases hBR with | mapb hb' => rw [h5] at hb'; cases hb'
          | free => rw [hh] at hlive; exact hlive.elim
          | dead => rw [hh] at hlive; exact hlive.elim
        have hmul : (n + srcN vx) * es2 ≤ cap * es2 := Nat.mul_le_mul_right _ hroom
        have hfit : n * i.size + news.length ≤ cur.size := by rw [hes, q3, ← Nat.add_mul]; omega
        have hr := run_append_in (ty := ty) (P := P) ht hu hi k n cap ux (srcN vx) news cur e' fz w q1 h5 hfz (by rw [hes]; exact q2) q5 hroom hfit
        rw [hes] at hr
        have holds : olds = cur.toList.take (n * es2) := by
          have a1 := o2 w rfl
          have a2 := run_firstCells_some (P := P) w es2 n ⟨k, 0, none⟩ n cap (cur.toList.take (n * es2)) (by simp; have := Nat.mul_le_mul_right es2 (Nat.le_trans h2 h3); omega) (by have := row_cells h5 (o := 0) (n := n * es2) (by have := Nat.mul_le_mul_right es2 (Nat.le_trans h2 h3); omega) w rfl; simpa using this)
          rw [a1] at a2
          simpa using a2
        have hsz : (cur.toList.take (n * es2) ++ news ++ cur.toList.drop (n * es2 + news.length)).toArray.size = cur.size := by
          have : n * es2 ≤ cur.size := by have := Nat.mul_le_mul_right es2 (Nat.le_trans h2 h3); omega
          rw [hes] at hfit
          simp; omega
        have hget : ∀ j, j < (n + srcN vx) * es2 → (cur.toList.take (n * es2) ++ news ++ cur.toList.drop (n * es2 + news.length)).toArray.getD j undef = (olds ++ news).getD j undef := fun j hj => by
          rw [← holds]
          simp only [Array.getD_eq_getD_getElem?, List.getD, List.getElem?_toArray]
          rw [List.getElem?_append_left (by omega)]
        have hf := setRow_fr (new := (cur.toList.take (n * es2) ++ news ++ cur.toList.drop (n * es2 + news.length)).toArray) h5 hsz
        have hkw : wset c g s k := .inr ⟨b, hlive, h1⟩
        have hset := hR.setBlock (x := .cells (srcC s es2 (.sl es2 b 0 n cc) ++ srcC s es2 vx)) h1 hlive trivial hf (by
          refine .cells (cur := (cur.toList.take (n * es2) ++ news ++ cur.toList.drop (n * es2 + news.length)).toArray) (e := e') (fz := fz) (setRow_heap w k cur _ e' fz h5) (by omega) (fun j hj => ?_) (fun j hj => ?_) (by rw [hsz]; exact hfz)
          · rw [hget j (by omega)]
            have hj' : j < (olds ++ news).length := by omega
            simp only [List.getD, List.getElem?_eq_getElem hj', Option.getD_some]
            exact h1c _ (List.getElem_mem hj')
          · rw [hget j (by omega)]
            exact (hvc j (by omega)).mono (hf.weak fun i hi => hi ▸ hkw) (fun _ _ h => h) (fun _ _ => rfl))
        have hmv := hset.move (b := b) (b' := nm) (by rw [FS.H_putB, if_pos rfl]; trivial) (by rw [FS.H_putB, if_neg fun h => hne h.symm, hfree])
        have hfs : ((s.putB b (.cells (srcC s es2 (.sl es2 b 0 n cc) ++ srcC s es2 vx))).putB b .dead).putB nm ((s.putB b (.cells (srcC s es2 (.sl es2 b 0 n cc) ++ srcC s es2 vx))).H b) = (s.putB b .dead).putB nm (.cells (srcC s es2 (.sl es2 b 0 n cc) ++ srcC s es2 vx)) := by
          refine fs_ext (fun _ => rfl) fun j => ?_
          simp only [FS.H_putB, if_pos]
          split
          · rfl
          · split <;> rfl
        rw [hfs] at hmv
        refine ⟨_, _, _, hr, hmv, .sl (k := k) (e := e') (fz := fz) (by rw [updG_self]; exact h1) (Nat.le_refl _) hroom h4 (setRow_heap w k cur _ e' fz h5) (by rw [hsz]; exact h6)⟩
      · have hge := grownCap_ge w (n + srcN vx) cap e
        have hr := run_append_more (ty := ty) (P := P) ht hu hi hz (some ⟨k, 0, none⟩) n cap ux (srcN vx) olds news w q1 (by rw [hes]; exact q2) (by rw [hes]; exact fun w' hw => by simpa [Builtin.firstCells] using o2 w' hw) (by omega) (by simp only [maxLen] at h63; omega) (growslice_fits (by omega) hby)
        obtain ⟨g', e1, e2⟩ := grown_ok (es := es2) (N := n + srcN vx) (cap := grownCap w (n + srcN vx) cap e) (e := e) (zs := Builtin.zeroCells z.cells (grownCap w (n + srcN vx) cap e - (n + srcN vx))) hRk hfk hlen hclen (by rw [size_zeroCells, hzs]) hge (grownCap_le_maxLen w _ _ e h63) h1c (fun j hj => hvk (hvc j hj))
        exact ⟨g', _, _, by rw [hr]; simp, e1, e2⟩
    · have hol : olds = [] := List.eq_nil_of_length_eq_zero (by omega)
      have hcl : srcC s es2 (.sl es2 b 0 0 0) = [] := List.eq_nil_of_length_eq_zero (by omega)
      rw [hcl]
      simp only [Nat.zero_add, List.nil_append] at h63 hby ⊢
      exact app_nil hRk hfk ht hu hi hz hes hzs ad q1 q2 q3 q4 q5 (fun j hj => hvk (q6 j hj)) h63 hby
end
end Go.Proofs.Ytblimjilinkmbaa
