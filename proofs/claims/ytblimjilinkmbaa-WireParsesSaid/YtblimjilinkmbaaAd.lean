/- The quiet operations are sound. No conditions but the ones that stand in each. -/
import Derived.Test.YtblimjilinkmbaaAc
namespace Go.Proofs.Ytblimjilinkmbaa
set_option linter.all false
set_option linter.unusedSimpArgs false
open Go.RowKit

def VRs (g : Nat → GM) (W : Nat → Prop) (w : World) : List AV → List Value → Prop
  | [], [] => True
  | x :: xs, v :: vs => VR g W w x v ∧ VRs g W w xs vs
  | _, _ => False
def nameOf : List AV → Option Nat
  | .ptr b _ :: _ => some b
  | .sl _ b _ _ _ :: _ => some b
  | .mp b :: _ => some b
  | _ => none
def blkOf (s : FS) (l : List AV) : Bk :=
  match nameOf l with
  | some b => s.H b
  | none => .free
def BRs (g : Nat → GM) (W : Nat → Prop) (w : World) (l : List AV) (x : Bk) : Prop := ∀ b, nameOf l = some b → BR g W w (g b) x

section
variable {P : Program} {g : Nat → GM} {W : Nat → Prop} {w : World}

theorem VRs.nil_inv {vs : List Value} (h : VRs g W w [] vs) : vs = [] := by cases vs <;> simp_all [VRs]
theorem VRs.cons_inv {x : AV} {xs : List AV} {vs : List Value} (h : VRs g W w (x :: xs) vs) : ∃ v r, vs = v :: r ∧ VR g W w x v ∧ VRs g W w xs r := by
  cases vs with
  | nil => simp [VRs] at h
  | cons v r => exact ⟨v, r, rfl, h.1, h.2⟩
theorem VRs.nil_inv' {xs : List AV} (h : VRs g W w xs []) : xs = [] := by cases xs <;> simp_all [VRs]
theorem VRs.cons_inv' {xs : List AV} {v : Value} {r : List Value} (h : VRs g W w xs (v :: r)) : ∃ x ys, xs = x :: ys ∧ VR g W w x v ∧ VRs g W w ys r := by
  cases xs with
  | nil => simp [VRs] at h
  | cons x ys => exact ⟨x, ys, rfl, h.1, h.2⟩
theorem VRs.one {xs : List AV} {v : Value} (h : VRs g W w xs [v]) : ∃ x, xs = [x] ∧ VR g W w x v := by
  obtain ⟨x, ys, rfl, h1, h2⟩ := h.cons_inv'
  obtain rfl := h2.nil_inv'
  exact ⟨x, rfl, h1⟩
theorem VRs.two {xs : List AV} {v u : Value} (h : VRs g W w xs [v, u]) : ∃ x y, xs = [x, y] ∧ VR g W w x v ∧ VR g W w y u := by
  obtain ⟨x, ys, rfl, h1, h2⟩ := h.cons_inv'
  obtain ⟨y, rfl, h3⟩ := h2.one
  exact ⟨x, y, rfl, h1, h3⟩
theorem VRs.three {xs : List AV} {v u t : Value} (h : VRs g W w xs [v, u, t]) : ∃ x y z, xs = [x, y, z] ∧ VR g W w x v ∧ VR g W w y u ∧ VR g W w z t := by
  obtain ⟨x, ys, rfl, h1, h2⟩ := h.cons_inv'
  obtain ⟨y, z, rfl, h3⟩ := h2.two
  exact ⟨x, y, z, rfl, h1, h3⟩
theorem VRs.length : ∀ {xs : List AV} {vs : List Value}, VRs g W w xs vs → xs.length = vs.length
  | [], [], _ => rfl
  | _ :: xs, _ :: vs, h => by simp [VRs.length h.2]
  | [], _ :: _, h => h.elim
  | _ :: _, [], h => h.elim
theorem VRs.get : ∀ {xs : List AV} {vs : List Value} (_ : VRs g W w xs vs) (j : Nat) (_ : j < xs.length), VR g W w (xs.getD j .any) (vs.getD j undef)
  | x :: xs, v :: vs, h, 0, _ => h.1
  | x :: xs, v :: vs, h, j + 1, hj => by
    have := VRs.get h.2 j (by simpa using hj)
    simpa using this
  | [], _, _, _, hj => absurd hj (by simp)
  | _ :: _, [], h, _, _ => h.elim

/-! ### Rows of cells -/
theorem getD_lt {cs : List AV} {j : Nat} (h : j < cs.length) : cs.getD j .any = cs[j] := by simp [List.getD, h]
theorem wr_sc {k : SK} {cs : List AV} {us : Nat → Value} (hv : ∀ j, j < cs.length → VR g W w (cs.getD j .any) (us j)) {off : Nat} (h : wrOk (.sc k) cs off) : VR g W w (wr (.sc k) cs off) (us off) := by
  exact (hv off h.1).okS h.2
theorem wr_ag {n : Nat} {cs : List AV} {us : Nat → Value} (h1 : ∀ j, j < cs.length → (us j).oneCell' = true) (hv : ∀ j, j < cs.length → VR g W w (cs.getD j .any) (us j)) {off : Nat} (h : wrOk (.ag n) cs off) (vs : Array Value) (hn : vs.size = n) (hvs : ∀ j, j < n → vs.getD j undef = us (off + j)) : VR g W w (wr (.ag n) cs off) (.agg vs) := by
  have hl : ((cs.drop off).take n).length = n := by simp only [wrOk] at h; simp; omega
  have h' : off + n ≤ cs.length := h
  refine .agg (by rw [hl, hn]) (fun j hj => ?_) fun j hj => ?_
  · rw [hl] at hj; rw [hvs j hj]; exact h1 _ (by omega)
  · rw [hl] at hj
    rw [hvs j hj]
    have e : ((cs.drop off).take n).getD j .any = cs.getD (off + j) .any := by
      simp only [List.getD, List.getElem?_take, List.getElem?_drop, if_pos hj]
    rw [e]
    exact hv _ (by omega)

theorem add_lit (k o j : Nat) : (⟨k, o, none⟩ : Addr).add j = ⟨k, o + j, none⟩ := by unfold Addr.add; split <;> simp_all

theorem tyOf_ag {t : TypeId} {n : Nat} (h : tyOf P t = some (.ag n)) : sizeT P t = some n ∧ ((∃ fs, P.underlying t = some (.struct fs)) ∨ ∃ m e, P.underlying t = some (.array m e)) := by
  unfold tyOf at h
  split at h
  · rename_i fs hu
    cases hs : sizeT P t <;> rw [hs] at h <;> simp at h
    exact ⟨by rw [h], .inl ⟨_, hu⟩⟩
  · rename_i m e hu
    cases hs : sizeT P t <;> rw [hs] at h <;> simp at h
    exact ⟨by rw [h], .inr ⟨_, _, hu⟩⟩
  · split at h
    · cases hs : skOf P t <;> rw [hs] at h <;> simp at h
    · cases h
theorem tyOf_sc {t : TypeId} {k : SK} (h : tyOf P t = some (.sc k)) : sizeT P t = some 1 ∧ ∃ d, P.underlying t = some d ∧ (∀ fs, d ≠ .struct fs) ∧ (∀ m e, d ≠ .array m e) := by
  unfold tyOf at h
  split at h
  · cases hs : sizeT P t <;> rw [hs] at h <;> simp at h
  · cases hs : sizeT P t <;> rw [hs] at h <;> simp at h
  · rename_i h1 h2
    split at h
    · rename_i h3
      refine ⟨h3, ?_⟩
      cases hu : P.underlying t with
      | none => unfold skOf at h; rw [hu] at h; simp at h
      | some d => exact ⟨d, rfl, fun fs e => h1 fs (by rw [hu, e]), fun m e e' => h2 m e (by rw [hu, e'])⟩
    · cases h
theorem run_isAgg_ag {t : TypeId} {n : Nat} (h : tyOf P t = some (.ag n)) : (isAgg t).run P w = .ok true w := by
  obtain ⟨_, ⟨fs, hu⟩ | ⟨m, e, hu⟩⟩ := tyOf_ag h <;> simp [isAgg, run_underlying hu]
theorem run_isAgg_sc {t : TypeId} {k : SK} (h : tyOf P t = some (.sc k)) : (isAgg t).run P w = .ok false w := by
  obtain ⟨_, d, hu, h1, h2⟩ := tyOf_sc h
  simp only [isAgg, Sem.run_bind, run_underlying hu, Result.andThen_ok]
  cases d <;> first | rfl | exact absurd rfl (h1 _) | exact absurd rfl (h2 _ _)
theorem run_sizeT {t : TypeId} {n : Nat} (h : sizeT P t = some n) : (sizeOf t).run P w = .ok n w := by
  unfold sizeT at h
  cases hi : P.info? t with
  | none => rw [hi] at h; simp at h
  | some i => rw [hi] at h; simp at h; simp [sizeOf, typeInfo, hi, h]

/-- A load of a typed thing out of a row that is known. -/
theorem run_load_row {t : TypeId} {ty : TY} (ht : tyOf P t = some ty) {k o : Nat} {cs : List AV} {us : Nat → Value} (hc : ∀ j, j < cs.length → cellOf w k (o + j) = some (us j)) (h1 : ∀ j, j < cs.length → (us j).oneCell' = true)
    (hv : ∀ j, j < cs.length → VR g W w (cs.getD j .any) (us j)) {off : Nat} (h : wrOk ty cs off) :
    ∃ v, (Instr.loadAt t (.pointer (some ⟨k, o + off, none⟩))).run P w = .ok v w ∧ VR g W w (wr ty cs off) v := by
  cases ty with
  | sc q =>
    refine ⟨us off, ?_, wr_sc hv h⟩
    have h0 : w.cell? ⟨k, o + off, none⟩ = some (us off) := hc off h.1
    simp [Instr.loadAt, Instr.sureAddr, loadVar, run_isAgg_sc ht, h0]
  | ag n =>
    obtain ⟨hs, _⟩ := tyOf_ag ht
    have h' : off + n ≤ cs.length := h
    refine ⟨.agg ((List.range n).map fun j => us (off + j)).toArray, ?_, wr_ag h1 hv h _ (by simp) fun j hj => by simp [Array.getD, hj]⟩
    have hl := run_loadCells (P := P) w ⟨k, o + off, none⟩ n (fun j => us (off + j)) (fun j hj => by rw [add_lit, Nat.add_assoc]; exact hc _ (by omega))
    simp [Instr.loadAt, Instr.sureAddr, loadVar, run_isAgg_ag ht, run_sizeT hs, hl]

theorem run_part_row {t : TypeId} {ty : TY} (ht : tyOf P t = some ty) {vs : Array Value} {cs : List AV} (hs : vs.size = cs.length) (h1 : ∀ j, j < cs.length → (vs.getD j undef).oneCell' = true)
    (hv : ∀ j, j < cs.length → VR g W w (cs.getD j .any) (vs.getD j undef)) {off : Nat} (h : wrOk ty cs off) : ∃ v, (part t vs off).run P w = .ok v w ∧ VR g W w (wr ty cs off) v := by
  cases ty with
  | sc q =>
    refine ⟨vs.getD off undef, ?_, wr_sc hv h⟩
    have h0 : off < vs.size := by rw [hs]; exact h.1
    simp [part, run_isAgg_sc ht, h0, Array.getD]
  | ag m =>
    obtain ⟨hs', _⟩ := tyOf_ag ht
    have h' : off + m ≤ cs.length := h
    refine ⟨.agg (vs.extract off (off + m)), ?_, wr_ag h1 hv h _ (by simp; omega) fun j hj => ?_⟩
    · simp [part, run_isAgg_ag ht, run_sizeT hs']
    · have : off + j < vs.size := by omega
      simp only [Array.getD, Array.size_extract, this, dif_pos]
      rw [dif_pos (by omega)]
      simp

theorem block_cells {m : GM} {cs : List AV} (h : BR g W w m (.cells cs)) (hne : 0 < cs.length) : ∃ (k : Nat) (us : Nat → Value), m = .re k ∧ (∀ j, j < cs.length → cellOf w k (0 + j) = some (us j)) ∧ (∀ j, j < cs.length → (us j).oneCell' = true) ∧ ∀ j, j < cs.length → VR g W w (cs.getD j .any) (us j) := by
  cases h with
  | ph => simp at hne
  | cells hb hl h1 hv hf =>
    rename_i k cur e fz
    refine ⟨k, fun j => cur.getD j undef, rfl, fun j hj => ?_, h1, hv⟩
    have hj' : j < cur.size := by omega
    have := cell_of_row w k (0 + j) cur e fz hb
    unfold cellOf
    rw [this]
    simp [Array.getD, hj']
theorem wrOk_pos {ty : TY} {cs : List AV} {off : Nat} (h : wrOk ty cs off) (hne : ¬ 0 < cs.length) : ty = .ag 0 ∧ cs = [] ∧ off = 0 := by
  have hl : cs.length = 0 := by omega
  cases ty with
  | sc k => have := h.1; omega
  | ag n => have h' : off + n ≤ cs.length := h; exact ⟨by congr; omega, List.eq_nil_of_length_eq_zero hl, by omega⟩
end
end Go.Proofs.Ytblimjilinkmbaa
