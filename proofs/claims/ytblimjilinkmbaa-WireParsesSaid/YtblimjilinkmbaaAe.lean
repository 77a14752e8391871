/- The quiet operations are sound, operation by operation. No conditions but the ones that stand in each. -/
import Derived.Test.YtblimjilinkmbaaAd
import Derived.Lib.Strings
namespace Go.Proofs.Ytblimjilinkmbaa
set_option linter.all false
set_option linter.unusedSimpArgs false
open Go.RowKit

section
variable {P : Program} {g : Nat → GM} {W : Nat → Prop} {w : World}

theorem run_guard {op : BinOp} {t : TypeId} {x y : Operand} {a b : Value} (h : a.oneCell' = true) (h2 : a ≠ .nilIface) : (eqGuard op t x y a b).run P w = .ok () w := by
  cases op <;> cases a <;> simp_all [eqGuard, Value.oneCell'] <;> rfl

theorem run_guardI {op : BinOp} {t : TypeId} {x y : Operand} (k : IntKind) (n : Int) (b : Value) : (eqGuard op t x y (.int k n) b).run P w = .ok () w := run_guard rfl (by simp)
theorem run_guardB {op : BinOp} {t : TypeId} {x y : Operand} (n : Bool) (b : Value) : (eqGuard op t x y (.bool n) b).run P w = .ok () w := run_guard rfl (by simp)
theorem run_guardS {op : BinOp} {t : TypeId} {x y : Operand} (n : ByteArray) (b : Value) : (eqGuard op t x y (.string n) b).run P w = .ok () w := run_guard rfl (by simp)
theorem run_guardP {op : BinOp} {t : TypeId} {x y : Operand} (n : Option Addr) (b : Value) : (eqGuard op t x y (.pointer n) b).run P w = .ok () w := run_guard rfl (by simp)
theorem bin_ar {op : BinOp} (h : op = .add ∨ op = .sub ∨ op = .mul) (t : TypeId) (k : IntKind) (m n : Int) : binOp op t (.int k m) (.int k n) = pure (.int k (k.wrap (arI op m n))) := by
  rcases h with rfl | rfl | rfl <;> simp [binOp, Op.intArith, arI]
theorem bin_dv {op : BinOp} (h : op = .quo ∨ op = .rem) (t : TypeId) (k : IntKind) (m n : Int) (h0 : n ≠ 0) : binOp op t (.int k m) (.int k n) = pure (.int k (dvI op k m n)) := by
  rcases h with rfl | rfl <;> simp [binOp, Op.intDiv, dvI, h0]
theorem bin_bt {op : BinOp} (h : op = .and ∨ op = .or ∨ op = .xor ∨ op = .andNot) (t : TypeId) (k : IntKind) (m n : Int) : binOp op t (.int k m) (.int k n) = pure (.int k (bits op k m n)) := by
  rcases h with rfl | rfl | rfl | rfl <;> simp [binOp, Op.intBits, bits]
theorem bin_sh {op : BinOp} (h : op = .shl ∨ op = .shr) (t : TypeId) (k j : IntKind) (m n : Int) (h0 : 0 ≤ n) : binOp op t (.int k m) (.int j n) = pure (.int k (shI op k m n)) := by
  have h1 : ¬ n < 0 := by omega
  rcases h with rfl | rfl <;> simp [binOp, Op.shift, shI, h1]
theorem bin_cm {op : BinOp} (h : op = .eql ∨ op = .neq ∨ op = .lss ∨ op = .leq ∨ op = .gtr ∨ op = .geq) (t : TypeId) (k : IntKind) (m n : Int) : binOp op t (.int k m) (.int k n) = pure (.bool (cmI op m n)) := by
  rcases h with rfl | rfl | rfl | rfl | rfl | rfl <;> simp [binOp, Op.intCmp, cmI]

theorem run_eqP {t e : TypeId} (hu : P.underlying t = some (.pointer e)) (p : Option Addr) : (binOp .eql t (.pointer p) (.pointer none)).run P w = .ok (.bool p.isNone) w := by
  rw [run_eql_pointer_nil w t p (by rw [hu]; simp [Program.pointee, hu])]
theorem run_neP {t e : TypeId} (hu : P.underlying t = some (.pointer e)) (p : Option Addr) : (binOp .neq t (.pointer p) (.pointer none)).run P w = .ok (.bool (!p.isNone)) w := by
  rw [run_neq_pointer_nil w t p (by rw [hu]; simp [Program.pointee, hu])]
theorem toList_mk (l : List UInt8) : (⟨l.toArray⟩ : ByteArray).toList = l := by rw [Lib.toList_data]
theorem append_mk (l m : List UInt8) : (⟨l.toArray⟩ : ByteArray) ++ ⟨m.toArray⟩ = ⟨(l ++ m).toArray⟩ := by
  apply ByteArray.ext
  simp [ByteArray.data_append]
theorem size_mk (l : List UInt8) : (⟨l.toArray⟩ : ByteArray).size = l.length := by simp [ByteArray.size]

theorem bin_sound {op : BinOp} {t : TypeId} {x y : Operand} {q : Q1} {xs : List Operand} (hel : elabBin P op t x y = some (q, xs)) (ρ : Operand → Value) {as : List AV} (ha : VRs g W w as (xs.map ρ)) {blk : Bk}
    (hp : qp q as blk) (hy : ∀ v, y = .const v → ρ y = v) : ∃ v, (do eqGuard op t x y (ρ x) (ρ y); binOp op t (ρ x) (ρ y) : Sem Value).run P w = .ok v w ∧ VR g W w (qv q as blk) v := by
  unfold elabBin at hel
  split at hel
  · rename_i k hu
    have two : ∀ q', some (q', [x, y]) = some (q, xs) → ∃ a b, as = [a, b] ∧ q = q' ∧ VR g W w a (ρ x) ∧ VR g W w b (ρ y) := by
      intro q' h
      simp at h
      obtain ⟨rfl, rfl⟩ := h
      obtain ⟨a, b, rfl, h1, h2⟩ := VRs.two (by simpa using ha)
      exact ⟨a, b, rfl, rfl, h1, h2⟩
    split at hel
    all_goals
      obtain ⟨a, b, rfl, rfl, h1, h2⟩ := two _ hel
      simp only [qp] at hp
    · rw [h1.isI hp.1, h2.isI hp.2]; exact ⟨_, by simp only [Sem.run_bind, run_guardI, Result.andThen_ok, bin_ar (.inl rfl)]; rfl, .int _ _⟩
    · rw [h1.isI hp.1, h2.isI hp.2]; exact ⟨_, by simp only [Sem.run_bind, run_guardI, Result.andThen_ok, bin_ar (.inr (.inl rfl))]; rfl, .int _ _⟩
    · rw [h1.isI hp.1, h2.isI hp.2]; exact ⟨_, by simp only [Sem.run_bind, run_guardI, Result.andThen_ok, bin_ar (.inr (.inr rfl))]; rfl, .int _ _⟩
    · rw [h1.isI hp.1, h2.isI hp.2.1]; exact ⟨_, by simp only [Sem.run_bind, run_guardI, Result.andThen_ok, bin_dv (.inl rfl) _ _ _ _ hp.2.2]; rfl, .int _ _⟩
    · rw [h1.isI hp.1, h2.isI hp.2.1]; exact ⟨_, by simp only [Sem.run_bind, run_guardI, Result.andThen_ok, bin_dv (.inr rfl) _ _ _ _ hp.2.2]; rfl, .int _ _⟩
    · rw [h1.isI hp.1, h2.isI hp.2]; exact ⟨_, by simp only [Sem.run_bind, run_guardI, Result.andThen_ok, bin_bt (.inl rfl)]; rfl, .int _ _⟩
    · rw [h1.isI hp.1, h2.isI hp.2]; exact ⟨_, by simp only [Sem.run_bind, run_guardI, Result.andThen_ok, bin_bt (.inr (.inl rfl))]; rfl, .int _ _⟩
    · rw [h1.isI hp.1, h2.isI hp.2]; exact ⟨_, by simp only [Sem.run_bind, run_guardI, Result.andThen_ok, bin_bt (.inr (.inr (.inl rfl)))]; rfl, .int _ _⟩
    · rw [h1.isI hp.1, h2.isI hp.2]; exact ⟨_, by simp only [Sem.run_bind, run_guardI, Result.andThen_ok, bin_bt (.inr (.inr (.inr rfl)))]; rfl, .int _ _⟩
    · obtain ⟨j, hj⟩ := h2.isN hp.2.1
      rw [h1.isI hp.1, hj]; exact ⟨_, by simp only [Sem.run_bind, run_guardI, Result.andThen_ok, bin_sh (.inl rfl) _ _ _ _ _ hp.2.2]; rfl, .int _ _⟩
    · obtain ⟨j, hj⟩ := h2.isN hp.2.1
      rw [h1.isI hp.1, hj]; exact ⟨_, by simp only [Sem.run_bind, run_guardI, Result.andThen_ok, bin_sh (.inr rfl) _ _ _ _ _ hp.2.2]; rfl, .int _ _⟩
    · rw [h1.isI hp.1, h2.isI hp.2]
      have hop : op = .eql ∨ op = .neq ∨ op = .lss ∨ op = .leq ∨ op = .gtr ∨ op = .geq := by cases op <;> simp_all
      exact ⟨_, by simp only [Sem.run_bind, run_guardI, Result.andThen_ok, bin_cm hop]; rfl, .bool _⟩
  · rename_i hu
    split at hel
    · simp at hel
      obtain ⟨rfl, rfl⟩ := hel
      obtain ⟨a, b, rfl, h1, h2⟩ := VRs.two (by simpa using ha)
      rw [h1.isB hp.1, h2.isB hp.2]
      exact ⟨.bool (asB a == asB b), by simp only [Sem.run_bind, run_guardB, Result.andThen_ok, run_eql_bool _ _ _ _ hu], by simp only [qv, Bool.false_bne]; exact .bool _⟩
    · simp at hel
      obtain ⟨rfl, rfl⟩ := hel
      obtain ⟨a, b, rfl, h1, h2⟩ := VRs.two (by simpa using ha)
      rw [h1.isB hp.1, h2.isB hp.2]
      exact ⟨.bool (!(asB a == asB b)), by simp only [Sem.run_bind, run_guardB, Result.andThen_ok, run_neq_bool _ _ _ _ hu], by simp only [qv, Bool.true_bne]; exact .bool _⟩
    · cases hel
  · rename_i hu
    split at hel
    · simp at hel
      obtain ⟨rfl, rfl⟩ := hel
      obtain ⟨a, b, rfl, h1, h2⟩ := VRs.two (by simpa using ha)
      rw [h1.isS hp.1, h2.isS hp.2.1]
      have hlen := hp.2.2
      refine ⟨.string ⟨(asS a ++ asS b).toArray⟩, ?_, .str _⟩
      simp only [Sem.run_bind, run_guardS, Result.andThen_ok, binOp_string_add, Op.stringOp, size_mk, append_mk]
      rw [if_neg (by simp [IntKind.max, IntKind.signed, IntKind.bits]; omega)]
      rfl
    · simp at hel
      obtain ⟨rfl, rfl⟩ := hel
      obtain ⟨a, b, rfl, h1, h2⟩ := VRs.two (by simpa using ha)
      rw [h1.isS hp.1, h2.isS hp.2]
      exact ⟨.bool (asS a == asS b), by simp only [Sem.run_bind, run_guardS, Result.andThen_ok, binOp_string_eql, toList_mk, Sem.run_pure], by simp only [qv, Bool.false_bne]; exact .bool _⟩
    · simp at hel
      obtain ⟨rfl, rfl⟩ := hel
      obtain ⟨a, b, rfl, h1, h2⟩ := VRs.two (by simpa using ha)
      rw [h1.isS hp.1, h2.isS hp.2]
      exact ⟨.bool (!(asS a == asS b)), by simp only [Sem.run_bind, run_guardS, Result.andThen_ok, binOp_string_neq, toList_mk, Sem.run_pure], by simp only [qv, Bool.true_bne]; exact .bool _⟩
    · cases hel
  · rename_i e hu
    have ptr : ∀ {a : AV}, VR g W w a (ρ x) → (qp (.nilP false) [a] blk ∨ qp (.nilP true) [a] blk) → ∃ p : Option Addr, ρ x = .pointer p ∧ ∀ ne, qv (.nilP ne) [a] blk = .bool (if p.isNone then !ne else ne) := by
      intro a h1 hq
      generalize ρ x = rx at h1
      cases h1 with
      | ptr => exact ⟨_, rfl, fun ne => by simp [qv]⟩
      | xp => exact ⟨_, rfl, fun ne => by simp [qv]⟩
      | lit =>
        cases rx <;> simp only [qp, or_self] at hq
        rename_i p
        cases p <;> simp only [qp, or_self] at hq
        exact ⟨_, rfl, fun ne => by simp [qv]⟩
      | _ => simp [qp] at hq
    split at hel
    · simp at hel
      obtain ⟨rfl, rfl⟩ := hel
      obtain ⟨a, rfl, h1⟩ := VRs.one (by simpa using ha)
      obtain ⟨p, e1, e2⟩ := ptr h1 (.inl hp)
      refine ⟨.bool p.isNone, ?_, by rw [e2]; cases p <;> exact .bool _⟩
      rw [hy _ rfl, e1]
      simp only [Sem.run_bind, run_guardP, Result.andThen_ok, run_eqP hu]
    · simp at hel
      obtain ⟨rfl, rfl⟩ := hel
      obtain ⟨a, rfl, h1⟩ := VRs.one (by simpa using ha)
      obtain ⟨p, e1, e2⟩ := ptr h1 (.inr hp)
      refine ⟨.bool (!p.isNone), ?_, by rw [e2]; cases p <;> exact .bool _⟩
      rw [hy _ rfl, e1]
      simp only [Sem.run_bind, run_guardP, Result.andThen_ok, run_neP hu]
    · cases hel
  · cases hel

/-! ### All quiet operations -/
theorem run_v {s : Sem Value} {v : Value} {w' : World} (h : s.run P w = .ok v w') : (do pure (.value (← s)) : Sem Next).run P w = .ok (.value v) w' := by simp [h]

theorem loOf_sound {lo hi : Bool} {r : List AV} (hb : bdOk lo hi r) {vs : List Value} (hv : VRs g W w r vs) :
    (lo = true → ∃ k, vs[0]? = some (.int k (loOf lo r))) ∧ (lo = false → loOf lo r = 0) ∧ (∀ n, hi = true → ∃ k, vs[if lo then 1 else 0]? = some (.int k (hiOf lo hi n r))) ∧ (∀ n, hi = false → hiOf lo hi n r = n) := by
  match r, hb with
  | [], ⟨h1, h2⟩ => subst h1; subst h2; exact ⟨(fun h => by cases h), fun _ => rfl, (fun _ h => by cases h), fun _ _ => rfl⟩
  | [x], ⟨h1, h2⟩ =>
    obtain ⟨v, r', rfl, h3, h4⟩ := hv.cons_inv
    obtain rfl := h4.nil_inv
    have e := h3.isI h1
    cases lo <;> cases hi <;> simp at h2 <;> simp [loOf, hiOf, e]
  | [x, y], ⟨h1, h2, h3, h4⟩ =>
    subst h1; subst h2
    obtain ⟨v, r', rfl, h5, h6⟩ := hv.cons_inv
    obtain ⟨u, r'', rfl, h7, h8⟩ := h6.cons_inv
    have e := h5.isI h3
    have e' := h7.isI h4
    simp [loOf, hiOf, e, e']

theorem run_bounds {isSlice : Bool} {len cap : Nat} {lo hi : Option Operand} {ρ : Operand → Value} {r : List AV} (hb : bdOk lo.isSome hi.isSome r) (hv : VRs g W w r ((lo.toList ++ hi.toList).map ρ))
    (h0 : 0 ≤ loOf lo.isSome r) (h1 : loOf lo.isSome r ≤ hiOf lo.isSome hi.isSome len r) (h2 : hiOf lo.isSome hi.isSome len r ≤ cap) :
    (Instr.sliceBounds isSlice len cap (lo.map ρ) (hi.map ρ) none).run P w = .ok ((loOf lo.isSome r).toNat, (hiOf lo.isSome hi.isSome len r).toNat, cap) w := by
  obtain ⟨a1, a2, a3, a4⟩ := loOf_sound hb hv
  generalize loOf lo.isSome r = L at *
  replace a3 := a3 len
  replace a4 := a4 len
  generalize hiOf lo.isSome hi.isSome len r = H at *
  have hsb : ∀ (k : IntKind) (i : Int) (y : Nat) (code : BoundsCode), 0 ≤ i → i ≤ y → (Instr.sliceBound (.int k i) y code).run P w = .ok i.toNat w := fun k i y code h h' => by
    simp [Instr.sliceBound, asIntOf, h, h']
  have hH : (H.toNat : Int) = H := by omega
  cases lo with
  | none =>
    have e := a2 rfl
    subst e
    cases hi with
    | none => have e := a4 rfl; subst e; simp [Instr.sliceBounds]
    | some y =>
      obtain ⟨k, e⟩ := a3 rfl
      simp at e
      simp [Instr.sliceBounds, e, hsb k H cap _ h1 h2]
  | some x =>
    obtain ⟨k, e⟩ := a1 rfl
    simp at e
    cases hi with
    | none => have e' := a4 rfl; subst e'; simp [Instr.sliceBounds, e, hsb k L len _ h0 h1]
    | some y =>
      obtain ⟨k', e'⟩ := a3 rfl
      simp at e'
      simp [Instr.sliceBounds, e, e', hsb k' H cap _ (by omega) h2, hsb k L H.toNat _ h0 (by omega)]

theorem foldSet (off : Nat) : ∀ (l : List Value) (k : Nat) (cs : Array Value), ((l.zipIdx k).foldl (fun cs (p : Value × Nat) => cs.setIfInBounds (off + p.2) p.1) cs).size = cs.size ∧
    ∀ j, ((l.zipIdx k).foldl (fun cs (p : Value × Nat) => cs.setIfInBounds (off + p.2) p.1) cs).getD j undef = if off + k ≤ j ∧ j < off + k + l.length ∧ j < cs.size then l.getD (j - (off + k)) undef else cs.getD j undef
  | [], k, cs => by
    refine ⟨rfl, fun j => ?_⟩
    rw [if_neg (by simp; omega)]
    rfl
  | v :: l, k, cs => by
    obtain ⟨h1, h2⟩ := foldSet off l (k + 1) (cs.setIfInBounds (off + k) v)
    simp only [List.zipIdx_cons, List.foldl_cons]
    refine ⟨by rw [h1]; simp, fun j => ?_⟩
    rw [h2 j]
    simp only [Array.size_setIfInBounds, List.length_cons]
    by_cases hj : j = off + k
    · subst hj
      rw [if_neg (by omega)]
      by_cases hs : off + k < cs.size
      · rw [if_pos (by omega)]; simp [Array.getD, hs]
      · rw [if_neg (by omega)]; simp [Array.getD, hs]
    · have e : (cs.setIfInBounds (off + k) v).getD j undef = cs.getD j undef := by
        simp only [Array.getD_eq_getD_getElem?, Array.getElem?_setIfInBounds]
        rw [if_neg (fun h => hj h.symm)]
      rw [e]
      by_cases hc : off + (k + 1) ≤ j ∧ j < off + (k + 1) + l.length ∧ j < cs.size
      · rw [if_pos hc, if_pos (by omega)]
        have : j - (off + k) = (j - (off + (k + 1))) + 1 := by omega
        rw [this]; simp
      · rw [if_neg hc, if_neg (by omega)]

theorem splc_len {cs vs : List AV} {off : Nat} (ho : off + vs.length ≤ cs.length) : (splc cs off vs).length = cs.length := by unfold splc; simp; omega
theorem splc_get {cs vs : List AV} {off : Nat} (ho : off + vs.length ≤ cs.length) (j : Nat) : (splc cs off vs).getD j .any = if off ≤ j ∧ j < off + vs.length then vs.getD (j - off) .any else cs.getD j .any := by
  unfold splc
  simp only [List.getD]
  by_cases hlt : j < off
  · rw [if_neg (by omega), List.append_assoc, List.getElem?_append_left (by simp; omega), List.getElem?_take, if_pos hlt]
  · by_cases hlt2 : j < off + vs.length
    · rw [if_pos (by omega), List.getElem?_append_left (by simp; omega), List.getElem?_append_right (by simp; omega)]
      simp only [List.length_take]
      rw [show min off cs.length = off by omega]
    · rw [if_neg (by omega), List.getElem?_append_right (by simp; omega), List.getElem?_drop]
      simp only [List.length_append, List.length_take]
      rw [show off + vs.length + (j - (min off cs.length + vs.length)) = j by omega]
/-- A row that is known, a piece of it written over. -/
theorem splc_ok {cs : List AV} {cells : Array Value} (hs : cells.size = cs.length) (h1 : ∀ j, j < cs.length → (cells.getD j undef).oneCell' = true) (h : ∀ j, j < cs.length → VR g W w (cs.getD j .any) (cells.getD j undef))
    {vs : List AV} {us : Array Value} (hu : us.size = vs.length) (hu1 : ∀ j, j < vs.length → (us.getD j undef).oneCell' = true) (hv : ∀ j, j < vs.length → VR g W w (vs.getD j .any) (us.getD j undef)) {off : Nat} (ho : off + vs.length ≤ cs.length)
    {cells' : Array Value} (hs' : cells'.size = cells.size) (hc : ∀ j, cells'.getD j undef = if off ≤ j ∧ j < off + us.size ∧ j < cells.size then us.getD (j - off) undef else cells.getD j undef) :
    cells'.size = (splc cs off vs).length ∧ (∀ j, j < (splc cs off vs).length → (cells'.getD j undef).oneCell' = true) ∧ ∀ j, j < (splc cs off vs).length → VR g W w ((splc cs off vs).getD j .any) (cells'.getD j undef) := by
  have hl : (splc cs off vs).length = cs.length := by unfold splc; simp; omega
  refine ⟨by rw [hl, hs', hs], fun j hj => ?_, fun j hj => ?_⟩
  · rw [hl] at hj
    rw [hc]
    split
    · exact hu1 _ (by omega)
    · exact h1 _ hj
  · rw [hl] at hj
    rw [hc]
    rw [splc_get ho]
    by_cases hc' : off ≤ j ∧ j < off + vs.length
    · rw [if_pos hc', if_pos (by omega)]; exact hv _ (by omega)
    · rw [if_neg hc', if_neg (by omega)]; exact h j hj

theorem set_splice {cs : List AV} {off : Nat} {x : AV} (h : off < cs.length) : cs.set off x = splc cs off [x] := by
  apply List.ext_getElem?
  intro j
  unfold splc
  rw [List.getElem?_set]
  by_cases hlt : j < off
  · rw [if_neg (by omega), List.append_assoc, List.getElem?_append_left (by simp; omega), List.getElem?_take, if_pos hlt]
  · by_cases he : off = j
    · subst he
      rw [if_pos rfl, if_pos h, List.getElem?_append_left (by simp; omega), List.getElem?_append_right (by simp; omega)]
      simp [Nat.min_eq_left (Nat.le_of_lt h)]
    · rw [if_neg he, List.getElem?_append_right (by simp; omega), List.getElem?_drop]
      simp only [List.length_append, List.length_take, List.length_singleton]
      congr 1; omega
theorem cells_one {v : Value} (h : v.oneCell' = true) : v.cells = #[v] := by cases v <;> simp_all [Value.cells, Value.oneCell']
theorem one_agg {vs : List AV} : ¬ one (.agg vs) := fun h => h
theorem bldOk_sc {n off m : Nat} {ps : List (Nat × Nat)} {x : AV} {r : List AV} (h : ∀ vs, x ≠ .agg vs) (hb : bldOk n ((off, m) :: ps) (x :: r)) : one x ∧ m = 1 ∧ off < n ∧ bldOk n ps r := by
  cases x <;> first | exact absurd rfl (h _) | exact hb
theorem bldC_sc {cs : List AV} {off m : Nat} {ps : List (Nat × Nat)} {x : AV} {r : List AV} (h : ∀ vs, x ≠ .agg vs) : bldC cs ((off, m) :: ps) (x :: r) = bldC (cs.set off x) ps r := by
  cases x <;> first | exact absurd rfl (h _) | rfl

theorem fill_ok {place : Nat → Option (Nat × Nat)} : ∀ (ps : List (Nat × Nat)) (is : List Nat) (_ : is.map place = ps.map some) {as : List AV} {vs : List Value} (_ : VRs g W w as vs) (_ : is.length = vs.length) {cs : List AV} {cells : Array Value}
    (_ : bldOk cs.length ps as) (_ : cells.size = cs.length) (_ : ∀ j, j < cs.length → (cells.getD j undef).oneCell' = true) (_ : ∀ j, j < cs.length → VR g W w (cs.getD j .any) (cells.getD j undef)),
    ∃ cells', Instr.fill place cells (is.zip vs) = some cells' ∧ VR g W w (.agg (bldC cs ps as)) (.agg cells') := by
  intro ps
  induction ps with
  | nil =>
    intro is his as vs hv hl cs cells hb hs h1 h
    obtain rfl : is = [] := by simpa using his
    obtain rfl : vs = [] := by simpa using hl.symm
    obtain rfl := hv.nil_inv'
    exact ⟨cells, rfl, .agg hs h1 h⟩
  | cons p ps ih =>
    intro is his as vs hv hl cs cells hb hs h1 h
    obtain ⟨off, m⟩ := p
    cases is with
    | nil => simp at his
    | cons i is =>
      cases vs with
      | nil => simp at hl
      | cons v vs =>
        obtain ⟨x, as', rfl, hx, hv'⟩ := hv.cons_inv'
        simp only [List.map_cons, List.cons.injEq] at his
        have hl' : is.length = vs.length := by simpa using hl
        -- the piece's cells, as abstract and as real ones
        have piece : ∃ (pv : List AV), v.cells.size = m ∧ pv.length = m ∧ off + m ≤ cs.length ∧ bldOk cs.length ps as' ∧ (∀ j, j < pv.length → (v.cells.getD j undef).oneCell' = true) ∧ (∀ j, j < pv.length → VR g W w (pv.getD j .any) (v.cells.getD j undef)) ∧
            bldC cs ((off, m) :: ps) (x :: as') = bldC (splc cs off pv) ps as' := by
          by_cases hag : ∃ vs2, x = .agg vs2
          · obtain ⟨vs2, rfl⟩ := hag
            cases hx with
            | agg hs2 h12 h2 =>
              obtain ⟨e1, e2, e3⟩ := hb
              exact ⟨vs2, by rw [← e1]; exact hs2, e1, e2, e3, h12, h2, rfl⟩
          · have hna : ∀ vs, x ≠ .agg vs := fun vs e => hag ⟨vs, e⟩
            obtain ⟨e1, rfl, e2, e3⟩ := bldOk_sc hna hb
            have h1c := hx.one e1
            rw [cells_one h1c]
            refine ⟨[x], rfl, rfl, by omega, e3, fun j hj => ?_, fun j hj => ?_, by rw [bldC_sc hna, set_splice e2]⟩
            · simp at hj; subst hj; exact h1c
            · simp at hj; subst hj; exact hx
        obtain ⟨pv, p1, p2, p3, p4, p5, p6, p7⟩ := piece
        rw [p7]
        have hst : Instr.fill place cells ((i :: is).zip (v :: vs)) = Instr.fill place (v.cells.zipIdx.foldl (fun cs (c, j) => cs.setIfInBounds (off + j) c) cells) (is.zip vs) := by
          simp only [List.zip_cons_cons, Instr.fill, his.1]
          rw [if_neg]
          simp [p1]
          omega
        rw [hst]
        obtain ⟨f1, f2⟩ := foldSet off v.cells.toList 0 cells
        have hfold : v.cells.zipIdx.foldl (fun cs (c, j) => cs.setIfInBounds (off + j) c) cells = (v.cells.toList.zipIdx 0).foldl (fun cs (p : Value × Nat) => cs.setIfInBounds (off + p.2) p.1) cells := by
          rw [← Array.foldl_toList]; simp
        rw [hfold]
        generalize (v.cells.toList.zipIdx 0).foldl (fun cs (p : Value × Nat) => cs.setIfInBounds (off + p.2) p.1) cells = cells1 at f1 f2
        have ho : off + pv.length ≤ cs.length := by omega
        obtain ⟨s1, s2, s3⟩ := splc_ok hs h1 h (vs := pv) (us := v.cells) (by rw [p1, p2]) p5 p6 ho f1 (fun j => by
          rw [f2 j]
          simp only [Nat.add_zero, Array.length_toList]
          congr 1
          simp [Array.getD_eq_getD_getElem?])
        exact ih is his.2 hv' hl' (by rw [splc_len ho]; exact p4) s1 s2 s3
end
end Go.Proofs.Ytblimjilinkmbaa
