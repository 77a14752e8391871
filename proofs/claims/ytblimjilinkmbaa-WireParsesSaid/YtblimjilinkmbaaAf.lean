/- The quiet operations are sound: all of them. No conditions but the ones that stand in each. -/
import Derived.Test.YtblimjilinkmbaaAe
namespace Go.Proofs.Ytblimjilinkmbaa
set_option linter.all false
set_option linter.unusedSimpArgs false
open Go.RowKit

section
variable {P : Program} {g : Nat → GM} {W : Nat → Prop} {w : World}

theorem partsOf_ok {fs : Array Field} {places : Array (Nat × Nat)} (hpl : ∀ i : Nat, places[i]? = (fs[i]?).bind fun (f : Field) => (sizeT P f.type).map fun m => (f.offset, m)) : ∀ (is : List Nat) (ps : List (Nat × Nat)), partsOf P fs is = some ps → is.map (fun i => places[i]?) = ps.map some
  | [], ps, h => by simp [partsOf] at h; subst h; rfl
  | i :: r, ps, h => by
    unfold partsOf at h
    cases hf : fs[i]? with
    | none => rw [hf] at h; simp at h
    | some f =>
      rw [hf] at h
      simp only at h
      split at h
      · rename_i m l hm hl
        simp at h
        subst h
        simp only [List.map_cons]
        rw [partsOf_ok hpl r l hl, hpl i, hf]
        simp [hm]
      · cases h
theorem run_places {fs : Array Field} (h : ∀ f ∈ fs.toList, (sizeT P f.type).isSome = true) : ∃ places : Array (Nat × Nat), (fs.mapM (fun f => (do pure (f.offset, ← sizeOf f.type) : Sem (Nat × Nat)))).run P w = .ok places w ∧ ∀ i : Nat, places[i]? = (fs[i]?).bind fun (f : Field) => (sizeT P f.type).map fun m => (f.offset, m) := by
  have key : ∀ (l : List Field), (∀ f ∈ l, (sizeT P f.type).isSome = true) → ∃ ps : List (Nat × Nat), (l.mapM (fun f => (do pure (f.offset, ← sizeOf f.type) : Sem (Nat × Nat)))).run P w = .ok ps w ∧ ∀ i : Nat, ps[i]? = (l[i]?).bind fun (f : Field) => (sizeT P f.type).map fun m => (f.offset, m) := by
    intro l
    induction l with
    | nil => intro _; exact ⟨[], by simp, by simp⟩
    | cons f l ih =>
      intro h
      obtain ⟨ps, h1, h2⟩ := ih fun f hf => h f (List.mem_cons_of_mem _ hf)
      have hf := h f (by simp)
      cases hs : sizeT P f.type with
      | none => rw [hs] at hf; cases hf
      | some m =>
        refine ⟨(f.offset, m) :: ps, ?_, fun i => ?_⟩
        · simp only [List.mapM_cons, Sem.run_bind, run_sizeT hs, Result.andThen_ok, Sem.run_pure, h1]
        · cases i with
          | zero => simp [hs]
          | succ i => simpa using h2 i
  obtain ⟨ps, h1, h2⟩ := key fs.toList h
  refine ⟨ps.toArray, ?_, fun i => by simpa using h2 i⟩
  rw [← Array.toArray_toList (xs := fs)] 
  rw [Array.mapM_eq_mapM_toList]
  simp only [Sem.run_map, h1, Result.andThen_ok]

theorem agg_inv {cs : List AV} {v : Value} (h : VR g W w (.agg cs) v) : ∃ us : Array Value, v = .agg us ∧ us.size = cs.length ∧ (∀ j, j < cs.length → (us.getD j undef).oneCell' = true) ∧ ∀ j, j < cs.length → VR g W w (cs.getD j .any) (us.getD j undef) := by
  cases h with
  | agg hs h1 h => exact ⟨_, rfl, hs, h1, h⟩
theorem tup_inv {cs : List AV} {v : Value} (h : VR g W w (.tup cs) v) : ∃ us : Array Value, v = .tuple us ∧ us.size = cs.length ∧ ∀ j, j < cs.length → VR g W w (cs.getD j .any) (us.getD j undef) := by
  cases h with
  | tup hs h => exact ⟨_, rfl, hs, h⟩
theorem isl_inv {n : Nat} {cs : List AV} {v : Value} (h : VR g W w (.isl n cs) v) : ∃ (a : Option Addr) (cap : Nat) (us : Nat → Value), v = .slice a n cap ∧ n ≤ cap ∧ cap ≤ maxLen ∧
    (∀ j, j < cs.length → ∃ k o, a = some ⟨k, o, none⟩ ∧ cellOf w k (o + j) = some (us j) ∧ ¬ W k ∧ (us j).oneCell' = true) ∧ ∀ j, j < cs.length → VR g W w (cs.getD j .any) (us j) := by
  cases h with
  | isl hn hm hc h => exact ⟨_, _, _, rfl, hn, hm, hc, h⟩
theorem sl_inv {es b off n c : Nat} {v : Value} (h : VR g W w (.sl es b off n c) v) : (∃ k cap e cur fz, v = .slice (some ⟨k, off, none⟩) n cap ∧ g b = .re k ∧ n ≤ c ∧ c ≤ cap ∧ cap ≤ maxLen ∧ w.heap[k]? = some (.cells cur e fz) ∧ off + cap * es ≤ cur.size) ∨ (∃ a, v = .slice a 0 0 ∧ g b = .ph ∧ n = 0 ∧ c = 0) := by
  cases h with
  | sl hg hn hc hm hb hs => exact .inl ⟨_, _, _, _, _, rfl, hg, hn, hc, hm, hb, hs⟩
  | slp hg hc => exact .inr ⟨_, rfl, hg, rfl, hc⟩
theorem xp_inv {cs : List AV} {off : Nat} {v : Value} (h : VR g W w (.xp cs off) v) : ∃ (k o : Nat) (us : Nat → Value), v = .pointer (some ⟨k, o + off, none⟩) ∧ (∀ j, j < cs.length → cellOf w k (o + j) = some (us j) ∧ ¬ W k ∧ (us j).oneCell' = true) ∧ ∀ j, j < cs.length → VR g W w (cs.getD j .any) (us j) := by
  cases h with
  | xp hc h => exact ⟨_, _, _, rfl, hc, h⟩
theorem ptr_inv {b off : Nat} {v : Value} (h : VR g W w (.ptr b off) v) : ∃ k, v = .pointer (some ⟨k, off, none⟩) ∧ g b = .re k := by
  cases h with
  | ptr hg => exact ⟨_, rfl, hg⟩
theorem nils_inv {v : Value} (h : VR g W w .nils v) : ∃ a, v = .slice a 0 0 := by
  cases h with
  | nils a => exact ⟨a, rfl⟩
theorem mp_inv {b : Nat} {v : Value} (h : VR g W w (.mp b) v) : ∃ k, v = .map (some k) ∧ g b = .re k := by
  cases h with
  | mp hg => exact ⟨_, rfl, hg⟩
theorem BRs.get {l : List AV} {x : Bk} (h : BRs g W w l x) {b : Nat} (hb : nameOf l = some b) : BR g W w (g b) x := h b hb

theorem toB_get (cs : List AV) (h : ∀ v ∈ cs, isI .u8 v) {us : Nat → Value} (hv : ∀ j, j < cs.length → VR g W w (cs.getD j .any) (us j)) (j : Nat) (hj : j < (toB cs).length) : us j = .int .u8 (asI (cs.getD j .any)) := by
  have hj' : j < cs.length := by simpa [toB] using hj
  have hm : cs.getD j .any ∈ cs := by rw [getD_lt hj']; exact List.getElem_mem _
  exact (hv j hj').isI (h _ hm)

theorem run_b2s {src dst e : TypeId} (hs : P.underlying src = some (.slice e)) (he : P.underlying e = some (.int .u8)) (hd : P.underlying dst = some .string) {k o n cap : Nat} {cs : List AV} {us : Nat → Value} (hn : cs.length = n)
    (hc : ∀ j, j < n → cellOf w k (o + j) = some (us j)) (h8 : ∀ v ∈ cs, isI .u8 v) (hv : ∀ j, j < cs.length → VR g W w (cs.getD j .any) (us j)) :
    (convert src dst (.slice (some ⟨k, o, none⟩) n cap)).run P w = .ok (.string ⟨(toB cs).toArray⟩) w := by
  subst hn
  rw [run_convert_bytes_string w src dst e _ _ _ hs he hd]
  have hl := run_loadCells (P := P) w ⟨k, o, none⟩ cs.length us (fun j hj => by rw [add_lit]; exact hc j hj)
  have hus : ((List.range cs.length).map us).toArray = ((cs.map asI).map (Value.int .u8)).toArray := by
    congr 1
    apply List.ext_getElem (by simp)
    intro j h1 h2
    simp only [List.getElem_map, List.getElem_range]
    have hj : j < cs.length := by simpa using h1
    have := toB_get cs h8 hv j (by simpa [toB] using hj)
    rw [this, getD_lt hj]
  rw [hus] at hl
  rw [run_bytesToString w _ _ _ _ hl]
  congr 2
  have key : ∀ (l : List AV) (s : ByteArray), (l.map asI).foldl (fun r n => r.push (UInt8.ofNat n.toNat)) s = ⟨s.data ++ (toB l).toArray⟩ := by
    intro l
    induction l with
    | nil => intro s; cases s; simp [toB]
    | cons x l ih =>
      intro s
      simp only [List.map_cons, List.foldl_cons, ih, toB]
      congr 1
      simp [ByteArray.data_push]
  rw [key]
  simp [ByteArray.empty, ByteArray.emptyWithCapacity]
  rfl

theorem run_fieldAt {t : TypeId} {fs : Array Field} (hu : P.underlying t = some (.struct fs)) {f : Nat} {fd : Field} (hfd : fs[f]? = some fd) {m : Nat} (hm : sizeT P fd.type = some (m + 1)) (k o : Nat) :
    (Instr.fieldAt t (.pointer (some ⟨k, o, none⟩)) f).run P w = .ok (.pointer (some ⟨k, o + fd.offset, none⟩)) w := by
  simp [Instr.fieldAt, run_underlying hu, hfd, Instr.sureAddr, fieldPlace, run_sizeT hm, add_lit]
theorem run_indexAtA {t e : TypeId} {n es : Nat} (hu : P.underlying t = some (.array n e)) (hes : sizeT P e = some es) (k o : Nat) (q : IntKind) (i : Int) (h0 : 0 ≤ i) (h1 : i < (n : Int)) :
    (Instr.indexAt t (.pointer (some ⟨k, o, none⟩)) (.int q i)).run P w = .ok (.pointer (some ⟨k, o + i.toNat * es, none⟩)) w := by
  simp [Instr.indexAt, run_underlying hu, asIntOf, Instr.sureAddr, h0, h1, run_sizeT hes, add_lit]
theorem run_indexAtS {t e : TypeId} {es : Nat} (hu : P.underlying t = some (.slice e)) (hes : sizeT P e = some es) (k o n cap : Nat) (q : IntKind) (i : Int) (h0 : 0 ≤ i) (h1 : i < (n : Int)) :
    (Instr.indexAt t (.slice (some ⟨k, o, none⟩) n cap) (.int q i)).run P w = .ok (.pointer (some ⟨k, o + i.toNat * es, none⟩)) w := by
  simp [Instr.indexAt, run_underlying hu, asIntOf, h0, h1, run_sizeT hes, add_lit]

theorem q_sound {o : Oper} {q : Q1} {xs : List Operand} (hel : elabQ P o = some (q, xs)) (ρ : Operand → Value) (hρ : ∀ v, ρ (.const v) = v) {as : List AV} (ha : VRs g W w as (xs.map ρ)) {blk : Bk} (hb : BRs g W w as blk) (hp : qp q as blk) :
    ∃ v, (execOp ρ o).run P w = .ok (.value v) w ∧ VR g W w (qv q as blk) v := by
  unfold elabQ at hel
  split at hel
  all_goals (rename_i hop)
  -- move, assign
  · simp at hel; obtain ⟨rfl, rfl⟩ := hel
    obtain ⟨a, rfl, h1⟩ := VRs.one (by simpa using ha)
    exact ⟨_, by simp [execOp, hop], h1⟩
  · simp at hel; obtain ⟨rfl, rfl⟩ := hel
    obtain ⟨a, rfl, h1⟩ := VRs.one (by simpa using ha)
    exact ⟨_, by simp [execOp, hop], h1⟩
  -- pick
  · simp at hel; obtain ⟨rfl, rfl⟩ := hel
    obtain ⟨a, b, c, rfl, h1, h2, h3⟩ := VRs.three (by simpa using ha)
    obtain ⟨p1, p2, p3⟩ := hp
    have e1 := h1.isB p1
    refine ⟨_, by simp [execOp, hop, e1, asBool]; rfl, ?_⟩
    simp only [qv]
    cases hc : asB a with
    | true => simp only [cond_true, if_true]; rw [h2.isB (p2 hc)]; exact .bool _
    | false => simp only [cond_false, Bool.false_eq_true, if_false]; rw [h3.isB (p3 hc)]; exact .bool _
  -- not
  · simp at hel; obtain ⟨rfl, rfl⟩ := hel
    obtain ⟨a, rfl, h1⟩ := VRs.one (by simpa using ha)
    exact ⟨.bool (!asB a), by simp [execOp, hop, h1.isB hp, Op.unary], .bool _⟩
  -- binOp
  · obtain ⟨v, h1, h2⟩ := bin_sound (w := w) hel ρ ha hp (fun v e => by rw [e]; exact hρ v)
    refine ⟨v, ?_, h2⟩
    simp only [execOp, hop]
    exact run_v h1
  -- convert
  · split at hel
    · rename_i ks kd hs hd
      simp at hel; obtain ⟨rfl, rfl⟩ := hel
      obtain ⟨a, rfl, h1⟩ := VRs.one (by simpa using ha)
      obtain ⟨k', e⟩ := h1.isN hp
      exact ⟨_, by simp only [execOp, hop]; refine run_v (v := .int kd (kd.wrap (asI a))) ?_; rw [e]; simp [convert, run_underlying hs, run_underlying hd, Conv.intToInt], .int _ _⟩
    · rename_i e hs hd
      split at hel
      · rename_i he
        simp at hel; obtain ⟨rfl, rfl⟩ := hel
        obtain ⟨a, rfl, h1⟩ := VRs.one (by simpa using ha)
        simp only [execOp, hop]
        cases a <;> simp only [qp] at hp
        · rename_i es b off n c
          cases blk <;> simp only [qp] at hp
          rename_i cs
          obtain ⟨rfl, p2, p3⟩ := hp
          rcases sl_inv h1 with ⟨k, cap, e', cur, fz, e1, e2, _⟩ | ⟨ad0, e1, e2, rfl, rfl⟩
          · by_cases hpos : 0 < cs.length
            · obtain ⟨k', us, q1, q2, q3, q4⟩ := block_cells (hb.get (b := b) rfl) hpos
              rw [e2] at q1; cases q1
              refine ⟨_, run_v ?_, .str _⟩
              rw [e1]
              refine run_b2s (g := g) (W := W) (us := fun j => us (off + j)) hs he hd (by simp; omega) (fun j hj => ?_) p3 (fun j hj => ?_)
              · have := q2 (off + j) (by omega); simpa using this
              · have hj' : j < n := by simp at hj; omega
                have ee : ((cs.drop off).take n).getD j .any = cs.getD (off + j) .any := by simp only [List.getD, List.getElem?_take, List.getElem?_drop, if_pos hj']
                rw [ee]; exact q4 _ (by omega)
            · have : cs = [] := List.eq_nil_of_length_eq_zero (by omega)
              subst this
              have : n = 0 := by simp at p2; omega
              subst this
              refine ⟨.string ⟨(toB []).toArray⟩, run_v ?_, by simpa [qv, toB] using VR.str (g := g) (W := W) (w := w) []⟩
              rw [e1]
              exact run_b2s (g := g) (W := W) (us := fun _ => undef) hs he hd rfl (fun j hj => absurd hj (by simp)) (by simp) (fun j hj => absurd hj (by simp))
          · refine ⟨.string .empty, run_v ?_, ?_⟩
            · rw [e1, run_convert_bytes_string w _ _ e _ _ _ hs he hd]; cases ad0 <;> rfl
            · simp only [qv, List.take_zero, toB, List.map_nil]; exact .str []
        · rename_i n cs
          obtain ⟨p2, p3⟩ := hp
          obtain ⟨a, cap, us, e1, e2, e3, e4, e5⟩ := isl_inv h1
          by_cases hpos : 0 < n
          · obtain ⟨k, o, rfl, _⟩ := e4 0 (by omega)
            refine ⟨_, run_v ?_, .str _⟩
            rw [e1]
            refine run_b2s (g := g) (W := W) (us := us) hs he hd (by simp; omega) (fun j hj => ?_) p3 (fun j hj => ?_)
            · obtain ⟨k', o', hh, h6, _⟩ := e4 j (by omega)
              cases hh; exact h6
            · have hj' : j < n := by simp at hj; omega
              have ee : (cs.take n).getD j .any = cs.getD j .any := by simp only [List.getD, List.getElem?_take, if_pos hj']
              rw [ee]; exact e5 _ (by omega)
          · have : n = 0 := by omega
            subst this
            refine ⟨.string ⟨#[]⟩, run_v ?_, by simpa [qv, toB] using VR.str (g := g) (W := W) (w := w) []⟩
            rw [e1, run_convert_bytes_string w _ _ e _ _ _ hs he hd]
            cases a <;> rfl
        · generalize ρ _ = rx at h1 ⊢
          cases h1 with
          | nils a =>
            refine ⟨.string ⟨#[]⟩, run_v ?_, .str []⟩
            rw [run_convert_bytes_string w _ _ e _ _ _ hs he hd]
            cases a <;> rfl
      · cases hel
    · cases hel
  -- field
  · split at hel
    · rename_i fs hu
      split at hel
      · rename_i fd hfd
        cases hty : tyOf P fd.type with
        | none => rw [hty] at hel; simp at hel
        | some ty =>
          rw [hty] at hel
          simp at hel; obtain ⟨rfl, rfl⟩ := hel
          obtain ⟨a, rfl, h1⟩ := VRs.one (by simpa using ha)
          cases a <;> simp only [qp] at hp
          rename_i cs
          obtain ⟨us, e, hs, h11, hv⟩ := agg_inv h1
          obtain ⟨v, hr, hvr⟩ := run_part_row (P := P) (w := w) hty hs h11 hv hp
          refine ⟨v, ?_, hvr⟩
          simp only [execOp, hop]
          refine run_v ?_
          rw [e]
          simp [Instr.field, run_underlying hu, hfd, asAgg, hr]
      · cases hel
    · cases hel
  -- index
  · split at hel
    · rename_i n e hu
      split at hel
      · rename_i ty es hty hes
        simp at hel; obtain ⟨rfl, rfl⟩ := hel
        obtain ⟨a, b, rfl, h1, h2⟩ := VRs.two (by simpa using ha)
        cases a <;> simp only [qp] at hp
        rename_i cs
        obtain ⟨p1, p2, p3, p4⟩ := hp
        obtain ⟨us, e1, hs, h11, hv⟩ := agg_inv h1
        obtain ⟨k, e2⟩ := h2.isN p1
        obtain ⟨v, hr, hvr⟩ := run_part_row (P := P) (w := w) hty hs h11 hv p4
        refine ⟨v, ?_, hvr⟩
        simp only [execOp, hop]
        refine run_v ?_
        rw [e1, e2]
        simp [Instr.index, run_underlying hu, asIntOf, p2, p3, run_sizeT hes, hr]
      · cases hel
    · rename_i hu
      simp at hel; obtain ⟨rfl, rfl⟩ := hel
      obtain ⟨a, b, rfl, h1, h2⟩ := VRs.two (by simpa using ha)
      obtain ⟨p1, p2, p3, p4⟩ := hp
      obtain ⟨k, e2⟩ := h2.isN p2
      have e1 := h1.isS p1
      have hlt : (asI b).toNat < (asS a).length := by omega
      refine ⟨.int .u8 ((asS a).getD (asI b).toNat 0).toNat, ?_, .int _ _⟩
      simp only [execOp, hop]
      refine run_v ?_
      rw [e1, e2]
      have hg : (⟨(asS a).toArray⟩ : ByteArray)[(asI b).toNat]? = some ((asS a)[(asI b).toNat]) := by
        rw [getElem?_pos _ _ (by rw [size_mk]; exact hlt)]
        rfl
      simp [Instr.index, run_underlying hu, asIntOf, p3, hg, List.getD, hlt]
    · cases hel
  -- fieldAddr
  · split at hel
    · rename_i fs hu
      split at hel
      · rename_i fd hfd
        split at hel
        · rename_i m hm
          simp at hel; obtain ⟨rfl, rfl⟩ := hel
          obtain ⟨a, rfl, h1⟩ := VRs.one (by simpa using ha)
          cases a <;> simp only [qp] at hp
          · obtain ⟨k, e1, e2⟩ := ptr_inv h1
            exact ⟨_, by simp only [execOp, hop]; exact run_v (by rw [e1]; exact run_fieldAt hu hfd hm _ _), .ptr e2⟩
          · obtain ⟨k, o, us, e1, e2, e3⟩ := xp_inv h1
            exact ⟨_, by simp only [execOp, hop]; exact run_v (by rw [e1]; exact run_fieldAt hu hfd hm _ _), by rw [Nat.add_assoc]; exact .xp e2 e3⟩
        · cases hel
      · cases hel
    · cases hel
  -- indexAddr
  · split at hel
    · rename_i n e hu
      cases hes : sizeT P e with
      | none => rw [hes] at hel; simp at hel
      | some es =>
        rw [hes] at hel
        simp at hel; obtain ⟨rfl, rfl⟩ := hel
        obtain ⟨a, b, rfl, h1, h2⟩ := VRs.two (by simpa using ha)
        cases a <;> simp only [qp] at hp
        · obtain ⟨p1, p2, p3⟩ := hp
          obtain ⟨k, e1, e2⟩ := ptr_inv h1
          obtain ⟨q, e3⟩ := h2.isN p1
          exact ⟨_, by simp only [execOp, hop]; exact run_v (by rw [e1, e3]; exact run_indexAtA hu hes _ _ _ _ p2 p3), .ptr e2⟩
        · obtain ⟨p1, p2, p3⟩ := hp
          obtain ⟨k, o, us, e1, e2, e4⟩ := xp_inv h1
          obtain ⟨q, e3⟩ := h2.isN p1
          exact ⟨_, by simp only [execOp, hop]; exact run_v (by rw [e1, e3]; exact run_indexAtA hu hes _ _ _ _ p2 p3), by rw [Nat.add_assoc]; exact .xp e2 e4⟩
    · rename_i e hu
      cases hes : sizeT P e with
      | none => rw [hes] at hel; simp at hel
      | some es =>
        rw [hes] at hel
        simp at hel; obtain ⟨rfl, rfl⟩ := hel
        obtain ⟨a, b, rfl, h1, h2⟩ := VRs.two (by simpa using ha)
        cases a <;> simp only [qp] at hp
        · obtain ⟨p0, p1, p2, p3⟩ := hp
          obtain ⟨q, e3⟩ := h2.isN p1
          rcases sl_inv h1 with ⟨k, cap, e', cur, fz, e1, e2, _⟩ | ⟨ad0, e1, e2, rfl, rfl⟩
          · exact ⟨_, by simp only [execOp, hop]; exact run_v (by rw [e1, e3]; exact run_indexAtS hu hes _ _ _ _ _ _ p2 p3), .ptr e2⟩
          · omega
        · obtain ⟨p1, p2, p3, p4⟩ := hp
          obtain ⟨q, e3⟩ := h2.isN p1
          obtain ⟨ad, cap, us, e1, _, _, e4, e5⟩ := isl_inv h1
          obtain ⟨k, o, rfl, _⟩ := e4 _ p4
          refine ⟨_, by simp only [execOp, hop]; exact run_v (by rw [e1, e3]; exact run_indexAtS hu hes _ _ _ _ _ _ p2 p3), .xp (fun j hj => ?_) e5⟩
          obtain ⟨k', o', hh, r⟩ := e4 j hj
          cases hh; exact r
    · cases hel
  -- load
  · cases hty : tyOf P _ with
    | none => rw [hty] at hel; simp at hel
    | some ty =>
      rw [hty] at hel
      simp at hel; obtain ⟨rfl, rfl⟩ := hel
      obtain ⟨a, rfl, h1⟩ := VRs.one (by simpa using ha)
      cases a <;> simp only [qp] at hp
      · rename_i b off
        cases blk <;> simp only [qp] at hp
        rename_i cs
        obtain ⟨k, e1, e2⟩ := ptr_inv h1
        by_cases hpos : 0 < cs.length
        · obtain ⟨k', us, q1, q2, q3, q4⟩ := block_cells (hb.get (b := b) rfl) hpos
          rw [e2] at q1; cases q1
          obtain ⟨v, hr, hvr⟩ := run_load_row (P := P) (o := 0) hty q2 q3 q4 hp
          refine ⟨v, ?_, hvr⟩
          simp only [execOp, hop]
          exact run_v (by rw [e1]; simpa using hr)
        · obtain ⟨rfl, rfl, rfl⟩ := wrOk_pos hp hpos
          obtain ⟨v, hr, hvr⟩ := run_load_row (P := P) (g := g) (W := W) (k := k) (o := 0) (us := fun _ => undef) hty (fun j hj => absurd hj (by simp)) (fun j hj => absurd hj (by simp)) (fun j hj => absurd hj (by simp)) hp
          refine ⟨v, ?_, hvr⟩
          simp only [execOp, hop]
          exact run_v (by rw [e1]; simpa using hr)
      · rename_i cs off
        obtain ⟨k, o, us, e1, e2, e3⟩ := xp_inv h1
        obtain ⟨v, hr, hvr⟩ := run_load_row (P := P) hty (fun j hj => (e2 j hj).1) (fun j hj => (e2 j hj).2.2) e3 hp
        refine ⟨v, ?_, by cases ty <;> exact hvr⟩
        simp only [execOp, hop]
        exact run_v (by rw [e1]; exact hr)
  -- len
  · split at hel
    · rename_i hu
      simp at hel; obtain ⟨rfl, rfl⟩ := hel
      obtain ⟨a, rfl, h1⟩ := VRs.one (by simpa using ha)
      have e := h1.isS hp
      exact ⟨.int .i64 (asS a).length, by simp [execOp, hop, resolve, invoke, builtin, Builtin.len_, run_underlying hu, e, goInt, size_mk], .int _ _⟩
    · rename_i e hu
      simp at hel; obtain ⟨rfl, rfl⟩ := hel
      obtain ⟨a, rfl, h1⟩ := VRs.one (by simpa using ha)
      rename_i x _ _
      have fin : ∀ b n c, ρ x = .slice b n c → (execOp ρ o).run P w = .ok (.value (.int .i64 n)) w := fun b n c h => by
        simp [execOp, hop, resolve, invoke, builtin, Builtin.len_, run_underlying hu, h, goInt]
      cases a <;> simp only [qp] at hp
      · rcases sl_inv h1 with ⟨k, cap, e', cur, fz, e1, _⟩ | ⟨ad0, e1, _, rfl, rfl⟩
        · exact ⟨_, fin _ _ _ e1, .int _ _⟩
        · exact ⟨_, fin _ _ _ e1, .int _ _⟩
      · obtain ⟨ad, cap, us, e1, _⟩ := isl_inv h1
        exact ⟨_, fin _ _ _ e1, .int _ _⟩
      · obtain ⟨b, e1⟩ := nils_inv h1
        exact ⟨_, fin _ _ _ e1, .int _ _⟩
    · rename_i kt et hu
      simp at hel; obtain ⟨rfl, rfl⟩ := hel
      obtain ⟨a, rfl, h1⟩ := VRs.one (by simpa using ha)
      cases a <;> simp only [qp] at hp
      rename_i b
      cases blk <;> simp only [qp] at hp
      rename_i kvs
      obtain ⟨k, e1, e2⟩ := mp_inv h1
      have hbr := hb.get (b := b) rfl
      rw [e2] at hbr
      cases hbr with
      | mapb hbb hs =>
        refine ⟨.int .i64 kvs.length, ?_, .int _ _⟩
        simp [execOp, hop, resolve, invoke, builtin, Builtin.len_, run_underlying hu, e1, goInt, getObj, Sem.run, hbb, hs]
    · cases hel
  -- min, max
  · split at hel
    · rename_i k hu
      simp at hel; obtain ⟨rfl, rfl⟩ := hel
      obtain ⟨a, b, rfl, h1, h2⟩ := VRs.two (by simpa using ha)
      refine ⟨_, ?_, .int _ _⟩
      simp only [execOp, hop, resolve, invoke, builtin, Sem.run_bind, Sem.run_pure, Result.andThen_ok, List.map_toArray, List.map_cons, List.map_nil, h1.isI hp.1, h2.isI hp.2, run_min_int2]
    · cases hel
  · split at hel
    · rename_i k hu
      simp at hel; obtain ⟨rfl, rfl⟩ := hel
      obtain ⟨a, b, rfl, h1, h2⟩ := VRs.two (by simpa using ha)
      refine ⟨_, ?_, .int _ _⟩
      simp only [execOp, hop, resolve, invoke, builtin, Sem.run_bind, Sem.run_pure, Result.andThen_ok, List.map_toArray, List.map_cons, List.map_nil, h1.isI hp.1, h2.isI hp.2, run_max_int2]
    · cases hel
  -- slice
  · rename_i t x lo hi
    split at hel
    · rename_i hu
      simp only [Option.some.injEq, Prod.mk.injEq] at hel; obtain ⟨rfl, rfl⟩ := hel
      obtain ⟨a, r, rfl, h1, hr⟩ := VRs.cons_inv' (v := ρ x) (r := (lo.toList ++ hi.toList).map ρ) (by simpa using ha)
      simp only [qp] at hp
      obtain ⟨p1, p2, p3, p4, p5⟩ := hp
      refine ⟨_, ?_, .str _⟩
      simp only [execOp, hop]
      refine run_v ?_
      rw [h1.isS p1]
      have hbd := run_bounds (P := P) (isSlice := false) (len := (asS a).length) (cap := (asS a).length) p2 hr p3 p4 p5
      simp only [Instr.sliceAt, Instr.slice, Sem.run_bind, run_underlying hu, Result.andThen_ok, Option.map_none, Option.isSome_none, Bool.false_eq_true, if_false, size_mk, hbd, Sem.run_pure]
      congr 2
      apply ByteArray.ext
      simp [ByteArray.extract, ByteArray.copySlice]
    · rename_i e hu
      cases hes : sizeT P e with
      | none => rw [hes] at hel; simp at hel
      | some es =>
        rw [hes] at hel
        simp only [Option.map_some, Option.some.injEq, Prod.mk.injEq] at hel; obtain ⟨rfl, rfl⟩ := hel
        obtain ⟨a, r, rfl, h1, hr⟩ := VRs.cons_inv' (v := ρ x) (r := (lo.toList ++ hi.toList).map ρ) (by simpa using ha)
        cases a <;> simp only [qp] at hp
        · rename_i es' b off n c
          obtain ⟨rfl, p2, p3, p4, p5, p6⟩ := hp
          rcases sl_inv h1 with ⟨k, cap, e', cur, fz, e1, e2, q1, q2, q3, q4, q5⟩ | ⟨ad0, e1, e2, rfl, rfl⟩
          · have hbd := run_bounds (P := P) (isSlice := true) (len := n) (cap := cap) p2 hr p3 p4 (by omega)
            have hlo : (loOf lo.isSome r).toNat < cap := by omega
            refine ⟨.slice (some ⟨k, off + (loOf lo.isSome r).toNat * es', none⟩) ((hiOf lo.isSome hi.isSome n r).toNat - (loOf lo.isSome r).toNat) (cap - (loOf lo.isSome r).toNat), ?_, ?_⟩
            · simp only [execOp, hop]
              refine run_v ?_
              rw [e1]
              simp only [Instr.sliceAt, Instr.slice, Sem.run_bind, run_underlying hu, Result.andThen_ok, Option.map_none, hbd, run_sizeT hes, Sem.run_pure]
              rw [if_neg (by omega)]
              simp [add_lit]
            · refine .sl e2 (by omega) (by omega) (by omega) q4 ?_
              have : (loOf lo.isSome r).toNat * es' + (cap - (loOf lo.isSome r).toNat) * es' = cap * es' := by rw [← Nat.add_mul]; congr 1; omega
              omega
          · exfalso; omega
        · rename_i n cs
          obtain ⟨p2, p3, p4, p5, p6⟩ := hp
          obtain ⟨ad, cap, us, e1, q1, q2, q3, q4⟩ := isl_inv h1
          have hbd := run_bounds (P := P) (isSlice := true) (len := n) (cap := cap) p2 hr p3 p4 (by omega)
          have hqv : qv (.slL es lo.isSome hi.isSome) (.isl n cs :: r) blk = .isl ((hiOf lo.isSome hi.isSome n r).toNat - (loOf lo.isSome r).toNat) ((cs.drop ((loOf lo.isSome r).toNat * es)).take (((hiOf lo.isSome hi.isSome n r).toNat - (loOf lo.isSome r).toNat) * es)) := rfl
          rw [hqv]
          clear hqv
          generalize (loOf lo.isSome r) = L at *
          generalize (hiOf lo.isSome hi.isSome n r) = H at *
          have hex : ∃ ad', (execOp ρ o).run P w = .ok (.value (.slice ad' (H.toNat - L.toNat) (cap - L.toNat))) w ∧ (cap = L.toNat → ad' = ad) ∧ (cap ≠ L.toNat → ad' = ad.map (·.add (L.toNat * es))) := by
            refine ⟨if cap = L.toNat then ad else ad.map (·.add (L.toNat * es)), ?_, fun h => by rw [if_pos h], fun h => by rw [if_neg h]⟩
            simp only [execOp, hop]
            refine run_v ?_
            rw [e1]
            simp only [Instr.sliceAt, Instr.slice, Sem.run_bind, run_underlying hu, Result.andThen_ok, Option.map_none, hbd, run_sizeT hes, Sem.run_pure]
          obtain ⟨ad', hrun, c1, c2⟩ := hex
          refine ⟨_, hrun, .isl (us := fun j => us (L.toNat * es + j)) (by omega) (by omega) (fun j hj => ?_) fun j hj => ?_⟩
          · have hj1 : j < (H.toNat - L.toNat) * es := by simp at hj; omega
            have hj2 : L.toNat * es + j < cs.length := by simp at hj; omega
            obtain ⟨k, o', rfl, r1, r2, r3⟩ := q3 _ hj2
            have hne : cap ≠ L.toNat := fun e => by
              have : H.toNat - L.toNat = 0 := by omega
              rw [this] at hj1; simp at hj1
            rw [c2 hne]
            exact ⟨k, o' + L.toNat * es, by simp [add_lit], by rw [Nat.add_assoc]; exact r1, r2, r3⟩
          · have hj1 : j < (H.toNat - L.toNat) * es := by simp at hj; omega
            have hj2 : L.toNat * es + j < cs.length := by simp at hj; omega
            have ee : ((cs.drop (L.toNat * es)).take ((H.toNat - L.toNat) * es)).getD j .any = cs.getD (L.toNat * es + j) .any := by simp only [List.getD, List.getElem?_take, List.getElem?_drop, if_pos hj1]
            rw [ee]; exact q4 _ hj2
    · cases hel
  -- extract
  · rename_i x i
    simp at hel; obtain ⟨rfl, rfl⟩ := hel
    obtain ⟨a, rfl, h1⟩ := VRs.one (by simpa using ha)
    cases a <;> simp only [qp] at hp
    rename_i vs
    obtain ⟨us, e1, e2, e3⟩ := tup_inv h1
    refine ⟨us.getD i undef, ?_, e3 i hp⟩
    simp only [execOp, hop]
    refine run_v ?_
    rw [e1]
    have hi : i < us.size := by omega
    simp [Instr.extract, hi, Array.getD]
  -- nilCheck
  · simp at hel; obtain ⟨rfl, rfl⟩ := hel
    obtain ⟨a, rfl, h1⟩ := VRs.one (by simpa using ha)
    cases a <;> simp only [qp] at hp
    · obtain ⟨k, e1, e2⟩ := ptr_inv h1
      exact ⟨_, by simp [execOp, hop, e1], .ptr e2⟩
    · obtain ⟨k, o', us, e1, e2, e3⟩ := xp_inv h1
      exact ⟨.pointer (some ⟨k, o' + _, none⟩), by simp [execOp, hop, e1], .xp e2 e3⟩
  -- build
  · rename_i t parts
    have zinv : ∀ z : Array Value, z.all (·.oneCell') = true → z.size = (z.toList.map ofS).length ∧ (∀ j, j < (z.toList.map ofS).length → (z.getD j undef).oneCell' = true) ∧ (∀ j, j < (z.toList.map ofS).length → VR g W w ((z.toList.map ofS).getD j .any) (z.getD j undef)) := by
      intro z hz
      have hv := ofV_ok (g := g) (W := W) (w := w) (.agg z)
      have hv' : ofV (.agg z) = .agg (z.toList.map ofS) := if_pos hz
      rw [hv'] at hv
      obtain ⟨us, e, q1, q2, q3⟩ := agg_inv hv
      cases e
      exact ⟨q1, q2, q3⟩
    have zrun : ∀ z : Array Value, (P.info? t).bind (·.zero) = some (.agg z) → (zeroValue t).run P w = .ok (.agg z) w := by
      intro z hz
      cases hi : P.info? t with
      | none => rw [hi] at hz; simp at hz
      | some i => rw [hi] at hz; simp at hz; simp [zeroValue, typeInfo, hi, hz]
    have hpz : (parts.map fun (p : Nat × Operand) => (p.1, ρ p.2)).toList = (parts.toList.map (·.1)).zip ((parts.toList.map (·.2)).map ρ) := by
      simp only [Array.toList_map]
      induction parts.toList with
      | nil => rfl
      | cons p l ih => simp [ih]
    split at hel
    · rename_i z fs hz hu
      split at hel
      · rename_i hc
        simp only [Bool.and_eq_true] at hc
        cases hps : partsOf P fs (parts.toList.map (·.1)) with
        | none => rw [hps] at hel; simp at hel
        | some ps =>
          rw [hps] at hel
          simp only [Option.map_some, Option.some.injEq, Prod.mk.injEq] at hel; obtain ⟨rfl, rfl⟩ := hel
          obtain ⟨z1, z2, z3⟩ := zinv z hc.1
          obtain ⟨places, pr, pl⟩ := run_places (P := P) (w := w) (fs := fs) (fun f hf => by
            have := Array.all_eq_true'.1 hc.2 f (by simpa using hf)
            simpa using this)
          obtain ⟨cells', f1, f2⟩ := fill_ok ps (parts.toList.map (·.1)) (partsOf_ok pl _ _ hps) ha (by simp) hp z1 z2 z3
          refine ⟨_, ?_, f2⟩
          simp only [execOp, hop]
          refine run_v ?_
          simp only [Instr.build, Sem.run_bind, zrun z hz, Result.andThen_ok, Value.cells, run_underlying hu, pr, hpz, f1, Sem.run_pure]
      · cases hel
    · rename_i z n e hz hu
      split at hel
      · rename_i hc
        cases hes : sizeT P e with
        | none => rw [hes] at hel; simp at hel
        | some m =>
          rw [hes] at hel
          simp only [Option.map_some, Option.some.injEq, Prod.mk.injEq] at hel; obtain ⟨rfl, rfl⟩ := hel
          obtain ⟨z1, z2, z3⟩ := zinv z hc
          obtain ⟨cells', f1, f2⟩ := fill_ok (place := fun i => some (i * m, m)) (parts.toList.map fun (p : Nat × Operand) => (p.1 * m, m)) (parts.toList.map (fun (p : Nat × Operand) => p.1)) (by simp) ha (by simp) (cs := z.toList.map ofS) hp z1 z2 z3
          refine ⟨_, ?_, f2⟩
          simp only [execOp, hop]
          refine run_v ?_
          simp only [Instr.build, Sem.run_bind, zrun z hz, Result.andThen_ok, Value.cells, run_underlying hu, run_sizeT hes, hpz, f1, Sem.run_pure]
      · cases hel
    · cases hel
  -- makeFunc
  · rename_i f caps
    simp only [Option.some.injEq, Prod.mk.injEq] at hel; obtain ⟨rfl, rfl⟩ := hel
    have hl := ha.length
    refine ⟨.func (.func f) #[] (caps.map ρ), ?_, .cl (by simp at hl ⊢; omega) fun j hj => ?_⟩
    · simp [execOp, hop, Instr.makeFunc]
    · have := ha.get j hj
      simpa using this
  · cases hel
end
end Go.Proofs.Ytblimjilinkmbaa
