/- Steps upon maps: made, looked up, updated, deleted from, an entry's place and its store. No conditions but the ones that stand in each. -/
import Derived.Test.YtphaicaobepimaaE8
namespace Go.Proofs.Ytphaicaobepimaa
set_option linter.all false
set_option linter.unusedSimpArgs false
open Go.RowKit

/-- What is known of a map's type: whether its key has cells, their kinds, and what a key that is not there has. -/
def mapI (P : Program) (t : TypeId) : Option (Bool × List SK × AV) := match P.underlying t with
  | some (.map kt et) => match eqSh P 100 kt with
    | some ks => if ks.all (fun k => match k with | .str => false | _ => true) then ((P.info? et).bind (·.zero)).map fun z => (wideT P kt, ks, ofV z) else none
    | none => none
  | _ => none
structure MapT (P : Program) (t : TypeId) (wide : Bool) (ks : List SK) (z : AV) : Prop where
  of : ∃ kt et zv, P.underlying t = some (.map kt et) ∧ KeyT P kt wide ks ∧ (∀ w, (zeroValue et).run P w = .ok zv w) ∧ ofV zv = z
theorem MapT.mk' {P : Program} {t : TypeId} {wide : Bool} {ks : List SK} {z : AV} (h : mapI P t = some (wide, ks, z)) : MapT P t wide ks z := by
  unfold mapI at h
  split at h
  · rename_i kt et hu
    split at h
    · rename_i ks' hks
      split at h
      · rename_i hns
        simp only [Option.map_eq_some_iff, Prod.mk.injEq] at h
        obtain ⟨zv, hz, rfl, rfl, rfl⟩ := h
        refine ⟨kt, et, zv, hu, ⟨hks, rfl, fun k hk e => ?_⟩, fun w => ?_, rfl⟩
        · have := List.all_eq_true.1 hns k hk
          subst e; cases this
        · cases hi : P.info? et with
          | none => rw [hi] at hz; cases hz
          | some i => rw [hi] at hz; simp at hz; simp [zeroValue, typeInfo, hi, hz]
      · cases h
    · cases h
  · cases h
/-- What a map has at a key. -/
noncomputable def getA (kvs : List (AV × AV)) (x z : AV) : AV := match fIx kvs x with
  | some i => (kvs.getD i (.any, .any)).2
  | none => z
noncomputable def hasA (kvs : List (AV × AV)) (x : AV) : Bool := (fIx kvs x).isSome
noncomputable def updA (kvs : List (AV × AV)) (x v : AV) : List (AV × AV) := match fIx kvs x with
  | some i => kvs.set i (x, v)
  | none => kvs ++ [(x, v)]
noncomputable def delA (kvs : List (AV × AV)) (x : AV) : List (AV × AV) := match fIx kvs x with
  | some i => kvs.eraseIdx i
  | none => kvs
noncomputable def menA (kvs : List (AV × AV)) (x z : AV) : List (AV × AV) := match fIx kvs x with
  | some _ => kvs
  | none => kvs ++ [(x, z)]
noncomputable def ixA (kvs : List (AV × AV)) (x : AV) : Nat := (fIx kvs x).getD kvs.length
def KeysOk (wide : Bool) (ks : List SK) (kvs : List (AV × AV)) : Prop := ∀ p ∈ kvs, KeyOk wide ks p.1
theorem fIx_some {kvs : List (AV × AV)} {x : AV} {i : Nat} (h : fIx kvs x = some i) : i < kvs.length ∧ (kvs.getD i (.any, .any)).1 = x := by
  unfold fIx at h
  obtain ⟨hi, h1, _⟩ := List.findIdx?_eq_some_iff_getElem.1 h
  refine ⟨hi, ?_⟩
  have e : kvs.getD i (.any, .any) = kvs[i] := by simp [List.getD, hi]
  rw [e]; exact @of_decide_eq_true _ (Classical.propDecidable _) h1

section
variable {P : Program} {c : Cx} {ops : Array Oper} {io : Oper} {g : Nat → GM} {s : FS} {a : Act} {w : World}
theorem mapb_of (hR : R c g s a w) {b k : Nat} {kvs : List (AV × AV)} {dn : Bool} (hb : s.H b = .mapb kvs dn) (hg : g b = .re k) : ∃ es clock, w.heap[k]? = some (.map es clock) ∧ es.size = kvs.length ∧
    (∀ j, j < kvs.length → VR g (wset c g s) w (kvs.getD j (.any, .any)).1 (es.getD j default).key) ∧ (∀ j, j < kvs.length → VR g (wset c g s) w (kvs.getD j (.any, .any)).2 (es.getD j default).val) ∧
    (∀ j, j < es.size → (es.getD j default).born < clock) ∧ (∀ i j, i < j → j < es.size → (es.getD i default).born < (es.getD j default).born) ∧ (dn = true → (∀ j, j < es.size → (es.getD j default).born = j) ∧ clock = es.size) := by
  have := hR.h b
  rw [hb, hg] at this
  cases this with
  | mapb h1 h2 h3 h4 h5 h6 h7 => exact ⟨_, _, h1, h2, h3, h4, h5, h6, h7⟩
theorem es_list {es : Array MapEntry} (j : Nat) : es.toList.getD j default = es.getD j default := by simp [Array.getD_eq_getD_getElem?, List.getD]
theorem setObj_run {k : Nat} {o : Obj} {es : Array MapEntry} {clock : Nat} (hk : w.heap[k]? = some (.map es clock)) : (setObj k o).run P w = .ok () { w with heap := w.heap.setIfInBounds k o } := by
  simp [setObj, Sem.run, hk]
theorem setMap_fr {k : Nat} {es es' : Array MapEntry} {clock clock' : Nat} (hk : w.heap[k]? = some (.map es clock)) : Fr w { w with heap := w.heap.setIfInBounds k (.map es' clock') } (fun i => i = k) :=
  ⟨rfl, rfl, rfl, by simp, fun i _ hne => by simp only [Array.getElem?_setIfInBounds]; rw [if_neg fun e => hne e.symm], fun i cur e fz hi => by
    by_cases h : i = k
    · subst h; rw [hk] at hi; cases hi
    · exact ⟨cur, by simp only [Array.getElem?_setIfInBounds]; rw [if_neg fun e => h e.symm]; exact hi, rfl⟩⟩
theorem setMap_at {k : Nat} {o o' : Obj} (hk : w.heap[k]? = some o) : ({ w with heap := w.heap.setIfInBounds k o' } : World).heap[k]? = some o' := by
  have := heap_lt hk
  simp [this]
/-- A map's entries written anew. -/
theorem R.setMap (hR : R c g s a w) {b k : Nat} {kvs kvs' : List (AV × AV)} {dn dn' : Bool} {es es' : Array MapEntry} {clock clock' : Nat} (hb : s.H b = .mapb kvs dn) (hg : g b = .re k) (hk : w.heap[k]? = some (.map es clock)) (hs : es'.size = kvs'.length)
    (h1 : ∀ j, j < kvs'.length → VR g (wset c g s) w (kvs'.getD j (.any, .any)).1 (es'.getD j default).key) (h2 : ∀ j, j < kvs'.length → VR g (wset c g s) w (kvs'.getD j (.any, .any)).2 (es'.getD j default).val)
    (h3 : ∀ j, j < es'.size → (es'.getD j default).born < clock') (h4 : ∀ i j, i < j → j < es'.size → (es'.getD i default).born < (es'.getD j default).born) (h5 : dn' = true → (∀ j, j < es'.size → (es'.getD j default).born = j) ∧ clock' = es'.size) :
    R c g (s.putB b (.mapb kvs' dn')) a { w with heap := w.heap.setIfInBounds k (.map es' clock') } := by
  have hlive : (s.H b).live := by rw [hb]; trivial
  have hf := setMap_fr (es' := es') (clock' := clock') hk
  have hkw : wset c g s k := .inr ⟨b, hlive, hg⟩
  have hm : ∀ {x v}, VR g (wset c g s) w x v → VR g (wset c g s) { w with heap := w.heap.setIfInBounds k (.map es' clock') } x v := fun h => h.mono (hf.weak fun i hi => hi ▸ hkw) (fun _ _ h => h) (fun _ _ => rfl)
  exact hR.setBlock hg hlive trivial hf (.mapb (setMap_at hk) hs (fun j hj => hm (h1 j hj)) (fun j hj => hm (h2 j hj)) h3 h4 h5)
theorem R.noDense (hR : R c g s a w) {b : Nat} {kvs : List (AV × AV)} {dn : Bool} (hb : s.H b = .mapb kvs dn) : R c g (s.putB b (.mapb kvs false)) a w := by
  have h := hR.h b
  rw [hb] at h
  generalize hg : g b = m at h
  cases h with
  | mapb h1 h2 h3 h4 h5 h6 h7 =>
    exact hR.setBlock hg (by rw [hb]; trivial) trivial (Fr.refl _ _) (.mapb h1 h2 h3 h4 h5 h6 fun h => by cases h)

/-! ### What each does -/
theorem lkp_run (hR : R c g s a w) {t : TypeId} {wide : Bool} {ks : List SK} {z : AV} (hT : MapT P t wide ks z) {b : Nat} {kvs : List (AV × AV)} {dn : Bool} (hb : s.H b = .mapb kvs dn) {x : AV} {m v : Value} (hm : VR g (wset c g s) w (.mp b) m) (hx : VR g (wset c g s) w x v) (hkx : KeyOk wide ks x) (hks : KeysOk wide ks kvs) (ok : Bool) :
    ∃ r, (Instr.lookup t m v ok).run P w = .ok r w ∧ VR g (wset c g s) w (bif ok then .tup [getA kvs x z, .bool (hasA kvs x)] else getA kvs x z) r := by
  obtain ⟨kt, et, zv, hu, hK, hz, rfl⟩ := hT.of
  obtain ⟨k, rfl, hg⟩ := mp_inv hm
  obtain ⟨es, clock, q1, q2, q3, q4, q5, q6, q7⟩ := mapb_of hR hb hg
  have hfk := findKey_run hK hkx hx (kvs := kvs) (es := es.toList) (by simpa using q2) hks (fun j hj => by rw [es_list]; exact q3 j hj) w
  have hck := key_check hK hkx hx es.isEmpty w
  have hgo : (getObj k).run P w = .ok (.map es clock) w := by simp [getObj, Sem.run, q1]
  have hval : ∃ r0, VR g (wset c g s) w (getA kvs x (ofV zv)) r0 ∧ (Instr.lookup t (.map (some k)) v ok).run P w = .ok (if ok then .tuple #[r0, .bool (hasA kvs x)] else r0) w := by
    unfold getA hasA
    cases hf : fIx kvs x with
    | none =>
      rw [hf] at hfk
      refine ⟨zv, ofV_ok zv, ?_⟩
      simp only [Instr.lookup, Sem.run_bind, run_underlying hu, Result.andThen_ok, hgo, hck, hfk, Option.map_none, hz, Sem.run_pure]
      rfl
    | some i =>
      rw [hf] at hfk
      obtain ⟨hi, _⟩ := fIx_some hf
      refine ⟨_, q4 i hi, ?_⟩
      simp only [Instr.lookup, Sem.run_bind, run_underlying hu, Result.andThen_ok, hgo, hck, hfk, Option.map_some, Sem.run_pure, es_list]
      rfl
  obtain ⟨r0, hv, hr⟩ := hval
  refine ⟨_, hr, ?_⟩
  cases ok with
  | false => exact hv
  | true =>
    refine .tup rfl fun j hj => ?_
    match j, hj with
    | 0, _ => exact hv
    | 1, _ => exact .bool _
    | j + 2, hj => simp at hj; omega
theorem getD_push {es : Array MapEntry} {e : MapEntry} (j : Nat) : (es.push e).getD j default = if j = es.size then e else es.getD j default := by
  simp only [Array.getD_eq_getD_getElem?, Array.getElem?_push]
  split <;> rfl
theorem getD_mod {es : Array MapEntry} {f : MapEntry → MapEntry} {i : Nat} (hi : i < es.size) (j : Nat) : (es.modify i f).getD j default = if j = i then f (es.getD j default) else es.getD j default := by
  simp only [Array.getD_eq_getD_getElem?, Array.getElem?_modify]
  by_cases h : j = i
  · subst h; simp [hi]
  · rw [if_neg h, if_neg fun e => h e.symm]
theorem getD_app {kvs : List (AV × AV)} {p : AV × AV} (j : Nat) : (kvs ++ [p]).getD j (.any, .any) = if j = kvs.length then p else kvs.getD j (.any, .any) := by
  by_cases h : j = kvs.length
  · subst h; simp [List.getD]
  · rw [if_neg h]
    rcases Nat.lt_or_ge j kvs.length with h1 | h1
    · simp [List.getD, List.getElem?_append_left h1]
    · have : (kvs ++ [p])[j]? = none := List.getElem?_eq_none (by simp; omega)
      simp [List.getD, this, List.getElem?_eq_none h1]
theorem getD_setp {kvs : List (AV × AV)} {p : AV × AV} {i : Nat} (hi : i < kvs.length) (j : Nat) : (kvs.set i p).getD j (.any, .any) = if j = i then p else kvs.getD j (.any, .any) := by
  by_cases h : j = i
  · subst h; simp [List.getD, hi]
  · rw [if_neg h]; simp [List.getD, List.getElem?_set_ne fun e => h e.symm]
/-- An entry that is there, its value written anew. -/
theorem setAt (hR : R c g s a w) {b k : Nat} {kvs : List (AV × AV)} {dn : Bool} (hb : s.H b = .mapb kvs dn) (hg : g b = .re k) {es : Array MapEntry} {clock : Nat} (q1 : w.heap[k]? = some (.map es clock)) {i : Nat} (hi : i < kvs.length) {y : AV} {u : Value} (hy : VR g (wset c g s) w y u) {f : MapEntry → MapEntry}
    (hf1 : ∀ e, (f e).born = e.born) (hf2 : (f (es.getD i default)).val = u) (hf3 : (f (es.getD i default)).key = (es.getD i default).key) :
    R c g (s.putB b (.mapb (kvs.set i ((kvs.getD i (.any, .any)).1, y)) dn)) a { w with heap := w.heap.setIfInBounds k (.map (es.modify i f) clock) } := by
  obtain ⟨es', clock', r1, q2, q3, q4, q5, q6, q7⟩ := mapb_of hR hb hg
  rw [q1] at r1; cases r1
  have hie : i < es.size := by omega
  have hb2 : ∀ j, ((es.modify i f).getD j default).born = (es.getD j default).born := fun j => by
    rw [getD_mod hie]; split
    · exact hf1 _
    · rfl
  refine hR.setMap hb hg q1 (by simp; exact q2) (fun j hj => ?_) (fun j hj => ?_) (fun j hj => ?_) (fun i' j hij hj => ?_) (fun hd => ?_)
  · rw [List.length_set] at hj
    rw [getD_setp hi, getD_mod hie]
    split
    · rename_i e; subst e; rw [hf3]; exact q3 _ hj
    · exact q3 _ hj
  · rw [List.length_set] at hj
    rw [getD_setp hi, getD_mod hie]
    split
    · rename_i e; subst e; rw [hf2]; exact hy
    · exact q4 _ hj
  · rw [hb2]; exact q5 j (by simpa using hj)
  · rw [hb2, hb2]; exact q6 i' j hij (by simpa using hj)
  · obtain ⟨d1, d2⟩ := q7 hd
    exact ⟨fun j hj => by rw [hb2]; exact d1 j (by simpa using hj), by simpa using d2⟩
/-- An entry more. -/
theorem pushAt (hR : R c g s a w) {b k : Nat} {kvs : List (AV × AV)} {dn : Bool} (hb : s.H b = .mapb kvs dn) (hg : g b = .re k) {es : Array MapEntry} {clock : Nat} (q1 : w.heap[k]? = some (.map es clock)) {x y : AV} {v u : Value} (hx : VR g (wset c g s) w x v) (hy : VR g (wset c g s) w y u) :
    R c g (s.putB b (.mapb (kvs ++ [(x, y)]) dn)) a { w with heap := w.heap.setIfInBounds k (.map (es.push { key := v, val := u, born := clock }) (clock + 1)) } := by
  obtain ⟨es', clock', r1, q2, q3, q4, q5, q6, q7⟩ := mapb_of hR hb hg
  rw [q1] at r1; cases r1
  refine hR.setMap hb hg q1 (by simp; exact q2) (fun j hj => ?_) (fun j hj => ?_) (fun j hj => ?_) (fun i j hij hj => ?_) (fun hd => ?_)
  · rw [List.length_append, List.length_singleton] at hj
    rw [getD_app, getD_push, q2]
    split
    · exact hx
    · exact q3 j (by omega)
  · rw [List.length_append, List.length_singleton] at hj
    rw [getD_app, getD_push, q2]
    split
    · exact hy
    · exact q4 j (by omega)
  · rw [Array.size_push] at hj
    rw [getD_push]
    split
    · show clock < clock + 1; omega
    · have := q5 j (by omega); omega
  · rw [Array.size_push] at hj
    rw [getD_push, getD_push, if_neg (by omega)]
    split
    · exact q5 i (by omega)
    · exact q6 i j hij (by omega)
  · obtain ⟨d1, d2⟩ := q7 hd
    refine ⟨fun j hj => ?_, by rw [Array.size_push]; omega⟩
    rw [Array.size_push] at hj
    rw [getD_push]
    split
    · rename_i e; show clock = j; omega
    · exact d1 j (by omega)
theorem upd_run (hR : R c g s a w) {t : TypeId} {wide : Bool} {ks : List SK} {z : AV} (hT : MapT P t wide ks z) {b : Nat} {kvs : List (AV × AV)} {dn : Bool} (hb : s.H b = .mapb kvs dn) {x y : AV} {m v u : Value} (hm : VR g (wset c g s) w (.mp b) m) (hx : VR g (wset c g s) w x v) (hy : VR g (wset c g s) w y u)
    (hkx : KeyOk wide ks x) (hks : KeysOk wide ks kvs) : ∃ w', (Instr.mapUpdate t m v u).run P w = .ok () w' ∧ R c g (s.putB b (.mapb (updA kvs x y) dn)) a w' := by
  obtain ⟨kt, et, zv, hu, hK, hz, rfl⟩ := hT.of
  obtain ⟨k, rfl, hg⟩ := mp_inv hm
  obtain ⟨es, clock, q1, q2, q3, q4, q5, q6, q7⟩ := mapb_of hR hb hg
  have hfk := findKey_run hK hkx hx (kvs := kvs) (es := es.toList) (by simpa using q2) hks (fun j hj => by rw [es_list]; exact q3 j hj) w
  have hck := key_check hK hkx hx false w
  have hgo : (getObj k).run P w = .ok (.map es clock) w := by simp [getObj, Sem.run, q1]
  have hkl := heap_lt q1
  unfold updA
  cases hf : fIx kvs x with
  | none =>
    rw [hf] at hfk
    refine ⟨_, ?_, pushAt hR hb hg q1 hx hy⟩
    simp only [Instr.mapUpdate, Sem.run_bind, run_underlying hu, Result.andThen_ok, hgo, hck, hfk, Option.map_none, setObj_run q1]
  | some i =>
    rw [hf] at hfk
    obtain ⟨hi, hke⟩ := fIx_some hf
    have hie : i < es.size := by omega
    have h3 := q3 i hi
    rw [hke] at h3
    have hkv : (es.getD i default).key = v := key_val hkx h3 hx
    have hsb : Instr.sameBits 10000 v v = true := same_key hK.ns hkx hx
    have hkeep : (Instr.keyThatStays (((es[i]?).map (·.key)).getD v) v).run P w = .ok v w := by
      have e : ((es[i]?).map (·.key)).getD v = v := by
        have : es.getD i default = es[i] := by simp [Array.getD_eq_getD_getElem?, hie]
        rw [Array.getElem?_eq_getElem hie]
        rw [this] at hkv
        simpa using hkv
      rw [e]
      simp [Instr.keyThatStays, hsb]
    have hset := setAt hR hb hg q1 hi hy (f := fun e => { e with key := v, val := u }) (fun _ => rfl) rfl hkv.symm
    rw [hke] at hset
    refine ⟨_, ?_, hset⟩
    simp only [Instr.mapUpdate, Sem.run_bind, run_underlying hu, Result.andThen_ok, hgo, hck, hfk, Option.map_some, hkeep, setObj_run q1]
theorem men_run (hR : R c g s a w) {t : TypeId} {wide : Bool} {ks : List SK} {z : AV} (hT : MapT P t wide ks z) {b : Nat} {kvs : List (AV × AV)} (hb : s.H b = .mapb kvs true) {x : AV} {m v : Value} (hm : VR g (wset c g s) w (.mp b) m) (hx : VR g (wset c g s) w x v)
    (hkx : KeyOk wide ks x) (hks : KeysOk wide ks kvs) : ∃ r w', (Instr.mapEntry t m v).run P w = .ok r w' ∧ R c g (s.putB b (.mapb (menA kvs x z) true)) a w' ∧ VR g (wset c g s) w (.tup [getA kvs x z, .int .i64 (ixA kvs x)]) r ∧ Fr w w' (fun i => g b = .re i) := by
  obtain ⟨kt, et, zv, hu, hK, hz, rfl⟩ := hT.of
  obtain ⟨k, rfl, hg⟩ := mp_inv hm
  obtain ⟨es, clock, q1, q2, q3, q4, q5, q6, q7⟩ := mapb_of hR hb hg
  have hfk := findKey_run hK hkx hx (kvs := kvs) (es := es.toList) (by simpa using q2) hks (fun j hj => by rw [es_list]; exact q3 j hj) w
  have hck := key_check hK hkx hx false w
  have hgo : (getObj k).run P w = .ok (.map es clock) w := by simp [getObj, Sem.run, q1]
  have hkl := heap_lt q1
  obtain ⟨d1, d2⟩ := q7 rfl
  have tup : ∀ {r0 : Value} {x0 : AV} {n : Nat}, VR g (wset c g s) w x0 r0 → VR g (wset c g s) w (.tup [x0, .int .i64 (n : Int)]) (.tuple #[r0, goInt n]) := fun h0 => by
    refine .tup rfl fun j hj => ?_
    match j, hj with
    | 0, _ => exact h0
    | 1, _ => exact .int _ _
    | j + 2, hj => simp at hj; omega
  have hfr : ∀ {es' clock'}, Fr w { w with heap := w.heap.setIfInBounds k (.map es' clock') } (fun i => g b = .re i) := fun {es' clock'} => (setMap_fr (es' := es') (clock' := clock') q1).weak fun i hi => by rw [hi]; exact hg
  unfold menA getA ixA
  cases hf : fIx kvs x with
  | none =>
    rw [hf] at hfk
    have hp := pushAt hR hb hg q1 hx (ofV_ok zv)
    refine ⟨.tuple #[zv, goInt (clock : Nat)], _, ?_, hp, ?_, hfr⟩
    · simp only [Instr.mapEntry, Sem.run_bind, run_underlying hu, Result.andThen_ok, hgo, hck, hfk, Option.map_none, hz, setObj_run q1, Sem.run_pure]
    · have : clock = kvs.length := by omega
      rw [this]
      exact tup (ofV_ok zv)
  | some i =>
    rw [hf] at hfk
    obtain ⟨hi, hke⟩ := fIx_some hf
    have hie : i < es.size := by omega
    have h3 := q3 i hi
    rw [hke] at h3
    have hkv : (es.getD i default).key = v := key_val hkx h3 hx
    have hsb : Instr.sameBits 10000 v v = true := same_key hK.ns hkx hx
    have hei : es.getD i default = es[i] := by simp [Array.getD_eq_getD_getElem?, hie]
    have hkeep : (Instr.keyThatStays (((es[i]?).map (·.key)).getD v) v).run P w = .ok v w := by
      have e : ((es[i]?).map (·.key)).getD v = v := by
        rw [Array.getElem?_eq_getElem hie]
        rw [hei] at hkv
        simpa using hkv
      rw [e]
      simp [Instr.keyThatStays, hsb]
    have hset := setAt hR hb hg q1 hi (q4 i hi) (f := fun e => { e with key := v }) (fun _ => rfl) rfl hkv.symm
    have hself : kvs.set i ((kvs.getD i (.any, .any)).1, (kvs.getD i (.any, .any)).2) = kvs := by
      have e : kvs.getD i (.any, .any) = kvs[i] := by simp [List.getD, hi]
      rw [e]; exact List.set_getElem_self hi
    rw [hself] at hset
    refine ⟨.tuple #[(es.getD i default).val, goInt (i : Nat)], _, ?_, hset, tup (q4 i hi), hfr⟩
    have hborn : ((es[i]?).map fun e => (e.born : Int)).getD 0 = (i : Int) := by
      rw [Array.getElem?_eq_getElem hie]
      have := d1 i hie
      rw [hei] at this
      have h9 : es[i].born = i := by simpa using this
      simp [h9]
    have hborn2 : ((((es[i]?).map (·.born)).getD 0 : Nat) : Int) = (i : Int) := by
      rw [Array.getElem?_eq_getElem hie]
      have := d1 i hie
      rw [hei] at this
      have h9 : es[i].born = i := by simpa using this
      simp [h9]
    simp only [Instr.mapEntry, Sem.run_bind, run_underlying hu, Result.andThen_ok, hgo, hck, hfk, Option.map_some, hkeep, setObj_run q1, Sem.run_pure, hborn, hborn2, es_list]
theorem mst_run (hR : R c g s a w) {t : TypeId} {b : Nat} {kvs : List (AV × AV)} (hb : s.H b = .mapb kvs true) {y : AV} {m u : Value} {i : Nat} (hi : i < kvs.length) (hm : VR g (wset c g s) w (.mp b) m) (hy : VR g (wset c g s) w y u) :
    ∃ w', (Instr.entryStore t m (.int .i64 (i : Int)) u).run P w = .ok () w' ∧ R c g (s.putB b (.mapb (kvs.set i ((kvs.getD i (.any, .any)).1, y)) true)) a w' := by
  obtain ⟨k, rfl, hg⟩ := mp_inv hm
  obtain ⟨es, clock, q1, q2, q3, q4, q5, q6, q7⟩ := mapb_of hR hb hg
  have hgo : (getObj k).run P w = .ok (.map es clock) w := by simp [getObj, Sem.run, q1]
  have hkl := heap_lt q1
  obtain ⟨d1, d2⟩ := q7 rfl
  have hie : i < es.size := by omega
  have hset := setAt hR hb hg q1 hi hy (f := fun e => { e with val := u }) (fun _ => rfl) rfl rfl
  have hfi : es.findIdx? (fun e => (e.born : Int) == (i : Int)) = some i := by
    rw [Array.findIdx?_eq_some_iff_getElem]
    have hd : ∀ j (hj : j < es.size), es[j].born = j := fun j hj => by
      have := d1 j hj
      simpa [Array.getD_eq_getD_getElem?, hj] using this
    refine ⟨hie, by simp [hd i hie], fun j hj => ?_⟩
    rw [hd j (by omega)]
    simp; omega
  refine ⟨_, ?_, hset⟩
  simp only [Instr.entryStore, Sem.run_bind, Result.andThen_ok, hgo]
  have has : (asIntOf (.int .i64 (i : Int))).run P w = .ok (.i64, (i : Int)) w := by simp [asIntOf]
  simp only [asInt, Sem.run_pure, Sem.run_bind, Result.andThen_ok, has, hfi, setObj_run q1]
end
end Go.Proofs.Ytphaicaobepimaa
