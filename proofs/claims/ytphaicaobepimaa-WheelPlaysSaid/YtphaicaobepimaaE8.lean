/- Maps as steps of a walk. No conditions but the ones that stand in each. -/
import Derived.Test.YtphaicaobepimaaE7
import Derived.MapKept
import Derived.WideKeyRuns
namespace Go.Proofs.Ytphaicaobepimaa
set_option linter.all false
set_option linter.unusedSimpArgs false
open Go.RowKit

/-! ### Keys -/
def wideT (P : Program) (kt : TypeId) : Bool := match P.underlying kt with
  | some (.struct _) => true
  | some (.array _ _) => true
  | _ => false
/-- The cells of a key. -/
def keyF (wide : Bool) : AV → Option (List AV)
  | .agg cs => bif wide then some cs else none
  | x => bif wide then none else some [x]
def KeyOk (wide : Bool) (ks : List SK) (x : AV) : Prop := (keyF wide x).map (List.map kindA) = some (ks.map some)
structure KeyT (P : Program) (kt : TypeId) (wide : Bool) (ks : List SK) : Prop where
  sh : eqSh P 100 kt = some ks
  wd : wideT P kt = wide
  ns : ∀ k ∈ ks, k ≠ .str
section
variable {P : Program} {g : Nat → GM} {W : Nat → Prop} {w : World}
theorem key_cells {wide : Bool} {ks : List SK} {x : AV} (hx : KeyOk wide ks x) : ∃ cs, keyF wide x = some cs ∧ cs.map kindA = ks.map some := by
  unfold KeyOk at hx
  cases h : keyF wide x with
  | none => rw [h] at hx; cases hx
  | some cs => rw [h] at hx; exact ⟨cs, rfl, by simpa using hx⟩
theorem keyF_one {x : AV} {cs : List AV} (h : keyF false x = some cs) : cs = [x] := by cases x <;> simp [keyF] at h <;> exact h.symm
theorem keyF_agg {x : AV} {cs : List AV} (h : keyF true x = some cs) : x = .agg cs := by cases x <;> simp [keyF] at h; rw [h]
theorem keyF_inj {wide : Bool} {x y : AV} {cs : List AV} (hx : keyF wide x = some cs) (hy : keyF wide y = some cs) : x = y := by
  cases wide with
  | true => rw [keyF_agg hx, keyF_agg hy]
  | false => have h1 := keyF_one hx; have h2 := keyF_one hy; rw [h1] at h2; injection h2
theorem key_holds {kt : TypeId} {wide : Bool} {ks : List SK} (hT : KeyT P kt wide ks) {x : AV} {v : Value} (hx : KeyOk wide ks x) (hv : VR g W w x v) :
    ∃ cs us, keyF wide x = some cs ∧ cs.map kindA = ks.map some ∧ holdsT P kt v us ∧ us.length = cs.length ∧ ∀ j, j < cs.length → VR g W w (cs.getD j .any) (us.getD j undef) := by
  obtain ⟨cs, h1, h2⟩ := key_cells hx
  have hw := hT.wd
  unfold wideT at hw
  cases wide with
  | true =>
    cases x <;> simp [keyF] at h1
    subst h1
    obtain ⟨us, rfl, q1, q2, q3⟩ := agg_inv hv
    refine ⟨_, us.toList, rfl, h2, ?_, by simpa using q1, fun j hj => by have := q3 j hj; simpa [Array.getD_eq_getD_getElem?, List.getD] using this⟩
    unfold holdsT
    split <;> simp_all
  | false =>
    have h1' : cs = [x] := by cases x <;> simp [keyF] at h1 <;> exact h1.symm
    refine ⟨cs, [v], h1, h2, ?_, by rw [h1']; rfl, fun j hj => ?_⟩
    · unfold holdsT
      split <;> simp_all
    · rw [h1'] at hj ⊢
      simp at hj
      subst hj
      exact hv
theorem key_eq {kt : TypeId} {wide : Bool} {ks : List SK} (hT : KeyT P kt wide ks) {x y : AV} {u v : Value} (hx : KeyOk wide ks x) (hy : KeyOk wide ks y) (hu : VR g W w x u) (hv : VR g W w y v) : ∃ r : Bool, (∀ w', (Op.equal kt u v).run P w' = .ok r w') ∧ (r = true ↔ x = y) := by
  obtain ⟨cs, us, x1, x2, x3, x4, x5⟩ := key_holds hT hx hu
  obtain ⟨ds, vs, y1, y2, y3, y4, y5⟩ := key_holds hT hy hv
  have kl : cs.length = ks.length := by simpa using congrArg List.length x2
  have kl' : ds.length = ks.length := by simpa using congrArg List.length y2
  refine ⟨rowEq ks us vs, fun w' => run_eqSh (P := P) 9900 100 kt ks hT.sh w' _ _ _ _ x3 y3 (by omega) (by omega) (rowOk_of ks cs _ x2 x4 x5) (rowOk_of ks ds _ y2 y4 y5), ?_⟩
  rw [rowEq_of ks cs ds _ _ x2 y2 x4 y4 x5 y5]
  exact ⟨fun h => by subst h; exact keyF_inj x1 y1, fun h => by subst h; rw [x1] at y1; injection y1⟩
/-- A key of its own cells is one value. -/
theorem key_val {wide : Bool} {ks : List SK} {x : AV} {u v : Value} (hx : KeyOk wide ks x) (hu : VR g W w x u) (hv : VR g W w x v) : u = v := by
  obtain ⟨cs, h1, h2⟩ := key_cells hx
  have one : ∀ {y : AV} {k : SK} {a b : Value}, kindA y = some k → VR g W w y a → VR g W w y b → a = b := by
    intro y k a b hk ha hb
    cases y <;> simp [kindA] at hk <;> cases ha <;> cases hb <;> rfl
  have all : ∀ c ∈ cs, ∃ k, kindA c = some k := fun c hc => by
    have : kindA c ∈ ks.map some := by rw [← h2]; exact List.mem_map_of_mem hc
    obtain ⟨k, _, hk⟩ := List.mem_map.1 this
    exact ⟨k, hk.symm⟩
  cases x with
  | agg ds =>
    cases wide <;> simp [keyF] at h1
    subst h1
    obtain ⟨a, rfl, a1, a2, a3⟩ := agg_inv hu
    obtain ⟨b, rfl, b1, b2, b3⟩ := agg_inv hv
    congr 1
    apply Array.ext
    · rw [a1, b1]
    · intro j hj hj2
      have hjl : j < ds.length := by omega
      obtain ⟨k, hk⟩ := all (ds.getD j .any) (by simp [List.getD, hjl])
      have := one hk (a3 j hjl) (b3 j hjl)
      simpa [Array.getD_eq_getD_getElem?, hj, hj2] using this
  | _ =>
    cases wide <;> simp [keyF] at h1
    subst h1
    obtain ⟨k, hk⟩ := all _ (List.mem_singleton.2 rfl)
    exact one hk hu hv
theorem run_checkSh (em : Bool) (d : Nat) : ∀ (m : Nat) (t : TypeId) (ks : List SK), eqSh P m t = some ks → ∀ (w : World) (x : Value) (us : List Value), holdsT P t x us → us.length = ks.length → rowOk ks us → (Instr.checkKey em (d + m) t x).run P w = .ok () w
  | 0, _, _, h => by cases h
  | m + 1, t, ks, h => by
    intro w x us hx lu ou
    unfold eqSh at h
    cases hu : P.underlying t with
    | none => simp [hu] at h
    | some kd =>
      rw [hu] at h
      simp only [holdsT, hu] at hx
      rw [show d + (m + 1) = (d + m) + 1 from rfl]
      cases kd <;> simp only [Option.some.injEq, reduceCtorEq] at h hx
      case bool => subst h hx; obtain ⟨⟨a, rfl⟩, _⟩ := ou; simp [Instr.checkKey, run_underlying hu]
      case int k => subst h hx; obtain ⟨⟨a, rfl⟩, _⟩ := ou; simp [Instr.checkKey, run_underlying hu]
      case string => subst h hx; obtain ⟨⟨a, rfl⟩, _⟩ := ou; simp [Instr.checkKey, run_underlying hu]
      case struct fs =>
        subst hx
        split at h
        · cases h
        · rw [Instr.checkKey]
          simp only [Sem.run_bind, run_underlying hu, Result.andThen_ok]
          rw [← Array.forIn_toList]
          have key : ∀ (L : List Field) (o : Nat) (ks : List SK), eqShF (eqSh P m) P o L = some ks → rowOk ks (us.toArray.toList.drop o) →
              (forIn L PUnit.unit fun f r => do
                if f.name ≠ "_" then do
                  let v ← part f.type us.toArray f.offset
                  Instr.checkKey em (d + m) f.type v
                  pure (ForInStep.yield PUnit.unit)
                else pure (ForInStep.yield PUnit.unit) : Sem PUnit).run P w = .ok PUnit.unit w := by
            intro L
            induction L with
            | nil => intro o ks _ _; simp
            | cons f L ih =>
              intro o ks h hx
              unfold eqShF at h
              split at h
              · cases h
              · rename_i hn
                simp only [not_or, Decidable.not_not] at hn
                obtain ⟨hname, hoff, hinfo'⟩ := hn
                have hinfo := isSome_of hinfo'
                simp only [Option.bind_eq_some_iff] at h
                obtain ⟨k1, h1, h2⟩ := h
                split at h2
                · rename_i hc
                  simp only [Option.map_eq_some_iff] at h2
                  obtain ⟨k2, h2, rfl⟩ := h2
                  obtain ⟨x1, x2⟩ := rowOk_app _ _ _ hx
                  obtain ⟨a, pa, ha⟩ := run_part_sh w h1 hinfo hc x1
                  have lx := rowOk_len _ _ x1
                  have hr := run_checkSh em d m _ _ h1 w a _ ha (by rw [List.length_take]; omega) (rowOk_take _ _ x1)
                  rw [List.drop_drop] at x2
                  simp only [List.forIn_cons, Sem.run_bind, hname, ne_eq, not_false_eq_true, if_true, hoff, pa, hr, Result.andThen_ok, Sem.run_pure]
                  exact ih _ _ h2 x2
                · cases h2
          have h3 := key fs.toList 0 ks h (by simpa using ou)
          rw [h3]; rfl
      case array n e =>
        subst hx
        split at h
        · cases h
        · rename_i hin
          obtain ⟨i, hi⟩ := Option.isSome_iff_exists.1 (isSome_of hin)
          simp only [Option.bind_eq_some_iff] at h
          obtain ⟨k1, h1, h2⟩ := h
          split at h2
          · rename_i hc
            cases h2
            rw [Instr.checkKey]
            simp only [Sem.run_bind, run_underlying hu, Result.andThen_ok]
            simp only [Std.Legacy.Range.forIn_eq_forIn_range', Std.Legacy.Range.size, Nat.sub_zero, Nat.add_one_sub_one, Nat.div_one]
            have key : ∀ (n i0 : Nat), rowOk (List.replicate n k1).flatten (us.toArray.toList.drop (i0 * k1.length)) →
                (forIn (List.range' i0 n) PUnit.unit fun i r => do
                  let z ← sizeOf e
                  let v ← part e us.toArray (i * z)
                  Instr.checkKey em (d + m) e v
                  pure (ForInStep.yield PUnit.unit) : Sem PUnit).run P w = .ok PUnit.unit w := by
              intro n
              induction n with
              | zero => intro i0 _; simp
              | succ n ih =>
                intro i0 hx
                rw [List.replicate_succ, List.flatten_cons] at hx
                obtain ⟨x1, x2⟩ := rowOk_app _ _ _ hx
                obtain ⟨a, pa, ha⟩ := run_part_sh w h1 (by rw [hi]; rfl) hc x1
                have lx := rowOk_len _ _ x1
                have hr := run_checkSh em d m _ _ h1 w a _ ha (by rw [List.length_take]; omega) (rowOk_take _ _ x1)
                have e1 : i0 * k1.length + k1.length = (i0 + 1) * k1.length := by rw [Nat.add_mul, Nat.one_mul]
                rw [List.drop_drop, e1] at x2
                rw [List.range'_succ]
                simp only [List.forIn_cons, Sem.run_bind, run_sizeOf w hi, hc, pa, hr, Result.andThen_ok, Sem.run_pure]
                exact ih (i0 + 1) x2
            have h3 := key n 0 (by simpa using ou)
            rw [h3]; rfl
          · cases h2
theorem key_check {kt : TypeId} {wide : Bool} {ks : List SK} (hT : KeyT P kt wide ks) {x : AV} {v : Value} (hx : KeyOk wide ks x) (hv : VR g W w x v) (em : Bool) (w' : World) : (Instr.checkKey em 10000 kt v).run P w' = .ok () w' := by
  obtain ⟨cs, us, x1, x2, x3, x4, x5⟩ := key_holds hT hx hv
  have kl : cs.length = ks.length := by simpa using congrArg List.length x2
  exact run_checkSh em 9900 100 kt ks hT.sh w' v us x3 (by omega) (rowOk_of ks cs _ x2 x4 x5)
open Classical in
/-- Where a key is. -/
noncomputable def fIx (kvs : List (AV × AV)) (x : AV) : Option Nat := kvs.findIdx? fun p => decide (p.1 = x)
theorem findAsking_run {kt : TypeId} {wide : Bool} {ks : List SK} (hT : KeyT P kt wide ks) {x : AV} {v : Value} (hx : KeyOk wide ks x) (hv : VR g W w x v) : ∀ (kvs : List (AV × AV)) (es : List MapEntry) (i : Nat), es.length = kvs.length → (∀ p ∈ kvs, KeyOk wide ks p.1) →
    (∀ j, j < kvs.length → VR g W w (kvs.getD j (.any, .any)).1 (es.getD j default).key) → ∀ w', (Instr.findAsking kt v es i).run P w' = .ok ((fIx kvs x).map fun j => (i + j, (es.getD j default).val)) w'
  | [], [], i, _, _, _, w' => by simp [Instr.findAsking, fIx]
  | [], _ :: _, _, h, _, _, _ => by simp at h
  | _ :: _, [], _, h, _, _, _ => by simp at h
  | p :: kvs, e :: es, i, hl, hk, hvs, w' => by
    have h0 := hvs 0 (by simp)
    simp only [List.getD_cons_zero] at h0
    obtain ⟨r, hr, hiff⟩ := key_eq hT hx (hk p (by simp)) hv h0
    have ih := findAsking_run hT hx hv kvs es (i + 1) (by simpa using hl) (fun q hq => hk q (by simp [hq])) (fun j hj => by simpa using hvs (j + 1) (by simp; omega)) w'
    simp only [Instr.findAsking, Sem.run_bind, hr, Result.andThen_ok]
    unfold fIx at ih ⊢
    rw [List.findIdx?_cons]
    cases r with
    | true =>
      have : p.1 = x := (hiff.1 rfl).symm
      simp [this]
    | false =>
      have hne : ¬ p.1 = x := fun h => by have := hiff.2 h.symm; cases this
      simp only [Bool.false_eq_true, if_false, hne, decide_false]
      rw [ih]
      generalize List.findIdx? _ kvs = o
      cases o with
      | none => rfl
      | some j => simp only [Option.map_some, List.getD_cons_succ]; rw [show i + 1 + j = i + (j + 1) by omega]
theorem findNow_run {kt : TypeId} {ks : List SK} {d : TypeDesc} (hu : P.underlying kt = some d) (hT : KeyT P kt false ks) {x : AV} {v : Value} (hx : KeyOk false ks x) (hv : VR g W w x v) : ∀ (kvs : List (AV × AV)) (es : List MapEntry) (i : Nat), es.length = kvs.length → (∀ p ∈ kvs, KeyOk false ks p.1) →
    (∀ j, j < kvs.length → VR g W w (kvs.getD j (.any, .any)).1 (es.getD j default).key) → Instr.findNow d v es i = some ((fIx kvs x).map fun j => (i + j, (es.getD j default).val))
  | [], [], i, _, _, _ => by simp [Instr.findNow, fIx]
  | [], _ :: _, _, h, _, _ => by simp at h
  | _ :: _, [], _, h, _, _ => by simp at h
  | p :: kvs, e :: es, i, hl, hk, hvs => by
    have h0 := hvs 0 (by simp)
    simp only [List.getD_cons_zero] at h0
    have ih := findNow_run hu hT hx hv kvs es (i + 1) (by simpa using hl) (fun q hq => hk q (by simp [hq])) (fun j hj => by simpa using hvs (j + 1) (by simp; omega))
    have hsame : ∃ r : Bool, Instr.sameNow d v e.key = some r ∧ (r = true ↔ p.1 = x) := by
      obtain ⟨cs, us, x1, x2, x3, x4, x5⟩ := key_holds hT hx hv
      obtain ⟨ds, vs, y1, y2, y3, y4, y5⟩ := key_holds hT (hk p (by simp)) h0
      have hsh := hT.sh
      have hwd := hT.wd
      unfold wideT at hwd
      unfold eqSh at hsh
      rw [hu] at hsh hwd
      simp only [holdsT, hu] at x3 y3
      have hp1 : keyF false p.1 = some [p.1] := by revert y1; cases p.1 <;> simp [keyF]
      have hx1 : keyF false x = some [x] := by revert x1; cases x <;> simp [keyF]
      rw [hx1] at x1; rw [hp1] at y1
      cases x1; cases y1
      cases d <;> simp only [Option.some.injEq, reduceCtorEq] at hsh hwd
      case bool =>
        subst hsh
        simp at x2 y2
        cases x <;> simp [kindA] at x2
        cases hp : p.1 <;> rw [hp] at y2 h0 <;> simp [kindA] at y2
        cases hv; cases hq : e.key <;> rw [hq] at h0 <;> cases h0
        refine ⟨_, rfl, ?_⟩
        simp; exact eq_comm
      case int k =>
        subst hsh
        simp at x2 y2
        cases x <;> simp [kindA] at x2
        cases hp : p.1 <;> rw [hp] at y2 h0 <;> simp [kindA] at y2
        subst x2 y2
        cases hv; cases hq : e.key <;> rw [hq] at h0 <;> cases h0
        refine ⟨_, by simp only [Instr.sameNow, if_true]; rfl, ?_⟩
        simp; exact eq_comm
      case string => exact (hT.ns _ (by rw [← hsh]; simp) rfl).elim
      all_goals first | (cases hsh; done) | (simp at hwd; done)
    obtain ⟨r, hr, hiff⟩ := hsame
    unfold Instr.findNow
    rw [hr]
    unfold fIx at ih ⊢
    rw [List.findIdx?_cons]
    cases r with
    | true => simp [hiff.1 rfl]
    | false =>
      have hne : ¬ p.1 = x := fun h => by have := hiff.2 h; cases this
      simp only [Bool.false_eq_true, if_false, hne, decide_false]
      rw [ih]
      generalize List.findIdx? _ kvs = o
      cases o with
      | none => rfl
      | some j => simp only [Option.map_some, List.getD_cons_succ]; rw [show i + 1 + j = i + (j + 1) by omega]
theorem findKey_run {kt : TypeId} {wide : Bool} {ks : List SK} (hT : KeyT P kt wide ks) {x : AV} {v : Value} (hx : KeyOk wide ks x) (hv : VR g W w x v) {kvs : List (AV × AV)} {es : List MapEntry} (hl : es.length = kvs.length) (hk : ∀ p ∈ kvs, KeyOk wide ks p.1)
    (hvs : ∀ j, j < kvs.length → VR g W w (kvs.getD j (.any, .any)).1 (es.getD j default).key) (w' : World) : (Instr.findKey kt v es).run P w' = .ok ((fIx kvs x).map fun j => (j, (es.getD j default).val)) w' := by
  cases wide with
  | true =>
    have hwd := hT.wd
    unfold wideT at hwd
    rw [run_findKey_eq w' (by split at hwd <;> simp_all) v es, findAsking_run hT hx hv kvs es 0 hl hk hvs w']
    simp
  | false =>
    cases hu : P.underlying kt with
    | none => have := hT.sh; unfold eqSh at this; rw [hu] at this; cases this
    | some d =>
      rw [MapKept.run_findKey hu (findNow_run hu hT hx hv kvs es 0 hl hk hvs)]
      simp
theorem same_key {wide : Bool} {ks : List SK} (hns : ∀ k ∈ ks, k ≠ .str) {x : AV} {v : Value} (hx : KeyOk wide ks x) (hv : VR g W w x v) : Instr.sameBits 10000 v v = true := by
  obtain ⟨cs, h1, h2⟩ := key_cells hx
  have all : ∀ c ∈ cs, ∃ k, kindA c = some k ∧ k ≠ .str := fun c hc => by
    have : kindA c ∈ ks.map some := by rw [← h2]; exact List.mem_map_of_mem hc
    obtain ⟨k, hk1, hk⟩ := List.mem_map.1 this
    exact ⟨k, hk.symm, hns k hk1⟩
  have one : ∀ {y : AV} {k : SK} {a : Value} (n : Nat), kindA y = some k ∧ k ≠ .str → VR g W w y a → Instr.sameBits n a a = true := by
    rintro y k a n ⟨hk, hk2⟩ ha
    cases y <;> simp [kindA] at hk <;> (try (exact (hk2 hk.symm).elim)) <;> cases ha <;> cases n <;> simp [Instr.sameBits]
  cases x with
  | agg ds =>
    cases wide <;> simp [keyF] at h1
    subst h1
    obtain ⟨a, rfl, a1, a2, a3⟩ := agg_inv hv
    show (a.size == a.size && (a.toList.zip a.toList).all fun (x, y) => Instr.sameBits 9999 x y) = true
    simp only [beq_self_eq_true, Bool.true_and, List.all_eq_true]
    rintro ⟨u1, u2⟩ hm
    obtain ⟨j, hj, he⟩ := List.getElem_of_mem hm
    simp at hj
    simp only [List.getElem_zip, Prod.mk.injEq] at he
    obtain ⟨e1, e2⟩ := he
    subst e1 e2
    have hjl : j < ds.length := by omega
    obtain ⟨k, hk⟩ := all (ds.getD j .any) (by simp [List.getD, hjl])
    have := one 9999 hk (a3 j hjl)
    simpa [Array.getD_eq_getD_getElem?, hj] using this
  | _ =>
    cases wide <;> simp [keyF] at h1
    subst h1
    obtain ⟨k, hk⟩ := all _ (List.mem_singleton.2 rfl)
    exact one _ hk hv
end
end Go.Proofs.Ytphaicaobepimaa
