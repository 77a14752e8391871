/- The frame of every statement of this seat: from 'the call answers true and turns nothing that was there' to the row. No conditions but the ones that stand in each. -/
import Derived.Test.YtogckmommodmhaaGreatDoorRows
import Derived.WalkKit
import Derived.ProofKit
import Derived.OpenShut
import Derived.ShutString
import Derived.SizedLaws
import Derived.ChangeOld
import Derived.Below
namespace Go.Proofs.YtogckmommodmhaaGreatDoor
open Go.ChangeShapes Go.WideShapes Go.ChangeAt Go.RowKit
open Go.ChangeMaps (open_string shut_string)

theorem Tryz.own : ownKnob Tryz.prog.godebug = none := by kernel_rfl
theorem Tryz.laidOut : laidOutB Tryz.prog = true := by kernel_rfl

/-- All arguments read as they did. -/
theorem trodAll_below {H : Type} {enc : TypeId × Value → H} {P : Program} (hL : laidOutB P = true) {W W' : World} (bel : Below W.heap.size W W') :
    ∀ {ts : List TypeId} {vs : List Value} {ds : List (DataW H)} {p : List MemPlace}, (∀ t ∈ ts, P.readableRec t = true ∧ t < P.types.size) →
      DataW.TrodAll enc P W 0 (fun _ => true) true ts vs ds p → DataW.TrodAll enc P W' 0 (fun b => decide (b < W.heap.size)) true ts vs ds p
  | [], [], [], p, _, h => h
  | t :: ts, v :: vs, d :: ds, p, hr, h => by
    obtain ⟨p1, q1, h1, h2, rfl⟩ := h
    refine ⟨p1, q1, ?_, trodAll_below hL bel (fun t ht => hr t (List.mem_cons_of_mem _ ht)) h2, rfl⟩
    have k := hr t (List.mem_cons_self ..)
    refine Below.trod hL k.1 k.2 h1 bel ?_
    obtain ⟨m, hm⟩ := h1
    exact DataW.trod_lt m _ _ _ hm
  | [], _ :: _, _, _, _, h => by simp [DataW.TrodAll] at h
  | [], [], _ :: _, _, _, h => by simp [DataW.TrodAll] at h
  | _ :: _, [], _, _, _, h => by simp [DataW.TrodAll] at h
  | _ :: _, _ :: _, [], _, _, h => by simp [DataW.TrodAll] at h

theorem trodAll_length {H : Type} {enc : TypeId × Value → H} {P : Program} {W : World} {sp : Nat → Bool} {b : Nat} {held : Bool} :
    ∀ {ts : List TypeId} {vs : List Value} {ds : List (DataW H)} {p : List MemPlace}, DataW.TrodAll enc P W b sp held ts vs ds p → ds.length = ts.length
  | [], [], [], _, _ => rfl
  | t :: ts, v :: vs, d :: ds, p, h => by
    obtain ⟨p1, q1, h1, h2, rfl⟩ := h
    simp [trodAll_length h2]
  | [], _ :: _, _, _, h => by simp [DataW.TrodAll] at h
  | [], [], _ :: _, _, h => by simp [DataW.TrodAll] at h
  | _ :: _, [], _, _, h => by simp [DataW.TrodAll] at h
  | _ :: _, _ :: _, [], _, h => by simp [DataW.TrodAll] at h

/-- What a law's walk is told of its arguments. -/
structure ArgsIn (H : Type) (enc : TypeId × Value → H) (P : Program) (fn : Func) (W : World) (base : Nat) (args : Array Value) (ds : List (DataW H)) : Prop where
  ok : ∀ (j : Nat) t v, fn.params[j]? = some t → args[j]? = some v → Value.okWide P W .any base t v
  trod : ∃ p, DataW.TrodAll enc P W 0 (fun _ => true) true fn.params.toList args.toList ds p
  sized : (DataW.weightsEach P fn.params.toList ds).all (· ≤ reachBytes) = true

set_option maxRecDepth 100000 in
theorem law_lifted {f : FuncId} {fn : Func} (noInit : Tryz.prog.inits.idxOf? f = none) (hfn : Tryz.prog.funcs[f]? = some fn)
    (hrd : ∀ t ∈ fn.params.toList, Tryz.prog.readableRec t = true ∧ t < Tryz.prog.types.size) (hres : fn.resultTypes = #[4])
    (s : ChangeSpec) (hv : s.vars = []) (hs : ∀ (H : Type) (ds : List (DataW H)), ds.length = fn.params.size → s.fn H ds = { results := [.lit (.bool true)], args := ds, vars := [] })
    (os : Os) (started : os.Started) (H : Type) (enc : TypeId × Value → H)
    (witness : ∃ (w : World) (tape : Tape) (i : Input), w.os = os ∧ (w.forCall tape i).Shaped Tryz.prog ∧ i.vars = [] ∧ Input.okWide Tryz.prog (w.forCall tape i) .any w.heap.size f i ∧
      s.pre6 enc Tryz.prog fn [] false (w.forCall tape i).memory i.args ∧ ({} : Assume).holds Tryz.prog (lone (Frame.enter Tryz.prog f i.args .normal) [] (w.forCall tape i)))
    (contract : ∀ (W : World) (base : Nat) (args : Array Value) (ds : List (DataW H)), ArgsIn H enc Tryz.prog fn W base args ds →
      Calls Tryz.prog f args W fun e W' => e = .returned (.bool true) ∧ Below W.heap.size W W') :
    ReturnsInHanded {} Tryz.checked os f .any (s.pre6 enc Tryz.prog fn [] false) (s.post enc Tryz.prog fn false true false false) := by
  refine returnsInHanded_of_change_sized (C := Tryz.checked) Tryz.own started noInit hfn witness ?_
  intro W base args ds gs before hval hW _ hsz _
  have hW' := hW
  obtain ⟨p, q, hA, hV, rfl, hfz, hnd⟩ := hW
  have hgs : gs = [] ∧ q = [] := by
    rw [hv] at hV
    exact trodVars_none hV
  obtain ⟨rfl, rfl⟩ := hgs
  have hty : s.plain.varTypes Tryz.checked.prog = [] := by
    simp [ChangeSpec.plain, hv, DataSpec.varTypes]
  rw [hty, List.append_nil, List.append_nil] at hsz
  refine (contract W base args ds ⟨hval, ⟨p, hA⟩, hsz⟩).mono fun e W' ⟨he, bel⟩ => ?_
  subst he
  have hlen : ds.length = fn.params.size := by rw [trodAll_length hA]; simp
  have hS := hs H (ds ++ []) (by simpa using hlen)
  refine ⟨_, rfl, ds, [], p ++ [], [], p, [], hW', ?_, ?_, ?_, bel.frame _, fun h => by cases h⟩
  · rw [hS, hres]
    exact trodAll_mk1 (shut_bool Tryz.underlying4 _)
  · rw [hS]
    simp only [List.append_nil]
    exact trodAll_below Tryz.laidOut bel hrd hA
  · rw [hS, hv]
    simp [DataW.TrodVars]

/-! ### Arguments, opened -/
section
variable {H : Type} {enc : TypeId × Value → H} {P : Program} {W : World} {b0 b : Nat} {sp : Nat → Bool} {held : Bool}
theorem arg_string {t : TypeId} {v : Value} {d : DataW H} (ht : P.underlying t = some .string) (hval : Value.okWide P W .any b0 t v) {p} (hd : DataW.Trod enc P W b sp held t v d p) :
    ∃ s : ByteArray, v = .string s ∧ d = .lit (.string s.data.toList) := by
  obtain ⟨s, h1, h2, _, _⟩ := open_string ht hval hd
  exact ⟨s, h1, h2⟩
theorem arg_int {t : TypeId} {v : Value} {d : DataW H} (ht : P.underlying t = some (.int .i64)) (hval : Value.okWide P W .any b0 t v) {p} (hd : DataW.Trod enc P W b sp held t v d p) :
    ∃ n : Int, v = .int .i64 n ∧ -9223372036854775808 ≤ n ∧ n ≤ 9223372036854775807 := by
  obtain ⟨n, h1, h2, _, hw⟩ := open_int ht hval hd
  simp [Lit.wf, IntKind.min, IntKind.max, IntKind.bits, IntKind.signed] at hw
  exact ⟨n, h1, by omega, by omega⟩
theorem arg_bool {t : TypeId} {v : Value} {d : DataW H} (ht : P.underlying t = some .bool) (hval : Value.okWide P W .any b0 t v) {p} (hd : DataW.Trod enc P W b sp held t v d p) :
    ∃ x : Bool, v = .bool x := by
  obtain ⟨n, h1, h2, _⟩ := open_bool ht hval hd
  exact ⟨n, h1⟩
end
end Go.Proofs.YtogckmommodmhaaGreatDoor

/-! Arguments that are structs by value, opened. No conditions but the ones that stand in each. -/
namespace Go.Proofs.YtogckmommodmhaaGreatDoor
open Go.RowKit

section
variable {P : Program} {W : World} {b0 : Nat}
theorem arg_cells {t : TypeId} {v : Value} {ts : List TypeId} {n : Nat} (hu : (∃ fs, P.underlying t = some (.struct fs)) ∨ ∃ k e, P.underlying t = some (.array k e)) (hts : P.cellTypes P.depth t = some ts) (hn : P.cellsOf t = n) (hl : ts.length = n)
    (hval : Value.okWide P W .any b0 t v) : ∃ cs : Array Value, v = .agg cs ∧ cs.size = n ∧ ∀ (i : Nat) (u : TypeId), ts[i]? = some u → ∃ x, cs[i]? = some x ∧ Cell.okWide P W .any b0 u x := by
  have h : ∃ cs, v = .agg cs ∧ cs.size = P.cellsOf t ∧ Row.okWide P W .any b0 t cs := by
    unfold Value.okWide at hval
    rcases hu with ⟨fs, hu⟩ | ⟨k, e, hu⟩ <;> rw [hu] at hval <;> exact hval
  obtain ⟨cs, rfl, hs, ts', hts', _, hall⟩ := h
  rw [hts] at hts'
  obtain rfl : ts = ts' := by injection hts'
  refine ⟨cs, rfl, by omega, fun i u hu' => ?_⟩
  have hi : i < ts.length := (List.getElem?_eq_some_iff.1 hu').1
  obtain ⟨u', h1, h2⟩ := hall i cs[i] (Array.getElem?_eq_getElem (by omega))
  rw [Nat.mod_eq_of_lt hi, hu'] at h1
  obtain rfl : u = u' := by injection h1
  exact ⟨cs[i], Array.getElem?_eq_getElem (by omega), h2⟩

theorem cell_int {u : TypeId} {x : Value} (h : Cell.okWide P W .any b0 u x) (hu : P.underlying u = some (.int .i64)) : ∃ n : Int, x = .int .i64 n ∧ -9223372036854775808 ≤ n ∧ n ≤ 9223372036854775807 := by
  unfold Cell.okWide Cell.ok at h
  rw [hu] at h
  cases x <;> simp at h
  obtain ⟨rfl, h1, h2⟩ := h
  simp [IntKind.min, IntKind.max, IntKind.bits, IntKind.signed] at h1 h2
  exact ⟨_, rfl, by omega, by omega⟩
theorem cell_bool {u : TypeId} {x : Value} (h : Cell.okWide P W .any b0 u x) (hu : P.underlying u = some .bool) : ∃ b : Bool, x = .bool b := by
  unfold Cell.okWide Cell.ok at h
  rw [hu] at h
  cases x <;> simp at h
  exact ⟨_, rfl⟩
theorem cell_string {u : TypeId} {x : Value} (h : Cell.okWide P W .any b0 u x) (hu : P.underlying u = some .string) : ∃ s : ByteArray, x = .string s ∧ s.size ≤ maxLen := by
  unfold Cell.okWide Cell.ok at h
  rw [hu] at h
  cases x <;> simp at h
  refine ⟨_, rfl, ?_⟩
  unfold maxLen; omega
end
end Go.Proofs.YtogckmommodmhaaGreatDoor
