/- The frame of the statements that list record.fields: what the list says of memory; from 'the call answers true and turns nothing that was there' to the row. No conditions but the ones that stand in each. -/
import Derived.Test.YtogckmommodmhaaGreatDoorR0
import Derived.Test.YtogckmommodmhaaGreatDoorRd
import Derived.LaidMore
import Derived.Stop.Joined
namespace Go.Proofs.YtogckmommodmhaaGreatDoor
set_option linter.all false
set_option linter.unusedSimpArgs false
open Go.ChangeShapes Go.WideShapes Go.ChangeAt Go.WideMaps Go.WideElems Go.RowKit

noncomputable def laidL : List (String × DataW Unit) := [("rentroll/record.fields", Rows.laid_rentroll_record_fields)]
theorem gFields : Tryz.prog.globalNamed "rentroll/record.fields" = some 0 := by kernel_rfl
theorem tFields : (Tryz.prog.globals[0]?).map (·.type) = some 156 := by kernel_rfl
theorem uF6 : Tryz.prog.underlying 156 = some (.array 6 155) := by kernel_rfl
theorem uF2 : Tryz.prog.underlying 155 = some (.array 2 3) := by kernel_rfl
theorem cF2 : Tryz.prog.cellsOf 155 = 2 := by kernel_rfl
theorem cF1 : Tryz.prog.cellsOf 3 = 1 := by kernel_rfl
theorem cF6 : Tryz.prog.cellsOf 156 = 12 := by kernel_rfl
def fieldP : List (Int × Int) := [(323, 8), (8, 4), (225, 4), (361, 2), (362, 2), (230, 1)]
theorem laid_eq : (Rows.laid_rentroll_record_fields : DataW Unit) = .agg (fieldP.map fun p => .agg [.lit (.int .i64 p.1), .lit (.int .i64 p.2)]) := rfl

theorem door_met (os : Os) (args : Array Value) : laidMetH Tryz.prog laidL ((World.doorLaid Tryz.prog 400 os).forCall (fun _ _ => 0) ⟨#[], args, []⟩).memory :=
  laidMetH_of_parts3 (fuel := 8) (laidMet_of_run' 8 (by kernel_rfl) (by kernel_rfl)) (by kernel_rfl) (by kernel_rfl)

/-- What the list says: the cells of the variable. -/
theorem fields_of_laid {W : World} (h : laidMetH Tryz.prog laidL W) : ∀ j, j < 12 → W.cell? ⟨0, j, none⟩ = some (.int .i64 (fieldsL.getD j 0)) := by
  rw [MakeChecks.laidMetH_plain _ _ _ (by kernel_rfl)] at h
  obtain ⟨ps, ⟨g0, t0, cs0, f0, p0, q0, hg0, ht0, hv0, hd0, _, _⟩, _, _⟩ := h
  obtain rfl := Option.some.inj (gFields.symm.trans hg0)
  obtain rfl := Option.some.inj (tFields.symm.trans ht0)
  obtain ⟨xs, m1, rfl, hx1, hlen, hn6, hel⟩ := DataW.trod_array uF6 hd0
  rw [cF6] at hlen
  rw [laid_eq] at hx1
  simp only [Prod.mk.injEq, DataW.agg.injEq] at hx1
  have key : ∀ i, i < 6 → ∀ k, k < 2 → cs0.toList[i * 2 + k]? = some (.int .i64 (fieldsL.getD (i * 2 + k) 0)) := by
    intro i hi k hk
    have h1 := hel i hi
    rw [cF2] at h1
    have hxi : xs[i]? = some (xs[i]'(by omega)) := List.getElem?_eq_getElem (by omega)
    rw [hxi] at h1
    obtain ⟨ys, m2, rfl, hy, hyl, hy2, hey⟩ := DataW.trod_array uF2 h1
    have hk1 := hey k hk
    rw [cF1] at hk1
    have hyk : ys[k]? = some (ys[k]'(by omega)) := List.getElem?_eq_getElem (by omega)
    rw [hyk] at hk1
    obtain ⟨z, e1, e2, _⟩ := DataW.trod_int Tryz.underlying3 hk1
    have hdi : (xs[i]'(by omega)).1 = .agg (ys.map (·.1)) := by rw [hy]
    have hL : (xs.map (·.1))[i]? = some (.agg (ys.map (·.1))) := by rw [List.getElem?_map, hxi, Option.map_some, hdi]
    rw [← hx1.1] at hL
    have hz : (ys.map (·.1))[k]? = some (.lit (.int .i64 z)) := by rw [List.getElem?_map, hyk, Option.map_some, e2]
    have hcell : cs0.toList[i * 2 + k]? = some (.int .i64 z) := by
      have : ((((cs0.toList.drop (i * 2)).take 2).drop (k * 1)).take 1)[0]? = some (.int .i64 z) := by rw [e1]; rfl
      rw [List.getElem?_take, if_pos (by omega), List.getElem?_drop, List.getElem?_take, if_pos (by omega), List.getElem?_drop] at this
      simpa using this
    rw [hcell]
    have hall : ∀ i, i < 6 → ∀ k, k < 2 → ∀ l : List (DataW Unit), (fieldP.map fun p => (DataW.agg [.lit (.int .i64 p.1), .lit (.int .i64 p.2)] : DataW Unit))[i]? = some (.agg l) → l[k]? = some (.lit (.int .i64 (fieldsL.getD (i * 2 + k) 0))) := by
      intro i hi k hk l hl
      match i, k, hi, hk, hl with
      | 0, 0, _, _, hl => cases hl; rfl
      | 0, 1, _, _, hl => cases hl; rfl
      | 1, 0, _, _, hl => cases hl; rfl
      | 1, 1, _, _, hl => cases hl; rfl
      | 2, 0, _, _, hl => cases hl; rfl
      | 2, 1, _, _, hl => cases hl; rfl
      | 3, 0, _, _, hl => cases hl; rfl
      | 3, 1, _, _, hl => cases hl; rfl
      | 4, 0, _, _, hl => cases hl; rfl
      | 4, 1, _, _, hl => cases hl; rfl
      | 5, 0, _, _, hl => cases hl; rfl
      | 5, 1, _, _, hl => cases hl; rfl
    have := hall i hi k hk _ hL
    rw [hz] at this
    simp only [Option.some.injEq, DataW.lit.injEq, Lit.int.injEq, true_and] at this
    rw [this]
  intro j hj
  rw [World.var?_cell hg0 hv0 j, ← Array.getElem?_toList]
  have := key (j / 2) (by omega) (j % 2) (by omega)
  rwa [show j / 2 * 2 + j % 2 = j by omega] at this

def glF (i : Nat) : AV := if i = 0 then .xp (ints fieldsL) 0 else .any
theorem glF_0 : glF 0 = .xp (ints fieldsL) 0 := rfl
theorem glF_ok {W : World} (h : ∀ j, j < 12 → W.cell? ⟨0, j, none⟩ = some (.int .i64 (fieldsL.getD j 0))) (i : Nat) : VR (fun _ => .un) (fun _ => False) W (glF i) (.pointer (some ⟨i, 0, none⟩)) := by
  unfold glF
  split
  · rename_i e
    subst e
    have hl : (ints fieldsL).length = 12 := rfl
    have hx := VR.xp (g := fun _ => GM.un) (W := fun _ => False) (w := W) (cs := ints fieldsL) (off := 0) (k := 0) (o := 0) (us := fun j => .int .i64 (fieldsL.getD j 0)) (fun j hj => by
      rw [hl] at hj
      exact ⟨by have := h j hj; rw [Nat.zero_add]; exact this, id, rfl⟩) (fun j hj => by
      rw [hl] at hj
      rw [ints_get (show j < fieldsL.length from hj)]
      exact .int _ _)
    simpa using hx
  · exact .any _

set_option maxRecDepth 100000 in
theorem law_liftedL {f : FuncId} {fn : Func} (noInit : Tryz.prog.inits.idxOf? f = none) (hfn : Tryz.prog.funcs[f]? = some fn)
    (hrd : ∀ t ∈ fn.params.toList, Tryz.prog.readableRec t = true ∧ t < Tryz.prog.types.size) (hres : fn.resultTypes = #[4])
    (s : ChangeSpec) (hv : s.vars = []) (hs : ∀ (H : Type) (ds : List (DataW H)), ds.length = fn.params.size → s.fn H ds = { results := [.lit (.bool true)], args := ds, vars := [] })
    (os : Os) (started : os.Started) (H : Type) (enc : TypeId × Value → H)
    (witness : ∃ (w : World) (tape : Tape) (i : Input), w.os = os ∧ (w.forCall tape i).Shaped Tryz.prog ∧ i.vars = [] ∧ Input.okWide Tryz.prog (w.forCall tape i) .any w.heap.size f i ∧
      ((s.pre enc Tryz.prog fn [] false (w.forCall tape i).memory i.args ∧ laidMetH Tryz.prog laidL (w.forCall tape i).memory) ∧ sizedMet enc Tryz.prog fn (OpenSpec.ofChange s) false (w.forCall tape i).memory i.args) ∧ ({} : Assume).holds Tryz.prog (lone (Frame.enter Tryz.prog f i.args .normal) [] (w.forCall tape i)))
    (contract : ∀ (W : World) (base : Nat) (args : Array Value) (ds : List (DataW H)), ArgsIn H enc Tryz.prog fn W base args ds → (∀ i, VR (fun _ => .un) (fun _ => False) W (glF i) (.pointer (some ⟨i, 0, none⟩))) →
      Calls Tryz.prog f args W fun e W' => e = .returned (.bool true) ∧ Below W.heap.size W W') :
    ReturnsInHanded {} Tryz.checked os f .any (fun w args => (s.pre enc Tryz.prog fn [] false w args ∧ laidMetH Tryz.prog laidL w) ∧ sizedMet enc Tryz.prog fn (OpenSpec.ofChange s) false w args) (s.post enc Tryz.prog fn false true false false) := by
  refine returnsInHanded_of_change_and (C := Tryz.checked) (X := fun w _ => laidMetH Tryz.prog laidL w) (fun _ _ _ hh h => h.of_heap hh) Tryz.own started noInit hfn witness ?_
  intro W base args ds gs before hval hW _ hsz hL _
  have hW' := hW
  obtain ⟨p, q, hA, hV, rfl, hfz, hnd⟩ := hW
  have hgs : gs = [] ∧ q = [] := by
    rw [hv] at hV
    exact trodVars_none hV
  obtain ⟨rfl, rfl⟩ := hgs
  have hty : s.plain.varTypes Tryz.checked.prog = [] := by
    simp [ChangeSpec.plain, hv, DataSpec.varTypes]
  rw [hty, List.append_nil, List.append_nil] at hsz
  refine (contract W base args ds ⟨hval, ⟨p, hA⟩, hsz⟩ (glF_ok (fields_of_laid hL))).mono fun e W' ⟨he, bel⟩ => ?_
  subst he
  have hlen : ds.length = fn.params.size := by rw [trodAll_length hA]; simp
  have hS := hs H (ds ++ []) (by simpa using hlen)
  refine ⟨_, rfl, ds, [], p ++ [], [], p, [], hW', ?_, ?_, ?_, bel.frame _, fun h => by cases h⟩
  · rw [hS, hres]
    exact trodAll_mk1 (shut_bool Tryz.underlying4 _)
  · rw [hS]
    simp only [List.append_nil]
    exact trodAll_below Tryz.laidOut bel hrd hA
  · rw [hS, hv]
    simp [DataW.TrodVars]
end Go.Proofs.YtogckmommodmhaaGreatDoor
