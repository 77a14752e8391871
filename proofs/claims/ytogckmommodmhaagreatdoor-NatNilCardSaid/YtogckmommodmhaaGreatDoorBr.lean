/- From contracts of the first way to those of the second: arguments and results that are plain values. No conditions but the ones that stand in each. -/
import Derived.Test.YtogckmommodmhaaGreatDoorE2
import Derived.Test.YtogckmommodmhaaGreatDoorB0
namespace Go.Proofs.YtogckmommodmhaaGreatDoor
set_option linter.all false
set_option linter.unusedSimpArgs false
open Go.RowKit

/-- An abstract value of which there is just one. -/
def Fix (x : AV) (v : Value) : Prop := ∀ (g : Nat → GM) (W : Nat → Prop) (w : World) (u : Value), VR g W w x u ↔ u = v
def FixL : List AV → List Value → Prop
  | [], [] => True
  | x :: xs, v :: vs => Fix x v ∧ v.oneCell' = true ∧ FixL xs vs
  | _, _ => False
def FixA : List AV → List Value → Prop
  | [], [] => True
  | x :: xs, v :: vs => Fix x v ∧ FixA xs vs
  | _, _ => False
theorem Fix.int (k : IntKind) (n : Int) : Fix (.int k n) (.int k n) := fun _ _ _ u => ⟨fun h => by cases h; rfl, fun h => by subst h; exact .int _ _⟩
theorem Fix.bool (b : Bool) : Fix (.bool b) (.bool b) := fun _ _ _ u => ⟨fun h => by cases h; rfl, fun h => by subst h; exact .bool _⟩
theorem FixL.len : ∀ {xs : List AV} {vs : List Value}, FixL xs vs → xs.length = vs.length
  | [], [], _ => rfl
  | _ :: _, _ :: _, h => by simp [FixL.len h.2.2]
  | [], _ :: _, h => h.elim
  | _ :: _, [], h => h.elim
theorem FixL.get : ∀ {xs : List AV} {vs : List Value}, FixL xs vs → ∀ j, j < xs.length → Fix (xs.getD j .any) (vs.getD j undef) ∧ (vs.getD j undef).oneCell' = true
  | [], [], _, j, hj => by simp at hj
  | _ :: _, _ :: _, h, 0, _ => ⟨h.1, h.2.1⟩
  | _ :: _, _ :: _, h, j + 1, hj => by simpa using FixL.get h.2.2 j (by simpa using hj)
  | [], _ :: _, h, _, _ => h.elim
  | _ :: _, [], h, _, _ => h.elim
theorem FixA.len : ∀ {xs : List AV} {vs : List Value}, FixA xs vs → xs.length = vs.length
  | [], [], _ => rfl
  | _ :: _, _ :: _, h => by simp [FixA.len h.2]
  | [], _ :: _, h => h.elim
  | _ :: _, [], h => h.elim
theorem FixA.get : ∀ {xs : List AV} {vs : List Value}, FixA xs vs → ∀ j, j < xs.length → Fix (xs.getD j .any) (vs.getD j undef)
  | [], [], _, j, hj => by simp at hj
  | _ :: _, _ :: _, h, 0, _ => h.1
  | _ :: _, _ :: _, h, j + 1, hj => by simpa using FixA.get h.2 j (by simpa using hj)
  | [], _ :: _, h, _, _ => h.elim
  | _ :: _, [], h, _, _ => h.elim
theorem row_eq {us : Array Value} {vs : List Value} (hs : us.size = vs.length) (h : ∀ j, j < vs.length → us.getD j undef = vs.getD j undef) : us = vs.toArray := by
  apply Array.ext
  · simpa using hs
  · intro i h1 h2
    have := h i (by simpa using h2)
    simp only [Array.getD_eq_getD_getElem?, Array.getElem?_eq_getElem h1, List.getD, List.getElem?_eq_getElem (show i < vs.length by simpa using h2), Option.getD_some] at this
    simpa using this
theorem getD_toArray (vs : List Value) (j : Nat) : vs.toArray.getD j undef = vs.getD j undef := by simp [Array.getD_eq_getD_getElem?, List.getD]
theorem Fix.agg {xs : List AV} {vs : List Value} (h : FixL xs vs) : Fix (.agg xs) (.agg vs.toArray) := fun g W w u => ⟨fun hu => by
    obtain ⟨us, rfl, hs, _, hv⟩ := agg_inv hu
    rw [row_eq (vs := vs) (by rw [hs, h.len]) fun j hj => ((h.get j (by rw [h.len]; exact hj)).1 g W w _).1 (hv j (by rw [h.len]; exact hj))], fun e => by
    subst e
    exact .agg (by simp [h.len]) (fun j hj => by rw [getD_toArray]; exact (h.get j hj).2) fun j hj => by rw [getD_toArray]; exact ((h.get j hj).1 g W w _).2 rfl⟩
theorem Fix.tup {xs : List AV} {vs : List Value} (h : FixA xs vs) : Fix (.tup xs) (.tuple vs.toArray) := fun g W w u => ⟨fun hu => by
    obtain ⟨us, rfl, hs, hv⟩ := tup_inv hu
    rw [row_eq (vs := vs) (by rw [hs, h.len]) fun j hj => ((h.get j (by rw [h.len]; exact hj)) g W w _).1 (hv j (by rw [h.len]; exact hj))], fun e => by
    subst e
    exact .tup (by simp [h.len]) fun j hj => by rw [getD_toArray]; exact ((h.get j hj) g W w _).2 rfl⟩
theorem FixL.ints : ∀ l : List Int, FixL (ints l) (l.map (.int .i64))
  | [] => trivial
  | n :: l => ⟨Fix.int _ n, rfl, FixL.ints l⟩
theorem FixL.bools : ∀ l : List Bool, FixL (bools l) (l.map .bool)
  | [] => trivial
  | b :: l => ⟨Fix.bool b, rfl, FixL.bools l⟩
theorem FixL.app : ∀ {xs ys : List AV} {vs us : List Value}, FixL xs vs → FixL ys us → FixL (xs ++ ys) (vs ++ us)
  | [], _, [], _, _, h => h
  | _ :: _, _, _ :: _, _, h, k => ⟨h.1, h.2.1, FixL.app h.2.2 k⟩
  | [], _, _ :: _, _, h, _ => h.elim
  | _ :: _, _, [], _, h, _ => h.elim
theorem FixA.args {g : Nat → GM} {W : Nat → Prop} {w : World} : ∀ {xs : List AV} {vs us : List Value}, FixA xs vs → VRs g W w xs us → us = vs
  | [], [], [], _, _ => rfl
  | _ :: _, _ :: _, _ :: _, h, k => by rw [(h.1 g W w _).1 k.1, FixA.args h.2 k.2]
  | [], _ :: _, _, h, _ => h.elim
  | _ :: _, [], _, h, _ => h.elim
  | [], [], _ :: _, _, k => k.elim
  | _ :: _, _ :: _, [], _, k => k.elim
theorem Fr.of_ext {w w' : World} (h : Ext w w') : Fr w w' (fun _ => False) :=
  ⟨h.os, h.tape, h.output, h.size, fun k hk _ => h.block k hk, fun k cur e fz hk => ⟨cur, (h.block k (heap_lt hk)).trans hk, rfl⟩⟩
/-- A contract of the first way, of plain values. -/
theorem PS.of_calls {P : Program} {gl : Nat → AV} {f : FuncId} {args : List AV} {vs : List Value} {r : AV} {v : Value} (hc : Callable P f) (ha : FixA args vs) (hr : Fix r v)
    (h : ∀ w, Calls P f vs.toArray w fun e w' => e = .returned v ∧ Ext w w') : PS P gl f args r :=
  ⟨hc, fun w us X _ _ hv => by
    rw [ha.args hv]
    exact (h w).mono fun e w' ⟨e1, e2⟩ => ⟨v, e1, (hr _ _ _ _).2 rfl, .of_ext e2⟩⟩
theorem FixA.vrs {g : Nat → GM} {W : Nat → Prop} {w : World} : ∀ {xs : List AV} {vs : List Value}, FixA xs vs → VRs g W w xs vs
  | [], [], _ => trivial
  | _ :: _, _ :: _, h => ⟨(h.1 g W w _).2 rfl, FixA.vrs h.2⟩
  | [], _ :: _, h => h.elim
  | _ :: _, [], h => h.elim
/-- And back. -/
theorem PS.to_calls {P : Program} {f : FuncId} {args : List AV} {vs : List Value} {r : AV} {v : Value} (h : PS P (fun _ => .any) f args r) (ha : FixA args vs) (hr : Fix r v) (w : World) :
    Calls P f vs.toArray w fun e w' => e = .returned v ∧ Ext w w' :=
  (h.2 w vs (fun _ => False) (fun _ h => h.elim) (fun _ => .any _) ha.vrs).mono fun e w' ⟨u, e1, e2, e3⟩ => by
    rw [(hr _ _ _ _).1 e2] at e1
    exact ⟨e1, e3.os, e3.tape, e3.output, e3.size, fun k hk => e3.keep k hk fun h => h.elim⟩
end Go.Proofs.YtogckmommodmhaaGreatDoor
