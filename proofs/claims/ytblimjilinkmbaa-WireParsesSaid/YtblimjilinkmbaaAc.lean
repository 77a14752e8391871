/- From the model's operations to the quiet ones: which they are, and that they yield what is said. No conditions but the ones that stand in each. -/
import Derived.Test.YtblimjilinkmbaaAb
import Derived.Laws.BytesString
namespace Go.Proofs.Ytblimjilinkmbaa
set_option linter.all false
set_option linter.unusedSimpArgs false
open Go.RowKit

inductive TV where
  | t (i : Nat)
  | c (v : AV)
  | gl (i : Nat)

def ofS : Value → AV
  | .int k n => .int k n
  | .bool b => .bool b
  | .string s => .str s.data.toList
  | .slice none 0 0 => .nils
  | v => .lit v
def ofV : Value → AV
  | .agg cs => if cs.all (·.oneCell') then .agg (cs.toList.map ofS) else .lit (.agg cs)
  | v => ofS v
def tvO : Operand → TV
  | .tmp t => .t t
  | .const v => .c (ofV v)
  | .global i => .gl i
  | .func f => .c (.cl f [])
def evT (gl : Nat → AV) (s : FS) : TV → AV
  | .t i => s.T i
  | .c v => v
  | .gl i => gl i

def skOf (P : Program) (t : TypeId) : Option SK :=
  match P.underlying t with
  | some (.int k) => some (.int k)
  | some .bool => some .bool
  | some .string => some .str
  | some (.pointer _) | some (.slice _) | some (.map _ _) | some (.func _ _ _) => some .ref
  | _ => none
def sizeT (P : Program) (t : TypeId) : Option Nat := (P.info? t).map (·.size)
def tyOf (P : Program) (t : TypeId) : Option TY :=
  match P.underlying t with
  | some (.struct _) | some (.array _ _) => (sizeT P t).map .ag
  | _ => if sizeT P t = some 1 then (skOf P t).map .sc else none
def partsOf (P : Program) (fs : Array Field) : List Nat → Option (List (Nat × Nat))
  | [] => some []
  | i :: r => match fs[i]? with
    | some f => match sizeT P f.type, partsOf P fs r with
      | some m, some l => some ((f.offset, m) :: l)
      | _, _ => none
    | none => none

def elabBin (P : Program) (op : BinOp) (t : TypeId) (x y : Operand) : Option (Q1 × List Operand) :=
  match P.underlying t with
  | some (.int k) => match op with
    | .add | .sub | .mul => some (.ar op k, [x, y])
    | .quo | .rem => some (.dv op k, [x, y])
    | .and | .or | .xor | .andNot => some (.bt op k, [x, y])
    | .shl | .shr => some (.sh op k, [x, y])
    | _ => some (.cm op k, [x, y])
  | some .bool => match op with
    | .eql => some (.cB false, [x, y])
    | .neq => some (.cB true, [x, y])
    | _ => none
  | some .string => match op with
    | .add => some (.cat, [x, y])
    | .eql => some (.cS false, [x, y])
    | .neq => some (.cS true, [x, y])
    | _ => none
  | some (.pointer _) => match op, y with
    | .eql, .const (.pointer none) => some (.nilP false, [x])
    | .neq, .const (.pointer none) => some (.nilP true, [x])
    | _, _ => none
  | _ => none

def elabQ (P : Program) (o : Oper) : Option (Q1 × List Operand) :=
  match o.op with
  | .move x => some (.mv, [x])
  | .assign x => some (.mv, [x])
  | .pick c a b => some (.pick, [c, a, b])
  | .unOp .not _ x => some (.not, [x])
  | .binOp op t x y _ => elabBin P op t x y
  | .convert s d x => match P.underlying s, P.underlying d with
    | some (.int _), some (.int k) => some (.cv k, [x])
    | some (.slice e), some .string => match P.underlying e with
      | some (.int .u8) => some (.b2s, [x])
      | _ => none
    | _, _ => none
  | .field t x f => match P.underlying t with
    | some (.struct fs) => match fs[f]? with
      | some fd => (tyOf P fd.type).map fun ty => (.fld ty fd.offset, [x])
      | none => none
    | _ => none
  | .index t x i => match P.underlying t with
    | some (.array n e) => match tyOf P e, sizeT P e with
      | some ty, some es => some (.ixA es n ty, [x, i])
      | _, _ => none
    | some .string => some (.ixS, [x, i])
    | _ => none
  | .fieldAddr t x f => match P.underlying t with
    | some (.struct fs) => match fs[f]? with
      | some fd => match sizeT P fd.type with
        | some (_ + 1) => some (.fadr fd.offset, [x])
        | _ => none
      | none => none
    | _ => none
  | .indexAddr t x i => match P.underlying t with
    | some (.array n e) => (sizeT P e).map fun es => (.iadrA n es, [x, i])
    | some (.slice e) => (sizeT P e).map fun es => (.iadrS es, [x, i])
    | _ => none
  | .load t x => (tyOf P t).map fun ty => (.ld ty, [x])
  | .call ⟨.builtin .len, ⟨[x]⟩, ⟨[t]⟩⟩ => match P.underlying t with
    | some .string => some (.lenS, [x])
    | some (.slice _) => some (.lenL, [x])
    | some (.map _ _) => some (.lenM, [x])
    | _ => none
  | .call ⟨.builtin .min, ⟨[x, y]⟩, _⟩ => match P.underlying o.type with
    | some (.int k) => some (.mn k, [x, y])
    | _ => none
  | .call ⟨.builtin .max, ⟨[x, y]⟩, _⟩ => match P.underlying o.type with
    | some (.int k) => some (.mx k, [x, y])
    | _ => none
  | .slice t x lo hi none => match P.underlying t with
    | some .string => some (.slS lo.isSome hi.isSome, x :: (lo.toList ++ hi.toList))
    | some (.slice e) => (sizeT P e).map fun es => (.slL es lo.isSome hi.isSome, x :: (lo.toList ++ hi.toList))
    | _ => none
  | .extract x i => some (.ext i, [x])
  | .nilCheck x => some (.nilck, [x])
  | .build t parts => match (P.info? t).bind (·.zero), P.underlying t with
    | some (.agg z), some (.struct fs) => if z.all (·.oneCell') && fs.all (fun f => (sizeT P f.type).isSome) then (partsOf P fs (parts.toList.map (·.1))).map fun ps => (.bld (z.toList.map ofS) ps, parts.toList.map (·.2)) else none
    | some (.agg z), some (.array _ e) => if z.all (·.oneCell') then (sizeT P e).map fun m => (.bld (z.toList.map ofS) (parts.toList.map fun p => (p.1 * m, m)), parts.toList.map (·.2)) else none
    | _, _ => none
  | .makeFunc (.func f) ⟨[]⟩ caps => some (.mkf f, caps.toList)
  | _ => none

section
variable {P : Program} {g : Nat → GM} {W : Nat → Prop} {w : World}

theorem VR.isI {k : IntKind} {x : AV} {v : Value} (h : VR g W w x v) (hk : isI k x) : v = .int k (asI x) := by
  cases h <;> simp_all [Proofs.Ytblimjilinkmbaa.isI, asI]
theorem VR.isN {x : AV} {v : Value} (h : VR g W w x v) (hk : isN x) : ∃ k, v = .int k (asI x) := by
  cases h <;> simp_all [Proofs.Ytblimjilinkmbaa.isN, asI]
theorem VR.isB {x : AV} {v : Value} (h : VR g W w x v) (hk : isB x) : v = .bool (asB x) := by
  cases h <;> simp_all [Proofs.Ytblimjilinkmbaa.isB, asB]
theorem VR.isS {x : AV} {v : Value} (h : VR g W w x v) (hk : isS x) : v = .string ⟨(asS x).toArray⟩ := by
  cases h <;> simp_all [Proofs.Ytblimjilinkmbaa.isS, asS]
theorem VR.one {x : AV} {v : Value} (h : VR g W w x v) (hk : one x) : v.oneCell' = true := by
  cases h <;> simp_all [Proofs.Ytblimjilinkmbaa.one, Value.oneCell']
theorem VR.okS {k : SK} {x : AV} {v : Value} (h : VR g W w x v) (hk : okS k x) : VR g W w (wrS k x) v := by
  cases k with
  | int k => rw [h.isI hk]; exact .int _ _
  | bool => rw [h.isB hk]; exact .bool _
  | str => rw [h.isS hk]; exact .str _
  | ref => exact h
theorem ofS_ok (v : Value) : VR g W w (ofS v) v := by
  unfold ofS
  split
  · exact .int _ _
  · exact .bool _
  · rename_i s
    have : Value.string s = .string ⟨s.data.toList.toArray⟩ := by cases s; simp
    rw [this]; exact .str _
  · exact .nils _
  · exact .lit _
theorem ofV_ok (v : Value) : VR g W w (ofV v) v := by
  unfold ofV
  split
  · rename_i cs
    split
    · rename_i h
      refine .agg (by simp) (fun j hj => ?_) fun j hj => ?_
      · have hj' : j < cs.size := by simpa using hj
        have := (Array.all_eq_true.1 h) j hj'
        simpa [Array.getD, hj'] using this
      · have hj' : j < cs.size := by simpa using hj
        have e : cs.getD j undef = cs[j] := by simp [Array.getD, hj']
        have e' : (cs.toList.map ofS).getD j .any = ofS cs[j] := by simp [hj']
        rw [e, e']; exact ofS_ok _
    · exact .lit _
  · exact ofS_ok _
theorem R.ev {c : Cx} {s : FS} {a : Act} (hR : R c g s a w) (x : Operand) : VR g (wset c g s) w (evT c.gl s (tvO x)) (a.eval x) := by
  cases x with
  | tmp t => exact hR.t t
  | const v => exact ofV_ok v
  | global i => exact (hR.gl i).mono (Fr.refl _ _) (fun _ _ h => h) (fun _ h => absurd rfl h)
  | func f => exact .cl rfl (fun j hj => absurd hj (by simp))
end
end Go.Proofs.Ytblimjilinkmbaa
