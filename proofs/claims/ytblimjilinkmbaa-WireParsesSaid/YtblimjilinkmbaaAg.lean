/- Operations as local actions; rows of them in the order of the text. No conditions but the ones that stand in each. -/
import Derived.Test.YtblimjilinkmbaaAf
import Derived.Orders
namespace Go.Proofs.Ytblimjilinkmbaa
set_option linter.all false
set_option linter.unusedSimpArgs false
open Go.RowKit

inductive PK where
  | call (f : FuncId)
  | callv
  | app (es by_ : Nat) (str : Bool)
  | bsl (es len : Nat) (zero : List AV) (parts : List (Nat × Nat))
  | s2b
  | cA (ne : Bool) (t : TypeId)
  | mkm (t : TypeId)
  | upd (t : TypeId)
  | lkp (t : TypeId) (ok : Bool)
  | del (t : TypeId)
  | clr (t : TypeId)
  | cpy (t : TypeId)
  | rng (t : TypeId)
  | nxt
  | ent
  | sl3 (es : Nat) (lo hi : Bool)
  | men (t : TypeId)
  | mst (t : TypeId)

inductive TOp where
  | q (d : Nat) (q : Q1) (xs : List TV) (gd : Option (Nat × Bool))
  | al (d : Nat) (z : List AV)
  | bx (d : Nat) (x : TV)
  | sto (ty : TY) (a v : TV)
  | pd (d : Option Nat) (k : PK) (xs : List TV) (gd : Option (Nat × Bool))

def gdOf (ops : Array Oper) (o : Oper) : Option (Option (Nat × Bool)) :=
  match o.guard with
  | none => some none
  | some (j, b) => match (ops[j]?).bind (·.dst) with
    | some t => some (some (t, b))
    | none => none
def elabPK (P : Program) (o : Oper) : Option (PK × List Operand) :=
  match o.op with
  | .call ⟨.value (.func f), args, _⟩ => some (.call f, args.toList)
  | .call ⟨.value x, args, _⟩ => some (.callv, x :: args.toList)
  | .call ⟨.builtin .append, ⟨[x, y]⟩, ⟨[t, u]⟩⟩ => match P.underlying t with
    | some (.slice e) => match P.info? e with
      | some i => match i.zero with
        | some z => if z.cells.size = i.size ∧ 0 < i.size then (if u = t then some (.app i.size i.bytes false, [x, y]) else match P.underlying u with
          | some .string => some (.app i.size i.bytes true, [x, y])
          | _ => none) else none
        | none => none
      | none => none
    | _ => none
  | .call ⟨.builtin .delete, ⟨[x, y]⟩, ⟨[t, _]⟩⟩ => some (.del t, [x, y])
  | .call ⟨.builtin .clear, ⟨[x]⟩, ⟨[t]⟩⟩ => some (.clr t, [x])
  | .call ⟨.builtin .copy, ⟨[x, y]⟩, ⟨[t, _]⟩⟩ => some (.cpy t, [x, y])
  | .buildSlice t len parts => match P.underlying t with
    | some (.slice e) => match P.info? e with
      | some i => match i.zero with
        | some z => if z.cells.size = i.size ∧ 0 < i.size ∧ z.cells.all (·.oneCell') ∧ len * i.size ≤ 2 ^ 24 ∧ len ≤ 2 ^ 24 then some (.bsl i.size len (z.cells.toList.map ofS) (parts.toList.map fun p => (p.1 * i.size, i.size)), parts.toList.map (·.2)) else none
        | none => none
      | none => none
    | _ => none
  | .convert s d x => match P.underlying s, P.underlying d with
    | some .string, some (.slice e) => match P.underlying e with
      | some (.int .u8) => some (.s2b, [x])
      | _ => none
    | _, _ => none
  | .binOp .eql t x y _ => some (.cA false t, [x, y])
  | .binOp .neq t x y _ => some (.cA true t, [x, y])
  | .lookup t m k ok => some (.lkp t ok, [m, k])
  | .mapUpdate t m k v => some (.upd t, [m, k, v])
  | .makeMap t _ => some (.mkm t, [])
  | .range t x => some (.rng t, [x])
  | .next x false => some (.nxt, [x])
  | .entry x => some (.ent, [x])
  | .slice t x lo hi (some mx) => match P.underlying t with
    | some (.slice e) => (sizeT P e).map fun es => (.sl3 es lo.isSome hi.isSome, x :: (lo.toList ++ hi.toList ++ [mx]))
    | _ => none
  | .mapEntry t m k => some (.men t, [m, k])
  | .entryStore t m s v => some (.mst t, [m, s, v])
  | _ => none
def elabOp (P : Program) (N : Nat) (ops : Array Oper) (o : Oper) : Option TOp :=
  match gdOf ops o with
  | none => none
  | some gd =>
    match o.op, o.dst with
    | .alloc t, some d => match gd, (P.info? t).bind (·.zero) with
      | none, some z => if d < N ∧ z.cells.all (·.oneCell') then some (.al d (z.cells.toList.map ofS)) else none
      | _, _ => none
    | .box _ x, some d => if d < N ∧ gd = none then some (.bx d (tvO x)) else none
    | .store t a v, none => match gd, tyOf P t with
      | none, some ty => some (.sto ty (tvO a) (tvO v))
      | _, _ => none
    | _, dst => match elabQ P o, dst with
      | some (q, xs), some d => if d < N then some (.q d q (xs.map tvO) gd) else none
      | _, _ => match elabPK P o with
        | some (k, xs) => if dst.all (· < N) then some (.pd dst k (xs.map tvO) gd) else none
        | none => none

/-! ### Local actions -/
structure Foot where
  rt : List Nat
  rb : List Nat
  wt : List Nat
  wb : List Nat
def ovr (s2 s' : FS) (F : Foot) : FS := ⟨fun i => if i ∈ F.wt then s'.T i else s2.T i, fun b => if b ∈ F.wb then s'.H b else s2.H b⟩
def Exec1 (P : Program) (ops : Array Oper) (io : Oper) (a : Act) (w : World) (K : Act → World → Prop) (Q : Exit → Act → World → Prop) : Prop :=
  if Region.wanted io (yielded ops a.tmps) then io.wp P a w K Q else K (a.put io.dst undef) w
structure AOk (P : Program) (c : Cx) (ops : Array Oper) (io : Oper) (s : FS) (F : Foot) (s' : FS) : Prop where
  outT : ∀ i, i ∉ F.wt → s'.T i = s.T i
  outH : ∀ b, b ∉ F.wb → s'.H b = s.H b
  step : ∀ s2 : FS, (∀ i ∈ F.rt, s2.T i = s.T i) → (∀ b ∈ F.rb, s2.H b = s.H b) → ∀ g a w, R c g s2 a w → ∀ K Q', (∀ g' a' w', R c g' (ovr s2 s' F) a' w' → K a' w') → Exec1 P ops io a w K Q'
theorem ovr_self {s s' : FS} {F : Foot} (hT : ∀ i, i ∉ F.wt → s'.T i = s.T i) (hH : ∀ b, b ∉ F.wb → s'.H b = s.H b) : ovr s s' F = s' := by
  unfold ovr
  cases s'
  congr 1
  · funext i; split
    · rfl
    · rename_i h; exact (hT i h).symm
  · funext b; split
    · rfl
    · rename_i h; exact (hH b h).symm

def strip : AV → AV
  | .cnd _ v => v
  | v => v
def ob : Option Bool → Prop → Prop
  | none, p => p
  | some c, p => c = true → p
def cok (c : Option Bool) : AV → Prop
  | .cnd b _ => ob c (b = true)
  | _ => True
def cokAll (c : Option Bool) : List AV → Prop
  | [] => True
  | x :: xs => cok c x ∧ cokAll c xs
def cokP (c : Option Bool) : Q1 → List AV → Prop
  | .pick, [x, y, z] => cok c x ∧ ob c (asB (strip x) = true → cok none y) ∧ ob c (asB (strip x) = false → cok none z)
  | _, xs => cokAll c xs
def cw : Option Bool → AV → AV
  | none, v => v
  | some c, v => .cnd c v
def gB (s : FS) : Option (Nat × Bool) → Option Bool
  | none => none
  | some (t, want) => match s.T t with
    | .bool b => some (b == want)
    | .cnd c (.bool b) => some (c && (b == want))
    | _ => some false
def gOk (s : FS) : Option (Nat × Bool) → Prop
  | none => True
  | some (t, _) => match s.T t with
    | .bool _ => True
    | .cnd _ (.bool _) => True
    | _ => False
def evs (gl : Nat → AV) (s : FS) (xs : List TV) : List AV := xs.map (evT gl s)
def qOk (gl : Nat → AV) (s : FS) (q : Q1) (xs : List TV) (gd : Option (Nat × Bool)) : Prop :=
  gOk s gd ∧ cokP (gB s gd) q (evs gl s xs) ∧ ob (gB s gd) (qp q ((evs gl s xs).map strip) (blkOf s ((evs gl s xs).map strip)))
def qRes (gl : Nat → AV) (s : FS) (q : Q1) (xs : List TV) (gd : Option (Nat × Bool)) : AV :=
  cw (gB s gd) (qv q ((evs gl s xs).map strip) (blkOf s ((evs gl s xs).map strip)))
def tmpsOf : List TV → List Nat
  | [] => []
  | .t i :: r => i :: tmpsOf r
  | _ :: r => tmpsOf r
def gdT : Option (Nat × Bool) → List Nat
  | none => []
  | some (t, _) => [t]
def qFoot (gl : Nat → AV) (s : FS) (d : Nat) (xs : List TV) (gd : Option (Nat × Bool)) : Foot :=
  ⟨gdT gd ++ tmpsOf xs, (nameOf ((evs gl s xs).map strip)).toList, [d], []⟩

section
variable {P : Program} {c : Cx} {ops : Array Oper} {io : Oper}

theorem evs_congr {gl : Nat → AV} {s s2 : FS} : ∀ {xs : List TV}, (∀ i ∈ tmpsOf xs, s2.T i = s.T i) → evs gl s2 xs = evs gl s xs
  | [], _ => rfl
  | .t i :: r, h => by
    have h1 := h i (by simp [tmpsOf])
    have h2 := evs_congr (gl := gl) (xs := r) fun j hj => h j (by simp [tmpsOf, hj])
    simp only [evs, List.map_cons, evT, h1] at *
    rw [h2]
  | .c v :: r, h => by
    have h2 := evs_congr (gl := gl) (xs := r) fun j hj => h j hj
    simp only [evs, List.map_cons, evT] at *
    rw [h2]
  | .gl i :: r, h => by
    have h2 := evs_congr (gl := gl) (xs := r) fun j hj => h j hj
    simp only [evs, List.map_cons, evT] at *
    rw [h2]

theorem wanted_none (h : io.guard = none) (f : Nat → Option Bool) : Region.wanted io f = true := by simp [Region.wanted, h]

/-- What is known of the guard's slot decides whether the operation is wanted. -/
theorem guard_ok {gd : Option (Nat × Bool)} (hgd : gdOf ops io = some gd) {g : Nat → GM} {s : FS} {a : Act} {w : World} (hR : R c g s a w) (hok : gOk s gd) :
    Region.wanted io (yielded ops a.tmps) = (gB s gd).getD true := by
  unfold gdOf at hgd
  cases hg : io.guard with
  | none =>
    rw [hg] at hgd; simp at hgd; subst hgd
    rw [wanted_none hg]; rfl
  | some p =>
    obtain ⟨j, b⟩ := p
    rw [hg] at hgd
    simp only at hgd
    cases ht : (ops[j]?).bind (·.dst) with
    | none => rw [ht] at hgd; simp at hgd
    | some t =>
      rw [ht] at hgd
      simp at hgd; subst hgd
      have hv := hR.t t
      have hy : Region.wanted io (yielded ops a.tmps) = (match a.tmps.getD t undef with | .bool x => x == b | _ => false) := by
        simp only [Region.wanted, hg, yielded, ht, Option.bind_some]
        rw [Array.getD_eq_getD_getElem?]
        cases htt : a.tmps[t]? with
        | none => rfl
        | some v => cases v <;> simp
      rw [hy]
      simp only [gOk] at hok
      simp only [gB]
      split at hok
      · rename_i x e
        rw [e] at hv
        rw [hv.isB trivial]; rfl
      · rename_i x y e
        rw [e] at hv
        generalize a.tmps.getD t undef = rv at hv ⊢
        cases hv with
        | cnd h h0 =>
          cases x with
          | true => rw [(h rfl).isB trivial]; simp [asB]
          | false => rw [h0 rfl]; rfl
      · exact hok.elim

theorem strip_ok {g : Nat → GM} {W : Nat → Prop} {w : World} {x : AV} {v : Value} (h : VR g W w x v) (hc : cok none x) : VR g W w (strip x) v := by
  cases h with
  | cnd h h0 => exact h hc
  | any => exact .any _
  | int => exact .int _ _
  | bool => exact .bool _
  | str => exact .str _
  | agg a b c => exact .agg a b c
  | tup a b => exact .tup a b
  | ptr a => exact .ptr a
  | xp a b => exact .xp a b
  | sl a b c d e f => exact .sl a b c d e f
  | slp a b => exact .slp a b
  | isl a b c d => exact .isl a b c d
  | nils => exact .nils _
  | cl a b => exact .cl a b
  | mp a => exact .mp a
  | lit => exact .lit _
theorem cok_mono {b : Bool} (hb : b = true) {x : AV} (h : cok (some b) x) : cok none x := by
  cases x <;> simp_all [cok, ob]
theorem VRs_strip {g : Nat → GM} {W : Nat → Prop} {w : World} : ∀ {xs : List AV} {vs : List Value}, VRs g W w xs vs → cokAll none xs → VRs g W w (xs.map strip) vs
  | [], [], _, _ => trivial
  | _ :: _, _ :: _, h, hc => ⟨strip_ok h.1 hc.1, VRs_strip h.2 hc.2⟩
  | [], _ :: _, h, _ => h.elim
  | _ :: _, [], h, _ => h.elim
theorem cokAll_mono {b : Bool} (hb : b = true) : ∀ {xs : List AV}, cokAll (some b) xs → cokAll none xs
  | [], _ => trivial
  | _ :: _, h => ⟨cok_mono hb h.1, cokAll_mono hb h.2⟩
theorem R.evs {g : Nat → GM} {s : FS} {a : Act} {w : World} (hR : R c g s a w) : ∀ (xs : List Operand), VRs g (wset c g s) w (Proofs.Ytblimjilinkmbaa.evs c.gl s (xs.map tvO)) (xs.map a.eval)
  | [] => trivial
  | x :: xs => ⟨hR.ev x, R.evs hR xs⟩

theorem blkOf_ok {g : Nat → GM} {s : FS} {a : Act} {w : World} (hR : R c g s a w) (l : List AV) : BRs g (wset c g s) w l (blkOf s l) := by
  intro b hb
  have := hR.h b
  unfold blkOf
  rw [hb]; exact this

/-- The operands as a quiet operation takes them, where it is wanted. -/
theorem q_args {g : Nat → GM} {s : FS} {a : Act} {w : World} (hR : R c g s a w) {q : Q1} {xs : List Operand} (hpk : q = .pick → ∃ x y z, xs = [x, y, z])
    (hc : cokP none q (Proofs.Ytblimjilinkmbaa.evs c.gl s (xs.map tvO))) :
    ∃ as, VRs g (wset c g s) w as (xs.map a.eval) ∧ BRs g (wset c g s) w as (blkOf s ((Proofs.Ytblimjilinkmbaa.evs c.gl s (xs.map tvO)).map strip)) ∧
      (∀ bk, qp q ((Proofs.Ytblimjilinkmbaa.evs c.gl s (xs.map tvO)).map strip) bk → qp q as bk ∧ qv q as bk = qv q ((Proofs.Ytblimjilinkmbaa.evs c.gl s (xs.map tvO)).map strip) bk) := by
  have hev := hR.evs xs
  by_cases hq : q = .pick
  · obtain ⟨x, y, z, rfl⟩ := hpk hq
    subst hq
    obtain ⟨h1, h2, h3, _⟩ := hev
    simp only [Proofs.Ytblimjilinkmbaa.evs, List.map_cons, List.map_nil, cokP, ob] at hc ⊢
    obtain ⟨c1, c2, c3⟩ := hc
    have hx := strip_ok h1 c1
    cases hb : asB (strip (evT c.gl s (tvO x))) with
    | true =>
      refine ⟨[strip (evT c.gl s (tvO x)), strip (evT c.gl s (tvO y)), .any], ⟨hx, strip_ok h2 (c2 hb), .any _, trivial⟩, ?_, fun bk hp => ?_⟩
      · intro b hbn
        have := blkOf_ok hR [strip (evT c.gl s (tvO x)), strip (evT c.gl s (tvO y)), strip (evT c.gl s (tvO z))] b
        refine this ?_
        revert hbn
        cases strip (evT c.gl s (tvO x)) <;> exact id
      · obtain ⟨p1, p2, p3⟩ := hp
        exact ⟨⟨p1, p2, fun h => by rw [hb] at h; cases h⟩, by simp [qv, hb]⟩
    | false =>
      refine ⟨[strip (evT c.gl s (tvO x)), .any, strip (evT c.gl s (tvO z))], ⟨hx, .any _, strip_ok h3 (c3 hb), trivial⟩, ?_, fun bk hp => ?_⟩
      · intro b hbn
        have := blkOf_ok hR [strip (evT c.gl s (tvO x)), strip (evT c.gl s (tvO y)), strip (evT c.gl s (tvO z))] b
        refine this ?_
        revert hbn
        cases strip (evT c.gl s (tvO x)) <;> exact id
      · obtain ⟨p1, p2, p3⟩ := hp
        exact ⟨⟨p1, fun h => (by rw [hb] at h; cases h), p3⟩, by simp [qv, hb]⟩
  · have hc' : cokAll none (Proofs.Ytblimjilinkmbaa.evs c.gl s (xs.map tvO)) := by
      cases q <;> first | exact absurd rfl hq | exact hc
    exact ⟨_, VRs_strip hev hc', blkOf_ok hR _, fun bk hp => ⟨hp, rfl⟩⟩

theorem elab_pick {o : Oper} {q : Q1} {xs : List Operand} (h : elabQ P o = some (q, xs)) (hq : q = .pick) : ∃ x y z, xs = [x, y, z] := by
  subst hq
  unfold elabQ elabBin at h
  repeat' split at h
  all_goals first
    | (simp at h; obtain ⟨rfl⟩ := h; exact ⟨_, _, _, rfl⟩)
    | (simp at h; done)
    | (rename_i hh; cases hh; done)
    | (simp [Option.map_eq_some_iff] at h; done)

theorem ovr_put {s s2 : FS} {d : Nat} {v : AV} {rt rb : List Nat} : ovr s2 (s.put d v) ⟨rt, rb, [d], []⟩ = s2.put d v := by
  unfold ovr FS.put
  congr 1
  · funext i
    simp only [List.mem_singleton]
    by_cases h : d = i
    · subst h; simp
    · rw [if_neg (fun e => h e.symm), if_neg h]

theorem q_AOk {s : FS} {d : Nat} {q : Q1} {xs : List Operand} {gd : Option (Nat × Bool)} (hgd : gdOf ops io = some gd) (hdst : io.dst = some d) (hd : d < c.N) (hel : elabQ P io = some (q, xs))
    (hp : qOk c.gl s q (xs.map tvO) gd) : AOk P c ops io s (qFoot c.gl s d (xs.map tvO) gd) (s.put d (qRes c.gl s q (xs.map tvO) gd)) := by
  refine ⟨fun i hi => ?_, fun b _ => rfl, ?_⟩
  · rw [FS.T_put, if_neg]
    rintro rfl; exact hi (by simp [qFoot])
  · intro s2 hT hH g a w hR K Q' hK
    have hevs : evs c.gl s2 (xs.map tvO) = evs c.gl s (xs.map tvO) := evs_congr fun i hi => hT i (by simp [qFoot, hi])
    have hg : ∀ t b, gd = some (t, b) → s2.T t = s.T t := fun t b e => hT t (by simp [qFoot, e, gdT])
    have hgB : gB s2 gd = gB s gd := by
      cases gd with
      | none => rfl
      | some p => obtain ⟨t, b⟩ := p; simp only [gB, hg t b rfl]
    have hgO : gOk s2 gd ↔ gOk s gd := by
      cases gd with
      | none => exact Iff.rfl
      | some p => obtain ⟨t, b⟩ := p; simp only [gOk, hg t b rfl]
    have hblk : blkOf s2 ((evs c.gl s (xs.map tvO)).map strip) = blkOf s ((evs c.gl s (xs.map tvO)).map strip) := by
      unfold blkOf
      cases hn : nameOf ((evs c.gl s (xs.map tvO)).map strip) with
      | none => rfl
      | some b => exact hH b (by simp [qFoot, hn])
    obtain ⟨p1, p2, p3⟩ := hp
    have hK' : ∀ v, VR g (wset c g s2) w (qRes c.gl s q (xs.map tvO) gd) v → K (a.put io.dst v) w := fun v hv => by
      rw [hdst]
      refine hK g _ w ?_
      rw [show qFoot c.gl s d (xs.map tvO) gd = ⟨gdT gd ++ tmpsOf (xs.map tvO), (nameOf ((evs c.gl s (xs.map tvO)).map strip)).toList, [d], []⟩ from rfl, ovr_put]
      exact hR.put hd hv
    unfold Exec1
    rw [guard_ok hgd hR (hgO.2 p1), hgB]
    -- where it is wanted
    have run : (∀ b, gB s gd = some b → b = true) → io.wp P a w K Q' := by
      intro hb
      have hcok : cokP none q (evs c.gl s2 (xs.map tvO)) := by
        rw [hevs]
        cases hgb : gB s gd with
        | none => rw [hgb] at p2; exact p2
        | some b =>
          have hbt := hb b hgb
          rw [hgb] at p2
          by_cases hq : q = .pick
          · obtain ⟨x, y, z, rfl⟩ := elab_pick hel hq
            subst hq
            simp only [evs, List.map_cons, List.map_nil, cokP] at p2 ⊢
            exact ⟨cok_mono hbt p2.1, p2.2.1 hbt, p2.2.2 hbt⟩
          · have h1 : cokAll (some b) (evs c.gl s (xs.map tvO)) := by cases q <;> first | exact absurd rfl hq | exact p2
            have h2 := cokAll_mono hbt h1
            cases q <;> first | exact absurd rfl hq | exact h2
      have hqp : qp q ((evs c.gl s (xs.map tvO)).map strip) (blkOf s ((evs c.gl s (xs.map tvO)).map strip)) := by
        cases hgb : gB s gd with
        | none => rw [hgb] at p3; exact p3
        | some b => rw [hgb] at p3; exact p3 (hb b hgb)
      obtain ⟨as, a1, a2, a3⟩ := q_args hR (fun h => elab_pick hel h) hcok
      rw [hevs, hblk] at a2
      rw [hevs] at a3
      obtain ⟨a4, a5⟩ := a3 _ hqp
      obtain ⟨v, hr, hv⟩ := q_sound (P := P) hel a.eval (fun _ => rfl) a1 a2 a4
      unfold Oper.wp
      rw [hr]
      refine hK' v ?_
      rw [a5] at hv
      unfold qRes
      cases hgb : gB s gd with
      | none => exact hv
      | some b => exact .cnd (fun _ => hv) fun h => by rw [hb b hgb] at h; cases h
    cases hgb : gB s gd with
    | none => simp only [Option.getD_none, if_true]; exact run fun b h => by rw [hgb] at h; cases h
    | some b =>
      cases b with
      | true => simp only [Option.getD_some, if_true]; exact run fun b h => by rw [hgb] at h; cases h; rfl
      | false =>
        simp only [Option.getD_some, Bool.false_eq_true, if_false]
        refine hK' undef ?_
        unfold qRes
        rw [hgb]
        exact .cnd (fun h => by cases h) fun _ => rfl
end
end Go.Proofs.Ytblimjilinkmbaa
