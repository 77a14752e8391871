/- Bodies of code: what a walk over one asks. No conditions but the ones that stand in each. -/
import Derived.Test.YtblimjilinkmbaaAj
namespace Go.Proofs.Ytblimjilinkmbaa
set_option linter.all false
set_option linter.unusedSimpArgs false
open Go.RowKit

inductive TC where
  | skip
  | reg (l : List TOp)
  | dreg (l : List TOp) (anc : List Nat)
  | seq (a b : TC)
  | cond (x : TV) (a b : TC)
  | block (i : Nat) (b : TC)
  | loop (b : TC)
  | exit (i : Nat)
  | ret

def elabC (P : Program) (N : Nat) : Code → Option TC
  | .skip => some .skip
  | .region _ ops false => (elabs P N ops ops.toList).map .reg
  | .region _ ops true => if backB ops = true then (elabs P N ops ops.toList).map fun l => .dreg l (ancOf ops.toList []) else none
  | .seq a b => match elabC P N a, elabC P N b with
    | some x, some y => some (.seq x y)
    | _, _ => none
  | .cond c a b => match elabC P N a, elabC P N b with
    | some x, some y => some (.cond (tvO c) x y)
    | _, _ => none
  | .block i b => (elabC P N b).map (.block i)
  | .loop b => (elabC P N b).map .loop
  | .exit i => some (.exit i)
  | .ret => some .ret
  | _ => none

/-- How a piece of code is left. -/
inductive EX where
  | normal
  | exit (i : Nat)
  | ret

def lift (c : Cx) (Q : EX → St → Prop) : Exit → Act → World → Prop
  | .normal, a, w => ∃ g s, R c g s.fs a w ∧ Q .normal s
  | .exit i, a, w => ∃ g s, R c g s.fs a w ∧ Q (.exit i) s
  | .ret, a, w => ∃ g s, R c g s.fs a w ∧ Q .ret s
  | _, _, _ => False
def AW (P : Program) (c : Cx) (code : Code) (Q : EX → St → Prop) (s : St) : Prop := ∀ g a w, R c g s.fs a w → code.wp P (lift c Q) a w

def seqK (k : (EX → St → Prop) → St → Prop) (Q : EX → St → Prop) : EX → St → Prop
  | .normal, s => k Q s
  | e, s => Q e s
def blockK (i : Nat) (Q : EX → St → Prop) : EX → St → Prop
  | .exit j, s => if j = i then Q .normal s else Q (.exit j) s
  | e, s => Q e s
/-- A loop has a rule of its own. -/
def LoopVC (P : Program) (c : Cx) (b : TC) (Q : EX → St → Prop) (s : St) : Prop := ∀ code, elabC P c.N code = some b → AW P c (.loop code) Q s

def xw (P : Program) (c : Cx) : TC → (EX → St → Prop) → St → Prop
  | .skip, Q, s => Q .normal s
  | .reg l, Q, s => XP P c l (Q .normal) s
  | .dreg l anc, Q, s => XD P c anc l [] (Q .normal) s
  | .seq a b, Q, s => xw P c a (seqK (xw P c b) Q) s
  | .cond x a b, Q, s => isB (evT c.gl s.fs x) ∧ (asB (evT c.gl s.fs x) = true → xw P c a Q s) ∧ (asB (evT c.gl s.fs x) = false → xw P c b Q s)
  | .block i b, Q, s => xw P c b (blockK i Q) s
  | .loop b, Q, s => LoopVC P c b Q s
  | .exit i, Q, s => Q (.exit i) s
  | .ret, Q, s => Q .ret s

/-- What follows in a sequence. -/
def seqT (P : Program) (c : Cx) (b : TC) (Q : EX → St → Prop) : EX → St → Prop := seqK (xw P c b) Q
section
variable {P : Program} {c : Cx} {Q : EX → St → Prop} {s : St}
theorem xw_skip : xw P c .skip Q s = Q .normal s := rfl
theorem xw_reg (l : List TOp) : xw P c (.reg l) Q s = XP P c l (Q .normal) s := rfl
theorem xw_dreg (l : List TOp) (anc : List Nat) : xw P c (.dreg l anc) Q s = XD P c anc l [] (Q .normal) s := rfl
theorem xw_seq (a b : TC) : xw P c (.seq a b) Q s = xw P c a (seqT P c b Q) s := rfl
theorem xw_cond (x : TV) (a b : TC) : xw P c (.cond x a b) Q s = (isB (evT c.gl s.fs x) ∧ (asB (evT c.gl s.fs x) = true → xw P c a Q s) ∧ (asB (evT c.gl s.fs x) = false → xw P c b Q s)) := rfl
theorem xw_block (i : Nat) (b : TC) : xw P c (.block i b) Q s = xw P c b (blockK i Q) s := rfl
theorem xw_loop (b : TC) : xw P c (.loop b) Q s = LoopVC P c b Q s := rfl
theorem xw_exit (i : Nat) : xw P c (.exit i) Q s = Q (.exit i) s := rfl
theorem xw_ret : xw P c .ret Q s = Q .ret s := rfl
theorem seqT_normal (b : TC) : seqT P c b Q .normal s = xw P c b Q s := rfl
theorem seqT_exit (b : TC) (i : Nat) : seqT P c b Q (.exit i) s = Q (.exit i) s := rfl
theorem seqT_ret (b : TC) : seqT P c b Q .ret s = Q .ret s := rfl
end

section
variable {P : Program} {c : Cx}

theorem drawn_sound {ops : Array Oper} {id : Nat} {l : List TOp} {Q : EX → St → Prop} {s : St} (hm : P.follows .mixedOrders = true) (hb : backB ops = true) (he : elabs P c.N ops ops.toList = some l)
    (h : XD P c (ancOf ops.toList []) l [] (Q .normal) s) : AW P c (.region id ops true) Q s := by
  intro g a w hR
  obtain ⟨S, F, sn, h1, h2, h3, h4, h5⟩ := XD_chain ops.toList l [] s he h
  have hn : ops.toList.length = ops.size := by simp
  rw [hn] at h3 h5
  simp only [List.reverse_nil, List.nil_append] at h5
  have hc : Ch ops.size S F (fun j => (List.range ops.size).filter fun i => ((ancOf ops.toList []).getD j 0).testBit i) := by
    refine ⟨fun j hj => ?_, fun j hj => ?_, fun i j hij hj hcl => ?_⟩
    · exact (h2 j ops[j] (by simp [hj])).outT
    · exact (h2 j ops[j] (by simp [hj])).outH
    · have := drawOk_ok _ [] h5 j (by simpa using hj) i (by simp; omega) (by simpa using hij) (by simpa using clash_of hcl)
      simp only [List.mem_filter, List.mem_range]
      exact ⟨by omega, by simpa using this⟩
  refine wp_region_any hm ?_
  have inv0 : HeadInv .any ops ops.size (Array.replicate ops.size false) :=
    ⟨by simp, fun j oj _ hl => (by rw [getD_replicate_false] at hl; cases hl), fun t ht ht' => by omega⟩
  have hR' : R c g s.fs a { w with drawn := w.drawn + 1 } := hR.grow (Fr.drew w _)
  refine draw_walk (S := S) (F := F) rfl hb hc (fun L' hcl' j hj => ?_) (fun j o ho => h2 j o (by simpa using ho)) (fun g' a' w' hR'' => ⟨g', sn, by rw [h3]; exact hR'', h4⟩) _ _ g a _ inv0 ?_ ?_
  · intro i hi
    exact ancOf_ok (ops := ops) (L := fun k => L' k = true) hcl' ops.toList [] (fun i => by simp) (fun j hj => by simp at hj) j hj i (List.mem_filter.1 hi).2
  · rw [SL_none _ fun j _ => getD_replicate_false _ _, h1]; exact hR'
  · unfold opn
    rw [List.filter_eq_self.2 (fun j hj => by
      have hj' := List.mem_range.1 hj
      rw [getD_in (by simp; omega) (getD_replicate_false _ _)]; rfl)]
    simp

theorem xw_sound (hm : P.follows .mixedOrders = true) : ∀ (code : Code) (t : TC) (Q : EX → St → Prop) (s : St), elabC P c.N code = some t → xw P c t Q s → AW P c code Q s := by
  intro code
  induction code with
  | skip =>
    intro t Q s he h g a w hR
    simp [elabC] at he; subst he
    exact wp_skip ⟨g, s, hR, h⟩
  | region id ops d =>
    intro t Q s he h
    cases d with
    | false =>
      simp only [elabC, Option.map_eq_some_iff] at he
      obtain ⟨l, hl, rfl⟩ := he
      intro g a w hR
      exact wp_region_list (XP_sound (K := Q .normal) (fun s g a w hs hR => ⟨g, s, hR, hs⟩) ops.toList l s hl h g a w hR)
    | true =>
      simp only [elabC] at he
      split at he
      · rename_i hb
        simp only [Option.map_eq_some_iff] at he
        obtain ⟨l, hl, rfl⟩ := he
        exact drawn_sound hm hb hl h
      · cases he
  | seq x y ihx ihy =>
    intro t Q s he h g a w hR
    simp only [elabC] at he
    split at he
    · rename_i tx ty hx hy
      simp at he; subst he
      refine wp_seq (wp_mono (ihx tx _ s hx h g a w hR) fun e a' w' hq => ?_)
      cases e with
      | normal =>
        obtain ⟨g', s', hR', hq'⟩ := hq
        exact ihy ty Q s' hy hq' g' a' w' hR'
      | exit i => exact hq
      | ret => exact hq
      | goto l => exact hq
      | panic ch => exact hq
      | outgrown => exact hq
    · cases he
  | cond x a b iha ihb =>
    intro t Q s he h g act w hR
    simp only [elabC] at he
    split at he
    · rename_i ta tb ha hb
      simp at he; subst he
      obtain ⟨h1, h2, h3⟩ := h
      have hv := (hR.ev x).isB h1
      refine wp_cond_split hv (fun ht => ?_) fun hf => ?_
      · exact iha ta Q s ha (h2 ht) g act w hR
      · exact ihb tb Q s hb (h3 hf) g act w hR
    · cases he
  | block i b ih =>
    intro t Q s he h g a w hR
    simp only [elabC, Option.map_eq_some_iff] at he
    obtain ⟨tb, hb, rfl⟩ := he
    refine wp_block (wp_mono (ih tb _ s hb h g a w hR) fun e a' w' hq => ?_)
    cases e with
    | exit j =>
      obtain ⟨g', s', hR', hq'⟩ := hq
      simp only [blockK] at hq'
      simp only [Exit.inBlock]
      split
      · rename_i e; rw [if_pos e] at hq'; exact ⟨g', s', hR', hq'⟩
      · rename_i e; rw [if_neg e] at hq'; exact ⟨g', s', hR', hq'⟩
    | normal => exact hq
    | ret => exact hq
    | goto l => exact hq
    | panic ch => exact hq
    | outgrown => exact hq
  | loop b ih =>
    intro t Q s he h
    simp only [elabC, Option.map_eq_some_iff] at he
    obtain ⟨tb, hb, rfl⟩ := he
    exact h b hb
  | exit i =>
    intro t Q s he h g a w hR
    simp [elabC] at he; subst he
    exact wp_exit ⟨g, s, hR, h⟩
  | ret =>
    intro t Q s he h g a w hR
    simp [elabC] at he; subst he
    exact wp_ret ⟨g, s, hR, h⟩
  | rangeFunc f ps a b iha ihb => intro t Q s he; simp [elabC] at he
  | scope b ih => intro t Q s he; simp [elabC] at he
  | label l => intro t Q s he; simp [elabC] at he
  | goto l => intro t Q s he; simp [elabC] at he
  | refuse why => intro t Q s he; simp [elabC] at he
end
end Go.Proofs.Ytblimjilinkmbaa
