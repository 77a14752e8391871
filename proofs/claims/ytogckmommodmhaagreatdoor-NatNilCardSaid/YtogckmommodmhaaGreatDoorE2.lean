/- Bodies of code: what a walk over one asks. No conditions but the ones that stand in each. -/
import Derived.Test.YtogckmommodmhaaGreatDoorE1
import Derived.DeepKeys
import Derived.Laws.StructEq
import Derived.Laws.AppendOwn
import Derived.Great.BuildSlice
import Derived.Laws.IdiomStrings
namespace Go.Proofs.YtogckmommodmhaaGreatDoor
set_option linter.all false
set_option linter.unusedSimpArgs false
open Go.RowKit

/-! ### A region that makes an entry of a map beside a look at it: in either order -/
def isQ : TOp → Bool
  | .q .. => true
  | _ => false
def rotL {α : Type} (k : Nat) (l : List α) : List α := l.take k ++ ((l.drop (k + 2)).take 2 ++ ((l.drop k).take 2 ++ l.drop (k + 4)))
def rotP (k p : Nat) : Nat := if p = k then k + 2 else if p = k + 1 then k + 3 else if p = k + 2 then k else if p = k + 3 then k + 1 else p
theorem rotP_rotP (k p : Nat) : rotP k (rotP k p) = p := by unfold rotP; (repeat' split) <;> omega
theorem rotP_lt {k p n : Nat} (h : p < n) (hn : n = k + 5) : rotP k p < n := by unfold rotP; (repeat' split) <;> omega
theorem rotP_pre {k p : Nat} (h : p < k) : rotP k p = p := by unfold rotP; (repeat' split) <;> omega
theorem rotL_get {α : Type} {l : List α} {k : Nat} (hl : l.length = k + 5) (p : Nat) : (rotL k l)[p]? = l[rotP k p]? := by
  have h1 : (l.take k).length = k := by rw [List.length_take]; omega
  have h2 : ((l.drop (k + 2)).take 2).length = 2 := by rw [List.length_take, List.length_drop]; omega
  have h3 : ((l.drop k).take 2).length = 2 := by rw [List.length_take, List.length_drop]; omega
  unfold rotL rotP
  by_cases c0 : p < k
  · rw [List.getElem?_append_left (by omega), List.getElem?_take, if_pos c0, if_neg (by omega), if_neg (by omega), if_neg (by omega), if_neg (by omega)]
  · rw [List.getElem?_append_right (by omega), h1]
    by_cases c1 : p < k + 2
    · rw [List.getElem?_append_left (by omega), List.getElem?_take, if_pos (by omega), List.getElem?_drop]
      by_cases e : p = k
      · rw [if_pos e]; congr 1; omega
      · rw [if_neg e, if_pos (by omega)]; congr 1; omega
    · rw [List.getElem?_append_right (by omega), h2]
      by_cases c2 : p < k + 4
      · rw [List.getElem?_append_left (by omega), List.getElem?_take, if_pos (by omega), List.getElem?_drop, if_neg (by omega), if_neg (by omega)]
        by_cases e : p = k + 2
        · rw [if_pos e]; congr 1; omega
        · rw [if_neg e, if_pos (by omega)]; congr 1; omega
      · rw [List.getElem?_append_right (by omega), h3, List.getElem?_drop, if_neg (by omega), if_neg (by omega), if_neg (by omega), if_neg (by omega)]
        congr 1; omega
theorem rotL_len {α : Type} {l : List α} {k : Nat} (hl : l.length = k + 5) : (rotL k l).length = k + 5 := by unfold rotL; simp; omega
def twoK (l : List TOp) : Option Nat := match l.reverse with
  | .pd none (.mst _) _ none :: .q _ _ _ _ :: .pd (some _) (.men _) _ none :: .q _ _ _ _ :: .pd (some _) (.lkp _ _) _ none :: pre => if pre.all isQ = true then some pre.length else none
  | _ => none
def okTwo (anc a1 a2 : List Nat) (k n : Nat) : Bool := decide (n = k + 5) &&
  (List.range n).all fun p => (List.range n).all fun q =>
    (!(a1.getD p 0).testBit q || ((anc.getD p 0).testBit q || (p == k + 2 && q == k))) &&
    (!(a2.getD p 0).testBit q || ((anc.getD (rotP k p) 0).testBit (rotP k q) || (rotP k p == k && rotP k q == k + 2))) &&
    (decide (p < k) || p == k || p == k + 2 || (anc.getD p 0).testBit k || (anc.getD p 0).testBit (k + 2))
def a1F (anc : List Nat) (k : Nat) : List Nat := anc.set (k + 2) (anc.getD (k + 2) 0 ||| 1 <<< k)
def a2F (anc : List Nat) (k : Nat) : List Nat := (List.range (k + 5)).map fun p => ((List.range (k + 5)).filter fun q => (anc.getD (rotP k p) 0).testBit (rotP k q) || (rotP k p == k && rotP k q == k + 2)).foldl (fun m q => m ||| 1 <<< q) 0

inductive TC where
  | skip
  | reg (l : List TOp)
  | dreg (l : List TOp) (anc : List Nat)
  | dtwo (l l2 : List TOp) (a1 a2 : List Nat)
  | seq (a b : TC)
  | cond (x : TV) (a b : TC)
  | block (i : Nat) (b : TC)
  | loop (b : TC)
  | exit (i : Nat)
  | ret

def drawnT (l : List TOp) (anc : List Nat) : TC := match twoK l with
  | some k => if (l.take k).all isQ = true ∧ okTwo anc (a1F anc k) (a2F anc k) k l.length = true then .dtwo l (rotL k l) (a1F anc k) (a2F anc k) else .dreg l anc
  | none => .dreg l anc
def elabC (P : Program) (N : Nat) : Code → Option TC
  | .skip => some .skip
  | .region _ ops false => (elabs P N ops ops.toList).map .reg
  | .region _ ops true => if backB ops = true then (elabs P N ops ops.toList).map fun l => drawnT l (ancOf ops.toList []) else none
  | .seq a b => match elabC P N a, elabC P N b with
    | some x, some y => some (.seq x y)
    | _, _ => none
  | .cond c a b => match elabC P N a, elabC P N b with
    | some x, some y => some (.cond (tvO c) x y)
    | _, _ => none
  | .block i b => (elabC P N b).map (.block i)
  | .loop b => (elabC P N b).map .loop
  | .exit i => some (.exit i)
  | .ret => some .ret
  | _ => none

/-- How a piece of code is left. -/
inductive EX where
  | normal
  | exit (i : Nat)
  | ret

def lift (c : Cx) (Q : EX → St → Prop) : Exit → Act → World → Prop
  | .normal, a, w => ∃ g s, R c g s.fs a w ∧ Q .normal s
  | .exit i, a, w => ∃ g s, R c g s.fs a w ∧ Q (.exit i) s
  | .ret, a, w => ∃ g s, R c g s.fs a w ∧ Q .ret s
  | _, _, _ => False
def AW (P : Program) (c : Cx) (code : Code) (Q : EX → St → Prop) (s : St) : Prop := ∀ g a w, R c g s.fs a w → code.wp P (lift c Q) a w

def seqK (k : (EX → St → Prop) → St → Prop) (Q : EX → St → Prop) : EX → St → Prop
  | .normal, s => k Q s
  | e, s => Q e s
def blockK (i : Nat) (Q : EX → St → Prop) : EX → St → Prop
  | .exit j, s => if j = i then Q .normal s else Q (.exit j) s
  | e, s => Q e s
/-- A loop has a rule of its own. -/
def LoopVC (P : Program) (c : Cx) (b : TC) (Q : EX → St → Prop) (s : St) : Prop := ∀ code, elabC P c.N code = some b → AW P c (.loop code) Q s

def xw (P : Program) (c : Cx) : TC → (EX → St → Prop) → St → Prop
  | .skip, Q, s => Q .normal s
  | .reg l, Q, s => XP P c l (Q .normal) s
  | .dreg l anc, Q, s => XD P c anc l [] (Q .normal) s
  | .dtwo l l2 a1 a2, Q, s => XD P c a1 l [] (Q .normal) s ∧ XD P c a2 l2 [] (Q .normal) s
  | .seq a b, Q, s => xw P c a (seqK (xw P c b) Q) s
  | .cond x a b, Q, s => isB (evT c.gl s.fs x) ∧ (asB (evT c.gl s.fs x) = true → xw P c a Q s) ∧ (asB (evT c.gl s.fs x) = false → xw P c b Q s)
  | .block i b, Q, s => xw P c b (blockK i Q) s
  | .loop b, Q, s => LoopVC P c b Q s
  | .exit i, Q, s => Q (.exit i) s
  | .ret, Q, s => Q .ret s

/-- What follows in a sequence. -/
def seqT (P : Program) (c : Cx) (b : TC) (Q : EX → St → Prop) : EX → St → Prop := seqK (xw P c b) Q
section
variable {P : Program} {c : Cx} {Q : EX → St → Prop} {s : St}
theorem xw_skip : xw P c .skip Q s = Q .normal s := rfl
theorem xw_reg (l : List TOp) : xw P c (.reg l) Q s = XP P c l (Q .normal) s := rfl
theorem xw_dtwo (l l2 : List TOp) (a1 a2 : List Nat) : xw P c (.dtwo l l2 a1 a2) Q s = (XD P c a1 l [] (Q .normal) s ∧ XD P c a2 l2 [] (Q .normal) s) := rfl
theorem xw_dreg (l : List TOp) (anc : List Nat) : xw P c (.dreg l anc) Q s = XD P c anc l [] (Q .normal) s := rfl
theorem xw_seq (a b : TC) : xw P c (.seq a b) Q s = xw P c a (seqT P c b Q) s := rfl
theorem xw_cond (x : TV) (a b : TC) : xw P c (.cond x a b) Q s = (isB (evT c.gl s.fs x) ∧ (asB (evT c.gl s.fs x) = true → xw P c a Q s) ∧ (asB (evT c.gl s.fs x) = false → xw P c b Q s)) := rfl
theorem xw_block (i : Nat) (b : TC) : xw P c (.block i b) Q s = xw P c b (blockK i Q) s := rfl
theorem xw_loop (b : TC) : xw P c (.loop b) Q s = LoopVC P c b Q s := rfl
theorem xw_exit (i : Nat) : xw P c (.exit i) Q s = Q (.exit i) s := rfl
theorem xw_ret : xw P c .ret Q s = Q .ret s := rfl
theorem seqT_normal (b : TC) : seqT P c b Q .normal s = xw P c b Q s := rfl
theorem seqT_exit (b : TC) (i : Nat) : seqT P c b Q (.exit i) s = Q (.exit i) s := rfl
theorem seqT_ret (b : TC) : seqT P c b Q .ret s = Q .ret s := rfl
end

section
variable {P : Program} {c : Cx}

theorem drawn_sound {ops : Array Oper} {id : Nat} {l : List TOp} {Q : EX → St → Prop} {s : St} (hm : P.follows .mixedOrders = true) (hb : backB ops = true) (he : elabs P c.N ops ops.toList = some l)
    (h : XD P c (ancOf ops.toList []) l [] (Q .normal) s) : AW P c (.region id ops true) Q s := by
  intro g a w hR
  obtain ⟨S, F, sn, h1, h2, h3, h4, h5⟩ := XD_chain ops.toList l [] s he h
  have hn : ops.toList.length = ops.size := by simp
  rw [hn] at h3 h5
  simp only [List.reverse_nil, List.nil_append] at h5
  have hc : Ch ops.size S F (fun j => (List.range ops.size).filter fun i => ((ancOf ops.toList []).getD j 0).testBit i) := by
    refine ⟨fun j hj => ?_, fun j hj => ?_, fun i j hij hj hcl => ?_⟩
    · exact (h2 j ops[j] (by simp [hj])).outT
    · exact (h2 j ops[j] (by simp [hj])).outH
    · have := drawOk_ok _ [] h5 j (by simpa using hj) i (by simp; omega) (by simpa using hij) (by simpa using clash_of hcl)
      simp only [List.mem_filter, List.mem_range]
      exact ⟨by omega, by simpa using this⟩
  refine wp_region_any hm ?_
  have inv0 : HeadInv .any ops ops.size (Array.replicate ops.size false) :=
    ⟨by simp, fun j oj _ hl => (by rw [getD_replicate_false] at hl; cases hl), fun t ht ht' => by omega⟩
  have hR' : R c g s.fs a { w with drawn := w.drawn + 1 } := hR.grow (Fr.drew w _)
  refine draw_walk (S := S) (F := F) rfl hb hc (fun L' hcl' j hj => ?_) (fun j o ho => h2 j o (by simpa using ho)) (fun g' a' w' hR'' => ⟨g', sn, by rw [h3]; exact hR'', h4⟩) _ _ g a _ inv0 ?_ ?_
  · intro i hi
    exact ancOf_ok (ops := ops) (L := fun k => L' k = true) hcl' ops.toList [] (fun i => by simp) (fun j hj => by simp at hj) j hj i (List.mem_filter.1 hi).2
  · rw [SL_none _ fun j _ => getD_replicate_false _ _, h1]; exact hR'
  · unfold opn
    rw [List.filter_eq_self.2 (fun j hj => by
      have hj' := List.mem_range.1 hj
      rw [getD_in (by simp; omega) (getD_replicate_false _ _)]; rfl)]
    simp

end
section
variable {P : Program} {c : Cx} {ops : Array Oper}
theorem elabs_len {N : Nat} : ∀ (os : List Oper) (l : List TOp), elabs P N ops os = some l → l.length = os.length
  | [], l, h => by simp [elabs] at h; subst h; rfl
  | o :: os, l, h => by
    unfold elabs at h
    split at h
    · rename_i x l' hx hl
      simp at h; subst h
      simp [elabs_len os l' hl]
    · cases h
theorem elabs_app {N : Nat} : ∀ (os os' : List Oper) (l l' : List TOp), elabs P N ops os = some l → elabs P N ops os' = some l' → elabs P N ops (os ++ os') = some (l ++ l')
  | [], os', l, l', h, h' => by simp [elabs] at h; subst h; simpa using h'
  | o :: os, os', l, l', h, h' => by
    unfold elabs at h
    split at h
    · rename_i x l2 hx hl
      simp at h; subst h
      have := elabs_app os os' l2 l' hl h'
      simp only [List.cons_append]
      unfold elabs
      rw [hx, this]
    · cases h
theorem elabs_take {N : Nat} : ∀ (k : Nat) (os : List Oper) (l : List TOp), elabs P N ops os = some l → elabs P N ops (os.take k) = some (l.take k) ∧ elabs P N ops (os.drop k) = some (l.drop k)
  | 0, os, l, h => ⟨by simp [elabs], by simpa using h⟩
  | k + 1, [], l, h => by simp [elabs] at h; subst h; simp [elabs]
  | k + 1, o :: os, l, h => by
    unfold elabs at h
    split at h
    · rename_i x l2 hx hl
      simp at h; subst h
      obtain ⟨h1, h2⟩ := elabs_take k os l2 hl
      simp only [List.take_succ_cons, List.drop_succ_cons]
      refine ⟨?_, h2⟩
      unfold elabs
      rw [hx, h1]
    · cases h
theorem elabs_rot {N k : Nat} {os : List Oper} {l : List TOp} (h : elabs P N ops os = some l) : elabs P N ops (rotL k os) = some (rotL k l) := by
  unfold rotL
  refine elabs_app _ _ _ _ (elabs_take k os l h).1 (elabs_app _ _ _ _ (elabs_take 2 _ _ (elabs_take (k + 2) os l h).2).1 (elabs_app _ _ _ _ (elabs_take 2 _ _ (elabs_take k os l h).2).1 (elabs_take (k + 4) os l h).2))
theorem XD_chain2 {anc1 anc2 : List Nat} {K : St → Prop} {os1 os2 : List Oper} {l1 l2 : List TOp} (e1 : elabs P c.N ops os1 = some l1) (e2 : elabs P c.N ops os2 = some l2) : ∀ (pre : List Oper) (lp : List TOp) (fs : List Foot) (s : St), lp.all isQ = true → elabs P c.N ops pre = some lp → XD P c anc1 (lp ++ l1) fs K s → XD P c anc2 (lp ++ l2) fs K s →
    ∃ (S1 : Nat → FS) (F1 : Nat → Foot) (sn1 : St) (S2 : Nat → FS) (F2 : Nat → Foot) (sn2 : St), (S1 0 = s.fs ∧ (∀ j o, (pre ++ os1)[j]? = some o → AOk P c ops o (S1 j) (F1 j) (S1 (j + 1))) ∧ sn1.fs = S1 (pre ++ os1).length ∧ K sn1 ∧ drawOk anc1 [] (fs.reverse ++ (List.range (pre ++ os1).length).map F1) = true) ∧
      (S2 0 = s.fs ∧ (∀ j o, (pre ++ os2)[j]? = some o → AOk P c ops o (S2 j) (F2 j) (S2 (j + 1))) ∧ sn2.fs = S2 (pre ++ os2).length ∧ K sn2 ∧ drawOk anc2 [] (fs.reverse ++ (List.range (pre ++ os2).length).map F2) = true) ∧
      (∀ p, p ≤ pre.length → S1 p = S2 p) ∧ ∀ p, p < pre.length → F1 p = F2 p
  | [], lp, fs, s, _, he, h1, h2 => by
    simp [elabs] at he; subst he
    obtain ⟨S1, F1, sn1, a1, a2, a3, a4, a5⟩ := XD_chain os1 l1 fs s e1 h1
    obtain ⟨S2, F2, sn2, b1, b2, b3, b4, b5⟩ := XD_chain os2 l2 fs s e2 h2
    refine ⟨S1, F1, sn1, S2, F2, sn2, ⟨a1, a2, a3, a4, a5⟩, ⟨b1, b2, b3, b4, b5⟩, fun p hp => ?_, fun p hp => by simp at hp⟩
    have : p = 0 := by simpa using hp
    subst this; rw [a1, b1]
  | o :: pre, lp, fs, s, hq, he, h1, h2 => by
    unfold elabs at he
    split at he
    · rename_i x l' hx hl
      simp at he; subst he
      simp only [List.all_cons, Bool.and_eq_true] at hq
      cases x <;> simp only [isQ, Bool.false_eq_true, false_and] at hq
      rename_i d q xs gd
      obtain ⟨qo, h1⟩ := h1
      obtain ⟨_, h2⟩ := h2
      obtain ⟨S1, F1, sn1, S2, F2, sn2, ⟨a1, a2, a3, a4, a5⟩, ⟨b1, b2, b3, b4, b5⟩, c1, c2⟩ := XD_chain2 e1 e2 pre l' _ _ hq.2 hl h1 h2
      have hA := (q_AOkT (P := P) (c := c) qo) ops o hx
      refine ⟨fun j => match j with | 0 => s.fs | j + 1 => S1 j, fun j => match j with | 0 => qFoot c.gl s.fs d xs gd | j + 1 => F1 j, sn1, fun j => match j with | 0 => s.fs | j + 1 => S2 j, fun j => match j with | 0 => qFoot c.gl s.fs d xs gd | j + 1 => F2 j, sn2, ⟨rfl, fun j o' ho => ?_, a3, a4, ?_⟩, ⟨rfl, fun j o' ho => ?_, b3, b4, ?_⟩, fun p hp => ?_, fun p hp => ?_⟩
      · cases j with
        | zero => simp at ho; subst ho; simpa [a1] using hA
        | succ j => exact a2 j o' (by simpa using ho)
      · rw [List.cons_append, List.length_cons, List.range_succ_eq_map]
        simp only [List.map_cons, List.map_map]
        simp only [List.reverse_cons, List.append_assoc, List.singleton_append] at a5
        exact a5
      · cases j with
        | zero => simp at ho; subst ho; simpa [b1] using hA
        | succ j => exact b2 j o' (by simpa using ho)
      · rw [List.cons_append, List.length_cons, List.range_succ_eq_map]
        simp only [List.map_cons, List.map_map]
        simp only [List.reverse_cons, List.append_assoc, List.singleton_append] at b5
        exact b5
      · cases p with
        | zero => rfl
        | succ p => exact c1 p (by simpa using hp)
      · cases p with
        | zero => rfl
        | succ p => exact c2 p (by simpa using hp)
    · cases he
variable {n : Nat} {S : Nat → FS} {F : Nat → Foot} {A : Nat → List Nat}
/-- One operation more, of those that may be next. -/
theorem draw_step {L L' : Nat → Bool} {p : Nat} {o : Oper} (hc : Ch n S F A) (hp : p < n) (hLp : L p = false) (hanc : ∀ q ∈ A p, q < p → L q = true) (hcl : ∀ m, m < n → L m = true → ∀ q ∈ A m, L q = true) (hj' : L' p = true) (ho : ∀ i, i ≠ p → L' i = L i) (hA : AOk P c ops o (S p) (F p) (S (p + 1)))
    {g : Nat → GM} {a : Act} {w : World} (hR : R c g (SL L S F n) a w) {K : Act → World → Prop} {Q : Exit → Act → World → Prop} (hK : ∀ g' a' w', R c g' (SL L' S F n) a' w' → K a' w') : Exec1 P ops o a w K Q := by
  refine hA.step _ (fun t ht => ?_) (fun t ht => ?_) g a w hR K Q fun g' a' w' hR' => hK g' a' w' ?_
  · rw [SL_readT hc hp hLp hanc hcl ht n (Nat.le_refl _), Nat.min_eq_right (Nat.le_of_lt hp)]
  · rw [SL_readH hc hp hLp hanc hcl ht n (Nat.le_refl _), Nat.min_eq_right (Nat.le_of_lt hp)]
  · have := SL_add (L := L) hc hLp hcl (L' := L') hj' ho n (Nat.le_refl _)
    rw [if_neg (by omega)] at this
    rw [this]; exact hR'
/-- The walk of a region in whatever order, along one order of its text, when one of its operations is behind. -/
theorem draw_walkP {Q : Exit → Act → World → Prop} {σ : Nat → Nat} {q0 : Nat} (hσ : ∀ p, σ (σ p) = p) (hσn : ∀ p, p < n → σ p < n) (hn : n = ops.size) (hback : backB ops = true) (hc : Ch n S F A)
    (hanc : ∀ L' : Nat → Bool, (∀ (j : Nat) o, ops[j]? = some o → L' j = true → ∀ e ∈ dirs o, L' e = true) → L' q0 = true → ∀ p, p < n → L' (σ p) = true → ∀ i ∈ A p, L' (σ i) = true)
    (hA : ∀ p o, ops[σ p]? = some o → AOk P c ops o (S p) (F p) (S (p + 1))) (hend : ∀ g a w, R c g (S n) a w → Q .normal a w) :
    ∀ (f : Nat) (listed : Array Bool) (g : Nat → GM) (a : Act) (w : World), HeadInv .any ops n listed → listed.getD q0 false = true → R c g (SL (fun p => listed.getD (σ p) false) S F n) a w → opn listed n = f → wpAny P .any ops Q f listed a w := by
  intro f
  induction f with
  | zero =>
    intro listed g a w inv hq0 hR hf
    have hall : ∀ j, j < n → listed.getD j true = true := by
      rcases leastUn (listed := listed) n with h | ⟨i, hi, hu, _⟩
      · exact h
      · have := opn_set hu n hi; omega
    refine ⟨?_, hend g a w ?_⟩
    · rw [List.eq_nil_iff_forall_not_mem]
      intro j hj
      obtain ⟨h1, o, h2, _⟩ := mem_ready.1 hj
      have : j < n := by rw [hn]; exact (Array.getElem?_eq_some_iff.1 h2).1
      rw [hall j this] at h1; cases h1
    · rw [SL_all hc (fun j hj => ?_) n (Nat.le_refl _)] at hR
      · exact hR
      · have := hall (σ j) (hσn j hj)
        have hsz : σ j < listed.size := by rw [inv.size, ← hn]; exact hσn j hj
        simpa [hsz] using this
  | succ f ih =>
    intro listed g a w inv hq0 hR hf
    rcases leastUn (listed := listed) n with h | ⟨i, hi, hu, hl⟩
    · have := opn_none h; omega
    · have hosz : i < ops.size := by omega
      have hrdy : i ∈ Region.ready .any ops listed := mem_ready.2 ⟨hu, ops[i], Array.getElem?_eq_getElem hosz, fun e he hb => by
        have h1 := List.all_eq_true.1 hback i (List.mem_range.2 hosz)
        rw [Array.getElem?_eq_getElem hosz] at h1
        have hlt : e.on < i := by simpa using List.all_eq_true.1 h1 e.on (dirs_binds he hb)
        have := hl e.on hlt
        have hsz : e.on < listed.size := by rw [inv.size]; omega
        simpa [hsz] using this⟩
      refine ⟨fun h0 => (by rw [h0] at hrdy; cases hrdy), fun j hj => ?_⟩
      obtain ⟨hjun, o, hoj, hall⟩ := mem_ready.1 hj
      have hjn : j < n := by rw [hn]; exact (Array.getElem?_eq_some_iff.1 hoj).1
      have hopen := opn_set hjun n hjn
      have hLj : listed.getD j false = false := getD_both hjun
      have hsz : j < listed.size := by rw [inv.size]; omega
      have hclosed : ∀ (j : Nat) o, ops[j]? = some o → listed.getD j false = true → ∀ e ∈ dirs o, listed.getD e false = true := fun j o ho hL e he => by
        obtain ⟨x, h1, h2, rfl⟩ := binds_dirs he
        exact inv.closed j o ho hL x h1 h2
      have hcl := hanc (fun j => listed.getD j false) hclosed hq0
      have hjq : j ≠ q0 := fun e => by rw [e, hq0] at hLj; cases hLj
      have h1 := inv.set hj hjn
      have hpj : σ (σ j) = j := hσ j
      have hancj : ∀ i ∈ A (σ j), i < σ j → listed.getD (σ i) false = true := by
        intro i hi hij
        have hcl' := hanc (fun k => (listed.setIfInBounds j true).getD k false) (fun k o' ho' hL e he => by
          obtain ⟨x, h3, h4, rfl⟩ := binds_dirs he
          exact h1.closed k o' ho' hL x h3 h4) (by rw [getD_set_ne false hjq]; exact hq0) (σ j) (hσn j hjn) (by
            rw [hpj]; simp [hsz]) i hi
        rw [getD_set_ne false (fun e => by rw [e, hσ] at hij; omega)] at hcl'; exact hcl'
      have hst := draw_step (P := P) (c := c) (ops := ops) (L := fun p => listed.getD (σ p) false) (L' := fun p => (listed.setIfInBounds j true).getD (σ p) false) (p := σ j) (o := o) hc (hσn j hjn) (by rw [hpj]; exact hLj) hancj (fun m hm => hcl m hm) (by rw [hpj]; simp [hsz])
        (fun i hi => getD_set_ne false (fun e => hi (by rw [e, hσ]))) (hA (σ j) o (by rw [hpj]; exact hoj)) hR (K := wpAny P .any ops Q f (listed.setIfInBounds j true)) (Q := Q) fun g' a' w' hR' =>
          ih _ g' a' w' (inv.set hj hjn) (by rw [getD_set_ne false hjq]; exact hq0) hR' (by omega)
      unfold wpOp
      rw [hoj]
      unfold Exec1 at hst
      show if Region.wanted o (yielded ops a.tmps) = true then _ else _
      split
      · rename_i hw; rw [if_pos hw] at hst; exact .inl hst
      · rename_i hw; rw [if_neg hw] at hst; exact hst
theorem SL_pre {S1 S2 : Nat → FS} {F1 F2 : Nat → Foot} {k : Nat} {L1 L2 : Nat → Bool} (hS : ∀ p, p ≤ k → S1 p = S2 p) (hF : ∀ p, p < k → F1 p = F2 p) (hL : ∀ p, p < k → L1 p = L2 p) (h1 : ∀ p, k ≤ p → L1 p = false) (h2 : ∀ p, k ≤ p → L2 p = false) : ∀ m, SL L1 S1 F1 m = SL L2 S2 F2 m
  | 0 => hS 0 (Nat.zero_le _)
  | m + 1 => by
    have e1 : SL L1 S1 F1 (m + 1) = if L1 m then ovr (SL L1 S1 F1 m) (S1 (m + 1)) (F1 m) else SL L1 S1 F1 m := rfl
    have e2 : SL L2 S2 F2 (m + 1) = if L2 m then ovr (SL L2 S2 F2 m) (S2 (m + 1)) (F2 m) else SL L2 S2 F2 m := rfl
    rw [e1, e2, SL_pre hS hF hL h1 h2 m]
    by_cases hm : m < k
    · rw [hL m hm, hS (m + 1) hm, hF m hm]
    · rw [h1 m (by omega), h2 m (by omega)]; simp
end
section
variable {P : Program} {c : Cx}
theorem two_sound {ops : Array Oper} {id k : Nat} {l : List TOp} {a1 a2 : List Nat} {Q : EX → St → Prop} {s : St} (hm : P.follows .mixedOrders = true) (hb : backB ops = true) (he : elabs P c.N ops ops.toList = some l) (hpre : (l.take k).all isQ = true) (hok : okTwo (ancOf ops.toList []) a1 a2 k l.length = true)
    (h1 : XD P c a1 l [] (Q .normal) s) (h2 : XD P c a2 (rotL k l) [] (Q .normal) s) : AW P c (.region id ops true) Q s := by
  intro g a w hR
  have hll := elabs_len _ _ he
  unfold okTwo at hok
  simp only [Bool.and_eq_true, decide_eq_true_eq, List.all_eq_true, List.mem_range] at hok
  obtain ⟨hlk, hok⟩ := hok
  have hn : ops.toList.length = ops.size := by simp
  have hnk : ops.size = k + 5 := by omega
  obtain ⟨t1, t2⟩ := elabs_take k _ _ he
  have hrot : elabs P c.N ops ((ops.toList.drop (k + 2)).take 2 ++ ((ops.toList.drop k).take 2 ++ ops.toList.drop (k + 4))) = some ((l.drop (k + 2)).take 2 ++ ((l.drop k).take 2 ++ l.drop (k + 4))) :=
    elabs_app _ _ _ _ (elabs_take 2 _ _ (elabs_take (k + 2) _ l he).2).1 (elabs_app _ _ _ _ (elabs_take 2 _ _ (elabs_take k _ l he).2).1 (elabs_take (k + 4) _ l he).2)
  obtain ⟨S1, F1, sn1, S2, F2, sn2, ⟨x1, x2, x3, x4, x5⟩, ⟨y1, y2, y3, y4, y5⟩, z1, z2⟩ := XD_chain2 t2 hrot (ops.toList.take k) (l.take k) [] s hpre t1 (by rw [List.take_append_drop]; exact h1) h2
  rw [List.take_append_drop] at x2 x3 x5
  have hro : ops.toList.take k ++ ((ops.toList.drop (k + 2)).take 2 ++ ((ops.toList.drop k).take 2 ++ ops.toList.drop (k + 4))) = rotL k ops.toList := rfl
  rw [hro] at y2 y3 y5
  have hlr : (rotL k ops.toList).length = ops.size := by rw [rotL_len (by omega)]; omega
  rw [hlr] at y3 y5
  rw [hn] at x3 x5
  simp only [List.reverse_nil, List.nil_append] at x5 y5
  have hkl : (ops.toList.take k).length = k := by rw [List.length_take]; omega
  rw [hkl] at z1 z2
  have hA1 : ∀ p o, ops[p]? = some o → AOk P c ops o (S1 p) (F1 p) (S1 (p + 1)) := fun p o ho => x2 p o (by simpa using ho)
  have hA2 : ∀ p o, ops[rotP k p]? = some o → AOk P c ops o (S2 p) (F2 p) (S2 (p + 1)) := fun p o ho => y2 p o (by rw [rotL_get (by omega)]; simpa using ho)
  have get : ∀ p, p < ops.size → ∃ o, ops[p]? = some o := fun p hp => ⟨ops[p], Array.getElem?_eq_getElem hp⟩
  have hc1 : Ch ops.size S1 F1 (fun j => (List.range ops.size).filter fun i => (a1.getD j 0).testBit i) := by
    refine ⟨fun j hj => ?_, fun j hj => ?_, fun i j hij hj hcl => ?_⟩
    · obtain ⟨o, ho⟩ := get j hj; exact (hA1 j o ho).outT
    · obtain ⟨o, ho⟩ := get j hj; exact (hA1 j o ho).outH
    · have := drawOk_ok _ [] x5 j (by simpa using hj) i (by simp; omega) (by simpa using hij) (by simpa using clash_of hcl)
      simp only [List.mem_filter, List.mem_range]
      exact ⟨by omega, by simpa using this⟩
  have hc2 : Ch ops.size S2 F2 (fun j => (List.range ops.size).filter fun i => (a2.getD j 0).testBit i) := by
    refine ⟨fun j hj => ?_, fun j hj => ?_, fun i j hij hj hcl => ?_⟩
    · obtain ⟨o, ho⟩ := get (rotP k j) (rotP_lt hj hnk); exact (hA2 j o ho).outT
    · obtain ⟨o, ho⟩ := get (rotP k j) (rotP_lt hj hnk); exact (hA2 j o ho).outH
    · have := drawOk_ok _ [] y5 j (by simpa using hj) i (by simp; omega) (by simpa using hij) (by simpa using clash_of hcl)
      simp only [List.mem_filter, List.mem_range]
      exact ⟨by omega, by simpa using this⟩
  have hanc : ∀ L' : Nat → Bool, (∀ (j : Nat) o, ops[j]? = some o → L' j = true → ∀ e ∈ dirs o, L' e = true) → ∀ j, L' j = true → ∀ i, ((ancOf ops.toList []).getD j 0).testBit i = true → L' i = true := fun L' hcl j hj i hi =>
    ancOf_ok (ops := ops) (L := fun k => L' k = true) hcl ops.toList [] (fun i => by simp) (fun j hj => by simp at hj) j hj i hi
  have hok1 : ∀ p q, p < ops.size → q < ops.size → (a1.getD p 0).testBit q = true → ((ancOf ops.toList []).getD p 0).testBit q = true ∨ p = k + 2 ∧ q = k := fun p q hp hq h => by
    have := (hok p (by omega) q (by omega)).1.1
    rw [h] at this
    simpa using this
  have hok2 : ∀ p q, p < ops.size → q < ops.size → (a2.getD p 0).testBit q = true → ((ancOf ops.toList []).getD (rotP k p) 0).testBit (rotP k q) = true ∨ rotP k p = k ∧ rotP k q = k + 2 := fun p q hp hq h => by
    have := (hok p (by omega) q (by omega)).1.2
    rw [h] at this
    simpa using this
  have hok3 : ∀ p, p < ops.size → k < p → p ≠ k + 2 → ((ancOf ops.toList []).getD p 0).testBit k = true ∨ ((ancOf ops.toList []).getD p 0).testBit (k + 2) = true := fun p hp hk hne => by
    have := (hok p (by omega) 0 (by omega)).2
    simp only [Bool.or_eq_true, decide_eq_true_eq, beq_iff_eq] at this
    rcases this with (((h | h) | h) | h) | h
    · omega
    · omega
    · omega
    · exact .inl h
    · exact .inr h
  refine wp_region_any hm ?_
  have inv0 : HeadInv .any ops ops.size (Array.replicate ops.size false) :=
    ⟨by simp, fun j oj _ hl => (by rw [getD_replicate_false] at hl; cases hl), fun t ht ht' => by omega⟩
  have hR' : R c g s.fs a { w with drawn := w.drawn + 1 } := hR.grow (Fr.drew w _)
  have walk1 := draw_walkP (Q := lift c Q) (σ := fun p => p) (q0 := k) (fun _ => rfl) (fun _ h => h) rfl hb hc1 (fun L' hcl hq p hp hLp i hi => by
      obtain ⟨hi1, hi2⟩ := List.mem_filter.1 hi
      rcases hok1 p i hp (List.mem_range.1 hi1) hi2 with h | ⟨h3, h4⟩
      · exact hanc L' hcl p hLp i h
      · rw [h4]; exact hq) hA1 (fun g' a' w' hR'' => ⟨g', sn1, by rw [x3]; exact hR'', x4⟩)
  have walk2 := draw_walkP (Q := lift c Q) (σ := rotP k) (q0 := k + 2) (rotP_rotP k) (fun p h => rotP_lt h hnk) rfl hb hc2 (fun L' hcl hq p hp hLp i hi => by
      obtain ⟨hi1, hi2⟩ := List.mem_filter.1 hi
      rcases hok2 p i hp (List.mem_range.1 hi1) hi2 with h | ⟨h3, h4⟩
      · exact hanc L' hcl _ hLp _ h
      · rw [h4]; exact hq) hA2 (fun g' a' w' hR'' => ⟨g', sn2, by rw [y3]; exact hR'', y4⟩)
  -- as long as neither of the two is behind
  have phase : ∀ (f : Nat) (listed : Array Bool) (g : Nat → GM) (a : Act) (w : World), HeadInv .any ops ops.size listed → (∀ p, k ≤ p → listed.getD p false = false) → R c g (SL (fun p => listed.getD p false) S1 F1 ops.size) a w → opn listed ops.size = f → wpAny P .any ops (lift c Q) f listed a w := by
    intro f
    induction f with
    | zero =>
      intro listed g a w inv hno hR hf
      exfalso
      have hsz : k < listed.size := by rw [inv.size]; omega
      have hu : listed.getD k true = false := getD_in hsz (hno k (Nat.le_refl _))
      have := opn_set hu ops.size (by omega)
      omega
    | succ f ih =>
      intro listed g a w inv hno hR hf
      rcases leastUn (listed := listed) ops.size with h | ⟨i, hi, hu, hl⟩
      · have := opn_none h; omega
      · have hrdy : i ∈ Region.ready .any ops listed := mem_ready.2 ⟨hu, ops[i], Array.getElem?_eq_getElem hi, fun e he' hb' => by
          have h1 := List.all_eq_true.1 hb i (List.mem_range.2 hi)
          rw [Array.getElem?_eq_getElem hi] at h1
          have hlt : e.on < i := by simpa using List.all_eq_true.1 h1 e.on (dirs_binds he' hb')
          have := hl e.on hlt
          have hsz : e.on < listed.size := by rw [inv.size]; omega
          simpa [hsz] using this⟩
        refine ⟨fun h0 => (by rw [h0] at hrdy; cases hrdy), fun j hj => ?_⟩
        obtain ⟨hjun, o, hoj, hall⟩ := mem_ready.1 hj
        have hjn : j < ops.size := (Array.getElem?_eq_some_iff.1 hoj).1
        have hopen := opn_set hjun ops.size hjn
        have hLj : listed.getD j false = false := getD_both hjun
        have hsz : j < listed.size := by rw [inv.size]; omega
        have h1 := inv.set hj hjn
        have hclosed : ∀ (j : Nat) o, ops[j]? = some o → listed.getD j false = true → ∀ e ∈ dirs o, listed.getD e false = true := fun j o ho hL e he => by
          obtain ⟨x, h1, h2, rfl⟩ := binds_dirs he
          exact inv.closed j o ho hL x h1 h2
        have hclosed' : ∀ (k : Nat) o', ops[k]? = some o' → (listed.setIfInBounds j true).getD k false = true → ∀ e ∈ dirs o', (listed.setIfInBounds j true).getD e false = true := fun k o' ho' hL e he => by
          obtain ⟨x, h3, h4, rfl⟩ := binds_dirs he
          exact h1.closed k o' ho' hL x h3 h4
        have hself : (listed.setIfInBounds j true).getD j false = true := by simp [hsz]
        have hancj : ∀ i, ((ancOf ops.toList []).getD j 0).testBit i = true → i ≠ j → listed.getD i false = true := fun i hi hij => by
          have := hanc (fun k => (listed.setIfInBounds j true).getD k false) hclosed' j hself i hi
          rw [getD_set_ne false (fun e => hij e.symm)] at this; exact this
        have hcl1 : ∀ m, m < ops.size → listed.getD m false = true → ∀ q ∈ (List.range ops.size).filter (fun i => (a1.getD m 0).testBit i), listed.getD q false = true := fun m hm hLm q hq => by
          obtain ⟨hi1, hi2⟩ := List.mem_filter.1 hq
          rcases hok1 m q hm (List.mem_range.1 hi1) hi2 with h | ⟨h3, h4⟩
          · exact hanc (fun k => listed.getD k false) hclosed m hLm q h
          · rw [hno m (by omega)] at hLm; cases hLm
        have hst : Exec1 P ops o a w (wpAny P .any ops (lift c Q) f (listed.setIfInBounds j true)) (lift c Q) := by
          by_cases hj2 : j = k + 2
          · -- the entry first
            subst hj2
            have hσk : rotP k (k + 2) = k := by unfold rotP; (repeat' split) <;> omega
            have hSL : SL (fun p => listed.getD p false) S1 F1 ops.size = SL (fun p => listed.getD (rotP k p) false) S2 F2 ops.size :=
              SL_pre z1 z2 (fun p hp => by show listed.getD p false = listed.getD (rotP k p) false; rw [rotP_pre hp]) hno (fun p hp => by
                show listed.getD (rotP k p) false = false
                exact hno _ (by unfold rotP; (repeat' split) <;> omega)) ops.size
            rw [hSL] at hR
            refine draw_step (P := P) (c := c) (ops := ops) (L := fun p => listed.getD (rotP k p) false) (L' := fun p => (listed.setIfInBounds (k + 2) true).getD (rotP k p) false) (p := k) (o := o) hc2 (by omega) (hno _ (by unfold rotP; (repeat' split) <;> omega)) (fun q hq hlt => ?_) (fun m hm hLm q hq => ?_)
              (by show (listed.setIfInBounds (k + 2) true).getD (rotP k k) false = true; rw [show rotP k k = k + 2 by unfold rotP; rw [if_pos rfl]]; exact hself) (fun i hi => getD_set_ne false (fun e => hi (by have := congrArg (rotP k) e; rw [rotP_rotP, hσk] at this; exact this.symm))) (hA2 k o (by rw [show rotP k k = k + 2 by unfold rotP; rw [if_pos rfl]]; exact hoj)) hR fun g' a' w' hR' => ?_
            · obtain ⟨hi1, hi2⟩ := List.mem_filter.1 hq
              rcases hok2 k q (by omega) (List.mem_range.1 hi1) hi2 with h | ⟨h3, h4⟩
              · rw [show rotP k k = k + 2 by unfold rotP; rw [if_pos rfl]] at h
                exact hancj _ h (fun e => by have := congrArg (rotP k) e; rw [rotP_rotP, hσk] at this; omega)
              · rw [show rotP k k = k + 2 by unfold rotP; rw [if_pos rfl]] at h3; omega
            · have hLm' : listed.getD (rotP k m) false = true := hLm
              have hmk : rotP k m < k := by
                rcases Nat.lt_or_ge (rotP k m) k with h | h
                · exact h
                · rw [hno _ h] at hLm'; cases hLm'
              obtain ⟨hi1, hi2⟩ := List.mem_filter.1 hq
              rcases hok2 m q hm (List.mem_range.1 hi1) hi2 with h | ⟨h3, h4⟩
              · exact hanc (fun k => listed.getD k false) hclosed _ hLm' _ h
              · omega
            · exact walk2 f _ g' a' w' h1 hself hR' (by omega)
          · have hst1 : ∀ {K : Act → World → Prop} {Q' : Exit → Act → World → Prop}, j ≤ k → (∀ g' a' w', R c g' (SL (fun p => (listed.setIfInBounds j true).getD p false) S1 F1 ops.size) a' w' → K a' w') → Exec1 P ops o a w K Q' := fun {K Q'} hjk hK =>
              draw_step (P := P) (c := c) (ops := ops) (L := fun p => listed.getD p false) (L' := fun p => (listed.setIfInBounds j true).getD p false) (p := j) (o := o) hc1 hjn hLj (fun q hq hlt => by
                obtain ⟨hi1, hi2⟩ := List.mem_filter.1 hq
                rcases hok1 j q hjn (List.mem_range.1 hi1) hi2 with h | ⟨h3, h4⟩
                · exact hancj q h (by omega)
                · exact (hj2 h3).elim) hcl1 hself (fun i hi => getD_set_ne false (fun e => hi e.symm)) (hA1 j o hoj) hR hK
            rcases Nat.lt_trichotomy j k with hjk | hjk | hjk
            · refine hst1 (by omega) fun g' a' w' hR' => ih _ g' a' w' h1 (fun p hp => ?_) hR' (by omega)
              rw [getD_set_ne false (by omega)]; exact hno p hp
            · subst hjk
              exact hst1 (Nat.le_refl _) fun g' a' w' hR' => walk1 f _ g' a' w' h1 hself hR' (by omega)
            · exfalso
              rcases hok3 j hjn hjk hj2 with h | h
              · have := hancj k h (by omega); rw [hno k (Nat.le_refl _)] at this; cases this
              · have := hancj (k + 2) h (fun e => hj2 e.symm); rw [hno (k + 2) (by omega)] at this; cases this
        unfold wpOp
        rw [hoj]
        unfold Exec1 at hst
        show if Region.wanted o (yielded ops a.tmps) = true then _ else _
        split
        · rename_i hw; rw [if_pos hw] at hst; exact .inl hst
        · rename_i hw; rw [if_neg hw] at hst; exact hst
  refine phase _ _ g a _ inv0 (fun p _ => getD_replicate_false _ _) ?_ ?_
  · rw [SL_none _ fun j _ => getD_replicate_false _ _, x1]; exact hR'
  · unfold opn
    rw [List.filter_eq_self.2 (fun j hj => by
      have hj' := List.mem_range.1 hj
      rw [getD_in (by simp; omega) (getD_replicate_false _ _)]; rfl)]
    simp
end
section
variable {P : Program} {c : Cx}
theorem xw_sound (hm : P.follows .mixedOrders = true) : ∀ (code : Code) (t : TC) (Q : EX → St → Prop) (s : St), elabC P c.N code = some t → xw P c t Q s → AW P c code Q s := by
  intro code
  induction code with
  | skip =>
    intro t Q s he h g a w hR
    simp [elabC] at he; subst he
    exact wp_skip ⟨g, s, hR, h⟩
  | region id ops d =>
    intro t Q s he h
    cases d with
    | false =>
      simp only [elabC, Option.map_eq_some_iff] at he
      obtain ⟨l, hl, rfl⟩ := he
      intro g a w hR
      exact wp_region_list (XP_sound (K := Q .normal) (fun s g a w hs hR => ⟨g, s, hR, hs⟩) ops.toList l s hl h g a w hR)
    | true =>
      simp only [elabC] at he
      split at he
      · rename_i hb
        simp only [Option.map_eq_some_iff] at he
        obtain ⟨l, hl, rfl⟩ := he
        unfold drawnT at h
        split at h
        · split at h
          · rename_i hk
            exact two_sound hm hb hl hk.1 hk.2 h.1 h.2
          · exact drawn_sound hm hb hl h
        · exact drawn_sound hm hb hl h
      · cases he
  | seq x y ihx ihy =>
    intro t Q s he h g a w hR
    simp only [elabC] at he
    split at he
    · rename_i tx ty hx hy
      simp at he; subst he
      refine wp_seq (wp_mono (ihx tx _ s hx h g a w hR) fun e a' w' hq => ?_)
      cases e with
      | normal =>
        obtain ⟨g', s', hR', hq'⟩ := hq
        exact ihy ty Q s' hy hq' g' a' w' hR'
      | exit i => exact hq
      | ret => exact hq
      | goto l => exact hq
      | panic ch => exact hq
      | outgrown => exact hq
    · cases he
  | cond x a b iha ihb =>
    intro t Q s he h g act w hR
    simp only [elabC] at he
    split at he
    · rename_i ta tb ha hb
      simp at he; subst he
      obtain ⟨h1, h2, h3⟩ := h
      have hv := (hR.ev x).isB h1
      refine wp_cond_split hv (fun ht => ?_) fun hf => ?_
      · exact iha ta Q s ha (h2 ht) g act w hR
      · exact ihb tb Q s hb (h3 hf) g act w hR
    · cases he
  | block i b ih =>
    intro t Q s he h g a w hR
    simp only [elabC, Option.map_eq_some_iff] at he
    obtain ⟨tb, hb, rfl⟩ := he
    refine wp_block (wp_mono (ih tb _ s hb h g a w hR) fun e a' w' hq => ?_)
    cases e with
    | exit j =>
      obtain ⟨g', s', hR', hq'⟩ := hq
      simp only [blockK] at hq'
      simp only [Exit.inBlock]
      split
      · rename_i e; rw [if_pos e] at hq'; exact ⟨g', s', hR', hq'⟩
      · rename_i e; rw [if_neg e] at hq'; exact ⟨g', s', hR', hq'⟩
    | normal => exact hq
    | ret => exact hq
    | goto l => exact hq
    | panic ch => exact hq
    | outgrown => exact hq
  | loop b ih =>
    intro t Q s he h
    simp only [elabC, Option.map_eq_some_iff] at he
    obtain ⟨tb, hb, rfl⟩ := he
    exact h b hb
  | exit i =>
    intro t Q s he h g a w hR
    simp [elabC] at he; subst he
    exact wp_exit ⟨g, s, hR, h⟩
  | ret =>
    intro t Q s he h g a w hR
    simp [elabC] at he; subst he
    exact wp_ret ⟨g, s, hR, h⟩
  | rangeFunc f ps a b iha ihb => intro t Q s he; simp [elabC] at he
  | scope b ih => intro t Q s he; simp [elabC] at he
  | label l => intro t Q s he; simp [elabC] at he
  | goto l => intro t Q s he; simp [elabC] at he
  | refuse why => intro t Q s he; simp [elabC] at he
end
end Go.Proofs.YtogckmommodmhaaGreatDoor

/-! Names: what mentions which, and how they are put in one another's place; loops; calls. No conditions but the ones that stand in each. -/
namespace Go.Proofs.YtogckmommodmhaaGreatDoor
set_option linter.all false
set_option linter.unusedSimpArgs false
open Go.RowKit

mutual
/-- No name from n on is mentioned. -/
def nmOk (n : Nat) : AV → Prop
  | .cnd _ v => nmOk n v
  | .agg cs => nmAll n cs
  | .tup cs => nmAll n cs
  | .xp cs _ => nmAll n cs
  | .isl _ cs => nmAll n cs
  | .cl _ cs => nmAll n cs
  | .ptr b _ => b < n
  | .sl _ b _ _ _ => b < n
  | .mp b => b < n
  | _ => True
def nmAll (n : Nat) : List AV → Prop
  | [] => True
  | x :: xs => nmOk n x ∧ nmAll n xs
end
mutual
def ren (ρ : Nat → Nat) : AV → AV
  | .cnd b v => .cnd b (ren ρ v)
  | .agg cs => .agg (rens ρ cs)
  | .tup cs => .tup (rens ρ cs)
  | .xp cs o => .xp (rens ρ cs) o
  | .isl n cs => .isl n (rens ρ cs)
  | .cl f cs => .cl f (rens ρ cs)
  | .ptr b o => .ptr (ρ b) o
  | .sl es b o n c => .sl es (ρ b) o n c
  | .mp b => .mp (ρ b)
  | .any => .any
  | .int k n => .int k n
  | .bool b => .bool b
  | .str l => .str l
  | .nils => .nils
  | .lit v => .lit v
def rens (ρ : Nat → Nat) : List AV → List AV
  | [] => []
  | x :: xs => ren ρ x :: rens ρ xs
end
theorem nmAll_iff {n : Nat} : ∀ {cs : List AV}, nmAll n cs ↔ ∀ x ∈ cs, nmOk n x
  | [] => by simp [nmAll]
  | x :: xs => by simp [nmAll, nmAll_iff (cs := xs)]
theorem rens_eq (ρ : Nat → Nat) : ∀ cs : List AV, rens ρ cs = cs.map (ren ρ)
  | [] => by simp [rens]
  | x :: xs => by simp [rens, rens_eq ρ xs]
theorem rens_len (ρ : Nat → Nat) (cs : List AV) : (rens ρ cs).length = cs.length := by rw [rens_eq]; simp
theorem rens_get (ρ : Nat → Nat) (cs : List AV) (j : Nat) : (rens ρ cs).getD j .any = ren ρ (cs.getD j .any) := by
  rw [rens_eq]
  simp only [List.getD, List.getElem?_map]
  cases cs[j]? <;> simp [ren]
theorem nmAll_get {n : Nat} {cs : List AV} (h : nmAll n cs) (j : Nat) : nmOk n (cs.getD j .any) := by
  by_cases hj : j < cs.length
  · rw [getD_lt hj]; exact nmAll_iff.1 h _ (List.getElem_mem _)
  · have : cs.getD j .any = .any := by simp [List.getD, Nat.le_of_not_lt hj]
    rw [this]; simp [nmOk]

section
variable {P : Program} {W : Nat → Prop} {w : World} {g g' : Nat → GM} {n : Nat} {ρ : Nat → Nat}

theorem VR.ren (hg : ∀ b, b < n → g (ρ b) = g' b) {v : AV} {u : Value} (h : VR g' W w v u) : nmOk n v → VR g W w (ren ρ v) u := by
  induction h with
  | any v => intro _; simp only [Proofs.YtogckmommodmhaaGreatDoor.ren]; exact .any _
  | cnd h h0 ih => intro hn; simp only [Proofs.YtogckmommodmhaaGreatDoor.ren]; simp only [nmOk] at hn; exact .cnd (fun hb => ih hb hn) h0
  | int k n => intro _; simp only [Proofs.YtogckmommodmhaaGreatDoor.ren]; exact .int _ _
  | bool b => intro _; simp only [Proofs.YtogckmommodmhaaGreatDoor.ren]; exact .bool _
  | str l => intro _; simp only [Proofs.YtogckmommodmhaaGreatDoor.ren]; exact .str _
  | agg hs h1 h ih =>
    intro hn; simp only [Proofs.YtogckmommodmhaaGreatDoor.ren]; simp only [nmOk] at hn
    exact .agg (by rw [rens_len]; exact hs) (fun j hj => h1 j (by rwa [rens_len] at hj)) fun j hj => by rw [rens_get]; exact ih j (by rwa [rens_len] at hj) (nmAll_get hn j)
  | tup hs h ih =>
    intro hn; simp only [Proofs.YtogckmommodmhaaGreatDoor.ren]; simp only [nmOk] at hn
    exact .tup (by rw [rens_len]; exact hs) fun j hj => by rw [rens_get]; exact ih j (by rwa [rens_len] at hj) (nmAll_get hn j)
  | ptr e => intro hn; simp only [Proofs.YtogckmommodmhaaGreatDoor.ren]; simp only [nmOk] at hn; exact .ptr (by rw [hg _ hn]; exact e)
  | xp hc h ih =>
    intro hn; simp only [Proofs.YtogckmommodmhaaGreatDoor.ren]; simp only [nmOk] at hn
    exact .xp (fun j hj => hc j (by rwa [rens_len] at hj)) fun j hj => by rw [rens_get]; exact ih j (by rwa [rens_len] at hj) (nmAll_get hn j)
  | sl e a b c d f => intro hn; simp only [Proofs.YtogckmommodmhaaGreatDoor.ren]; simp only [nmOk] at hn; exact .sl (by rw [hg _ hn]; exact e) a b c d f
  | slp e hc => intro hn; simp only [Proofs.YtogckmommodmhaaGreatDoor.ren]; simp only [nmOk] at hn; exact .slp (by rw [hg _ hn]; exact e) hc
  | isl a b hc h ih =>
    intro hn; simp only [Proofs.YtogckmommodmhaaGreatDoor.ren]; simp only [nmOk] at hn
    exact .isl a b (fun j hj => hc j (by rwa [rens_len] at hj)) fun j hj => by rw [rens_get]; exact ih j (by rwa [rens_len] at hj) (nmAll_get hn j)
  | nils a => intro _; simp only [Proofs.YtogckmommodmhaaGreatDoor.ren]; exact .nils _
  | cl hs h ih =>
    intro hn; simp only [Proofs.YtogckmommodmhaaGreatDoor.ren]; simp only [nmOk] at hn
    exact .cl (by rw [rens_len]; exact hs) fun j hj => by rw [rens_get]; exact ih j (by rwa [rens_len] at hj) (nmAll_get hn j)
  | mp e => intro hn; simp only [Proofs.YtogckmommodmhaaGreatDoor.ren]; simp only [nmOk] at hn; exact .mp (by rw [hg _ hn]; exact e)
  | lit v => intro _; simp only [Proofs.YtogckmommodmhaaGreatDoor.ren]; exact .lit _

theorem VR.unren (hg : ∀ b, b < n → g (ρ b) ≠ .un → g (ρ b) = g' b) {x : AV} {u : Value} (h : VR g W w x u) : ∀ v, x = Proofs.YtogckmommodmhaaGreatDoor.ren ρ v → nmOk n v → VR g' W w v u := by
  induction h with
  | any => intro v e _; cases v <;> simp [Proofs.YtogckmommodmhaaGreatDoor.ren] at e; exact .any _
  | cnd h h0 ih => intro v e hn; cases v <;> simp [Proofs.YtogckmommodmhaaGreatDoor.ren] at e; obtain ⟨rfl, rfl⟩ := e; exact .cnd (fun hb => ih hb _ rfl (by simpa [nmOk] using hn)) h0
  | int k n => intro v e _; cases v <;> simp [Proofs.YtogckmommodmhaaGreatDoor.ren] at e; obtain ⟨rfl, rfl⟩ := e; exact .int _ _
  | bool b => intro v e _; cases v <;> simp [Proofs.YtogckmommodmhaaGreatDoor.ren] at e; subst e; exact .bool _
  | str l => intro v e _; cases v <;> simp [Proofs.YtogckmommodmhaaGreatDoor.ren] at e; subst e; exact .str _
  | agg hs h1 h ih =>
    intro v e hn; cases v <;> simp [Proofs.YtogckmommodmhaaGreatDoor.ren] at e; subst e; simp only [nmOk] at hn
    rw [rens_len] at hs h1 ih
    exact .agg hs h1 fun j hj => ih j hj _ (rens_get _ _ _) (nmAll_get hn j)
  | tup hs h ih =>
    intro v e hn; cases v <;> simp [Proofs.YtogckmommodmhaaGreatDoor.ren] at e; subst e; simp only [nmOk] at hn
    rw [rens_len] at hs ih
    exact .tup hs fun j hj => ih j hj _ (rens_get _ _ _) (nmAll_get hn j)
  | ptr e0 => intro v e hn; cases v <;> simp [Proofs.YtogckmommodmhaaGreatDoor.ren] at e; obtain ⟨rfl, rfl⟩ := e; simp only [nmOk] at hn; exact .ptr (by rw [← hg _ hn (by rw [e0]; intro x; cases x)]; exact e0)
  | xp hc h ih =>
    intro v e hn; cases v <;> simp [Proofs.YtogckmommodmhaaGreatDoor.ren] at e; obtain ⟨rfl, rfl⟩ := e; simp only [nmOk] at hn
    rw [rens_len] at hc ih
    exact .xp hc fun j hj => ih j hj _ (rens_get _ _ _) (nmAll_get hn j)
  | sl e0 a b c d f => intro v e hn; cases v <;> simp [Proofs.YtogckmommodmhaaGreatDoor.ren] at e; obtain ⟨rfl, rfl, rfl, rfl, rfl⟩ := e; simp only [nmOk] at hn; exact .sl (by rw [← hg _ hn (by rw [e0]; intro x; cases x)]; exact e0) a b c d f
  | slp e0 hc => intro v e hn; cases v <;> simp [Proofs.YtogckmommodmhaaGreatDoor.ren] at e; obtain ⟨rfl, rfl, rfl, rfl, rfl⟩ := e; simp only [nmOk] at hn; exact .slp (by rw [← hg _ hn (by rw [e0]; intro x; cases x)]; exact e0) hc
  | isl a b hc h ih =>
    intro v e hn; cases v <;> simp [Proofs.YtogckmommodmhaaGreatDoor.ren] at e; obtain ⟨rfl, rfl⟩ := e; simp only [nmOk] at hn
    rw [rens_len] at hc ih
    exact .isl a b hc fun j hj => ih j hj _ (rens_get _ _ _) (nmAll_get hn j)
  | nils a => intro v e _; cases v <;> simp [Proofs.YtogckmommodmhaaGreatDoor.ren] at e; exact .nils _
  | cl hs h ih =>
    intro v e hn; cases v <;> simp [Proofs.YtogckmommodmhaaGreatDoor.ren] at e; obtain ⟨rfl, rfl⟩ := e; simp only [nmOk] at hn
    rw [rens_len] at hs ih
    exact .cl hs fun j hj => ih j hj _ (rens_get _ _ _) (nmAll_get hn j)
  | mp e0 => intro v e hn; cases v <;> simp [Proofs.YtogckmommodmhaaGreatDoor.ren] at e; subst e; simp only [nmOk] at hn; exact .mp (by rw [← hg _ hn (by rw [e0]; intro x; cases x)]; exact e0)
  | lit => intro v e _; cases v <;> simp [Proofs.YtogckmommodmhaaGreatDoor.ren] at e; subst e; exact .lit _

theorem ren_id (ρ : Nat → Nat) (h : ∀ b, ρ b = b) : ∀ v : AV, Proofs.YtogckmommodmhaaGreatDoor.ren ρ v = v := by
  have : ρ = id := funext h
  subst this
  intro v
  exact AV.rec (motive_1 := fun v => Proofs.YtogckmommodmhaaGreatDoor.ren id v = v) (motive_2 := fun l => rens id l = l) (by simp [Proofs.YtogckmommodmhaaGreatDoor.ren]) (fun b v h => by simp [Proofs.YtogckmommodmhaaGreatDoor.ren, h]) (fun _ _ => by simp [Proofs.YtogckmommodmhaaGreatDoor.ren]) (fun _ => by simp [Proofs.YtogckmommodmhaaGreatDoor.ren]) (fun _ => by simp [Proofs.YtogckmommodmhaaGreatDoor.ren])
    (fun cs h => by simp [Proofs.YtogckmommodmhaaGreatDoor.ren, h]) (fun cs h => by simp [Proofs.YtogckmommodmhaaGreatDoor.ren, h]) (fun _ _ => by simp [Proofs.YtogckmommodmhaaGreatDoor.ren]) (fun cs _ h => by simp [Proofs.YtogckmommodmhaaGreatDoor.ren, h]) (fun _ _ _ _ _ => by simp [Proofs.YtogckmommodmhaaGreatDoor.ren]) (fun _ cs h => by simp [Proofs.YtogckmommodmhaaGreatDoor.ren, h]) (by simp [Proofs.YtogckmommodmhaaGreatDoor.ren])
    (fun _ cs h => by simp [Proofs.YtogckmommodmhaaGreatDoor.ren, h]) (fun _ => by simp [Proofs.YtogckmommodmhaaGreatDoor.ren]) (fun _ => by simp [Proofs.YtogckmommodmhaaGreatDoor.ren]) (by simp [rens]) (fun x xs h1 h2 => by simp [rens, h1, h2]) v
/-- What mentions no name from n on hangs on the names below alone. -/
theorem VR.nm {v : AV} {u : Value} (h : VR g W w v u) (hn : nmOk n v) (hg : ∀ b, b < n → g b = g' b) : VR g' W w v u :=
  h.unren (ρ := id) (n := n) (g' := g') (fun b hb _ => hg b hb) v (ren_id _ (fun _ => rfl) v).symm hn
end
end Go.Proofs.YtogckmommodmhaaGreatDoor

/-! Loops; what a call may be told to yield; how a body proves it. No conditions but the ones that stand in each. -/
namespace Go.Proofs.YtogckmommodmhaaGreatDoor
set_option linter.all false
set_option linter.unusedSimpArgs false
open Go.RowKit

/-- Names by a list of pairs, the others as they are. -/
def rl : List (Nat × Nat) → Nat → Nat
  | [], b => b
  | (i, j) :: r, b => bif i == b then j else rl r b
def renB (ρ : Nat → Nat) : Bk → Bk
  | .cells cs => .cells (rens ρ cs)
  | .mapb kvs dn => .mapb (kvs.map fun p => (ren ρ p.1, ren ρ p.2)) dn
  | .mapx kvs bs ck => .mapx (kvs.map fun p => (ren ρ p.1, ren ρ p.2)) bs ck
  | .iter b ck seen => .iter (ρ b) ck seen
  | .bag ls => .bag ls
  | x => x
def nmB (n : Nat) : Bk → Prop
  | .cells cs => nmAll n cs
  | .mapb kvs _ => ∀ p ∈ kvs, nmOk n p.1 ∧ nmOk n p.2
  | .mapx kvs _ _ => ∀ p ∈ kvs, nmOk n p.1 ∧ nmOk n p.2
  | .iter b _ _ => b < n
  | .bag ls => ∀ l ∈ ls, nmAll 0 l
  | _ => False
def subT (ρ : Nat → Nat) (n : Nat) (st : List (Nat × AV)) : List (Nat × AV) → Prop
  | [] => True
  | (i, v) :: r => (nmOk n v ∧ look st i = ren ρ v) ∧ subT ρ n st r
def rhoNot (ρ : Nat → Nat) (b : Nat) : List (Nat × Bk) → Prop
  | [] => True
  | (b', _) :: r => ρ b' ≠ ρ b ∧ rhoNot ρ b r
def subH (ρ : Nat → Nat) (n : Nat) (s : St) : List (Nat × Bk) → Prop
  | [] => True
  | (b, x) :: r => (b < n ∧ nmB n x ∧ lookb s.h s.n (ρ b) = renB ρ x ∧ rhoNot ρ b r) ∧ subH ρ n s r
/-- s' knows no more than s does, its names put in others' places. -/
def Sub (ρ : Nat → Nat) (s s' : St) : Prop := subT ρ s'.n s.t s'.t ∧ subH ρ s'.n s s'.h

theorem look_cases : ∀ (l : List (Nat × AV)) (i : Nat), look l i = .any ∨ ∃ p ∈ l, p.1 = i ∧ look l i = p.2
  | [], _ => .inl rfl
  | (j, v) :: l, i => by
    rw [look_cons]
    by_cases h : j = i
    · rw [if_pos h]; exact .inr ⟨(j, v), by simp, h, rfl⟩
    · rw [if_neg h]
      rcases look_cases l i with h' | ⟨p, h1, h2, h3⟩
      · exact .inl h'
      · exact .inr ⟨p, by simp [h1], h2, h3⟩
theorem lookb_cases : ∀ (l : List (Nat × Bk)) (n i : Nat), (lookb l n i = if i < n then .dead else .free) ∨ ∃ p ∈ l, p.1 = i ∧ lookb l n i = p.2
  | [], n, i => by
    exact .inl rfl
  | (j, v) :: l, n, i => by
    rw [lookb_cons]
    by_cases h : j = i
    · rw [if_pos h]; exact .inr ⟨(j, v), by simp, h, rfl⟩
    · rw [if_neg h]
      rcases lookb_cases l n i with h' | ⟨p, h1, h2, h3⟩
      · exact .inl h'
      · exact .inr ⟨p, by simp [h1], h2, h3⟩
theorem subT_mem {ρ : Nat → Nat} {n : Nat} {st : List (Nat × AV)} : ∀ {l : List (Nat × AV)}, subT ρ n st l → ∀ p ∈ l, nmOk n p.2 ∧ look st p.1 = ren ρ p.2
  | [], _, p, hp => by cases hp
  | (i, v) :: r, h, p, hp => by
    rcases List.mem_cons.1 hp with rfl | hp
    · exact h.1
    · exact subT_mem h.2 p hp
theorem rhoNot_mem {ρ : Nat → Nat} {b : Nat} : ∀ {l : List (Nat × Bk)}, rhoNot ρ b l → ∀ p ∈ l, ρ p.1 ≠ ρ b
  | [], _, p, hp => by cases hp
  | (i, v) :: r, h, p, hp => by
    rcases List.mem_cons.1 hp with rfl | hp
    · exact h.1
    · exact rhoNot_mem h.2 p hp
theorem subH_mem {ρ : Nat → Nat} {n : Nat} {s : St} : ∀ {l : List (Nat × Bk)}, subH ρ n s l → ∀ p ∈ l, p.1 < n ∧ nmB n p.2 ∧ lookb s.h s.n (ρ p.1) = renB ρ p.2
  | [], _, p, hp => by cases hp
  | (i, v) :: r, h, p, hp => by
    rcases List.mem_cons.1 hp with rfl | hp
    · exact ⟨h.1.1, h.1.2.1, h.1.2.2.1⟩
    · exact subH_mem h.2 p hp
theorem subH_inj {ρ : Nat → Nat} {n : Nat} {s : St} : ∀ {l : List (Nat × Bk)}, subH ρ n s l → ∀ p ∈ l, ∀ q ∈ l, ρ p.1 = ρ q.1 → p.1 = q.1
  | [], _, p, hp => by cases hp
  | (i, v) :: r, h, p, hp => by
    intro q hq e
    rcases List.mem_cons.1 hp with rfl | hp <;> rcases List.mem_cons.1 hq with rfl | hq
    · rfl
    · exact absurd e.symm (rhoNot_mem h.1.2.2.2 q hq)
    · exact absurd e (rhoNot_mem h.1.2.2.2 p hp)
    · exact subH_inj h.2 p hp q hq e

theorem flat_nm {ls ls' : List (List AV)} (hp : ls'.Perm ls) (hn : ∀ l ∈ ls, nmAll 0 l) : nmAll 0 ls'.flatten := nmAll_iff.2 fun x hx => by
  obtain ⟨l, hl, hx⟩ := List.mem_flatten.1 hx
  exact nmAll_iff.1 (hn l (hp.mem_iff.1 hl)) x hx
theorem BR.bag_any {g g' : Nat → GM} {W W' : Nat → Prop} {w : World} {m : GM} {ls : List (List AV)} (h : BR g W w m (.bag ls)) (hn : ∀ l ∈ ls, nmAll 0 l) (hW : ∀ k, W' k → W k) : BR g' W' w m (.bag ls) := by
  cases h with
  | bag hp h =>
    refine .bag hp ?_
    have hf := flat_nm hp hn
    generalize List.flatten _ = cs at h hf
    cases h with
    | ph => exact .ph
    | cells hb hl h1 hv hz => exact .cells hb hl h1 (fun j hj => ((hv j hj).nm (nmAll_get hf j) (fun b hb => by omega)).mono (Fr.refl w W) (fun k _ => hW k) (fun _ _ => rfl)) hz
section
variable {g g' : Nat → GM} {W W' : Nat → Prop} {w : World}
/-- A block's cells under other names. -/
theorem BR.unren {ρ : Nat → Nat} {n : Nat} (hg' : ∀ b, b < n → g (ρ b) ≠ .un → g (ρ b) = g' b) {mm : GM} {x : Bk} (h : BR g W w mm (renB ρ x)) (hn : nmB n x) (hW : ∀ k, W' k → W k) : BR g' W' w mm x := by
  have back : ∀ {v u}, nmOk n v → VR g W w (ren ρ v) u → VR g' W' w v u := fun hn h => (h.unren hg' _ rfl hn).mono (Fr.refl w W) (fun k _ => hW k) (fun _ _ => rfl)
  cases x with
  | free => exact hn.elim
  | dead => exact hn.elim
  | cells cs =>
    simp only [renB] at h
    simp only [nmB] at hn
    generalize hcs : rens ρ cs = cs' at h
    cases h with
    | ph =>
      have : cs = [] := by cases cs <;> simp_all [rens]
      subst this; exact .ph
    | cells hb hl h1 hv hz =>
      subst hcs
      rw [rens_len] at hl h1 hv
      exact .cells hb hl h1 (fun j hj => back (nmAll_get hn j) (by have := hv j hj; rwa [rens_get] at this)) hz
  | mapb kvs dn =>
    simp only [renB] at h
    simp only [nmB] at hn
    generalize hcs : (kvs.map fun p => (ren ρ p.1, ren ρ p.2)) = kvs' at h
    cases h with
    | mapb hb hs hkk hv hc ha hd =>
      subst hcs
      rw [List.length_map] at hs hkk hv
      have hget : ∀ j, j < kvs.length → (kvs.map fun p => (ren ρ p.1, ren ρ p.2)).getD j (.any, .any) = (ren ρ (kvs.getD j (.any, .any)).1, ren ρ (kvs.getD j (.any, .any)).2) := fun j hj => by simp [List.getD, hj]
      have hmem : ∀ j, j < kvs.length → kvs.getD j (.any, .any) ∈ kvs := fun j hj => by simp [List.getD, hj]
      exact .mapb hb hs (fun j hj => back (hn _ (hmem j hj)).1 (by have := hkk j hj; rwa [hget j hj] at this)) (fun j hj => back (hn _ (hmem j hj)).2 (by have := hv j hj; rwa [hget j hj] at this)) hc ha hd
  | mapx kvs bs ck =>
    simp only [renB] at h
    simp only [nmB] at hn
    generalize hcs : (kvs.map fun p => (ren ρ p.1, ren ρ p.2)) = kvs' at h
    cases h with
    | mapx hb hs hkk hv hc ha hd =>
      subst hcs
      rw [List.length_map] at hs hkk hv
      have hget : ∀ j, j < kvs.length → (kvs.map fun p => (ren ρ p.1, ren ρ p.2)).getD j (.any, .any) = (ren ρ (kvs.getD j (.any, .any)).1, ren ρ (kvs.getD j (.any, .any)).2) := fun j hj => by simp [List.getD, hj]
      have hmem : ∀ j, j < kvs.length → kvs.getD j (.any, .any) ∈ kvs := fun j hj => by simp [List.getD, hj]
      exact .mapx hb hs (fun j hj => back (hn _ (hmem j hj)).1 (by have := hkk j hj; rwa [hget j hj] at this)) (fun j hj => back (hn _ (hmem j hj)).2 (by have := hv j hj; rwa [hget j hj] at this)) hc ha hd
  | iter b0 ck seen =>
    simp only [renB] at h
    simp only [nmB] at hn
    generalize hcs : ρ b0 = b1 at h
    cases h with
    | iter hb hg0 => exact .iter hb (by rw [← hg' b0 hn (by rw [hcs, hg0]; intro x; cases x), hcs]; exact hg0)
  | bag ls => exact BR.bag_any h hn hW

end
theorem live_of_nmB {n : Nat} {x : Bk} (h : nmB n x) : x.live := by cases x <;> simp_all [nmB, Bk.live]
theorem live_renB {ρ : Nat → Nat} {x : Bk} : (renB ρ x).live ↔ x.live := by cases x <;> simp [renB, Bk.live]

section
variable {P : Program} {c : Cx}

open Classical in
theorem Sub.to {ρ : Nat → Nat} {s s' : St} (hs : Sub ρ s s') {g : Nat → GM} {a : Act} {w : World} (hR : R c g s.fs a w) (hpin : ∀ p ∈ c.gh, ρ p.1 = p.1 ∧ p.1 < s'.n) : ∃ g', R c g' s'.fs a w := by
  obtain ⟨hT, hH⟩ := hs
  let g' : Nat → GM := fun b => if b < s'.n then (if g (ρ b) = .un then .ph else g (ρ b)) else .un
  have hg' : ∀ b, b < s'.n → g (ρ b) ≠ .un → g (ρ b) = g' b := fun b hb h => by simp only [g', if_pos hb, if_neg h]
  have hge : ∀ b, s'.n ≤ b → g' b = .un := fun b hb => by simp only [g']; rw [if_neg (by omega)]
  have hne : ∀ b, b < s'.n → g' b ≠ .un := fun b hb => by
    simp only [g', if_pos hb]
    split
    · intro h; cases h
    · assumption
  -- what a live name of s' is
  have hlive : ∀ b, (s'.fs.H b).live → ∃ p ∈ s'.h, p.1 = b ∧ s'.fs.H b = p.2 := fun b hl => by
    rcases lookb_cases s'.h s'.n b with h | h
    · have : s'.fs.H b = if b < s'.n then .dead else .free := h
      rw [this] at hl; split at hl <;> exact hl.elim
    · exact h
  have hliveS : ∀ b, (s'.fs.H b).live → b < s'.n ∧ (s.fs.H (ρ b)).live ∧ g' b = g (ρ b) := fun b hl => by
    obtain ⟨p, hp, rfl, e⟩ := hlive b hl
    obtain ⟨h1, h2, h3⟩ := subH_mem hH p hp
    have hlv : (s.fs.H (ρ p.1)).live := by
      show (lookb s.h s.n (ρ p.1)).live
      rw [h3, live_renB]; exact live_of_nmB h2
    refine ⟨h1, hlv, (hg' _ h1 fun e => ?_).symm⟩
    have := hR.h (ρ p.1)
    rw [e] at this
    generalize s.fs.H (ρ p.1) = x at this hlv
    exact this.ne_un hlv
  have hW : ∀ k, wset c g' s'.fs k → wset c g s.fs k := by
    rintro k (h | ⟨b, h1, h2⟩)
    · exact .inl h
    · obtain ⟨_, h4, h5⟩ := hliveS b h1
      exact .inr ⟨ρ b, h4, by rw [← h5]; exact h2⟩
  have hf := Fr.refl w (wset c g s.fs)
  have vmono : ∀ {v u}, VR g' (wset c g s.fs) w v u → VR g' (wset c g' s'.fs) w v u := fun h => h.mono hf (fun k _ => hW k) (fun _ _ => rfl)
  have back : ∀ {v u}, nmOk s'.n v → VR g (wset c g s.fs) w (ren ρ v) u → VR g' (wset c g' s'.fs) w v u := fun hn h => vmono (h.unren hg' _ rfl hn)
  refine ⟨g', hR.size, hR.def_, fun i => ?_, fun i => (hR.gl i).mono hf (fun k _ => hW k) (fun _ _ => rfl), fun b => ?_, fun b b' k h1 h2 e1 e2 => ?_, fun b k h1 e1 => ?_, hR.fr, hR.xs, fun p hp => ?_⟩
  · rcases look_cases s'.t i with h | ⟨p, h1, rfl, h3⟩
    · show VR g' _ w (look s'.t i) _
      rw [h]; exact .any _
    · show VR g' _ w (look s'.t p.1) _
      rw [h3]
      obtain ⟨q1, q2⟩ := subT_mem hT p h1
      have := hR.t p.1
      have e : s.fs.T p.1 = ren ρ p.2 := q2
      rw [e] at this
      exact back q1 this
  · rcases lookb_cases s'.h s'.n b with h | ⟨p, h1, rfl, h3⟩
    · show BR g' _ w _ (lookb s'.h s'.n b)
      rw [h]
      split
      · rename_i hb; exact .dead (hne b hb)
      · rename_i hb; rw [hge b (by omega)]; exact .free
    · show BR g' _ w _ (lookb s'.h s'.n p.1)
      rw [h3]
      obtain ⟨q1, q2, q3⟩ := subH_mem hH p h1
      have hl : (s'.fs.H p.1).live := by
        show (lookb s'.h s'.n p.1).live
        rw [h3]; exact live_of_nmB q2
      obtain ⟨_, _, e5⟩ := hliveS p.1 hl
      rw [e5]
      have hbr := hR.h (ρ p.1)
      have e : s.fs.H (ρ p.1) = renB ρ p.2 := q3
      rw [e] at hbr
      exact hbr.unren hg' q2 hW
  · obtain ⟨p1, hp1, rfl, _⟩ := hlive b h1
    obtain ⟨p2, hp2, rfl, _⟩ := hlive b' h2
    obtain ⟨_, l1, d1⟩ := hliveS _ h1
    obtain ⟨_, l2, d2⟩ := hliveS _ h2
    exact subH_inj hH p1 hp1 p2 hp2 (hR.inj _ _ k l1 l2 (by rw [← d1]; exact e1) (by rw [← d2]; exact e2))
  · obtain ⟨_, l1, d1⟩ := hliveS _ h1
    exact hR.old _ k l1 (by rw [← d1]; exact e1)
  · obtain ⟨q1, q2⟩ := hR.pin p hp
    obtain ⟨q3, q4⟩ := hpin p hp
    have := hg' p.1 q4 (by rw [q3, q1]; exact q2)
    rw [← this, q3]; exact ⟨q1, q2⟩

/-- What is asked at the end of a round. -/
def loopK {σ : Type} (I : σ → Prop) (emb : σ → St) (μ : σ → Nat) (x : σ) (Q : EX → St → Prop) : EX → St → Prop
  | .normal, s => ∃ y, I y ∧ (∃ ρ, Sub (rl ρ) s (emb y)) ∧ μ y < μ x
  | e, s => Q e s
/-- A loop: the states at its head are those of a family, each round leads on to one with a smaller measure. -/
theorem loop_rule {σ : Type} (I : σ → Prop) (emb : σ → St) (μ : σ → Nat) {b : TC} {Q : EX → St → Prop} {s : St} (hm : P.follows .mixedOrders = true) (hgh : c.gh = []) (h0 : ∃ y, I y ∧ ∃ ρ, Sub (rl ρ) s (emb y))
    (hr : ∀ x, I x → xw P c b (loopK I emb μ x Q) (emb x)) : LoopVC P c b Q s := by
  intro code he g a w hR
  obtain ⟨y0, hy0, ρ0, hs0⟩ := h0
  obtain ⟨g0, hR0⟩ := hs0.to hR (by rw [hgh]; intro p hp; cases hp)
  have key : ∀ n (x : σ), μ x = n → I x → ∀ g a w, R c g (emb x).fs a w → ∀ (fr : Frame) (k : List Item) (cs : List Frame), ∃ e a' w', lift c Q e a' w' ∧ Arrives P (lone (fr.at a (.code code :: .inLoop code :: k)) cs w) fr k cs e a' w' := by
    intro n
    induction n using Nat.strongRecOn with
    | _ n ih =>
      intro x hx hI g a w hR fr k cs
      have hb := xw_sound hm code b _ _ he (hr x hI) g a w hR
      obtain ⟨e, a1, w1, hq, harr⟩ := hb fr (.inLoop code :: k) cs
      cases e with
      | normal =>
        obtain ⟨g1, s1, hR1, y, hIy, ⟨ρ, hs⟩, hlt⟩ := hq
        obtain ⟨g2, hR2⟩ := hs.to hR1 (by rw [hgh]; intro p hp; cases hp)
        obtain ⟨e2, a2, w2, hq2, harr2⟩ := ih (μ y) (by omega) y rfl hIy g2 a1 w1 hR2 fr k cs
        exact ⟨e2, a2, w2, hq2, .of_steps (Steps.trans harr (.one step_inLoop)) harr2⟩
      | exit i => exact ⟨.exit i, a1, w1, hq, .pass (x := .inLoop code) rfl (fun _ _ => .inl (by simp)) harr⟩
      | ret => exact ⟨.ret, a1, w1, hq, .pass (x := .inLoop code) rfl (fun _ _ => .inl (by simp)) harr⟩
      | goto l => exact hq.elim
      | panic ch => exact hq.elim
      | outgrown => exact hq.elim
  intro fr k cs
  obtain ⟨e, a', w', hq, harr⟩ := key _ y0 rfl hy0 g0 a w hR0 fr k cs
  exact ⟨e, a', w', hq, .of_steps (.one step_loop) harr⟩

/-- The names that came in stay. -/
def pinL (m : Nat) (ρ : List (Nat × Nat)) (n : Nat) : Prop := (∀ p ∈ ρ, m ≤ p.1) ∧ m ≤ n
theorem rl_low {m : Nat} : ∀ {ρ : List (Nat × Nat)} (_ : ∀ p ∈ ρ, m ≤ p.1) {b : Nat}, b < m → rl ρ b = b
  | [], _, _, _ => rfl
  | (i, j) :: ρ, h, b, hb => by
    have h1 : m ≤ i := h (i, j) (by simp)
    have h2 := rl_low (ρ := ρ) (fun p hp => h p (by simp [hp])) hb
    have : (i == b) = false := by simp; omega
    simp only [rl, this, cond_false, h2]
theorem pinL_ok {m : Nat} {ρ : List (Nat × Nat)} {n : Nat} (hgh : ∀ p ∈ c.gh, p.1 < m) (h : pinL m ρ n) : ∀ p ∈ c.gh, rl ρ p.1 = p.1 ∧ p.1 < n := fun p hp => ⟨rl_low h.1 (hgh p hp), Nat.lt_of_lt_of_le (hgh p hp) h.2⟩
def loopKG {σ : Type} (m : Nat) (I : σ → Prop) (emb : σ → St) (μ : σ → Nat) (x : σ) (Q : EX → St → Prop) : EX → St → Prop
  | .normal, s => ∃ y, I y ∧ (∃ ρ, pinL m ρ (emb y).n ∧ Sub (rl ρ) s (emb y)) ∧ μ y < μ x
  | e, s => Q e s
theorem loop_ruleG {σ : Type} (I : σ → Prop) (emb : σ → St) (μ : σ → Nat) {b : TC} {Q : EX → St → Prop} {s : St} (hm : P.follows .mixedOrders = true) (m : Nat) (hgh : ∀ p ∈ c.gh, p.1 < m) (h0 : ∃ y, I y ∧ ∃ ρ, pinL m ρ (emb y).n ∧ Sub (rl ρ) s (emb y))
    (hr : ∀ x, I x → xw P c b (loopKG m I emb μ x Q) (emb x)) : LoopVC P c b Q s := by
  intro code he g a w hR
  obtain ⟨y0, hy0, ρ0, hp0, hs0⟩ := h0
  obtain ⟨g0, hR0⟩ := hs0.to hR (pinL_ok hgh hp0)
  have key : ∀ n (x : σ), μ x = n → I x → ∀ g a w, R c g (emb x).fs a w → ∀ (fr : Frame) (k : List Item) (cs : List Frame), ∃ e a' w', lift c Q e a' w' ∧ Arrives P (lone (fr.at a (.code code :: .inLoop code :: k)) cs w) fr k cs e a' w' := by
    intro n
    induction n using Nat.strongRecOn with
    | _ n ih =>
      intro x hx hI g a w hR fr k cs
      have hb := xw_sound hm code b _ _ he (hr x hI) g a w hR
      obtain ⟨e, a1, w1, hq, harr⟩ := hb fr (.inLoop code :: k) cs
      cases e with
      | normal =>
        obtain ⟨g1, s1, hR1, y, hIy, ⟨ρ, hp, hs⟩, hlt⟩ := hq
        obtain ⟨g2, hR2⟩ := hs.to hR1 (pinL_ok hgh hp)
        obtain ⟨e2, a2, w2, hq2, harr2⟩ := ih (μ y) (by omega) y rfl hIy g2 a1 w1 hR2 fr k cs
        exact ⟨e2, a2, w2, hq2, .of_steps (Steps.trans harr (.one step_inLoop)) harr2⟩
      | exit i => exact ⟨.exit i, a1, w1, hq, .pass (x := .inLoop code) rfl (fun _ _ => .inl (by simp)) harr⟩
      | ret => exact ⟨.ret, a1, w1, hq, .pass (x := .inLoop code) rfl (fun _ _ => .inl (by simp)) harr⟩
      | goto l => exact hq.elim
      | panic ch => exact hq.elim
      | outgrown => exact hq.elim
  intro fr k cs
  obtain ⟨e, a', w', hq, harr⟩ := key _ y0 rfl hy0 g0 a w hR0 fr k cs
  exact ⟨e, a', w', hq, .of_steps (.one step_loop) harr⟩

/-! ### Calls that leave all as it was -/
/-- A function that may be called. -/
def Callable (P : Program) (f : FuncId) : Prop := ∃ fn, P.funcs[f]? = some fn ∧ fn.body.isNone = false ∧ (fn.name == "runtime.NumGoroutine") = false
/-- Of these arguments the call yields r; nothing that was there turns. -/
def PS (P : Program) (gl : Nat → AV) (f : FuncId) (args : List AV) (r : AV) : Prop :=
  Callable P f ∧ ∀ (w : World) (vs : List Value) (X : Nat → Prop), (∀ k, X k → k < w.heap.size) → (∀ i, VR (fun _ => .un) X w (gl i) (.pointer (some ⟨i, 0, none⟩))) → VRs (fun _ => .un) X w args vs →
    Calls P f vs.toArray w fun e w' => ∃ v, e = .returned v ∧ VR (fun _ => .un) X w' r v ∧ Fr w w' (fun _ => False)

inductive RS where
  | t (i : Nat)
  | cell (a : Nat) (ty : TY)
def elabR (P : Program) : List ResultVar → Option (List RS)
  | [] => some []
  | .tmp t :: r => (elabR P r).map (.t t :: ·)
  | .cell a t :: r => match tyOf P t, elabR P r with
    | some ty, some l => some (.cell a ty :: l)
    | _, _ => none
def rv (s : FS) : RS → AV
  | .t i => s.T i
  | .cell a ty => match s.T a with
    | .ptr b off => match s.H b with
      | .cells cs => wr ty cs off
      | _ => .any
    | _ => .any
def rvOk (s : FS) : List RS → Prop
  | [] => True
  | .t _ :: r => rvOk s r
  | .cell a ty :: r => (match s.T a with
    | .ptr b off => match s.H b with
      | .cells cs => wrOk ty cs off
      | _ => False
    | _ => False) ∧ rvOk s r
def rvs (s : FS) : List RS → AV
  | [x] => rv s x
  | l => .tup (l.map (rv s))
/-- Rows that the call made are handed on as rows that nobody writes. -/
def frzS (s : FS) : AV → AV
  | .sl es b off n _ => match s.H b with
    | .cells cs => .isl n ((cs.drop off).take (n * es))
    | _ => .any
  | v => v
def frzA (s : FS) : AV → AV
  | .agg cs => .agg (cs.map (frzS s))
  | v => frzS s v
def frz (s : FS) : AV → AV
  | .tup vs => .tup (vs.map (frzA s))
  | v => frzA s v
def pureK (rs : List RS) (r : AV) : EX → St → Prop
  | .exit _, _ => False
  | _, s => rvOk s.fs rs ∧ frz s.fs (rvs s.fs rs) = r
def argT : Nat → List AV → List (Nat × AV)
  | _, [] => []
  | k, x :: xs => (k, x) :: argT (k + 1) xs

theorem look_argT : ∀ (xs : List AV) (k i : Nat), look (argT k xs) i = if k ≤ i ∧ i < k + xs.length then xs.getD (i - k) .any else .any
  | [], k, i => by
    rw [if_neg (fun h => by have := h.2; simp at this; omega)]; rfl
  | x :: xs, k, i => by
    simp only [argT]
    rw [look_cons, look_argT xs (k + 1) i]
    by_cases h : k = i
    · subst h; rw [if_pos rfl, if_pos (by simp)]; simp
    · rw [if_neg h]
      simp only [List.length_cons]
      by_cases h2 : k + 1 ≤ i ∧ i < k + 1 + xs.length
      · rw [if_pos h2, if_pos (by omega)]
        have : i - k = (i - (k + 1)) + 1 := by omega
        rw [this]; simp
      · rw [if_neg h2, if_neg (by omega)]

theorem run_rv {g : Nat → GM} {s : FS} {a : Act} {w : World} (hR : R c g s a w) : ∀ (rs : List ResultVar) (l : List RS), elabR P rs = some l → rvOk s l →
    ∃ vs : List Value, (rs.mapM (fun x => (match x with | .tmp t => pure (a.tmps.getD t undef) | .cell ad t => do loadVar t (← asAddr (a.tmps.getD ad undef)) : Sem Value))).run P w = .ok vs w ∧ VRs g (wset c g s) w (l.map (rv s)) vs
  | [], l, he, _ => by simp [elabR] at he; subst he; exact ⟨[], by simp, trivial⟩
  | .tmp t :: r, l, he, ho => by
    simp only [elabR, Option.map_eq_some_iff] at he
    obtain ⟨l', h1, rfl⟩ := he
    obtain ⟨vs, h2, h3⟩ := run_rv hR r l' h1 ho
    exact ⟨a.tmps.getD t undef :: vs, by simp only [List.mapM_cons, Sem.run_bind, Sem.run_pure, Result.andThen_ok, h2], hR.t t, h3⟩
  | .cell ad t :: r, l, he, ho => by
    simp only [elabR] at he
    split at he
    · rename_i ty l' hty hl
      simp at he; subst he
      obtain ⟨ho1, ho2⟩ := ho
      obtain ⟨vs, h2, h3⟩ := run_rv hR r l' hl ho2
      have ht := hR.t ad
      cases hT : s.T ad <;> rw [hT] at ho1 <;> simp only at ho1
      rename_i b off
      rw [hT] at ht
      obtain ⟨k, e1, e2⟩ := ptr_inv ht
      cases hH : s.H b <;> rw [hH] at ho1 <;> simp only at ho1
      rename_i cs
      have hbr := hR.h b
      rw [hH] at hbr
      have hload : ∃ v, (loadVar t ⟨k, off, none⟩).run P w = .ok v w ∧ VR g (wset c g s) w (wr ty cs off) v := by
        by_cases hpos : 0 < cs.length
        · obtain ⟨k', us, q1, q2, q3, q4⟩ := block_cells hbr hpos
          rw [e2] at q1; cases q1
          obtain ⟨v, hr, hvr⟩ := run_load_row (P := P) (o := 0) hty q2 q3 q4 ho1
          exact ⟨v, by simpa [Instr.loadAt, Instr.sureAddr] using hr, hvr⟩
        · obtain ⟨rfl, rfl, rfl⟩ := wrOk_pos ho1 hpos
          obtain ⟨v, hr, hvr⟩ := run_load_row (P := P) (g := g) (W := wset c g s) (k := k) (o := 0) (us := fun _ => undef) hty (fun j hj => absurd hj (by simp)) (fun j hj => absurd hj (by simp)) (fun j hj => absurd hj (by simp)) ho1
          exact ⟨v, by simpa [Instr.loadAt, Instr.sureAddr] using hr, hvr⟩
      obtain ⟨v, hv1, hv2⟩ := hload
      refine ⟨v :: vs, ?_, ?_, h3⟩
      · have hasa : (asAddr (a.tmps.getD ad undef)).run P w = .ok ⟨k, off, none⟩ w := by rw [e1]; rfl
        simp only [List.mapM_cons, Sem.run_bind, hasa, Sem.run_pure, Result.andThen_ok, hv1, h2]
      · have : rv s (.cell ad ty) = wr ty cs off := by simp only [rv, hT, hH]
        rw [this]; exact hv2
    · cases he

theorem run_results {fn : Func} {l : List RS} {g : Nat → GM} {s : FS} {a : Act} {w : World} (hR : R c g s a w) (he : elabR P fn.results.toList = some l) (ho : rvOk s l) : ∃ v, (results fn a.tmps).run P w = .ok v w ∧ VR g (wset c g s) w (rvs s l) v := by
  obtain ⟨vs, h1, h2⟩ := run_rv hR _ _ he ho
  have h3 : (fn.results.mapM (fun x => (match x with | .tmp t => pure (a.tmps.getD t undef) | .cell ad t => do loadVar t (← asAddr (a.tmps.getD ad undef)) : Sem Value))).run P w = .ok vs.toArray w := by
    rw [Array.mapM_eq_mapM_toList]
    simp only [Sem.run_map, h1, Result.andThen_ok]
  have h4 : (results fn a.tmps).run P w = .ok (if h : vs.toArray.size = 1 then vs.toArray[0] else .tuple vs.toArray) w := by
    unfold results
    rw [Sem.run_bind]
    exact (congrArg (fun r => Result.andThen r _) h3).trans rfl
  refine ⟨_, h4, ?_⟩
  clear h4 h3 h1
  match l, vs, h2 with
  | [x], [v], h2 => exact h2.1
  | [], [], _ => exact .tup rfl fun j hj => absurd hj (by simp)
  | x :: y :: l, u :: v :: vs, h2 =>
    rw [dif_neg (by simp)]
    have hl := h2.length
    exact .tup (by simp at hl ⊢; omega) fun j hj => by
      have := h2.get j hj
      simpa using this

/-! ### A body proves what a call yields -/
theorem wset_X {g : Nat → GM} {s : FS} {a : Act} {w : World} (hR : R c g s a w) {b k : Nat} (hl : (s.H b).live) (hg : g b = .re k) : ¬ c.X k := fun hx => by
  have h1 := hR.xs k hx
  rcases hR.old b k hl hg with h | h
  · omega
  · exact h1.2 h

theorem VR.shut {g : Nat → GM} {s : FS} {a : Act} {w : World} (hR : R c g s a w) {v : AV} {u : Value} (h : VR g (wset c g s) w v u) (hn : nmOk 0 v) : VR (fun _ => .un) c.X w v u :=
  (h.nm hn (g' := fun _ => .un) (fun b hb => absurd hb (by omega))).mono (Fr.refl _ _) (fun _ _ h => .inl h) (fun _ _ => rfl)

theorem frzS_ok {g : Nat → GM} {s : FS} {a : Act} {w : World} (hR : R c g s a w) {v : AV} {u : Value} (h : VR g (wset c g s) w v u) (hn : nmOk 0 (frzS s v)) : VR (fun _ => .un) c.X w (frzS s v) u := by
  by_cases hs : ∃ es b off n k, v = .sl es b off n k
  · obtain ⟨es, b, off, n, k, rfl⟩ := hs
    simp only [frzS] at hn ⊢
    cases hH : s.H b with
    | cells cs =>
      rw [hH] at hn
      simp only at hn ⊢
      simp only [nmOk] at hn
      have hbr := hR.h b
      rw [hH] at hbr
      rcases sl_inv h with ⟨kk, cap, e, cur, fz, rfl, hg, h1, h2, h3, h4, h5⟩ | ⟨ad0, rfl, hg, rfl, rfl⟩
      · rw [hg] at hbr
        have hx := wset_X hR (by rw [hH]; trivial) hg
        cases hbr with
        | cells hb hl h11 hv hz =>
          rename_i cur2 e2 fz2
          rw [h4] at hb; cases hb
          have hlen : ∀ j, j < ((cs.drop off).take (n * es)).length → off + j < cs.length ∧ j < n * es := fun j hj => by simp at hj; omega
          refine .isl (us := fun j => cur.getD (off + j) undef) (by omega) h3 (fun j hj => ?_) fun j hj => ?_
          · obtain ⟨hj1, hj2⟩ := hlen j hj
            refine ⟨kk, off, rfl, ?_, hx, h11 _ hj1⟩
            have := cell_of_row w kk (off + j) cur e fz h4
            unfold cellOf
            rw [this]
            have : off + j < cur.size := by omega
            simp [Array.getD, this]
          · obtain ⟨hj1, hj2⟩ := hlen j hj
            have ee : ((cs.drop off).take (n * es)).getD j .any = cs.getD (off + j) .any := by simp only [List.getD, List.getElem?_take, List.getElem?_drop, if_pos hj2]
            have hn' := nmAll_get hn j
            rw [ee] at hn' ⊢
            exact (hv _ hj1).shut hR hn'
      · refine .isl (us := fun _ => undef) (Nat.le_refl 0) (by simp [maxLen]) (fun j hj => ?_) fun j hj => ?_
        · simp at hj
        · simp at hj
    | _ => exact .any _
  · have : frzS s v = v := by
      cases v <;> first | rfl | exact absurd ⟨_, _, _, _, _, rfl⟩ hs
    rw [this] at hn ⊢
    exact h.shut hR hn
theorem frzA_ok {g : Nat → GM} {s : FS} {a : Act} {w : World} (hR : R c g s a w) {v : AV} {u : Value} (h : VR g (wset c g s) w v u) (hn : nmOk 0 (frzA s v)) : VR (fun _ => .un) c.X w (frzA s v) u := by
  by_cases hs : ∃ cs, v = .agg cs
  · obtain ⟨cs, rfl⟩ := hs
    simp only [frzA] at hn ⊢
    simp only [nmOk] at hn
    obtain ⟨us, rfl, h1, h2, h3⟩ := agg_inv h
    refine .agg (by simpa using h1) (fun j hj => h2 j (by simpa using hj)) fun j hj => ?_
    have hj' : j < cs.length := by simpa using hj
    have ee : (cs.map (frzS s)).getD j .any = frzS s (cs.getD j .any) := by simp [List.getD, hj']
    have hn' := nmAll_get hn j
    rw [ee] at hn' ⊢
    exact frzS_ok hR (h3 j hj') hn'
  · have : frzA s v = frzS s v := by
      cases v <;> first | rfl | exact absurd ⟨_, rfl⟩ hs
    rw [this] at hn ⊢
    exact frzS_ok hR h hn
theorem frz_ok {g : Nat → GM} {s : FS} {a : Act} {w : World} (hR : R c g s a w) {v : AV} {u : Value} (h : VR g (wset c g s) w v u) (hn : nmOk 0 (frz s v)) : VR (fun _ => .un) c.X w (frz s v) u := by
  by_cases hs : ∃ cs, v = .tup cs
  · obtain ⟨cs, rfl⟩ := hs
    simp only [frz] at hn ⊢
    simp only [nmOk] at hn
    obtain ⟨us, rfl, h1, h3⟩ := tup_inv h
    refine .tup (by simpa using h1) fun j hj => ?_
    have hj' : j < cs.length := by simpa using hj
    have ee : (cs.map (frzA s)).getD j .any = frzA s (cs.getD j .any) := by simp [List.getD, hj']
    have hn' := nmAll_get hn j
    rw [ee] at hn' ⊢
    exact frzA_ok hR (h3 j hj') hn'
  · have : frz s v = frzA s v := by
      cases v <;> first | rfl | exact absurd ⟨_, rfl⟩ hs
    rw [this] at hn ⊢
    exact frzA_ok hR h hn

/-- The frame that a call begins with. -/
theorem R_start {w : World} {vs : List Value} {args : List AV} {N : Nat} (hN : args.length ≤ N) {X : Nat → Prop} {gl : Nat → AV} (hX : ∀ k, X k → k < w.heap.size) (hgl : ∀ i, VR (fun _ => .un) X w (gl i) (.pointer (some ⟨i, 0, none⟩)))
    (hv : VRs (fun _ => .un) X w args vs) : R ⟨N, w, fun _ => False, X, gl, []⟩ (fun _ => .un) (⟨argT 0 args, [], 0⟩ : St).fs { tmps := vs.toArray ++ Array.replicate (N - vs.toArray.size) undef, defers := [] } w := by
  have hl := hv.length
  have hH : ∀ b, (⟨argT 0 args, [], 0⟩ : St).fs.H b = .free := fun b => by
    show lookb [] 0 b = .free
    rcases lookb_cases [] 0 b with h | ⟨p, hp, _⟩
    · rw [h]; simp
    · cases hp
  have hW : ∀ k, wset ⟨N, w, fun _ => False, X, gl, []⟩ (fun _ => .un) (⟨argT 0 args, [], 0⟩ : St).fs k → X k := by
    rintro k (h | ⟨b, h1, _⟩)
    · exact h
    · rw [hH] at h1; exact h1.elim
  have hmono : ∀ {v u}, VR (fun _ => .un) X w v u → VR (fun _ => .un) (wset ⟨N, w, fun _ => False, X, gl, []⟩ (fun _ => .un) (⟨argT 0 args, [], 0⟩ : St).fs) w v u := fun h => h.mono (Fr.refl _ _) (fun k _ => hW k) (fun _ _ => rfl)
  refine ⟨by simp; omega, rfl, fun i => ?_, fun i => hmono (hgl i), fun b => by rw [hH]; exact .free, fun b b' k h => by rw [hH] at h; exact h.elim, fun b k h => by rw [hH] at h; exact h.elim, Fr.refl _ _, fun k hk => ⟨hX k hk, id⟩, fun p hp => by cases hp⟩
  show VR _ _ w (look (argT 0 args) i) _
  rw [look_argT]
  split
  · rename_i h
    have hi : i < vs.length := by omega
    have := hv.get i (by omega)
    have e : (vs.toArray ++ Array.replicate (N - vs.toArray.size) undef).getD i undef = vs.getD i undef := by
      simp only [Array.getD_eq_getD_getElem?, List.getD]
      rw [Array.getElem?_append_left (by simpa using hi)]
      simp
    rw [e]
    simpa using hmono this
  · exact .any _

theorem ps_of_xw {gl : Nat → AV} {f : FuncId} {fn : Func} {code : Code} {t : TC} {rs : List RS} {args : List AV} {r : AV} (hm : P.follows .mixedOrders = true) (hf : P.funcs[f]? = some fn) (hb : fn.body = some code) (hname : (fn.name == "runtime.NumGoroutine") = false)
    (he : elabC P fn.ntmps code = some t) (hr : elabR P fn.results.toList = some rs) (hN : args.length ≤ fn.ntmps) (hnm : nmOk 0 r)
    (h : ∀ c : Cx, c.gh = [] → c.gl = gl → xw P c t (pureK rs r) ⟨argT 0 args, [], 0⟩) : PS P gl f args r := by
  refine ⟨⟨fn, hf, by rw [hb]; rfl, hname⟩, fun w vs X hX hgl hv => ?_⟩
  refine calls_of_wp hf hb ?_
  have hR := R_start hN hX hgl hv
  have := xw_sound (c := ⟨fn.ntmps, w, fun _ => False, X, gl, []⟩) hm code t _ _ he (h _ rfl rfl) _ _ _ hR
  refine wp_mono this fun e a' w' hq => ?_
  have fin : ∀ (g : Nat → GM) (s : St), R ⟨fn.ntmps, w, fun _ => False, X, gl, []⟩ g s.fs a' w' → (rvOk s.fs rs ∧ frz s.fs (rvs s.fs rs) = r) → a'.defers = [] ∧ ∃ v, (results fn a'.tmps).run P w' = .ok v w' ∧ (∃ v_1, Ending.returned v = .returned v_1 ∧ VR (fun _ => .un) X w' r v_1 ∧ Fr w w' fun _ => False) := by
    intro g s hR' ⟨h1, h2⟩
    obtain ⟨v, h3, h4⟩ := run_results hR' hr h1
    refine ⟨hR'.def_, v, h3, v, rfl, ?_, hR'.fr⟩
    rw [← h2] at hnm ⊢
    exact frz_ok hR' h4 hnm
  cases e with
  | normal => obtain ⟨g, s, hR', hq'⟩ := hq; exact fin g s hR' hq'
  | ret => obtain ⟨g, s, hR', hq'⟩ := hq; exact fin g s hR' hq'
  | exit i => obtain ⟨g, s, hR', hq'⟩ := hq; exact hq'.elim
  | goto l => exact hq.elim
  | panic ch => exact hq.elim
  | outgrown => exact hq.elim

/-! ### A call in a row of operations -/
theorem elab_call {o : Oper} {f : FuncId} {xs : List Operand} (h : elabPK P o = some (.call f, xs)) : ∃ ts, o.op = .call ⟨.value (.func f), xs.toArray, ts⟩ := by
  unfold elabPK at h
  repeat' split at h
  all_goals first
    | (simp only [Option.some.injEq, Prod.mk.injEq, PK.call.injEq] at h; obtain ⟨rfl, rfl⟩ := h; rename_i hop; exact ⟨_, by rw [hop]⟩)
    | (simp at h; done)
    | (cases h; done)
    | (simp [Option.map_eq_some_iff] at h; done)
theorem run_call {f : FuncId} (hc : Callable P f) {o : Oper} {xs : List Operand} {ts : Array TypeId} (ho : o.op = .call ⟨.value (.func f), xs.toArray, ts⟩) (a : Act) (w : World) :
    (execOp a.eval o).run P w = .ok (.enter f (xs.map a.eval).toArray) w := by
  obtain ⟨fn, h1, h2, h3⟩ := hc
  have h2' : fn.body ≠ none := fun e => by rw [e] at h2; cases h2
  have h3' : fn.name ≠ "runtime.NumGoroutine" := fun e => by rw [e] at h3; cases h3
  simp [execOp, ho, resolve, Act.eval, Deferred.ofValue, invoke, callFunc, program, Sem.run, h1, h2', h3']

theorem VRs_nm {g g' : Nat → GM} {W : Nat → Prop} {w : World} {n : Nat} (hg : ∀ b, b < n → g b = g' b) : ∀ {xs : List AV} {vs : List Value}, VRs g W w xs vs → nmAll n xs → VRs g' W w xs vs
  | [], [], _, _ => trivial
  | _ :: _, _ :: _, h, hn => ⟨h.1.nm hn.1 hg, VRs_nm hg h.2 hn.2⟩
  | [], _ :: _, h, _ => h.elim
  | _ :: _, [], h, _ => h.elim

def callFoot (d : Option Nat) (xs : List TV) (gd : Option (Nat × Bool)) : Foot := ⟨gdT gd ++ tmpsOf xs, [], d.toList, []⟩
def St.putO (s : St) (d : Option Nat) (v : AV) : St :=
  match d with
  | some d => s.put d v
  | none => s
def callOk (gl : Nat → AV) (s : FS) (xs : List TV) (gd : Option (Nat × Bool)) : Prop := gOk s gd ∧ cokAll (gB s gd) (evs gl s xs)

theorem call_AOkT {s : St} {d : Option Nat} {f : FuncId} {xs : List TV} {gd : Option (Nat × Bool)} {args : List AV} {r : AV} (hok : callOk c.gl s.fs xs gd) (hargs : (evs c.gl s.fs xs).map strip = args) (hnm : nmAll 0 args)
    (hps : ob (gB s.fs gd) (PS P c.gl f args r)) : AOkT P c (.pd d (.call f) xs gd) s.fs (callFoot d xs gd) (s.putO d (cw (gB s.fs gd) r)).fs := by
  intro ops io he
  obtain ⟨hgd, hdst, hd, ys, hel, rfl⟩ := elab_pd he
  obtain ⟨ts, hop⟩ := elab_call hel
  have hput : (s.putO d (cw (gB s.fs gd) r)).fs = match d with | some d => s.fs.put d (cw (gB s.fs gd) r) | none => s.fs := by
    cases d with
    | none => rfl
    | some d => exact St.fs_put _ _ _
  rw [hput]
  refine ⟨fun i hi => ?_, fun b _ => by cases d <;> rfl, ?_⟩
  · cases d with
    | none => rfl
    | some d => show (s.fs.put d _).T i = _; rw [FS.T_put, if_neg (fun e => hi (by simp [callFoot, e]))]
  · intro s2 hT hH g a w hR K Q' hK
    have hevs : evs c.gl s2 (ys.map tvO) = evs c.gl s.fs (ys.map tvO) := evs_congr fun i hi => hT i (by simp [callFoot, hi])
    have hg : ∀ t b, gd = some (t, b) → s2.T t = s.fs.T t := fun t b e => hT t (by simp [callFoot, e, gdT])
    have hgB : gB s2 gd = gB s.fs gd := by
      cases gd with
      | none => rfl
      | some p => obtain ⟨t, b⟩ := p; simp only [gB, hg t b rfl]
    have hgO : gOk s2 gd := by
      have := hok.1
      cases gd with
      | none => exact this
      | some p => obtain ⟨t, b⟩ := p; simpa only [gOk, hg t b rfl] using this
    have hK' : ∀ v w', Fr w w' (fun _ => False) → VR g (wset c g s2) w' (cw (gB s.fs gd) r) v → K (a.put io.dst v) w' := fun v w' hf hv => by
      rw [hdst]
      have hR' := hR.grow hf
      cases d with
      | none =>
        refine hK g _ w' ?_
        have : ovr s2 s.fs (callFoot none (ys.map tvO) gd) = s2 := by unfold ovr callFoot; simp
        simp only [this]; exact hR'
      | some d =>
        refine hK g _ w' ?_
        show R c g (ovr s2 (s.fs.put d _) ⟨gdT gd ++ tmpsOf (ys.map tvO), [], [d], []⟩) _ _
        rw [ovr_put]
        exact hR'.put (by simpa using hd) hv
    unfold Exec1
    rw [guard_ok hgd hR hgO, hgB]
    have run : (∀ b, gB s.fs gd = some b → b = true) → io.wp P a w K Q' := by
      intro hb
      have hc1 : cokAll none (evs c.gl s2 (ys.map tvO)) := by
        rw [hevs]
        have := hok.2
        cases hgb : gB s.fs gd with
        | none => rw [hgb] at this; exact this
        | some b => rw [hgb] at this; exact cokAll_mono (hb b hgb) this
      have hps' : PS P c.gl f args r := by
        cases hgb : gB s.fs gd with
        | none => rw [hgb] at hps; exact hps
        | some b => rw [hgb] at hps; exact hps (hb b hgb)
      have hv := VRs_strip (hR.evs ys) hc1
      rw [hevs, hargs] at hv
      have hv' : VRs (fun _ => .un) (wset c g s2) w args (ys.map a.eval) := VRs_nm (n := 0) (fun b hb => absurd hb (by omega)) hv hnm
      have hX : ∀ k, wset c g s2 k → k < w.heap.size := by
        rintro k (h | ⟨b', hl, hg'⟩)
        · have := (hR.xs k h).1; have := hR.fr.size; omega
        · exact BR.lt (hg' ▸ hR.h b') hl
      have hcall := hps'.2 w _ _ hX (fun i => (hR.gl i)) hv'
      unfold Oper.wp
      rw [run_call hps'.1 hop]
      rw [Oper.upon_enter]
      refine hcall.mono fun e w' ⟨v, e1, e2, e3⟩ => ?_
      subst e1
      refine hK' v w' e3 ?_
      have hv2 : VR g (wset c g s2) w' r v := e2.mono (Fr.refl _ _) (fun _ _ h => h) (fun _ h => absurd rfl h)
      cases hgb : gB s.fs gd with
      | none => exact hv2
      | some b => exact .cnd (fun _ => hv2) fun h => by rw [hb b hgb] at h; cases h
    cases hgb : gB s.fs gd with
    | none => simp only [Option.getD_none, if_true]; exact run fun b h => by rw [hgb] at h; cases h
    | some b =>
      cases b with
      | true => simp only [Option.getD_some, if_true]; exact run fun b h => by rw [hgb] at h; cases h; rfl
      | false =>
        simp only [Option.getD_some, Bool.false_eq_true, if_false]
        refine hK' undef w (Fr.refl _ _) ?_
        rw [hgb]
        exact .cnd (fun h => by cases h) fun _ => rfl

theorem pr_ps {r0 : List TOp} {K : St → Prop} {s : St} {d : Option Nat} {f : FuncId} {xs : List TV} {gd : Option (Nat × Bool)} {args : List AV} {r : AV} (hps : ob (gB s.fs gd) (PS P c.gl f args r)) (hargs : (evs c.gl s.fs xs).map strip = args)
    (hok : callOk c.gl s.fs xs gd ∧ nmAll 0 args ∧ XP P c r0 K (s.putO d (cw (gB s.fs gd) r))) : PendR P c (.pd d (.call f) xs gd) r0 K s :=
  .inl ⟨_, _, call_AOkT hok.1 hargs hok.2.1 hps, hok.2.2⟩
theorem prD_ps {anc : List Nat} {fs : List Foot} {r0 : List TOp} {K : St → Prop} {s : St} {d : Option Nat} {f : FuncId} {xs : List TV} {gd : Option (Nat × Bool)} {args : List AV} {r : AV} (hps : ob (gB s.fs gd) (PS P c.gl f args r)) (hargs : (evs c.gl s.fs xs).map strip = args)
    (hok : callOk c.gl s.fs xs gd ∧ nmAll 0 args ∧ XD P c anc r0 (callFoot d xs gd :: fs) K (s.putO d (cw (gB s.fs gd) r))) : PendDR P c anc (.pd d (.call f) xs gd) r0 fs K s :=
  ⟨_, _, call_AOkT hok.1 hargs hok.2.1 hps, hok.2.2⟩
theorem pend_ps {K : St → Prop} {s : St} {d : Option Nat} {f : FuncId} {xs : List TV} {gd : Option (Nat × Bool)} {args : List AV} {r : AV} (hps : ob (gB s.fs gd) (PS P c.gl f args r)) (hargs : (evs c.gl s.fs xs).map strip = args)
    (hok : callOk c.gl s.fs xs gd ∧ nmAll 0 args ∧ K (s.putO d (cw (gB s.fs gd) r))) : Pend P c (.pd d (.call f) xs gd) K s :=
  ⟨_, _, call_AOkT hok.1 hargs hok.2.1 hps, hok.2.2⟩
theorem pendD_ps {K : Foot → St → Prop} {s : St} {d : Option Nat} {f : FuncId} {xs : List TV} {gd : Option (Nat × Bool)} {args : List AV} {r : AV} (hps : ob (gB s.fs gd) (PS P c.gl f args r)) (hargs : (evs c.gl s.fs xs).map strip = args)
    (hok : callOk c.gl s.fs xs gd ∧ nmAll 0 args ∧ K (callFoot d xs gd) (s.putO d (cw (gB s.fs gd) r))) : PendD P c (.pd d (.call f) xs gd) K s :=
  ⟨_, _, call_AOkT hok.1 hargs hok.2.1 hps, hok.2.2⟩

/-! ### What a function's text is -/
structure FT (P : Program) (f : FuncId) (fn : Func) (t : TC) (rs : List RS) : Prop where
  func : P.funcs[f]? = some fn
  code : fn.body.bind (elabC P fn.ntmps) = some t
  res : elabR P fn.results.toList = some rs
  name : (fn.name == "runtime.NumGoroutine") = false
  mixed : P.follows .mixedOrders = true
theorem FT.ps {gl : Nat → AV} {f : FuncId} {fn : Func} {t : TC} {rs : List RS} (hF : FT P f fn t rs) {args : List AV} {r : AV} (hN : args.length ≤ fn.ntmps) (hnm : nmOk 0 r)
    (h : ∀ c : Cx, c.gh = [] → c.gl = gl → xw P c t (pureK rs r) ⟨argT 0 args, [], 0⟩) : PS P gl f args r := by
  have hc := hF.code
  cases hb : fn.body with
  | none => rw [hb] at hc; simp at hc
  | some code =>
    rw [hb] at hc
    exact ps_of_xw hF.mixed hF.func hb hF.name hc hF.res hN hnm h
end
end Go.Proofs.YtogckmommodmhaaGreatDoor

/-! What a walk's steps are reckoned by (printed by genan.py). No conditions. -/
namespace Go.Proofs.YtogckmommodmhaaGreatDoor
set_option linter.all false
set_option linter.unusedSimpArgs false
open Go.RowKit

def frzL (n es o : Nat) : Bk → AV
  | .cells cs => .isl n ((cs.drop o).take (n * es))
  | _ => .any
def blkO (s : FS) : Option Nat → Bk
  | some b => s.H b
  | none => .free
def gB1 : AV → Bool → Option Bool
  | .bool b, w => some (b == w)
  | .cnd c (.bool b), w => some (c && (b == w))
  | _, _ => some false
def gOk1 : AV → Prop
  | .bool _ => True
  | .cnd _ (.bool _) => True
  | _ => False
def stOkB : Bk → TY → Nat → AV → Prop
  | .cells cs, ty, o, v => stOkC ty cs o v
  | _, _, _, _ => False
def rvB : Bk → TY → Nat → AV
  | .cells cs, ty, o => wr ty cs o
  | _, _, _ => .any
def rvC (s : FS) (ty : TY) : AV → AV
  | .ptr b o => rvB (s.H b) ty o
  | _ => .any
def rvOkB : Bk → TY → Nat → Prop
  | .cells cs, ty, o => wrOk ty cs o
  | _, _, _ => False
def rvOkC (s : FS) (ty : TY) : AV → Prop
  | .ptr b o => rvOkB (s.H b) ty o
  | _ => False
theorem frzL_cells (n es o : Nat) (cs : List AV) : frzL n es o (.cells cs) = .isl n ((cs.drop o).take (n * es)) := rfl
theorem fs_T (s : St) (i : Nat) : s.fs.T i = look s.t i := rfl
theorem fs_H (s : St) (i : Nat) : s.fs.H i = lookb s.h s.n i := rfl
theorem beq_true' (b : Bool) : (b == true) = b := by cases b <;> rfl
theorem beq_false' (b : Bool) : (b == false) = !b := by cases b <;> rfl
theorem bne_tt (b : Bool) : (true != b) = !b := by cases b <;> rfl
theorem bne_ff (b : Bool) : (false != b) = b := by cases b <;> rfl
theorem and_true_imp (b c : Bool) : ((b && c) = true → b = true) = True := by cases b <;> simp
theorem bif_tf (b : Bool) : (bif b then true else false) = b := by cases b <;> rfl
theorem bif_or (b c : Bool) : (bif b then true else c) = (b || c) := by cases b <;> rfl
theorem bif_and (b c : Bool) : (bif b then c else false) = (b && c) := by cases b <;> rfl
theorem lookb_nil (n j : Nat) : lookb [] n j = if j < n then .dead else .free := rfl
theorem lookb_cons' (i : Nat) (v : Bk) (l : List (Nat × Bk)) (n j : Nat) : lookb ((i, v) :: l) n j = bif i == j then v else lookb l n j := rfl
theorem look_nil (j : Nat) : look [] j = .any := rfl
theorem look_cons' (i : Nat) (v : AV) (l : List (Nat × AV)) (j : Nat) : look ((i, v) :: l) j = bif i == j then v else look l j := rfl
theorem e_strip_int (k : IntKind) (n : Int) : strip (.int k n) = (.int k n) := rfl
theorem e_cok_int (g : Option Bool) (k : IntKind) (n : Int) : cok g (.int k n) = True := rfl
theorem e_cellsA_int (k : IntKind) (n : Int) : cellsA (.int k n) = [.int k n] := rfl
theorem e_frzA_int (s : FS) (k : IntKind) (n : Int) : frzA s (.int k n) = frzS s (.int k n) := rfl
theorem e_frzS_int (s : FS) (k : IntKind) (n : Int) : frzS s (.int k n) = (.int k n) := rfl
theorem e_frz_int (s : FS) (k : IntKind) (n : Int) : frz s (.int k n) = frzA s (.int k n) := rfl
theorem e_one_int (k : IntKind) (n : Int) : one (.int k n) = True := rfl
theorem e_bxOk_int (k : IntKind) (n : Int) : bxOk (.int k n) = True := rfl
theorem e_nameOf_int (k : IntKind) (n : Int) (r : List AV) : nameOf ((.int k n) :: r) = none := rfl
theorem e_nmOk_int (m : Nat) (k : IntKind) (n : Int) : nmOk m (.int k n) = True := by simp only [nmOk]
theorem e_ren_int (ρ : Nat → Nat) (k : IntKind) (n : Int) : ren ρ (.int k n) = (.int k n) := by simp only [ren]
theorem e_strip_bool (b : Bool) : strip (.bool b) = (.bool b) := rfl
theorem e_cok_bool (g : Option Bool) (b : Bool) : cok g (.bool b) = True := rfl
theorem e_cellsA_bool (b : Bool) : cellsA (.bool b) = [.bool b] := rfl
theorem e_frzA_bool (s : FS) (b : Bool) : frzA s (.bool b) = frzS s (.bool b) := rfl
theorem e_frzS_bool (s : FS) (b : Bool) : frzS s (.bool b) = (.bool b) := rfl
theorem e_frz_bool (s : FS) (b : Bool) : frz s (.bool b) = frzA s (.bool b) := rfl
theorem e_one_bool (b : Bool) : one (.bool b) = True := rfl
theorem e_bxOk_bool (b : Bool) : bxOk (.bool b) = True := rfl
theorem e_nameOf_bool (b : Bool) (r : List AV) : nameOf ((.bool b) :: r) = none := rfl
theorem e_nmOk_bool (m : Nat) (b : Bool) : nmOk m (.bool b) = True := by simp only [nmOk]
theorem e_ren_bool (ρ : Nat → Nat) (b : Bool) : ren ρ (.bool b) = (.bool b) := by simp only [ren]
theorem e_strip_str (l : List UInt8) : strip (.str l) = (.str l) := rfl
theorem e_cok_str (g : Option Bool) (l : List UInt8) : cok g (.str l) = True := rfl
theorem e_cellsA_str (l : List UInt8) : cellsA (.str l) = [.str l] := rfl
theorem e_frzA_str (s : FS) (l : List UInt8) : frzA s (.str l) = frzS s (.str l) := rfl
theorem e_frzS_str (s : FS) (l : List UInt8) : frzS s (.str l) = (.str l) := rfl
theorem e_frz_str (s : FS) (l : List UInt8) : frz s (.str l) = frzA s (.str l) := rfl
theorem e_one_str (l : List UInt8) : one (.str l) = True := rfl
theorem e_bxOk_str (l : List UInt8) : bxOk (.str l) = True := rfl
theorem e_nameOf_str (l : List UInt8) (r : List AV) : nameOf ((.str l) :: r) = none := rfl
theorem e_nmOk_str (m : Nat) (l : List UInt8) : nmOk m (.str l) = True := by simp only [nmOk]
theorem e_ren_str (ρ : Nat → Nat) (l : List UInt8) : ren ρ (.str l) = (.str l) := by simp only [ren]
theorem e_strip_agg (cs : List AV) : strip (.agg cs) = (.agg cs) := rfl
theorem e_cok_agg (g : Option Bool) (cs : List AV) : cok g (.agg cs) = True := rfl
theorem e_frzS_agg (s : FS) (cs : List AV) : frzS s (.agg cs) = (.agg cs) := rfl
theorem e_frz_agg (s : FS) (cs : List AV) : frz s (.agg cs) = frzA s (.agg cs) := rfl
theorem e_nameOf_agg (cs : List AV) (r : List AV) : nameOf ((.agg cs) :: r) = none := rfl
theorem e_strip_tup (cs : List AV) : strip (.tup cs) = (.tup cs) := rfl
theorem e_cok_tup (g : Option Bool) (cs : List AV) : cok g (.tup cs) = True := rfl
theorem e_cellsA_tup (cs : List AV) : cellsA (.tup cs) = [.tup cs] := rfl
theorem e_frzA_tup (s : FS) (cs : List AV) : frzA s (.tup cs) = frzS s (.tup cs) := rfl
theorem e_frzS_tup (s : FS) (cs : List AV) : frzS s (.tup cs) = (.tup cs) := rfl
theorem e_nameOf_tup (cs : List AV) (r : List AV) : nameOf ((.tup cs) :: r) = none := rfl
theorem e_strip_ptr (b o : Nat) : strip (.ptr b o) = (.ptr b o) := rfl
theorem e_cok_ptr (g : Option Bool) (b o : Nat) : cok g (.ptr b o) = True := rfl
theorem e_cellsA_ptr (b o : Nat) : cellsA (.ptr b o) = [.ptr b o] := rfl
theorem e_frzA_ptr (s : FS) (b o : Nat) : frzA s (.ptr b o) = frzS s (.ptr b o) := rfl
theorem e_frzS_ptr (s : FS) (b o : Nat) : frzS s (.ptr b o) = (.ptr b o) := rfl
theorem e_frz_ptr (s : FS) (b o : Nat) : frz s (.ptr b o) = frzA s (.ptr b o) := rfl
theorem e_one_ptr (b o : Nat) : one (.ptr b o) = True := rfl
theorem e_bxOk_ptr (b o : Nat) : bxOk (.ptr b o) = True := rfl
theorem e_strip_xp (cs : List AV) (o : Nat) : strip (.xp cs o) = (.xp cs o) := rfl
theorem e_cok_xp (g : Option Bool) (cs : List AV) (o : Nat) : cok g (.xp cs o) = True := rfl
theorem e_cellsA_xp (cs : List AV) (o : Nat) : cellsA (.xp cs o) = [.xp cs o] := rfl
theorem e_frzA_xp (s : FS) (cs : List AV) (o : Nat) : frzA s (.xp cs o) = frzS s (.xp cs o) := rfl
theorem e_frzS_xp (s : FS) (cs : List AV) (o : Nat) : frzS s (.xp cs o) = (.xp cs o) := rfl
theorem e_frz_xp (s : FS) (cs : List AV) (o : Nat) : frz s (.xp cs o) = frzA s (.xp cs o) := rfl
theorem e_one_xp (cs : List AV) (o : Nat) : one (.xp cs o) = True := rfl
theorem e_bxOk_xp (cs : List AV) (o : Nat) : bxOk (.xp cs o) = True := rfl
theorem e_nameOf_xp (cs : List AV) (o : Nat) (r : List AV) : nameOf ((.xp cs o) :: r) = none := rfl
theorem e_strip_sl (es b o n c : Nat) : strip (.sl es b o n c) = (.sl es b o n c) := rfl
theorem e_cok_sl (g : Option Bool) (es b o n c : Nat) : cok g (.sl es b o n c) = True := rfl
theorem e_cellsA_sl (es b o n c : Nat) : cellsA (.sl es b o n c) = [.sl es b o n c] := rfl
theorem e_frzA_sl (s : FS) (es b o n c : Nat) : frzA s (.sl es b o n c) = frzS s (.sl es b o n c) := rfl
theorem e_frz_sl (s : FS) (es b o n c : Nat) : frz s (.sl es b o n c) = frzA s (.sl es b o n c) := rfl
theorem e_one_sl (es b o n c : Nat) : one (.sl es b o n c) = True := rfl
theorem e_bxOk_sl (es b o n c : Nat) : bxOk (.sl es b o n c) = True := rfl
theorem e_strip_isl (n : Nat) (cs : List AV) : strip (.isl n cs) = (.isl n cs) := rfl
theorem e_cok_isl (g : Option Bool) (n : Nat) (cs : List AV) : cok g (.isl n cs) = True := rfl
theorem e_cellsA_isl (n : Nat) (cs : List AV) : cellsA (.isl n cs) = [.isl n cs] := rfl
theorem e_frzA_isl (s : FS) (n : Nat) (cs : List AV) : frzA s (.isl n cs) = frzS s (.isl n cs) := rfl
theorem e_frzS_isl (s : FS) (n : Nat) (cs : List AV) : frzS s (.isl n cs) = (.isl n cs) := rfl
theorem e_frz_isl (s : FS) (n : Nat) (cs : List AV) : frz s (.isl n cs) = frzA s (.isl n cs) := rfl
theorem e_one_isl (n : Nat) (cs : List AV) : one (.isl n cs) = True := rfl
theorem e_bxOk_isl (n : Nat) (cs : List AV) : bxOk (.isl n cs) = True := rfl
theorem e_nameOf_isl (n : Nat) (cs : List AV) (r : List AV) : nameOf ((.isl n cs) :: r) = none := rfl
theorem e_strip_nils : strip .nils = .nils := rfl
theorem e_cok_nils (g : Option Bool) : cok g .nils = True := rfl
theorem e_cellsA_nils : cellsA .nils = [.nils] := rfl
theorem e_frzA_nils (s : FS) : frzA s .nils = frzS s .nils := rfl
theorem e_frzS_nils (s : FS) : frzS s .nils = .nils := rfl
theorem e_frz_nils (s : FS) : frz s .nils = frzA s .nils := rfl
theorem e_one_nils : one .nils = True := rfl
theorem e_bxOk_nils : bxOk .nils = True := rfl
theorem e_nameOf_nils (r : List AV) : nameOf (.nils :: r) = none := rfl
theorem e_nmOk_nils (m : Nat) : nmOk m .nils = True := by simp only [nmOk]
theorem e_ren_nils (ρ : Nat → Nat) : ren ρ .nils = .nils := by simp only [ren]
theorem e_strip_cl (f : FuncId) (cs : List AV) : strip (.cl f cs) = (.cl f cs) := rfl
theorem e_cok_cl (g : Option Bool) (f : FuncId) (cs : List AV) : cok g (.cl f cs) = True := rfl
theorem e_cellsA_cl (f : FuncId) (cs : List AV) : cellsA (.cl f cs) = [.cl f cs] := rfl
theorem e_frzA_cl (s : FS) (f : FuncId) (cs : List AV) : frzA s (.cl f cs) = frzS s (.cl f cs) := rfl
theorem e_frzS_cl (s : FS) (f : FuncId) (cs : List AV) : frzS s (.cl f cs) = (.cl f cs) := rfl
theorem e_frz_cl (s : FS) (f : FuncId) (cs : List AV) : frz s (.cl f cs) = frzA s (.cl f cs) := rfl
theorem e_one_cl (f : FuncId) (cs : List AV) : one (.cl f cs) = True := rfl
theorem e_bxOk_cl (f : FuncId) (cs : List AV) : bxOk (.cl f cs) = True := rfl
theorem e_nameOf_cl (f : FuncId) (cs : List AV) (r : List AV) : nameOf ((.cl f cs) :: r) = none := rfl
theorem e_strip_mp (b : Nat) : strip (.mp b) = (.mp b) := rfl
theorem e_cok_mp (g : Option Bool) (b : Nat) : cok g (.mp b) = True := rfl
theorem e_cellsA_mp (b : Nat) : cellsA (.mp b) = [.mp b] := rfl
theorem e_frzA_mp (s : FS) (b : Nat) : frzA s (.mp b) = frzS s (.mp b) := rfl
theorem e_frzS_mp (s : FS) (b : Nat) : frzS s (.mp b) = (.mp b) := rfl
theorem e_frz_mp (s : FS) (b : Nat) : frz s (.mp b) = frzA s (.mp b) := rfl
theorem e_one_mp (b : Nat) : one (.mp b) = True := rfl
theorem e_bxOk_mp (b : Nat) : bxOk (.mp b) = True := rfl
theorem e_strip_lit (v : Value) : strip (.lit v) = (.lit v) := rfl
theorem e_cok_lit (g : Option Bool) (v : Value) : cok g (.lit v) = True := rfl
theorem e_cellsA_lit (v : Value) : cellsA (.lit v) = [.lit v] := rfl
theorem e_frzA_lit (s : FS) (v : Value) : frzA s (.lit v) = frzS s (.lit v) := rfl
theorem e_frzS_lit (s : FS) (v : Value) : frzS s (.lit v) = (.lit v) := rfl
theorem e_frz_lit (s : FS) (v : Value) : frz s (.lit v) = frzA s (.lit v) := rfl
theorem e_nameOf_lit (v : Value) (r : List AV) : nameOf ((.lit v) :: r) = none := rfl
theorem e_nmOk_lit (m : Nat) (v : Value) : nmOk m (.lit v) = True := by simp only [nmOk]
theorem e_ren_lit (ρ : Nat → Nat) (v : Value) : ren ρ (.lit v) = (.lit v) := by simp only [ren]
theorem e_strip_any : strip .any = .any := rfl
theorem e_cok_any (g : Option Bool) : cok g .any = True := rfl
theorem e_cellsA_any : cellsA .any = [.any] := rfl
theorem e_frzA_any (s : FS) : frzA s .any = frzS s .any := rfl
theorem e_frzS_any (s : FS) : frzS s .any = .any := rfl
theorem e_frz_any (s : FS) : frz s .any = frzA s .any := rfl
theorem e_nameOf_any (r : List AV) : nameOf (.any :: r) = none := rfl
theorem e_nmOk_any (m : Nat) : nmOk m .any = True := by simp only [nmOk]
theorem e_ren_any (ρ : Nat → Nat) : ren ρ .any = .any := by simp only [ren]
theorem e_strip_cnd (b : Bool) (v : AV) : strip (.cnd b v) = v := rfl
theorem e_cok_cnd (g : Option Bool) (b : Bool) (v : AV) : cok g (.cnd b v) = ob g (b = true) := rfl
theorem e_cellsA_agg (cs : List AV) : cellsA (.agg cs) = cs := rfl
theorem e_frzS_sl (s : FS) (es b o n c : Nat) : frzS s (.sl es b o n c) = frzL n es o (s.H b) := by simp only [frzS, frzL] <;> (generalize s.H b = x; cases x <;> rfl)
theorem e_frzA_agg (s : FS) (cs : List AV) : frzA s (.agg cs) = .agg (cs.map (frzS s)) := rfl
theorem e_frz_tup (s : FS) (cs : List AV) : frz s (.tup cs) = .tup (cs.map (frzA s)) := rfl
theorem e_bxOk_agg (cs : List AV) : bxOk (.agg cs) = True := rfl
theorem e_one_nilp : one (.lit (.pointer none)) = True := by simp [one, Value.oneCell']
theorem e_one_nilm : one (.lit (.map none)) = True := by simp [one, Value.oneCell']
theorem e_nameOf_ptr (b o : Nat) (r : List AV) : nameOf (.ptr b o :: r) = some b := rfl
theorem e_nameOf_sl (es b o n c : Nat) (r : List AV) : nameOf (.sl es b o n c :: r) = some b := rfl
theorem e_nameOf_mp (b : Nat) (r : List AV) : nameOf (.mp b :: r) = some b := rfl
theorem e_nameOf_nil : nameOf [] = none := rfl
theorem e_blkOf_eq (s : FS) (l : List AV) : blkOf s l = blkO s (nameOf l) := by simp only [blkOf]; generalize nameOf l = x; cases x <;> rfl
theorem e_blkO_some (s : FS) (b : Nat) : blkO s (some b) = s.H b := rfl
theorem e_blkO_none (s : FS) : blkO s none = .free := rfl
theorem e_asI_int (k : IntKind) (n : Int) : asI (.int k n) = n := rfl
theorem e_asB_bool (b : Bool) : asB (.bool b) = b := rfl
theorem e_asS_str (l : List UInt8) : asS (.str l) = l := rfl
theorem e_isI_int (k : IntKind) (n : Int) : isI k (.int k n) = True := by simp [isI]
theorem e_isN_int (k : IntKind) (n : Int) : isN (.int k n) = True := by simp [isN]
theorem e_isB_bool (b : Bool) : isB (.bool b) = True := by simp [isB]
theorem e_isS_str (l : List UInt8) : isS (.str l) = True := by simp [isS]
theorem e_ob_none (p : Prop) : ob none p = p := rfl
theorem e_ob_some (b : Bool) (p : Prop) : ob (some b) p = (b = true → p) := rfl
theorem e_cw_none (v : AV) : cw none v = v := rfl
theorem e_cw_some (b : Bool) (v : AV) : cw (some b) v = .cnd b v := rfl
theorem e_gB_none (s : FS) : gB s none = none := rfl
theorem e_gB_some (s : FS) (t : Nat) (w : Bool) : gB s (some (t, w)) = gB1 (s.T t) w := by simp only [gB]; generalize s.T t = x; rcases x with _ | ⟨_, y⟩ | _ | _ | _ | _ | _ | _ | _ | _ | _ | _ | _ | _ | _ <;> first | rfl | (cases y <;> rfl)
theorem e_gB1_bool (b w : Bool) : gB1 (.bool b) w = some (b == w) := rfl
theorem e_gB1_cnd (c b w : Bool) : gB1 (.cnd c (.bool b)) w = some (c && (b == w)) := rfl
theorem e_gOk_none (s : FS) : gOk s none = True := by simp [gOk]
theorem e_gOk_some (s : FS) (t : Nat) (w : Bool) : gOk s (some (t, w)) = gOk1 (s.T t) := by simp only [gOk]; generalize s.T t = x; rcases x with _ | ⟨_, y⟩ | _ | _ | _ | _ | _ | _ | _ | _ | _ | _ | _ | _ | _ <;> first | rfl | (cases y <;> rfl)
theorem e_gOk1_bool (b : Bool) : gOk1 (.bool b) = True := by simp [gOk1]
theorem e_gOk1_cnd (c b : Bool) : gOk1 (.cnd c (.bool b)) = True := by simp [gOk1]
theorem e_wrS_int (k : IntKind) (v : AV) : wrS (.int k) v = .int k (asI v) := rfl
theorem e_wrS_bool (v : AV) : wrS .bool v = .bool (asB v) := rfl
theorem e_wrS_str (v : AV) : wrS .str v = .str (asS v) := rfl
theorem e_wrS_ref (v : AV) : wrS .ref v = v := rfl
theorem e_okS_int (k : IntKind) (v : AV) : okS (.int k) v = isI k v := rfl
theorem e_okS_bool (v : AV) : okS .bool v = isB v := rfl
theorem e_okS_str (v : AV) : okS .str v = isS v := rfl
theorem e_okS_ref (v : AV) : okS .ref v = True := rfl
theorem e_wr_sc (k : SK) (cs : List AV) (o : Nat) : wr (.sc k) cs o = wrS k (cs.getD o .any) := rfl
theorem e_wr_ag (n : Nat) (cs : List AV) (o : Nat) : wr (.ag n) cs o = .agg ((cs.drop o).take n) := rfl
theorem e_wrOk_sc (k : SK) (cs : List AV) (o : Nat) : wrOk (.sc k) cs o = (o < cs.length ∧ okS k (cs.getD o .any)) := rfl
theorem e_wrOk_ag (n : Nat) (cs : List AV) (o : Nat) : wrOk (.ag n) cs o = (o + n ≤ cs.length) := rfl
theorem e_putC_sc (k : SK) (cs : List AV) (o : Nat) (v : AV) : putC (.sc k) cs o v = cs.set o v := rfl
theorem e_putC_ag (n : Nat) (cs : List AV) (o : Nat) (vs : List AV) : putC (.ag n) cs o (.agg vs) = splc cs o vs := rfl
theorem e_stOkC_sc (k : SK) (cs : List AV) (o : Nat) (v : AV) : stOkC (.sc k) cs o v = (o < cs.length ∧ one v) := rfl
theorem e_stOkC_ag (n : Nat) (cs : List AV) (o : Nat) (vs : List AV) : stOkC (.ag n) cs o (.agg vs) = (vs.length = n ∧ o + n ≤ cs.length) := rfl
theorem e_stOk_ptr (s : FS) (ty : TY) (b o : Nat) (v : AV) : stOk s ty (.ptr b o) v = stOkB (s.H b) ty o v := by simp only [stOk, stOkB]; generalize s.H b = x; cases x <;> rfl
theorem e_stOkB_cells (cs : List AV) (ty : TY) (o : Nat) (v : AV) : stOkB (.cells cs) ty o v = stOkC ty cs o v := rfl
theorem e_ptrB_ptr (b o : Nat) : ptrB (.ptr b o) = b := rfl
theorem e_ptrO_ptr (b o : Nat) : ptrO (.ptr b o) = o := rfl
theorem e_cellsB_cells (cs : List AV) : cellsB (.cells cs) = cs := rfl
theorem e_rv_t (s : FS) (i : Nat) : rv s (.t i) = s.T i := rfl
theorem e_rv_cell (s : FS) (a : Nat) (ty : TY) : rv s (.cell a ty) = rvC s ty (s.T a) := by simp only [rv]; generalize s.T a = x; cases x <;> first | rfl | (simp only [rvC, rvB]; generalize s.H _ = y; cases y <;> rfl)
theorem e_rvC_ptr (s : FS) (ty : TY) (b o : Nat) : rvC s ty (.ptr b o) = rvB (s.H b) ty o := rfl
theorem e_rvB_cells (cs : List AV) (ty : TY) (o : Nat) : rvB (.cells cs) ty o = wr ty cs o := rfl
theorem e_ren_nil0 (v : AV) : ren (rl []) v = v := ren_id _ (fun _ => rfl) v
theorem e_rens_nil0 (l : List AV) : rens (rl []) l = l := by rw [rens_eq]; exact (List.map_congr_left fun x _ => ren_id _ (fun _ => rfl) x).trans (List.map_id l)
theorem e_renB_nil0 (cs : List AV) : renB (rl []) (.cells cs) = .cells cs := by simp only [renB, e_rens_nil0]
theorem e_rl_nil (b : Nat) : rl [] b = b := rfl
theorem e_rl_cons (i j : Nat) (r : List (Nat × Nat)) (b : Nat) : rl ((i, j) :: r) b = bif i == b then j else rl r b := rfl
theorem e_ren_agg (ρ : Nat → Nat) (cs : List AV) : ren ρ (.agg cs) = .agg (rens ρ cs) := by simp only [ren]
theorem e_ren_tup (ρ : Nat → Nat) (cs : List AV) : ren ρ (.tup cs) = .tup (rens ρ cs) := by simp only [ren]
theorem e_ren_xp (ρ : Nat → Nat) (cs : List AV) (o : Nat) : ren ρ (.xp cs o) = .xp (rens ρ cs) o := by simp only [ren]
theorem e_ren_isl (ρ : Nat → Nat) (n : Nat) (cs : List AV) : ren ρ (.isl n cs) = .isl n (rens ρ cs) := by simp only [ren]
theorem e_ren_ptr (ρ : Nat → Nat) (b o : Nat) : ren ρ (.ptr b o) = .ptr (ρ b) o := by simp only [ren]
theorem e_ren_sl (ρ : Nat → Nat) (es b o n c : Nat) : ren ρ (.sl es b o n c) = .sl es (ρ b) o n c := by simp only [ren]
theorem e_ren_mp (ρ : Nat → Nat) (b : Nat) : ren ρ (.mp b) = .mp (ρ b) := by simp only [ren]
theorem e_ren_cl (ρ : Nat → Nat) (f : FuncId) (cs : List AV) : ren ρ (.cl f cs) = .cl f (rens ρ cs) := by simp only [ren]
theorem e_nmOk_agg (m : Nat) (cs : List AV) : nmOk m (.agg cs) = nmAll m cs := by simp only [nmOk]
theorem e_nmOk_tup (m : Nat) (cs : List AV) : nmOk m (.tup cs) = nmAll m cs := by simp only [nmOk]
theorem e_nmOk_xp (m o : Nat) (cs : List AV) : nmOk m (.xp cs o) = nmAll m cs := by simp only [nmOk]
theorem e_nmOk_isl (m n : Nat) (cs : List AV) : nmOk m (.isl n cs) = nmAll m cs := by simp only [nmOk]
theorem e_nmOk_cl (m f : Nat) (cs : List AV) : nmOk m (.cl f cs) = nmAll m cs := by simp only [nmOk]
theorem e_nmOk_ptr (m b o : Nat) : nmOk m (.ptr b o) = (b < m) := by simp only [nmOk]
theorem e_nmOk_sl (m es b o n c : Nat) : nmOk m (.sl es b o n c) = (b < m) := by simp only [nmOk]
theorem e_nmOk_mp (m b : Nat) : nmOk m (.mp b) = (b < m) := by simp only [nmOk]
theorem e_rvOk_nil (s : FS) : rvOk s [] = True := by simp [rvOk]
theorem e_rvOk_t (s : FS) (i : Nat) (r : List RS) : rvOk s (.t i :: r) = rvOk s r := rfl
theorem e_rvOk_cell (s : FS) (a : Nat) (ty : TY) (r : List RS) : rvOk s (.cell a ty :: r) = (rvOkC s ty (s.T a) ∧ rvOk s r) := by simp only [rvOk]; congr 1; generalize s.T a = x; cases x <;> first | rfl | (simp only [rvOkC, rvOkB]; generalize s.H _ = y; cases y <;> rfl)
theorem e_rvOkC_ptr (s : FS) (ty : TY) (b o : Nat) : rvOkC s ty (.ptr b o) = rvOkB (s.H b) ty o := rfl
theorem e_rvOkB_cells (cs : List AV) (ty : TY) (o : Nat) : rvOkB (.cells cs) ty o = wrOk ty cs o := rfl
theorem e_rvs_one (s : FS) (x : RS) : rvs s [x] = rv s x := rfl
theorem e_rvs_two (s : FS) (x y : RS) (l : List RS) : rvs s (x :: y :: l) = .tup (rv s x :: rv s y :: l.map (rv s)) := rfl
theorem e_pureK_ret (rs : List RS) (r : AV) (s : St) : pureK rs r .ret s = (rvOk s.fs rs ∧ frz s.fs (rvs s.fs rs) = r) := rfl
theorem e_pureK_normal (rs : List RS) (r : AV) (s : St) : pureK rs r .normal s = (rvOk s.fs rs ∧ frz s.fs (rvs s.fs rs) = r) := rfl
theorem e_pureK_exit (rs : List RS) (r : AV) (i : Nat) (s : St) : pureK rs r (.exit i) s = False := rfl
theorem e_blockK_normal (i : Nat) (Q : EX → St → Prop) (s : St) : blockK i Q .normal s = Q .normal s := rfl
theorem e_blockK_ret (i : Nat) (Q : EX → St → Prop) (s : St) : blockK i Q .ret s = Q .ret s := rfl
theorem e_blockK_exit (i j : Nat) (Q : EX → St → Prop) (s : St) : blockK i Q (.exit j) s = if j = i then Q .normal s else Q (.exit j) s := rfl
theorem e_loopK_normal {σ : Type} (I : σ → Prop) (emb : σ → St) (μ : σ → Nat) (x : σ) (Q : EX → St → Prop) (s : St) : loopK I emb μ x Q .normal s = ∃ y, I y ∧ (∃ ρ, Sub (rl ρ) s (emb y)) ∧ μ y < μ x := rfl
theorem e_loopK_ret {σ : Type} (I : σ → Prop) (emb : σ → St) (μ : σ → Nat) (x : σ) (Q : EX → St → Prop) (s : St) : loopK I emb μ x Q .ret s = Q .ret s := rfl
theorem e_loopK_exit {σ : Type} (I : σ → Prop) (emb : σ → St) (μ : σ → Nat) (x : σ) (Q : EX → St → Prop) (i : Nat) (s : St) : loopK I emb μ x Q (.exit i) s = Q (.exit i) s := rfl
theorem e_evT_t (gl : Nat → AV) (s : FS) (i : Nat) : evT gl s (.t i) = s.T i := rfl
theorem e_evT_c (gl : Nat → AV) (s : FS) (v : AV) : evT gl s (.c v) = v := rfl
theorem e_evT_gl (gl : Nat → AV) (s : FS) (i : Nat) : evT gl s (.gl i) = gl i := rfl
theorem e_evs_nil (gl : Nat → AV) (s : FS) : evs gl s [] = [] := rfl
theorem e_evs_cons (gl : Nat → AV) (s : FS) (x : TV) (r : List TV) : evs gl s (x :: r) = evT gl s x :: evs gl s r := rfl
theorem e_cokP_pick (c : Option Bool) (x y z : AV) : cokP c .pick [x, y, z] = (cok c x ∧ ob c (asB (strip x) = true → cok none y) ∧ ob c (asB (strip x) = false → cok none z)) := rfl
theorem e_cokP_mv (c : Option Bool) (l : List AV) : cokP c .mv l = cokAll c l := rfl
theorem e_cokP_not (c : Option Bool) (l : List AV) : cokP c .not l = cokAll c l := rfl
theorem e_cokP_ar (c : Option Bool) (o : BinOp) (k : IntKind) (l : List AV) : cokP c (.ar o k) l = cokAll c l := rfl
theorem e_cokP_dv (c : Option Bool) (o : BinOp) (k : IntKind) (l : List AV) : cokP c (.dv o k) l = cokAll c l := rfl
theorem e_cokP_bt (c : Option Bool) (o : BinOp) (k : IntKind) (l : List AV) : cokP c (.bt o k) l = cokAll c l := rfl
theorem e_cokP_sh (c : Option Bool) (o : BinOp) (k : IntKind) (l : List AV) : cokP c (.sh o k) l = cokAll c l := rfl
theorem e_cokP_cm (c : Option Bool) (o : BinOp) (k : IntKind) (l : List AV) : cokP c (.cm o k) l = cokAll c l := rfl
theorem e_cokP_cB (c : Option Bool) (ne : Bool) (l : List AV) : cokP c (.cB ne) l = cokAll c l := rfl
theorem e_cokP_cS (c : Option Bool) (ne : Bool) (l : List AV) : cokP c (.cS ne) l = cokAll c l := rfl
theorem e_cokP_cat (c : Option Bool) (l : List AV) : cokP c .cat l = cokAll c l := rfl
theorem e_cokP_cv (c : Option Bool) (k : IntKind) (l : List AV) : cokP c (.cv k) l = cokAll c l := rfl
theorem e_cokP_fld (c : Option Bool) (ty : TY) (off : Nat) (l : List AV) : cokP c (.fld ty off) l = cokAll c l := rfl
theorem e_cokP_ixA (c : Option Bool) (es len : Nat) (ty : TY) (l : List AV) : cokP c (.ixA es len ty) l = cokAll c l := rfl
theorem e_cokP_ixS (c : Option Bool) (l : List AV) : cokP c .ixS l = cokAll c l := rfl
theorem e_cokP_fadr (c : Option Bool) (off : Nat) (l : List AV) : cokP c (.fadr off) l = cokAll c l := rfl
theorem e_cokP_iadrA (c : Option Bool) (len es : Nat) (l : List AV) : cokP c (.iadrA len es) l = cokAll c l := rfl
theorem e_cokP_iadrS (c : Option Bool) (es : Nat) (l : List AV) : cokP c (.iadrS es) l = cokAll c l := rfl
theorem e_cokP_ld (c : Option Bool) (ty : TY) (l : List AV) : cokP c (.ld ty) l = cokAll c l := rfl
theorem e_cokP_lenS (c : Option Bool) (l : List AV) : cokP c .lenS l = cokAll c l := rfl
theorem e_cokP_lenL (c : Option Bool) (l : List AV) : cokP c .lenL l = cokAll c l := rfl
theorem e_cokP_lenM (c : Option Bool) (l : List AV) : cokP c .lenM l = cokAll c l := rfl
theorem e_cokP_slS (c : Option Bool) (lo hi : Bool) (l : List AV) : cokP c (.slS lo hi) l = cokAll c l := rfl
theorem e_cokP_slL (c : Option Bool) (es : Nat) (lo hi : Bool) (l : List AV) : cokP c (.slL es lo hi) l = cokAll c l := rfl
theorem e_cokP_ext (c : Option Bool) (i : Nat) (l : List AV) : cokP c (.ext i) l = cokAll c l := rfl
theorem e_cokP_nilck (c : Option Bool) (l : List AV) : cokP c .nilck l = cokAll c l := rfl
theorem e_cokP_bld (c : Option Bool) (z : List AV) (ps : List (Nat × Nat)) (l : List AV) : cokP c (.bld z ps) l = cokAll c l := rfl
theorem e_cokP_mkf (c : Option Bool) (f : FuncId) (l : List AV) : cokP c (.mkf f) l = cokAll c l := rfl
theorem e_cokP_mn (c : Option Bool) (k : IntKind) (l : List AV) : cokP c (.mn k) l = cokAll c l := rfl
theorem e_cokP_mx (c : Option Bool) (k : IntKind) (l : List AV) : cokP c (.mx k) l = cokAll c l := rfl
theorem e_cokP_nilP (c : Option Bool) (ne : Bool) (l : List AV) : cokP c (.nilP ne) l = cokAll c l := rfl
theorem e_cokP_b2s (c : Option Bool) (l : List AV) : cokP c .b2s l = cokAll c l := rfl
theorem e_qv_mv (x : AV) (bk : Bk) : qv .mv [x] bk = x := rfl
theorem e_qp_mv (x : AV) (bk : Bk) : qp .mv [x] bk = True := by simp [qp]
theorem e_qv_not (x : AV) (bk : Bk) : qv .not [x] bk = .bool (!asB x) := rfl
theorem e_qp_not (x : AV) (bk : Bk) : qp .not [x] bk = isB x := rfl
theorem e_qv_pick (c x y : AV) (bk : Bk) : qv .pick [c, x, y] bk = .bool (bif asB c then asB x else asB y) := rfl
theorem e_qp_pick (c x y : AV) (bk : Bk) : qp .pick [c, x, y] bk = (isB c ∧ (asB c = true → isB x) ∧ (asB c = false → isB y)) := rfl
theorem e_qv_ar (o : BinOp) (k : IntKind) (x y : AV) (bk : Bk) : qv (.ar o k) [x, y] bk = .int k (k.wrap (arI o (asI x) (asI y))) := rfl
theorem e_qp_ar (o : BinOp) (k : IntKind) (x y : AV) (bk : Bk) : qp (.ar o k) [x, y] bk = (isI k x ∧ isI k y) := rfl
theorem e_qv_dv (o : BinOp) (k : IntKind) (x y : AV) (bk : Bk) : qv (.dv o k) [x, y] bk = .int k (dvI o k (asI x) (asI y)) := rfl
theorem e_qp_dv (o : BinOp) (k : IntKind) (x y : AV) (bk : Bk) : qp (.dv o k) [x, y] bk = (isI k x ∧ isI k y ∧ asI y ≠ 0) := rfl
theorem e_qv_bt (o : BinOp) (k : IntKind) (x y : AV) (bk : Bk) : qv (.bt o k) [x, y] bk = .int k (bits o k (asI x) (asI y)) := rfl
theorem e_qp_bt (o : BinOp) (k : IntKind) (x y : AV) (bk : Bk) : qp (.bt o k) [x, y] bk = (isI k x ∧ isI k y) := rfl
theorem e_qv_sh (o : BinOp) (k : IntKind) (x y : AV) (bk : Bk) : qv (.sh o k) [x, y] bk = .int k (shI o k (asI x) (asI y)) := rfl
theorem e_qp_sh (o : BinOp) (k : IntKind) (x y : AV) (bk : Bk) : qp (.sh o k) [x, y] bk = (isI k x ∧ isN y ∧ 0 ≤ asI y) := rfl
theorem e_qv_cm (o : BinOp) (k : IntKind) (x y : AV) (bk : Bk) : qv (.cm o k) [x, y] bk = .bool (cmI o (asI x) (asI y)) := rfl
theorem e_qp_cm (o : BinOp) (k : IntKind) (x y : AV) (bk : Bk) : qp (.cm o k) [x, y] bk = (isI k x ∧ isI k y) := rfl
theorem e_qv_cB (ne : Bool) (x y : AV) (bk : Bk) : qv (.cB ne) [x, y] bk = .bool (ne != (asB x == asB y)) := rfl
theorem e_qp_cB (ne : Bool) (x y : AV) (bk : Bk) : qp (.cB ne) [x, y] bk = (isB x ∧ isB y) := rfl
theorem e_qv_cS (ne : Bool) (x y : AV) (bk : Bk) : qv (.cS ne) [x, y] bk = .bool (ne != (asS x == asS y)) := rfl
theorem e_qp_cS (ne : Bool) (x y : AV) (bk : Bk) : qp (.cS ne) [x, y] bk = (isS x ∧ isS y) := rfl
theorem e_qv_cat (x y : AV) (bk : Bk) : qv .cat [x, y] bk = .str (asS x ++ asS y) := rfl
theorem e_qp_cat (x y : AV) (bk : Bk) : qp .cat [x, y] bk = (isS x ∧ isS y ∧ (asS x).length + (asS y).length ≤ 9223372036854775807) := rfl
theorem e_qv_cv (k : IntKind) (x : AV) (bk : Bk) : qv (.cv k) [x] bk = .int k (k.wrap (asI x)) := rfl
theorem e_qp_cv (k : IntKind) (x : AV) (bk : Bk) : qp (.cv k) [x] bk = isN x := rfl
theorem e_qv_fld (ty : TY) (off : Nat) (cs : List AV) (bk : Bk) : qv (.fld ty off) [.agg cs] bk = wr ty cs off := rfl
theorem e_qp_fld (ty : TY) (off : Nat) (cs : List AV) (bk : Bk) : qp (.fld ty off) [.agg cs] bk = wrOk ty cs off := rfl
theorem e_qv_ixA (es len : Nat) (ty : TY) (cs : List AV) (i : AV) (bk : Bk) : qv (.ixA es len ty) [.agg cs, i] bk = wr ty cs ((asI i).toNat * es) := rfl
theorem e_qp_ixA (es len : Nat) (ty : TY) (cs : List AV) (i : AV) (bk : Bk) : qp (.ixA es len ty) [.agg cs, i] bk = (isN i ∧ 0 ≤ asI i ∧ asI i < len ∧ wrOk ty cs ((asI i).toNat * es)) := rfl
theorem e_qv_ixS (x i : AV) (bk : Bk) : qv .ixS [x, i] bk = .int .u8 ((asS x).getD (asI i).toNat 0).toNat := rfl
theorem e_qp_ixS (x i : AV) (bk : Bk) : qp .ixS [x, i] bk = (isS x ∧ isN i ∧ 0 ≤ asI i ∧ asI i < (asS x).length) := rfl
theorem e_qv_fadr (o b off : Nat) (bk : Bk) : qv (.fadr o) [.ptr b off] bk = .ptr b (off + o) := rfl
theorem e_qp_fadr (o b off : Nat) (bk : Bk) : qp (.fadr o) [.ptr b off] bk = True := by simp [qp]
theorem e_qv_fadrx (o off : Nat) (cs : List AV) (bk : Bk) : qv (.fadr o) [.xp cs off] bk = .xp cs (off + o) := rfl
theorem e_qp_fadrx (o off : Nat) (cs : List AV) (bk : Bk) : qp (.fadr o) [.xp cs off] bk = True := by simp [qp]
theorem e_qv_iadrA (len es b off : Nat) (i : AV) (bk : Bk) : qv (.iadrA len es) [.ptr b off, i] bk = .ptr b (off + (asI i).toNat * es) := rfl
theorem e_qp_iadrA (len es b off : Nat) (i : AV) (bk : Bk) : qp (.iadrA len es) [.ptr b off, i] bk = (isN i ∧ 0 ≤ asI i ∧ asI i < len) := rfl
theorem e_qv_iadrAx (len es off : Nat) (cs : List AV) (i : AV) (bk : Bk) : qv (.iadrA len es) [.xp cs off, i] bk = .xp cs (off + (asI i).toNat * es) := rfl
theorem e_qp_iadrAx (len es off : Nat) (cs : List AV) (i : AV) (bk : Bk) : qp (.iadrA len es) [.xp cs off, i] bk = (isN i ∧ 0 ≤ asI i ∧ asI i < len) := rfl
theorem e_qv_iadrS (es es2 b off n c : Nat) (i : AV) (bk : Bk) : qv (.iadrS es) [.sl es2 b off n c, i] bk = .ptr b (off + (asI i).toNat * es) := rfl
theorem e_qp_iadrS (es es2 b off n c : Nat) (i : AV) (bk : Bk) : qp (.iadrS es) [.sl es2 b off n c, i] bk = (es2 = es ∧ isN i ∧ 0 ≤ asI i ∧ asI i < n) := rfl
theorem e_qv_iadrSx (es n : Nat) (cs : List AV) (i : AV) (bk : Bk) : qv (.iadrS es) [.isl n cs, i] bk = .xp cs ((asI i).toNat * es) := rfl
theorem e_qp_iadrSx (es n : Nat) (cs : List AV) (i : AV) (bk : Bk) : qp (.iadrS es) [.isl n cs, i] bk = (isN i ∧ 0 ≤ asI i ∧ asI i < n ∧ (asI i).toNat * es < cs.length) := rfl
theorem e_qv_ld (ty : TY) (b off : Nat) (cs : List AV) : qv (.ld ty) [.ptr b off] (.cells cs) = wr ty cs off := rfl
theorem e_qp_ld (ty : TY) (b off : Nat) (cs : List AV) : qp (.ld ty) [.ptr b off] (.cells cs) = wrOk ty cs off := rfl
theorem e_qv_ldx (ty : TY) (off : Nat) (cs : List AV) (bk : Bk) : qv (.ld ty) [.xp cs off] bk = wr ty cs off := rfl
theorem e_qp_ldx (ty : TY) (off : Nat) (cs : List AV) (bk : Bk) : qp (.ld ty) [.xp cs off] bk = wrOk ty cs off := rfl
theorem e_qv_lenS (x : AV) (bk : Bk) : qv .lenS [x] bk = .int .i64 (asS x).length := rfl
theorem e_qp_lenS (x : AV) (bk : Bk) : qp .lenS [x] bk = isS x := rfl
theorem e_qv_lenLi (n : Nat) (cs : List AV) (bk : Bk) : qv .lenL [.isl n cs] bk = .int .i64 n := rfl
theorem e_qp_lenLi (n : Nat) (cs : List AV) (bk : Bk) : qp .lenL [.isl n cs] bk = True := by simp [qp]
theorem e_qv_lenLs (es b o n c : Nat) (bk : Bk) : qv .lenL [.sl es b o n c] bk = .int .i64 n := rfl
theorem e_qp_lenLs (es b o n c : Nat) (bk : Bk) : qp .lenL [.sl es b o n c] bk = True := by simp [qp]
theorem e_qv_lenLn (bk : Bk) : qv .lenL [.nils] bk = .int .i64 0 := rfl
theorem e_qp_lenLn (bk : Bk) : qp .lenL [.nils] bk = True := by simp [qp]
theorem e_qv_lenM (b : Nat) (kvs : List (AV × AV)) (dn : Bool) : qv .lenM [.mp b] (.mapb kvs dn) = .int .i64 kvs.length := rfl
theorem e_qp_lenM (b : Nat) (kvs : List (AV × AV)) (dn : Bool) : qp .lenM [.mp b] (.mapb kvs dn) = True := by simp [qp]
theorem e_qv_slS (lo hi : Bool) (x : AV) (r : List AV) (bk : Bk) : qv (.slS lo hi) (x :: r) bk = .str (((asS x).drop (loOf lo r).toNat).take ((hiOf lo hi (asS x).length r).toNat - (loOf lo r).toNat)) := rfl
theorem e_qp_slS (lo hi : Bool) (x : AV) (r : List AV) (bk : Bk) : qp (.slS lo hi) (x :: r) bk = (isS x ∧ bdOk lo hi r ∧ 0 ≤ loOf lo r ∧ loOf lo r ≤ hiOf lo hi (asS x).length r ∧ hiOf lo hi (asS x).length r ≤ (asS x).length) := rfl
theorem e_qv_slLi (es n : Nat) (cs : List AV) (lo hi : Bool) (r : List AV) (bk : Bk) : qv (.slL es lo hi) (.isl n cs :: r) bk = .isl ((hiOf lo hi n r).toNat - (loOf lo r).toNat) ((cs.drop ((loOf lo r).toNat * es)).take (((hiOf lo hi n r).toNat - (loOf lo r).toNat) * es)) := rfl
theorem e_qp_slLi (es n : Nat) (cs : List AV) (lo hi : Bool) (r : List AV) (bk : Bk) : qp (.slL es lo hi) (.isl n cs :: r) bk = (bdOk lo hi r ∧ 0 ≤ loOf lo r ∧ loOf lo r ≤ hiOf lo hi n r ∧ hiOf lo hi n r ≤ n ∧ cs.length ≤ n * es) := rfl
theorem e_qv_slLs {es es2 b off n c : Nat} {lo hi : Bool} {r : List AV} {bk : Bk} (h : loOf lo r < c) : qv (.slL es lo hi) (.sl es2 b off n c :: r) bk = .sl es b (off + (loOf lo r).toNat * es) ((hiOf lo hi n r).toNat - (loOf lo r).toNat) (c - (loOf lo r).toNat) := if_pos h
theorem e_qv_slLn {es es2 b off n c : Nat} {lo hi : Bool} {r : List AV} {bk : Bk} (h : ¬ loOf lo r < c) : qv (.slL es lo hi) (.sl es2 b off n c :: r) bk = .isl 0 [] := if_neg h
theorem e_qp_slLs (es es2 b off n c : Nat) (lo hi : Bool) (r : List AV) (bk : Bk) : qp (.slL es lo hi) (.sl es2 b off n c :: r) bk = (es2 = es ∧ bdOk lo hi r ∧ 0 ≤ loOf lo r ∧ loOf lo r ≤ hiOf lo hi n r ∧ hiOf lo hi n r ≤ c) := rfl
theorem e_qv_ext (i : Nat) (vs : List AV) (bk : Bk) : qv (.ext i) [.tup vs] bk = vs.getD i .any := rfl
theorem e_qp_ext (i : Nat) (vs : List AV) (bk : Bk) : qp (.ext i) [.tup vs] bk = (i < vs.length) := rfl
theorem e_qv_nilck (b o : Nat) (bk : Bk) : qv .nilck [.ptr b o] bk = .ptr b o := rfl
theorem e_qp_nilck (b o : Nat) (bk : Bk) : qp .nilck [.ptr b o] bk = True := by simp [qp]
theorem e_qv_nilckx (cs : List AV) (o : Nat) (bk : Bk) : qv .nilck [.xp cs o] bk = .xp cs o := rfl
theorem e_qp_nilckx (cs : List AV) (o : Nat) (bk : Bk) : qp .nilck [.xp cs o] bk = True := by simp [qp]
theorem e_qv_bld (z : List AV) (ps : List (Nat × Nat)) (vs : List AV) (bk : Bk) : qv (.bld z ps) vs bk = .agg (bldC z ps vs) := by rcases vs with _ | ⟨a, _ | ⟨b, _ | ⟨c, _ | ⟨d, r⟩⟩⟩⟩ <;> rfl
theorem e_qp_bld (z : List AV) (ps : List (Nat × Nat)) (vs : List AV) (bk : Bk) : qp (.bld z ps) vs bk = bldOk z.length ps vs := by rcases vs with _ | ⟨a, _ | ⟨b, _ | ⟨c, _ | ⟨d, r⟩⟩⟩⟩ <;> rfl
theorem e_qv_mkf (f : FuncId) (vs : List AV) (bk : Bk) : qv (.mkf f) vs bk = .cl f vs := by rcases vs with _ | ⟨a, _ | ⟨b, _ | ⟨c, _ | ⟨d, r⟩⟩⟩⟩ <;> rfl
theorem e_qp_mkf (f : FuncId) (vs : List AV) (bk : Bk) : qp (.mkf f) vs bk = True := by rcases vs with _ | ⟨a, _ | ⟨b, _ | ⟨c, _ | ⟨d, r⟩⟩⟩⟩ <;> simp [qp]
theorem e_qv_mn (k : IntKind) (x y : AV) (bk : Bk) : qv (.mn k) [x, y] bk = .int k (if asI y < asI x then asI y else asI x) := rfl
theorem e_qp_mn (k : IntKind) (x y : AV) (bk : Bk) : qp (.mn k) [x, y] bk = (isI k x ∧ isI k y) := rfl
theorem e_qv_mx (k : IntKind) (x y : AV) (bk : Bk) : qv (.mx k) [x, y] bk = .int k (if asI y > asI x then asI y else asI x) := rfl
theorem e_qp_mx (k : IntKind) (x y : AV) (bk : Bk) : qp (.mx k) [x, y] bk = (isI k x ∧ isI k y) := rfl
theorem e_qv_nilPn (ne : Bool) (bk : Bk) : qv (.nilP ne) [.lit (.pointer none)] bk = .bool (!ne) := rfl
theorem e_qp_nilPn (ne : Bool) (bk : Bk) : qp (.nilP ne) [.lit (.pointer none)] bk = True := by simp [qp]
theorem e_qv_nilPp (ne : Bool) (b o : Nat) (bk : Bk) : qv (.nilP ne) [.ptr b o] bk = .bool ne := rfl
theorem e_qp_nilPp (ne : Bool) (b o : Nat) (bk : Bk) : qp (.nilP ne) [.ptr b o] bk = True := by simp [qp]
theorem e_qv_nilPx (ne : Bool) (cs : List AV) (o : Nat) (bk : Bk) : qv (.nilP ne) [.xp cs o] bk = .bool ne := rfl
theorem e_qp_nilPx (ne : Bool) (cs : List AV) (o : Nat) (bk : Bk) : qp (.nilP ne) [.xp cs o] bk = True := by simp [qp]
theorem e_qv_b2sn (bk : Bk) : qv .b2s [.nils] bk = .str [] := rfl
theorem e_qp_b2sn (bk : Bk) : qp .b2s [.nils] bk = True := by simp [qp]
theorem e_qv_b2si (n : Nat) (cs : List AV) (bk : Bk) : qv .b2s [.isl n cs] bk = .str (toB (cs.take n)) := rfl
theorem e_qp_b2si (n : Nat) (cs : List AV) (bk : Bk) : qp .b2s [.isl n cs] bk = (n ≤ cs.length ∧ ∀ v ∈ cs.take n, isI .u8 v) := rfl
theorem e_qv_b2ss (es b off n c : Nat) (cs : List AV) : qv .b2s [.sl es b off n c] (.cells cs) = .str (toB ((cs.drop off).take n)) := rfl
theorem e_qp_b2ss (es b off n c : Nat) (cs : List AV) : qp .b2s [.sl es b off n c] (.cells cs) = (es = 1 ∧ off + n ≤ cs.length ∧ ∀ v ∈ (cs.drop off).take n, isI .u8 v) := rfl
theorem e_arI_add (x y : Int) : arI .add x y = x + y := rfl
theorem e_arI_sub (x y : Int) : arI .sub x y = x - y := rfl
theorem e_arI_mul (x y : Int) : arI .mul x y = x * y := rfl
theorem e_cmI_eql (x y : Int) : cmI .eql x y = (x == y) := rfl
theorem e_cmI_neq (x y : Int) : cmI .neq x y = (x != y) := rfl
theorem e_cmI_lss (x y : Int) : cmI .lss x y = decide (x < y) := rfl
theorem e_cmI_leq (x y : Int) : cmI .leq x y = decide (x ≤ y) := rfl
theorem e_cmI_gtr (x y : Int) : cmI .gtr x y = decide (y < x) := rfl
theorem e_cmI_geq (x y : Int) : cmI .geq x y = decide (y ≤ x) := rfl
theorem e_dvI_quo (k : IntKind) (x y : Int) : dvI .quo k x y = k.wrap (x.tdiv y) := rfl
theorem e_dvI_rem (k : IntKind) (x y : Int) : dvI .rem k x y = x.tmod y := rfl
theorem e_shI_shl (k : IntKind) (x y : Int) : shI .shl k x y = k.wrap (x * 2 ^ min y.toNat k.bits) := rfl
theorem e_shI_shr (k : IntKind) (x y : Int) : shI .shr k x y = x.fdiv (2 ^ min y.toNat k.bits) := rfl
theorem e_loOf_no (r : List AV) : loOf false r = 0 := by cases r <;> rfl
theorem e_loOf_yes (x : AV) (r : List AV) : loOf true (x :: r) = asI x := rfl
theorem e_hiOf_no (lo : Bool) (n : Nat) (r : List AV) : hiOf lo false n r = n := by rcases r with _ | ⟨a, _ | ⟨b, _ | ⟨d, r⟩⟩⟩ <;> simp [hiOf]
theorem e_hiOf_one (n : Nat) (x : AV) : hiOf false true n [x] = asI x := rfl
theorem e_hiOf_two (n : Nat) (x y : AV) : hiOf true true n [x, y] = asI y := rfl
theorem e_bdOk_nil : bdOk false false [] = True := by simp [bdOk]
theorem e_bdOk_lo (x : AV) : bdOk true false [x] = isI .i64 x := by simp [bdOk]
theorem e_bdOk_hi (x : AV) : bdOk false true [x] = isI .i64 x := by simp [bdOk]
theorem e_bdOk_two (x y : AV) : bdOk true true [x, y] = (isI .i64 x ∧ isI .i64 y) := by simp [bdOk]
theorem e_bldC_int (z : List AV) (q m : Nat) (ps : List (Nat × Nat)) (r : List AV) (k : IntKind) (n : Int) : bldC z ((q, m) :: ps) ((.int k n) :: r) = bldC (z.set q (.int k n)) ps r := rfl
theorem e_bldOk_int (n1 q m : Nat) (ps : List (Nat × Nat)) (r : List AV) (k : IntKind) (n : Int) : bldOk n1 ((q, m) :: ps) ((.int k n) :: r) = (one (.int k n) ∧ m = 1 ∧ q < n1 ∧ bldOk n1 ps r) := rfl
theorem e_bldC_bool (z : List AV) (q m : Nat) (ps : List (Nat × Nat)) (r : List AV) (b : Bool) : bldC z ((q, m) :: ps) ((.bool b) :: r) = bldC (z.set q (.bool b)) ps r := rfl
theorem e_bldOk_bool (n1 q m : Nat) (ps : List (Nat × Nat)) (r : List AV) (b : Bool) : bldOk n1 ((q, m) :: ps) ((.bool b) :: r) = (one (.bool b) ∧ m = 1 ∧ q < n1 ∧ bldOk n1 ps r) := rfl
theorem e_bldC_str (z : List AV) (q m : Nat) (ps : List (Nat × Nat)) (r : List AV) (l : List UInt8) : bldC z ((q, m) :: ps) ((.str l) :: r) = bldC (z.set q (.str l)) ps r := rfl
theorem e_bldOk_str (n1 q m : Nat) (ps : List (Nat × Nat)) (r : List AV) (l : List UInt8) : bldOk n1 ((q, m) :: ps) ((.str l) :: r) = (one (.str l) ∧ m = 1 ∧ q < n1 ∧ bldOk n1 ps r) := rfl
theorem e_bldC_agg (z : List AV) (o m : Nat) (ps : List (Nat × Nat)) (cs r : List AV) : bldC z ((o, m) :: ps) (.agg cs :: r) = bldC (splc z o cs) ps r := rfl
theorem e_bldOk_agg (n o m : Nat) (ps : List (Nat × Nat)) (cs r : List AV) : bldOk n ((o, m) :: ps) (.agg cs :: r) = (cs.length = m ∧ o + m ≤ n ∧ bldOk n ps r) := rfl
theorem e_bldC_ptr (z : List AV) (q m : Nat) (ps : List (Nat × Nat)) (r : List AV) (b o : Nat) : bldC z ((q, m) :: ps) ((.ptr b o) :: r) = bldC (z.set q (.ptr b o)) ps r := rfl
theorem e_bldOk_ptr (n1 q m : Nat) (ps : List (Nat × Nat)) (r : List AV) (b o : Nat) : bldOk n1 ((q, m) :: ps) ((.ptr b o) :: r) = (one (.ptr b o) ∧ m = 1 ∧ q < n1 ∧ bldOk n1 ps r) := rfl
theorem e_bldC_xp (z : List AV) (q m : Nat) (ps : List (Nat × Nat)) (r : List AV) (cs : List AV) (o : Nat) : bldC z ((q, m) :: ps) ((.xp cs o) :: r) = bldC (z.set q (.xp cs o)) ps r := rfl
theorem e_bldOk_xp (n1 q m : Nat) (ps : List (Nat × Nat)) (r : List AV) (cs : List AV) (o : Nat) : bldOk n1 ((q, m) :: ps) ((.xp cs o) :: r) = (one (.xp cs o) ∧ m = 1 ∧ q < n1 ∧ bldOk n1 ps r) := rfl
theorem e_bldC_sl (z : List AV) (q m : Nat) (ps : List (Nat × Nat)) (r : List AV) (es b o n c : Nat) : bldC z ((q, m) :: ps) ((.sl es b o n c) :: r) = bldC (z.set q (.sl es b o n c)) ps r := rfl
theorem e_bldOk_sl (n1 q m : Nat) (ps : List (Nat × Nat)) (r : List AV) (es b o n c : Nat) : bldOk n1 ((q, m) :: ps) ((.sl es b o n c) :: r) = (one (.sl es b o n c) ∧ m = 1 ∧ q < n1 ∧ bldOk n1 ps r) := rfl
theorem e_bldC_isl (z : List AV) (q m : Nat) (ps : List (Nat × Nat)) (r : List AV) (n : Nat) (cs : List AV) : bldC z ((q, m) :: ps) ((.isl n cs) :: r) = bldC (z.set q (.isl n cs)) ps r := rfl
theorem e_bldOk_isl (n1 q m : Nat) (ps : List (Nat × Nat)) (r : List AV) (n : Nat) (cs : List AV) : bldOk n1 ((q, m) :: ps) ((.isl n cs) :: r) = (one (.isl n cs) ∧ m = 1 ∧ q < n1 ∧ bldOk n1 ps r) := rfl
theorem e_bldC_nils (z : List AV) (q m : Nat) (ps : List (Nat × Nat)) (r : List AV) : bldC z ((q, m) :: ps) (.nils :: r) = bldC (z.set q .nils) ps r := rfl
theorem e_bldOk_nils (n1 q m : Nat) (ps : List (Nat × Nat)) (r : List AV) : bldOk n1 ((q, m) :: ps) (.nils :: r) = (one .nils ∧ m = 1 ∧ q < n1 ∧ bldOk n1 ps r) := rfl
theorem e_bldC_cl (z : List AV) (q m : Nat) (ps : List (Nat × Nat)) (r : List AV) (f : FuncId) (cs : List AV) : bldC z ((q, m) :: ps) ((.cl f cs) :: r) = bldC (z.set q (.cl f cs)) ps r := rfl
theorem e_bldOk_cl (n1 q m : Nat) (ps : List (Nat × Nat)) (r : List AV) (f : FuncId) (cs : List AV) : bldOk n1 ((q, m) :: ps) ((.cl f cs) :: r) = (one (.cl f cs) ∧ m = 1 ∧ q < n1 ∧ bldOk n1 ps r) := rfl
theorem e_bldC_mp (z : List AV) (q m : Nat) (ps : List (Nat × Nat)) (r : List AV) (b : Nat) : bldC z ((q, m) :: ps) ((.mp b) :: r) = bldC (z.set q (.mp b)) ps r := rfl
theorem e_bldOk_mp (n1 q m : Nat) (ps : List (Nat × Nat)) (r : List AV) (b : Nat) : bldOk n1 ((q, m) :: ps) ((.mp b) :: r) = (one (.mp b) ∧ m = 1 ∧ q < n1 ∧ bldOk n1 ps r) := rfl
theorem e_bldC_lit (z : List AV) (q m : Nat) (ps : List (Nat × Nat)) (r : List AV) (v : Value) : bldC z ((q, m) :: ps) ((.lit v) :: r) = bldC (z.set q (.lit v)) ps r := rfl
theorem e_bldOk_lit (n1 q m : Nat) (ps : List (Nat × Nat)) (r : List AV) (v : Value) : bldOk n1 ((q, m) :: ps) ((.lit v) :: r) = (one (.lit v) ∧ m = 1 ∧ q < n1 ∧ bldOk n1 ps r) := rfl
theorem e_bldC_nil (z : List AV) : bldC z [] [] = z := rfl
theorem e_bldOk_nil (n : Nat) : bldOk n [] [] = True := by simp [bldOk]
attribute [go_sem] fs_T fs_H frzL_cells XP_nil XP_q XP_al XP_bx XP_sto XP_pd XD_nil XD_q XD_al XD_bx XD_sto XD_pd xw_skip xw_reg xw_dreg xw_dtwo xw_seq xw_block xw_loop xw_exit xw_ret seqT_normal seqT_exit seqT_ret qOk qRes St.put St.putB St.nw St.putO lookb_nil lookb_cons' look_nil look_cons' cokAll argT callOk tmpsOf gdT qFoot callFoot nmAll subT subH rhoNot nmB renB rens Sub beq_true' beq_false' bne_tt bne_ff and_true_imp bif_tf bif_or bif_and cond_true cond_false true_and and_true List.map_cons List.map_nil List.cons_append List.nil_append Option.toList_some Option.toList_none List.getD_cons_zero List.getD_cons_succ List.set_cons_zero List.set_cons_succ List.take_succ_cons List.take_zero List.drop_succ_cons List.drop_zero List.length_cons List.length_nil Nat.zero_add Nat.add_zero Bool.and_true Bool.true_and Bool.and_false Bool.false_and Bool.or_true Bool.true_or Bool.or_false Bool.false_or Bool.not_true Bool.not_false Bool.not_not forall_const implies_true true_implies Bool.false_eq_true false_implies  imp_self e_strip_int e_cok_int e_cellsA_int e_frzA_int e_frzS_int e_frz_int e_one_int e_bxOk_int e_nameOf_int e_nmOk_int e_ren_int e_strip_bool e_cok_bool e_cellsA_bool e_frzA_bool e_frzS_bool e_frz_bool e_one_bool e_bxOk_bool e_nameOf_bool e_nmOk_bool e_ren_bool e_strip_str e_cok_str e_cellsA_str e_frzA_str e_frzS_str e_frz_str e_one_str e_bxOk_str e_nameOf_str e_nmOk_str e_ren_str e_strip_agg e_cok_agg e_frzS_agg e_frz_agg e_nameOf_agg e_strip_tup e_cok_tup e_cellsA_tup e_frzA_tup e_frzS_tup e_nameOf_tup e_strip_ptr e_cok_ptr e_cellsA_ptr e_frzA_ptr e_frzS_ptr e_frz_ptr e_one_ptr e_bxOk_ptr e_strip_xp e_cok_xp e_cellsA_xp e_frzA_xp e_frzS_xp e_frz_xp e_one_xp e_bxOk_xp e_nameOf_xp e_strip_sl e_cok_sl e_cellsA_sl e_frzA_sl e_frz_sl e_one_sl e_bxOk_sl e_strip_isl e_cok_isl e_cellsA_isl e_frzA_isl e_frzS_isl e_frz_isl e_one_isl e_bxOk_isl e_nameOf_isl e_strip_nils e_cok_nils e_cellsA_nils e_frzA_nils e_frzS_nils e_frz_nils e_one_nils e_bxOk_nils e_nameOf_nils e_nmOk_nils e_ren_nils e_strip_cl e_cok_cl e_cellsA_cl e_frzA_cl e_frzS_cl e_frz_cl e_one_cl e_bxOk_cl e_nameOf_cl e_strip_mp e_cok_mp e_cellsA_mp e_frzA_mp e_frzS_mp e_frz_mp e_one_mp e_bxOk_mp e_strip_lit e_cok_lit e_cellsA_lit e_frzA_lit e_frzS_lit e_frz_lit e_nameOf_lit e_nmOk_lit e_ren_lit e_strip_any e_cok_any e_cellsA_any e_frzA_any e_frzS_any e_frz_any e_nameOf_any e_nmOk_any e_ren_any e_strip_cnd e_cok_cnd e_cellsA_agg e_frzS_sl e_frzA_agg e_frz_tup e_bxOk_agg e_one_nilp e_one_nilm e_nameOf_ptr e_nameOf_sl e_nameOf_mp e_nameOf_nil e_blkOf_eq e_blkO_some e_blkO_none e_asI_int e_asB_bool e_asS_str e_isI_int e_isN_int e_isB_bool e_isS_str e_ob_none e_ob_some e_cw_none e_cw_some e_gB_none e_gB_some e_gB1_bool e_gB1_cnd e_gOk_none e_gOk_some e_gOk1_bool e_gOk1_cnd e_wrS_int e_wrS_bool e_wrS_str e_wrS_ref e_okS_int e_okS_bool e_okS_str e_okS_ref e_wr_sc e_wr_ag e_wrOk_sc e_wrOk_ag e_putC_sc e_putC_ag e_stOkC_sc e_stOkC_ag e_stOk_ptr e_stOkB_cells e_ptrB_ptr e_ptrO_ptr e_cellsB_cells e_rv_t e_rv_cell e_rvC_ptr e_rvB_cells e_ren_nil0 e_rens_nil0 e_renB_nil0 e_rl_nil e_rl_cons e_ren_agg e_ren_tup e_ren_xp e_ren_isl e_ren_ptr e_ren_sl e_ren_mp e_ren_cl e_nmOk_agg e_nmOk_tup e_nmOk_xp e_nmOk_isl e_nmOk_cl e_nmOk_ptr e_nmOk_sl e_nmOk_mp e_rvOk_nil e_rvOk_t e_rvOk_cell e_rvOkC_ptr e_rvOkB_cells e_rvs_one e_rvs_two e_pureK_ret e_pureK_normal e_pureK_exit e_blockK_normal e_blockK_ret e_blockK_exit e_loopK_normal e_loopK_ret e_loopK_exit e_evT_t e_evT_c e_evT_gl e_evs_nil e_evs_cons e_cokP_pick e_cokP_mv e_cokP_not e_cokP_ar e_cokP_dv e_cokP_bt e_cokP_sh e_cokP_cm e_cokP_cB e_cokP_cS e_cokP_cat e_cokP_cv e_cokP_fld e_cokP_ixA e_cokP_ixS e_cokP_fadr e_cokP_iadrA e_cokP_iadrS e_cokP_ld e_cokP_lenS e_cokP_lenL e_cokP_lenM e_cokP_slS e_cokP_slL e_cokP_ext e_cokP_nilck e_cokP_bld e_cokP_mkf e_cokP_mn e_cokP_mx e_cokP_nilP e_cokP_b2s e_qv_mv e_qp_mv e_qv_not e_qp_not e_qv_pick e_qp_pick e_qv_ar e_qp_ar e_qv_dv e_qp_dv e_qv_bt e_qp_bt e_qv_sh e_qp_sh e_qv_cm e_qp_cm e_qv_cB e_qp_cB e_qv_cS e_qp_cS e_qv_cat e_qp_cat e_qv_cv e_qp_cv e_qv_fld e_qp_fld e_qv_ixA e_qp_ixA e_qv_ixS e_qp_ixS e_qv_fadr e_qp_fadr e_qv_fadrx e_qp_fadrx e_qv_iadrA e_qp_iadrA e_qv_iadrAx e_qp_iadrAx e_qv_iadrS e_qp_iadrS e_qv_iadrSx e_qp_iadrSx e_qv_ld e_qp_ld e_qv_ldx e_qp_ldx e_qv_lenS e_qp_lenS e_qv_lenLi e_qp_lenLi e_qv_lenLs e_qp_lenLs e_qv_lenLn e_qp_lenLn e_qv_lenM e_qp_lenM e_qv_slS e_qp_slS e_qv_slLi e_qp_slLi e_qv_slLs e_qv_slLn e_qp_slLs e_qv_ext e_qp_ext e_qv_nilck e_qp_nilck e_qv_nilckx e_qp_nilckx e_qv_bld e_qp_bld e_qv_mkf e_qp_mkf e_qv_mn e_qp_mn e_qv_mx e_qp_mx e_qv_nilPn e_qp_nilPn e_qv_nilPp e_qp_nilPp e_qv_nilPx e_qp_nilPx e_qv_b2sn e_qp_b2sn e_qv_b2si e_qp_b2si e_qv_b2ss e_qp_b2ss e_arI_add e_arI_sub e_arI_mul e_cmI_eql e_cmI_neq e_cmI_lss e_cmI_leq e_cmI_gtr e_cmI_geq e_dvI_quo e_dvI_rem e_shI_shl e_shI_shr e_loOf_no e_loOf_yes e_hiOf_no e_hiOf_one e_hiOf_two e_bdOk_nil e_bdOk_lo e_bdOk_hi e_bdOk_two e_bldC_int e_bldOk_int e_bldC_bool e_bldOk_bool e_bldC_str e_bldOk_str e_bldC_agg e_bldOk_agg e_bldC_ptr e_bldOk_ptr e_bldC_xp e_bldOk_xp e_bldC_sl e_bldOk_sl e_bldC_isl e_bldOk_isl e_bldC_nils e_bldOk_nils e_bldC_cl e_bldOk_cl e_bldC_mp e_bldOk_mp e_bldC_lit e_bldOk_lit e_bldC_nil e_bldOk_nil
/-! ### Rows of numbers -/
def ints (l : List Int) : List AV := l.map (.int .i64)
def bools (l : List Bool) : List AV := l.map .bool
def byts (l : List UInt8) : List AV := l.map fun (b : UInt8) => .int .u8 b.toNat
theorem ints_len (l : List Int) : (ints l).length = l.length := by simp [ints]
theorem bools_len (l : List Bool) : (bools l).length = l.length := by simp [bools]
theorem byts_len (l : List UInt8) : (byts l).length = l.length := by simp [byts]
theorem ints_get {l : List Int} {i : Nat} (h : i < l.length) : (ints l).getD i .any = .int .i64 (l.getD i 0) := by simp [ints, List.getD, h]
theorem bools_get {l : List Bool} {i : Nat} (h : i < l.length) : (bools l).getD i .any = .bool (l.getD i false) := by simp [bools, List.getD, h]
theorem byts_get {l : List UInt8} {i : Nat} (h : i < l.length) : (byts l).getD i .any = .int .u8 (l.getD i 0).toNat := by simp [byts, List.getD, h]
theorem ints_take (l : List Int) (n : Nat) : (ints l).take n = ints (l.take n) := by simp [ints, List.map_take]
theorem ints_drop (l : List Int) (n : Nat) : (ints l).drop n = ints (l.drop n) := by simp [ints, List.map_drop]
theorem byts_take (l : List UInt8) (n : Nat) : (byts l).take n = byts (l.take n) := by simp [byts, List.map_take]
theorem byts_drop (l : List UInt8) (n : Nat) : (byts l).drop n = byts (l.drop n) := by simp [byts, List.map_drop]
theorem bools_take (l : List Bool) (n : Nat) : (bools l).take n = bools (l.take n) := by simp [bools, List.map_take]
theorem bools_drop (l : List Bool) (n : Nat) : (bools l).drop n = bools (l.drop n) := by simp [bools, List.map_drop]
theorem ints_app (l m : List Int) : ints l ++ ints m = ints (l ++ m) := by simp [ints]
theorem byts_app (l m : List UInt8) : byts l ++ byts m = byts (l ++ m) := by simp [byts]
theorem take_getD {α : Type} {l : List α} {b j : Nat} {d : α} (h : j < b) : (l.take b).getD j d = l.getD j d := by simp only [List.getD, List.getElem?_take, if_pos h]
theorem drop_getD {α : Type} {l : List α} {a j : Nat} {d : α} : (l.drop a).getD j d = l.getD (a + j) d := by simp only [List.getD, List.getElem?_drop]
theorem getD_setD {α : Type} {l : List α} {i j : Nat} {v d : α} (h : i < l.length) : (l.set i v).getD j d = if i = j then v else l.getD j d := by
  simp only [List.getD, List.getElem?_set]
  split
  · next e => subst e; simp [h]
  · rfl
theorem take_all {α : Type} {l : List α} {n : Nat} (h : l.length ≤ n) : l.take n = l := List.take_of_length_le h
theorem getD_app_l {l r : List AV} {i : Nat} (h : i < l.length) : (l ++ r).getD i .any = l.getD i .any := by simp only [List.getD]; rw [List.getElem?_append_left h]
theorem set_app_l {l r : List AV} {i : Nat} {v : AV} (h : i < l.length) : (l ++ r).set i v = l.set i v ++ r := by rw [List.set_append, if_pos h]
theorem nm_take (n m : Nat) (l : List AV) (h : nmAll n l) : nmAll n (l.take m) := nmAll_iff.2 fun x hx => nmAll_iff.1 h x (List.mem_of_mem_take hx)
theorem nm_drop (n m : Nat) (l : List AV) (h : nmAll n l) : nmAll n (l.drop m) := nmAll_iff.2 fun x hx => nmAll_iff.1 h x (List.mem_of_mem_drop hx)
theorem imp_nf (b : Bool) : (b = false → (!b) = true) = True := by cases b <;> simp
theorem imp_nf' (b : Bool) : ((!b) = true → b = false) = True := by cases b <;> simp
theorem rens_ints (ρ : Nat → Nat) (l : List Int) : rens ρ (ints l) = ints l := by rw [rens_eq]; simp [ints, ren]
theorem rens_byts (ρ : Nat → Nat) (l : List UInt8) : rens ρ (byts l) = byts l := by rw [rens_eq]; simp [byts, ren]
theorem rens_bools (ρ : Nat → Nat) (l : List Bool) : rens ρ (bools l) = bools l := by rw [rens_eq]; simp [bools, ren]
theorem rens_app (ρ : Nat → Nat) (l m : List AV) : rens ρ (l ++ m) = rens ρ l ++ rens ρ m := by simp [rens_eq]
theorem ints_set (l : List Int) (i : Nat) (n : Int) : (ints l).set i (.int .i64 n) = ints (l.set i n) := by simp [ints, List.map_set]
theorem bools_set (l : List Bool) (i : Nat) (n : Bool) : (bools l).set i (.bool n) = bools (l.set i n) := by simp [bools, List.map_set]
theorem cut_get {l : List AV} {a b j : Nat} (h : j < b) : ((l.drop a).take b).getD j .any = l.getD (a + j) .any := by simp only [List.getD, List.getElem?_take, List.getElem?_drop, if_pos h]
theorem take_get {l : List AV} {b j : Nat} (h : j < b) : (l.take b).getD j .any = l.getD j .any := by simp only [List.getD, List.getElem?_take, if_pos h]
theorem drop_get {l : List AV} {a j : Nat} : (l.drop a).getD j .any = l.getD (a + j) .any := by simp only [List.getD, List.getElem?_drop]
theorem cut_len {l : List AV} {a b : Nat} (h : a + b ≤ l.length) : ((l.drop a).take b).length = b := by simp; omega
theorem take_len {l : List AV} {b : Nat} (h : b ≤ l.length) : (l.take b).length = b := by simp; omega
theorem splc_full {cs vs : List AV} (h : cs.length = vs.length) : splc cs 0 vs = vs := by unfold splc; simp [h]
theorem splc_nil (cs : List AV) (o : Nat) : splc cs o [] = cs := by unfold splc; simp
theorem splc_cons (c v : AV) (cs vs : List AV) : splc (c :: cs) 0 (v :: vs) = v :: splc cs 0 vs := by unfold splc; simp
theorem splc_succ (c : AV) (cs vs : List AV) (o : Nat) : splc (c :: cs) (o + 1) vs = c :: splc cs o vs := by unfold splc; simp [Nat.add_right_comm]
theorem splc_lenC {cs vs : List AV} {o : Nat} (h : o + vs.length ≤ cs.length) : (splc cs o vs).length = cs.length := by unfold splc; simp; omega
theorem nm_ints (n : Nat) (l : List Int) : nmAll n (ints l) = True := eq_true (nmAll_iff.2 fun x hx => by simp [ints] at hx; obtain ⟨a, _, rfl⟩ := hx; simp [nmOk])
theorem nm_bools (n : Nat) (l : List Bool) : nmAll n (bools l) = True := eq_true (nmAll_iff.2 fun x hx => by simp [bools] at hx; rcases hx with ⟨_, rfl⟩ | ⟨_, rfl⟩ <;> simp [nmOk])
theorem nm_byts (n : Nat) (l : List UInt8) : nmAll n (byts l) = True := eq_true (nmAll_iff.2 fun x hx => by simp [byts] at hx; obtain ⟨a, _, rfl⟩ := hx; simp [nmOk])
theorem nm_app (n : Nat) (l m : List AV) : nmAll n (l ++ m) = (nmAll n l ∧ nmAll n m) := by simp only [nmAll_iff, List.mem_append, eq_iff_iff]; exact ⟨fun h => ⟨fun x hx => h x (.inl hx), fun x hx => h x (.inr hx)⟩, fun h x hx => hx.elim (h.1 x) (h.2 x)⟩
theorem toB_byts (l : List UInt8) : toB (byts l) = l := by
  simp only [toB, byts, List.map_map]
  conv => rhs; rw [← List.map_id l]
  refine List.map_congr_left fun b _ => ?_
  simp [asI]
theorem byts_u8 (l : List UInt8) : ∀ v ∈ byts l, isI .u8 v := fun v hv => by simp [byts] at hv; obtain ⟨a, _, rfl⟩ := hv; simp [isI]
theorem all_byts (l : List UInt8) : (∀ v ∈ byts l, isI .u8 v) = True := eq_true (byts_u8 l)
theorem frz_ints (s : FS) (l : List Int) : (ints l).map (frzS s) = ints l := by simp [ints, frzS]
theorem frz_bools (s : FS) (l : List Bool) : (bools l).map (frzS s) = bools l := by simp [bools, frzS]
theorem wrap_i64 {n : Int} (h0 : -9223372036854775808 ≤ n) (h1 : n < 9223372036854775808) : IntKind.i64.wrap n = n := by rw [IntKind.wrap_i64]; omega
theorem wrap_u32 {n : Int} (h0 : 0 ≤ n) (h1 : n < 4294967296) : IntKind.u32.wrap n = n := by rw [IntKind.wrap_u32]; omega
theorem wrap_u8 {n : Int} (h0 : 0 ≤ n) (h1 : n < 256) : IntKind.u8.wrap n = n := by rw [IntKind.wrap_u8]; omega
theorem wrap_u64 {n : Int} (h0 : 0 ≤ n) (h1 : n < 18446744073709551616) : IntKind.u64.wrap n = n := by simp [IntKind.wrap, IntKind.bits, IntKind.signed]; omega
theorem cast0 : ((0 : Nat) : Int) = 0 := rfl
theorem castn (n : Nat) : ((no_index (OfNat.ofNat n) : Nat) : Int) = OfNat.ofNat n := rfl
theorem cast_succ (k : Nat) : ((k : Int) + 1) = ((k + 1 : Nat) : Int) := by omega
/-- A test, taken. -/
theorem xw_if {P : Program} {c : Cx} {Q : EX → St → Prop} {s : St} {x : TV} {a b : TC} {t : Bool} (h : evT c.gl s.fs x = .bool t) (ht : t = true → xw P c a Q s) (hf : t = false → xw P c b Q s) : xw P c (.cond x a b) Q s := by
  rw [xw_cond, h]
  exact ⟨trivial, ht, hf⟩
attribute [go_sem] ints_len bools_len byts_len ints_get bools_get byts_get ints_take ints_drop byts_take byts_drop bools_take bools_drop take_getD drop_getD getD_app_l set_app_l take_all imp_nf imp_nf' rens_ints rens_byts rens_bools rens_app List.take_take Nat.min_self Nat.mul_one Nat.one_mul ints_set bools_set cut_get take_get drop_get cut_len take_len splc_full splc_nil splc_cons splc_succ splc_lenC nm_ints nm_bools nm_byts nm_app toB_byts all_byts frz_ints frz_bools wrap_i64 wrap_u32 wrap_u8 wrap_u64 Int.toNat_natCast cast0 castn AV.int.injEq AV.bool.injEq AV.str.injEq AV.agg.injEq AV.tup.injEq AV.isl.injEq AV.sl.injEq AV.ptr.injEq AV.xp.injEq Bk.cells.injEq
end Go.Proofs.YtogckmommodmhaaGreatDoor

/-! Operations that turn nothing: what they yield; equality of rows of plain cells. No conditions but the ones that stand in each. -/
namespace Go.Proofs.YtogckmommodmhaaGreatDoor
set_option linter.all false
set_option linter.unusedSimpArgs false
open Go.RowKit

section
variable {P : Program}

/-- A pending operation that turns nothing: what it yields. -/
def QRun (P : Program) (c : Cx) (k : PK) (vs : List AV) (r : AV) : Prop :=
  ∀ (o : Oper) (ys : List Operand), elabPK P o = some (k, ys) → ∀ (g : Nat → GM) (W : Nat → Prop) (a : Act) (w : World), (∀ i, W i → i < w.heap.size) → (∀ i, VR (fun _ => .un) W w (c.gl i) (.pointer (some ⟨i, 0, none⟩))) → VRs g W w vs (ys.map a.eval) →
    ∀ (K : Act → World → Prop) (Q : Exit → Act → World → Prop), (∀ v w', Fr w w' (fun _ => False) → VR g W w' r v → K (a.put o.dst v) w') → o.wp P a w K Q

theorem qrun_AOkT {c : Cx} {s : St} {d : Option Nat} {k : PK} {xs : List TV} {gd : Option (Nat × Bool)} {args : List AV} {r : AV} (hok : callOk c.gl s.fs xs gd) (hargs : (evs c.gl s.fs xs).map strip = args)
    (hq : ob (gB s.fs gd) (QRun P c k args r)) : AOkT P c (.pd d k xs gd) s.fs (callFoot d xs gd) (s.putO d (cw (gB s.fs gd) r)).fs := by
  intro ops io he
  obtain ⟨hgd, hdst, hd, ys, hel, rfl⟩ := elab_pd he
  have hput : (s.putO d (cw (gB s.fs gd) r)).fs = match d with | some d => s.fs.put d (cw (gB s.fs gd) r) | none => s.fs := by
    cases d with
    | none => rfl
    | some d => exact St.fs_put _ _ _
  rw [hput]
  refine ⟨fun i hi => ?_, fun b _ => by cases d <;> rfl, ?_⟩
  · cases d with
    | none => rfl
    | some d => show (s.fs.put d _).T i = _; rw [FS.T_put, if_neg (fun e => hi (by simp [callFoot, e]))]
  · intro s2 hT hH g a w hR K Q' hK
    have hevs : evs c.gl s2 (ys.map tvO) = evs c.gl s.fs (ys.map tvO) := evs_congr fun i hi => hT i (by simp [callFoot, hi])
    have hg : ∀ t b, gd = some (t, b) → s2.T t = s.fs.T t := fun t b e => hT t (by simp [callFoot, e, gdT])
    have hgB : gB s2 gd = gB s.fs gd := by
      cases gd with
      | none => rfl
      | some p => obtain ⟨t, b⟩ := p; simp only [gB, hg t b rfl]
    have hgO : gOk s2 gd := by
      have := hok.1
      cases gd with
      | none => exact this
      | some p => obtain ⟨t, b⟩ := p; simpa only [gOk, hg t b rfl] using this
    have hK' : ∀ v w', Fr w w' (fun _ => False) → VR g (wset c g s2) w' (cw (gB s.fs gd) r) v → K (a.put io.dst v) w' := fun v w' hf hv => by
      rw [hdst]
      have hR' := hR.grow hf
      cases d with
      | none =>
        refine hK g _ w' ?_
        have : ovr s2 s.fs (callFoot none (ys.map tvO) gd) = s2 := by unfold ovr callFoot; simp
        simp only [this]; exact hR'
      | some d =>
        refine hK g _ w' ?_
        show R c g (ovr s2 (s.fs.put d _) ⟨gdT gd ++ tmpsOf (ys.map tvO), [], [d], []⟩) _ _
        rw [ovr_put]
        exact hR'.put (by simpa using hd) hv
    unfold Exec1
    rw [guard_ok hgd hR hgO, hgB]
    have run : (∀ b, gB s.fs gd = some b → b = true) → io.wp P a w K Q' := by
      intro hb
      have hc1 : cokAll none (evs c.gl s2 (ys.map tvO)) := by
        rw [hevs]
        have := hok.2
        cases hgb : gB s.fs gd with
        | none => rw [hgb] at this; exact this
        | some b => rw [hgb] at this; exact cokAll_mono (hb b hgb) this
      have hq' : QRun P c k args r := by
        cases hgb : gB s.fs gd with
        | none => rw [hgb] at hq; exact hq
        | some b => rw [hgb] at hq; exact hq (hb b hgb)
      have hv := VRs_strip (hR.evs ys) hc1
      rw [hevs, hargs] at hv
      have hX : ∀ k, wset c g s2 k → k < w.heap.size := by
        rintro k (h | ⟨b', hl, hg'⟩)
        · have := (hR.xs k h).1; have := hR.fr.size; omega
        · exact BR.lt (hg' ▸ hR.h b') hl
      refine hq' io ys hel g _ a w hX (fun i => (hR.gl i)) hv K Q' fun v w' hf hv2 => ?_
      refine hK' v w' hf ?_
      cases hgb : gB s.fs gd with
      | none => exact hv2
      | some b => exact .cnd (fun _ => hv2) fun h => by rw [hb b hgb] at h; cases h
    cases hgb : gB s.fs gd with
    | none => simp only [Option.getD_none, if_true]; exact run fun b h => by rw [hgb] at h; cases h
    | some b =>
      cases b with
      | true => simp only [Option.getD_some, if_true]; exact run fun b h => by rw [hgb] at h; cases h; rfl
      | false =>
        simp only [Option.getD_some, Bool.false_eq_true, if_false]
        refine hK' undef w (Fr.refl _ _) ?_
        rw [hgb]
        exact .cnd (fun h => by cases h) fun _ => rfl
theorem pr_qrun {c : Cx} {r0 : List TOp} {K : St → Prop} {s : St} {d : Option Nat} {k : PK} {xs : List TV} {gd : Option (Nat × Bool)} {args : List AV} {r : AV} (hq : ob (gB s.fs gd) (QRun P c k args r)) (hargs : (evs c.gl s.fs xs).map strip = args)
    (hok : callOk c.gl s.fs xs gd ∧ XP P c r0 K (s.putO d (cw (gB s.fs gd) r))) : PendR P c (.pd d k xs gd) r0 K s :=
  .inl ⟨_, _, qrun_AOkT hok.1 hargs hq, hok.2⟩
theorem prD_qrun {c : Cx} {anc : List Nat} {fs : List Foot} {r0 : List TOp} {K : St → Prop} {s : St} {d : Option Nat} {k : PK} {xs : List TV} {gd : Option (Nat × Bool)} {args : List AV} {r : AV} (hq : ob (gB s.fs gd) (QRun P c k args r)) (hargs : (evs c.gl s.fs xs).map strip = args)
    (hok : callOk c.gl s.fs xs gd ∧ XD P c anc r0 (callFoot d xs gd :: fs) K (s.putO d (cw (gB s.fs gd) r))) : PendDR P c anc (.pd d k xs gd) r0 fs K s :=
  ⟨_, _, qrun_AOkT hok.1 hargs hq, hok.2⟩

theorem ob_of {o : Option Bool} {p : Prop} (h : p) : ob o p := by cases o <;> first | exact h | exact fun _ => h
theorem pr_psu {c : Cx} {r0 : List TOp} {K : St → Prop} {s : St} {d : Option Nat} {f : FuncId} {xs : List TV} {gd : Option (Nat × Bool)} {args : List AV} {r : AV} (hps : PS P c.gl f args r) (hargs : (evs c.gl s.fs xs).map strip = args)
    (hok : callOk c.gl s.fs xs gd ∧ nmAll 0 args ∧ XP P c r0 K (s.putO d (cw (gB s.fs gd) r))) : PendR P c (.pd d (.call f) xs gd) r0 K s := pr_ps (ob_of hps) hargs hok
theorem prD_psu {c : Cx} {anc : List Nat} {fs : List Foot} {r0 : List TOp} {K : St → Prop} {s : St} {d : Option Nat} {f : FuncId} {xs : List TV} {gd : Option (Nat × Bool)} {args : List AV} {r : AV} (hps : PS P c.gl f args r) (hargs : (evs c.gl s.fs xs).map strip = args)
    (hok : callOk c.gl s.fs xs gd ∧ nmAll 0 args ∧ XD P c anc r0 (callFoot d xs gd :: fs) K (s.putO d (cw (gB s.fs gd) r))) : PendDR P c anc (.pd d (.call f) xs gd) r0 fs K s := prD_ps (ob_of hps) hargs hok
theorem pr_qrunu {c : Cx} {r0 : List TOp} {K : St → Prop} {s : St} {d : Option Nat} {k : PK} {xs : List TV} {gd : Option (Nat × Bool)} {args : List AV} {r : AV} (hq : QRun P c k args r) (hargs : (evs c.gl s.fs xs).map strip = args)
    (hok : callOk c.gl s.fs xs gd ∧ XP P c r0 K (s.putO d (cw (gB s.fs gd) r))) : PendR P c (.pd d k xs gd) r0 K s := pr_qrun (ob_of hq) hargs hok
theorem prD_qrunu {c : Cx} {anc : List Nat} {fs : List Foot} {r0 : List TOp} {K : St → Prop} {s : St} {d : Option Nat} {k : PK} {xs : List TV} {gd : Option (Nat × Bool)} {args : List AV} {r : AV} (hq : QRun P c k args r) (hargs : (evs c.gl s.fs xs).map strip = args)
    (hok : callOk c.gl s.fs xs gd ∧ XD P c anc r0 (callFoot d xs gd :: fs) K (s.putO d (cw (gB s.fs gd) r))) : PendDR P c anc (.pd d k xs gd) r0 fs K s := prD_qrun (ob_of hq) hargs hok

theorem pr_psv {c : Cx} {r0 : List TOp} {K : St → Prop} {s : St} {d : Option Nat} {f : FuncId} {xs : List TV} {gd : Option (Nat × Bool)} {args : List AV} {r : AV} (hargs : (evs c.gl s.fs xs).map strip = args) (hps : PS P c.gl f args r)
    (hok : callOk c.gl s.fs xs gd ∧ nmAll 0 args ∧ XP P c r0 K (s.putO d (cw (gB s.fs gd) r))) : PendR P c (.pd d (.call f) xs gd) r0 K s := pr_ps (ob_of hps) hargs hok
theorem prD_psv {c : Cx} {anc : List Nat} {fs : List Foot} {r0 : List TOp} {K : St → Prop} {s : St} {d : Option Nat} {f : FuncId} {xs : List TV} {gd : Option (Nat × Bool)} {args : List AV} {r : AV} (hargs : (evs c.gl s.fs xs).map strip = args) (hps : PS P c.gl f args r)
    (hok : callOk c.gl s.fs xs gd ∧ nmAll 0 args ∧ XD P c anc r0 (callFoot d xs gd :: fs) K (s.putO d (cw (gB s.fs gd) r))) : PendDR P c anc (.pd d (.call f) xs gd) r0 fs K s := prD_ps (ob_of hps) hargs hok
theorem pr_qrunv {c : Cx} {r0 : List TOp} {K : St → Prop} {s : St} {d : Option Nat} {k : PK} {xs : List TV} {gd : Option (Nat × Bool)} {args : List AV} {r : AV} (hargs : (evs c.gl s.fs xs).map strip = args) (hq : QRun P c k args r)
    (hok : callOk c.gl s.fs xs gd ∧ XP P c r0 K (s.putO d (cw (gB s.fs gd) r))) : PendR P c (.pd d k xs gd) r0 K s := pr_qrun (ob_of hq) hargs hok
theorem prD_qrunv {c : Cx} {anc : List Nat} {fs : List Foot} {r0 : List TOp} {K : St → Prop} {s : St} {d : Option Nat} {k : PK} {xs : List TV} {gd : Option (Nat × Bool)} {args : List AV} {r : AV} (hargs : (evs c.gl s.fs xs).map strip = args) (hq : QRun P c k args r)
    (hok : callOk c.gl s.fs xs gd ∧ XD P c anc r0 (callFoot d xs gd :: fs) K (s.putO d (cw (gB s.fs gd) r))) : PendDR P c anc (.pd d k xs gd) r0 fs K s := prD_qrun (ob_of hq) hargs hok

/-! ### Equality of rows of plain cells -/
def eqShF (rec : TypeId → Option (List SK)) (P : Program) : Nat → List Field → Option (List SK)
  | _, [] => some []
  | o, f :: fs => if f.name = "_" ∨ f.offset ≠ o ∨ (P.info? f.type).isNone then none else (rec f.type).bind fun ks => if P.cellsOf f.type = ks.length then (eqShF rec P (o + ks.length) fs).map (ks ++ ·) else none
/-- The kinds of the cells of a type that is compared cell by cell. -/
def eqSh (P : Program) : Nat → TypeId → Option (List SK)
  | 0, _ => none
  | d + 1, t => match P.underlying t with
    | some .bool => some [.bool]
    | some (.int k) => some [.int k]
    | some .string => some [.str]
    | some (.struct fs) => if P.stoodInHeld t then none else eqShF (eqSh P d) P 0 fs.toList
    | some (.array n e) => if (P.info? e).isNone then none else (eqSh P d e).bind fun ks => if P.cellsOf e = ks.length then some (List.replicate n ks).flatten else none
    | _ => none

def cellEq : SK → Value → Value → Bool
  | .int _, .int _ a, .int _ b => a == b
  | .bool, .bool a, .bool b => a == b
  | .str, .string a, .string b => a.toList == b.toList
  | _, _, _ => true
def cellOk : SK → Value → Prop
  | .int k, v => ∃ n, v = .int k n
  | .bool, v => ∃ b, v = .bool b
  | .str, v => ∃ b, v = .string b
  | .ref, _ => False
def rowEq : List SK → List Value → List Value → Bool
  | k :: ks, u :: us, v :: vs => cellEq k u v && rowEq ks us vs
  | _, _, _ => true
def rowOk : List SK → List Value → Prop
  | k :: ks, u :: us => cellOk k u ∧ rowOk ks us
  | [], _ => True
  | _ :: _, [] => False
theorem rowOk_app : ∀ (ks ls : List SK) (us : List Value), rowOk (ks ++ ls) us → rowOk ks us ∧ rowOk ls (us.drop ks.length)
  | [], _, us, h => ⟨by cases us <;> trivial, by simpa using h⟩
  | _ :: ks, ls, [], h => h.elim
  | _ :: ks, ls, _ :: us, h => ⟨⟨h.1, (rowOk_app ks ls us h.2).1⟩, by simpa using (rowOk_app ks ls us h.2).2⟩
theorem rowOk_len : ∀ (ks : List SK) (us : List Value), rowOk ks us → ks.length ≤ us.length
  | [], _, _ => by simp
  | _ :: _, [], h => h.elim
  | _ :: ks, _ :: us, h => by have := rowOk_len ks us h.2; simp; omega
theorem rowEq_app : ∀ (ks ls : List SK) (us vs : List Value), ks.length ≤ us.length → ks.length ≤ vs.length → rowEq (ks ++ ls) us vs = (rowEq ks us vs && rowEq ls (us.drop ks.length) (vs.drop ks.length))
  | [], _, _, _, _, _ => by simp [rowEq]
  | _ :: _, _, [], _, h, _ => by simp at h
  | _ :: _, _, _ :: _, [], _, h => by simp at h
  | k :: ks, ls, u :: us, v :: vs, h1, h2 => by
    simp only [List.length_cons] at h1 h2
    simp [rowEq, rowEq_app ks ls us vs (by omega) (by omega), Bool.and_assoc]
theorem rowOk_take : ∀ (ks : List SK) (us : List Value), rowOk ks us → rowOk ks (us.take ks.length)
  | [], us, _ => by cases us <;> trivial
  | _ :: _, [], h => h.elim
  | k :: ks, u :: us, h => ⟨h.1, rowOk_take ks us h.2⟩
theorem rowEq_take : ∀ (ks : List SK) (us vs : List Value), rowEq ks (us.take ks.length) (vs.take ks.length) = rowEq ks us vs
  | [], _, _ => by simp [rowEq]
  | _ :: _, [], _ => by simp [rowEq]
  | _ :: _, _ :: _, [] => by simp [rowEq]
  | k :: ks, u :: us, v :: vs => by simp [rowEq, rowEq_take ks us vs]

def holdsT (P : Program) (t : TypeId) (x : Value) (us : List Value) : Prop :=
  match P.underlying t with
  | some (.struct _) => x = .agg us.toArray
  | some (.array _ _) => x = .agg us.toArray
  | _ => us = [x]

theorem run_part_sh (w : World) {m : Nat} {e : TypeId} {ks : List SK} (h : eqSh P m e = some ks) (hi : (P.info? e).isSome) (hc : P.cellsOf e = ks.length) {xs : Array Value} {o : Nat} (hr : rowOk ks (xs.toList.drop o)) :
    ∃ a, (part e xs o).run P w = .ok a w ∧ holdsT P e a ((xs.toList.drop o).take ks.length) := by
  obtain ⟨i, hi⟩ := Option.isSome_iff_exists.1 hi
  cases m with
  | zero => cases h
  | succ m =>
    have one : ∀ k, ks = [k] → ∃ v, xs[o]? = some v ∧ (xs.toList.drop o).take ks.length = [v] := by
      rintro k rfl
      have hl := rowOk_len _ _ hr
      cases hd : xs.toList.drop o with
      | nil => rw [hd] at hl; simp at hl
      | cons v r =>
        refine ⟨v, ?_, by simp⟩
        have : (xs.toList.drop o)[0]? = some v := by rw [hd]; rfl
        simpa using this
    have agg : (xs.extract o (o + P.cellsOf e)).toList = (xs.toList.drop o).take ks.length := by
      rw [Array.toList_extract, hc]; simp [List.extract]
    unfold eqSh at h
    cases hu : P.underlying e with
    | none => simp [hu] at h
    | some kd =>
      rw [hu] at h
      cases kd <;> simp at h
      case bool => obtain ⟨v, h1, h2⟩ := one _ h.symm; exact ⟨v, by simp [part, isAgg, run_underlying hu, h1], by simp only [holdsT, hu]; exact h2⟩
      case int k => obtain ⟨v, h1, h2⟩ := one _ h.symm; exact ⟨v, by simp [part, isAgg, run_underlying hu, h1], by simp only [holdsT, hu]; exact h2⟩
      case string => obtain ⟨v, h1, h2⟩ := one _ h.symm; exact ⟨v, by simp [part, isAgg, run_underlying hu, h1], by simp only [holdsT, hu]; exact h2⟩
      case struct fs => exact ⟨.agg (xs.extract o (o + P.cellsOf e)), by simp [part, isAgg, run_underlying hu, run_sizeOf w hi], by simp only [holdsT, hu]; rw [← agg]⟩
      case array n e' => exact ⟨.agg (xs.extract o (o + P.cellsOf e)), by simp [part, isAgg, run_underlying hu, run_sizeOf w hi], by simp only [holdsT, hu]; rw [← agg]⟩

theorem isSome_of {α : Type} {x : Option α} (h : ¬ x.isNone = true) : x.isSome = true := by cases x <;> simp_all
def EqShAt (P : Program) (D : Nat) (t : TypeId) (ks : List SK) : Prop :=
  ∀ (w : World) (x y : Value) (us vs : List Value), holdsT P t x us → holdsT P t y vs → us.length = ks.length → vs.length = ks.length → rowOk ks us → rowOk ks vs → (Op.equalIn D t x y).run P w = .ok (rowEq ks us vs) w

theorem run_eqFields_sh {m D : Nat} (IH : ∀ t ks, eqSh P m t = some ks → EqShAt P D t ks) : ∀ (fs : List Field) (o : Nat) (ks : List SK), eqShF (eqSh P m) P o fs = some ks → ∀ (w : World) (xs ys : Array Value), rowOk ks (xs.toList.drop o) → rowOk ks (ys.toList.drop o) →
    (Op.eqFields D xs ys fs).run P w = .ok (rowEq ks (xs.toList.drop o) (ys.toList.drop o)) w
  | [], o, ks, h, w, xs, ys, _, _ => by cases h; simp [Op.eqFields, rowEq]
  | f :: fs, o, ks, h, w, xs, ys, hx, hy => by
    unfold eqShF at h
    split at h
    · cases h
    · rename_i hn
      simp only [not_or, Decidable.not_not] at hn
      obtain ⟨hname, hoff, hinfo'⟩ := hn
      have hinfo := isSome_of hinfo'
      simp only [Option.bind_eq_some_iff] at h
      obtain ⟨k1, h1, h2⟩ := h
      split at h2
      · rename_i hc
        simp only [Option.map_eq_some_iff] at h2
        obtain ⟨k2, h2, rfl⟩ := h2
        obtain ⟨x1, x2⟩ := rowOk_app _ _ _ hx
        obtain ⟨y1, y2⟩ := rowOk_app _ _ _ hy
        obtain ⟨a, pa, ha⟩ := run_part_sh w h1 hinfo hc x1
        obtain ⟨b, pb, hb⟩ := run_part_sh w h1 hinfo hc y1
        have lx := rowOk_len _ _ x1
        have ly := rowOk_len _ _ y1
        have hr := IH _ _ h1 w a b _ _ ha hb (by rw [List.length_take]; omega) (by rw [List.length_take]; omega) (rowOk_take _ _ x1) (rowOk_take _ _ y1)
        rw [rowEq_take] at hr
        rw [List.drop_drop] at x2 y2
        have ih := run_eqFields_sh IH fs (o + k1.length) k2 h2 w xs ys x2 y2
        rw [rowEq_app _ _ _ _ lx ly, List.drop_drop, List.drop_drop]
        simp only [Op.eqFields, hname, ne_eq, not_false_eq_true, if_true, Sem.run_bind, hoff, pa, pb, hr, Result.andThen_ok]
        cases hq : rowEq k1 (xs.toList.drop o) (ys.toList.drop o) with
        | false => simp
        | true => simpa using ih
      · cases h2

theorem run_eqItems_sh {m D : Nat} {e : TypeId} {ks : List SK} (he : eqSh P m e = some ks) (hi : (P.info? e).isSome) (hc : P.cellsOf e = ks.length) (IH : EqShAt P D e ks) (xs ys : Array Value) : ∀ (n i : Nat) (w : World), rowOk (List.replicate n ks).flatten (xs.toList.drop (i * ks.length)) → rowOk (List.replicate n ks).flatten (ys.toList.drop (i * ks.length)) →
    (Op.eqItems D e (P.cellsOf e) xs ys (List.range' i n)).run P w = .ok (rowEq (List.replicate n ks).flatten (xs.toList.drop (i * ks.length)) (ys.toList.drop (i * ks.length))) w
  | 0, i, w, _, _ => by simp [Op.eqItems, rowEq]
  | n + 1, i, w, hx, hy => by
    rw [List.replicate_succ, List.flatten_cons] at hx hy ⊢
    obtain ⟨x1, x2⟩ := rowOk_app _ _ _ hx
    obtain ⟨y1, y2⟩ := rowOk_app _ _ _ hy
    obtain ⟨a, pa, ha⟩ := run_part_sh w he hi hc x1
    obtain ⟨b, pb, hb⟩ := run_part_sh w he hi hc y1
    have lx := rowOk_len _ _ x1
    have ly := rowOk_len _ _ y1
    have hr := IH w a b _ _ ha hb (by rw [List.length_take]; omega) (by rw [List.length_take]; omega) (rowOk_take _ _ x1) (rowOk_take _ _ y1)
    rw [rowEq_take] at hr
    have e1 : i * ks.length + ks.length = (i + 1) * ks.length := by rw [Nat.add_mul, Nat.one_mul]
    rw [List.drop_drop, e1] at x2 y2
    have ih := run_eqItems_sh he hi hc IH xs ys n (i + 1) w x2 y2
    rw [rowEq_app _ _ _ _ lx ly, List.drop_drop, List.drop_drop, e1]
    rw [List.range'_succ]
    simp only [Op.eqItems, Sem.run_bind, hc, pa, pb, hr, Result.andThen_ok]
    cases hq : rowEq ks (xs.toList.drop (i * ks.length)) (ys.toList.drop (i * ks.length)) with
    | false => simp
    | true => rw [hc] at ih; simpa using ih

theorem run_eqSh (d : Nat) : ∀ (m : Nat) (t : TypeId) (ks : List SK), eqSh P m t = some ks → EqShAt P (d + m) t ks
  | 0, _, _, h => by cases h
  | m + 1, t, ks, h => by
    intro w x y us vs hx hy lu lv ou ov
    unfold eqSh at h
    cases hu : P.underlying t with
    | none => simp [hu] at h
    | some kd =>
      rw [hu] at h
      simp only [holdsT, hu] at hx hy
      cases kd <;> simp only [Option.some.injEq, reduceCtorEq] at h hx hy
      case bool =>
        subst h hx hy
        obtain ⟨⟨a, rfl⟩, _⟩ := ou
        obtain ⟨⟨b, rfl⟩, _⟩ := ov
        rw [← Nat.add_assoc, run_equalIn_bool' w _ t a b hu]
        simp [rowEq, cellEq]
      case int k =>
        subst h hx hy
        obtain ⟨⟨a, rfl⟩, _⟩ := ou
        obtain ⟨⟨b, rfl⟩, _⟩ := ov
        rw [← Nat.add_assoc, run_equalIn_int w _ t k k a b hu]
        simp [rowEq, cellEq]
      case string =>
        subst h hx hy
        obtain ⟨⟨a, rfl⟩, _⟩ := ou
        obtain ⟨⟨b, rfl⟩, _⟩ := ov
        rw [← Nat.add_assoc, run_equalIn_string w _ t a b hu]
        simp [rowEq, cellEq]
      case struct fs =>
        subst hx hy
        split at h
        · cases h
        · rename_i hp
          have hfs : P.fieldsOf t = fs := by simp [Program.fieldsOf, hu]
          rw [← Nat.add_assoc, run_equalIn_struct w (d + m) t _ _ (by rw [hfs]; exact hu) (by simpa using hp), hfs]
          have := run_eqFields_sh (run_eqSh d m) fs.toList 0 ks h w us.toArray vs.toArray (by simpa using ou) (by simpa using ov)
          simpa using this
      case array n e =>
        subst hx hy
        split at h
        · cases h
        · rename_i hi
          replace hi := isSome_of hi
          obtain ⟨i, hi'⟩ := Option.isSome_iff_exists.1 hi
          simp only [Option.bind_eq_some_iff] at h
          obtain ⟨k1, h1, h2⟩ := h
          split at h2
          · rename_i hc
            cases h2
            rw [← Nat.add_assoc, run_equalIn_array w (d + m) _ _ hu hi', List.range_eq_range']
            have := run_eqItems_sh h1 hi hc (run_eqSh d m e k1 h1) us.toArray vs.toArray n 0 w (by simpa using ou) (by simpa using ov)
            simpa using this
          · cases h2

/-! ### As abstract values have it -/
def kindA : AV → Option SK
  | .int k _ => some (.int k)
  | .bool _ => some .bool
  | .str _ => some .str
  | _ => none
theorem rowOk_of {g : Nat → GM} {W : Nat → Prop} {w : World} : ∀ (ks : List SK) (cs : List AV) (us : List Value), cs.map kindA = ks.map some → us.length = cs.length → (∀ j, j < cs.length → VR g W w (cs.getD j .any) (us.getD j undef)) → rowOk ks us
  | [], _, us, _, _, _ => by cases us <;> trivial
  | _ :: _, [], _, h, _, _ => by simp at h
  | _ :: _, _ :: _, [], _, h, _ => by simp at h
  | k :: ks, x :: cs, u :: us, h, hl, hv => by
    simp only [List.map_cons, List.cons.injEq] at h
    have h0 := hv 0 (by simp)
    simp only [List.getD_cons_zero] at h0
    refine ⟨?_, rowOk_of ks cs us h.2 (by simpa using hl) fun j hj => by simpa using hv (j + 1) (by simp; omega)⟩
    have hk := h.1
    cases x <;> simp [kindA] at hk <;> subst hk <;> cases h0 <;> exact ⟨_, rfl⟩
theorem rowEq_of {g : Nat → GM} {W : Nat → Prop} {w : World} : ∀ (ks : List SK) (cs ds : List AV) (us vs : List Value), cs.map kindA = ks.map some → ds.map kindA = ks.map some → us.length = cs.length → vs.length = ds.length → (∀ j, j < cs.length → VR g W w (cs.getD j .any) (us.getD j undef)) → (∀ j, j < ds.length → VR g W w (ds.getD j .any) (vs.getD j undef)) →
    (rowEq ks us vs = true ↔ cs = ds)
  | [], [], [], _, _, _, _, _, _, _, _ => by simp [rowEq]
  | [], [], _ :: _, _, _, _, h, _, _, _, _ => by simp at h
  | [], _ :: _, _, _, _, h, _, _, _, _, _ => by simp at h
  | _ :: _, [], _, _, _, h, _, _, _, _, _ => by simp at h
  | _ :: _, _ :: _, [], _, _, _, h, _, _, _, _ => by simp at h
  | _ :: _, _ :: _, _ :: _, [], _, _, _, h, _, _, _ => by simp at h
  | _ :: _, _ :: _, _ :: _, _ :: _, [], _, _, _, h, _, _ => by simp at h
  | k :: ks, x :: cs, y :: ds, u :: us, v :: vs, hc, hd, lu, lv, hu, hv => by
    simp only [List.map_cons, List.cons.injEq] at hc hd
    have h0 := hu 0 (by simp)
    have h1 := hv 0 (by simp)
    simp only [List.getD_cons_zero] at h0 h1
    have ih := rowEq_of ks cs ds us vs hc.2 hd.2 (by simpa using lu) (by simpa using lv) (fun j hj => by simpa using hu (j + 1) (by simp; omega)) (fun j hj => by simpa using hv (j + 1) (by simp; omega))
    simp only [rowEq, Bool.and_eq_true, ih, List.cons.injEq]
    refine and_congr_left fun _ => ?_
    have k1 := hc.1
    have k2 := hd.1
    cases x <;> simp [kindA] at k1 <;> subst k1 <;> cases y <;> simp [kindA] at k2 <;> cases h0 <;> cases h1 <;> simp_all [cellEq, ByteArray.toList_eq]

theorem elab_cA {o : Oper} {ne : Bool} {t : TypeId} {xs : List Operand} (h : elabPK P o = some (.cA ne t, xs)) : ∃ x y u, o.op = .binOp (bif ne then .neq else .eql) t x y u ∧ xs = [x, y] := by
  unfold elabPK at h
  repeat' split at h
  all_goals first
    | (simp only [Option.some.injEq, Prod.mk.injEq, PK.cA.injEq] at h; obtain ⟨⟨rfl, rfl⟩, rfl⟩ := h; rename_i hop; exact ⟨_, _, _, by rw [hop]; rfl, rfl⟩)
    | (simp at h; done)
    | (cases h; done)
    | (simp [Option.map_eq_some_iff] at h; done)

/-- '==' and '!=' of two rows of plain cells. -/
theorem cA_run {c : Cx} {ne : Bool} {t : TypeId} {ks : List SK} {cs ds : List AV} {b : Bool} (hs : eqSh P 100 t = some ks) (hk : (match P.underlying t with | some (.struct _) => true | some (.array _ _) => true | _ => false) = true) (hm : P.eqGuardType P.depth t = false)
    (hc : cs.map kindA = ks.map some) (hd : ds.map kindA = ks.map some) (hb : b = true ↔ cs = ds) : QRun P c (.cA ne t) [.agg cs, .agg ds] (.bool (ne != b)) := by
  intro o ys hel g W a w _ _ hv K Q hK
  obtain ⟨x, y, u, hop, rfl⟩ := elab_cA hel
  obtain ⟨hx, hy, _⟩ := hv
  obtain ⟨xs, ex, lx, _, vx⟩ := agg_inv hx
  obtain ⟨zs, ey, ly, _, vy⟩ := agg_inv hy
  have lx' : xs.toList.length = cs.length := by simpa using lx
  have ly' : zs.toList.length = ds.length := by simpa using ly
  have gx : ∀ j, xs.toList.getD j undef = xs.getD j undef := fun j => by simp [Array.getD_eq_getD_getElem?, List.getD]
  have gy : ∀ j, zs.toList.getD j undef = zs.getD j undef := fun j => by simp [Array.getD_eq_getD_getElem?, List.getD]
  have vx' : ∀ j, j < cs.length → VR g W w (cs.getD j .any) (xs.toList.getD j undef) := fun j hj => by rw [gx]; exact vx j hj
  have vy' : ∀ j, j < ds.length → VR g W w (ds.getD j .any) (zs.toList.getD j undef) := fun j hj => by rw [gy]; exact vy j hj
  have kl : cs.length = ks.length := by simpa using congrArg List.length hc
  have kl' : ds.length = ks.length := by simpa using congrArg List.length hd
  have hold : ∀ z : Array Value, holdsT P t (.agg z) z.toList := fun z => by
    unfold holdsT
    split at hk <;> simp_all
  have hr := run_eqSh (P := P) 9900 100 t ks hs w _ _ _ _ (hold xs) (hold zs) (by omega) (by omega) (rowOk_of ks cs _ hc lx' vx') (rowOk_of ks ds _ hd ly' vy')
  have he : rowEq ks xs.toList zs.toList = b := by
    have := (rowEq_of ks cs ds _ _ hc hd lx' ly' vx' vy').trans hb.symm
    cases hq : rowEq ks xs.toList zs.toList <;> cases b <;> simp_all
  rw [he] at hr
  have run : (execOp a.eval o).run P w = .ok (.value (.bool (ne != b))) w := by
    unfold execOp
    cases ne
    · simp only [hop, ex, ey, cond_false, Sem.run_bind, run_eqGuard_agg w _ t x y xs zs hm, run_eql_struct, hr, Result.andThen_ok, Sem.run_pure]; cases b <;> rfl
    · simp only [hop, ex, ey, cond_true, Sem.run_bind, run_eqGuard_agg w _ t x y xs zs hm, run_neq_struct, hr, Result.andThen_ok, Sem.run_pure]; cases b <;> rfl
  unfold Oper.wp
  rw [run]
  exact hK _ _ (Fr.refl _ _) (.bool _)
end
end Go.Proofs.YtogckmommodmhaaGreatDoor

/-! Rows that are made and that grow: slices made, append, bytes of a string. No conditions but the ones that stand in each. -/
namespace Go.Proofs.YtogckmommodmhaaGreatDoor
set_option linter.all false
set_option linter.unusedSimpArgs false
open Go.RowKit

section
variable {P : Program} {c : Cx} {g : Nat → GM} {s : FS} {a : Act} {w w' : World}

/-- A free name is given to a row that is none. -/
theorem R.phantom (hR : R c g s a w) {b : Nat} (hfree : s.H b = .free) : R c (updG g b .ph) (s.putB b (.cells [])) a w := by
  have hun : g b = .un := by
    have := hR.h b; rw [hfree] at this; generalize g b = m at this; cases this; rfl
  have hg := updG_other (m := .ph) hun
  have hself : updG g b .ph b = .ph := by simp [updG]
  have hoth : ∀ i, i ≠ b → updG g b .ph i = g i := fun i h => by simp [updG, h]
  have hl : ∀ i k, ((s.putB b (.cells [])).H i).live → updG g b .ph i = .re k → i ≠ b ∧ (s.H i).live ∧ g i = .re k := fun i k h e => by
    have hne : i ≠ b := fun h => by subst h; rw [hself] at e; cases e
    rw [FS.H_putB, if_neg (fun h => hne h.symm)] at h
    rw [hoth i hne] at e
    exact ⟨hne, h, e⟩
  have hW : ∀ k, wset c (updG g b .ph) (s.putB b (.cells [])) k → wset c g s k := by
    rintro k (h | ⟨i, h1, h2⟩)
    · exact .inl h
    · exact .inr ⟨i, (hl i k h1 h2).2.1, (hl i k h1 h2).2.2⟩
  have hf := Fr.refl w (wset c g s)
  refine ⟨hR.size, hR.def_, fun i => (hR.t i).mono hf (fun k _ => hW k) hg, fun i => (hR.gl i).mono hf (fun k _ => hW k) (fun _ _ => rfl), fun i => ?_, fun p q m hp hq h1 h2 => ?_, fun p m hp h1 => ?_, hR.fr, hR.xs, pin_upd hR hun⟩
  · rw [FS.H_putB]
    split
    · rename_i e; subst e; rw [hself]; exact .ph
    · rename_i e
      rw [hoth i fun h => e h.symm]
      exact (hR.h i).mono hf (fun k _ => hW k) hg fun _ _ _ => rfl
  · exact hR.inj p q m (hl p m hp h1).2.1 (hl q m hq h2).2.1 (hl p m hp h1).2.2 (hl q m hq h2).2.2
  · exact hR.old p m (hl p m hp h1).2.1 (hl p m hp h1).2.2

/-! ### What append does in the model -/
theorem run_storeCells_fz (k o : Nat) (t : TypeId) (fz : Nat × Nat) : ∀ (vs : List Value) (i : Nat) (cur : Array Value) (w : World), w.heap[k]? = some (.cells cur t fz) → (fz = (0, 0) ∨ cur.size ≤ fz.1) → o + i + vs.length ≤ cur.size → (∀ v ∈ vs, v.oneCell' = true) →
    (storeCells ⟨k, o, none⟩ vs i).run P w = .ok () (w.setRow k (cur.toList.take (o + i) ++ vs ++ cur.toList.drop (o + i + vs.length)).toArray)
  | [], i, cur, w, hg, _, _, _ => by
    simp only [storeCells, List.append_nil, List.length_nil, Nat.add_zero, List.take_append_drop, Array.toArray_toList]
    rw [setRow_self w k cur t fz hg]
    rfl
  | v :: rest, i, cur, w, hg, hz, hl, h1 => by
    have hi : o + i < cur.size := by simp at hl; omega
    have hadd : (⟨k, o, none⟩ : Addr).add i = ⟨k, o + i, none⟩ := by unfold Addr.add; split <;> simp_all
    have hcell : w.cell? ⟨k, o + i, none⟩ = some cur[o + i] := by simp [World.cell?, hg, hi]
    have hfro : w.frozen? ⟨k, o + i, none⟩ = false := by
      simp only [World.frozen?, hg]
      rcases hz with rfl | hz
      · simp
      · have : ¬ fz.1 ≤ o + i := by omega
        simp [this]
    have hst : (store ((⟨k, o, none⟩ : Addr).add i) v).run P w = .ok () (w.setRow k (cur.setIfInBounds (o + i) v)) := by
      rw [hadd, run_store P w _ v _ (h1 v (by simp)), hcell]
      simp [hfro, setCell_eq_setRow w k (o + i) cur t fz v hg]
    have ih := run_storeCells_fz k o t fz rest (i + 1) (cur.setIfInBounds (o + i) v) (w.setRow k (cur.setIfInBounds (o + i) v)) (setRow_heap w k cur _ t _ hg) (by simpa using hz) (by simp at hl ⊢; omega) (fun x hx => h1 x (by simp [hx]))
    simp only [storeCells, Sem.run_bind, hst, Result.andThen_ok, ih, setRow_setRow]
    congr 3
    have e := list_seg_step cur.toList (o + i) v rest (by simp at hl ⊢; omega)
    simpa [Array.toList_setIfInBounds, Nat.add_assoc] using e

theorem run_append_more {t u ty e : TypeId} {i : TypeInfo} {z : Value} (ht : P.underlying t = some (.slice e)) (hu : u = t ∨ P.underlying u = some .string) (hi : P.info? e = some i) (hz : i.zero = some z)
    (ba : Option Addr) (sLen sCap : Nat) (x : Value) (m : Nat) (olds news : List Value) (w : World) (hlen : ∀ w, (Builtin.lenOf x).run P w = .ok m w)
    (hnew : ∀ w' : World, w'.heap = w.heap → (Builtin.firstCells i.size m x).run P w' = .ok news.toArray w') (hold : ∀ w' : World, w'.heap = w.heap → (Builtin.firstCells i.size sLen (.slice ba sLen sCap)).run P w' = .ok olds.toArray w')
    (hg : sCap < sLen + m) (h63 : ((sLen + m : Nat) : Int) ≤ 9223372036854775807) (hfit : Builtin.nextslicecap (sLen + m) sCap * i.bytes ≤ 281474976710656) :
    (Builtin.append_ #[t, u] ty #[.slice ba sLen sCap, x]).run P w =
      .ok (.slice (some ⟨w.heap.size, 0, none⟩) (sLen + m) (grownCap w (sLen + m) sCap e))
        (w.drew.alloc (.cells (olds.toArray ++ news.toArray ++ Builtin.zeroCells z.cells (grownCap w (sLen + m) sCap e - (sLen + m))) e)) := by
  have hn : ¬ (sLen + m ≤ sCap) := by omega
  have h63' : ¬ (9223372036854775807 < ((sLen : Int) + (m : Int))) := by omega
  have h48' : ¬ (281474976710656 < Builtin.nextslicecap (sLen + m) sCap * i.bytes) := by omega
  have hf := hnew w.drew rfl
  have hfo := hold w.drew rfl
  rcases hu with rfl | hu
  · simp [Builtin.append_, run_underlying ht, sizeOf, typeInfo, zeroValue, hi, hz, hlen, hn, h63', h48', Question.forced, hf, hfo, newRow, grownCap]
    congr 2; apply Array.ext'; simp
  · simp [Builtin.append_, run_underlying ht, run_underlying hu, sizeOf, typeInfo, zeroValue, hi, hz, hlen, hn, h63', h48', Question.forced, hf, hfo, newRow, grownCap]
    congr 2; apply Array.ext'; simp
theorem run_append_in {t u ty e : TypeId} {i : TypeInfo} (ht : P.underlying t = some (.slice e)) (hu : u = t ∨ P.underlying u = some .string) (hi : P.info? e = some i)
    (k sLen sCap : Nat) (x : Value) (m : Nat) (news : List Value) (cur : Array Value) (e' : TypeId) (fz : Nat × Nat) (w : World) (hlen : ∀ w, (Builtin.lenOf x).run P w = .ok m w) (hk : w.heap[k]? = some (.cells cur e' fz)) (hfz : fz = (0, 0) ∨ cur.size ≤ fz.1)
    (hnew : ∀ w' : World, w'.heap = w.heap → (Builtin.firstCells i.size m x).run P w' = .ok news.toArray w') (h1 : ∀ u ∈ news, u.oneCell' = true)
    (hroom : sLen + m ≤ sCap) (hfit : sLen * i.size + news.length ≤ cur.size) :
    (Builtin.append_ #[t, u] ty #[.slice (some ⟨k, 0, none⟩) sLen sCap, x]).run P w =
      .ok (.slice (some ⟨k, 0, none⟩) (sLen + m) sCap) (w.setRow k (cur.toList.take (sLen * i.size) ++ news ++ cur.toList.drop (sLen * i.size + news.length)).toArray) := by
  have hst := run_storeCells_fz (P := P) k (sLen * i.size) e' fz news 0 cur w hk hfz (by simpa using hfit) h1
  simp only [Nat.add_zero] at hst
  have hf := hnew w rfl
  rcases hu with rfl | hu
  · simp [Builtin.append_, run_underlying ht, sizeOf, typeInfo, hi, hlen, hroom, hf, Addr.add_lit, hst]
  · simp [Builtin.append_, run_underlying ht, run_underlying hu, sizeOf, typeInfo, hi, hlen, hroom, hf, Addr.add_lit, hst]
theorem run_append_no {t u ty e : TypeId} {i : TypeInfo} (ht : P.underlying t = some (.slice e)) (hu : u = t ∨ P.underlying u = some .string) (hi : P.info? e = some i)
    (ba : Option Addr) (sLen sCap : Nat) (x : Value) (w : World) (hlen : ∀ w, (Builtin.lenOf x).run P w = .ok 0 w)
    (hnew : ∀ w' : World, w'.heap = w.heap → (Builtin.firstCells i.size 0 x).run P w' = .ok #[] w') (hroom : sLen ≤ sCap) :
    (Builtin.append_ #[t, u] ty #[.slice ba sLen sCap, x]).run P w = .ok (.slice ba sLen sCap) w := by
  have hf := hnew w rfl
  rcases hu with rfl | hu
  · cases ba <;> simp [Builtin.append_, run_underlying ht, sizeOf, typeInfo, hi, hlen, hroom, hf, storeCells]
  · cases ba <;> simp [Builtin.append_, run_underlying ht, run_underlying hu, sizeOf, typeInfo, hi, hlen, hroom, hf, storeCells]

/-! ### What may grow, what may be put behind -/
def srcN : AV → Nat
  | .isl m _ => m
  | .sl _ _ _ m _ => m
  | .str l => l.length
  | _ => 0
theorem srcN_sl (es b o m cc : Nat) : srcN (.sl es b o m cc) = m := rfl
theorem srcN_isl (m : Nat) (ds : List AV) : srcN (.isl m ds) = m := rfl
theorem srcN_str (l : List UInt8) : srcN (.str l) = l.length := rfl
theorem srcN_nils : srcN .nils = 0 := rfl
def srcC (s : FS) (es : Nat) : AV → List AV
  | .isl m ds => ds.take (m * es)
  | .sl _ b o m _ => ((cellsB (s.H b)).drop o).take (m * es)
  | .str l => byts l
  | _ => []
def noRow : Value → Prop
  | .slice _ 0 _ => True
  | _ => False
theorem noRow_inv {v : Value} (h : noRow v) : ∃ a c, v = .slice a 0 c := by
  unfold noRow at h; split at h
  · exact ⟨_, _, rfl⟩
  · exact h.elim
def srcOk (s : FS) (es : Nat) (str : Bool) : AV → Prop
  | .isl m ds => str = false ∧ m * es ≤ ds.length
  | .sl es2 b o m _ => str = false ∧ es2 = es ∧ o + m * es ≤ (cellsB (s.H b)).length
  | .nils => str = false
  | .lit v => str = false ∧ noRow v
  | .str _ => str = true ∧ es = 1
  | _ => False
def srcB : AV → Option Nat
  | .sl _ b _ _ _ => some b
  | _ => none
def baseOk (s : FS) (es : Nat) : AV → Prop
  | .sl es2 b o n _ => es2 = es ∧ o = 0 ∧ n * es ≤ (cellsB (s.H b)).length ∧ (s.H b).live
  | .nils => True
  | _ => False
def FS.killO (s : FS) : Option Nat → FS
  | some b => s.putB b .dead
  | none => s

theorem cellsB_row {s : FS} {b : Nat} {n : Nat} (h : n ≤ (cellsB (s.H b)).length) (hn : 0 < n) : ∃ cs, s.H b = .cells cs := by
  cases hh : s.H b with
  | cells cs => exact ⟨cs, rfl⟩
  | _ => rw [hh] at h; simp [cellsB] at h; omega
/-- Cells that lie in a block. -/
theorem row_cells {k o : Nat} {cur : Array Value} {e : TypeId} {fz : Nat × Nat} (hb : w.heap[k]? = some (.cells cur e fz)) {n : Nat} (hn : o + n ≤ cur.size) :
    ∀ (w' : World), w'.heap = w.heap → ∀ j v, ((cur.toList.drop o).take n)[j]? = some v → w'.cell? ((⟨k, o, none⟩ : Addr).add j) = some v := by
  intro w' hw j v hv
  have hadd : (⟨k, o, none⟩ : Addr).add j = ⟨k, o + j, none⟩ := by unfold Addr.add; split <;> simp_all
  rw [hadd]
  rw [List.getElem?_take] at hv
  split at hv
  · rw [List.getElem?_drop] at hv
    simp only [World.cell?, hw, hb]
    simpa using hv
  · cases hv
theorem run_first (es m : Nat) {a' : Option Addr} {len cap : Nat} {vs : List Value} (hl : vs.length = m * es) (h : ∀ w' : World, w'.heap = w.heap → ∀ j v, vs[j]? = some v → ∃ a0, a' = some a0 ∧ w'.cell? (a0.add j) = some v) :
    ∀ w' : World, w'.heap = w.heap → (Builtin.firstCells es m (.slice a' len cap)).run P w' = .ok vs.toArray w' := by
  intro w' hw
  cases a' with
  | none =>
    cases vs with
    | nil => simp [Builtin.firstCells]
    | cons v vs => obtain ⟨a0, h1, _⟩ := h w' hw 0 v rfl; cases h1
  | some a0 =>
    refine run_firstCells_some w' es m a0 len cap vs hl fun j v hj => ?_
    obtain ⟨a1, h1, h2⟩ := h w' hw j v hj
    cases h1; exact h2
theorem getD_of_lt {vs : List Value} {j : Nat} (h : j < vs.length) : vs[j]? = some (vs.getD j undef) := by simp [List.getD, h]

theorem src_core (hR : R c g s a w) {es : Nat} {str : Bool} {x : AV} {u : Value} (hx : VR g (wset c g s) w x u) (ok : srcOk s es str x) :
    ∃ news : List Value, (∀ w, (Builtin.lenOf u).run P w = .ok (srcN x) w) ∧ (∀ w' : World, w'.heap = w.heap → (Builtin.firstCells es (srcN x) u).run P w' = .ok news.toArray w') ∧
      news.length = srcN x * es ∧ (srcC s es x).length = srcN x * es ∧ (∀ v ∈ news, v.oneCell' = true) ∧ ∀ j, j < srcN x * es → VR g (wset c g s) w ((srcC s es x).getD j .any) (news.getD j undef) := by
  cases x <;> simp only [srcOk] at ok
  case isl m ds =>
    obtain ⟨rfl, hl⟩ := ok
    obtain ⟨ad, cap, us, rfl, h1, h2, h3, h4⟩ := isl_inv hx
    simp only [srcN]
    have hlen : ((List.range (m * es)).map us).length = m * es := by simp
    have hget : ∀ j, j < m * es → ((List.range (m * es)).map us).getD j undef = us j := fun j hj => by simp [List.getD, hj]
    refine ⟨(List.range (m * es)).map us, fun w => rfl, run_first es m hlen fun w' hw j v hj => ?_, hlen, by simp [srcC]; omega, fun v hv => ?_, fun j hj => ?_⟩
    · obtain ⟨hj', rfl⟩ := List.getElem?_eq_some_iff.1 hj
      rw [hlen] at hj'
      obtain ⟨k, o, rfl, h5, _⟩ := h3 j (by omega)
      refine ⟨_, rfl, ?_⟩
      have hadd : (⟨k, o, none⟩ : Addr).add j = ⟨k, o + j, none⟩ := by unfold Addr.add; split <;> simp_all
      rw [hadd]
      simp only [List.getElem_map, List.getElem_range]
      rw [← h5]; unfold cellOf World.cell?; simp only [hw]
    · obtain ⟨j, hj, rfl⟩ := List.mem_map.1 hv
      simp at hj
      obtain ⟨k, o, _, _, _, h6⟩ := h3 j (by omega)
      exact h6
    · rw [hget j hj]
      have : (srcC s es (.isl m ds)).getD j .any = ds.getD j .any := by simp [srcC, List.getD, List.getElem?_take, hj]
      rw [this]; exact h4 j (by omega)
  case sl es2 b o m cc =>
    obtain ⟨rfl, rfl, hl⟩ := ok
    simp only [srcN]
    rcases sl_inv hx with ⟨k, cap, e, cur, fz, rfl, h1, h2, h3, h4, h5, h6⟩ | ⟨ad, rfl, h1, rfl, rfl⟩
    · by_cases hpos : 0 < m * es2
      · obtain ⟨cs, hcs⟩ := cellsB_row (s := s) (b := b) (n := o + m * es2) hl (by omega)
        have hb := hR.h b
        rw [h1, hcs] at hb
        cases hb with
        | cells hb hll h1' hv hf =>
        rename_i cur' e' fz'
        rw [h5] at hb; cases hb
        have hlc : o + m * es2 ≤ cs.length := by rw [hcs] at hl; exact hl
        have hlen : ((cur.toList.drop o).take (m * es2)).length = m * es2 := by simp; omega
        have hget : ∀ j, j < m * es2 → ((cur.toList.drop o).take (m * es2)).getD j undef = cur.getD (o + j) undef := fun j hj => by simp [List.getD, List.getElem?_take, hj, Array.getD_eq_getD_getElem?]
        refine ⟨(cur.toList.drop o).take (m * es2), fun w => rfl, run_first es2 m hlen fun w' hw j v hj => ⟨_, rfl, row_cells h5 (by omega) w' hw j v hj⟩, hlen, by simp [srcC, hcs, cellsB]; omega, fun v hv => ?_, fun j hj => ?_⟩
        · obtain ⟨j, hj, rfl⟩ := List.getElem_of_mem hv
          rw [hlen] at hj
          have := h1' (o + j) (by omega)
          have hg := hget j hj
          simp only [List.getD, List.getElem?_eq_getElem (show j < ((cur.toList.drop o).take (m * es2)).length by omega), Option.getD_some] at hg
          rw [hg]; exact this
        · rw [hget j hj]
          have : (srcC s es2 (.sl es2 b o m cc)).getD j .any = cs.getD (o + j) .any := by simp [srcC, hcs, cellsB, List.getD, List.getElem?_take, hj]
          rw [this]; exact hv _ (by omega)
      · have hz : m * es2 = 0 := by omega
        refine ⟨[], fun w => rfl, run_first es2 m (by simp [hz]) fun w' hw j v hj => by simp at hj, by simp [srcN, hz], by simp [srcN, srcC, hz], fun v hv => (by cases hv), fun j hj => (by omega)⟩
    · refine ⟨[], fun w => rfl, run_first es2 0 (by simp) fun w' hw j v hj => by simp at hj, by simp [srcN], by simp [srcN, srcC], fun v hv => (by cases hv), fun j hj => (by omega)⟩
  case lit v =>
    obtain ⟨_, ok⟩ := ok
    obtain ⟨ad, cap, rfl⟩ := noRow_inv ok
    have : u = .slice ad 0 cap := by cases hx; rfl
    subst this
    simp only [srcN]
    refine ⟨[], fun w => rfl, run_first es 0 (by simp) fun w' hw j v hj => by simp at hj, by simp [srcN], by simp [srcN, srcC], fun v hv => (by cases hv), fun j hj => (by omega)⟩
  case nils =>
    obtain ⟨ad, rfl⟩ := nils_inv hx
    simp only [srcN]
    refine ⟨[], fun w => rfl, run_first es 0 (by simp) fun w' hw j v hj => by simp at hj, by simp [srcN], by simp [srcN, srcC], fun v hv => (by cases hv), fun j hj => (by omega)⟩
  case str l =>
    obtain ⟨rfl, rfl⟩ := ok
    cases hx
    simp only [srcN]
    refine ⟨l.map fun b => .int .u8 b.toNat, fun w => ?_, fun w' _ => ?_, by simp [srcN], by simp [srcN, srcC, byts], fun v hv => ?_, fun j hj => ?_⟩
    · simp [Builtin.lenOf, srcN, ByteArray.size]
    · have hx : (⟨l.toArray⟩ : ByteArray).extract 0 l.length = ⟨l.toArray⟩ := by
        have : l.length = (⟨l.toArray⟩ : ByteArray).size := rfl
        rw [this, ByteArray.extract_zero_size]
      simp [Builtin.firstCells, srcN, hx]
    · obtain ⟨b, _, rfl⟩ := List.mem_map.1 hv; rfl
    · simp only [Nat.mul_one] at hj
      have e1 : (srcC s 1 (.str l)).getD j .any = .int .u8 (l[j]).toNat := by simp [srcC, byts, List.getD, hj]
      have e2 : (l.map fun b : UInt8 => Value.int .u8 b.toNat).getD j undef = .int .u8 (l[j]).toNat := by simp [List.getD, hj]
      rw [e1, e2]; exact .int _ _

theorem updG_self {g : Nat → GM} {b : Nat} {m : GM} : updG g b m b = m := by simp [updG]
/-- A new row, under a free name, behind a draw. -/
theorem grown_ok (hR : R c g s a w) {nm : Nat} (hfree : s.H nm = .free) {es N cap : Nat} {e : TypeId} {cs : List AV} {vs : List Value} {zs : Array Value} (hl : vs.length = N * es) (hcl : cs.length = N * es) (hzs : zs.size = (cap - N) * es) (hN : N ≤ cap) (hm : cap ≤ maxLen)
    (h1 : ∀ v ∈ vs, v.oneCell' = true) (hv : ∀ j, j < N * es → VR g (wset c g s) w (cs.getD j .any) (vs.getD j undef)) :
    ∃ g', R c g' (s.putB nm (.cells cs)) a (w.drew.alloc (.cells (vs.toArray ++ zs) e)) ∧ VR g' (wset c g' (s.putB nm (.cells cs))) (w.drew.alloc (.cells (vs.toArray ++ zs) e)) (.sl es nm 0 N N) (.slice (some ⟨w.heap.size, 0, none⟩) N cap) := by
  have hRd : R c g s a w.drew := hR.grow (Fr.drew w _)
  have hge : ∀ k, wset c g s k → k < w.heap.size := by
    rintro k (h | ⟨b', hl, hg'⟩)
    · have := (hR.xs k h).1; have := hR.fr.size; omega
    · exact BR.lt (hg' ▸ hR.h b') hl
  have hget : ∀ j, j < N * es → (vs.toArray ++ zs).getD j undef = vs.getD j undef := fun j hj => by
    simp [Array.getD_eq_getD_getElem?, List.getD, Array.getElem?_append, hl, hj]
  have hnew := heap_alloc_new w.drew (.cells (vs.toArray ++ zs) e)
  have hR' := hRd.new (b := nm) (x := .cells cs) (.cells (vs.toArray ++ zs) e) hfree trivial fun g' hg' => by
    refine .cells (cur := vs.toArray ++ zs) (e := e) (fz := (0, 0)) hnew (by simp [hl, hcl]) (fun j hj => ?_) (fun j hj => ?_) (.inl rfl)
    · rw [hget j (by omega)]
      have hj' : j < vs.length := by omega
      simp only [List.getD, List.getElem?_eq_getElem hj', Option.getD_some]
      exact h1 _ (List.getElem_mem hj')
    · rw [hget j (by omega)]
      exact ((hv j (by omega)).mono (Fr.drew w _) (fun _ _ h => h) (fun _ _ => rfl)).mono (Fr.alloc w.drew _ _) (fun k hk h => h.resolve_right (by simp at hk; simp; omega)) hg'
  refine ⟨_, hR', .sl (k := w.heap.size) (e := e) (cur := vs.toArray ++ zs) (fz := (0, 0)) updG_self (Nat.le_refl _) hN hm hnew ?_⟩
  simp [hl, hzs, ← Nat.add_mul]
  exact Nat.mul_le_mul_right _ (by omega)

theorem fs_ext {s s' : FS} (hT : ∀ i, s.T i = s'.T i) (hH : ∀ i, s.H i = s'.H i) : s = s' := by
  cases s; cases s'; congr 1 <;> funext i
  · exact hT i
  · exact hH i
theorem setRow_fr {w : World} {k : Nat} {cur new : Array Value} {e : TypeId} {fz : Nat × Nat} (hk : w.heap[k]? = some (.cells cur e fz)) (hs : new.size = cur.size) : Fr w (w.setRow k new) (fun i => i = k) :=
  ⟨rfl, rfl, rfl, by simp [World.setRow], fun i _ hne => setRow_other w k i new hne, fun i cur' e' fz' hi => by
    by_cases h : i = k
    · subst h
      rw [hk] at hi; cases hi
      exact ⟨new, setRow_heap w i cur new e fz hk, hs⟩
    · exact ⟨cur', by rw [setRow_other w k i new h]; exact hi, rfl⟩⟩
/-- Nothing lay there: the row is new, or none. -/
theorem app_nil (hR : R c g s a w) {nm : Nat} (hfree : s.H nm = .free) {t u ty e : TypeId} {i : TypeInfo} {z : Value} {es : Nat} (ht : P.underlying t = some (.slice e)) (hu : u = t ∨ P.underlying u = some .string) (hi : P.info? e = some i) (hz : i.zero = some z) (hes : i.size = es) (hzs : z.cells.size = es)
    (ad : Option Addr) {ux : Value} {m : Nat} {cs : List AV} {news : List Value} (q1 : ∀ w, (Builtin.lenOf ux).run P w = .ok m w) (q2 : ∀ w' : World, w'.heap = w.heap → (Builtin.firstCells es m ux).run P w' = .ok news.toArray w')
    (q3 : news.length = m * es) (q4 : cs.length = m * es) (q5 : ∀ v ∈ news, v.oneCell' = true) (q6 : ∀ j, j < m * es → VR g (wset c g s) w (cs.getD j .any) (news.getD j undef)) (h63 : m ≤ maxLen) (hby : m * i.bytes ≤ 140737488355328) :
    ∃ g' v' w', (Builtin.append_ #[t, u] ty #[.slice ad 0 0, ux]).run P w = .ok v' w' ∧ R c g' (s.putB nm (.cells cs)) a w' ∧ VR g' (wset c g' (s.putB nm (.cells cs))) w' (.sl es nm 0 m m) v' := by
  by_cases hm : m = 0
  · subst hm
    have hn : news = [] := List.eq_nil_of_length_eq_zero (by omega)
    have hc : cs = [] := List.eq_nil_of_length_eq_zero (by omega)
    subst hn hc
    exact ⟨_, _, _, run_append_no ht hu hi ad 0 0 ux w q1 (by rw [hes]; exact q2) (Nat.le_refl _), hR.phantom hfree, .slp updG_self rfl⟩
  · have hr := run_append_more (ty := ty) (P := P) ht hu hi hz ad 0 0 ux m [] news w q1 (by rw [hes]; exact q2) (fun w' _ => by cases ad <;> simp [Builtin.firstCells, loadCells, loadCellsFrom]) (by omega) (by simp only [maxLen] at h63; omega) (growslice_fits (by omega) (by simpa using hby))
    simp only [Nat.zero_add, List.nil_append] at hr
    have hge := grownCap_ge w m 0 e
    obtain ⟨g', h1, h2⟩ := grown_ok (es := es) (N := m) (cap := grownCap w m 0 e) (e := e) (zs := Builtin.zeroCells z.cells (grownCap w m 0 e - m)) hR hfree q3 q4 (by rw [size_zeroCells, hzs]) hge (grownCap_le_maxLen w m 0 e h63) q5 q6
    exact ⟨g', _, _, by rw [hr]; simp, h1, h2⟩

theorem app_core (hR : R c g s a w) {nm : Nat} (hfree : s.H nm = .free) {t u ty e : TypeId} {i : TypeInfo} {z : Value} {es : Nat} (ht : P.underlying t = some (.slice e)) (hu : u = t ∨ P.underlying u = some .string) (hi : P.info? e = some i) (hz : i.zero = some z) (hes : i.size = es) (hzs : z.cells.size = es)
    {vb vx : AV} {ub ux : Value} {str : Bool} (hb : VR g (wset c g s) w vb ub) (hx : VR g (wset c g s) w vx ux) (okb : baseOk s es vb) (okx : srcOk s es str vx) (h63 : srcN vb + srcN vx ≤ maxLen) (hby : (srcN vb + srcN vx) * i.bytes ≤ 140737488355328) :
    ∃ g' v' w', (Builtin.append_ #[t, u] ty #[ub, ux]).run P w = .ok v' w' ∧ R c g' ((s.killO (srcB vb)).putB nm (.cells (srcC s es vb ++ srcC s es vx))) a w' ∧
      VR g' (wset c g' ((s.killO (srcB vb)).putB nm (.cells (srcC s es vb ++ srcC s es vx)))) w' (.sl es nm 0 (srcN vb + srcN vx) (srcN vb + srcN vx)) v' := by
  obtain ⟨news, q1, q2, q3, q4, q5, q6⟩ := src_core (P := P) hR hx okx
  cases vb <;> simp only [baseOk] at okb
  case nils =>
    obtain ⟨ad, rfl⟩ := nils_inv hb
    simp only [srcN, srcC, srcB, FS.killO, Nat.zero_add, List.nil_append] at h63 hby ⊢
    exact app_nil hR hfree ht hu hi hz hes hzs ad q1 q2 q3 q4 q5 q6 h63 hby
  case sl es2 b o n cc =>
    obtain ⟨rfl, rfl, hl, hlive⟩ := okb
    have hne : nm ≠ b := fun h => by subst h; rw [hfree] at hlive; exact hlive
    have hgb : g b ≠ .un := fun h => by
      have := hR.h b; rw [h] at this
      exact this.ne_un hlive
    have hfk : (s.putB b .dead).H nm = .free := by rw [FS.H_putB, if_neg fun h => hne h.symm, hfree]
    have hRk := hR.kill hgb
    have hWk : ∀ k, wset c g (s.putB b .dead) k → wset c g s k := wset_putB_dead
    obtain ⟨olds, o1, o2, o3, o4, o5, o6⟩ := src_core (P := P) (str := false) hR hb (x := .sl es2 b 0 n cc) ⟨rfl, rfl, by simpa using hl⟩
    have hvk : ∀ {x : AV} {y : Value}, VR g (wset c g s) w x y → VR g (wset c g (s.putB b .dead)) w x y := fun h => h.mono (Fr.refl _ _) (fun k _ => hWk k) (fun _ _ => rfl)
    simp only [srcN_sl] at h63 hby o1 o2 o3 o4 o6 ⊢
    simp only [srcB, FS.killO]
    rcases sl_inv hb with ⟨k, cap, e', cur, fz, rfl, h1, h2, h3, h4, h5, h6⟩ | ⟨ad, rfl, h1, rfl, rfl⟩
    · have hlen : (olds ++ news).length = (n + srcN vx) * es2 := by rw [List.length_append, o3, q3, Nat.add_mul]
      have hclen : (srcC s es2 (.sl es2 b 0 n cc) ++ srcC s es2 vx).length = (n + srcN vx) * es2 := by rw [List.length_append, o4, q4, Nat.add_mul]
      have h1c : ∀ v ∈ olds ++ news, v.oneCell' = true := fun v hv => (List.mem_append.1 hv).elim (o5 v) (q5 v)
      have hvc : ∀ j, j < (n + srcN vx) * es2 → VR g (wset c g s) w ((srcC s es2 (.sl es2 b 0 n cc) ++ srcC s es2 vx).getD j .any) ((olds ++ news).getD j undef) := fun j hj => by
        by_cases hjn : j < n * es2
        · have := o6 j hjn
          simp only [List.getD, List.getElem?_append_left (show j < (srcC s es2 (.sl es2 b 0 n cc)).length by omega), List.getElem?_append_left (show j < olds.length by omega)] at this ⊢
          exact this
        · have := q6 (j - n * es2) (by rw [Nat.add_mul] at hj; omega)
          simp only [List.getD, List.getElem?_append_right (show (srcC s es2 (.sl es2 b 0 n cc)).length ≤ j by omega), List.getElem?_append_right (show olds.length ≤ j by omega), o3, o4] at this ⊢
          exact this
      by_cases hroom : n + srcN vx ≤ cap
      · -- in place
        have hBR := hR.h b
        rw [h1] at hBR
        have hfz : fz = (0, 0) ∨ cur.size ≤ fz.1 := by
          cases hh : s.H b with
          | cells cs => rw [hh] at hBR; cases hBR with | cells hb' _ _ _ hf => rw [h5] at hb'; cases hb'; exact hf
          | mapb kvs dn => rw [hh] at hBR; cases hBR with | mapb hb' => rw [h5] at hb'; cases hb'
          | mapx kvs bs ck => rw [hh] at hBR; cases hBR with | mapx hb' => rw [h5] at hb'; cases hb'
          | iter b0 ck seen => rw [hh] at hBR; cases hBR with | iter hb' => rw [h5] at hb'; cases hb'
          | bag ls => rw [hh] at hBR; cases hBR with | bag _ h' => cases h' with | cells hb' _ _ _ hf => rw [h5] at hb'; cases hb'; exact hf
          | free => rw [hh] at hlive; exact hlive.elim
          | dead => rw [hh] at hlive; exact hlive.elim
        have hmul : (n + srcN vx) * es2 ≤ cap * es2 := Nat.mul_le_mul_right _ hroom
        have hfit : n * i.size + news.length ≤ cur.size := by rw [hes, q3, ← Nat.add_mul]; omega
        have hr := run_append_in (ty := ty) (P := P) ht hu hi k n cap ux (srcN vx) news cur e' fz w q1 h5 hfz (by rw [hes]; exact q2) q5 hroom hfit
        rw [hes] at hr
        have holds : olds = cur.toList.take (n * es2) := by
          have a1 := o2 w rfl
          have a2 := run_firstCells_some (P := P) w es2 n ⟨k, 0, none⟩ n cap (cur.toList.take (n * es2)) (by simp; have := Nat.mul_le_mul_right es2 (Nat.le_trans h2 h3); omega) (by have := row_cells h5 (o := 0) (n := n * es2) (by have := Nat.mul_le_mul_right es2 (Nat.le_trans h2 h3); omega) w rfl; simpa using this)
          rw [a1] at a2
          simpa using a2
        have hsz : (cur.toList.take (n * es2) ++ news ++ cur.toList.drop (n * es2 + news.length)).toArray.size = cur.size := by
          have : n * es2 ≤ cur.size := by have := Nat.mul_le_mul_right es2 (Nat.le_trans h2 h3); omega
          rw [hes] at hfit
          simp; omega
        have hget : ∀ j, j < (n + srcN vx) * es2 → (cur.toList.take (n * es2) ++ news ++ cur.toList.drop (n * es2 + news.length)).toArray.getD j undef = (olds ++ news).getD j undef := fun j hj => by
          rw [← holds]
          simp only [Array.getD_eq_getD_getElem?, List.getD, List.getElem?_toArray]
          rw [List.getElem?_append_left (by omega)]
        have hf := setRow_fr (new := (cur.toList.take (n * es2) ++ news ++ cur.toList.drop (n * es2 + news.length)).toArray) h5 hsz
        have hkw : wset c g s k := .inr ⟨b, hlive, h1⟩
        have hset := hR.setBlock (x := .cells (srcC s es2 (.sl es2 b 0 n cc) ++ srcC s es2 vx)) h1 hlive trivial hf (by
          refine .cells (cur := (cur.toList.take (n * es2) ++ news ++ cur.toList.drop (n * es2 + news.length)).toArray) (e := e') (fz := fz) (setRow_heap w k cur _ e' fz h5) (by omega) (fun j hj => ?_) (fun j hj => ?_) (by rw [hsz]; exact hfz)
          · rw [hget j (by omega)]
            have hj' : j < (olds ++ news).length := by omega
            simp only [List.getD, List.getElem?_eq_getElem hj', Option.getD_some]
            exact h1c _ (List.getElem_mem hj')
          · rw [hget j (by omega)]
            exact (hvc j (by omega)).mono (hf.weak fun i hi => hi ▸ hkw) (fun _ _ h => h) (fun _ _ => rfl))
        have hmv := hset.move (b := b) (b' := nm) (by rw [FS.H_putB, if_pos rfl]; trivial) (by rw [FS.H_putB, if_neg fun h => hne h.symm, hfree])
        have hfs : ((s.putB b (.cells (srcC s es2 (.sl es2 b 0 n cc) ++ srcC s es2 vx))).putB b .dead).putB nm ((s.putB b (.cells (srcC s es2 (.sl es2 b 0 n cc) ++ srcC s es2 vx))).H b) = (s.putB b .dead).putB nm (.cells (srcC s es2 (.sl es2 b 0 n cc) ++ srcC s es2 vx)) := by
          refine fs_ext (fun _ => rfl) fun j => ?_
          simp only [FS.H_putB, if_pos]
          split
          · rfl
          · split <;> rfl
        rw [hfs] at hmv
        refine ⟨_, _, _, hr, hmv, .sl (k := k) (e := e') (fz := fz) (by rw [updG_self]; exact h1) (Nat.le_refl _) hroom h4 (setRow_heap w k cur _ e' fz h5) (by rw [hsz]; exact h6)⟩
      · have hge := grownCap_ge w (n + srcN vx) cap e
        have hr := run_append_more (ty := ty) (P := P) ht hu hi hz (some ⟨k, 0, none⟩) n cap ux (srcN vx) olds news w q1 (by rw [hes]; exact q2) (by rw [hes]; exact fun w' hw => by simpa [Builtin.firstCells] using o2 w' hw) (by omega) (by simp only [maxLen] at h63; omega) (growslice_fits (by omega) hby)
        obtain ⟨g', e1, e2⟩ := grown_ok (es := es2) (N := n + srcN vx) (cap := grownCap w (n + srcN vx) cap e) (e := e) (zs := Builtin.zeroCells z.cells (grownCap w (n + srcN vx) cap e - (n + srcN vx))) hRk hfk hlen hclen (by rw [size_zeroCells, hzs]) hge (grownCap_le_maxLen w _ _ e h63) h1c (fun j hj => hvk (hvc j hj))
        exact ⟨g', _, _, by rw [hr]; simp, e1, e2⟩
    · have hol : olds = [] := List.eq_nil_of_length_eq_zero (by omega)
      have hcl : srcC s es2 (.sl es2 b 0 0 0) = [] := List.eq_nil_of_length_eq_zero (by omega)
      rw [hcl]
      simp only [Nat.zero_add, List.nil_append] at h63 hby ⊢
      exact app_nil hRk hfk ht hu hi hz hes hzs ad q1 q2 q3 q4 q5 (fun j hj => hvk (q6 j hj)) h63 hby
end
end Go.Proofs.YtogckmommodmhaaGreatDoor
