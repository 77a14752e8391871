/- A region that draws its order: operations that read, calls that make memory of their own, new variables; behind them stores and assignments in a row. One walk, in the order of the text. No conditions but the ones that stand in each. -/
import Derived.Test.YtldeiolmpmcanaaMem
import Derived.StillTail
namespace Go.Proofs.Ytldeiolmpmcanaa
open Go.RowKit

/-- What is asked of an operation that yields v and leaves the world grown. -/
def gUpon (P : Program) (w : World) (v : Value) : Result Next → Prop
  | .ok (.value u) w' => w' = w ∧ u = v
  | .ok .skip w' => w' = w ∧ v = undef
  | .ok (.enter f args) w' => w' = w ∧ Calls P f args w (fun e w'' => e = .returned v ∧ Ext w w'')
  | _ => False
def gAt (P : Program) (o : Oper) (a : Act) (w : World) (v : Value) : Prop := gUpon P w v ((execOp a.eval o).run P w)
def gOp (P : Program) (o : Oper) (a : Act) (w0 : World) (K : Act → Prop) : Prop := ∃ v, (∀ x : ExtW w0, gAt P o a x.w v) ∧ K (a.put o.dst v)
def isA (o : Oper) : Bool := match o.op with | .alloc _ => true | _ => false
def tyA (o : Oper) : TypeId := match o.op with | .alloc t => t | _ => 0
/-- The walk in the order of the text, the new variables passed over. -/
def wpG (P : Program) (ops : Array Oper) (w0 : World) (K : Act → Prop) : List Oper → Act → Prop
  | [], a => K a
  | o :: r, a => if isA o = true then wpG P ops w0 K r a else if Region.wanted o (yielded ops a.tmps) = true then gOp P o a w0 (wpG P ops w0 K r) else wpG P ops w0 K r (a.put o.dst undef)

def dstOf (ops : Array Oper) (i : Nat) : Option Tmp := (ops[i]?).bind (·.dst)
def isAi (ops : Array Oper) (i : Nat) : Bool := ((ops[i]?).map isA).getD false

/-- The frame behind those of the first m operations that S names, each having yielded its value. -/
def fr (ops : Array Oper) (S : Nat → Bool) (val : Nat → Value) : Nat → Act → Act
  | 0, a => a
  | m + 1, a => if S m = true then (fr ops S val m a).put (dstOf ops m) (val m) else fr ops S val m a
def upd {α : Type} (f : Nat → α) (i : Nat) (v : α) : Nat → α := fun j => if j = i then v else f j

section
variable {ops : Array Oper} {S S' : Nat → Bool} {val val' : Nat → Value} {a : Act}
theorem fr_congr : ∀ m, (∀ j, j < m → S j = S' j ∧ (S j = true → val j = val' j)) → fr ops S val m a = fr ops S' val' m a
  | 0, _ => rfl
  | m + 1, h => by
    have ih := fr_congr m (fun j hj => h j (by omega))
    have hm := h m (by omega)
    unfold fr
    rw [← hm.1, ih]
    cases hS : S m
    · rfl
    · simp [hm.2 hS]
def Apart (ops : Array Oper) (n : Nat) : Prop := ∀ i j d, i < n → j < n → i ≠ j → dstOf ops i = some d → dstOf ops j ≠ some d
theorem fr_put (n : Nat) (hap : Apart ops n) (i : Nat) (hi : i < n) (hS : S i = false) (v : Value) : ∀ m, m ≤ n → i < m → fr ops (upd S i true) (upd val i v) m a = (fr ops S val m a).put (dstOf ops i) v
  | 0, _, h => by omega
  | m + 1, hm, h => by
    by_cases him : i = m
    · subst him
      have e : fr ops (upd S i true) (upd val i v) i a = fr ops S val i a := fr_congr i (fun j hj => by unfold upd; rw [if_neg (by omega), if_neg (by omega)]; exact ⟨rfl, fun _ => rfl⟩)
      unfold fr
      simp [upd, hS, e]
    · have ih := fr_put n hap i hi hS v m (by omega) (by omega)
      unfold fr
      have e1 : upd S i true m = S m := by unfold upd; rw [if_neg (by omega)]
      have e2 : upd val i v m = val m := by unfold upd; rw [if_neg (by omega)]
      rw [e1, e2, ih]
      split
      · exact Act.put_comm _ _ _ (fun d hd => hap i m d hi (by omega) him hd)
      · rfl
theorem fr_putC (n : Nat) (hap : Apart ops n) (i : Nat) (hi : i < n) (v : Value) : ∀ m, m ≤ n → (∀ j, j < m → S j = true → j ≠ i) → fr ops S val m (a.put (dstOf ops i) v) = (fr ops S val m a).put (dstOf ops i) v
  | 0, _, _ => rfl
  | m + 1, hm, h => by
    have ih := fr_putC n hap i hi v m (by omega) (fun j hj => h j (by omega))
    unfold fr
    rw [ih]
    split
    · rename_i hs
      exact Act.put_comm _ _ _ (fun d hd => hap i m d hi (by omega) (Ne.symm (h m (by omega) hs)) hd)
    · rfl
theorem fr_union (n : Nat) (hap : Apart ops n) (A V : Nat → Bool) (hd : ∀ j, A j = true → V j = false) : ∀ m, m ≤ n →
    fr ops (fun j => A j || V j) val m a = fr ops A val m (fr ops V val m a)
  | 0, _ => rfl
  | m + 1, hm => by
    have ih := fr_union n hap A V hd m (by omega)
    cases hA : A m
    · cases hV : V m
      · simp only [fr, hA, hV]; simpa using ih
      · simp only [fr, hA, hV, Bool.false_or, if_true, Bool.false_eq_true, if_false]
        rw [ih, fr_putC n hap m (by omega) _ m (by omega) (fun j hj _ => by omega)]
    · have hV := hd m hA
      simp only [fr, hA, hV, Bool.true_or, if_true, Bool.false_eq_true, if_false]
      rw [ih]
theorem fr_size : ∀ m, (fr ops S val m a).tmps.size = a.tmps.size
  | 0 => rfl
  | m + 1 => by
    unfold fr
    split
    · cases h : dstOf ops m <;> simp [Act.put, fr_size m]
    · exact fr_size m
theorem put_get (a : Act) (d : Option Tmp) (v : Value) (t : Tmp) : (a.put d v).tmps[t]? = if d = some t ∧ t < a.tmps.size then some v else a.tmps[t]? := by
  cases d with
  | none => simp [Act.put]
  | some d =>
    simp only [Act.put, Array.getElem?_setIfInBounds]
    by_cases h : d = t
    · subst h
      by_cases h2 : d < a.tmps.size <;> simp [h2]
    · simp [h]
theorem fr_get (t : Tmp) : ∀ m, (∀ j, j < m → dstOf ops j = some t → S j = S' j ∧ (S j = true → val j = val' j)) → (fr ops S val m a).tmps[t]? = (fr ops S' val' m a).tmps[t]?
  | 0, _ => rfl
  | m + 1, h => by
    have ih := fr_get t m (fun j hj => h j (by omega))
    by_cases hd : dstOf ops m = some t
    · have hm := h m (by omega) hd
      unfold fr
      rw [← hm.1]
      cases hS : S m
      · simpa using ih
      · simp only [if_true]
        rw [put_get, put_get, fr_size, fr_size, ih, hm.2 hS]
    · unfold fr
      have e1 : ∀ (b : Bool) (x : Act) (v : Value), (if b = true then x.put (dstOf ops m) v else x).tmps[t]? = x.tmps[t]? := by
        intro b x v
        split
        · rw [put_get, if_neg (fun hh => hd hh.1)]
        · rfl
      rw [e1, e1]
      exact ih
theorem fr_defers : ∀ m, (fr ops S val m a).defers = a.defers
  | 0 => rfl
  | m + 1 => by
    unfold fr
    split
    · cases h : dstOf ops m <;> simp [Act.put, fr_defers m]
    · exact fr_defers m
end

theorem execOp_looks {ops : Array Oper} {o : Oper} {a a' : Act} (hs : ∀ cs b, o.op ≠ .select cs b) (h : ∀ t ∈ o.looksAt ops, a.tmps[t]? = a'.tmps[t]?) : execOp a.eval o = execOp a'.eval o := by
  refine execOp_congr o hs fun x hx => ?_
  cases x with
  | tmp t =>
    have := h t (List.mem_append_left _ (List.mem_filterMap.2 ⟨.tmp t, by simpa using hx, rfl⟩))
    simp [Act.eval, this]
  | _ => rfl
theorem wanted_looks {ops : Array Oper} {o : Oper} {a a' : Act} (h : ∀ t ∈ o.looksAt ops, a.tmps[t]? = a'.tmps[t]?) : Region.wanted o (yielded ops a.tmps) = Region.wanted o (yielded ops a'.tmps) := by
  unfold Region.wanted
  cases hg : o.guard with
  | none => rfl
  | some gw =>
    obtain ⟨g, want⟩ := gw
    simp only
    have : yielded ops a.tmps g = yielded ops a'.tmps g := by
      unfold yielded
      cases hd : (ops[g]?).bind (·.dst) with
      | none => rfl
      | some t =>
        have := h t (List.mem_append_right _ (by simp [hg, hd]))
        simp [this]
    rw [this]

/-- The look over the region's edges that the theorem wants. -/
def headB (ops : Array Oper) (n : Nat) : Bool :=
  ((List.range n).all fun i => (List.range n).all fun j => i == j || (dstOf ops i).isNone || dstOf ops i != dstOf ops j) &&
  ((List.range n).all fun i => match ops[i]? with
    | none => false
    | some o => o.after.all fun e => !Region.binds .any e || decide (e.on < i)) &&
  ((List.range n).all fun i => match ops[i]? with
    | none => false
    | some o => if isA o then o.guard.isNone else (o.looksAt ops).all fun t => (List.range n).all fun j => dstOf ops j != some t || (decide (j < i) && !isAi ops j && Region.waitsFor .any ops i j))
def mixB (ops : Array Oper) (n : Nat) : Bool :=
  Region.noSelect ops && decide (n < ops.size) && Region.sinkB .any ops n && Region.chainB .any ops n && headB ops n &&
  Region.seqB .any ops (ops.size - n) n ((List.range ops.size).map (fun i => decide (i < n))).toArray

theorem headB_apart {ops : Array Oper} {n : Nat} (h : headB ops n = true) : Apart ops n := by
  intro i j d hi hj hne hd he
  unfold headB at h
  simp only [Bool.and_eq_true, List.all_eq_true, List.mem_range] at h
  have := h.1.1 i hi j hj
  simp [hd, he] at this
  exact hne this
theorem headB_looks {ops : Array Oper} {n i : Nat} {o : Oper} (h : headB ops n = true) (hi : i < n) (ho : ops[i]? = some o) (hA : isA o = false) :
    ∀ t ∈ o.looksAt ops, ∀ j, j < n → dstOf ops j = some t → j < i ∧ isAi ops j = false ∧ Region.waitsFor .any ops i j = true := by
  intro t ht j hj hd
  unfold headB at h
  simp only [Bool.and_eq_true, List.all_eq_true, List.mem_range] at h
  have h2 := h.2 i hi
  rw [ho] at h2
  simp only [hA, Bool.false_eq_true, if_false, List.all_eq_true, List.mem_range] at h2
  have := h2 t ht j hj
  simp [hd] at this
  exact ⟨this.1.1, this.1.2, this.2⟩
theorem headB_guard {ops : Array Oper} {n i : Nat} {o : Oper} (h : headB ops n = true) (hi : i < n) (ho : ops[i]? = some o) (hA : isA o = true) : o.guard = none := by
  unfold headB at h
  simp only [Bool.and_eq_true, List.all_eq_true, List.mem_range] at h
  have h2 := h.2 i hi
  rw [ho] at h2
  simpa [hA] using h2
theorem headB_back {ops : Array Oper} {n i : Nat} {o : Oper} (h : headB ops n = true) (hi : i < n) (ho : ops[i]? = some o) : ∀ e ∈ o.after, Region.binds .any e = true → e.on < i := by
  intro e he hb
  unfold headB at h
  simp only [Bool.and_eq_true, List.all_eq_true, List.mem_range] at h
  have h2 := h.1.2 i hi
  rw [ho] at h2
  have h3 := Array.all_eq_true'.1 h2 e he
  simpa [hb] using h3

theorem alloc_run (P : Program) (t : TypeId) (zs : Array Value) (hz : (P.info? t).map (·.zero) = some (some (.agg zs))) (o : Oper) (ho : o.op = .alloc t) (a : Act) (w : World) : (execOp a.eval o).run P w = .ok (.value (.pointer (some ⟨w.heap.size, 0, none⟩))) (w.alloc (.cells zs t)) := by
  obtain ⟨i, hi, hz2⟩ := Option.map_eq_some_iff.1 hz
  unfold execOp
  rw [ho]
  simp [go_sem, zeroValue, typeInfo, hi, hz2]

/-- What the walk in the order of the text knows: each operation's value at the frame behind those ahead of it. -/
def SpecV (P : Program) (ops : Array Oper) (w0 : World) (n : Nat) (vs : Nat → Value) (a0 : Act) (i : Nat) : Prop :=
  ∀ o, ops[i]? = some o → isA o = false →
    (Region.wanted o (yielded ops (fr ops (fun j => decide (j < i) && !isAi ops j) vs n a0).tmps) = true → ∀ x : ExtW w0, gAt P o (fr ops (fun j => decide (j < i) && !isAi ops j) vs n a0) x.w (vs i)) ∧
    (Region.wanted o (yielded ops (fr ops (fun j => decide (j < i) && !isAi ops j) vs n a0).tmps) = false → vs i = undef)

theorem isAi_of {ops : Array Oper} {i : Nat} {o : Oper} (h : ops[i]? = some o) : isAi ops i = isA o := by unfold isAi; rw [h]; rfl
theorem dstOf_of {ops : Array Oper} {i : Nat} {o : Oper} (h : ops[i]? = some o) : dstOf ops i = o.dst := by unfold dstOf; rw [h]; rfl

theorem wpG_spec {P : Program} {ops : Array Oper} {w0 : World} {K : Act → Prop} {n : Nat} (hap : Apart ops n) (a0 : Act) : ∀ (l : List Oper) (k : Nat) (vs : Nat → Value), (∀ j, j < l.length → l[j]? = ops[k + j]?) → k + l.length = n →
    wpG P ops w0 K l (fr ops (fun j => decide (j < k) && !isAi ops j) vs n a0) →
    (∀ i, i < k → SpecV P ops w0 n vs a0 i) → ∃ vs', (∀ i, i < n → SpecV P ops w0 n vs' a0 i) ∧ K (fr ops (fun j => !isAi ops j) vs' n a0)
  | [], k, vs, _, hk, h, hs => by
    have hkn : k = n := by simpa using hk
    subst hkn
    refine ⟨vs, hs, ?_⟩
    have e : fr ops (fun j => decide (j < k) && !isAi ops j) vs k a0 = fr ops (fun j => !isAi ops j) vs k a0 := fr_congr k (fun j hj => by simp [hj])
    rw [← e]; exact h
  | o :: r, k, vs, hl, hk, h, hs => by
    have h0 : ops[k]? = some o := by simpa using (hl 0 (by simp)).symm
    have hkn : k < n := by simp only [List.length_cons] at hk; omega
    have hl' : ∀ j, j < r.length → r[j]? = ops[k + 1 + j]? := fun j hj => by have := hl (j + 1) (by simp; omega); simpa [Nat.add_assoc, Nat.add_comm 1 j] using this
    have hk' : k + 1 + r.length = n := by simp only [List.length_cons] at hk; omega
    have hA := isAi_of h0
    unfold wpG at h
    by_cases hIs : isA o = true
    · rw [if_pos hIs] at h
      refine wpG_spec hap a0 r (k + 1) vs hl' hk' ?_ ?_
      · have e : fr ops (fun j => decide (j < k + 1) && !isAi ops j) vs n a0 = fr ops (fun j => decide (j < k) && !isAi ops j) vs n a0 := fr_congr n (fun j _ => by
          by_cases hjk : j = k
          · subst hjk; simp [hA, hIs]
          · have : decide (j < k + 1) = decide (j < k) := by simp; omega
            simp [this])
        rw [e]; exact h
      · intro i hi
        by_cases hik : i = k
        · subst hik
          intro o' ho' hA'
          rw [h0] at ho'; cases ho'
          rw [hIs] at hA'; cases hA'
        · exact hs i (by omega)
    · have hIs' : isA o = false := by simpa using hIs
      rw [if_neg hIs] at h
      have key : ∀ v, wpG P ops w0 K r ((fr ops (fun j => decide (j < k) && !isAi ops j) vs n a0).put o.dst v) →
          SpecV P ops w0 n (upd vs k v) a0 k → ∃ vs', (∀ i, i < n → SpecV P ops w0 n vs' a0 i) ∧ K (fr ops (fun j => !isAi ops j) vs' n a0) := by
        intro v hv hsk
        refine wpG_spec hap a0 r (k + 1) (upd vs k v) hl' hk' ?_ ?_
        · rw [← dstOf_of h0, ← fr_put n hap k hkn (by simp) v n (Nat.le_refl n) hkn] at hv
          have e : (upd (fun j => decide (j < k) && !isAi ops j) k true) = (fun j => decide (j < k + 1) && !isAi ops j) := by
            funext j
            unfold upd
            by_cases hjk : j = k
            · subst hjk; simp [hA, hIs']
            · have : decide (j < k + 1) = decide (j < k) := by simp; omega
              simp [hjk, this]
          rw [e] at hv; exact hv
        · intro i hi
          by_cases hik : i = k
          · subst hik; exact hsk
          · have hf : fr ops (fun j => decide (j < i) && !isAi ops j) (upd vs k v) n a0 = fr ops (fun j => decide (j < i) && !isAi ops j) vs n a0 := fr_congr n (fun j _ => by
              refine ⟨rfl, fun hj => ?_⟩
              simp at hj
              unfold upd; rw [if_neg (by omega)])
            have := hs i (by omega)
            unfold SpecV at this ⊢
            rw [hf]
            unfold upd; rw [if_neg hik]; exact this
      have hf : ∀ v, fr ops (fun j => decide (j < k) && !isAi ops j) (upd vs k v) n a0 = fr ops (fun j => decide (j < k) && !isAi ops j) vs n a0 := fun v => fr_congr n (fun j _ => by
        refine ⟨rfl, fun hj => ?_⟩
        simp at hj
        unfold upd; rw [if_neg (by omega)])
      by_cases hw : Region.wanted o (yielded ops (fr ops (fun j => decide (j < k) && !isAi ops j) vs n a0).tmps) = true
      · rw [if_pos hw] at h
        obtain ⟨v, hv, hK⟩ := h
        refine key v hK ?_
        intro o' ho' _
        rw [h0] at ho'; cases ho'
        rw [hf]
        have e : upd vs k v k = v := by unfold upd; rw [if_pos rfl]
        rw [e]
        exact ⟨fun _ => hv, fun h => by rw [hw] at h; cases h⟩
      · rw [if_neg hw] at h
        refine key undef h ?_
        intro o' ho' _
        rw [h0] at ho'; cases ho'
        rw [hf]
        have e : upd vs k undef k = undef := by unfold upd; rw [if_pos rfl]
        rw [e]
        exact ⟨fun h => absurd h hw, fun _ => rfl⟩

/-- The values behind the operations listed so far. -/
def valG (ops : Array Oper) (vs : Nat → Value) (gs : Nat → Nat) : Nat → Value := fun j => if isAi ops j = true then .pointer (some ⟨gs j, 0, none⟩) else vs j
structure NewAt (ops : Array Oper) (zs : TypeId → List Value) (w0 : World) (gs : Nat → Nat) (w : World) (i : Nat) : Prop where
  base : w0.heap.size ≤ gs i
  blk : ∀ o, ops[i]? = some o → Blk w (gs i) (tyA o) (zs (tyA o))
structure MixInv (ops : Array Oper) (n : Nat) (zs : TypeId → List Value) (vs : Nat → Value) (w0 : World) (a0 : Act) (listed : Array Bool) (a : Act) (w : World) : Prop where
  head : HeadInv .any ops n listed
  ext : Ext w0 w
  act : ∃ gs : Nat → Nat, a = fr ops (fun j => listed.getD j false) (valG ops vs gs) n a0 ∧
    (∀ i, i < n → isAi ops i = true → listed.getD i false = true → NewAt ops zs w0 gs w i) ∧
    (∀ i j, i < n → j < n → i ≠ j → isAi ops i = true → isAi ops j = true → listed.getD i false = true → listed.getD j false = true → gs i ≠ gs j)
theorem NewAt.ext {ops : Array Oper} {zs : TypeId → List Value} {w0 : World} {gs : Nat → Nat} {w w' : World} {i : Nat} (h : NewAt ops zs w0 gs w i) (he : Ext w w') : NewAt ops zs w0 gs w' i :=
  ⟨h.base, fun o ho => (h.blk o ho).ext he⟩

theorem listed_set {listed : Array Bool} {i : Nat} (hi : i < listed.size) (j : Nat) : (listed.setIfInBounds i true).getD j false = upd (fun j => listed.getD j false) i true j := by
  unfold upd
  by_cases h : j = i
  · subst h; simp [hi]
  · rw [if_neg h, getD_set_ne false (fun e => h e.symm)]

/-- An operation that yields a value, in the frame that an order has brought. -/
theorem MixInv.val {ops : Array Oper} {n : Nat} {zs : TypeId → List Value} {vs : Nat → Value} {w0 : World} {a0 : Act} {listed : Array Bool} {a : Act} {w w' : World}
    (hap : Apart ops n) (inv : MixInv ops n zs vs w0 a0 listed a w) {i : Nat} {o : Oper} (ho : ops[i]? = some o) (hin : i < n) (hr : i ∈ Region.ready .any ops listed) (hA : isA o = false) (he : Ext w w') :
    MixInv ops n zs vs w0 a0 (listed.setIfInBounds i true) (a.put o.dst (vs i)) w' := by
  have hun := (mem_ready.1 hr).1
  have hun' : listed.getD i false = false := getD_both hun
  have hsz : i < listed.size := by rw [inv.head.size]; exact (Array.getElem?_eq_some_iff.1 ho).1
  obtain ⟨gs, ha, hn, hd⟩ := inv.act
  have hv : valG ops vs gs i = vs i := by unfold valG; rw [isAi_of ho, hA]; rfl
  refine ⟨inv.head.set hr hin, inv.ext.trans he, gs, ?_, ?_, ?_⟩
  · rw [ha, ← dstOf_of ho, ← fr_put n hap i hin hun' (vs i) n (Nat.le_refl n) hin]
    refine fr_congr n (fun j _ => ⟨(listed_set hsz j).symm, fun _ => ?_⟩)
    unfold upd
    split
    · rename_i h; subst h; exact hv.symm
    · rfl
  · intro j hj hjA hl
    rw [listed_set hsz j] at hl
    unfold upd at hl
    by_cases hji : j = i
    · subst hji; rw [isAi_of ho, hA] at hjA; cases hjA
    · rw [if_neg hji] at hl; exact (hn j hj hjA hl).ext he
  · intro j k hj hk hne hjA hkA hlj hlk
    rw [listed_set hsz] at hlj hlk
    unfold upd at hlj hlk
    have h1 : j ≠ i := fun e => by subst e; rw [isAi_of ho, hA] at hjA; cases hjA
    have h2 : k ≠ i := fun e => by subst e; rw [isAi_of ho, hA] at hkA; cases hkA
    rw [if_neg h1] at hlj; rw [if_neg h2] at hlk
    exact hd j k hj hk hne hjA hkA hlj hlk
/-- A new variable. -/
theorem MixInv.new {ops : Array Oper} {n : Nat} {zs : TypeId → List Value} {vs : Nat → Value} {w0 : World} {a0 : Act} {listed : Array Bool} {a : Act} {w : World}
    (hap : Apart ops n) (inv : MixInv ops n zs vs w0 a0 listed a w) {i : Nat} {o : Oper} (ho : ops[i]? = some o) (hin : i < n) (hr : i ∈ Region.ready .any ops listed) (hA : isA o = true) :
    MixInv ops n zs vs w0 a0 (listed.setIfInBounds i true) (a.put o.dst (.pointer (some ⟨w.heap.size, 0, none⟩))) (w.alloc (.cells (zs (tyA o)).toArray (tyA o))) := by
  have hun := (mem_ready.1 hr).1
  have hun' : listed.getD i false = false := getD_both hun
  have hsz : i < listed.size := by rw [inv.head.size]; exact (Array.getElem?_eq_some_iff.1 ho).1
  obtain ⟨gs, ha, hn, hd⟩ := inv.act
  have he : Ext w (w.alloc (.cells (zs (tyA o)).toArray (tyA o))) := Ext.alloc w _
  have hlt : ∀ j, j < n → isAi ops j = true → listed.getD j false = true → gs j < w.heap.size := by
    intro j hj hjA hl
    have hb := (hn j hj hjA hl).blk
    cases hoj : ops[j]? with
    | none => unfold isAi at hjA; rw [hoj] at hjA; cases hjA
    | some oj => exact (hb oj hoj).lt
  refine ⟨inv.head.set hr hin, inv.ext.trans he, upd gs i w.heap.size, ?_, ?_, ?_⟩
  · rw [ha, ← dstOf_of ho, ← fr_put n hap i hin hun' _ n (Nat.le_refl n) hin]
    refine fr_congr n (fun j _ => ⟨(listed_set hsz j).symm, fun _ => ?_⟩)
    unfold valG upd
    by_cases hji : j = i
    · subst hji; rw [isAi_of ho, hA]; simp
    · simp [hji]
  · intro j hj hjA hl
    rw [listed_set hsz j] at hl
    unfold upd at hl
    by_cases hji : j = i
    · subst hji
      refine ⟨?_, ?_⟩
      · unfold upd; rw [if_pos rfl]; exact inv.ext.size
      · intro o' ho'
        rw [ho] at ho'; cases ho'
        unfold upd; rw [if_pos rfl]; exact Blk.new w _ _
    · rw [if_neg hji] at hl
      have := (hn j hj hjA hl).ext he
      exact ⟨by unfold upd; rw [if_neg hji]; exact this.base, by unfold upd; rw [if_neg hji]; exact this.blk⟩
  · intro j k hj hk hne hjA hkA hlj hlk
    rw [listed_set hsz] at hlj hlk
    unfold upd at hlj hlk ⊢
    by_cases h1 : j = i
    · by_cases h2 : k = i
      · exact absurd (h1.trans h2.symm) hne
      · rw [if_neg h2] at hlk; rw [if_pos h1, if_neg h2]
        have := hlt k hk hkA hlk; omega
    · rw [if_neg h1] at hlj
      by_cases h2 : k = i
      · rw [if_neg h1, if_pos h2]
        have := hlt j hj hjA hlj; omega
      · rw [if_neg h2] at hlk; rw [if_neg h1, if_neg h2]
        exact hd j k hj hk hne hjA hkA hlj hlk

theorem least_unlisted {listed : Array Bool} : ∀ m, (∀ j, j < m → listed.getD j true = true) ∨ ∃ i, i < m ∧ listed.getD i true = false ∧ ∀ j, j < i → listed.getD j true = true
  | 0 => .inl fun j hj => by omega
  | m + 1 => by
    rcases least_unlisted (listed := listed) m with h | ⟨i, hi, hu, hl⟩
    · cases hm : listed.getD m true with
      | true =>
        refine .inl fun j hj => ?_
        by_cases e : j = m
        · rw [e]; exact hm
        · exact h j (by omega)
      | false => exact .inr ⟨m, by omega, hm, h⟩
    · exact .inr ⟨i, by omega, hu, hl⟩

def open_ (listed : Array Bool) (n : Nat) : Nat := ((List.range n).filter fun j => listed.getD j true == false).length
theorem open_set {listed : Array Bool} {i : Nat} (hi : listed.getD i true = false) : ∀ n, i < n → open_ listed n = open_ (listed.setIfInBounds i true) n + 1
  | 0, h => by omega
  | n + 1, h => by
    have hsz : i < listed.size := by
      rcases Nat.lt_or_ge i listed.size with h' | h'
      · exact h'
      · simp [Array.getElem?_eq_none h'] at hi
    unfold open_
    rw [List.range_succ, List.filter_append, List.filter_append, List.length_append, List.length_append]
    by_cases hin : i = n
    · subst hin
      have e : (List.range i).filter (fun j => (listed.setIfInBounds i true).getD j true == false) = (List.range i).filter (fun j => listed.getD j true == false) := by
        refine List.filter_congr fun j hj => ?_
        rw [getD_set_ne true (by have := List.mem_range.1 hj; omega)]
      have e2 : (listed.setIfInBounds i true).getD i true = true := by simp [hsz]
      rw [e]
      simp [hsz] at hi
      simp [hsz, hi]
    · have ih := open_set hi n (by omega)
      unfold open_ at ih
      rw [ih]
      have e : (listed.setIfInBounds i true).getD n true = listed.getD n true := getD_set_ne true hin
      simp only [List.filter_cons, List.filter_nil, e]
      omega
theorem open_none {listed : Array Bool} {n : Nat} (h : ∀ j, j < n → listed.getD j true = true) : open_ listed n = 0 := by
  unfold open_
  rw [List.length_eq_zero_iff, List.filter_eq_nil_iff]
  intro j hj
  rw [h j (List.mem_range.1 hj)]; simp
section
variable {P : Program} {ops : Array Oper} {n : Nat} {zs : TypeId → List Value} {vs : Nat → Value} {w0 : World} {a0 : Act} {Q : Exit → Act → World → Prop}
theorem mix_walk (hsel : Region.noSelect ops = true) (hn : n < ops.size) (hs : Region.sinkB .any ops n = true) (hc : Region.chainB .any ops n = true) (hh : headB ops n = true)
    (hz : ∀ i o, i < n → ops[i]? = some o → isA o = true → (P.info? (tyA o)).map (·.zero) = some (some (.agg (zs (tyA o)).toArray)))
    (hv : ∀ i, i < n → SpecV P ops w0 n vs a0 i) (g : Nat)
    (hend : ∀ listed a w, MixInv ops n zs vs w0 a0 listed a w → (∀ j, j < n → listed.getD j true = true) → wpAny P .any ops Q g listed a w) :
    ∀ (f : Nat) (listed : Array Bool) (a : Act) (w : World), MixInv ops n zs vs w0 a0 listed a w → open_ listed n = f → wpAny P .any ops Q (f + g) listed a w := by
  have hap := headB_apart hh
  intro f
  induction f with
  | zero =>
    intro listed a w inv hf
    rw [Nat.zero_add]
    rcases least_unlisted (listed := listed) n with h | ⟨i, hi, hu, _⟩
    · exact hend _ _ _ inv h
    · have := open_set hu n hi; omega
  | succ f ih =>
    intro listed a w inv hf
    rcases least_unlisted (listed := listed) n with h | ⟨i, hi, hu, hl⟩
    · have := open_none h; omega
    · rw [show f + 1 + g = (f + g) + 1 by omega]
      have hosz : i < ops.size := by omega
      have hrdy : i ∈ Region.ready .any ops listed := mem_ready.2 ⟨hu, ops[i], Array.getElem?_eq_getElem hosz, fun e he hb => by
        have hlt := headB_back hh hi (Array.getElem?_eq_getElem hosz) e he hb
        have := hl e.on hlt
        have hsz : e.on < listed.size := by rw [inv.head.size]; omega
        simpa [hsz] using this⟩
      refine ⟨fun h0 => (by rw [h0] at hrdy; cases hrdy), fun j hj => ?_⟩
      have hjn : j < n := by
        rcases Nat.lt_or_ge j n with h | h
        · exact h
        · exact absurd hj (tail_waits hs hc hn inv.head _ i rfl hi hu j h)
      obtain ⟨hjun, o, hoj, hall⟩ := mem_ready.1 hj
      have hopen := open_set hjun n hjn
      have next : ∀ a' w', MixInv ops n zs vs w0 a0 (listed.setIfInBounds j true) a' w' → wpAny P .any ops Q (f + g) (listed.setIfInBounds j true) a' w' := fun a' w' h => ih _ a' w' h (by omega)
      unfold wpOp
      rw [hoj]
      show if Region.wanted o (yielded ops a.tmps) = true then _ else _
      cases hA : isA o
      · have hspec := hv j hjn o hoj hA
        obtain ⟨gs, ha, _, _⟩ := inv.act
        have hlook : ∀ t ∈ o.looksAt ops, (fr ops (fun k => decide (k < j) && !isAi ops k) vs n a0).tmps[t]? = a.tmps[t]? := by
          intro t ht
          rw [ha]
          refine fr_get t n fun k hk hd => ?_
          obtain ⟨h1, h2, h3⟩ := headB_looks hh hjn hoj hA t ht k hk hd
          obtain ⟨oj, hoj', e, he, hb, hon⟩ := Region.waitsFor_spec h3
          rw [hoj] at hoj'; cases hoj'
          have hlk := hall e he hb
          rw [hon] at hlk
          refine ⟨?_, fun _ => ?_⟩
          · rw [hlk, h2]; simp [h1]
          · unfold valG; rw [h2]; simp
        rw [wanted_looks hlook] at hspec
        split
        · rename_i hw
          refine .inl ?_
          have hg := hspec.1 hw ⟨w, inv.ext⟩
          unfold gAt at hg
          rw [execOp_looks (fun cs b => Region.noSelect_spec hsel j o cs b hoj) hlook] at hg
          unfold Oper.wp
          generalize (execOp a.eval o).run P w = r at hg ⊢
          cases r with
          | halt x w' => exact hg.elim
          | ok nx w' =>
            cases nx with
            | value u => obtain ⟨rfl, rfl⟩ := hg; exact next _ _ (inv.val hap hoj hjn hj hA (Ext.refl _))
            | skip =>
              obtain ⟨rfl, he⟩ := hg
              have := inv.val hap hoj hjn hj hA (Ext.refl _)
              rw [he] at this
              exact next _ _ this
            | enter fn args =>
              obtain ⟨rfl, hcalls⟩ := hg
              exact hcalls.mono fun e w'' ⟨he, hx⟩ => by
                subst he
                exact next _ _ (inv.val hap hoj hjn hj hA hx)
            | _ => exact hg.elim
        · rename_i hw
          have hw' : Region.wanted o (yielded ops a.tmps) = false := by simpa using hw
          have := inv.val hap hoj hjn hj hA (Ext.refl _)
          rw [hspec.2 hw'] at this
          exact next _ _ this
      · have hg := headB_guard hh hjn hoj hA
        have hw : Region.wanted o (yielded ops a.tmps) = true := by unfold Region.wanted; rw [hg]
        rw [if_pos hw]
        refine .inl ?_
        have hop : o.op = .alloc (tyA o) := by
          unfold isA at hA; unfold tyA
          split at hA
          · rename_i h; rw [h]
          · cases hA
        unfold Oper.wp
        rw [alloc_run P (tyA o) _ (hz j o hjn hoj hA) o hop a w]
        exact next _ _ (inv.new hap hoj hjn hj hA)
end

theorem fr_fold {ops : Array Oper} {S : Nat → Bool} {val : Nat → Value} {a : Act} : ∀ m, fr ops S val m a = ((List.range m).filter S).foldl (fun a i => a.put (dstOf ops i) (val i)) a
  | 0 => rfl
  | m + 1 => by
    unfold fr
    rw [List.range_succ, List.filter_append, List.foldl_append, ← fr_fold m]
    cases hS : S m
    · simp [hS]
    · simp [hS]

/-- A region whose order is drawn: a head of operations that read, of calls that make memory of their own and of new variables, and a tail in a row. -/
theorem wp_region_mix {P : Program} {id : Nat} {Q : Exit → Act → World → Prop} {a : Act} {w : World} {l : List Oper} (n : Nat) (zs : TypeId → List Value) (hm : P.follows .mixedOrders = true) (hB : mixB l.toArray n = true)
    (hz : ∀ i o, i < n → l.toArray[i]? = some o → isA o = true → (P.info? (tyA o)).map (·.zero) = some (some (.agg (zs (tyA o)).toArray)))
    (h : wpG P l.toArray w (fun aV => ∀ (gs : Nat → Nat) w', Ext w w' → (∀ i, i < n → isAi l.toArray i = true → NewAt l.toArray zs w gs w' i) →
      (∀ i j, i < n → j < n → i ≠ j → isAi l.toArray i = true → isAi l.toArray j = true → gs i ≠ gs j) →
      wpList P l.toArray Q (l.drop n) (((List.range n).filter (isAi l.toArray)).foldl (fun a i => a.put (dstOf l.toArray i) (.pointer (some ⟨gs i, 0, none⟩))) aV) w') (l.take n) a) : (Code.region id l.toArray true).wp P Q a w := by
  unfold mixB at hB
  simp only [Bool.and_eq_true, decide_eq_true_eq] at hB
  obtain ⟨⟨⟨⟨⟨hsel, hn⟩, hs⟩, hc⟩, hh⟩, hseq⟩ := hB
  have hap := headB_apart hh
  have hn' : n < l.length := by simpa using hn
  have hfr0 : ∀ (v : Nat → Value) m, fr l.toArray (fun j => decide (j < 0) && !isAi l.toArray j) v m a = a := by
    intro v m
    induction m with
    | zero => rfl
    | succ m ih => unfold fr; simpa using ih
  obtain ⟨vs, hv, hK⟩ := wpG_spec hap a (l.take n) 0 (fun _ => undef) (fun j hj => by
    have hj' : j < n := by simp at hj; omega
    simp [hj']) (by simp; omega) (by rw [hfr0]; exact h) (fun i hi => by omega)
  refine wp_region_any hm ?_
  have hsz : (Array.replicate l.toArray.size false).size = l.toArray.size := by simp
  have inv0 : HeadInv .any l.toArray n (Array.replicate l.toArray.size false) :=
    ⟨by simp, fun j oj _ hl => (by rw [getD_replicate_false] at hl; cases hl), fun t _ ht => getD_in (by simpa using ht) (getD_replicate_false _ _)⟩
  have mi0 : MixInv l.toArray n zs vs w a (Array.replicate l.toArray.size false) a { w with drawn := w.drawn + 1 } := by
    refine ⟨inv0, Ext.drew w, fun _ => 0, ?_, fun i _ _ hl => (by rw [getD_replicate_false] at hl; cases hl), fun i j _ _ _ _ _ hl => (by rw [getD_replicate_false] at hl; cases hl)⟩
    have : ∀ m, fr l.toArray (fun j => (Array.replicate l.toArray.size false).getD j false) (valG l.toArray vs fun _ => 0) m a = a := by
      intro m
      induction m with
      | zero => rfl
      | succ m ih => unfold fr; rw [getD_replicate_false]; simpa using ih
    exact (this n).symm
  have hopen0 : open_ (Array.replicate l.toArray.size false) n = n := by
    unfold open_
    rw [List.filter_eq_self.2 (fun j hj => by
      have hj' := List.mem_range.1 hj
      rw [getD_in (by simp; omega) (getD_replicate_false _ _)]; rfl)]
    simp
  have hdl : (l.drop n).length = l.toArray.size - n := by simp
  have W := mix_walk (Q := Q) hsel hn hs hc hh hz hv (l.toArray.size - n) (fun listed a' w' inv hall => by
    obtain ⟨gs, ha, hnw, hds⟩ := inv.act
    have hlist : listed = ((List.range l.toArray.size).map (fun i => decide (i < n))).toArray := by
      refine Array.ext (by simp [inv.head.size]) fun j h1 h2 => ?_
      have hj : j < l.toArray.size := by rw [← inv.head.size]; exact h1
      simp only [List.getElem_toArray, List.getElem_map, List.getElem_range]
      by_cases hjn : j < n
      · have := hall j hjn
        simp [h1] at this
        simp [this, hjn]
      · have := inv.head.tail j (by omega) hj
        simp [h1] at this
        simp [this]; omega
    have hl1 : ∀ j, j < n → listed.getD j false = true := fun j hj => by
      have := hall j hj
      have h1 : j < listed.size := by rw [inv.head.size]; omega
      simpa [h1] using this
    have hact : a' = ((List.range n).filter (isAi l.toArray)).foldl (fun a i => a.put (dstOf l.toArray i) (.pointer (some ⟨gs i, 0, none⟩))) (fr l.toArray (fun j => !isAi l.toArray j) vs n a) := by
      rw [ha]
      have e1 : fr l.toArray (fun j => listed.getD j false) (valG l.toArray vs gs) n a = fr l.toArray (fun j => isAi l.toArray j || !isAi l.toArray j) (valG l.toArray vs gs) n a :=
        fr_congr n fun j hj => ⟨by rw [hl1 j hj]; cases isAi l.toArray j <;> rfl, fun _ => rfl⟩
      rw [e1, fr_union n hap (isAi l.toArray) (fun j => !isAi l.toArray j) (fun j hj => by simp [hj]) n (Nat.le_refl n)]
      have e2 : fr l.toArray (fun j => !isAi l.toArray j) (valG l.toArray vs gs) n a = fr l.toArray (fun j => !isAi l.toArray j) vs n a :=
        fr_congr n fun j _ => ⟨rfl, fun hj => by unfold valG; simp at hj; rw [hj]; simp⟩
      rw [e2]
      have e3 : ∀ x, fr l.toArray (isAi l.toArray) (valG l.toArray vs gs) n x = fr l.toArray (isAi l.toArray) (fun i => .pointer (some ⟨gs i, 0, none⟩)) n x := fun x =>
        fr_congr n fun j _ => ⟨rfl, fun hj => by unfold valG; rw [if_pos hj]⟩
      rw [e3, fr_fold n]
    have hfin := hK gs w' inv.ext (fun i hi hA => hnw i hi hA (hl1 i hi)) (fun i j hi hj hne hA hA' => hds i j hi hj hne hA hA' (hl1 i hi) (hl1 j hj))
    rw [← hact] at hfin
    have := wpAny_of_seq (md := .any) (Q' := Q) (l.drop n) n listed a' w' (fun j => by simp [List.getElem?_drop]) (by rw [hdl, hlist]; exact hseq) hfin
    rwa [hdl] at this) n _ _ _ mi0 hopen0
  rw [show n + (l.toArray.size - n) = l.toArray.size by omega] at W
  exact W
theorem wpG_mono {P : Program} {ops : Array Oper} {w0 : World} {K K' : Act → Prop} (hk : ∀ a, K a → K' a) : ∀ (l : List Oper) (a : Act), wpG P ops w0 K l a → wpG P ops w0 K' l a
  | [], a, h => hk a h
  | o :: r, a, h => by
    unfold wpG at h ⊢
    split
    · rename_i hA; rw [if_pos hA] at h; exact wpG_mono hk r a h
    · rename_i hA
      rw [if_neg hA] at h
      split
      · rename_i hw
        rw [if_pos hw] at h
        obtain ⟨v, hv, hK⟩ := h
        exact ⟨v, hv, wpG_mono hk r _ hK⟩
      · rename_i hw; rw [if_neg hw] at h; exact wpG_mono hk r _ h
theorem wp_region_mix0 {P : Program} {id : Nat} {Q : Exit → Act → World → Prop} {a : Act} {w : World} {l : List Oper} (n : Nat) (hm : P.follows .mixedOrders = true) (hB : mixB l.toArray n = true)
    (has : (List.range n).filter (isAi l.toArray) = [])
    (h : wpG P l.toArray w (fun aV => ∀ w', Ext w w' → wpList P l.toArray Q (l.drop n) aV w') (l.take n) a) : (Code.region id l.toArray true).wp P Q a w := by
  have hno : ∀ j, j < n → isAi l.toArray j = true → False := fun j hj hA => by
    have : j ∈ (List.range n).filter (isAi l.toArray) := List.mem_filter.2 ⟨List.mem_range.2 hj, hA⟩
    rw [has] at this; cases this
  refine wp_region_mix n (fun _ => []) hm hB (fun j o hj ho hA => (hno j hj (by rw [isAi_of ho]; exact hA)).elim) ?_
  rw [has]
  refine wpG_mono (fun aV hh gs w' he _ _ => hh w' he) _ _ h
theorem wp_region_mix1 {P : Program} {id : Nat} {Q : Exit → Act → World → Prop} {a : Act} {w : World} {l : List Oper} (n i d t : Nat) (zs : List Value) (hm : P.follows .mixedOrders = true) (hB : mixB l.toArray n = true)
    (has : (List.range n).filter (isAi l.toArray) = [i]) (hd : (l.toArray[i]?).map (fun o => (o.dst, tyA o)) = some (some d, t)) (hz : (P.info? t).map (·.zero) = some (some (.agg zs.toArray)))
    (h : wpG P l.toArray w (fun aV => ∀ g w', Ext w w' → w.heap.size ≤ g → Blk w' g t zs → wpList P l.toArray Q (l.drop n) (aV.put (some d) (.pointer (some ⟨g, 0, none⟩))) w') (l.take n) a) : (Code.region id l.toArray true).wp P Q a w := by
  obtain ⟨oi, hoi, hoe⟩ := Option.map_eq_some_iff.1 hd
  obtain ⟨h1, h2⟩ := Prod.mk.inj hoe
  have hno : ∀ j, j < n → isAi l.toArray j = true → j = i := fun j hj hA => by
    have : j ∈ (List.range n).filter (isAi l.toArray) := List.mem_filter.2 ⟨List.mem_range.2 hj, hA⟩
    rw [has] at this; simpa using this
  have hin : i ∈ (List.range n).filter (isAi l.toArray) := by rw [has]; simp
  have hi := List.mem_range.1 (List.mem_filter.1 hin).1
  have hiA := (List.mem_filter.1 hin).2
  refine wp_region_mix n (fun _ => zs) hm hB (fun j o hj ho hA => ?_) ?_
  · have hji := hno j hj (by rw [isAi_of ho]; exact hA)
    subst hji
    rw [hoi] at ho; cases ho
    rw [h2]; exact hz
  · rw [has]
    refine wpG_mono (fun aV hh gs w' he hn _ => ?_) _ _ h
    have hg := hn i hi hiA
    have hb := hg.blk oi hoi
    rw [h2] at hb
    have := hh (gs i) w' he hg.base hb
    show wpList P l.toArray Q (l.drop n) (aV.put (dstOf l.toArray i) _) w'
    rw [dstOf_of hoi, h1]; exact this
theorem wp_region_mix2 {P : Program} {id : Nat} {Q : Exit → Act → World → Prop} {a : Act} {w : World} {l : List Oper} (n i d t : Nat) (zs : List Value) (i' d' t' : Nat) (zs' : List Value) (hm : P.follows .mixedOrders = true) (hB : mixB l.toArray n = true)
    (has : (List.range n).filter (isAi l.toArray) = [i, i']) (hne : i ≠ i') (hd : (l.toArray[i]?).map (fun o => (o.dst, tyA o)) = some (some d, t)) (hz : (P.info? t).map (·.zero) = some (some (.agg zs.toArray)))
    (hd' : (l.toArray[i']?).map (fun o => (o.dst, tyA o)) = some (some d', t')) (hz' : (P.info? t').map (·.zero) = some (some (.agg zs'.toArray)))
    (h : wpG P l.toArray w (fun aV => ∀ g g' w', Ext w w' → w.heap.size ≤ g → w.heap.size ≤ g' → g ≠ g' → Blk w' g t zs → Blk w' g' t' zs' → wpList P l.toArray Q (l.drop n) ((aV.put (some d) (.pointer (some ⟨g, 0, none⟩))).put (some d') (.pointer (some ⟨g', 0, none⟩))) w') (l.take n) a) : (Code.region id l.toArray true).wp P Q a w := by
  obtain ⟨oi, hoi, hoe⟩ := Option.map_eq_some_iff.1 hd
  obtain ⟨h1, h2⟩ := Prod.mk.inj hoe
  obtain ⟨oi', hoi', hoe'⟩ := Option.map_eq_some_iff.1 hd'
  obtain ⟨h1', h2'⟩ := Prod.mk.inj hoe'
  have hno : ∀ j, j < n → isAi l.toArray j = true → j = i ∨ j = i' := fun j hj hA => by
    have : j ∈ (List.range n).filter (isAi l.toArray) := List.mem_filter.2 ⟨List.mem_range.2 hj, hA⟩
    rw [has] at this; simpa using this
  have hin : i ∈ (List.range n).filter (isAi l.toArray) := by rw [has]; simp
  have hin' : i' ∈ (List.range n).filter (isAi l.toArray) := by rw [has]; simp
  have hi := List.mem_range.1 (List.mem_filter.1 hin).1
  have hi' := List.mem_range.1 (List.mem_filter.1 hin').1
  by_cases htt : t = t' ∧ zs ≠ zs'
  · exfalso
    rw [htt.1, hz'] at hz
    simp at hz
    exact htt.2 hz.symm
  refine wp_region_mix n (fun x => if x = t then zs else zs') hm hB (fun j o hj ho hA => ?_) ?_
  · rcases hno j hj (by rw [isAi_of ho]; exact hA) with rfl | rfl
    · rw [hoi] at ho; cases ho
      rw [h2, if_pos rfl]; exact hz
    · rw [hoi'] at ho; cases ho
      rw [h2']
      by_cases e : t' = t
      · rw [if_pos e]
        have : zs = zs' := Classical.byContradiction fun hh => htt ⟨e.symm, hh⟩
        rw [this]; exact hz'
      · rw [if_neg e]; exact hz'
  · rw [has]
    refine wpG_mono (fun aV hh gs w' he hn hdist => ?_) _ _ h
    have hg := hn i hi (List.mem_filter.1 hin).2
    have hg' := hn i' hi' (List.mem_filter.1 hin').2
    have hb := hg.blk oi hoi
    have hb' := hg'.blk oi' hoi'
    rw [h2, if_pos rfl] at hb
    have hb2 : Blk w' (gs i') t' zs' := by
      rw [h2'] at hb'
      by_cases e : t' = t
      · rw [if_pos e] at hb'
        have : zs = zs' := Classical.byContradiction fun hh => htt ⟨e.symm, hh⟩
        rw [← this]; exact hb'
      · rw [if_neg e] at hb'; exact hb'
    have := hh (gs i) (gs i') w' he hg.base hg'.base (hdist i i' hi hi' hne (List.mem_filter.1 hin).2 (List.mem_filter.1 hin').2) hb hb2
    show wpList P l.toArray Q (l.drop n) ((aV.put (dstOf l.toArray i) _).put (dstOf l.toArray i') _) w'
    rw [dstOf_of hoi, h1, dstOf_of hoi', h1']; exact this

theorem wpG_stepA {P : Program} {ops : Array Oper} {w0 : World} {K : Act → Prop} {o : Oper} {r : List Oper} {a : Act} (hA : isA o = true) (h : wpG P ops w0 K r a) : wpG P ops w0 K (o :: r) a := by
  unfold wpG; rw [if_pos hA]; exact h
theorem wpG_step {P : Program} {ops : Array Oper} {w0 : World} {K : Act → Prop} {o : Oper} {r : List Oper} {a : Act} (hA : isA o = false)
    (h : ∀ K' : Act → Prop, (∀ a', wpG P ops w0 K r a' → K' a') → if Region.wanted o (yielded ops a.tmps) = true then gOp P o a w0 K' else K' (a.put o.dst undef)) : wpG P ops w0 K (o :: r) a := by
  unfold wpG
  rw [if_neg (by rw [hA]; simp)]
  exact h _ fun _ hh => hh
theorem wpG_want {P : Program} {ops : Array Oper} {w0 : World} {K : Act → Prop} {o : Oper} {r : List Oper} {a : Act} (hA : isA o = false) (hw : Region.wanted o (yielded ops a.tmps) = true)
    (h : ∀ K' : Act → Prop, (∀ a', wpG P ops w0 K r a' → K' a') → gOp P o a w0 K') : wpG P ops w0 K (o :: r) a := by
  unfold wpG
  rw [if_neg (by rw [hA]; simp), if_pos hw]
  exact h _ fun _ hh => hh
theorem wpG_skip {P : Program} {ops : Array Oper} {w0 : World} {K : Act → Prop} {o : Oper} {r : List Oper} {a : Act} (hA : isA o = false) (hw : Region.wanted o (yielded ops a.tmps) = false)
    (h : wpG P ops w0 K r (a.put o.dst undef)) : wpG P ops w0 K (o :: r) a := by
  unfold wpG
  rw [if_neg (by rw [hA]; simp), if_neg (by rw [hw]; simp)]
  exact h
theorem wpG_nil {P : Program} {ops : Array Oper} {w0 : World} {K : Act → Prop} {a : Act} (h : K a) : wpG P ops w0 K [] a := h
/-- An operation that yields a value at once. -/
theorem gOp_val {P : Program} {o : Oper} {a : Act} {w0 : World} {K : Act → Prop} (v : Value) (h : ∀ x : ExtW w0, (execOp a.eval o).run P x.w = .ok (.value v) x.w) (hK : K (a.put o.dst v)) : gOp P o a w0 K :=
  ⟨v, fun x => by unfold gAt; rw [h x]; exact ⟨rfl, rfl⟩, hK⟩
/-- A load of a whole struct or array out of a block of the world that the region began in. -/
theorem gOp_ld {P : Program} {o : Oper} {a : Act} {w0 : World} {K : Act → Prop} {g : Nat} {t : TypeId} {cs : List Value} (hb : Blk w0 g t cs) (off : Nat) (vs : List Value) (ty : TypeId) (x : Operand) (ho : o.op = .load ty x) (hx : a.eval x = .pointer (some ⟨g, off, none⟩)) (d : TypeDesc)
    (hu : P.underlying ty = some d) (hd : d.isRow = true) (hi : (P.info? ty).map (·.size) = some vs.length) (hv : ∀ j v, vs[j]? = some v → cs[off + j]? = some v)
    (hK : K (a.put o.dst (.agg vs.toArray))) : gOp P o a w0 K :=
  ⟨.agg vs.toArray, fun xw => by
    unfold gAt
    unfold execOp
    simp only [ho, hx, Instr.loadAt, Instr.sureAddr, Sem.run_bind, Sem.run_pure, Result.andThen_ok, run_loadVar_mid xw.w g off ty vs d ((hb.ext xw.h).range off vs hv) hu hd hi]
    exact ⟨rfl, rfl⟩, hK⟩
attribute [go_sem] gOp gAt gUpon
end Go.Proofs.Ytldeiolmpmcanaa
