/- A row whose order is drawn comes to what the order of the text comes to. No conditions but the ones that stand in each. -/
import Derived.Test.YtblimjilinkmbaaAi
import Derived.StillTail
namespace Go.Proofs.Ytblimjilinkmbaa
set_option linter.all false
set_option linter.unusedSimpArgs false
open Go.RowKit

def dirs (o : Oper) : List Nat := (o.after.toList.filter fun e => Region.binds .any e).map (·.on)
/-- What is ahead of each operation, whatever is drawn. -/
def ancM (acc : List Nat) : List Nat → Nat
  | [] => 0
  | e :: r => (ancM acc r ||| (1 <<< e)) ||| acc.getD e 0
def ancOf : List Oper → List Nat → List Nat
  | [], acc => acc
  | o :: r, acc => ancOf r (acc ++ [ancM acc (dirs o)])
theorem ancM_bit (acc : List Nat) (i : Nat) : ∀ l : List Nat, (ancM acc l).testBit i = true → i ∈ l ∨ ∃ e ∈ l, (acc.getD e 0).testBit i = true
  | [], h => by simp [ancM] at h
  | e :: r, h => by
    simp only [ancM, Nat.testBit_or, Bool.or_eq_true] at h
    rcases h with (h | h) | h
    · rcases ancM_bit acc i r h with h | ⟨x, hx, h⟩
      · exact .inl (by simp [h])
      · exact .inr ⟨x, by simp [hx], h⟩
    · rw [Nat.one_shiftLeft, Nat.testBit_two_pow] at h
      exact .inl (by simp at h; simp [h])
    · exact .inr ⟨e, by simp, h⟩
/-- Every edge goes back. -/
def backB (ops : Array Oper) : Bool := (List.range ops.size).all fun j => match ops[j]? with
  | some o => (dirs o).all (· < j)
  | none => true

theorem ancOf_ok {ops : Array Oper} {L : Nat → Prop} (hcl : ∀ (j : Nat) o, ops[j]? = some o → L j → ∀ e ∈ dirs o, L e) : ∀ (l : List Oper) (acc : List Nat), (∀ i, l[i]? = ops[acc.length + i]?) →
    (∀ j, j < acc.length → L j → ∀ i, (acc.getD j 0).testBit i = true → L i) → ∀ j, L j → ∀ i, ((ancOf l acc).getD j 0).testBit i = true → L i
  | [], acc, _, h, j, hj, i, hi => by
    by_cases hlt : j < acc.length
    · exact h j hlt hj i hi
    · have : acc.getD j 0 = 0 := by simp [List.getD, Nat.le_of_not_lt hlt]
      rw [ancOf, this] at hi; simp at hi
  | o :: r, acc, hl, h, j, hj, i, hi => by
    refine ancOf_ok hcl r (acc ++ [ancM acc (dirs o)]) (fun k => ?_) (fun k hk hLk m hm => ?_) j hj i hi
    · have := hl (k + 1)
      simp only [List.getElem?_cons_succ] at this
      rw [this]
      congr 1
      simp; omega
    · by_cases hlt : k < acc.length
      · have : (acc ++ [ancM acc (dirs o)]).getD k 0 = acc.getD k 0 := by
          simp only [List.getD]; rw [List.getElem?_append_left hlt]
        rw [this] at hm
        exact h k hlt hLk m hm
      · have hk' : k = acc.length := by simp at hk; omega
        subst hk'
        have : (acc ++ [ancM acc (dirs o)]).getD acc.length 0 = ancM acc (dirs o) := by
          simp [List.getD]
        rw [this] at hm
        have ho : ops[acc.length]? = some o := by have := hl 0; simpa using this.symm
        rcases ancM_bit _ _ _ hm with hm | ⟨e, he, hme⟩
        · exact hcl _ o ho hLk m hm
        · have hLe := hcl _ o ho hLk e he
          by_cases hlt' : e < acc.length
          · exact h e hlt' hLe m hme
          · have : acc.getD e 0 = 0 := by simp [List.getD, Nat.le_of_not_lt hlt']
            rw [this] at hme; simp at hme

theorem clashAll_ok {anc : Nat} {y : Foot} : ∀ (l : List Foot) (k : Nat), clashAll anc y k l = true → ∀ i (hi : i < l.length), clash l[i] y = true → anc.testBit (k + i) = true
  | x :: l, k, h, i, hi, hc => by
    simp only [clashAll, Bool.and_eq_true, Bool.or_eq_true, Bool.not_eq_true'] at h
    cases i with
    | zero =>
      rcases h.1 with h1 | h1
      · simp at hc; rw [hc] at h1; cases h1
      · simpa using h1
    | succ i =>
      have := clashAll_ok l (k + 1) h.2 i (by simpa using hi) (by simpa using hc)
      rwa [show k + 1 + i = k + (i + 1) by omega] at this
  | [], _, _, i, hi, _ => absurd hi (by simp)
theorem drawOk_ok {anc : List Nat} : ∀ (l pre : List Foot), drawOk anc pre l = true → ∀ j (hj : j < l.length) i (hi : i < (pre ++ l).length), i < pre.length + j → clash (pre ++ l)[i] l[j] = true → (anc.getD (pre.length + j) 0).testBit i = true
  | y :: l, pre, h, j, hj, i, hi, hlt, hc => by
    simp only [drawOk, Bool.and_eq_true] at h
    cases j with
    | zero =>
      have hi' : i < pre.length := by omega
      have := clashAll_ok pre 0 h.1 i hi' (by simpa [List.getElem_append_left hi'] using hc)
      simpa using this
    | succ j =>
      have := drawOk_ok l (pre ++ [y]) h.2 j (by simpa using hj) i (by simpa using hi) (by simp; omega) (by simpa using hc)
      simp only [List.length_append, List.length_singleton] at this
      rwa [show pre.length + 1 + j = pre.length + (j + 1) by omega] at this
  | [], _, _, j, hj, _, _, _, _ => absurd hj (by simp)

section
variable {P : Program} {c : Cx} {ops : Array Oper}

theorem XD_chain {anc : List Nat} {K : St → Prop} : ∀ (os : List Oper) (l : List TOp) (fs : List Foot) (s : St), elabs P c.N ops os = some l → XD P c anc l fs K s →
    ∃ (S : Nat → FS) (F : Nat → Foot) (sn : St), S 0 = s.fs ∧ (∀ j o, os[j]? = some o → AOk P c ops o (S j) (F j) (S (j + 1))) ∧ sn.fs = S os.length ∧ K sn ∧ drawOk anc [] (fs.reverse ++ (List.range os.length).map F) = true
  | [], l, fs, s, he, h => by
    simp [elabs] at he; subst he
    exact ⟨fun _ => s.fs, fun _ => ⟨[], [], [], []⟩, s, rfl, fun j o h => by simp at h, rfl, h.2, by simpa using h.1⟩
  | o :: os, l, fs, s, he, h => by
    unfold elabs at he
    split at he
    · rename_i x l' hx hl
      simp at he; subst he
      obtain ⟨F0, s', hA, hr⟩ := XD_step h
      obtain ⟨S, F, sn, h1, h2, h3, h4, h5⟩ := XD_chain os l' (F0 :: fs) s' hl hr
      refine ⟨fun j => match j with | 0 => s.fs | j + 1 => S j, fun j => match j with | 0 => F0 | j + 1 => F j, sn, rfl, fun j o' ho => ?_, h3, h4, ?_⟩
      · cases j with
        | zero =>
          simp at ho; subst ho
          have := hA ops o hx
          simpa [h1] using this
        | succ j => exact h2 j o' (by simpa using ho)
      · rw [List.length_cons, List.range_succ_eq_map]
        simp only [List.map_cons, List.map_map]
        simp only [List.reverse_cons, List.append_assoc, List.singleton_append] at h5
        exact h5
    · cases he

/-- The state behind those of the first m operations that are listed. -/
def SL (L : Nat → Bool) (S : Nat → FS) (F : Nat → Foot) : Nat → FS
  | 0 => S 0
  | m + 1 => if L m then ovr (SL L S F m) (S (m + 1)) (F m) else SL L S F m

def Clash (x y : Foot) : Prop := (∃ i ∈ x.wt, i ∈ y.rt ∨ i ∈ y.wt) ∨ (∃ i ∈ y.wt, i ∈ x.rt) ∨ (∃ i ∈ x.wb, i ∈ y.rb ∨ i ∈ y.wb) ∨ (∃ i ∈ y.wb, i ∈ x.rb)
theorem clash_of {x y : Foot} (h : Clash x y) : clash x y = true := by
  unfold clash
  simp only [Bool.or_eq_true, List.any_eq_true, List.contains_iff_mem]
  rcases h with h | h | h | h
  · exact .inl (.inl (.inl h))
  · exact .inl (.inl (.inr h))
  · exact .inl (.inr h)
  · exact .inr h

structure Ch (n : Nat) (S : Nat → FS) (F : Nat → Foot) (A : Nat → List Nat) : Prop where
  outT : ∀ j, j < n → ∀ i, i ∉ (F j).wt → (S (j + 1)).T i = (S j).T i
  outH : ∀ j, j < n → ∀ i, i ∉ (F j).wb → (S (j + 1)).H i = (S j).H i
  clash : ∀ i j, i < j → j < n → Clash (F i) (F j) → i ∈ A j

variable {n : Nat} {S : Nat → FS} {F : Nat → Foot} {A : Nat → List Nat} {L : Nat → Bool}

theorem SL_T {m i : Nat} : (SL L S F (m + 1)).T i = if L m = true ∧ i ∈ (F m).wt then (S (m + 1)).T i else (SL L S F m).T i := by
  have e : SL L S F (m + 1) = if L m then ovr (SL L S F m) (S (m + 1)) (F m) else SL L S F m := rfl
  rw [e]
  split
  · rename_i h; simp only [ovr, h, true_and]
  · rename_i h; rw [if_neg (fun x => h x.1)]
theorem SL_H {m i : Nat} : (SL L S F (m + 1)).H i = if L m = true ∧ i ∈ (F m).wb then (S (m + 1)).H i else (SL L S F m).H i := by
  have e : SL L S F (m + 1) = if L m then ovr (SL L S F m) (S (m + 1)) (F m) else SL L S F m := rfl
  rw [e]
  split
  · rename_i h; simp only [ovr, h, true_and]
  · rename_i h; rw [if_neg (fun x => h x.1)]

theorem SL_readT (hc : Ch n S F A) {j : Nat} (hj : j < n) (hLj : L j = false) (hanc : ∀ i ∈ A j, i < j → L i = true) (hcl : ∀ m, m < n → L m = true → ∀ i ∈ A m, L i = true) {t : Nat} (ht : t ∈ (F j).rt) : ∀ m, m ≤ n → (SL L S F m).T t = (S (min m j)).T t
  | 0, _ => by simp [SL]
  | m + 1, hm => by
    have ih := SL_readT hc hj hLj hanc hcl ht m (by omega)
    rw [SL_T, ih]
    by_cases hmj : m < j
    · rw [show min (m + 1) j = m + 1 by omega, show min m j = m by omega]
      by_cases hw : t ∈ (F m).wt
      · have : L m = true := hanc m (hc.clash m j hmj hj (.inl ⟨t, hw, .inl ht⟩)) hmj
        rw [if_pos ⟨this, hw⟩]
      · rw [if_neg (fun x => hw x.2), hc.outT m (by omega) t hw]
    · rw [show min (m + 1) j = j by omega, show min m j = j by omega]
      rw [if_neg]
      rintro ⟨h1, h2⟩
      by_cases he : m = j
      · subst he; rw [hLj] at h1; cases h1
      · have := hcl m (by omega) h1 j (hc.clash j m (by omega) (by omega) (.inr (.inl ⟨t, h2, ht⟩)))
        rw [hLj] at this; cases this
theorem SL_readH (hc : Ch n S F A) {j : Nat} (hj : j < n) (hLj : L j = false) (hanc : ∀ i ∈ A j, i < j → L i = true) (hcl : ∀ m, m < n → L m = true → ∀ i ∈ A m, L i = true) {t : Nat} (ht : t ∈ (F j).rb) : ∀ m, m ≤ n → (SL L S F m).H t = (S (min m j)).H t
  | 0, _ => by simp [SL]
  | m + 1, hm => by
    have ih := SL_readH hc hj hLj hanc hcl ht m (by omega)
    rw [SL_H, ih]
    by_cases hmj : m < j
    · rw [show min (m + 1) j = m + 1 by omega, show min m j = m by omega]
      by_cases hw : t ∈ (F m).wb
      · have : L m = true := hanc m (hc.clash m j hmj hj (.inr (.inr (.inl ⟨t, hw, .inl ht⟩)))) hmj
        rw [if_pos ⟨this, hw⟩]
      · rw [if_neg (fun x => hw x.2), hc.outH m (by omega) t hw]
    · rw [show min (m + 1) j = j by omega, show min m j = j by omega]
      rw [if_neg]
      rintro ⟨h1, h2⟩
      by_cases he : m = j
      · subst he; rw [hLj] at h1; cases h1
      · have := hcl m (by omega) h1 j (hc.clash j m (by omega) (by omega) (.inr (.inr (.inr ⟨t, h2, ht⟩))))
        rw [hLj] at this; cases this

theorem ovr_comm {s x y : FS} {X Y : Foot} (h1 : ∀ i ∈ X.wt, i ∉ Y.wt) (h2 : ∀ i ∈ X.wb, i ∉ Y.wb) : ovr (ovr s x X) y Y = ovr (ovr s y Y) x X := by
  unfold ovr
  congr 1
  · funext i
    by_cases hy : i ∈ Y.wt <;> by_cases hx : i ∈ X.wt <;> simp only [hx, hy, if_true, if_false]
    exact absurd hy (h1 i hx)
  · funext i
    by_cases hy : i ∈ Y.wb <;> by_cases hx : i ∈ X.wb <;> simp only [hx, hy, if_true, if_false]
    exact absurd hy (h2 i hx)

theorem SL_add (hc : Ch n S F A) {j : Nat} (hLj : L j = false) (hcl : ∀ m, m < n → L m = true → ∀ i ∈ A m, L i = true) {L' : Nat → Bool} (hj' : L' j = true) (ho : ∀ i, i ≠ j → L' i = L i) :
    ∀ m, m ≤ n → SL L' S F m = if m ≤ j then SL L S F m else ovr (SL L S F m) (S (j + 1)) (F j)
  | 0, _ => by simp [SL]
  | m + 1, hm => by
    have ih := SL_add hc hLj hcl hj' ho m (by omega)
    have e : ∀ L, SL L S F (m + 1) = if L m then ovr (SL L S F m) (S (m + 1)) (F m) else SL L S F m := fun _ => rfl
    by_cases hmj : m < j
    · rw [if_pos (by omega)]
      rw [if_pos (by omega)] at ih
      rw [e, e, ih, ho m (by omega)]
    · rw [if_neg (by omega)]
      by_cases he : m = j
      · subst he
        rw [if_pos (Nat.le_refl _)] at ih
        rw [e, e, ih, hj', hLj]
        simp
      · rw [if_neg (by omega)] at ih
        rw [e, e, ih, ho m he]
        split
        · rename_i hLm
          have hno : ¬ Clash (F j) (F m) := fun hcl' => by
            have := hcl m (by omega) hLm j (hc.clash j m (by omega) (by omega) hcl')
            rw [hLj] at this; cases this
          exact ovr_comm (fun i hi hi' => hno (.inl ⟨i, hi, .inr hi'⟩)) (fun i hi hi' => hno (.inr (.inr (.inl ⟨i, hi, .inr hi'⟩))))
        · rfl

theorem SL_all (hc : Ch n S F A) (h : ∀ j, j < n → L j = true) : ∀ m, m ≤ n → SL L S F m = S m
  | 0, _ => rfl
  | m + 1, hm => by
    have e : SL L S F (m + 1) = if L m then ovr (SL L S F m) (S (m + 1)) (F m) else SL L S F m := rfl
    rw [e, h m (by omega), SL_all hc h m (by omega)]
    exact ovr_self (hc.outT m (by omega)) (hc.outH m (by omega))
theorem SL_none : ∀ m, (∀ j, j < m → L j = false) → SL L S F m = S 0
  | 0, _ => rfl
  | m + 1, h => by
    have e : SL L S F (m + 1) = if L m then ovr (SL L S F m) (S (m + 1)) (F m) else SL L S F m := rfl
    rw [e, h m (by omega), SL_none m fun j hj => h j (by omega)]
    simp

theorem leastUn {listed : Array Bool} : ∀ m, (∀ j, j < m → listed.getD j true = true) ∨ ∃ i, i < m ∧ listed.getD i true = false ∧ ∀ j, j < i → listed.getD j true = true
  | 0 => .inl fun j hj => by omega
  | m + 1 => by
    rcases leastUn (listed := listed) m with h | ⟨i, hi, hu, hl⟩
    · cases hm : listed.getD m true with
      | true =>
        refine .inl fun j hj => ?_
        by_cases e : j = m
        · rw [e]; exact hm
        · exact h j (by omega)
      | false => exact .inr ⟨m, by omega, hm, h⟩
    · exact .inr ⟨i, by omega, hu, hl⟩
def opn (listed : Array Bool) (n : Nat) : Nat := ((List.range n).filter fun j => listed.getD j true == false).length
theorem opn_set {listed : Array Bool} {i : Nat} (hi : listed.getD i true = false) : ∀ n, i < n → opn listed n = opn (listed.setIfInBounds i true) n + 1
  | 0, h => by omega
  | n + 1, h => by
    have hsz : i < listed.size := by
      rcases Nat.lt_or_ge i listed.size with h' | h'
      · exact h'
      · simp [Array.getElem?_eq_none h'] at hi
    unfold opn
    rw [List.range_succ, List.filter_append, List.filter_append, List.length_append, List.length_append]
    by_cases hin : i = n
    · subst hin
      have e : (List.range i).filter (fun j => (listed.setIfInBounds i true).getD j true == false) = (List.range i).filter (fun j => listed.getD j true == false) := by
        refine List.filter_congr fun j hj => ?_
        rw [getD_set_ne true (by have := List.mem_range.1 hj; omega)]
      rw [e]
      simp [hsz] at hi
      simp [hsz, hi]
    · have ih := opn_set hi n (by omega)
      unfold opn at ih
      rw [ih]
      have e : (listed.setIfInBounds i true).getD n true = listed.getD n true := getD_set_ne true hin
      simp only [List.filter_cons, List.filter_nil, e]
      omega
theorem opn_none {listed : Array Bool} {n : Nat} (h : ∀ j, j < n → listed.getD j true = true) : opn listed n = 0 := by
  unfold opn
  rw [List.length_eq_zero_iff, List.filter_eq_nil_iff]
  intro j hj
  rw [h j (List.mem_range.1 hj)]; simp

theorem binds_dirs {o : Oper} {e : Nat} (h : e ∈ dirs o) : ∃ x ∈ o.after, Region.binds .any x = true ∧ x.on = e := by
  unfold dirs at h
  obtain ⟨x, hx, rfl⟩ := List.mem_map.1 h
  obtain ⟨h1, h2⟩ := List.mem_filter.1 hx
  exact ⟨x, by simpa using h1, h2, rfl⟩
theorem dirs_binds {o : Oper} {x : Edge} (h : x ∈ o.after) (hb : Region.binds .any x = true) : x.on ∈ dirs o := by
  unfold dirs
  exact List.mem_map.2 ⟨x, List.mem_filter.2 ⟨by simpa using h, hb⟩, rfl⟩

theorem draw_walk {Q : Exit → Act → World → Prop} (hn : n = ops.size) (hback : backB ops = true) (hc : Ch n S F A) (hanc : ∀ L' : Nat → Bool, (∀ (j : Nat) o, ops[j]? = some o → L' j = true → ∀ e ∈ dirs o, L' e = true) → ∀ j, L' j = true → ∀ i ∈ A j, L' i = true)
    (hA : ∀ j o, ops[j]? = some o → AOk P c ops o (S j) (F j) (S (j + 1))) (hend : ∀ g a w, R c g (S n) a w → Q .normal a w) :
    ∀ (f : Nat) (listed : Array Bool) (g : Nat → GM) (a : Act) (w : World), HeadInv .any ops n listed → R c g (SL (fun j => listed.getD j false) S F n) a w → opn listed n = f → wpAny P .any ops Q f listed a w := by
  intro f
  induction f with
  | zero =>
    intro listed g a w inv hR hf
    have hall : ∀ j, j < n → listed.getD j true = true := by
      rcases leastUn (listed := listed) n with h | ⟨i, hi, hu, _⟩
      · exact h
      · have := opn_set hu n hi; omega
    refine ⟨?_, hend g a w ?_⟩
    · rw [List.eq_nil_iff_forall_not_mem]
      intro j hj
      obtain ⟨h1, o, h2, _⟩ := mem_ready.1 hj
      have : j < n := by rw [hn]; exact (Array.getElem?_eq_some_iff.1 h2).1
      rw [hall j this] at h1; cases h1
    · rw [SL_all hc (fun j hj => ?_) n (Nat.le_refl _)] at hR
      · exact hR
      · have := hall j hj
        have hsz : j < listed.size := by rw [inv.size, ← hn]; exact hj
        simpa [hsz] using this
  | succ f ih =>
    intro listed g a w inv hR hf
    rcases leastUn (listed := listed) n with h | ⟨i, hi, hu, hl⟩
    · have := opn_none h; omega
    · have hosz : i < ops.size := by omega
      have hrdy : i ∈ Region.ready .any ops listed := mem_ready.2 ⟨hu, ops[i], Array.getElem?_eq_getElem hosz, fun e he hb => by
        have h1 := List.all_eq_true.1 hback i (List.mem_range.2 hosz)
        rw [Array.getElem?_eq_getElem hosz] at h1
        have hlt : e.on < i := by simpa using List.all_eq_true.1 h1 e.on (dirs_binds he hb)
        have := hl e.on hlt
        have hsz : e.on < listed.size := by rw [inv.size]; omega
        simpa [hsz] using this⟩
      refine ⟨fun h0 => (by rw [h0] at hrdy; cases hrdy), fun j hj => ?_⟩
      obtain ⟨hjun, o, hoj, hall⟩ := mem_ready.1 hj
      have hjn : j < n := by rw [hn]; exact (Array.getElem?_eq_some_iff.1 hoj).1
      have hopen := opn_set hjun n hjn
      have hLj : listed.getD j false = false := getD_both hjun
      have hclosed : ∀ (j : Nat) o, ops[j]? = some o → listed.getD j false = true → ∀ e ∈ dirs o, listed.getD e false = true := fun j o ho hL e he => by
        obtain ⟨x, h1, h2, rfl⟩ := binds_dirs he
        exact inv.closed j o ho hL x h1 h2
      have hcl := hanc _ hclosed
      have hancj : ∀ i ∈ A j, i < j → listed.getD i false = true := by
        have h1 := inv.set hj hjn
        intro i hi hij
        have hcl' := hanc (fun k => (listed.setIfInBounds j true).getD k false) (fun k o' ho' hL e he => by
          obtain ⟨x, h3, h4, rfl⟩ := binds_dirs he
          exact h1.closed k o' ho' hL x h3 h4) j (by
            have hsz : j < listed.size := by rw [inv.size]; omega
            simp [hsz]) i hi
        rw [getD_set_ne false (by omega)] at hcl'; exact hcl'
      have hrT : ∀ t ∈ (F j).rt, (SL (fun j => listed.getD j false) S F n).T t = (S j).T t := fun t ht => by
        rw [SL_readT hc hjn hLj hancj (fun m _ hm => hcl m hm) ht n (Nat.le_refl _), Nat.min_eq_right (Nat.le_of_lt hjn)]
      have hrH : ∀ t ∈ (F j).rb, (SL (fun j => listed.getD j false) S F n).H t = (S j).H t := fun t ht => by
        rw [SL_readH hc hjn hLj hancj (fun m _ hm => hcl m hm) ht n (Nat.le_refl _), Nat.min_eq_right (Nat.le_of_lt hjn)]
      have hst := (hA j o hoj).step _ hrT hrH g a w hR (wpAny P .any ops Q f (listed.setIfInBounds j true)) Q fun g' a' w' hR' => by
        refine ih _ g' a' w' (inv.set hj hjn) ?_ (by omega)
        have hsz : j < listed.size := by rw [inv.size]; omega
        have := SL_add (L := fun j => listed.getD j false) hc hLj (fun m _ hm => hcl m hm) (L' := fun k => (listed.setIfInBounds j true).getD k false) (by simp [hsz]) (fun i hi => getD_set_ne false (fun e => hi e.symm)) n (Nat.le_refl _)
        rw [if_neg (by omega)] at this
        rw [this]; exact hR'
      unfold wpOp
      rw [hoj]
      unfold Exec1 at hst
      show if Region.wanted o (yielded ops a.tmps) = true then _ else _
      split
      · rename_i hw; rw [if_pos hw] at hst; exact .inl hst
      · rename_i hw; rw [if_neg hw] at hst; exact hst
end
end Go.Proofs.Ytblimjilinkmbaa
