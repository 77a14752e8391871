/- A region that draws its order, of whose head some extractions may come as late as they like. No conditions but the ones that stand in each. -/
import Derived.Test.YtldeiolmpmcanaaMix
namespace Go.Proofs.Ytldeiolmpmcanaa
open Go.RowKit

def sinkL (ops : Array Oper) (n : Nat) (F : Nat → Bool) : Bool :=
  (List.range n).all fun i => F i || (List.range (n + 1)).any fun j => decide (i < j) && (decide (j = n) || !F j) && Region.waitsFor .any ops j i
def lateB (ops : Array Oper) (n : Nat) (F : Nat → Bool) : Bool :=
  (List.range n).all fun i => !F i || match ops[i]? with
    | none => false
    | some o => (match o.op with | .extract _ _ => true | _ => false) && (List.range ops.size).all fun j => j == i || Region.waitsFor .any ops j i || Region.waitsFor .any ops i j || (match ops[j]? with | some oj => Oper.apart ops o oj | none => true)
def mixLB (ops : Array Oper) (n : Nat) (F : Nat → Bool) : Bool :=
  Region.noSelect ops && decide (n < ops.size) && sinkL ops n F && Region.chainB .any ops n && headB ops n &&
  Region.seqB .any ops (ops.size - n) n ((List.range ops.size).map (fun i => decide (i < n))).toArray && lateB ops n F
theorem lateB_spec {ops : Array Oper} {n : Nat} {F : Nat → Bool} (h : lateB ops n F = true) {i : Nat} (hi : i < n) (hF : F i = true) {o : Oper} (ho : ops[i]? = some o) :
    ∃ x k, o.op = .extract x k ∧ ∀ j, j < ops.size → (j == i || Region.waitsFor .any ops j i || Region.waitsFor .any ops i j || (match ops[j]? with | some oj => Oper.apart ops o oj | none => true)) = true := by
  have h1 := List.all_eq_true.1 h i (List.mem_range.2 hi)
  rw [hF, ho] at h1
  simp only [Bool.not_true, Bool.false_or, Bool.and_eq_true] at h1
  obtain ⟨h2, h3⟩ := h1
  have h4 : ∃ x k, o.op = .extract x k := by
    revert h2
    cases o.op <;> simp
  obtain ⟨x, k, hx⟩ := h4
  exact ⟨x, k, hx, fun j hj => List.all_eq_true.1 h3 j (List.mem_range.2 hj)⟩
theorem extract_any {P : Program} (o : Oper) (x : Operand) (k : Nat) (ho : o.op = .extract x k) (a : Act) (w : World) (v : Value) (h : gUpon P w v ((execOp a.eval o).run P w)) (w' : World) : (execOp a.eval o).run P w' = .ok (.value v) w' := by
  unfold execOp at h ⊢
  simp only [ho] at h ⊢
  generalize a.eval x = u at h ⊢
  revert h
  cases u <;> simp [Instr.extract, gUpon, go_sem]
  rename_i vs
  cases hv : vs[k]? <;> simp [go_sem]
theorem getD_true_both {l : Array Bool} {j : Nat} (h : l.getD j false = true) : l.getD j true = true := by
  rcases Nat.lt_or_ge j l.size with h' | h'
  · simpa [h'] using h
  · simp [h']
theorem tail_waitsL {ops : Array Oper} {n : Nat} {F : Nat → Bool} {listed : Array Bool} (hs : sinkL ops n F = true) (hc : Region.chainB .any ops n = true) (hn : n < ops.size) (inv : HeadInv .any ops n listed) :
    ∀ (d i : Nat), n - i = d → i < n → F i = false → listed.getD i true = false → ∀ t, n ≤ t → t ∉ Region.ready .any ops listed := by
  intro d
  induction d using Nat.strongRecOn with
  | _ d ih =>
    intro i hd hi hFi hun t ht hr
    obtain ⟨_, ot, hot, hall⟩ := mem_ready.1 hr
    have htlt : t < ops.size := (Array.getElem?_eq_some_iff.1 hot).1
    by_cases htn : t = n
    · subst htn
      have h1 := List.all_eq_true.1 hs i (List.mem_range.2 hi)
      rw [hFi, Bool.false_or] at h1
      obtain ⟨j, hj, hj2⟩ := List.any_eq_true.1 h1
      simp only [Bool.and_eq_true, Bool.or_eq_true, decide_eq_true_eq] at hj2
      obtain ⟨oj, hoj, e, he, hb, hon⟩ := Region.waitsFor_spec hj2.2
      have hjle : j ≤ t := by have := List.mem_range.1 hj; omega
      by_cases hjt : j = t
      · subst hjt
        have : oj = ot := Option.some.inj (hoj.symm.trans hot)
        subst this
        have h2 := hall e he hb
        rw [hon, getD_both hun] at h2
        cases h2
      · have hFj : F j = false := by
          rcases hj2.1.2 with h | h
          · exact absurd h hjt
          · simpa using h
        cases hl : listed.getD j false with
        | true =>
          have h2 := inv.closed j oj hoj hl e he hb
          rw [hon, getD_both hun] at h2
          cases h2
        | false =>
          have hjs : j < listed.size := by rw [inv.size]; omega
          exact ih (t - j) (by omega) j rfl (by omega) hFj (getD_in hjs hl) t (Nat.le_refl _) hr
    · have h1 := List.all_eq_true.1 hc t (List.mem_range.2 htlt)
      simp only [Bool.or_eq_true, decide_eq_true_eq] at h1
      rcases h1 with h1 | h1
      · omega
      · obtain ⟨o', ho', e, he, hb, hon⟩ := Region.waitsFor_spec h1
        have : o' = ot := Option.some.inj (ho'.symm.trans hot)
        subst this
        have h2 := hall e he hb
        rw [hon, getD_both (inv.tail (t - 1) (by omega) (by omega))] at h2
        cases h2
section
variable {P : Program} {ops : Array Oper} {n : Nat} {zs : TypeId → List Value} {vs : Nat → Value} {w0 : World} {a0 : Act} {Q : Exit → Act → World → Prop}
theorem mix_walkL (F : Nat → Bool) (hQ : ∀ c (a : Act) d v w, Q (.panic c) (a.put (some d) v) w → Q (.panic c) a w) (hF : lateB ops n F = true) (hsel : Region.noSelect ops = true) (hn : n < ops.size) (hs : sinkL ops n F = true) (hc : Region.chainB .any ops n = true) (hh : headB ops n = true)
    (hz : ∀ i o, i < n → ops[i]? = some o → isA o = true → (P.info? (tyA o)).map (·.zero) = some (some (.agg (zs (tyA o)).toArray)))
    (hv : ∀ i, i < n → SpecV P ops w0 n vs a0 i) (g : Nat)
    (hend : ∀ listed a w, MixInv ops n zs vs w0 a0 listed a w → (∀ j, j < n → listed.getD j true = true) → wpAny P .any ops Q g listed a w) :
    ∀ (f : Nat) (listed : Array Bool) (a : Act) (w : World), MixInv ops n zs vs w0 a0 listed a w → open_ listed n = f → wpAny P .any ops Q (f + g) listed a w := by
  have hap := headB_apart hh
  intro f
  induction f with
  | zero =>
    intro listed a w inv hf
    rw [Nat.zero_add]
    rcases least_unlisted (listed := listed) n with h | ⟨i, hi, hu, _⟩
    · exact hend _ _ _ inv h
    · have := open_set hu n hi; omega
  | succ f ih =>
    intro listed a w inv hf
    rcases least_unlisted (listed := listed) n with h | ⟨i, hi, hu, hl⟩
    · have := open_none h; omega
    · rw [show f + 1 + g = (f + g) + 1 by omega]
      have hosz : i < ops.size := by omega
      have hrdy : i ∈ Region.ready .any ops listed := mem_ready.2 ⟨hu, ops[i], Array.getElem?_eq_getElem hosz, fun e he hb => by
        have hlt := headB_back hh hi (Array.getElem?_eq_getElem hosz) e he hb
        have := hl e.on hlt
        have hsz : e.on < listed.size := by rw [inv.head.size]; omega
        simpa [hsz] using this⟩
      by_cases hlate : ∃ i, i < n ∧ F i = true ∧ i ∈ Region.ready .any ops listed
      · obtain ⟨i, hi, hFi, hri⟩ := hlate
        obtain ⟨hun, o, hoi, hall⟩ := mem_ready.1 hri
        obtain ⟨x, k, hox, hap2⟩ := lateB_spec hF hi hFi hoi
        have hA : isA o = false := by unfold isA; rw [hox]
        have hspec := hv i hi o hoi hA
        obtain ⟨gs, ha, _, _⟩ := inv.act
        have hlook : ∀ t ∈ o.looksAt ops, (fr ops (fun k => decide (k < i) && !isAi ops k) vs n a0).tmps[t]? = a.tmps[t]? := by
          intro t ht
          rw [ha]
          refine fr_get t n fun k hk hd => ?_
          obtain ⟨h1, h2, h3⟩ := headB_looks hh hi hoi hA t ht k hk hd
          obtain ⟨oj, hoj', e, he, hb, hon⟩ := Region.waitsFor_spec h3
          rw [hoi] at hoj'; cases hoj'
          have hlk := hall e he hb
          rw [hon] at hlk
          refine ⟨?_, fun _ => ?_⟩
          · rw [hlk, h2]; simp [h1]
          · unfold valG; rw [h2]; simp
        rw [wanted_looks hlook] at hspec
        have hy : Yields P ops o (vs i) a := by
          cases hw : Region.wanted o (yielded ops a.tmps) with
          | true =>
            refine .inl ⟨hw, fun w' => ?_⟩
            have hg := hspec.1 hw ⟨w, inv.ext⟩
            unfold gAt at hg
            rw [execOp_looks (fun cs b => Region.noSelect_spec hsel i o cs b hoi) hlook] at hg
            exact extract_any o x k hox a w (vs i) hg w'
          | false => exact .inr ⟨hw, hspec.2 hw⟩
        have hfree : Region.free .any ops listed i = true := by
          unfold Region.free
          rw [hoi]
          refine List.all_eq_true.2 fun j hj => ?_
          have h2 := hap2 j (List.mem_range.1 hj)
          simp only [Bool.or_eq_true] at h2 ⊢
          rcases h2 with ((h2 | h2) | h2) | h2
          · exact .inl (.inl h2)
          · refine .inr ?_
            unfold Region.waitsFor at h2
            cases hoj : ops[j]? with
            | none => rfl
            | some oj => rw [hoj] at h2; simp only [Bool.or_eq_true]; exact .inl h2
          · refine .inl (.inr ?_)
            obtain ⟨oj, hoj, e, he, hb, hon⟩ := Region.waitsFor_spec h2
            rw [hoi] at hoj; cases hoj
            have hlk := hall e he hb
            rw [hon] at hlk
            exact getD_true_both hlk
          · refine .inr ?_
            cases hoj : ops[j]? with
            | none => rfl
            | some oj => rw [hoj] at h2; simp only [Bool.or_eq_true]; exact .inr h2
        exact wpAny_take hoi hsel hfree (by simpa using hri) (fun c a w hp => by cases hd : o.dst with | none => rw [hd] at hp; exact hp | some d => rw [hd] at hp; exact hQ c a d _ w hp) hy (ih _ _ _ (inv.val hap hoi hi hri hA (Ext.refl _)) (by have := open_set hun n hi; omega))
      refine ⟨fun h0 => (by rw [h0] at hrdy; cases hrdy), fun j hj => ?_⟩
      have hjn : j < n := by
        rcases Nat.lt_or_ge j n with h | h
        · exact h
        · have hFi : F i = false := by
            cases hFi : F i with
            | false => rfl
            | true => exact absurd ⟨i, hi, hFi, hrdy⟩ hlate
          exact absurd hj (tail_waitsL hs hc hn inv.head _ i rfl hi hFi hu j h)
      obtain ⟨hjun, o, hoj, hall⟩ := mem_ready.1 hj
      have hopen := open_set hjun n hjn
      have next : ∀ a' w', MixInv ops n zs vs w0 a0 (listed.setIfInBounds j true) a' w' → wpAny P .any ops Q (f + g) (listed.setIfInBounds j true) a' w' := fun a' w' h => ih _ a' w' h (by omega)
      unfold wpOp
      rw [hoj]
      show if Region.wanted o (yielded ops a.tmps) = true then _ else _
      cases hA : isA o
      · have hspec := hv j hjn o hoj hA
        obtain ⟨gs, ha, _, _⟩ := inv.act
        have hlook : ∀ t ∈ o.looksAt ops, (fr ops (fun k => decide (k < j) && !isAi ops k) vs n a0).tmps[t]? = a.tmps[t]? := by
          intro t ht
          rw [ha]
          refine fr_get t n fun k hk hd => ?_
          obtain ⟨h1, h2, h3⟩ := headB_looks hh hjn hoj hA t ht k hk hd
          obtain ⟨oj, hoj', e, he, hb, hon⟩ := Region.waitsFor_spec h3
          rw [hoj] at hoj'; cases hoj'
          have hlk := hall e he hb
          rw [hon] at hlk
          refine ⟨?_, fun _ => ?_⟩
          · rw [hlk, h2]; simp [h1]
          · unfold valG; rw [h2]; simp
        rw [wanted_looks hlook] at hspec
        split
        · rename_i hw
          refine .inl ?_
          have hg := hspec.1 hw ⟨w, inv.ext⟩
          unfold gAt at hg
          rw [execOp_looks (fun cs b => Region.noSelect_spec hsel j o cs b hoj) hlook] at hg
          unfold Oper.wp
          generalize (execOp a.eval o).run P w = r at hg ⊢
          cases r with
          | halt x w' => exact hg.elim
          | ok nx w' =>
            cases nx with
            | value u => obtain ⟨rfl, rfl⟩ := hg; exact next _ _ (inv.val hap hoj hjn hj hA (Ext.refl _))
            | skip =>
              obtain ⟨rfl, he⟩ := hg
              have := inv.val hap hoj hjn hj hA (Ext.refl _)
              rw [he] at this
              exact next _ _ this
            | enter fn args =>
              obtain ⟨rfl, hcalls⟩ := hg
              exact hcalls.mono fun e w'' ⟨he, hx⟩ => by
                subst he
                exact next _ _ (inv.val hap hoj hjn hj hA hx)
            | _ => exact hg.elim
        · rename_i hw
          have hw' : Region.wanted o (yielded ops a.tmps) = false := by simpa using hw
          have := inv.val hap hoj hjn hj hA (Ext.refl _)
          rw [hspec.2 hw'] at this
          exact next _ _ this
      · have hg := headB_guard hh hjn hoj hA
        have hw : Region.wanted o (yielded ops a.tmps) = true := by unfold Region.wanted; rw [hg]
        rw [if_pos hw]
        refine .inl ?_
        have hop : o.op = .alloc (tyA o) := by
          unfold isA at hA; unfold tyA
          split at hA
          · rename_i h; rw [h]
          · cases hA
        unfold Oper.wp
        rw [alloc_run P (tyA o) _ (hz j o hjn hoj hA) o hop a w]
        exact next _ _ (inv.new hap hoj hjn hj hA)
end
/-- .. of which some (those of F) may come as late as they like: a head of operations that read, of calls that make memory of their own and of new variables, and a tail in a row. -/
theorem wp_region_mixL {P : Program} {id : Nat} {Q : Exit → Act → World → Prop} {a : Act} {w : World} {l : List Oper} (n : Nat) (F : Nat → Bool) (zs : TypeId → List Value) (hQ : ∀ c (a : Act) d v w, Q (.panic c) (a.put (some d) v) w → Q (.panic c) a w) (hm : P.follows .mixedOrders = true) (hB : mixLB l.toArray n F = true)
    (hz : ∀ i o, i < n → l.toArray[i]? = some o → isA o = true → (P.info? (tyA o)).map (·.zero) = some (some (.agg (zs (tyA o)).toArray)))
    (h : wpG P l.toArray w (fun aV => ∀ (gs : Nat → Nat) w', Ext w w' → (∀ i, i < n → isAi l.toArray i = true → NewAt l.toArray zs w gs w' i) →
      (∀ i j, i < n → j < n → i ≠ j → isAi l.toArray i = true → isAi l.toArray j = true → gs i ≠ gs j) →
      wpList P l.toArray Q (l.drop n) (((List.range n).filter (isAi l.toArray)).foldl (fun a i => a.put (dstOf l.toArray i) (.pointer (some ⟨gs i, 0, none⟩))) aV) w') (l.take n) a) : (Code.region id l.toArray true).wp P Q a w := by
  unfold mixLB at hB
  simp only [Bool.and_eq_true, decide_eq_true_eq] at hB
  obtain ⟨⟨⟨⟨⟨⟨hsel, hn⟩, hs⟩, hc⟩, hh⟩, hseq⟩, hF⟩ := hB
  have hap := headB_apart hh
  have hn' : n < l.length := by simpa using hn
  have hfr0 : ∀ (v : Nat → Value) m, fr l.toArray (fun j => decide (j < 0) && !isAi l.toArray j) v m a = a := by
    intro v m
    induction m with
    | zero => rfl
    | succ m ih => unfold fr; simpa using ih
  obtain ⟨vs, hv, hK⟩ := wpG_spec hap a (l.take n) 0 (fun _ => undef) (fun j hj => by
    have hj' : j < n := by simp at hj; omega
    simp [hj']) (by simp; omega) (by rw [hfr0]; exact h) (fun i hi => by omega)
  refine wp_region_any hm ?_
  have hsz : (Array.replicate l.toArray.size false).size = l.toArray.size := by simp
  have inv0 : HeadInv .any l.toArray n (Array.replicate l.toArray.size false) :=
    ⟨by simp, fun j oj _ hl => (by rw [getD_replicate_false] at hl; cases hl), fun t _ ht => getD_in (by simpa using ht) (getD_replicate_false _ _)⟩
  have mi0 : MixInv l.toArray n zs vs w a (Array.replicate l.toArray.size false) a { w with drawn := w.drawn + 1 } := by
    refine ⟨inv0, Ext.drew w, fun _ => 0, ?_, fun i _ _ hl => (by rw [getD_replicate_false] at hl; cases hl), fun i j _ _ _ _ _ hl => (by rw [getD_replicate_false] at hl; cases hl)⟩
    have : ∀ m, fr l.toArray (fun j => (Array.replicate l.toArray.size false).getD j false) (valG l.toArray vs fun _ => 0) m a = a := by
      intro m
      induction m with
      | zero => rfl
      | succ m ih => unfold fr; rw [getD_replicate_false]; simpa using ih
    exact (this n).symm
  have hopen0 : open_ (Array.replicate l.toArray.size false) n = n := by
    unfold open_
    rw [List.filter_eq_self.2 (fun j hj => by
      have hj' := List.mem_range.1 hj
      rw [getD_in (by simp; omega) (getD_replicate_false _ _)]; rfl)]
    simp
  have hdl : (l.drop n).length = l.toArray.size - n := by simp
  have W := mix_walkL (Q := Q) F hQ hF hsel hn hs hc hh hz hv (l.toArray.size - n) (fun listed a' w' inv hall => by
    obtain ⟨gs, ha, hnw, hds⟩ := inv.act
    have hlist : listed = ((List.range l.toArray.size).map (fun i => decide (i < n))).toArray := by
      refine Array.ext (by simp [inv.head.size]) fun j h1 h2 => ?_
      have hj : j < l.toArray.size := by rw [← inv.head.size]; exact h1
      simp only [List.getElem_toArray, List.getElem_map, List.getElem_range]
      by_cases hjn : j < n
      · have := hall j hjn
        simp [h1] at this
        simp [this, hjn]
      · have := inv.head.tail j (by omega) hj
        simp [h1] at this
        simp [this]; omega
    have hl1 : ∀ j, j < n → listed.getD j false = true := fun j hj => by
      have := hall j hj
      have h1 : j < listed.size := by rw [inv.head.size]; omega
      simpa [h1] using this
    have hact : a' = ((List.range n).filter (isAi l.toArray)).foldl (fun a i => a.put (dstOf l.toArray i) (.pointer (some ⟨gs i, 0, none⟩))) (fr l.toArray (fun j => !isAi l.toArray j) vs n a) := by
      rw [ha]
      have e1 : fr l.toArray (fun j => listed.getD j false) (valG l.toArray vs gs) n a = fr l.toArray (fun j => isAi l.toArray j || !isAi l.toArray j) (valG l.toArray vs gs) n a :=
        fr_congr n fun j hj => ⟨by rw [hl1 j hj]; cases isAi l.toArray j <;> rfl, fun _ => rfl⟩
      rw [e1, fr_union n hap (isAi l.toArray) (fun j => !isAi l.toArray j) (fun j hj => by simp [hj]) n (Nat.le_refl n)]
      have e2 : fr l.toArray (fun j => !isAi l.toArray j) (valG l.toArray vs gs) n a = fr l.toArray (fun j => !isAi l.toArray j) vs n a :=
        fr_congr n fun j _ => ⟨rfl, fun hj => by unfold valG; simp at hj; rw [hj]; simp⟩
      rw [e2]
      have e3 : ∀ x, fr l.toArray (isAi l.toArray) (valG l.toArray vs gs) n x = fr l.toArray (isAi l.toArray) (fun i => .pointer (some ⟨gs i, 0, none⟩)) n x := fun x =>
        fr_congr n fun j _ => ⟨rfl, fun hj => by unfold valG; rw [if_pos hj]⟩
      rw [e3, fr_fold n]
    have hfin := hK gs w' inv.ext (fun i hi hA => hnw i hi hA (hl1 i hi)) (fun i j hi hj hne hA hA' => hds i j hi hj hne hA hA' (hl1 i hi) (hl1 j hj))
    rw [← hact] at hfin
    have := wpAny_of_seq (md := .any) (Q' := Q) (l.drop n) n listed a' w' (fun j => by simp [List.getElem?_drop]) (by rw [hdl, hlist]; exact hseq) hfin
    rwa [hdl] at this) n _ _ _ mi0 hopen0
  rw [show n + (l.toArray.size - n) = l.toArray.size by omega] at W
  exact W
theorem wp_region_mixL0 {P : Program} {id : Nat} {Q : Exit → Act → World → Prop} {a : Act} {w : World} {l : List Oper} (n : Nat) (F : Nat → Bool) (hQ : ∀ c (a : Act) d v w, Q (.panic c) (a.put (some d) v) w → Q (.panic c) a w) (hm : P.follows .mixedOrders = true) (hB : mixLB l.toArray n F = true)
    (has : (List.range n).filter (isAi l.toArray) = [])
    (h : wpG P l.toArray w (fun aV => ∀ w', Ext w w' → wpList P l.toArray Q (l.drop n) aV w') (l.take n) a) : (Code.region id l.toArray true).wp P Q a w := by
  have hno : ∀ j, j < n → isAi l.toArray j = true → False := fun j hj hA => by
    have : j ∈ (List.range n).filter (isAi l.toArray) := List.mem_filter.2 ⟨List.mem_range.2 hj, hA⟩
    rw [has] at this; cases this
  refine wp_region_mixL n F (fun _ => []) hQ hm hB (fun j o hj ho hA => (hno j hj (by rw [isAi_of ho]; exact hA)).elim) ?_
  rw [has]
  refine wpG_mono (fun aV hh gs w' he _ _ => hh w' he) _ _ h
theorem wp_region_mixL1 {P : Program} {id : Nat} {Q : Exit → Act → World → Prop} {a : Act} {w : World} {l : List Oper} (n : Nat) (F : Nat → Bool) (i d t : Nat) (zs : List Value) (hQ : ∀ c (a : Act) d v w, Q (.panic c) (a.put (some d) v) w → Q (.panic c) a w) (hm : P.follows .mixedOrders = true) (hB : mixLB l.toArray n F = true)
    (has : (List.range n).filter (isAi l.toArray) = [i]) (hd : (l.toArray[i]?).map (fun o => (o.dst, tyA o)) = some (some d, t)) (hz : (P.info? t).map (·.zero) = some (some (.agg zs.toArray)))
    (h : wpG P l.toArray w (fun aV => ∀ g w', Ext w w' → w.heap.size ≤ g → Blk w' g t zs → wpList P l.toArray Q (l.drop n) (aV.put (some d) (.pointer (some ⟨g, 0, none⟩))) w') (l.take n) a) : (Code.region id l.toArray true).wp P Q a w := by
  obtain ⟨oi, hoi, hoe⟩ := Option.map_eq_some_iff.1 hd
  obtain ⟨h1, h2⟩ := Prod.mk.inj hoe
  have hno : ∀ j, j < n → isAi l.toArray j = true → j = i := fun j hj hA => by
    have : j ∈ (List.range n).filter (isAi l.toArray) := List.mem_filter.2 ⟨List.mem_range.2 hj, hA⟩
    rw [has] at this; simpa using this
  have hin : i ∈ (List.range n).filter (isAi l.toArray) := by rw [has]; simp
  have hi := List.mem_range.1 (List.mem_filter.1 hin).1
  have hiA := (List.mem_filter.1 hin).2
  refine wp_region_mixL n F (fun _ => zs) hQ hm hB (fun j o hj ho hA => ?_) ?_
  · have hji := hno j hj (by rw [isAi_of ho]; exact hA)
    subst hji
    rw [hoi] at ho; cases ho
    rw [h2]; exact hz
  · rw [has]
    refine wpG_mono (fun aV hh gs w' he hn _ => ?_) _ _ h
    have hg := hn i hi hiA
    have hb := hg.blk oi hoi
    rw [h2] at hb
    have := hh (gs i) w' he hg.base hb
    show wpList P l.toArray Q (l.drop n) (aV.put (dstOf l.toArray i) _) w'
    rw [dstOf_of hoi, h1]; exact this
theorem wp_region_mixL2 {P : Program} {id : Nat} {Q : Exit → Act → World → Prop} {a : Act} {w : World} {l : List Oper} (n : Nat) (F : Nat → Bool) (i d t : Nat) (zs : List Value) (i' d' t' : Nat) (zs' : List Value) (hQ : ∀ c (a : Act) d v w, Q (.panic c) (a.put (some d) v) w → Q (.panic c) a w) (hm : P.follows .mixedOrders = true) (hB : mixLB l.toArray n F = true)
    (has : (List.range n).filter (isAi l.toArray) = [i, i']) (hne : i ≠ i') (hd : (l.toArray[i]?).map (fun o => (o.dst, tyA o)) = some (some d, t)) (hz : (P.info? t).map (·.zero) = some (some (.agg zs.toArray)))
    (hd' : (l.toArray[i']?).map (fun o => (o.dst, tyA o)) = some (some d', t')) (hz' : (P.info? t').map (·.zero) = some (some (.agg zs'.toArray)))
    (h : wpG P l.toArray w (fun aV => ∀ g g' w', Ext w w' → w.heap.size ≤ g → w.heap.size ≤ g' → g ≠ g' → Blk w' g t zs → Blk w' g' t' zs' → wpList P l.toArray Q (l.drop n) ((aV.put (some d) (.pointer (some ⟨g, 0, none⟩))).put (some d') (.pointer (some ⟨g', 0, none⟩))) w') (l.take n) a) : (Code.region id l.toArray true).wp P Q a w := by
  obtain ⟨oi, hoi, hoe⟩ := Option.map_eq_some_iff.1 hd
  obtain ⟨h1, h2⟩ := Prod.mk.inj hoe
  obtain ⟨oi', hoi', hoe'⟩ := Option.map_eq_some_iff.1 hd'
  obtain ⟨h1', h2'⟩ := Prod.mk.inj hoe'
  have hno : ∀ j, j < n → isAi l.toArray j = true → j = i ∨ j = i' := fun j hj hA => by
    have : j ∈ (List.range n).filter (isAi l.toArray) := List.mem_filter.2 ⟨List.mem_range.2 hj, hA⟩
    rw [has] at this; simpa using this
  have hin : i ∈ (List.range n).filter (isAi l.toArray) := by rw [has]; simp
  have hin' : i' ∈ (List.range n).filter (isAi l.toArray) := by rw [has]; simp
  have hi := List.mem_range.1 (List.mem_filter.1 hin).1
  have hi' := List.mem_range.1 (List.mem_filter.1 hin').1
  by_cases htt : t = t' ∧ zs ≠ zs'
  · exfalso
    rw [htt.1, hz'] at hz
    simp at hz
    exact htt.2 hz.symm
  refine wp_region_mixL n F (fun x => if x = t then zs else zs') hQ hm hB (fun j o hj ho hA => ?_) ?_
  · rcases hno j hj (by rw [isAi_of ho]; exact hA) with rfl | rfl
    · rw [hoi] at ho; cases ho
      rw [h2, if_pos rfl]; exact hz
    · rw [hoi'] at ho; cases ho
      rw [h2']
      by_cases e : t' = t
      · rw [if_pos e]
        have : zs = zs' := Classical.byContradiction fun hh => htt ⟨e.symm, hh⟩
        rw [this]; exact hz'
      · rw [if_neg e]; exact hz'
  · rw [has]
    refine wpG_mono (fun aV hh gs w' he hn hdist => ?_) _ _ h
    have hg := hn i hi (List.mem_filter.1 hin).2
    have hg' := hn i' hi' (List.mem_filter.1 hin').2
    have hb := hg.blk oi hoi
    have hb' := hg'.blk oi' hoi'
    rw [h2, if_pos rfl] at hb
    have hb2 : Blk w' (gs i') t' zs' := by
      rw [h2'] at hb'
      by_cases e : t' = t
      · rw [if_pos e] at hb'
        have : zs = zs' := Classical.byContradiction fun hh => htt ⟨e.symm, hh⟩
        rw [← this]; exact hb'
      · rw [if_neg e] at hb'; exact hb'
    have := hh (gs i) (gs i') w' he hg.base hg'.base (hdist i i' hi hi' hne (List.mem_filter.1 hin).2 (List.mem_filter.1 hin').2) hb hb2
    show wpList P l.toArray Q (l.drop n) ((aV.put (dstOf l.toArray i) _).put (dstOf l.toArray i') _) w'
    rw [dstOf_of hoi, h1, dstOf_of hoi', h1']; exact this

end Go.Proofs.Ytldeiolmpmcanaa
