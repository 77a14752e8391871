/- Calls that make many blocks, and states brought in order by what is looked up. No conditions but the ones that stand in each. -/
import Derived.Test.YtphaicaobepimaaVm
namespace Go.Proofs.Ytphaicaobepimaa
set_option linter.all false
set_option linter.unusedSimpArgs false
open Go.RowKit

open Classical in
noncomputable def liveL (s : St) : Nat → List (Nat × Bk)
  | 0 => []
  | k + 1 => if (lookb s.h s.n k).live then (k, lookb s.h s.n k) :: liveL s k else liveL s k
theorem liveL_mem {s : St} : ∀ {k : Nat} {q : Nat × Bk}, q ∈ liveL s k ↔ q.1 < k ∧ (lookb s.h s.n q.1).live ∧ q.2 = lookb s.h s.n q.1
  | 0, q => by simp [liveL]
  | k + 1, q => by
    unfold liveL
    split
    · rename_i h
      rw [List.mem_cons, liveL_mem]
      constructor
      · rintro (rfl | ⟨h1, h2⟩)
        · exact ⟨by dsimp only; omega, h, rfl⟩
        · exact ⟨by omega, h2⟩
      · rintro ⟨h1, h2, h3⟩
        by_cases e : q.1 = k
        · left; rw [e] at h3; exact Prod.ext e h3
        · right; exact ⟨by omega, h2, h3⟩
    · rename_i h
      rw [liveL_mem]
      constructor
      · rintro ⟨h1, h2⟩; exact ⟨by omega, h2⟩
      · rintro ⟨h1, h2, h3⟩
        refine ⟨?_, h2, h3⟩
        by_cases e : q.1 = k
        · rw [e] at h2; exact (h h2).elim
        · omega
open Classical in
theorem liveL_look {s : St} {n b : Nat} : ∀ {k : Nat}, lookb (liveL s k) n b = if b < k ∧ (lookb s.h s.n b).live then lookb s.h s.n b else if b < n then .dead else .free
  | 0 => by rw [if_neg (by omega)]; rfl
  | k + 1 => by
    unfold liveL
    split
    · rename_i h
      rw [lookb_cons, liveL_look]
      by_cases e : k = b
      · subst e; rw [if_pos rfl, if_pos ⟨by omega, h⟩]
      · rw [if_neg e]
        by_cases h2 : b < k ∧ (lookb s.h s.n b).live
        · rw [if_pos h2, if_pos ⟨by omega, h2.2⟩]
        · rw [if_neg h2, if_neg (show ¬ (b < k + 1 ∧ (lookb s.h s.n b).live) by rintro ⟨h3, h4⟩; exact h2 ⟨by omega, h4⟩)]
    · rename_i h
      rw [liveL_look]
      by_cases h2 : b < k ∧ (lookb s.h s.n b).live
      · rw [if_pos h2, if_pos ⟨by omega, h2.2⟩]
      · have h5 : ¬ (b < k + 1 ∧ (lookb s.h s.n b).live) := by
          rintro ⟨h3, h4⟩
          by_cases e : b = k
          · subst e; exact h h4
          · exact h2 ⟨by omega, h4⟩
        rw [if_neg h2, if_neg h5]
theorem liveL_sub {ρ : Nat → Nat} {n' : Nat} {s s' : St} (hinj : ∀ b b', b < n' → b' < n' → (lookb s'.h s'.n b).live → (lookb s'.h s'.n b').live → ρ b = ρ b' → b = b') (hl : ∀ b, b < n' → (lookb s'.h s'.n b).live → nmB n' (lookb s'.h s'.n b) ∧ lookb s.h s.n (ρ b) = renB ρ (lookb s'.h s'.n b)) : ∀ k, k ≤ n' → subH ρ n' s (liveL s' k)
  | 0, _ => trivial
  | k + 1, hk => by
    unfold liveL
    split
    · rename_i h
      obtain ⟨h1, h2⟩ := hl k (by omega) h
      have not : ∀ l : List (Nat × Bk), (∀ q ∈ l, q.1 < k ∧ (lookb s'.h s'.n q.1).live) → rhoNot ρ k l := fun l => by
        induction l with
        | nil => intro _; trivial
        | cons q l ih =>
          intro hq
          obtain ⟨i, x⟩ := q
          obtain ⟨g1, g2⟩ := hq (i, x) (by simp)
          refine ⟨fun e => ?_, ih fun q hq' => hq q (by simp [hq'])⟩
          have g1 : i < k := g1
          have := hinj i k (by omega) (by omega) g2 h e
          omega
      exact ⟨⟨by omega, h1, h2, not _ fun q hq => ⟨(liveL_mem.1 hq).1, (liveL_mem.1 hq).2.1⟩⟩, liveL_sub hinj hl k (by omega)⟩
    · exact liveL_sub hinj hl k (by omega)
open Classical in
theorem liveL_same {s' : St} (hd : ∀ b, b < s'.n → ¬ (lookb s'.h s'.n b).live → lookb s'.h s'.n b = .dead) (hf : ∀ b, s'.n ≤ b → lookb s'.h s'.n b = .free) (b : Nat) : lookb (liveL s' s'.n) s'.n b = lookb s'.h s'.n b := by
  rw [liveL_look]
  by_cases h1 : b < s'.n
  · by_cases h2 : (lookb s'.h s'.n b).live
    · rw [if_pos ⟨h1, h2⟩]
    · rw [if_neg fun h => h2 h.2, if_pos h1, hd b h1 h2]
  · rw [if_neg fun h => h1 h.1, if_neg h1, hf b (by omega)]
/-- What is known of one state is known of another, by what is looked up in the two. -/
theorem To.lk {p : List Nat} {s s' : St} (ρ : Nat → Nat) (hp : ∀ b ∈ p, ρ b = b ∧ b < s'.n) (hin : ∀ b, (lookb s'.h s'.n b).live → b < s'.n) (hd : ∀ b, b < s'.n → ¬ (lookb s'.h s'.n b).live → lookb s'.h s'.n b = .dead) (hf : ∀ b, s'.n ≤ b → lookb s'.h s'.n b = .free)
    (hinj : ∀ b b', b < s'.n → b' < s'.n → (lookb s'.h s'.n b).live → (lookb s'.h s'.n b').live → ρ b = ρ b' → b = b') (hl : ∀ b, b < s'.n → (lookb s'.h s'.n b).live → nmB s'.n (lookb s'.h s'.n b) ∧ lookb s.h s.n (ρ b) = renB ρ (lookb s'.h s'.n b)) (ht : subT ρ s'.n s.t s'.t) : To p s s' := by
  have h1 : To p s ⟨s'.t, liveL s' s'.n, s'.n⟩ := To.subF (ρ := ρ) hp ⟨ht, liveL_sub hinj hl _ (Nat.le_refl _)⟩
  refine h1.trans fun c g a w _ hR => ⟨g, hR.resay (fun _ _ h => h) (fun b h => ?_) fun b => ?_⟩
  · have e := liveL_same hd hf b
    have h : BR g _ w (g b) (lookb (liveL s' s'.n) s'.n b) := h
    rw [e] at h; exact h
  · have e := liveL_same hd hf b
    show (lookb s'.h s'.n b).live ↔ (lookb (liveL s' s'.n) s'.n b).live
    rw [e]
/-! ### Blocks of a function's own making -/
section
variable {P : Program} {c : Cx}
theorem gnew_AOkT {s : St} {d : Option Nat} {f : FuncId} {xs : List TV} {args : List AV} {r : AV} {hout : List (Nat × Bk)} {m : Nat} (hgs : GS P c.gl f args [] 0 r hout m) (hHL : HL hout m) (hc : cokAll none (evs c.gl s.fs xs)) (hargs : (evs c.gl s.fs xs).map strip = args) (hna : nmAll 0 args) (hnr : nmOk m r) (hs : ∀ q ∈ s.h, q.1 < s.n) :
    AOkT P c (.pd d (.call f) xs none) s.fs ⟨tmpsOf xs, (List.range m).map fun b => s.n + b, d.toList, (List.range m).map fun b => s.n + b⟩ (St.putO ⟨s.t, s.h ++ renH (fun b => s.n + b) hout, s.n + m⟩ d (ren (fun b => s.n + b) r)).fs := by
  have hn : ∀ b b', b < m → b' < m → s.n + b = s.n + b' → b = b' := fun b b' _ _ e => by omega
  have hm : ∀ q ∈ hout, q.1 < m := fun q hq => (hHL.mem q hq).1
  have hoff : ∀ b, ∀ q ∈ s.h, q.1 ≠ s.n + b := fun b q hq => by have := hs q hq; omega
  have hfree : ∀ b, s.fs.H (s.n + b) = .free := fun b => by
    show lookb s.h s.n (s.n + b) = _
    have : ∀ l : List (Nat × Bk), (∀ q ∈ l, q.1 ≠ s.n + b) → lookb l s.n (s.n + b) = .free := fun l => by
      induction l with
      | nil => intro _; rw [lookb_nil, if_neg (by omega)]
      | cons q l ih =>
        obtain ⟨i, x⟩ := q
        intro h
        rw [lookb_cons, if_neg (h (i, x) (by simp)), ih fun q hq => h q (by simp [hq])]
    exact this s.h (hoff b)
  have hH : ∀ y j, (St.putO ⟨s.t, s.h ++ renH (fun b => s.n + b) hout, s.n + m⟩ d y).fs.H j = lookb (s.h ++ renH (fun b => s.n + b) hout) (s.n + m) j := fun y j => by cases d <;> rfl
  refine gx_core (σ := fun b => s.n + b) hgs (fun o ys hel hxs s2 g a w hT hR => ?_) hn (fun p hp => by cases hp) (fun b hb => by omega) (Nat.zero_le _) (fun b _ _ => hfree b) (fun p hp => hHL.mem p hp) hnr hna (fun b hb => List.mem_map.2 ⟨b, List.mem_range.2 hb, rfl⟩) (fun j hj => ?_) (fun i => ?_) (fun b hb => ?_) fun j hj => ?_
  · obtain ⟨ts, hop⟩ := elab_call hel
    subst hxs
    have hevs : evs c.gl s2 (ys.map tvO) = evs c.gl s.fs (ys.map tvO) := evs_congr fun i hi => hT i hi
    have hv := VRs_strip (hR.evs ys) (by rw [hevs]; exact hc)
    rw [hevs, hargs] at hv
    have hr : rens (fun b => s.n + b) args = args := by
      rw [rens_eq]
      exact (List.map_congr_left fun v hv => ren_same (n := 0) (fun b hb => by omega) v (nmAll_iff.1 hna v hv)).trans (List.map_id _)
    rw [hr]
    exact ⟨_, run_call hgs.1 hop a w, hv⟩
  · obtain ⟨b, hb, rfl⟩ := List.mem_map.1 hj
    exact ⟨b, List.mem_range.1 hb, rfl⟩
  · cases d with
    | none => rfl
    | some d => show look ((d, _) :: s.t) i = _; rw [look_cons]; rfl
  · rw [hH, lookb_exS (hoff b), lookb_renH hn hb hm (hHL.cov b hb)]
    obtain ⟨_, q, hq, _, e⟩ := hHL.live hb m
    rw [e]
    have := (hHL.mem q hq).2
    cases hx : q.2 <;> first | rfl | (rw [hx] at this; exact this.elim)
  · rw [hH]
    show _ = lookb s.h s.n j
    have hj' : ∀ b, b < m → s.n + b ≠ j := fun b hb e => hj (List.mem_map.2 ⟨b, List.mem_range.2 hb, e⟩)
    have key : ∀ l : List (Nat × Bk), lookb (l ++ renH (fun b => s.n + b) hout) (s.n + m) j = lookb l s.n j := fun l => by
      induction l with
      | nil =>
        rw [List.nil_append, lookb_renO hj' hm, lookb_nil]
        by_cases h : j < s.n
        · rw [if_pos h, if_pos (by omega)]
        · rw [if_neg h, if_neg]
          intro h2
          exact hj' (j - s.n) (by omega) (by omega)
      | cons q l ih => obtain ⟨i, x⟩ := q; rw [List.cons_append, lookb_cons, lookb_cons, ih]
    exact key s.h
theorem pr_gnew {r0 : List TOp} {K : St → Prop} {s : St} {d : Option Nat} {f : FuncId} {xs : List TV} {args : List AV} {r : AV} {hout : List (Nat × Bk)} {m : Nat} (hgs : GS P c.gl f args [] 0 r hout m) (hHL : HL hout m) (hc : cokAll none (evs c.gl s.fs xs) ∧ (evs c.gl s.fs xs).map strip = args ∧ nmAll 0 args ∧ nmOk m r) (hs : ∀ q ∈ s.h, q.1 < s.n)
    (h : XP P c r0 K (St.putO ⟨s.t, s.h ++ renH (fun b => s.n + b) hout, s.n + m⟩ d (ren (fun b => s.n + b) r))) : PendR P c (.pd d (.call f) xs none) r0 K s :=
  .inl ⟨_, _, gnew_AOkT hgs hHL hc.1 hc.2.1 hc.2.2.1 hc.2.2.2 hs, h⟩
end
/-- Behind the others, the blocks of a wheel. -/
theorem look_wh {ex : List (Nat × Bk)} {σ : Nat → Nat} {T : WT} {n b : Nat} (hT : T.wf) (hinj : ∀ b b', b < 67 → b' < 67 → σ b = σ b' → b = b') (hex : ∀ q ∈ ex, ∀ b, b < 67 → σ b ≠ q.1) (hb : b < 67) : lookb (ex ++ renH σ T.hb) n (σ b) = renB σ (lookb T.hb 67 b) := by
  rw [lookb_exS fun q hq e => hex q hq b hb e.symm]
  exact lookb_renH hinj hb (fun q hq => ((WT.HLb hT).mem q hq).1) ((WT.HLb hT).cov b hb)
theorem whb_live {T : WT} (hT : T.wf) {b : Nat} (hb : b < 67) : (lookb T.hb 67 b).live ∧ nmB 67 (lookb T.hb 67 b) := by
  obtain ⟨_, q, hq, _, e⟩ := (WT.HLb hT).live hb 67
  rw [e]
  exact ⟨live_of_nmB ((WT.HLb hT).mem q hq).2, ((WT.HLb hT).mem q hq).2⟩
def r67 (σ : Nat → Nat) (ρ : List (Nat × Nat)) (b : Nat) : Nat := if b < 67 then σ b else rl ρ b
theorem r67_lo {σ : Nat → Nat} {ρ : List (Nat × Nat)} {b : Nat} (h : b < 67) : r67 σ ρ b = σ b := if_pos h
theorem r67_hi {σ : Nat → Nat} {ρ : List (Nat × Nat)} {b : Nat} (h : 67 ≤ b) : r67 σ ρ b = rl ρ b := if_neg (by omega)
theorem renB_congr {f g : Nat → Nat} {n : Nat} (h : ∀ b, b < n → f b = g b) {x : Bk} (hx : nmB n x) : renB f x = renB g x := by
  have hv : ∀ v, nmOk n v → ren f v = ren g v := fun v => AV.rec (motive_1 := fun v => nmOk n v → ren f v = ren g v) (motive_2 := fun l => nmAll n l → rens f l = rens g l) (by simp [ren]) (fun b v h1 h2 => by simp only [nmOk] at h2; simp only [ren, h1 h2]) (fun _ _ => by simp [ren]) (fun _ => by simp [ren]) (fun _ => by simp [ren])
    (fun cs h1 h2 => by simp only [nmOk] at h2; simp only [ren, h1 h2]) (fun cs h1 h2 => by simp only [nmOk] at h2; simp only [ren, h1 h2]) (fun b _ h2 => by simp only [nmOk] at h2; simp only [ren, h b h2]) (fun cs _ h1 h2 => by simp only [nmOk] at h2; simp only [ren, h1 h2]) (fun _ b _ _ _ h2 => by simp only [nmOk] at h2; simp only [ren, h b h2]) (fun _ cs h1 h2 => by simp only [nmOk] at h2; simp only [ren, h1 h2]) (by simp [ren])
    (fun _ cs h1 h2 => by simp only [nmOk] at h2; simp only [ren, h1 h2]) (fun b h2 => by simp only [nmOk] at h2; simp only [ren, h b h2]) (fun _ => by simp [ren]) (by simp [rens]) (fun x xs h1 h2 => by simp only [nmAll, rens]; exact fun ⟨a, b⟩ => by rw [h1 a, h2 b]) v
  cases x with
  | free => rfl
  | dead => rfl
  | cells cs =>
    simp only [renB, rens_eq]
    congr 1
    exact List.map_congr_left fun v h => hv v (nmAll_iff.1 hx v h)
  | mapb kvs dn =>
    simp only [renB]
    congr 1
    exact List.map_congr_left fun q hq => by rw [hv _ (hx q hq).1, hv _ (hx q hq).2]
  | mapx kvs bs ck =>
    simp only [renB]
    congr 1
    exact List.map_congr_left fun q hq => by rw [hv _ (hx q hq).1, hv _ (hx q hq).2]
  | iter b ck seen => simp only [renB]; rw [h b hx]
  | bag ls => rfl
theorem renH_congr {f g : Nat → Nat} {T : WT} (hT : T.wf) (h : ∀ b, b < 67 → f b = g b) : renH f T.hb = renH g T.hb := by
  unfold renH
  exact List.map_congr_left fun q hq => by
    obtain ⟨h1, h2⟩ := (WT.HLb hT).mem q hq
    rw [h q.1 h1, renB_congr h h2]
/-- A wheel's names brought in order, others' put in others' places. -/
theorem To.wnorm {t t' : List (Nat × AV)} {ex ex' : List (Nat × Bk)} {T : WT} {σ : Nat → Nat} {n n' : Nat} (ρ : List (Nat × Nat)) (hT : T.wf) (hinj : ∀ b b', b < 67 → b' < 67 → σ b = σ b' → b = b') (hex : ∀ q ∈ ex, ∀ b, b < 67 → σ b ≠ q.1) (hn : 67 ≤ n')
    (hex' : ∀ q ∈ ex', (67 ≤ q.1 ∧ q.1 < n') ∧ (nmB n' q.2 ∧ lookb (ex ++ renH σ T.hb) n (rl ρ q.1) = renB (r67 σ ρ) q.2 ∧ lookb ex' n' q.1 = q.2) ∧ ∀ b, b < 67 → σ b ≠ rl ρ q.1) (hd : ∀ q ∈ ex', ∀ q' ∈ ex', rl ρ q.1 = rl ρ q'.1 → q.1 = q'.1) (ht : subT (r67 σ ρ) n' t t') :
    To [] ⟨t, ex ++ renH σ T.hb, n⟩ ⟨t', ex' ++ renH id T.hb, n'⟩ := by
  have hl := hT.len
  rw [renH_id]
  have hx67 : ∀ q ∈ ex', 67 ≤ q.1 := fun q hq => (hex' q hq).1.1
  have part : ∀ b, (b < 67 ∧ lookb (ex' ++ T.hb) n' b = lookb T.hb 67 b ∧ (lookb T.hb 67 b).live ∧ nmB 67 (lookb T.hb 67 b)) ∨ (∃ q ∈ ex', q.1 = b ∧ lookb (ex' ++ T.hb) n' b = q.2) ∨ (67 ≤ b ∧ lookb (ex' ++ T.hb) n' b = if b < n' then .dead else .free) := fun b => by
    by_cases h1 : b < 67
    · left
      obtain ⟨g1, g2⟩ := whb_live hT h1
      refine ⟨h1, ?_, g1, g2⟩
      rw [lookb_exS fun q hq e => by have := hx67 q hq; omega]
      exact ((WT.HLb hT).live h1 n').1
    · right
      rcases lookb_app ex' T.hb n' b with ⟨_, q, hq, e1, e2⟩ | ⟨h2, e⟩
      · left; exact ⟨q, hq, e1, e2⟩
      · right; rw [e, WT.hbHi hT n' b (by omega)]; exact ⟨by omega, rfl⟩
  refine To.lk (r67 σ ρ) (fun b hb => by cases hb) (fun b hlv => ?_) (fun b hb hnl => ?_) (fun b hb => ?_) (fun b b' hb hb' h1 h2 e => ?_) (fun b hb hlv => ?_) ht
  · rcases part b with ⟨h1, _⟩ | ⟨q, hq, rfl, _⟩ | ⟨h1, h2⟩
    · show b < n'; omega
    · exact (hex' q hq).1.2
    · have hlv : (lookb (ex' ++ T.hb) n' b).live := hlv
      rw [h2] at hlv; split at hlv <;> exact hlv.elim
  · rcases part b with ⟨h1, h2, h3, _⟩ | ⟨q, hq, rfl, h2⟩ | ⟨h1, h2⟩
    · exact (hnl (by show (lookb (ex' ++ T.hb) n' b).live; rw [h2]; exact h3)).elim
    · exact (hnl (by show (lookb (ex' ++ T.hb) n' q.1).live; rw [h2]; exact live_of_nmB (hex' q hq).2.1.1)).elim
    · show lookb (ex' ++ T.hb) n' b = _
      rw [h2, if_pos hb]
  · rcases part b with ⟨h1, h2, h3, _⟩ | ⟨q, hq, rfl, h2⟩ | ⟨h1, h2⟩
    · have : n' ≤ b := hb
      omega
    · have := (hex' q hq).1.2
      have : n' ≤ q.1 := hb
      omega
    · show lookb (ex' ++ T.hb) n' b = _
      have hb : n' ≤ b := hb
      rw [h2, if_neg (by omega)]
  · have g1 : (lookb (ex' ++ T.hb) n' b).live := h1
    have g2 : (lookb (ex' ++ T.hb) n' b').live := h2
    rcases part b with ⟨p1, _⟩ | ⟨q, hq, rfl, p2⟩ | ⟨p1, p2⟩
    · rcases part b' with ⟨p3, _⟩ | ⟨q', hq', rfl, p4⟩ | ⟨p3, p4⟩
      · rw [r67_lo p1, r67_lo p3] at e; exact hinj _ _ p1 p3 e
      · rw [r67_lo p1, r67_hi (hx67 q' hq')] at e; exact ((hex' q' hq').2.2 b p1 e).elim
      · rw [p4] at g2; split at g2 <;> exact g2.elim
    · rcases part b' with ⟨p3, _⟩ | ⟨q', hq', rfl, p4⟩ | ⟨p3, p4⟩
      · rw [r67_lo p3, r67_hi (hx67 q hq)] at e; exact ((hex' q hq).2.2 b' p3 e.symm).elim
      · rw [r67_hi (hx67 q hq), r67_hi (hx67 q' hq')] at e; exact hd q hq q' hq' e
      · rw [p4] at g2; split at g2 <;> exact g2.elim
    · rw [p2] at g1; split at g1 <;> exact g1.elim
  · have g1 : (lookb (ex' ++ T.hb) n' b).live := hlv
    show nmB n' (lookb (ex' ++ T.hb) n' b) ∧ lookb (ex ++ renH σ T.hb) n (r67 σ ρ b) = renB (r67 σ ρ) (lookb (ex' ++ T.hb) n' b)
    rcases part b with ⟨p1, p2, _, p3⟩ | ⟨q, hq, rfl, p2⟩ | ⟨p1, p2⟩
    · rw [p2, r67_lo p1, look_wh hT hinj hex p1]
      exact ⟨nmB_up hn p3, renB_congr (fun b hb => (r67_lo hb).symm) p3⟩
    · rw [p2, r67_hi (hx67 q hq)]
      exact ⟨(hex' q hq).2.1.1, (hex' q hq).2.1.2.1⟩
    · rw [p2] at g1; split at g1 <;> exact g1.elim
/-- Where the names lie behind a call. -/
def mv1 (n b : Nat) : Nat := if b < 2 then b else n + b
theorem mv1_eq (n : Nat) : sgx id [0, 1] n = mv1 n := by
  funext b
  unfold mv1
  by_cases h : b < 2
  · rw [if_pos h, sgx_in (by have : b = 0 ∨ b = 1 := by omega
                             simpa using this)]; rfl
  · rw [if_neg h, sgx_out (by simp; omega)]
theorem mv1_mv1 (m n : Nat) : sgx (mv1 m) [0, 1] n = mv1 n := by
  funext b
  unfold mv1
  by_cases h : b < 2
  · rw [if_pos h, sgx_in (by have : b = 0 ∨ b = 1 := by omega
                             simpa using this), if_pos h]
  · rw [if_neg h, sgx_out (by simp; omega)]
theorem mv1_inj {n : Nat} (hn : 67 ≤ n) {b b' : Nat} (h : b < 67) (h' : b' < 67) (e : mv1 n b = mv1 n b') : b = b' := by
  unfold mv1 at e
  (repeat' split at e) <;> omega
theorem mv1_0 (n : Nat) : mv1 n 0 = 0 := rfl
theorem mv1_1 (n : Nat) : mv1 n 1 = 1 := rfl
theorem mv1_lt (n : Nat) {b : Nat} (h : b < 67) : mv1 n b < n + 67 := by unfold mv1; split <;> omega
theorem whHi {T : WT} (hT : T.wf) {σ : Nat → Nat} {m : Nat} (hσ : ∀ b, b < 67 → σ b < m) (n b : Nat) (hb : m ≤ b) : lookb (renH σ T.hb) n b = if b < n then .dead else .free :=
  lookb_renO (m := 67) (fun b' hb' e => by have := hσ b' hb'; omega) fun q hq => ((WT.HLb hT).mem q hq).1
theorem ren_flat {σ : Nat → Nat} {v : AV} (h : nmOk 0 v) : ren σ v = v := ren_same (n := 0) (fun b hb => by omega) v h
theorem gx1 {gl : Nat → AV} {xs : List TV} {v : Bool} {f : FuncId} {args : List AV} {t : List (Nat × AV)} {ex : List (Nat × Bk)} {T : WT} {n : Nat} {p : List Nat} (hT : T.wf) (hp : ∀ b ∈ p, b < 67) (hn : 67 ≤ n) (hex : ∀ q ∈ ex, 67 ≤ q.1 ∧ q.1 < n)
    (hc : cokAll none (evs gl (⟨t, ex ++ renH id T.hb, n⟩ : St).fs xs) ∧ cArgs v f ((evs gl (⟨t, ex ++ renH id T.hb, n⟩ : St).fs xs).map strip) = some (f, args) ∧ nmAll 67 args) : GxOk gl xs v f args id p 67 t ex T.hb n :=
  ⟨fun b b' _ _ e => e, fun b hb => by show b < n; omega, WT.HLb hT, hp, fun q hq => ⟨fun b hb e => by have := (hex q hq).1; have e : b = q.1 := e; omega, (hex q hq).2⟩, hc.1, by rw [rens_id]; exact hc.2.1, hc.2.2⟩
theorem gx2 {gl : Nat → AV} {xs : List TV} {v : Bool} {f : FuncId} {args : List AV} {t : List (Nat × AV)} {ex : List (Nat × Bk)} {T : WT} {m n : Nat} {p : List Nat} (hT : T.wf) (hp : ∀ b ∈ p, b < 67) (hm : 67 ≤ m) (hn : m + 67 ≤ n) (hex : ∀ q ∈ ex, 67 ≤ q.1 ∧ q.1 < n ∧ (q.1 < m + 2 ∨ m + 67 ≤ q.1)) (hr : rens (mv1 m) args = args)
    (hc : cokAll none (evs gl (⟨t, ex ++ renH (mv1 m) T.hb, n⟩ : St).fs xs) ∧ cArgs v f ((evs gl (⟨t, ex ++ renH (mv1 m) T.hb, n⟩ : St).fs xs).map strip) = some (f, args) ∧ nmAll 67 args) : GxOk gl xs v f args (mv1 m) p 67 t ex T.hb n :=
  ⟨fun b b' h h' e => mv1_inj hm h h' e, fun b hb => by have := mv1_lt m hb; omega, WT.HLb hT, hp, fun q hq => ⟨fun b hb e => by
    have := hex q hq
    unfold mv1 at e
    split at e <;> omega, (hex q hq).2.1⟩, hc.1, by rw [hr]; exact hc.2.1, hc.2.2⟩
theorem gxSt_r {t : List (Nat × AV)} {ex : List (Nat × Bk)} {σ : Nat → Nat} {T : WT} {n : Nat} {d : Option Nat} {r : AV} (hT : T.wf) (hr : nmOk 0 r) : gxSt t ex T.hb σ (List.range 67) 67 n d r = St.putO ⟨t, ex ++ renH σ T.hb, n + 67⟩ d r := by
  unfold gxSt
  rw [renH_congr hT (f := sgx σ (List.range 67) n) (g := σ) fun b hb => sgx_in (List.mem_range.2 hb), ren_flat hr]
theorem gxSt_1 {t : List (Nat × AV)} {ex : List (Nat × Bk)} {T : WT} {n : Nat} {d : Option Nat} {r : AV} (hr : nmOk 0 r) : gxSt t ex T.hb id [0, 1] 67 n d r = St.putO ⟨t, ex ++ renH (mv1 n) T.hb, n + 67⟩ d r := by
  unfold gxSt
  rw [mv1_eq, ren_flat hr]
theorem gxSt_2 {t : List (Nat × AV)} {ex : List (Nat × Bk)} {T : WT} {m n : Nat} {d : Option Nat} {r : AV} (hr : nmOk 0 r) : gxSt t ex T.hb (mv1 m) [0, 1] 67 n d r = St.putO ⟨t, ex ++ renH (mv1 n) T.hb, n + 67⟩ d r := by
  unfold gxSt
  rw [mv1_mv1, ren_flat hr]
theorem isl_nm0 (n : Nat) (l : List Int) : nmOk 0 (.isl n (ints l)) := by simp only [nmOk]; rw [ints_nm]; trivial
end Go.Proofs.Ytphaicaobepimaa
