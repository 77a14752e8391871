/- What holds of frames that are changed. No conditions but the ones that stand in each. -/
import Derived.Test.YtblimjilinkmbaaWl
namespace Go.Proofs.Ytblimjilinkmbaa
set_option linter.all false
set_option linter.unusedSimpArgs false
open Go.RowKit

theorem rdE_len {f : List UInt8} (h : w2 f 2 ≠ f.length) : rdE f = 1 := by
  unfold rdE; rw [if_pos (Or.inr (Or.inr h))]
theorem segN_bd (p : Pk) (hp : p.proto = 1 ∨ p.proto = 6 ∨ p.proto = 17) (hl : p.body.length ≤ 64) : 8 ≤ segN p ∧ segN p ≤ 84 := by
  rw [segN_val p hp]; split <;> omega
/-- Not with a byte more, nor with one less. -/
theorem rdE_more (p : Pk) (h : pkErr p = 0) (c : UInt8) : rdE (buildB p ++ [c]) = 1 := by
  obtain ⟨hp, hr, hl, hf⟩ := pkErr_ok h
  obtain ⟨_, _, g2, _⟩ := build_head p hr hp hl (segB p ++ [c])
  refine rdE_len ?_
  have e : buildB p ++ [c] = headB p.proto p.frm p.dst p.ttl p.id (segN p) ++ (segB p ++ [c]) := by unfold buildB; rw [List.append_assoc]
  have hl : (buildB p ++ [c]).length = 21 + segN p := by rw [List.length_append, buildB_len]; simp; omega
  rw [hl, e]
  rw [g2]; omega
theorem rdE_less (p : Pk) (h : pkErr p = 0) : rdE ((buildB p).take ((buildB p).length - 1)) = 1 := by
  obtain ⟨hp, hr, hl, hf⟩ := pkErr_ok h
  have hb := segN_bd p hp hl
  obtain ⟨_, _, g2, _⟩ := build_head p hr hp hl ((segB p).take (segN p - 1))
  refine rdE_len ?_
  have e : (buildB p).take ((buildB p).length - 1) = headB p.proto p.frm p.dst p.ttl p.id (segN p) ++ (segB p).take (segN p - 1) := by
    rw [buildB_len]; unfold buildB
    rw [List.take_append, headB_len, List.take_of_length_le (by rw [headB_len]; omega)]
    congr 2; omega
  have hl : ((buildB p).take ((buildB p).length - 1)).length = 19 + segN p := by rw [List.length_take, buildB_len]; omega
  rw [hl, e]
  rw [g2]; omega

theorem sumL_set (l : List UInt8) (x : UInt8) : ∀ (k : Nat), k < l.length → ∃ d : Int, (d = (x.toNat : Int) - ((l.getD k 0).toNat : Int) ∨ d = 256 * ((x.toNat : Int) - ((l.getD k 0).toNat : Int))) ∧ (sumL (l.set k x) : Int) = sumL l + d := by
  induction l using sumL.induct with
  | case1 => intro k h; simp at h
  | case2 a =>
    intro k h
    have : k = 0 := by simp at h; exact h
    subst this
    exact ⟨_, Or.inr rfl, by simp [sumL]; omega⟩
  | case3 a b l ih =>
    intro k h
    match k with
    | 0 => exact ⟨_, Or.inr rfl, by simp [sumL]; omega⟩
    | 1 => exact ⟨_, Or.inl rfl, by simp [sumL]; omega⟩
    | k + 2 =>
      obtain ⟨d, hd, hs⟩ := ih k (by simp at h; omega)
      refine ⟨d, by simpa using hd, ?_⟩
      simp only [List.set_cons_succ, sumL]
      omega
theorem ofN_set (l : List UInt8) (x : UInt8) (k : Nat) (hk : k < l.length) (h : ofN l = 65535) (hx : x ≠ l.getD k 0) : ofN (l.set k x) ≠ 65535 := by
  obtain ⟨d, hd, hs⟩ := sumL_set l x k hk
  have hn : (x.toNat : Int) ≠ ((l.getD k 0).toNat : Int) := fun e => hx (UInt8.toNat_inj.1 (by omega))
  have b0 := UInt8.toNat_lt x
  have b1 := UInt8.toNat_lt (l.getD k 0)
  generalize (l.getD k 0).toNat = y at *
  generalize x.toNat = z at *
  unfold ofN backN at h ⊢
  split at h
  · cases h
  · split
    · decide
    · rcases hd with rfl | rfl <;> omega
theorem rdE_ok {f : List UInt8} (h : rdE f = 0) : ofN (f.take 20) = 65535 ∧ ofN (preB (b1 f 9) (w4 f 12) (w4 f 16) (f.drop 20).length ++ f.drop 20) = 65535 := by
  unfold rdE at h
  dsimp only at h
  generalize (if b1 f 9 = 6 then 20 else 8) = kk at h
  split at h
  · cases h
  split at h
  · cases h
  split at h
  · cases h
  split at h
  · cases h
  split at h
  · cases h
  split at h
  · cases h
  split at h
  · cases h
  rename_i h1 h2 h3 h4 h5 h6 h7
  exact ⟨Decidable.not_not.1 h2, Decidable.not_not.1 fun hh => h7 (Or.inl hh)⟩
/-- One byte changed, whichever. -/
theorem rdE_set (p : Pk) (h : pkErr p = 0) (k : Nat) (x : UInt8) (hk : k < (buildB p).length) (hx : x ≠ (buildB p).getD k 0) : rdE ((buildB p).set k x) ≠ 0 := by
  intro h0
  obtain ⟨hp, hr, hl, hf⟩ := pkErr_ok h
  obtain ⟨o1, o2⟩ := rdE_ok h0
  rw [buildB_len] at hk
  by_cases h20 : k < 20
  · rw [List.take_set, buildB_take] at o1
    refine ofN_set _ x k (by rw [headB_len]; exact h20) (headB_of _ _ _ _ _ _) ?_ o1
    intro hh
    apply hx
    rw [hh]; unfold buildB
    simp only [List.getD_eq_getElem?_getD]
    rw [List.getElem?_append_left (by rw [headB_len]; exact h20)]
  · have e : (buildB p).set k x = headB p.proto p.frm p.dst p.ttl p.id (segN p) ++ (segB p).set (k - 20) x := by
      unfold buildB
      rw [List.set_append_right _ _ (by rw [headB_len]; omega), headB_len]
    obtain ⟨_, _, _, _, _, _, g9, g12, g16⟩ := build_head p hr hp hl ((segB p).set (k - 20) x)
    rw [e] at o2
    rw [g9, g12, g16, List.drop_left' (headB_len _ _ _ _ _ _), List.length_set, segB_len] at o2
    have hlen : (preB p.proto p.frm p.dst (segN p)).length ≤ (preB p.proto p.frm p.dst (segN p)).length + (k - 20) := by omega
    have e2 : preB p.proto p.frm p.dst (segN p) ++ (segB p).set (k - 20) x = (preB p.proto p.frm p.dst (segN p) ++ segB p).set ((preB p.proto p.frm p.dst (segN p)).length + (k - 20)) x := by
      rw [List.set_append_right _ _ hlen]; congr 2; omega
    rw [e2] at o2
    refine ofN_set _ x _ (by rw [List.length_append, segB_len]; omega) (segB_of p) ?_ o2
    intro hh
    apply hx
    rw [hh]; unfold buildB
    simp only [List.getD_eq_getElem?_getD]
    rw [List.getElem?_append_right hlen, List.getElem?_append_right (by rw [headB_len]; omega), headB_len]
    congr 2; omega

/-- What tells that a frame is refused. -/
def refS (f : List UInt8) : List UInt8 := [3, 13] ++ be (checkN ([3, 13] ++ [0, 0] ++ ([0, 0, 0, 0] ++ f.take 28))) 2 ++ ([0, 0, 0, 0] ++ f.take 28)
def refB (f : List UInt8) (frm id : Int) : List UInt8 := headB 1 167772414 frm 64 id 36 ++ refS f
theorem refS_len (f : List UInt8) (h : 28 ≤ f.length) : (refS f).length = 36 := by simp [refS, be_len]; omega
theorem refS_of (f : List UInt8) : ofN (refS f) = 65535 := chk_ok [3, 13] _ (by decide)
theorem refB_len (f : List UInt8) (frm id : Int) (h : 28 ≤ f.length) : (refB f frm id).length = 56 := by simp [refB, headB_len, refS_len f h]
theorem refB_law (f : List UInt8) (frm id : Int) (h : 28 ≤ f.length) (h1 : 0 ≤ frm ∧ frm ≤ 4294967295) (h2 : 0 ≤ id ∧ id ≤ 65535) :
    (refB f frm id).drop 28 = f.take 28 ∧ ofN ((refB f frm id).take 20) = 65535 ∧ ofN ((refB f frm id).drop 20) = 65535 ∧ b1 (refB f frm id) 20 = 3 ∧ b1 (refB f frm id) 21 = 13 ∧ rdE (refB f frm id) = 4 := by
  have t20 : (refB f frm id).take 20 = headB 1 167772414 frm 64 id 36 := List.take_left' (headB_len _ _ _ _ _ _)
  have d20 : (refB f frm id).drop 20 = refS f := List.drop_left' (headB_len _ _ _ _ _ _)
  have d28 : (refB f frm id).drop 28 = f.take 28 := by
    have : (refB f frm id).drop 28 = ((refB f frm id).drop 20).drop 8 := by rw [List.drop_drop]
    rw [this, d20]; rfl
  have hL := refB_len f frm id h
  obtain ⟨g0, g1, g2, g4, g6, g8, g9, g12, g16⟩ := head_says 1 167772414 frm 64 id 36 (refS f) (by omega) (by omega) h1 (by omega) h2 (by omega)
  change b1 (refB f frm id) 0 = _ at g0
  change b1 (refB f frm id) 1 = _ at g1
  change w2 (refB f frm id) 2 = _ at g2
  change w2 (refB f frm id) 6 = _ at g6
  change b1 (refB f frm id) 8 = _ at g8
  change b1 (refB f frm id) 9 = _ at g9
  obtain ⟨c, hc⟩ := headB_cons 1 167772414 frm 64 id 36
  have q0 : b1 (refB f frm id) 20 = 3 := by unfold refB; rw [hc]; rfl
  have q1 : b1 (refB f frm id) 21 = 13 := by unfold refB; rw [hc]; rfl
  refine ⟨d28, by rw [t20]; exact headB_of _ _ _ _ _ _, by rw [d20]; exact refS_of f, q0, q1, ?_⟩
  have s0 : b1 (refS f) 0 = 3 := rfl
  unfold rdE
  dsimp only
  rw [d20, t20, g0, g1, g2, g6, g8, g9, hL, headB_of, refS_len f h, s0]
  have e : preB 1 (w4 (refB f frm id) 12) (w4 (refB f frm id) 16) ((36 : Nat) : Int) ++ refS f = refS f := rfl
  rw [e, refS_of]
  rw [if_neg (by omega), if_neg (by omega), if_neg (by omega), if_neg (by omega), if_neg (by omega), if_neg (by decide), if_neg (by omega), if_pos (by omega)]
end Go.Proofs.Ytblimjilinkmbaa
