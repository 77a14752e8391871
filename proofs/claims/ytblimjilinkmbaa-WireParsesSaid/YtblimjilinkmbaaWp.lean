/- A frame that is turned is the one that would be built anew. No conditions but the ones that stand in each. -/
import Derived.Test.YtblimjilinkmbaaWo
namespace Go.Proofs.Ytblimjilinkmbaa
set_option linter.all false
set_option linter.unusedSimpArgs false
open Go.RowKit

theorem be_02 : be 0 2 = [0, 0] := by decide
theorem checkN_ckS (l : List UInt8) (T : Int) (h : (sumL l : Int) = T) : (checkN l : Int) = ckS T := by
  subst h
  have := ofN_le l
  unfold checkN ckS ofN at *
  rw [Int.toNat_natCast]; omega
theorem head_fr (p : Pk) (n : Int) (hp : 0 ≤ p.proto ∧ p.proto < 256) (t : List UInt8) : headB p.proto p.frm p.dst p.ttl p.id n ++ t = fr (hdW p n (ckS (sumW (hdW p n 0)))) t := by
  unfold headB
  rw [checkN_ckS _ (sumW (hdW p n 0)), hd_fr p n _ hp]
  have := hd_fr p n 0 hp []
  rw [be_02, List.append_nil] at this
  rw [this, fr_sum]; simp [sumL]
def preW (p : Pk) (n : Int) : List Int := if p.proto = 1 then [] else [p.frm / 65536, p.frm % 65536, p.dst / 65536, p.dst % 65536, p.proto, n]
theorem pre_fr (p : Pk) (n : Int) (t : List UInt8) : preB p.proto p.frm p.dst n ++ t = fr (preW p n) t := by
  unfold preB preW
  split
  · rfl
  · simp only [List.append_assoc]
    rw [be_2 n, be_2 p.proto, be_4 p.dst, be_4 p.frm]
    simp only [fr_app]; rfl
def sumS (p : Pk) : Int := sumW (preW p (segN p)) + sumW (sgW p 0) + sumL p.body
theorem ckN_eq (p : Pk) (hp : p.proto = 1 ∨ p.proto = 6 ∨ p.proto = 17) (hf : 0 ≤ p.flags ∧ p.flags < 256) : (ckN p : Int) = if p.proto = 17 ∧ ckS (sumS p) = 0 then 65535 else ckS (sumS p) := by
  have e : (checkN (preB p.proto p.frm p.dst (segN p) ++ segA p ++ [0, 0] ++ segZ p) : Int) = ckS (sumS p) := by
    apply checkN_ckS
    have h := sg_fr p hp hf 0
    rw [be_02] at h
    rw [List.append_assoc, List.append_assoc, ← List.append_assoc (segA p), h, pre_fr, fr_sum, Int.add_comm, fr_sum]
    unfold sumS
    omega
  unfold ckN
  by_cases h : p.proto = 17 ∧ ckS (sumS p) = 0
  · rw [if_pos ⟨h.1, by omega⟩, if_pos h]; rfl
  · rw [if_neg (fun hh => h ⟨hh.1, by omega⟩), if_neg h, e]
theorem build_fr (p : Pk) (hp : p.proto = 1 ∨ p.proto = 6 ∨ p.proto = 17) (hf : 0 ≤ p.flags ∧ p.flags < 256) : buildB p = fr (hdW p (segN p) (ckS (sumW (hdW p (segN p) 0))) ++ sgW p (ckN p)) p.body := by
  unfold buildB segB
  rw [sg_fr p hp hf, head_fr p _ (by omega), fr_app]

theorem upd3 (T m1 n1 m2 n2 m3 n3 : Int) (hm1 : 0 ≤ m1 ∧ m1 ≤ 65535) (hn1 : 0 ≤ n1 ∧ n1 ≤ 65535) (hm2 : 0 ≤ m2 ∧ m2 ≤ 65535) (hn2 : 0 ≤ n2 ∧ n2 ≤ 65535) (hm3 : 0 ≤ m3 ∧ m3 ≤ 65535) (hn3 : 0 ≤ n3 ∧ n3 ≤ 65535) (h : 0 < T - m1 - m2 - m3) :
    updN (updN (updN (ckS T) m1 n1) m2 n2) m3 n3 = ckS (T - m1 + n1 - m2 + n2 - m3 + n3) := by
  rw [upd_ck T m1 n1 (by omega) hm1 hn1 (by omega), upd_ck _ m2 n2 (by omega) hm2 hn2 (by omega), upd_ck _ m3 n3 (by omega) hm3 hn3 (by omega)]
theorem upd3I (c T m1 n1 m2 n2 m3 n3 : Int) (hc : ckI c T) (hm1 : 0 ≤ m1 ∧ m1 ≤ 65535) (hn1 : 0 ≤ n1 ∧ n1 ≤ 65535) (hm2 : 0 ≤ m2 ∧ m2 ≤ 65535) (hn2 : 0 ≤ n2 ∧ n2 ≤ 65535) (hm3 : 0 ≤ m3 ∧ m3 ≤ 65535) (hn3 : 0 ≤ n3 ∧ n3 ≤ 65535) :
    ckI (updN (updN (updN c m1 n1) m2 n2) m3 n3) (T - m1 + n1 - m2 + n2 - m3 + n3) :=
  upd_ckI _ _ _ _ (upd_ckI _ _ _ _ (upd_ckI _ _ _ _ hc hm1 hn1) hm2 hn2) hm3 hn3
theorem ckS_eqT {S T : Int} (h : S = T) : ckS S = ckS T := by rw [h]
theorem ofN_fr0 (ws : List Int) (t : List UInt8) : ofN (fr ws t) = 0 ↔ sumW ws + sumL t = 0 := by
  have := fr_sum t ws
  unfold ofN backN
  split <;> omega
/-- The check of a ping that is turned. -/
theorem ping_ck (T m n r : Int) (hm : 0 ≤ m ∧ m ≤ 65535) (hn : 0 ≤ n ∧ n ≤ 65535) (hr : 0 ≤ r) (hT : T = m + r) (P : Prop) [Decidable P] (hP : P ↔ updN (ckS T) m n + n + r = 0) : (if updN (ckS T) m n % 65536 = 0 ∧ P then 65535 else updN (ckS T) m n) = ckS (n + r) := by
  have hb := updN_bd (ckS T) m n
  have hs := ckS_bd T
  have he := updN_eq (ckS T) m n hs hm hn
  by_cases h0 : n + r = 0
  · have hn0 : n = 0 := by omega
    have hr0 : r = 0 := by omega
    rw [h0, ckS_0]
    have e : updN (ckS T) m n = 0 := by
      rw [he]
      by_cases hT0 : T = 0
      · have hm0 : m = 0 := by omega
        have h9 : (131070 : Int) - ckS T - m + n = 65535 := by rw [hT0, ckS_0]; omega
        rw [h9]; decide
      · have h1 := ckS_lt T (by omega)
        have h2 := ckS_lt (131070 - ckS T - m + n) (by omega)
        have h3 := ckS_bd (131070 - ckS T - m + n)
        omega
    rw [if_pos ⟨by rw [e]; rfl, hP.2 (by rw [e]; omega)⟩]
  · rw [if_neg (fun hh => by have := hP.1 hh.2; omega), he]
    by_cases hT0 : T = 0
    · have hm0 : m = 0 := by omega
      have hr0 : r = 0 := by omega
      have h9 : ckS T = 65535 := by rw [hT0, ckS_0]
      exact ckS_congr _ _ (by omega) (by omega) (by omega)
    · have h1 := ckS_lt T (by omega)
      exact ckS_congr _ _ (by omega) (by omega) (by omega)

theorem turned_good (p : Pk) (h : pkErr p = 0) (side addr port : Int) (ht : turnE p side addr port = 0) : pkErr (turned p side addr port) = 0 := by
  obtain ⟨hp, hr, hl, hf⟩ := pkErr_ok h
  unfold turnE at ht
  split at ht
  · cases ht
  split at ht
  · cases ht
  split at ht
  · cases ht
  rename_i t1 t2 t3
  obtain ⟨r1, r2, r3, r4, r5, r6, r7, r8, r9, r10⟩ := hr
  rcases p with ⟨proto, frm, sport, dst, dport, ttl, id, flags, seq, ack, win, body⟩
  dsimp only at *
  unfold pkForm at hf
  dsimp only at hf
  have ha : 0 ≤ addr ∧ addr ≤ 4294967295 := by omega
  have hq : 0 ≤ port ∧ port ≤ 65535 := by omega
  unfold turned
  split
  · refine pkErr_of hp ⟨ha, r2, r3, r4, hq, r6, r7, r8, ⟨?_, ?_⟩, r10⟩ hl ?_
    · dsimp only; omega
    · dsimp only; omega
    · unfold pkForm; dsimp only; omega
  · refine pkErr_of hp ⟨r1, ha, r3, r4, r5, hq, r7, r8, ⟨?_, ?_⟩, r10⟩ hl ?_
    · dsimp only; omega
    · dsimp only; omega
    · unfold pkForm; dsimp only; omega
end Go.Proofs.Ytblimjilinkmbaa
