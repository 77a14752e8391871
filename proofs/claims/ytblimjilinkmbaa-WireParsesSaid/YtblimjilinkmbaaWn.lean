/- What a frame is that is turned. No conditions but the ones that stand in each. -/
import Derived.Test.YtblimjilinkmbaaWm
namespace Go.Proofs.Ytblimjilinkmbaa
set_option linter.all false
set_option linter.unusedSimpArgs false
open Go.RowKit

/-- A frame of words and a rest. -/
def fr : List Int → List UInt8 → List UInt8
  | [], t => t
  | w :: ws, t => byteI w 1 :: byteI w 0 :: fr ws t
theorem word_mod (v : Int) : nbI [byteI v 1, byteI v 0] = v % 65536 := by
  have e1 : (byteI v 1).toNat = ((v / 256) % 256).toNat := by
    rw [byteI_eq' _ _ (by omega)]
    simp only [UInt8.toNat_ofNat', Nat.reducePow, Int.pow_one]
    omega
  have e0 : (byteI v 0).toNat = (v % 256).toNat := by
    rw [byteI_eq' _ _ (by omega)]
    simp only [UInt8.toNat_ofNat', Nat.reducePow, Int.pow_zero, Int.ediv_one]
    omega
  rw [nbI_nat _ (by simp)]
  simp only [nbN]
  omega
theorem fr_w2 (t : List UInt8) : ∀ (ws : List Int) (k : Nat), k < ws.length → w2 (fr ws t) (2 * k) = ws.getD k 0 % 65536
  | [], _, h => by simp at h
  | w :: ws, 0, _ => word_mod w
  | w :: ws, k + 1, h => by
    have e : w2 (fr (w :: ws) t) (2 * (k + 1)) = w2 (fr ws t) (2 * k) := rfl
    rw [e, fr_w2 t ws k (by simpa using h)]
    simp
theorem fr_setW (t : List UInt8) (n : Int) : ∀ (ws : List Int) (k : Nat), k < ws.length → setW (fr ws t) (2 * k) n = fr (ws.set k n) t
  | [], _, h => by simp at h
  | w :: ws, 0, _ => rfl
  | w :: ws, k + 1, h => by
    have := fr_setW t n ws k (by simpa using h)
    have e : setW (fr (w :: ws) t) (2 * (k + 1)) n = byteI w 1 :: byteI w 0 :: setW (fr ws t) (2 * k) n := rfl
    rw [e, this]; rfl
theorem updN_mod (c m n : Int) : updN (c % 65536) (m % 65536) n = updN c m n := by
  unfold updN
  rw [Int.emod_emod_of_dvd _ (Int.dvd_refl _), Int.emod_emod_of_dvd _ (Int.dvd_refl _)]
theorem updN_mod1 (c m n : Int) : updN (c % 65536) m n = updN c m n := by
  unfold updN
  rw [Int.emod_emod_of_dvd _ (Int.dvd_refl _)]
theorem updN_mod2 (c m n : Int) : updN c (m % 65536) n = updN c m n := by
  unfold updN
  rw [Int.emod_emod_of_dvd _ (Int.dvd_refl _)]
theorem fr_tell (ws : List Int) (t : List UInt8) (k : Nat) (m n : Int) (h : k < ws.length) : tellW (fr ws t) (2 * k) m n = fr (ws.set k (updN (ws.getD k 0) m n)) t := by
  unfold tellW
  rw [fr_w2 t ws k h, updN_mod1, fr_setW _ _ _ _ h]
theorem fr_setC (ws : List Int) (t : List UInt8) (k c : Nat) (n : Int) (hk : k < ws.length) (hc : c < ws.length) : setC (fr ws t) (2 * k) (2 * c) n = fr ((ws.set c (updN (ws.getD c 0) (ws.getD k 0) n)).set k n) t := by
  unfold setC
  rw [fr_w2 t ws k hk, fr_tell _ _ _ _ _ hc, updN_mod2, fr_setW _ _ _ _ (by simpa using hk)]
theorem fr_drop (t : List UInt8) : ∀ (ws : List Int) (k : Nat), k ≤ ws.length → (fr ws t).drop (2 * k) = fr (ws.drop k) t
  | _, 0, _ => rfl
  | [], k + 1, h => by simp at h
  | w :: ws, k + 1, h => by
    have := fr_drop t ws k (by simpa using h)
    show (fr ws t).drop (2 * k) = _
    rw [this]; rfl
def sumW : List Int → Int
  | [] => 0
  | w :: ws => w % 65536 + sumW ws
theorem sumW_nn : ∀ ws, 0 ≤ sumW ws
  | [] => Int.le_refl _
  | w :: ws => by have := sumW_nn ws; simp only [sumW]; omega
theorem fr_sum (t : List UInt8) : ∀ ws : List Int, (sumL (fr ws t) : Int) = sumW ws + sumL t
  | [] => by simp [fr, sumW]
  | w :: ws => by
    have ih := fr_sum t ws
    have hw := word_mod w
    rw [nbI_nat _ (by simp)] at hw
    simp only [nbN] at hw
    simp only [fr, sumL, sumW]
    omega

/-- The check of a sum. -/
def ckS (T : Int) : Int := 65535 - (backN T.toNat : Nat)
theorem ckS_bd (T : Int) : 0 ≤ ckS T ∧ ckS T ≤ 65535 := by
  unfold ckS; have := backN_le T.toNat; omega
theorem ckS_lt (T : Int) (h : 0 < T) : ckS T ≤ 65534 ∧ (ckS T + T) % 65535 = 0 := by
  unfold ckS backN; rw [if_neg (by omega)]; omega
theorem ckS_0 : ckS 0 = 65535 := rfl
theorem updN_bd (c m n : Int) : 0 ≤ updN c m n ∧ updN c m n ≤ 65535 := by
  unfold updN; have := addN_le (addN (65535 - c % 65536) (65535 - m % 65536)) n; omega
/-- A check that knows of a change: what it is, by its rest. -/
theorem updN_eq (c m n : Int) (hc : 0 ≤ c ∧ c ≤ 65535) (hm : 0 ≤ m ∧ m ≤ 65535) (hn : 0 ≤ n ∧ n ≤ 65535) : updN c m n = ckS (131070 - c - m + n) := by
  unfold updN ckS addN
  have h1 : (((65535 - c % 65536) % 65536).toNat + ((65535 - m % 65536) % 65536).toNat) = (131070 - c - m).toNat := by omega
  have h2 : ((backN (131070 - c - m).toNat : Nat) : Int) % 65536 = (backN (131070 - c - m).toNat : Nat) := by
    have := backN_le (131070 - c - m).toNat; omega
  have h3 : (n % 65536).toNat = n.toNat := by omega
  rw [h1, h2, h3, Int.toNat_natCast, backN_add, ← Int.toNat_add (by omega) (by omega)]
theorem ckS_congr (S T : Int) (hS : 0 < S) (hT : 0 < T) (h : (S - T) % 65535 = 0) : ckS S = ckS T := by
  have := ckS_lt S hS; have := ckS_lt T hT; have := ckS_bd S; have := ckS_bd T; omega
theorem upd_ck (T m n : Int) (h0 : 0 < T) (hm : 0 ≤ m ∧ m ≤ 65535) (hn : 0 ≤ n ∧ n ≤ 65535) (hp : 0 < T - m + n) : updN (ckS T) m n = ckS (T - m + n) := by
  have h1 := ckS_lt T h0; have h2 := ckS_bd T
  rw [updN_eq _ _ _ h2 hm hn]
  exact ckS_congr _ _ (by omega) hp (by omega)
/-- A check that stands for a sum, of two noughts either. -/
def ckI (c T : Int) : Prop := 0 ≤ c ∧ c ≤ 65535 ∧ (c + T) % 65535 = 0
theorem upd_ckI (c T m n : Int) (h : ckI c T) (hm : 0 ≤ m ∧ m ≤ 65535) (hn : 0 ≤ n ∧ n ≤ 65535) : ckI (updN c m n) (T - m + n) := by
  obtain ⟨h1, h2, h3⟩ := h
  have hb := updN_bd c m n
  refine ⟨hb.1, hb.2, ?_⟩
  rw [updN_eq _ _ _ ⟨h1, h2⟩ hm hn]
  by_cases h0 : 131070 - c - m + n = 0
  · rw [h0, ckS_0]; omega
  · have := ckS_lt (131070 - c - m + n) (by omega); omega

/-- What Turn writes upon a frame. -/
def ckAt (proto : Int) : Nat := if proto = 1 then 22 else if proto = 17 then 26 else 36
def tl (b : List UInt8) (proto : Int) (m n : Int) : List UInt8 := if proto = 1 then b else tellW b (ckAt proto) m n
def turnB (f : List UInt8) (proto ttl : Int) (at' wh : Nat) (addr port : Int) : List UInt8 :=
  let b1 := tl (setC f at' 10 (addr / 65536)) proto (w2 f at') (addr / 65536)
  let b2 := tl (setC b1 (at' + 2) 10 (addr % 65536)) proto (w2 b1 (at' + 2)) (addr % 65536)
  let b3 := setC b2 8 10 ((ttl - 1) * 256 + proto)
  let b4 := setC b3 wh (ckAt proto) port
  if (w2 b4 (ckAt proto) = 0) ∧ (proto = 17 ∨ ofN (b4.drop 20) = 0) then setW b4 (ckAt proto) 65535 else b4
def atOf (side : Int) : Nat := if side = 0 then 12 else 16
def whOf (proto side : Int) : Nat := if proto = 1 then 24 else if side = 0 then 20 else 22
def turned (p : Pk) (side addr port : Int) : Pk := if side = 0 then { p with ttl := p.ttl - 1, frm := addr, sport := port } else { p with ttl := p.ttl - 1, dst := addr, dport := port }
def turnE (p : Pk) (side addr port : Int) : Int :=
  if side < 0 ∨ side > 1 ∨ ¬ (0 ≤ addr ∧ addr ≤ 4294967295) ∨ ¬ (0 ≤ port ∧ port ≤ 65535) then 2
  else if p.ttl = 1 then 12
  else if p.proto = 1 ∧ ¬ (side = 0 ↔ p.flags = 8) then 4
  else 0

/-- The words of a frame. -/
def hdW (p : Pk) (n c : Int) : List Int := [17664, 20 + n, p.id, 0, p.ttl * 256 + p.proto, c, p.frm / 65536, p.frm % 65536, p.dst / 65536, p.dst % 65536]
def sgW (p : Pk) (c : Int) : List Int :=
  if p.proto = 1 then [p.flags * 256, c, p.sport + p.dport, p.seq]
  else if p.proto = 17 then [p.sport, p.dport, 8 + p.body.length, c]
  else [p.sport, p.dport, p.seq / 65536, p.seq % 65536, p.ack / 65536, p.ack % 65536, 80 * 256 + p.flags, p.win, c, 0]
theorem be_2 (v : Int) (t : List UInt8) : be v 2 ++ t = fr [v] t := rfl
theorem byteI_of (v w : Int) (k j : Nat) (hk : k ≤ 8) (hj : j ≤ 8) (h : v / 256 ^ k % 256 = w / 256 ^ j % 256) : byteI v k = byteI w j := by
  rw [byteI_eq' _ _ hk, byteI_eq' _ _ hj, h]
theorem be_4 (v : Int) (t : List UInt8) : be v 4 ++ t = fr [v / 65536, v % 65536] t := by
  show byteI v 3 :: byteI v 2 :: byteI v 1 :: byteI v 0 :: t = byteI (v / 65536) 1 :: byteI (v / 65536) 0 :: byteI (v % 65536) 1 :: byteI (v % 65536) 0 :: t
  rw [byteI_of v (v / 65536) 3 1 (by omega) (by omega) (by omega), byteI_of v (v / 65536) 2 0 (by omega) (by omega) (by omega), byteI_of v (v % 65536) 1 1 (by omega) (by omega) (by omega), byteI_of v (v % 65536) 0 0 (by omega) (by omega) (by omega)]
theorem be_11 (v w : Int) (hw : 0 ≤ w ∧ w < 256) (t : List UInt8) : be v 1 ++ (be w 1 ++ t) = fr [v * 256 + w] t := by
  show byteI v 0 :: byteI w 0 :: t = byteI (v * 256 + w) 1 :: byteI (v * 256 + w) 0 :: t
  rw [byteI_of v (v * 256 + w) 0 1 (by omega) (by omega) (by omega), byteI_of w (v * 256 + w) 0 0 (by omega) (by omega) (by omega)]
theorem fr_app (a b : List Int) (t : List UInt8) : fr a (fr b t) = fr (a ++ b) t := by
  induction a with
  | nil => rfl
  | cons w a ih => simp only [List.cons_append, fr, ih]
theorem hd_fr (p : Pk) (n c : Int) (hp : 0 ≤ p.proto ∧ p.proto < 256) (t : List UInt8) : hdA p.proto p.ttl p.id n ++ be c 2 ++ hdZ p.frm p.dst ++ t = fr (hdW p n c) t := by
  unfold hdA hdZ
  have e0 : ∀ t, [(69 : UInt8), 0] ++ t = fr [17664] t := fun t => by
    show (69 : UInt8) :: 0 :: t = byteI 17664 1 :: byteI 17664 0 :: t
    rw [show byteI 17664 1 = 69 by decide, show byteI 17664 0 = 0 by decide]
  have e1 : ∀ t, [(0 : UInt8), 0] ++ t = fr [0] t := fun t => by
    show (0 : UInt8) :: 0 :: t = byteI 0 1 :: byteI 0 0 :: t
    rw [show byteI 0 1 = 0 by decide, show byteI 0 0 = 0 by decide]
  simp only [List.append_assoc]
  rw [be_4 p.dst, be_4 p.frm, be_2 c, be_11 _ _ hp, e1, be_2 p.id, be_2 (20 + n), e0]
  simp only [fr_app]
  rfl
theorem sg_fr (p : Pk) (hp : p.proto = 1 ∨ p.proto = 6 ∨ p.proto = 17) (hf : 0 ≤ p.flags ∧ p.flags < 256) (c : Int) : segA p ++ be c 2 ++ segZ p = fr (sgW p c) p.body := by
  unfold segA segZ sgW
  rcases hp with h | h | h
  · simp only [h, if_true]
    have e : ∀ t, be p.flags 1 ++ ([0] ++ t) = fr [p.flags * 256] t := fun t => by
      have := be_11 p.flags 0 (by omega) t
      rw [Int.add_zero] at this
      rw [← this]; rfl
    simp only [List.append_assoc]
    rw [be_2 p.seq, be_2 (p.sport + p.dport), be_2 c, e]
    simp only [fr_app]; rfl
  · have h1 : ¬ p.proto = 1 := by omega
    have h2 : ¬ p.proto = 17 := by omega
    simp only [h1, h2, if_false]
    have e : ∀ t, [80] ++ (be p.flags 1 ++ t) = fr [80 * 256 + p.flags] t := fun t => by
      rw [← be_11 80 p.flags hf t]; rfl
    have e1 : ∀ t, [(0 : UInt8), 0] ++ t = fr [0] t := fun t => by
      show (0 : UInt8) :: 0 :: t = byteI 0 1 :: byteI 0 0 :: t
      rw [show byteI 0 1 = 0 by decide, show byteI 0 0 = 0 by decide]
    simp only [List.append_assoc]
    rw [e1, be_2 c, be_2 p.win, e, be_4 p.ack, be_4 p.seq, be_2 p.dport, be_2 p.sport]
    simp only [fr_app]; rfl
  · have h1 : ¬ (17 : Int) = 1 := by omega
    simp only [h1, h, if_false, if_true]
    simp only [List.append_assoc]
    rw [be_2 c, be_2 (8 + (p.body.length : Int)), be_2 p.dport, be_2 p.sport]
    simp only [fr_app]; rfl
end Go.Proofs.Ytblimjilinkmbaa
