/- Packets and frames, said plainly. No conditions. -/
import Derived.Test.YtblimjilinkmbaaB0
import Derived.Test.YtblimjilinkmbaaSb
namespace Go.Proofs.Ytblimjilinkmbaa
set_option linter.all false
set_option linter.unusedSimpArgs false
open Go.RowKit

structure Pk where
  proto : Int
  frm : Int
  sport : Int
  dst : Int
  dport : Int
  ttl : Int
  id : Int
  flags : Int
  seq : Int
  ack : Int
  win : Int
  body : List UInt8
def Pk.enc (p : Pk) : List AV := [.int .i64 p.proto, .int .i64 p.frm, .int .i64 p.sport, .int .i64 p.dst, .int .i64 p.dport, .int .i64 p.ttl, .int .i64 p.id, .int .i64 p.flags, .int .i64 p.seq, .int .i64 p.ack, .int .i64 p.win, .str p.body]
def pk0 : Pk := ⟨0, 0, 0, 0, 0, 0, 0, 0, 0, 0, 0, []⟩

def pkRange (p : Pk) : Prop := (0 ≤ p.frm ∧ p.frm ≤ 4294967295) ∧ (0 ≤ p.dst ∧ p.dst ≤ 4294967295) ∧ (0 ≤ p.seq ∧ p.seq ≤ 4294967295) ∧ (0 ≤ p.ack ∧ p.ack ≤ 4294967295) ∧
  (0 ≤ p.sport ∧ p.sport ≤ 65535) ∧ (0 ≤ p.dport ∧ p.dport ≤ 65535) ∧ (0 ≤ p.id ∧ p.id ≤ 65535) ∧ (0 ≤ p.win ∧ p.win ≤ 65535) ∧ (1 ≤ p.ttl ∧ p.ttl ≤ 255) ∧ (0 ≤ p.flags ∧ p.flags ≤ 63)
instance (p : Pk) : Decidable (pkRange p) := by unfold pkRange; infer_instance
def pkForm (p : Pk) : Prop := (p.proto ≠ 6 ∧ (p.ack ≠ 0 ∨ p.win ≠ 0)) ∨ (p.proto = 17 ∧ (p.seq ≠ 0 ∨ p.flags ≠ 0)) ∨
  (p.proto = 1 ∧ ((p.flags ≠ 8 ∧ p.flags ≠ 0) ∨ (p.flags = 8 ∧ p.dport ≠ 0) ∨ (p.flags = 0 ∧ p.sport ≠ 0) ∨ 65535 < p.seq))
instance (p : Pk) : Decidable (pkForm p) := by unfold pkForm; infer_instance
/-- What is wrong with a packet. -/
def pkErr (p : Pk) : Int :=
  if ¬ (p.proto = 1 ∨ p.proto = 6 ∨ p.proto = 17) then 4
  else if ¬ pkRange p then 2
  else if 64 < p.body.length then 5
  else if pkForm p then 1
  else 0

/-- What is summed ahead of a segment. -/
def preB (proto frm dst n : Int) : List UInt8 := if proto = 1 then [] else be frm 4 ++ be dst 4 ++ be proto 2 ++ be n 2
/-- A head, ahead of its check and behind it. -/
def hdA (proto ttl id n : Int) : List UInt8 := [69, 0] ++ be (20 + n) 2 ++ be id 2 ++ [0, 0] ++ be ttl 1 ++ be proto 1
def hdZ (frm dst : Int) : List UInt8 := be frm 4 ++ be dst 4
def headB (proto frm dst ttl id n : Int) : List UInt8 := hdA proto ttl id n ++ be (checkN (hdA proto ttl id n ++ [0, 0] ++ hdZ frm dst)) 2 ++ hdZ frm dst
/-- A segment, ahead of its check and behind it. -/
def segA (p : Pk) : List UInt8 :=
  if p.proto = 1 then be p.flags 1 ++ [0]
  else if p.proto = 17 then be p.sport 2 ++ be p.dport 2 ++ be (8 + p.body.length) 2
  else be p.sport 2 ++ be p.dport 2 ++ be p.seq 4 ++ be p.ack 4 ++ [80] ++ be p.flags 1 ++ be p.win 2
def segZ (p : Pk) : List UInt8 :=
  if p.proto = 1 then be (p.sport + p.dport) 2 ++ be p.seq 2 ++ p.body
  else if p.proto = 17 then p.body
  else [0, 0] ++ p.body
def segN (p : Pk) : Nat := (segA p).length + 2 + (segZ p).length
def ckN (p : Pk) : Nat :=
  if p.proto = 17 ∧ checkN (preB p.proto p.frm p.dst (segN p) ++ segA p ++ [0, 0] ++ segZ p) = 0 then 65535
  else checkN (preB p.proto p.frm p.dst (segN p) ++ segA p ++ [0, 0] ++ segZ p)
def segB (p : Pk) : List UInt8 := segA p ++ be (ckN p) 2 ++ segZ p
/-- A packet's frame. -/
def buildB (p : Pk) : List UInt8 := headB p.proto p.frm p.dst p.ttl p.id (segN p) ++ segB p
def buildT (p : Pk) : AV := if pkErr p = 0 then .tup [.str (buildB p), .int .i64 0] else .tup [.str [], .int .i64 (pkErr p)]

/-- A byte of a text, a word of it, a long. -/
def b1 (l : List UInt8) (k : Nat) : Int := ((l.getD k 0).toNat : Int)
def w2 (l : List UInt8) (k : Nat) : Int := nbI ((l.drop k).take 2)
def w4 (l : List UInt8) (k : Nat) : Int := nbI ((l.drop k).take 4)
/-- What a frame's head says. -/
def rdH (f : List UInt8) : Pk := ⟨b1 f 9, w4 f 12, 0, w4 f 16, 0, b1 f 8, w2 f 4, 0, 0, 0, 0, []⟩
/-- The packet of a frame, as its bytes have it. -/
def rdK (f : List UInt8) : Pk :=
  let s := f.drop 20
  if b1 f 9 = 1 then { rdH f with flags := b1 s 0, seq := w2 s 6, sport := if b1 s 0 = 8 then w2 s 4 else 0, dport := if b1 s 0 = 8 then 0 else w2 s 4, body := s.drop 8 }
  else if b1 f 9 = 17 then { rdH f with sport := w2 s 0, dport := w2 s 2, body := s.drop 8 }
  else { rdH f with sport := w2 s 0, dport := w2 s 2, seq := w4 s 4, ack := w4 s 8, win := w2 s 14, flags := b1 s 13, body := s.drop 20 }
/-- What is wrong with a frame. -/
def rdE (f : List UInt8) : Int :=
  let s := f.drop 20
  if f.length < 20 ∨ b1 f 0 ≠ 69 ∨ w2 f 2 ≠ f.length then 1
  else if ofN (f.take 20) ≠ 65535 then 3
  else if b1 f 1 ≠ 0 ∨ w2 f 6 ≠ 0 then 4
  else if b1 f 8 = 0 then 12
  else if ¬ (b1 f 9 = 1 ∨ b1 f 9 = 6 ∨ b1 f 9 = 17) then 4
  else if s.length < (if b1 f 9 = 6 then 20 else 8) then 1
  else if ofN (preB (b1 f 9) (w4 f 12) (w4 f 16) s.length ++ s) ≠ 65535 ∨ (b1 f 9 = 17 ∧ w2 s 6 = 0) then 3
  else if b1 f 9 = 1 ∧ ((b1 s 0 ≠ 8 ∧ b1 s 0 ≠ 0) ∨ b1 s 1 ≠ 0) then 4
  else if b1 f 9 = 17 ∧ w2 s 4 ≠ s.length then 1
  else if b1 f 9 = 6 ∧ (b1 s 12 ≠ 80 ∨ 63 < b1 s 13 ∨ w2 s 18 ≠ 0) then 4
  else pkErr (rdK f)
def parseT (f : List UInt8) : AV := if rdE f = 0 then .tup [.agg (rdK f).enc, .int .i64 0] else .tup [.agg pk0.enc, .int .i64 (rdE f)]

/-- A word written upon a text. -/
def setW (l : List UInt8) (k : Nat) (n : Int) : List UInt8 := (l.set k (byteI n 1)).set (k + 1) (byteI n 0)
def updN (c m n : Int) : Int := 65535 - addN (addN (65535 - c % 65536) (65535 - m % 65536)) n
def tellW (l : List UInt8) (ck : Nat) (m n : Int) : List UInt8 := setW l ck (updN (w2 l ck) m n)
def setC (l : List UInt8) (k ck : Nat) (n : Int) : List UInt8 := setW (tellW l ck (w2 l k) n) k n
end Go.Proofs.Ytblimjilinkmbaa

/-! What holds of packets and their frames. No conditions but the ones that stand in each. -/
namespace Go.Proofs.Ytblimjilinkmbaa
set_option linter.all false
set_option linter.unusedSimpArgs false
open Go.RowKit

theorem pkErr_ok {p : Pk} (h : pkErr p = 0) : (p.proto = 1 ∨ p.proto = 6 ∨ p.proto = 17) ∧ pkRange p ∧ p.body.length ≤ 64 ∧ ¬ pkForm p := by
  unfold pkErr at h
  split at h
  · cases h
  · split at h
    · cases h
    · split at h
      · cases h
      · split at h
        · cases h
        · rename_i h1 h2 h3 h4
          exact ⟨Decidable.not_not.1 h1, Decidable.not_not.1 h2, by omega, h4⟩
theorem pkErr_of {p : Pk} (h1 : p.proto = 1 ∨ p.proto = 6 ∨ p.proto = 17) (h2 : pkRange p) (h3 : p.body.length ≤ 64) (h4 : ¬ pkForm p) : pkErr p = 0 := by
  unfold pkErr
  rw [if_neg (fun h => h h1), if_neg (fun h => h h2), if_neg (by omega), if_neg h4]

theorem byte_val (v : Int) (k : Nat) (hk : k ≤ 8) (h0 : 0 ≤ v) : ((byteI v k).toNat : Int) = v / 256 ^ k % 256 := by
  obtain ⟨n, rfl⟩ := Int.eq_ofNat_of_zero_le h0
  rw [byte_nat n k hk]
  simp
theorem byte0 (v : Int) (h0 : 0 ≤ v) (h1 : v < 256) : ((byteI v 0).toNat : Int) = v := by
  rw [byte_val v 0 (by omega) h0]; omega
theorem nb2 (v : Int) (h0 : 0 ≤ v) (h1 : v ≤ 65535) : nbI [byteI v 1, byteI v 0] = v := nbI_be v 2 (by decide) h0 (by omega) (by omega)
theorem nb4 (v : Int) (h0 : 0 ≤ v) (h1 : v ≤ 4294967295) : nbI [byteI v 3, byteI v 2, byteI v 1, byteI v 0] = v := nbI_be v 4 (by decide) h0 (by omega) (by omega)
theorem sumL2 (v : Int) (h0 : 0 ≤ v) (h1 : v ≤ 65535) (l : List UInt8) : sumL (byteI v 1 :: byteI v 0 :: l) = v.toNat + sumL l := by
  have e1 := byte_val v 1 (by omega) h0
  have e0 := byte_val v 0 (by omega) h0
  simp only [sumL]
  omega
theorem sumL_mid (X Z : List UInt8) (v : Int) (hX : X.length % 2 = 0) (h0 : 0 ≤ v) (h1 : v ≤ 65535) : sumL (X ++ be v 2 ++ Z) = sumL X + v.toNat + sumL Z := by
  rw [List.append_assoc, sumL_append _ _ hX]
  show sumL X + sumL (byteI v 1 :: byteI v 0 :: Z) = _
  rw [sumL2 v h0 h1]; omega
theorem sumL_00 (X Z : List UInt8) (hX : X.length % 2 = 0) : sumL (X ++ [0, 0] ++ Z) = sumL X + sumL Z := by
  rw [List.append_assoc, sumL_append _ _ hX]
  simp [sumL]
theorem back_chk (T : Nat) : backN (T + (65535 - backN T)) = 65535 := by
  unfold backN; split <;> split <;> omega
theorem chk_ok (X Z : List UInt8) (hX : X.length % 2 = 0) : ofN (X ++ be (checkN (X ++ [0, 0] ++ Z)) 2 ++ Z) = 65535 := by
  have hl := checkN_le (X ++ [0, 0] ++ Z)
  unfold ofN
  rw [sumL_mid X Z _ hX (by omega) (by omega)]
  unfold checkN ofN
  rw [sumL_00 X Z hX, Int.toNat_natCast]
  have := back_chk (sumL X + sumL Z)
  rw [show sumL X + (65535 - backN (sumL X + sumL Z)) + sumL Z = sumL X + sumL Z + (65535 - backN (sumL X + sumL Z)) by omega]
  exact this

theorem hdA_len (proto ttl id n : Int) : (hdA proto ttl id n).length = 10 := by simp [hdA, be_len]
theorem hdZ_len (frm dst : Int) : (hdZ frm dst).length = 8 := by simp [hdZ, be_len]
theorem headB_len (proto frm dst ttl id n : Int) : (headB proto frm dst ttl id n).length = 20 := by simp [headB, hdA_len, hdZ_len, be_len]
theorem headB_of (proto frm dst ttl id n : Int) : ofN (headB proto frm dst ttl id n) = 65535 := chk_ok _ _ (by rw [hdA_len])
theorem headB_cons (proto frm dst ttl id n : Int) : ∃ c : Int, headB proto frm dst ttl id n = [69, 0, byteI (20 + n) 1, byteI (20 + n) 0, byteI id 1, byteI id 0, 0, 0, byteI ttl 0, byteI proto 0, byteI c 1, byteI c 0,
    byteI frm 3, byteI frm 2, byteI frm 1, byteI frm 0, byteI dst 3, byteI dst 2, byteI dst 1, byteI dst 0] := ⟨_, rfl⟩
theorem ckN_le (p : Pk) : ckN p ≤ 65535 := by
  unfold ckN; split
  · omega
  · exact checkN_le _
theorem segA_even (p : Pk) : (segA p).length % 2 = 0 := by
  unfold segA; split
  · simp [be_len]
  · split <;> simp [be_len]
theorem preB_even (a b c d : Int) : (preB a b c d).length % 2 = 0 := by
  unfold preB; split <;> simp [be_len]
theorem segB_len (p : Pk) : (segB p).length = segN p := by simp [segB, segN, be_len]; omega
theorem segB_of (p : Pk) : ofN (preB p.proto p.frm p.dst (segN p) ++ segB p) = 65535 := by
  have hX : (preB p.proto p.frm p.dst (segN p) ++ segA p).length % 2 = 0 := by
    have := segA_even p; have := preB_even p.proto p.frm p.dst (segN p)
    rw [List.length_append]; omega
  have hk := chk_ok (preB p.proto p.frm p.dst (segN p) ++ segA p) (segZ p) hX
  unfold segB ckN
  rw [← List.append_assoc, ← List.append_assoc]
  split
  · rename_i h
    rw [h.2] at hk
    unfold ofN at hk ⊢
    rw [sumL_mid _ _ _ hX (by omega) (by omega)] at hk ⊢
    generalize sumL (preB p.proto p.frm p.dst (segN p) ++ segA p) = a at *
    generalize sumL (segZ p) = b at *
    unfold backN at hk ⊢
    split at hk
    · cases hk
    · split <;> omega
  · exact hk

theorem buildB_len (p : Pk) : (buildB p).length = 20 + segN p := by simp [buildB, headB_len, segB_len]
theorem buildB_take (p : Pk) : (buildB p).take 20 = headB p.proto p.frm p.dst p.ttl p.id (segN p) := List.take_left' (headB_len _ _ _ _ _ _)
theorem buildB_drop (p : Pk) : (buildB p).drop 20 = segB p := List.drop_left' (headB_len _ _ _ _ _ _)
theorem segN_val (p : Pk) (h : p.proto = 1 ∨ p.proto = 6 ∨ p.proto = 17) : segN p = (if p.proto = 6 then 20 else 8) + p.body.length := by
  unfold segN segA segZ
  rcases h with h | h | h <;> simp [h, be_len] <;> omega
/-- What stands in a frame's head. -/
theorem head_says (proto frm dst ttl id n : Int) (t : List UInt8) (h1 : 0 ≤ proto ∧ proto < 256) (h2 : 0 ≤ frm ∧ frm ≤ 4294967295) (h3 : 0 ≤ dst ∧ dst ≤ 4294967295) (h4 : 0 ≤ ttl ∧ ttl < 256) (h5 : 0 ≤ id ∧ id ≤ 65535) (h6 : 0 ≤ n ∧ n ≤ 65515) :
    let f := headB proto frm dst ttl id n ++ t
    b1 f 0 = 69 ∧ b1 f 1 = 0 ∧ w2 f 2 = 20 + n ∧ w2 f 4 = id ∧ w2 f 6 = 0 ∧ b1 f 8 = ttl ∧ b1 f 9 = proto ∧ w4 f 12 = frm ∧ w4 f 16 = dst := by
  intro f
  obtain ⟨c, hc⟩ := headB_cons proto frm dst ttl id n
  show b1 f 0 = 69 ∧ _
  have hf : f = [69, 0, byteI (20 + n) 1, byteI (20 + n) 0, byteI id 1, byteI id 0, 0, 0, byteI ttl 0, byteI proto 0, byteI c 1, byteI c 0,
    byteI frm 3, byteI frm 2, byteI frm 1, byteI frm 0, byteI dst 3, byteI dst 2, byteI dst 1, byteI dst 0] ++ t := by rw [← hc]
  clear_value f
  subst hf
  exact ⟨rfl, rfl, nb2 _ (by omega) (by omega), nb2 _ h5.1 h5.2, rfl, byte0 _ h4.1 h4.2, byte0 _ h1.1 h1.2, nb4 _ h2.1 h2.2, nb4 _ h3.1 h3.2⟩
theorem build_head (p : Pk) (hr : pkRange p) (hp : p.proto = 1 ∨ p.proto = 6 ∨ p.proto = 17) (hl : p.body.length ≤ 64) (t : List UInt8) :
    let f := headB p.proto p.frm p.dst p.ttl p.id (segN p) ++ t
    b1 f 0 = 69 ∧ b1 f 1 = 0 ∧ w2 f 2 = 20 + segN p ∧ w2 f 4 = p.id ∧ w2 f 6 = 0 ∧ b1 f 8 = p.ttl ∧ b1 f 9 = p.proto ∧ w4 f 12 = p.frm ∧ w4 f 16 = p.dst := by
  obtain ⟨r1, r2, r3, r4, r5, r6, r7, r8, r9, r10⟩ := hr
  have hN := segN_val p hp
  have hN2 : segN p ≤ 84 := by rw [hN]; split <;> omega
  exact head_says _ _ _ _ _ _ t (by omega) r1 r2 (by omega) r7 (by omega)

/-- What is built is read as it was. -/
theorem parse_build (p : Pk) (h : pkErr p = 0) : rdE (buildB p) = 0 ∧ rdK (buildB p) = p := by
  obtain ⟨hp, hr, hl, hf⟩ := pkErr_ok h
  obtain ⟨g0, g1, g2, g4, g6, g8, g9, g12, g16⟩ := build_head p hr hp hl (segB p)
  have hN := segN_val p hp
  have hB := buildB_len p
  have hT := buildB_take p
  have hD := buildB_drop p
  have hO := headB_of p.proto p.frm p.dst p.ttl p.id (segN p)
  have hS := segB_of p
  have hK := ckN_le p
  have hSL := segB_len p
  change b1 (buildB p) 0 = 69 at g0
  change b1 (buildB p) 1 = 0 at g1
  change w2 (buildB p) 2 = _ at g2
  change w2 (buildB p) 4 = _ at g4
  change w2 (buildB p) 6 = _ at g6
  change b1 (buildB p) 8 = _ at g8
  change b1 (buildB p) 9 = _ at g9
  change w4 (buildB p) 12 = _ at g12
  change w4 (buildB p) 16 = _ at g16
  generalize hF : buildB p = F at *
  have hr' := hr
  obtain ⟨r1, r2, r3, r4, r5, r6, r7, r8, r9, r10⟩ := hr
  have hKK : rdK F = p ∧ (p.proto = 1 → b1 (segB p) 1 = 0) ∧ (p.proto = 17 → w2 (segB p) 4 = segN p ∧ w2 (segB p) 6 ≠ 0) ∧ (p.proto = 6 → b1 (segB p) 12 = 80 ∧ b1 (segB p) 13 ≤ 63 ∧ w2 (segB p) 18 = 0) ∧ (p.proto = 1 → b1 (segB p) 0 = 8 ∨ b1 (segB p) 0 = 0) := by
    unfold rdK rdH
    rw [hD, g9, g12, g16, g8, g4]
    rcases p with ⟨proto, frm, sport, dst, dport, ttl, id, flags, seq, ack, win, body⟩
    dsimp only at *
    unfold pkForm at hf
    dsimp only at hf
    rcases hp with rfl | rfl | rfl
    · obtain ⟨c, hc⟩ : ∃ c : Int, segB ⟨1, frm, sport, dst, dport, ttl, id, flags, seq, ack, win, body⟩ = [byteI flags 0, 0, byteI c 1, byteI c 0, byteI (sport + dport) 1, byteI (sport + dport) 0, byteI seq 1, byteI seq 0] ++ body := ⟨_, rfl⟩
      rw [hc]
      have f1 : ack = 0 ∧ win = 0 ∧ (flags = 8 ∧ dport = 0 ∨ flags = 0 ∧ sport = 0) ∧ seq ≤ 65535 := by omega
      obtain ⟨rfl, rfl, f2, f3⟩ := f1
      have e0 : b1 ([byteI flags 0, 0, byteI c 1, byteI c 0, byteI (sport + dport) 1, byteI (sport + dport) 0, byteI seq 1, byteI seq 0] ++ body) 0 = flags := byte0 _ (by omega) (by omega)
      have e1 : w2 ([byteI flags 0, 0, byteI c 1, byteI c 0, byteI (sport + dport) 1, byteI (sport + dport) 0, byteI seq 1, byteI seq 0] ++ body) 4 = sport + dport := nb2 _ (by omega) (by omega)
      have e2 : w2 ([byteI flags 0, 0, byteI c 1, byteI c 0, byteI (sport + dport) 1, byteI (sport + dport) 0, byteI seq 1, byteI seq 0] ++ body) 6 = seq := nb2 _ (by omega) (by omega)
      rw [e0, e1, e2]
      refine ⟨?_, fun _ => rfl, fun h => by omega, fun h => by omega, fun _ => by omega⟩
      rw [if_pos rfl]
      rcases f2 with ⟨rfl, rfl⟩ | ⟨rfl, rfl⟩ <;> simp
    · obtain ⟨c, hc⟩ : ∃ c : Int, segB ⟨6, frm, sport, dst, dport, ttl, id, flags, seq, ack, win, body⟩ = [byteI sport 1, byteI sport 0, byteI dport 1, byteI dport 0, byteI seq 3, byteI seq 2, byteI seq 1, byteI seq 0, byteI ack 3, byteI ack 2, byteI ack 1, byteI ack 0, 80, byteI flags 0, byteI win 1, byteI win 0, byteI c 1, byteI c 0, 0, 0] ++ body := ⟨_, rfl⟩
      rw [hc]
      refine ⟨?_, fun h => by omega, fun h => by omega, fun _ => ⟨rfl, ?_, rfl⟩, fun h => by omega⟩
      · rw [if_neg (by decide), if_neg (by decide)]
        have e1 : ∀ t : List UInt8, w2 ([byteI sport 1, byteI sport 0, byteI dport 1, byteI dport 0, byteI seq 3, byteI seq 2, byteI seq 1, byteI seq 0, byteI ack 3, byteI ack 2, byteI ack 1, byteI ack 0, 80, byteI flags 0, byteI win 1, byteI win 0, byteI c 1, byteI c 0, 0, 0] ++ t) 0 = sport := fun t => nb2 _ (by omega) (by omega)
        have e2 : ∀ t : List UInt8, w2 ([byteI sport 1, byteI sport 0, byteI dport 1, byteI dport 0, byteI seq 3, byteI seq 2, byteI seq 1, byteI seq 0, byteI ack 3, byteI ack 2, byteI ack 1, byteI ack 0, 80, byteI flags 0, byteI win 1, byteI win 0, byteI c 1, byteI c 0, 0, 0] ++ t) 2 = dport := fun t => nb2 _ (by omega) (by omega)
        have e3 : ∀ t : List UInt8, w4 ([byteI sport 1, byteI sport 0, byteI dport 1, byteI dport 0, byteI seq 3, byteI seq 2, byteI seq 1, byteI seq 0, byteI ack 3, byteI ack 2, byteI ack 1, byteI ack 0, 80, byteI flags 0, byteI win 1, byteI win 0, byteI c 1, byteI c 0, 0, 0] ++ t) 4 = seq := fun t => nb4 _ (by omega) (by omega)
        have e4 : ∀ t : List UInt8, w4 ([byteI sport 1, byteI sport 0, byteI dport 1, byteI dport 0, byteI seq 3, byteI seq 2, byteI seq 1, byteI seq 0, byteI ack 3, byteI ack 2, byteI ack 1, byteI ack 0, 80, byteI flags 0, byteI win 1, byteI win 0, byteI c 1, byteI c 0, 0, 0] ++ t) 8 = ack := fun t => nb4 _ (by omega) (by omega)
        have e5 : ∀ t : List UInt8, w2 ([byteI sport 1, byteI sport 0, byteI dport 1, byteI dport 0, byteI seq 3, byteI seq 2, byteI seq 1, byteI seq 0, byteI ack 3, byteI ack 2, byteI ack 1, byteI ack 0, 80, byteI flags 0, byteI win 1, byteI win 0, byteI c 1, byteI c 0, 0, 0] ++ t) 14 = win := fun t => nb2 _ (by omega) (by omega)
        have e6 : ∀ t : List UInt8, b1 ([byteI sport 1, byteI sport 0, byteI dport 1, byteI dport 0, byteI seq 3, byteI seq 2, byteI seq 1, byteI seq 0, byteI ack 3, byteI ack 2, byteI ack 1, byteI ack 0, 80, byteI flags 0, byteI win 1, byteI win 0, byteI c 1, byteI c 0, 0, 0] ++ t) 13 = flags := fun t => byte0 _ (by omega) (by omega)
        rw [e1, e2, e3, e4, e5, e6]
        rfl
      · have : b1 ([byteI sport 1, byteI sport 0, byteI dport 1, byteI dport 0, byteI seq 3, byteI seq 2, byteI seq 1, byteI seq 0, byteI ack 3, byteI ack 2, byteI ack 1, byteI ack 0, 80, byteI flags 0, byteI win 1, byteI win 0, byteI c 1, byteI c 0, 0, 0] ++ body) 13 = flags := byte0 _ (by omega) (by omega)
        rw [this]; omega
    · have hc : segB ⟨17, frm, sport, dst, dport, ttl, id, flags, seq, ack, win, body⟩ = [byteI sport 1, byteI sport 0, byteI dport 1, byteI dport 0, byteI (8 + body.length) 1, byteI (8 + body.length) 0, byteI (ckN ⟨17, frm, sport, dst, dport, ttl, id, flags, seq, ack, win, body⟩) 1, byteI (ckN ⟨17, frm, sport, dst, dport, ttl, id, flags, seq, ack, win, body⟩) 0] ++ body := rfl
      have hc0 : ckN ⟨17, frm, sport, dst, dport, ttl, id, flags, seq, ack, win, body⟩ ≠ 0 := by
        unfold ckN; split
        · decide
        · rename_i hh
          intro h0; exact hh ⟨rfl, h0⟩
      rw [hc]
      generalize ckN ⟨17, frm, sport, dst, dport, ttl, id, flags, seq, ack, win, body⟩ = c at *
      have f1 : ack = 0 ∧ win = 0 ∧ seq = 0 ∧ flags = 0 := by omega
      obtain ⟨rfl, rfl, rfl, rfl⟩ := f1
      refine ⟨?_, fun h => by omega, fun _ => ⟨?_, ?_⟩, fun h => by omega, fun h => by omega⟩
      · rw [if_neg (by decide), if_pos rfl]
        have e1 : ∀ t : List UInt8, w2 ([byteI sport 1, byteI sport 0, byteI dport 1, byteI dport 0, byteI (8 + body.length) 1, byteI (8 + body.length) 0, byteI c 1, byteI c 0] ++ t) 0 = sport := fun t => nb2 _ (by omega) (by omega)
        have e2 : ∀ t : List UInt8, w2 ([byteI sport 1, byteI sport 0, byteI dport 1, byteI dport 0, byteI (8 + body.length) 1, byteI (8 + body.length) 0, byteI c 1, byteI c 0] ++ t) 2 = dport := fun t => nb2 _ (by omega) (by omega)
        rw [e1, e2]
        rfl
      · have e1 : ∀ t : List UInt8, w2 ([byteI sport 1, byteI sport 0, byteI dport 1, byteI dport 0, byteI (8 + body.length) 1, byteI (8 + body.length) 0, byteI c 1, byteI c 0] ++ t) 4 = 8 + body.length := fun t => nb2 _ (by omega) (by omega)
        rw [e1, hN]
        simp
      · have e1 : ∀ t : List UInt8, w2 ([byteI sport 1, byteI sport 0, byteI dport 1, byteI dport 0, byteI (8 + body.length) 1, byteI (8 + body.length) 0, byteI c 1, byteI c 0] ++ t) 6 = c := fun t => nb2 _ (by omega) (by omega)
        rw [e1]; omega
  obtain ⟨k1, k2, k3, k4, k5⟩ := hKK
  refine ⟨?_, k1⟩
  unfold rdE
  rw [k1, h, hD, hT, g0, g1, g2, g6, g8, g9, g12, g16, hO]
  dsimp only
  rw [hSL, hS]
  have hlen : F.length = 20 + segN p := hB
  rw [if_neg (by omega), if_neg (by omega), if_neg (by omega), if_neg (by omega), if_neg (by omega)]
  rw [if_neg (by rcases hp with h1 | h1 | h1 <;> simp [h1] at hN ⊢ <;> omega)]
  rw [if_neg (fun hh => hh.elim (fun h1 => h1 rfl) fun h1 => (k3 h1.1).2 h1.2)]
  rw [if_neg (by rintro ⟨h1, h2⟩; have := k2 h1; have := k5 h1; omega)]
  rw [if_neg (by rintro ⟨h1, h2⟩; exact h2 (by rw [(k3 h1).1])), if_neg (by rintro ⟨h1, h2⟩; have := k4 h1; omega)]
end Go.Proofs.Ytblimjilinkmbaa

/-! What holds of frames that are changed. No conditions but the ones that stand in each. -/
namespace Go.Proofs.Ytblimjilinkmbaa
set_option linter.all false
set_option linter.unusedSimpArgs false
open Go.RowKit

theorem rdE_len {f : List UInt8} (h : w2 f 2 ≠ f.length) : rdE f = 1 := by
  unfold rdE; rw [if_pos (Or.inr (Or.inr h))]
theorem segN_bd (p : Pk) (hp : p.proto = 1 ∨ p.proto = 6 ∨ p.proto = 17) (hl : p.body.length ≤ 64) : 8 ≤ segN p ∧ segN p ≤ 84 := by
  rw [segN_val p hp]; split <;> omega
/-- Not with a byte more, nor with one less. -/
theorem rdE_more (p : Pk) (h : pkErr p = 0) (c : UInt8) : rdE (buildB p ++ [c]) = 1 := by
  obtain ⟨hp, hr, hl, hf⟩ := pkErr_ok h
  obtain ⟨_, _, g2, _⟩ := build_head p hr hp hl (segB p ++ [c])
  refine rdE_len ?_
  have e : buildB p ++ [c] = headB p.proto p.frm p.dst p.ttl p.id (segN p) ++ (segB p ++ [c]) := by unfold buildB; rw [List.append_assoc]
  have hl : (buildB p ++ [c]).length = 21 + segN p := by rw [List.length_append, buildB_len]; simp; omega
  rw [hl, e]
  rw [g2]; omega
theorem rdE_less (p : Pk) (h : pkErr p = 0) : rdE ((buildB p).take ((buildB p).length - 1)) = 1 := by
  obtain ⟨hp, hr, hl, hf⟩ := pkErr_ok h
  have hb := segN_bd p hp hl
  obtain ⟨_, _, g2, _⟩ := build_head p hr hp hl ((segB p).take (segN p - 1))
  refine rdE_len ?_
  have e : (buildB p).take ((buildB p).length - 1) = headB p.proto p.frm p.dst p.ttl p.id (segN p) ++ (segB p).take (segN p - 1) := by
    rw [buildB_len]; unfold buildB
    rw [List.take_append, headB_len, List.take_of_length_le (by rw [headB_len]; omega)]
    congr 2; omega
  have hl : ((buildB p).take ((buildB p).length - 1)).length = 19 + segN p := by rw [List.length_take, buildB_len]; omega
  rw [hl, e]
  rw [g2]; omega

theorem sumL_set (l : List UInt8) (x : UInt8) : ∀ (k : Nat), k < l.length → ∃ d : Int, (d = (x.toNat : Int) - ((l.getD k 0).toNat : Int) ∨ d = 256 * ((x.toNat : Int) - ((l.getD k 0).toNat : Int))) ∧ (sumL (l.set k x) : Int) = sumL l + d := by
  induction l using sumL.induct with
  | case1 => intro k h; simp at h
  | case2 a =>
    intro k h
    have : k = 0 := by simp at h; exact h
    subst this
    exact ⟨_, Or.inr rfl, by simp [sumL]; omega⟩
  | case3 a b l ih =>
    intro k h
    match k with
    | 0 => exact ⟨_, Or.inr rfl, by simp [sumL]; omega⟩
    | 1 => exact ⟨_, Or.inl rfl, by simp [sumL]; omega⟩
    | k + 2 =>
      obtain ⟨d, hd, hs⟩ := ih k (by simp at h; omega)
      refine ⟨d, by simpa using hd, ?_⟩
      simp only [List.set_cons_succ, sumL]
      omega
theorem ofN_set (l : List UInt8) (x : UInt8) (k : Nat) (hk : k < l.length) (h : ofN l = 65535) (hx : x ≠ l.getD k 0) : ofN (l.set k x) ≠ 65535 := by
  obtain ⟨d, hd, hs⟩ := sumL_set l x k hk
  have hn : (x.toNat : Int) ≠ ((l.getD k 0).toNat : Int) := fun e => hx (UInt8.toNat_inj.1 (by omega))
  have b0 := UInt8.toNat_lt x
  have b1 := UInt8.toNat_lt (l.getD k 0)
  generalize (l.getD k 0).toNat = y at *
  generalize x.toNat = z at *
  unfold ofN backN at h ⊢
  split at h
  · cases h
  · split
    · decide
    · rcases hd with rfl | rfl <;> omega
theorem rdE_ok {f : List UInt8} (h : rdE f = 0) : ofN (f.take 20) = 65535 ∧ ofN (preB (b1 f 9) (w4 f 12) (w4 f 16) (f.drop 20).length ++ f.drop 20) = 65535 := by
  unfold rdE at h
  dsimp only at h
  generalize (if b1 f 9 = 6 then 20 else 8) = kk at h
  split at h
  · cases h
  split at h
  · cases h
  split at h
  · cases h
  split at h
  · cases h
  split at h
  · cases h
  split at h
  · cases h
  split at h
  · cases h
  rename_i h1 h2 h3 h4 h5 h6 h7
  exact ⟨Decidable.not_not.1 h2, Decidable.not_not.1 fun hh => h7 (Or.inl hh)⟩
/-- One byte changed, whichever. -/
theorem rdE_set (p : Pk) (h : pkErr p = 0) (k : Nat) (x : UInt8) (hk : k < (buildB p).length) (hx : x ≠ (buildB p).getD k 0) : rdE ((buildB p).set k x) ≠ 0 := by
  intro h0
  obtain ⟨hp, hr, hl, hf⟩ := pkErr_ok h
  obtain ⟨o1, o2⟩ := rdE_ok h0
  rw [buildB_len] at hk
  by_cases h20 : k < 20
  · rw [List.take_set, buildB_take] at o1
    refine ofN_set _ x k (by rw [headB_len]; exact h20) (headB_of _ _ _ _ _ _) ?_ o1
    intro hh
    apply hx
    rw [hh]; unfold buildB
    simp only [List.getD_eq_getElem?_getD]
    rw [List.getElem?_append_left (by rw [headB_len]; exact h20)]
  · have e : (buildB p).set k x = headB p.proto p.frm p.dst p.ttl p.id (segN p) ++ (segB p).set (k - 20) x := by
      unfold buildB
      rw [List.set_append_right _ _ (by rw [headB_len]; omega), headB_len]
    obtain ⟨_, _, _, _, _, _, g9, g12, g16⟩ := build_head p hr hp hl ((segB p).set (k - 20) x)
    rw [e] at o2
    rw [g9, g12, g16, List.drop_left' (headB_len _ _ _ _ _ _), List.length_set, segB_len] at o2
    have hlen : (preB p.proto p.frm p.dst (segN p)).length ≤ (preB p.proto p.frm p.dst (segN p)).length + (k - 20) := by omega
    have e2 : preB p.proto p.frm p.dst (segN p) ++ (segB p).set (k - 20) x = (preB p.proto p.frm p.dst (segN p) ++ segB p).set ((preB p.proto p.frm p.dst (segN p)).length + (k - 20)) x := by
      rw [List.set_append_right _ _ hlen]; congr 2; omega
    rw [e2] at o2
    refine ofN_set _ x _ (by rw [List.length_append, segB_len]; omega) (segB_of p) ?_ o2
    intro hh
    apply hx
    rw [hh]; unfold buildB
    simp only [List.getD_eq_getElem?_getD]
    rw [List.getElem?_append_right hlen, List.getElem?_append_right (by rw [headB_len]; omega), headB_len]
    congr 2; omega

/-- What tells that a frame is refused. -/
def refS (f : List UInt8) : List UInt8 := [3, 13] ++ be (checkN ([3, 13] ++ [0, 0] ++ ([0, 0, 0, 0] ++ f.take 28))) 2 ++ ([0, 0, 0, 0] ++ f.take 28)
def refB (f : List UInt8) (frm id : Int) : List UInt8 := headB 1 167772414 frm 64 id 36 ++ refS f
theorem refS_len (f : List UInt8) (h : 28 ≤ f.length) : (refS f).length = 36 := by simp [refS, be_len]; omega
theorem refS_of (f : List UInt8) : ofN (refS f) = 65535 := chk_ok [3, 13] _ (by decide)
theorem refB_len (f : List UInt8) (frm id : Int) (h : 28 ≤ f.length) : (refB f frm id).length = 56 := by simp [refB, headB_len, refS_len f h]
theorem refB_law (f : List UInt8) (frm id : Int) (h : 28 ≤ f.length) (h1 : 0 ≤ frm ∧ frm ≤ 4294967295) (h2 : 0 ≤ id ∧ id ≤ 65535) :
    (refB f frm id).drop 28 = f.take 28 ∧ ofN ((refB f frm id).take 20) = 65535 ∧ ofN ((refB f frm id).drop 20) = 65535 ∧ b1 (refB f frm id) 20 = 3 ∧ b1 (refB f frm id) 21 = 13 ∧ rdE (refB f frm id) = 4 := by
  have t20 : (refB f frm id).take 20 = headB 1 167772414 frm 64 id 36 := List.take_left' (headB_len _ _ _ _ _ _)
  have d20 : (refB f frm id).drop 20 = refS f := List.drop_left' (headB_len _ _ _ _ _ _)
  have d28 : (refB f frm id).drop 28 = f.take 28 := by
    have : (refB f frm id).drop 28 = ((refB f frm id).drop 20).drop 8 := by rw [List.drop_drop]
    rw [this, d20]; rfl
  have hL := refB_len f frm id h
  obtain ⟨g0, g1, g2, g4, g6, g8, g9, g12, g16⟩ := head_says 1 167772414 frm 64 id 36 (refS f) (by omega) (by omega) h1 (by omega) h2 (by omega)
  change b1 (refB f frm id) 0 = _ at g0
  change b1 (refB f frm id) 1 = _ at g1
  change w2 (refB f frm id) 2 = _ at g2
  change w2 (refB f frm id) 6 = _ at g6
  change b1 (refB f frm id) 8 = _ at g8
  change b1 (refB f frm id) 9 = _ at g9
  obtain ⟨c, hc⟩ := headB_cons 1 167772414 frm 64 id 36
  have q0 : b1 (refB f frm id) 20 = 3 := by unfold refB; rw [hc]; rfl
  have q1 : b1 (refB f frm id) 21 = 13 := by unfold refB; rw [hc]; rfl
  refine ⟨d28, by rw [t20]; exact headB_of _ _ _ _ _ _, by rw [d20]; exact refS_of f, q0, q1, ?_⟩
  have s0 : b1 (refS f) 0 = 3 := rfl
  unfold rdE
  dsimp only
  rw [d20, t20, g0, g1, g2, g6, g8, g9, hL, headB_of, refS_len f h, s0]
  have e : preB 1 (w4 (refB f frm id) 12) (w4 (refB f frm id) 16) ((36 : Nat) : Int) ++ refS f = refS f := rfl
  rw [e, refS_of]
  rw [if_neg (by omega), if_neg (by omega), if_neg (by omega), if_neg (by omega), if_neg (by omega), if_neg (by decide), if_neg (by omega), if_pos (by omega)]
end Go.Proofs.Ytblimjilinkmbaa

/-! What a frame is that is turned. No conditions but the ones that stand in each. -/
namespace Go.Proofs.Ytblimjilinkmbaa
set_option linter.all false
set_option linter.unusedSimpArgs false
open Go.RowKit

/-- A frame of words and a rest. -/
def fr : List Int → List UInt8 → List UInt8
  | [], t => t
  | w :: ws, t => byteI w 1 :: byteI w 0 :: fr ws t
theorem word_mod (v : Int) : nbI [byteI v 1, byteI v 0] = v % 65536 := by
  have e1 : (byteI v 1).toNat = ((v / 256) % 256).toNat := by
    rw [byteI_eq' _ _ (by omega)]
    simp only [UInt8.toNat_ofNat', Nat.reducePow, Int.pow_one]
    omega
  have e0 : (byteI v 0).toNat = (v % 256).toNat := by
    rw [byteI_eq' _ _ (by omega)]
    simp only [UInt8.toNat_ofNat', Nat.reducePow, Int.pow_zero, Int.ediv_one]
    omega
  rw [nbI_nat _ (by simp)]
  simp only [nbN]
  omega
theorem fr_w2 (t : List UInt8) : ∀ (ws : List Int) (k : Nat), k < ws.length → w2 (fr ws t) (2 * k) = ws.getD k 0 % 65536
  | [], _, h => by simp at h
  | w :: ws, 0, _ => word_mod w
  | w :: ws, k + 1, h => by
    have e : w2 (fr (w :: ws) t) (2 * (k + 1)) = w2 (fr ws t) (2 * k) := rfl
    rw [e, fr_w2 t ws k (by simpa using h)]
    simp
theorem fr_setW (t : List UInt8) (n : Int) : ∀ (ws : List Int) (k : Nat), k < ws.length → setW (fr ws t) (2 * k) n = fr (ws.set k n) t
  | [], _, h => by simp at h
  | w :: ws, 0, _ => rfl
  | w :: ws, k + 1, h => by
    have := fr_setW t n ws k (by simpa using h)
    have e : setW (fr (w :: ws) t) (2 * (k + 1)) n = byteI w 1 :: byteI w 0 :: setW (fr ws t) (2 * k) n := rfl
    rw [e, this]; rfl
theorem updN_mod (c m n : Int) : updN (c % 65536) (m % 65536) n = updN c m n := by
  unfold updN
  rw [Int.emod_emod_of_dvd _ (Int.dvd_refl _), Int.emod_emod_of_dvd _ (Int.dvd_refl _)]
theorem updN_mod1 (c m n : Int) : updN (c % 65536) m n = updN c m n := by
  unfold updN
  rw [Int.emod_emod_of_dvd _ (Int.dvd_refl _)]
theorem updN_mod2 (c m n : Int) : updN c (m % 65536) n = updN c m n := by
  unfold updN
  rw [Int.emod_emod_of_dvd _ (Int.dvd_refl _)]
theorem fr_tell (ws : List Int) (t : List UInt8) (k : Nat) (m n : Int) (h : k < ws.length) : tellW (fr ws t) (2 * k) m n = fr (ws.set k (updN (ws.getD k 0) m n)) t := by
  unfold tellW
  rw [fr_w2 t ws k h, updN_mod1, fr_setW _ _ _ _ h]
theorem fr_setC (ws : List Int) (t : List UInt8) (k c : Nat) (n : Int) (hk : k < ws.length) (hc : c < ws.length) : setC (fr ws t) (2 * k) (2 * c) n = fr ((ws.set c (updN (ws.getD c 0) (ws.getD k 0) n)).set k n) t := by
  unfold setC
  rw [fr_w2 t ws k hk, fr_tell _ _ _ _ _ hc, updN_mod2, fr_setW _ _ _ _ (by simpa using hk)]
theorem fr_drop (t : List UInt8) : ∀ (ws : List Int) (k : Nat), k ≤ ws.length → (fr ws t).drop (2 * k) = fr (ws.drop k) t
  | _, 0, _ => rfl
  | [], k + 1, h => by simp at h
  | w :: ws, k + 1, h => by
    have := fr_drop t ws k (by simpa using h)
    show (fr ws t).drop (2 * k) = _
    rw [this]; rfl
def sumW : List Int → Int
  | [] => 0
  | w :: ws => w % 65536 + sumW ws
theorem sumW_nn : ∀ ws, 0 ≤ sumW ws
  | [] => Int.le_refl _
  | w :: ws => by have := sumW_nn ws; simp only [sumW]; omega
theorem fr_sum (t : List UInt8) : ∀ ws : List Int, (sumL (fr ws t) : Int) = sumW ws + sumL t
  | [] => by simp [fr, sumW]
  | w :: ws => by
    have ih := fr_sum t ws
    have hw := word_mod w
    rw [nbI_nat _ (by simp)] at hw
    simp only [nbN] at hw
    simp only [fr, sumL, sumW]
    omega

/-- The check of a sum. -/
def ckS (T : Int) : Int := 65535 - (backN T.toNat : Nat)
theorem ckS_bd (T : Int) : 0 ≤ ckS T ∧ ckS T ≤ 65535 := by
  unfold ckS; have := backN_le T.toNat; omega
theorem ckS_lt (T : Int) (h : 0 < T) : ckS T ≤ 65534 ∧ (ckS T + T) % 65535 = 0 := by
  unfold ckS backN; rw [if_neg (by omega)]; omega
theorem ckS_0 : ckS 0 = 65535 := rfl
theorem updN_bd (c m n : Int) : 0 ≤ updN c m n ∧ updN c m n ≤ 65535 := by
  unfold updN; have := addN_le (addN (65535 - c % 65536) (65535 - m % 65536)) n; omega
/-- A check that knows of a change: what it is, by its rest. -/
theorem updN_eq (c m n : Int) (hc : 0 ≤ c ∧ c ≤ 65535) (hm : 0 ≤ m ∧ m ≤ 65535) (hn : 0 ≤ n ∧ n ≤ 65535) : updN c m n = ckS (131070 - c - m + n) := by
  unfold updN ckS addN
  have h1 : (((65535 - c % 65536) % 65536).toNat + ((65535 - m % 65536) % 65536).toNat) = (131070 - c - m).toNat := by omega
  have h2 : ((backN (131070 - c - m).toNat : Nat) : Int) % 65536 = (backN (131070 - c - m).toNat : Nat) := by
    have := backN_le (131070 - c - m).toNat; omega
  have h3 : (n % 65536).toNat = n.toNat := by omega
  rw [h1, h2, h3, Int.toNat_natCast, backN_add, ← Int.toNat_add (by omega) (by omega)]
theorem ckS_congr (S T : Int) (hS : 0 < S) (hT : 0 < T) (h : (S - T) % 65535 = 0) : ckS S = ckS T := by
  have := ckS_lt S hS; have := ckS_lt T hT; have := ckS_bd S; have := ckS_bd T; omega
theorem upd_ck (T m n : Int) (h0 : 0 < T) (hm : 0 ≤ m ∧ m ≤ 65535) (hn : 0 ≤ n ∧ n ≤ 65535) (hp : 0 < T - m + n) : updN (ckS T) m n = ckS (T - m + n) := by
  have h1 := ckS_lt T h0; have h2 := ckS_bd T
  rw [updN_eq _ _ _ h2 hm hn]
  exact ckS_congr _ _ (by omega) hp (by omega)
/-- A check that stands for a sum, of two noughts either. -/
def ckI (c T : Int) : Prop := 0 ≤ c ∧ c ≤ 65535 ∧ (c + T) % 65535 = 0
theorem upd_ckI (c T m n : Int) (h : ckI c T) (hm : 0 ≤ m ∧ m ≤ 65535) (hn : 0 ≤ n ∧ n ≤ 65535) : ckI (updN c m n) (T - m + n) := by
  obtain ⟨h1, h2, h3⟩ := h
  have hb := updN_bd c m n
  refine ⟨hb.1, hb.2, ?_⟩
  rw [updN_eq _ _ _ ⟨h1, h2⟩ hm hn]
  by_cases h0 : 131070 - c - m + n = 0
  · rw [h0, ckS_0]; omega
  · have := ckS_lt (131070 - c - m + n) (by omega); omega

/-- What Turn writes upon a frame. -/
def ckAt (proto : Int) : Nat := if proto = 1 then 22 else if proto = 17 then 26 else 36
def tl (b : List UInt8) (proto : Int) (m n : Int) : List UInt8 := if proto = 1 then b else tellW b (ckAt proto) m n
def turnB (f : List UInt8) (proto ttl : Int) (at' wh : Nat) (addr port : Int) : List UInt8 :=
  let b1 := tl (setC f at' 10 (addr / 65536)) proto (w2 f at') (addr / 65536)
  let b2 := tl (setC b1 (at' + 2) 10 (addr % 65536)) proto (w2 b1 (at' + 2)) (addr % 65536)
  let b3 := setC b2 8 10 ((ttl - 1) * 256 + proto)
  let b4 := setC b3 wh (ckAt proto) port
  if (w2 b4 (ckAt proto) = 0) ∧ (proto = 17 ∨ ofN (b4.drop 20) = 0) then setW b4 (ckAt proto) 65535 else b4
def atOf (side : Int) : Nat := if side = 0 then 12 else 16
def whOf (proto side : Int) : Nat := if proto = 1 then 24 else if side = 0 then 20 else 22
def turned (p : Pk) (side addr port : Int) : Pk := if side = 0 then { p with ttl := p.ttl - 1, frm := addr, sport := port } else { p with ttl := p.ttl - 1, dst := addr, dport := port }
def turnE (p : Pk) (side addr port : Int) : Int :=
  if side < 0 ∨ side > 1 ∨ ¬ (0 ≤ addr ∧ addr ≤ 4294967295) ∨ ¬ (0 ≤ port ∧ port ≤ 65535) then 2
  else if p.ttl = 1 then 12
  else if p.proto = 1 ∧ ¬ (side = 0 ↔ p.flags = 8) then 4
  else 0

/-- The words of a frame. -/
def hdW (p : Pk) (n c : Int) : List Int := [17664, 20 + n, p.id, 0, p.ttl * 256 + p.proto, c, p.frm / 65536, p.frm % 65536, p.dst / 65536, p.dst % 65536]
def sgW (p : Pk) (c : Int) : List Int :=
  if p.proto = 1 then [p.flags * 256, c, p.sport + p.dport, p.seq]
  else if p.proto = 17 then [p.sport, p.dport, 8 + p.body.length, c]
  else [p.sport, p.dport, p.seq / 65536, p.seq % 65536, p.ack / 65536, p.ack % 65536, 80 * 256 + p.flags, p.win, c, 0]
theorem be_2 (v : Int) (t : List UInt8) : be v 2 ++ t = fr [v] t := rfl
theorem byteI_of (v w : Int) (k j : Nat) (hk : k ≤ 8) (hj : j ≤ 8) (h : v / 256 ^ k % 256 = w / 256 ^ j % 256) : byteI v k = byteI w j := by
  rw [byteI_eq' _ _ hk, byteI_eq' _ _ hj, h]
theorem be_4 (v : Int) (t : List UInt8) : be v 4 ++ t = fr [v / 65536, v % 65536] t := by
  show byteI v 3 :: byteI v 2 :: byteI v 1 :: byteI v 0 :: t = byteI (v / 65536) 1 :: byteI (v / 65536) 0 :: byteI (v % 65536) 1 :: byteI (v % 65536) 0 :: t
  rw [byteI_of v (v / 65536) 3 1 (by omega) (by omega) (by omega), byteI_of v (v / 65536) 2 0 (by omega) (by omega) (by omega), byteI_of v (v % 65536) 1 1 (by omega) (by omega) (by omega), byteI_of v (v % 65536) 0 0 (by omega) (by omega) (by omega)]
theorem be_11 (v w : Int) (hw : 0 ≤ w ∧ w < 256) (t : List UInt8) : be v 1 ++ (be w 1 ++ t) = fr [v * 256 + w] t := by
  show byteI v 0 :: byteI w 0 :: t = byteI (v * 256 + w) 1 :: byteI (v * 256 + w) 0 :: t
  rw [byteI_of v (v * 256 + w) 0 1 (by omega) (by omega) (by omega), byteI_of w (v * 256 + w) 0 0 (by omega) (by omega) (by omega)]
theorem fr_app (a b : List Int) (t : List UInt8) : fr a (fr b t) = fr (a ++ b) t := by
  induction a with
  | nil => rfl
  | cons w a ih => simp only [List.cons_append, fr, ih]
theorem hd_fr (p : Pk) (n c : Int) (hp : 0 ≤ p.proto ∧ p.proto < 256) (t : List UInt8) : hdA p.proto p.ttl p.id n ++ be c 2 ++ hdZ p.frm p.dst ++ t = fr (hdW p n c) t := by
  unfold hdA hdZ
  have e0 : ∀ t, [(69 : UInt8), 0] ++ t = fr [17664] t := fun t => by
    show (69 : UInt8) :: 0 :: t = byteI 17664 1 :: byteI 17664 0 :: t
    rw [show byteI 17664 1 = 69 by decide, show byteI 17664 0 = 0 by decide]
  have e1 : ∀ t, [(0 : UInt8), 0] ++ t = fr [0] t := fun t => by
    show (0 : UInt8) :: 0 :: t = byteI 0 1 :: byteI 0 0 :: t
    rw [show byteI 0 1 = 0 by decide, show byteI 0 0 = 0 by decide]
  simp only [List.append_assoc]
  rw [be_4 p.dst, be_4 p.frm, be_2 c, be_11 _ _ hp, e1, be_2 p.id, be_2 (20 + n), e0]
  simp only [fr_app]
  rfl
theorem sg_fr (p : Pk) (hp : p.proto = 1 ∨ p.proto = 6 ∨ p.proto = 17) (hf : 0 ≤ p.flags ∧ p.flags < 256) (c : Int) : segA p ++ be c 2 ++ segZ p = fr (sgW p c) p.body := by
  unfold segA segZ sgW
  rcases hp with h | h | h
  · simp only [h, if_true]
    have e : ∀ t, be p.flags 1 ++ ([0] ++ t) = fr [p.flags * 256] t := fun t => by
      have := be_11 p.flags 0 (by omega) t
      rw [Int.add_zero] at this
      rw [← this]; rfl
    simp only [List.append_assoc]
    rw [be_2 p.seq, be_2 (p.sport + p.dport), be_2 c, e]
    simp only [fr_app]; rfl
  · have h1 : ¬ p.proto = 1 := by omega
    have h2 : ¬ p.proto = 17 := by omega
    simp only [h1, h2, if_false]
    have e : ∀ t, [80] ++ (be p.flags 1 ++ t) = fr [80 * 256 + p.flags] t := fun t => by
      rw [← be_11 80 p.flags hf t]; rfl
    have e1 : ∀ t, [(0 : UInt8), 0] ++ t = fr [0] t := fun t => by
      show (0 : UInt8) :: 0 :: t = byteI 0 1 :: byteI 0 0 :: t
      rw [show byteI 0 1 = 0 by decide, show byteI 0 0 = 0 by decide]
    simp only [List.append_assoc]
    rw [e1, be_2 c, be_2 p.win, e, be_4 p.ack, be_4 p.seq, be_2 p.dport, be_2 p.sport]
    simp only [fr_app]; rfl
  · have h1 : ¬ (17 : Int) = 1 := by omega
    simp only [h1, h, if_false, if_true]
    simp only [List.append_assoc]
    rw [be_2 c, be_2 (8 + (p.body.length : Int)), be_2 p.dport, be_2 p.sport]
    simp only [fr_app]; rfl
end Go.Proofs.Ytblimjilinkmbaa

/-! What turning writes upon a frame of words. No conditions. -/
namespace Go.Proofs.Ytblimjilinkmbaa
set_option linter.all false
set_option linter.unusedSimpArgs false
open Go.RowKit

theorem turnB_ping0 (h0 h1 h2 h3 h4 h5 h6 h7 h8 h9 s0 s1 s2 s3 ttl addr port : Int) (t : List UInt8) : turnB (fr [h0, h1, h2, h3, h4, h5, h6, h7, h8, h9, s0, s1, s2, s3] t) 1 ttl 12 24 addr port = fr [h0, h1, h2, h3, ((ttl - 1) * 256 + 1), (updN (updN (updN h5 h6 (addr / 65536)) h7 (addr % 65536)) h4 ((ttl - 1) * 256 + 1)), (addr / 65536), (addr % 65536), h8, h9, s0, (if (updN s1 s2 port) % 65536 = 0 ∧ ofN (fr [s0, (updN s1 s2 port), port, s3] t) = 0 then 65535 else (updN s1 s2 port)), port, s3] t := by
  have e0 : setC (fr [h0, h1, h2, h3, h4, h5, h6, h7, h8, h9, s0, s1, s2, s3] t) 12 10 (addr / 65536) = fr [h0, h1, h2, h3, h4, (updN h5 h6 (addr / 65536)), (addr / 65536), h7, h8, h9, s0, s1, s2, s3] t := fr_setC [h0, h1, h2, h3, h4, h5, h6, h7, h8, h9, s0, s1, s2, s3] t 6 5 (addr / 65536) (by simp) (by simp)
  have e1 : setC (fr [h0, h1, h2, h3, h4, (updN h5 h6 (addr / 65536)), (addr / 65536), h7, h8, h9, s0, s1, s2, s3] t) 14 10 (addr % 65536) = fr [h0, h1, h2, h3, h4, (updN (updN h5 h6 (addr / 65536)) h7 (addr % 65536)), (addr / 65536), (addr % 65536), h8, h9, s0, s1, s2, s3] t := fr_setC [h0, h1, h2, h3, h4, (updN h5 h6 (addr / 65536)), (addr / 65536), h7, h8, h9, s0, s1, s2, s3] t 7 5 (addr % 65536) (by simp) (by simp)
  have e2 : setC (fr [h0, h1, h2, h3, h4, (updN (updN h5 h6 (addr / 65536)) h7 (addr % 65536)), (addr / 65536), (addr % 65536), h8, h9, s0, s1, s2, s3] t) 8 10 ((ttl - 1) * 256 + 1) = fr [h0, h1, h2, h3, ((ttl - 1) * 256 + 1), (updN (updN (updN h5 h6 (addr / 65536)) h7 (addr % 65536)) h4 ((ttl - 1) * 256 + 1)), (addr / 65536), (addr % 65536), h8, h9, s0, s1, s2, s3] t := fr_setC [h0, h1, h2, h3, h4, (updN (updN h5 h6 (addr / 65536)) h7 (addr % 65536)), (addr / 65536), (addr % 65536), h8, h9, s0, s1, s2, s3] t 4 5 ((ttl - 1) * 256 + 1) (by simp) (by simp)
  have e3 : setC (fr [h0, h1, h2, h3, ((ttl - 1) * 256 + 1), (updN (updN (updN h5 h6 (addr / 65536)) h7 (addr % 65536)) h4 ((ttl - 1) * 256 + 1)), (addr / 65536), (addr % 65536), h8, h9, s0, s1, s2, s3] t) 24 22 port = fr [h0, h1, h2, h3, ((ttl - 1) * 256 + 1), (updN (updN (updN h5 h6 (addr / 65536)) h7 (addr % 65536)) h4 ((ttl - 1) * 256 + 1)), (addr / 65536), (addr % 65536), h8, h9, s0, (updN s1 s2 port), port, s3] t := fr_setC [h0, h1, h2, h3, ((ttl - 1) * 256 + 1), (updN (updN (updN h5 h6 (addr / 65536)) h7 (addr % 65536)) h4 ((ttl - 1) * 256 + 1)), (addr / 65536), (addr % 65536), h8, h9, s0, s1, s2, s3] t 12 11 port (by simp) (by simp)
  have e4 : w2 (fr [h0, h1, h2, h3, ((ttl - 1) * 256 + 1), (updN (updN (updN h5 h6 (addr / 65536)) h7 (addr % 65536)) h4 ((ttl - 1) * 256 + 1)), (addr / 65536), (addr % 65536), h8, h9, s0, (updN s1 s2 port), port, s3] t) 22 = (updN s1 s2 port) % 65536 := fr_w2 t [h0, h1, h2, h3, ((ttl - 1) * 256 + 1), (updN (updN (updN h5 h6 (addr / 65536)) h7 (addr % 65536)) h4 ((ttl - 1) * 256 + 1)), (addr / 65536), (addr % 65536), h8, h9, s0, (updN s1 s2 port), port, s3] 11 (by simp)
  have e5 : setW (fr [h0, h1, h2, h3, ((ttl - 1) * 256 + 1), (updN (updN (updN h5 h6 (addr / 65536)) h7 (addr % 65536)) h4 ((ttl - 1) * 256 + 1)), (addr / 65536), (addr % 65536), h8, h9, s0, (updN s1 s2 port), port, s3] t) 22 65535 = fr [h0, h1, h2, h3, ((ttl - 1) * 256 + 1), (updN (updN (updN h5 h6 (addr / 65536)) h7 (addr % 65536)) h4 ((ttl - 1) * 256 + 1)), (addr / 65536), (addr % 65536), h8, h9, s0, 65535, port, s3] t := fr_setW t 65535 [h0, h1, h2, h3, ((ttl - 1) * 256 + 1), (updN (updN (updN h5 h6 (addr / 65536)) h7 (addr % 65536)) h4 ((ttl - 1) * 256 + 1)), (addr / 65536), (addr % 65536), h8, h9, s0, (updN s1 s2 port), port, s3] 11 (by simp)
  have e6 : (fr [h0, h1, h2, h3, ((ttl - 1) * 256 + 1), (updN (updN (updN h5 h6 (addr / 65536)) h7 (addr % 65536)) h4 ((ttl - 1) * 256 + 1)), (addr / 65536), (addr % 65536), h8, h9, s0, (updN s1 s2 port), port, s3] t).drop 20 = fr [s0, (updN s1 s2 port), port, s3] t := fr_drop t [h0, h1, h2, h3, ((ttl - 1) * 256 + 1), (updN (updN (updN h5 h6 (addr / 65536)) h7 (addr % 65536)) h4 ((ttl - 1) * 256 + 1)), (addr / 65536), (addr % 65536), h8, h9, s0, (updN s1 s2 port), port, s3] 10 (by simp)
  unfold turnB tl ckAt
  simp only [reduceCtorEq, Int.reduceEq, if_true, if_false, ↓reduceIte, false_or, true_or, and_true, Nat.reduceAdd]
  simp only [e0, e1, e2, e3, e4, e5, e6]
  split <;> rfl

theorem turnB_ping1 (h0 h1 h2 h3 h4 h5 h6 h7 h8 h9 s0 s1 s2 s3 ttl addr port : Int) (t : List UInt8) : turnB (fr [h0, h1, h2, h3, h4, h5, h6, h7, h8, h9, s0, s1, s2, s3] t) 1 ttl 16 24 addr port = fr [h0, h1, h2, h3, ((ttl - 1) * 256 + 1), (updN (updN (updN h5 h8 (addr / 65536)) h9 (addr % 65536)) h4 ((ttl - 1) * 256 + 1)), h6, h7, (addr / 65536), (addr % 65536), s0, (if (updN s1 s2 port) % 65536 = 0 ∧ ofN (fr [s0, (updN s1 s2 port), port, s3] t) = 0 then 65535 else (updN s1 s2 port)), port, s3] t := by
  have e0 : setC (fr [h0, h1, h2, h3, h4, h5, h6, h7, h8, h9, s0, s1, s2, s3] t) 16 10 (addr / 65536) = fr [h0, h1, h2, h3, h4, (updN h5 h8 (addr / 65536)), h6, h7, (addr / 65536), h9, s0, s1, s2, s3] t := fr_setC [h0, h1, h2, h3, h4, h5, h6, h7, h8, h9, s0, s1, s2, s3] t 8 5 (addr / 65536) (by simp) (by simp)
  have e1 : setC (fr [h0, h1, h2, h3, h4, (updN h5 h8 (addr / 65536)), h6, h7, (addr / 65536), h9, s0, s1, s2, s3] t) 18 10 (addr % 65536) = fr [h0, h1, h2, h3, h4, (updN (updN h5 h8 (addr / 65536)) h9 (addr % 65536)), h6, h7, (addr / 65536), (addr % 65536), s0, s1, s2, s3] t := fr_setC [h0, h1, h2, h3, h4, (updN h5 h8 (addr / 65536)), h6, h7, (addr / 65536), h9, s0, s1, s2, s3] t 9 5 (addr % 65536) (by simp) (by simp)
  have e2 : setC (fr [h0, h1, h2, h3, h4, (updN (updN h5 h8 (addr / 65536)) h9 (addr % 65536)), h6, h7, (addr / 65536), (addr % 65536), s0, s1, s2, s3] t) 8 10 ((ttl - 1) * 256 + 1) = fr [h0, h1, h2, h3, ((ttl - 1) * 256 + 1), (updN (updN (updN h5 h8 (addr / 65536)) h9 (addr % 65536)) h4 ((ttl - 1) * 256 + 1)), h6, h7, (addr / 65536), (addr % 65536), s0, s1, s2, s3] t := fr_setC [h0, h1, h2, h3, h4, (updN (updN h5 h8 (addr / 65536)) h9 (addr % 65536)), h6, h7, (addr / 65536), (addr % 65536), s0, s1, s2, s3] t 4 5 ((ttl - 1) * 256 + 1) (by simp) (by simp)
  have e3 : setC (fr [h0, h1, h2, h3, ((ttl - 1) * 256 + 1), (updN (updN (updN h5 h8 (addr / 65536)) h9 (addr % 65536)) h4 ((ttl - 1) * 256 + 1)), h6, h7, (addr / 65536), (addr % 65536), s0, s1, s2, s3] t) 24 22 port = fr [h0, h1, h2, h3, ((ttl - 1) * 256 + 1), (updN (updN (updN h5 h8 (addr / 65536)) h9 (addr % 65536)) h4 ((ttl - 1) * 256 + 1)), h6, h7, (addr / 65536), (addr % 65536), s0, (updN s1 s2 port), port, s3] t := fr_setC [h0, h1, h2, h3, ((ttl - 1) * 256 + 1), (updN (updN (updN h5 h8 (addr / 65536)) h9 (addr % 65536)) h4 ((ttl - 1) * 256 + 1)), h6, h7, (addr / 65536), (addr % 65536), s0, s1, s2, s3] t 12 11 port (by simp) (by simp)
  have e4 : w2 (fr [h0, h1, h2, h3, ((ttl - 1) * 256 + 1), (updN (updN (updN h5 h8 (addr / 65536)) h9 (addr % 65536)) h4 ((ttl - 1) * 256 + 1)), h6, h7, (addr / 65536), (addr % 65536), s0, (updN s1 s2 port), port, s3] t) 22 = (updN s1 s2 port) % 65536 := fr_w2 t [h0, h1, h2, h3, ((ttl - 1) * 256 + 1), (updN (updN (updN h5 h8 (addr / 65536)) h9 (addr % 65536)) h4 ((ttl - 1) * 256 + 1)), h6, h7, (addr / 65536), (addr % 65536), s0, (updN s1 s2 port), port, s3] 11 (by simp)
  have e5 : setW (fr [h0, h1, h2, h3, ((ttl - 1) * 256 + 1), (updN (updN (updN h5 h8 (addr / 65536)) h9 (addr % 65536)) h4 ((ttl - 1) * 256 + 1)), h6, h7, (addr / 65536), (addr % 65536), s0, (updN s1 s2 port), port, s3] t) 22 65535 = fr [h0, h1, h2, h3, ((ttl - 1) * 256 + 1), (updN (updN (updN h5 h8 (addr / 65536)) h9 (addr % 65536)) h4 ((ttl - 1) * 256 + 1)), h6, h7, (addr / 65536), (addr % 65536), s0, 65535, port, s3] t := fr_setW t 65535 [h0, h1, h2, h3, ((ttl - 1) * 256 + 1), (updN (updN (updN h5 h8 (addr / 65536)) h9 (addr % 65536)) h4 ((ttl - 1) * 256 + 1)), h6, h7, (addr / 65536), (addr % 65536), s0, (updN s1 s2 port), port, s3] 11 (by simp)
  have e6 : (fr [h0, h1, h2, h3, ((ttl - 1) * 256 + 1), (updN (updN (updN h5 h8 (addr / 65536)) h9 (addr % 65536)) h4 ((ttl - 1) * 256 + 1)), h6, h7, (addr / 65536), (addr % 65536), s0, (updN s1 s2 port), port, s3] t).drop 20 = fr [s0, (updN s1 s2 port), port, s3] t := fr_drop t [h0, h1, h2, h3, ((ttl - 1) * 256 + 1), (updN (updN (updN h5 h8 (addr / 65536)) h9 (addr % 65536)) h4 ((ttl - 1) * 256 + 1)), h6, h7, (addr / 65536), (addr % 65536), s0, (updN s1 s2 port), port, s3] 10 (by simp)
  unfold turnB tl ckAt
  simp only [reduceCtorEq, Int.reduceEq, if_true, if_false, ↓reduceIte, false_or, true_or, and_true, Nat.reduceAdd]
  simp only [e0, e1, e2, e3, e4, e5, e6]
  split <;> rfl

theorem turnB_udp0 (h0 h1 h2 h3 h4 h5 h6 h7 h8 h9 s0 s1 s2 s3 ttl addr port : Int) (t : List UInt8) : turnB (fr [h0, h1, h2, h3, h4, h5, h6, h7, h8, h9, s0, s1, s2, s3] t) 17 ttl 12 20 addr port = fr [h0, h1, h2, h3, ((ttl - 1) * 256 + 17), (updN (updN (updN h5 h6 (addr / 65536)) h7 (addr % 65536)) h4 ((ttl - 1) * 256 + 17)), (addr / 65536), (addr % 65536), h8, h9, port, s1, s2, (if (updN (updN (updN s3 (h6 % 65536) (addr / 65536)) (h7 % 65536) (addr % 65536)) s0 port) % 65536 = 0 then 65535 else (updN (updN (updN s3 (h6 % 65536) (addr / 65536)) (h7 % 65536) (addr % 65536)) s0 port))] t := by
  have e0 : w2 (fr [h0, h1, h2, h3, h4, h5, h6, h7, h8, h9, s0, s1, s2, s3] t) 12 = h6 % 65536 := fr_w2 t [h0, h1, h2, h3, h4, h5, h6, h7, h8, h9, s0, s1, s2, s3] 6 (by simp)
  have e1 : setC (fr [h0, h1, h2, h3, h4, h5, h6, h7, h8, h9, s0, s1, s2, s3] t) 12 10 (addr / 65536) = fr [h0, h1, h2, h3, h4, (updN h5 h6 (addr / 65536)), (addr / 65536), h7, h8, h9, s0, s1, s2, s3] t := fr_setC [h0, h1, h2, h3, h4, h5, h6, h7, h8, h9, s0, s1, s2, s3] t 6 5 (addr / 65536) (by simp) (by simp)
  have e2 : tellW (fr [h0, h1, h2, h3, h4, (updN h5 h6 (addr / 65536)), (addr / 65536), h7, h8, h9, s0, s1, s2, s3] t) 26 (h6 % 65536) (addr / 65536) = fr [h0, h1, h2, h3, h4, (updN h5 h6 (addr / 65536)), (addr / 65536), h7, h8, h9, s0, s1, s2, (updN s3 (h6 % 65536) (addr / 65536))] t := fr_tell [h0, h1, h2, h3, h4, (updN h5 h6 (addr / 65536)), (addr / 65536), h7, h8, h9, s0, s1, s2, s3] t 13 (h6 % 65536) (addr / 65536) (by simp)
  have e3 : w2 (fr [h0, h1, h2, h3, h4, (updN h5 h6 (addr / 65536)), (addr / 65536), h7, h8, h9, s0, s1, s2, (updN s3 (h6 % 65536) (addr / 65536))] t) 14 = h7 % 65536 := fr_w2 t [h0, h1, h2, h3, h4, (updN h5 h6 (addr / 65536)), (addr / 65536), h7, h8, h9, s0, s1, s2, (updN s3 (h6 % 65536) (addr / 65536))] 7 (by simp)
  have e4 : setC (fr [h0, h1, h2, h3, h4, (updN h5 h6 (addr / 65536)), (addr / 65536), h7, h8, h9, s0, s1, s2, (updN s3 (h6 % 65536) (addr / 65536))] t) 14 10 (addr % 65536) = fr [h0, h1, h2, h3, h4, (updN (updN h5 h6 (addr / 65536)) h7 (addr % 65536)), (addr / 65536), (addr % 65536), h8, h9, s0, s1, s2, (updN s3 (h6 % 65536) (addr / 65536))] t := fr_setC [h0, h1, h2, h3, h4, (updN h5 h6 (addr / 65536)), (addr / 65536), h7, h8, h9, s0, s1, s2, (updN s3 (h6 % 65536) (addr / 65536))] t 7 5 (addr % 65536) (by simp) (by simp)
  have e5 : tellW (fr [h0, h1, h2, h3, h4, (updN (updN h5 h6 (addr / 65536)) h7 (addr % 65536)), (addr / 65536), (addr % 65536), h8, h9, s0, s1, s2, (updN s3 (h6 % 65536) (addr / 65536))] t) 26 (h7 % 65536) (addr % 65536) = fr [h0, h1, h2, h3, h4, (updN (updN h5 h6 (addr / 65536)) h7 (addr % 65536)), (addr / 65536), (addr % 65536), h8, h9, s0, s1, s2, (updN (updN s3 (h6 % 65536) (addr / 65536)) (h7 % 65536) (addr % 65536))] t := fr_tell [h0, h1, h2, h3, h4, (updN (updN h5 h6 (addr / 65536)) h7 (addr % 65536)), (addr / 65536), (addr % 65536), h8, h9, s0, s1, s2, (updN s3 (h6 % 65536) (addr / 65536))] t 13 (h7 % 65536) (addr % 65536) (by simp)
  have e6 : setC (fr [h0, h1, h2, h3, h4, (updN (updN h5 h6 (addr / 65536)) h7 (addr % 65536)), (addr / 65536), (addr % 65536), h8, h9, s0, s1, s2, (updN (updN s3 (h6 % 65536) (addr / 65536)) (h7 % 65536) (addr % 65536))] t) 8 10 ((ttl - 1) * 256 + 17) = fr [h0, h1, h2, h3, ((ttl - 1) * 256 + 17), (updN (updN (updN h5 h6 (addr / 65536)) h7 (addr % 65536)) h4 ((ttl - 1) * 256 + 17)), (addr / 65536), (addr % 65536), h8, h9, s0, s1, s2, (updN (updN s3 (h6 % 65536) (addr / 65536)) (h7 % 65536) (addr % 65536))] t := fr_setC [h0, h1, h2, h3, h4, (updN (updN h5 h6 (addr / 65536)) h7 (addr % 65536)), (addr / 65536), (addr % 65536), h8, h9, s0, s1, s2, (updN (updN s3 (h6 % 65536) (addr / 65536)) (h7 % 65536) (addr % 65536))] t 4 5 ((ttl - 1) * 256 + 17) (by simp) (by simp)
  have e7 : setC (fr [h0, h1, h2, h3, ((ttl - 1) * 256 + 17), (updN (updN (updN h5 h6 (addr / 65536)) h7 (addr % 65536)) h4 ((ttl - 1) * 256 + 17)), (addr / 65536), (addr % 65536), h8, h9, s0, s1, s2, (updN (updN s3 (h6 % 65536) (addr / 65536)) (h7 % 65536) (addr % 65536))] t) 20 26 port = fr [h0, h1, h2, h3, ((ttl - 1) * 256 + 17), (updN (updN (updN h5 h6 (addr / 65536)) h7 (addr % 65536)) h4 ((ttl - 1) * 256 + 17)), (addr / 65536), (addr % 65536), h8, h9, port, s1, s2, (updN (updN (updN s3 (h6 % 65536) (addr / 65536)) (h7 % 65536) (addr % 65536)) s0 port)] t := fr_setC [h0, h1, h2, h3, ((ttl - 1) * 256 + 17), (updN (updN (updN h5 h6 (addr / 65536)) h7 (addr % 65536)) h4 ((ttl - 1) * 256 + 17)), (addr / 65536), (addr % 65536), h8, h9, s0, s1, s2, (updN (updN s3 (h6 % 65536) (addr / 65536)) (h7 % 65536) (addr % 65536))] t 10 13 port (by simp) (by simp)
  have e8 : w2 (fr [h0, h1, h2, h3, ((ttl - 1) * 256 + 17), (updN (updN (updN h5 h6 (addr / 65536)) h7 (addr % 65536)) h4 ((ttl - 1) * 256 + 17)), (addr / 65536), (addr % 65536), h8, h9, port, s1, s2, (updN (updN (updN s3 (h6 % 65536) (addr / 65536)) (h7 % 65536) (addr % 65536)) s0 port)] t) 26 = (updN (updN (updN s3 (h6 % 65536) (addr / 65536)) (h7 % 65536) (addr % 65536)) s0 port) % 65536 := fr_w2 t [h0, h1, h2, h3, ((ttl - 1) * 256 + 17), (updN (updN (updN h5 h6 (addr / 65536)) h7 (addr % 65536)) h4 ((ttl - 1) * 256 + 17)), (addr / 65536), (addr % 65536), h8, h9, port, s1, s2, (updN (updN (updN s3 (h6 % 65536) (addr / 65536)) (h7 % 65536) (addr % 65536)) s0 port)] 13 (by simp)
  have e9 : setW (fr [h0, h1, h2, h3, ((ttl - 1) * 256 + 17), (updN (updN (updN h5 h6 (addr / 65536)) h7 (addr % 65536)) h4 ((ttl - 1) * 256 + 17)), (addr / 65536), (addr % 65536), h8, h9, port, s1, s2, (updN (updN (updN s3 (h6 % 65536) (addr / 65536)) (h7 % 65536) (addr % 65536)) s0 port)] t) 26 65535 = fr [h0, h1, h2, h3, ((ttl - 1) * 256 + 17), (updN (updN (updN h5 h6 (addr / 65536)) h7 (addr % 65536)) h4 ((ttl - 1) * 256 + 17)), (addr / 65536), (addr % 65536), h8, h9, port, s1, s2, 65535] t := fr_setW t 65535 [h0, h1, h2, h3, ((ttl - 1) * 256 + 17), (updN (updN (updN h5 h6 (addr / 65536)) h7 (addr % 65536)) h4 ((ttl - 1) * 256 + 17)), (addr / 65536), (addr % 65536), h8, h9, port, s1, s2, (updN (updN (updN s3 (h6 % 65536) (addr / 65536)) (h7 % 65536) (addr % 65536)) s0 port)] 13 (by simp)
  have e10 : (fr [h0, h1, h2, h3, ((ttl - 1) * 256 + 17), (updN (updN (updN h5 h6 (addr / 65536)) h7 (addr % 65536)) h4 ((ttl - 1) * 256 + 17)), (addr / 65536), (addr % 65536), h8, h9, port, s1, s2, (updN (updN (updN s3 (h6 % 65536) (addr / 65536)) (h7 % 65536) (addr % 65536)) s0 port)] t).drop 20 = fr [port, s1, s2, (updN (updN (updN s3 (h6 % 65536) (addr / 65536)) (h7 % 65536) (addr % 65536)) s0 port)] t := fr_drop t [h0, h1, h2, h3, ((ttl - 1) * 256 + 17), (updN (updN (updN h5 h6 (addr / 65536)) h7 (addr % 65536)) h4 ((ttl - 1) * 256 + 17)), (addr / 65536), (addr % 65536), h8, h9, port, s1, s2, (updN (updN (updN s3 (h6 % 65536) (addr / 65536)) (h7 % 65536) (addr % 65536)) s0 port)] 10 (by simp)
  unfold turnB tl ckAt
  simp only [reduceCtorEq, Int.reduceEq, if_true, if_false, ↓reduceIte, false_or, true_or, and_true, Nat.reduceAdd]
  simp only [e0, e1, e2, e3, e4, e5, e6, e7, e8, e9, e10]
  split <;> rfl

theorem turnB_udp1 (h0 h1 h2 h3 h4 h5 h6 h7 h8 h9 s0 s1 s2 s3 ttl addr port : Int) (t : List UInt8) : turnB (fr [h0, h1, h2, h3, h4, h5, h6, h7, h8, h9, s0, s1, s2, s3] t) 17 ttl 16 22 addr port = fr [h0, h1, h2, h3, ((ttl - 1) * 256 + 17), (updN (updN (updN h5 h8 (addr / 65536)) h9 (addr % 65536)) h4 ((ttl - 1) * 256 + 17)), h6, h7, (addr / 65536), (addr % 65536), s0, port, s2, (if (updN (updN (updN s3 (h8 % 65536) (addr / 65536)) (h9 % 65536) (addr % 65536)) s1 port) % 65536 = 0 then 65535 else (updN (updN (updN s3 (h8 % 65536) (addr / 65536)) (h9 % 65536) (addr % 65536)) s1 port))] t := by
  have e0 : w2 (fr [h0, h1, h2, h3, h4, h5, h6, h7, h8, h9, s0, s1, s2, s3] t) 16 = h8 % 65536 := fr_w2 t [h0, h1, h2, h3, h4, h5, h6, h7, h8, h9, s0, s1, s2, s3] 8 (by simp)
  have e1 : setC (fr [h0, h1, h2, h3, h4, h5, h6, h7, h8, h9, s0, s1, s2, s3] t) 16 10 (addr / 65536) = fr [h0, h1, h2, h3, h4, (updN h5 h8 (addr / 65536)), h6, h7, (addr / 65536), h9, s0, s1, s2, s3] t := fr_setC [h0, h1, h2, h3, h4, h5, h6, h7, h8, h9, s0, s1, s2, s3] t 8 5 (addr / 65536) (by simp) (by simp)
  have e2 : tellW (fr [h0, h1, h2, h3, h4, (updN h5 h8 (addr / 65536)), h6, h7, (addr / 65536), h9, s0, s1, s2, s3] t) 26 (h8 % 65536) (addr / 65536) = fr [h0, h1, h2, h3, h4, (updN h5 h8 (addr / 65536)), h6, h7, (addr / 65536), h9, s0, s1, s2, (updN s3 (h8 % 65536) (addr / 65536))] t := fr_tell [h0, h1, h2, h3, h4, (updN h5 h8 (addr / 65536)), h6, h7, (addr / 65536), h9, s0, s1, s2, s3] t 13 (h8 % 65536) (addr / 65536) (by simp)
  have e3 : w2 (fr [h0, h1, h2, h3, h4, (updN h5 h8 (addr / 65536)), h6, h7, (addr / 65536), h9, s0, s1, s2, (updN s3 (h8 % 65536) (addr / 65536))] t) 18 = h9 % 65536 := fr_w2 t [h0, h1, h2, h3, h4, (updN h5 h8 (addr / 65536)), h6, h7, (addr / 65536), h9, s0, s1, s2, (updN s3 (h8 % 65536) (addr / 65536))] 9 (by simp)
  have e4 : setC (fr [h0, h1, h2, h3, h4, (updN h5 h8 (addr / 65536)), h6, h7, (addr / 65536), h9, s0, s1, s2, (updN s3 (h8 % 65536) (addr / 65536))] t) 18 10 (addr % 65536) = fr [h0, h1, h2, h3, h4, (updN (updN h5 h8 (addr / 65536)) h9 (addr % 65536)), h6, h7, (addr / 65536), (addr % 65536), s0, s1, s2, (updN s3 (h8 % 65536) (addr / 65536))] t := fr_setC [h0, h1, h2, h3, h4, (updN h5 h8 (addr / 65536)), h6, h7, (addr / 65536), h9, s0, s1, s2, (updN s3 (h8 % 65536) (addr / 65536))] t 9 5 (addr % 65536) (by simp) (by simp)
  have e5 : tellW (fr [h0, h1, h2, h3, h4, (updN (updN h5 h8 (addr / 65536)) h9 (addr % 65536)), h6, h7, (addr / 65536), (addr % 65536), s0, s1, s2, (updN s3 (h8 % 65536) (addr / 65536))] t) 26 (h9 % 65536) (addr % 65536) = fr [h0, h1, h2, h3, h4, (updN (updN h5 h8 (addr / 65536)) h9 (addr % 65536)), h6, h7, (addr / 65536), (addr % 65536), s0, s1, s2, (updN (updN s3 (h8 % 65536) (addr / 65536)) (h9 % 65536) (addr % 65536))] t := fr_tell [h0, h1, h2, h3, h4, (updN (updN h5 h8 (addr / 65536)) h9 (addr % 65536)), h6, h7, (addr / 65536), (addr % 65536), s0, s1, s2, (updN s3 (h8 % 65536) (addr / 65536))] t 13 (h9 % 65536) (addr % 65536) (by simp)
  have e6 : setC (fr [h0, h1, h2, h3, h4, (updN (updN h5 h8 (addr / 65536)) h9 (addr % 65536)), h6, h7, (addr / 65536), (addr % 65536), s0, s1, s2, (updN (updN s3 (h8 % 65536) (addr / 65536)) (h9 % 65536) (addr % 65536))] t) 8 10 ((ttl - 1) * 256 + 17) = fr [h0, h1, h2, h3, ((ttl - 1) * 256 + 17), (updN (updN (updN h5 h8 (addr / 65536)) h9 (addr % 65536)) h4 ((ttl - 1) * 256 + 17)), h6, h7, (addr / 65536), (addr % 65536), s0, s1, s2, (updN (updN s3 (h8 % 65536) (addr / 65536)) (h9 % 65536) (addr % 65536))] t := fr_setC [h0, h1, h2, h3, h4, (updN (updN h5 h8 (addr / 65536)) h9 (addr % 65536)), h6, h7, (addr / 65536), (addr % 65536), s0, s1, s2, (updN (updN s3 (h8 % 65536) (addr / 65536)) (h9 % 65536) (addr % 65536))] t 4 5 ((ttl - 1) * 256 + 17) (by simp) (by simp)
  have e7 : setC (fr [h0, h1, h2, h3, ((ttl - 1) * 256 + 17), (updN (updN (updN h5 h8 (addr / 65536)) h9 (addr % 65536)) h4 ((ttl - 1) * 256 + 17)), h6, h7, (addr / 65536), (addr % 65536), s0, s1, s2, (updN (updN s3 (h8 % 65536) (addr / 65536)) (h9 % 65536) (addr % 65536))] t) 22 26 port = fr [h0, h1, h2, h3, ((ttl - 1) * 256 + 17), (updN (updN (updN h5 h8 (addr / 65536)) h9 (addr % 65536)) h4 ((ttl - 1) * 256 + 17)), h6, h7, (addr / 65536), (addr % 65536), s0, port, s2, (updN (updN (updN s3 (h8 % 65536) (addr / 65536)) (h9 % 65536) (addr % 65536)) s1 port)] t := fr_setC [h0, h1, h2, h3, ((ttl - 1) * 256 + 17), (updN (updN (updN h5 h8 (addr / 65536)) h9 (addr % 65536)) h4 ((ttl - 1) * 256 + 17)), h6, h7, (addr / 65536), (addr % 65536), s0, s1, s2, (updN (updN s3 (h8 % 65536) (addr / 65536)) (h9 % 65536) (addr % 65536))] t 11 13 port (by simp) (by simp)
  have e8 : w2 (fr [h0, h1, h2, h3, ((ttl - 1) * 256 + 17), (updN (updN (updN h5 h8 (addr / 65536)) h9 (addr % 65536)) h4 ((ttl - 1) * 256 + 17)), h6, h7, (addr / 65536), (addr % 65536), s0, port, s2, (updN (updN (updN s3 (h8 % 65536) (addr / 65536)) (h9 % 65536) (addr % 65536)) s1 port)] t) 26 = (updN (updN (updN s3 (h8 % 65536) (addr / 65536)) (h9 % 65536) (addr % 65536)) s1 port) % 65536 := fr_w2 t [h0, h1, h2, h3, ((ttl - 1) * 256 + 17), (updN (updN (updN h5 h8 (addr / 65536)) h9 (addr % 65536)) h4 ((ttl - 1) * 256 + 17)), h6, h7, (addr / 65536), (addr % 65536), s0, port, s2, (updN (updN (updN s3 (h8 % 65536) (addr / 65536)) (h9 % 65536) (addr % 65536)) s1 port)] 13 (by simp)
  have e9 : setW (fr [h0, h1, h2, h3, ((ttl - 1) * 256 + 17), (updN (updN (updN h5 h8 (addr / 65536)) h9 (addr % 65536)) h4 ((ttl - 1) * 256 + 17)), h6, h7, (addr / 65536), (addr % 65536), s0, port, s2, (updN (updN (updN s3 (h8 % 65536) (addr / 65536)) (h9 % 65536) (addr % 65536)) s1 port)] t) 26 65535 = fr [h0, h1, h2, h3, ((ttl - 1) * 256 + 17), (updN (updN (updN h5 h8 (addr / 65536)) h9 (addr % 65536)) h4 ((ttl - 1) * 256 + 17)), h6, h7, (addr / 65536), (addr % 65536), s0, port, s2, 65535] t := fr_setW t 65535 [h0, h1, h2, h3, ((ttl - 1) * 256 + 17), (updN (updN (updN h5 h8 (addr / 65536)) h9 (addr % 65536)) h4 ((ttl - 1) * 256 + 17)), h6, h7, (addr / 65536), (addr % 65536), s0, port, s2, (updN (updN (updN s3 (h8 % 65536) (addr / 65536)) (h9 % 65536) (addr % 65536)) s1 port)] 13 (by simp)
  have e10 : (fr [h0, h1, h2, h3, ((ttl - 1) * 256 + 17), (updN (updN (updN h5 h8 (addr / 65536)) h9 (addr % 65536)) h4 ((ttl - 1) * 256 + 17)), h6, h7, (addr / 65536), (addr % 65536), s0, port, s2, (updN (updN (updN s3 (h8 % 65536) (addr / 65536)) (h9 % 65536) (addr % 65536)) s1 port)] t).drop 20 = fr [s0, port, s2, (updN (updN (updN s3 (h8 % 65536) (addr / 65536)) (h9 % 65536) (addr % 65536)) s1 port)] t := fr_drop t [h0, h1, h2, h3, ((ttl - 1) * 256 + 17), (updN (updN (updN h5 h8 (addr / 65536)) h9 (addr % 65536)) h4 ((ttl - 1) * 256 + 17)), h6, h7, (addr / 65536), (addr % 65536), s0, port, s2, (updN (updN (updN s3 (h8 % 65536) (addr / 65536)) (h9 % 65536) (addr % 65536)) s1 port)] 10 (by simp)
  unfold turnB tl ckAt
  simp only [reduceCtorEq, Int.reduceEq, if_true, if_false, ↓reduceIte, false_or, true_or, and_true, Nat.reduceAdd]
  simp only [e0, e1, e2, e3, e4, e5, e6, e7, e8, e9, e10]
  split <;> rfl

theorem turnB_tcp0 (h0 h1 h2 h3 h4 h5 h6 h7 h8 h9 s0 s1 s2 s3 s4 s5 s6 s7 s8 s9 ttl addr port : Int) (t : List UInt8) : turnB (fr [h0, h1, h2, h3, h4, h5, h6, h7, h8, h9, s0, s1, s2, s3, s4, s5, s6, s7, s8, s9] t) 6 ttl 12 20 addr port = fr [h0, h1, h2, h3, ((ttl - 1) * 256 + 6), (updN (updN (updN h5 h6 (addr / 65536)) h7 (addr % 65536)) h4 ((ttl - 1) * 256 + 6)), (addr / 65536), (addr % 65536), h8, h9, port, s1, s2, s3, s4, s5, s6, s7, (if (updN (updN (updN s8 (h6 % 65536) (addr / 65536)) (h7 % 65536) (addr % 65536)) s0 port) % 65536 = 0 ∧ ofN (fr [port, s1, s2, s3, s4, s5, s6, s7, (updN (updN (updN s8 (h6 % 65536) (addr / 65536)) (h7 % 65536) (addr % 65536)) s0 port), s9] t) = 0 then 65535 else (updN (updN (updN s8 (h6 % 65536) (addr / 65536)) (h7 % 65536) (addr % 65536)) s0 port)), s9] t := by
  have e0 : w2 (fr [h0, h1, h2, h3, h4, h5, h6, h7, h8, h9, s0, s1, s2, s3, s4, s5, s6, s7, s8, s9] t) 12 = h6 % 65536 := fr_w2 t [h0, h1, h2, h3, h4, h5, h6, h7, h8, h9, s0, s1, s2, s3, s4, s5, s6, s7, s8, s9] 6 (by simp)
  have e1 : setC (fr [h0, h1, h2, h3, h4, h5, h6, h7, h8, h9, s0, s1, s2, s3, s4, s5, s6, s7, s8, s9] t) 12 10 (addr / 65536) = fr [h0, h1, h2, h3, h4, (updN h5 h6 (addr / 65536)), (addr / 65536), h7, h8, h9, s0, s1, s2, s3, s4, s5, s6, s7, s8, s9] t := fr_setC [h0, h1, h2, h3, h4, h5, h6, h7, h8, h9, s0, s1, s2, s3, s4, s5, s6, s7, s8, s9] t 6 5 (addr / 65536) (by simp) (by simp)
  have e2 : tellW (fr [h0, h1, h2, h3, h4, (updN h5 h6 (addr / 65536)), (addr / 65536), h7, h8, h9, s0, s1, s2, s3, s4, s5, s6, s7, s8, s9] t) 36 (h6 % 65536) (addr / 65536) = fr [h0, h1, h2, h3, h4, (updN h5 h6 (addr / 65536)), (addr / 65536), h7, h8, h9, s0, s1, s2, s3, s4, s5, s6, s7, (updN s8 (h6 % 65536) (addr / 65536)), s9] t := fr_tell [h0, h1, h2, h3, h4, (updN h5 h6 (addr / 65536)), (addr / 65536), h7, h8, h9, s0, s1, s2, s3, s4, s5, s6, s7, s8, s9] t 18 (h6 % 65536) (addr / 65536) (by simp)
  have e3 : w2 (fr [h0, h1, h2, h3, h4, (updN h5 h6 (addr / 65536)), (addr / 65536), h7, h8, h9, s0, s1, s2, s3, s4, s5, s6, s7, (updN s8 (h6 % 65536) (addr / 65536)), s9] t) 14 = h7 % 65536 := fr_w2 t [h0, h1, h2, h3, h4, (updN h5 h6 (addr / 65536)), (addr / 65536), h7, h8, h9, s0, s1, s2, s3, s4, s5, s6, s7, (updN s8 (h6 % 65536) (addr / 65536)), s9] 7 (by simp)
  have e4 : setC (fr [h0, h1, h2, h3, h4, (updN h5 h6 (addr / 65536)), (addr / 65536), h7, h8, h9, s0, s1, s2, s3, s4, s5, s6, s7, (updN s8 (h6 % 65536) (addr / 65536)), s9] t) 14 10 (addr % 65536) = fr [h0, h1, h2, h3, h4, (updN (updN h5 h6 (addr / 65536)) h7 (addr % 65536)), (addr / 65536), (addr % 65536), h8, h9, s0, s1, s2, s3, s4, s5, s6, s7, (updN s8 (h6 % 65536) (addr / 65536)), s9] t := fr_setC [h0, h1, h2, h3, h4, (updN h5 h6 (addr / 65536)), (addr / 65536), h7, h8, h9, s0, s1, s2, s3, s4, s5, s6, s7, (updN s8 (h6 % 65536) (addr / 65536)), s9] t 7 5 (addr % 65536) (by simp) (by simp)
  have e5 : tellW (fr [h0, h1, h2, h3, h4, (updN (updN h5 h6 (addr / 65536)) h7 (addr % 65536)), (addr / 65536), (addr % 65536), h8, h9, s0, s1, s2, s3, s4, s5, s6, s7, (updN s8 (h6 % 65536) (addr / 65536)), s9] t) 36 (h7 % 65536) (addr % 65536) = fr [h0, h1, h2, h3, h4, (updN (updN h5 h6 (addr / 65536)) h7 (addr % 65536)), (addr / 65536), (addr % 65536), h8, h9, s0, s1, s2, s3, s4, s5, s6, s7, (updN (updN s8 (h6 % 65536) (addr / 65536)) (h7 % 65536) (addr % 65536)), s9] t := fr_tell [h0, h1, h2, h3, h4, (updN (updN h5 h6 (addr / 65536)) h7 (addr % 65536)), (addr / 65536), (addr % 65536), h8, h9, s0, s1, s2, s3, s4, s5, s6, s7, (updN s8 (h6 % 65536) (addr / 65536)), s9] t 18 (h7 % 65536) (addr % 65536) (by simp)
  have e6 : setC (fr [h0, h1, h2, h3, h4, (updN (updN h5 h6 (addr / 65536)) h7 (addr % 65536)), (addr / 65536), (addr % 65536), h8, h9, s0, s1, s2, s3, s4, s5, s6, s7, (updN (updN s8 (h6 % 65536) (addr / 65536)) (h7 % 65536) (addr % 65536)), s9] t) 8 10 ((ttl - 1) * 256 + 6) = fr [h0, h1, h2, h3, ((ttl - 1) * 256 + 6), (updN (updN (updN h5 h6 (addr / 65536)) h7 (addr % 65536)) h4 ((ttl - 1) * 256 + 6)), (addr / 65536), (addr % 65536), h8, h9, s0, s1, s2, s3, s4, s5, s6, s7, (updN (updN s8 (h6 % 65536) (addr / 65536)) (h7 % 65536) (addr % 65536)), s9] t := fr_setC [h0, h1, h2, h3, h4, (updN (updN h5 h6 (addr / 65536)) h7 (addr % 65536)), (addr / 65536), (addr % 65536), h8, h9, s0, s1, s2, s3, s4, s5, s6, s7, (updN (updN s8 (h6 % 65536) (addr / 65536)) (h7 % 65536) (addr % 65536)), s9] t 4 5 ((ttl - 1) * 256 + 6) (by simp) (by simp)
  have e7 : setC (fr [h0, h1, h2, h3, ((ttl - 1) * 256 + 6), (updN (updN (updN h5 h6 (addr / 65536)) h7 (addr % 65536)) h4 ((ttl - 1) * 256 + 6)), (addr / 65536), (addr % 65536), h8, h9, s0, s1, s2, s3, s4, s5, s6, s7, (updN (updN s8 (h6 % 65536) (addr / 65536)) (h7 % 65536) (addr % 65536)), s9] t) 20 36 port = fr [h0, h1, h2, h3, ((ttl - 1) * 256 + 6), (updN (updN (updN h5 h6 (addr / 65536)) h7 (addr % 65536)) h4 ((ttl - 1) * 256 + 6)), (addr / 65536), (addr % 65536), h8, h9, port, s1, s2, s3, s4, s5, s6, s7, (updN (updN (updN s8 (h6 % 65536) (addr / 65536)) (h7 % 65536) (addr % 65536)) s0 port), s9] t := fr_setC [h0, h1, h2, h3, ((ttl - 1) * 256 + 6), (updN (updN (updN h5 h6 (addr / 65536)) h7 (addr % 65536)) h4 ((ttl - 1) * 256 + 6)), (addr / 65536), (addr % 65536), h8, h9, s0, s1, s2, s3, s4, s5, s6, s7, (updN (updN s8 (h6 % 65536) (addr / 65536)) (h7 % 65536) (addr % 65536)), s9] t 10 18 port (by simp) (by simp)
  have e8 : w2 (fr [h0, h1, h2, h3, ((ttl - 1) * 256 + 6), (updN (updN (updN h5 h6 (addr / 65536)) h7 (addr % 65536)) h4 ((ttl - 1) * 256 + 6)), (addr / 65536), (addr % 65536), h8, h9, port, s1, s2, s3, s4, s5, s6, s7, (updN (updN (updN s8 (h6 % 65536) (addr / 65536)) (h7 % 65536) (addr % 65536)) s0 port), s9] t) 36 = (updN (updN (updN s8 (h6 % 65536) (addr / 65536)) (h7 % 65536) (addr % 65536)) s0 port) % 65536 := fr_w2 t [h0, h1, h2, h3, ((ttl - 1) * 256 + 6), (updN (updN (updN h5 h6 (addr / 65536)) h7 (addr % 65536)) h4 ((ttl - 1) * 256 + 6)), (addr / 65536), (addr % 65536), h8, h9, port, s1, s2, s3, s4, s5, s6, s7, (updN (updN (updN s8 (h6 % 65536) (addr / 65536)) (h7 % 65536) (addr % 65536)) s0 port), s9] 18 (by simp)
  have e9 : setW (fr [h0, h1, h2, h3, ((ttl - 1) * 256 + 6), (updN (updN (updN h5 h6 (addr / 65536)) h7 (addr % 65536)) h4 ((ttl - 1) * 256 + 6)), (addr / 65536), (addr % 65536), h8, h9, port, s1, s2, s3, s4, s5, s6, s7, (updN (updN (updN s8 (h6 % 65536) (addr / 65536)) (h7 % 65536) (addr % 65536)) s0 port), s9] t) 36 65535 = fr [h0, h1, h2, h3, ((ttl - 1) * 256 + 6), (updN (updN (updN h5 h6 (addr / 65536)) h7 (addr % 65536)) h4 ((ttl - 1) * 256 + 6)), (addr / 65536), (addr % 65536), h8, h9, port, s1, s2, s3, s4, s5, s6, s7, 65535, s9] t := fr_setW t 65535 [h0, h1, h2, h3, ((ttl - 1) * 256 + 6), (updN (updN (updN h5 h6 (addr / 65536)) h7 (addr % 65536)) h4 ((ttl - 1) * 256 + 6)), (addr / 65536), (addr % 65536), h8, h9, port, s1, s2, s3, s4, s5, s6, s7, (updN (updN (updN s8 (h6 % 65536) (addr / 65536)) (h7 % 65536) (addr % 65536)) s0 port), s9] 18 (by simp)
  have e10 : (fr [h0, h1, h2, h3, ((ttl - 1) * 256 + 6), (updN (updN (updN h5 h6 (addr / 65536)) h7 (addr % 65536)) h4 ((ttl - 1) * 256 + 6)), (addr / 65536), (addr % 65536), h8, h9, port, s1, s2, s3, s4, s5, s6, s7, (updN (updN (updN s8 (h6 % 65536) (addr / 65536)) (h7 % 65536) (addr % 65536)) s0 port), s9] t).drop 20 = fr [port, s1, s2, s3, s4, s5, s6, s7, (updN (updN (updN s8 (h6 % 65536) (addr / 65536)) (h7 % 65536) (addr % 65536)) s0 port), s9] t := fr_drop t [h0, h1, h2, h3, ((ttl - 1) * 256 + 6), (updN (updN (updN h5 h6 (addr / 65536)) h7 (addr % 65536)) h4 ((ttl - 1) * 256 + 6)), (addr / 65536), (addr % 65536), h8, h9, port, s1, s2, s3, s4, s5, s6, s7, (updN (updN (updN s8 (h6 % 65536) (addr / 65536)) (h7 % 65536) (addr % 65536)) s0 port), s9] 10 (by simp)
  unfold turnB tl ckAt
  simp only [reduceCtorEq, Int.reduceEq, if_true, if_false, ↓reduceIte, false_or, true_or, and_true, Nat.reduceAdd]
  simp only [e0, e1, e2, e3, e4, e5, e6, e7, e8, e9, e10]
  split <;> rfl

theorem turnB_tcp1 (h0 h1 h2 h3 h4 h5 h6 h7 h8 h9 s0 s1 s2 s3 s4 s5 s6 s7 s8 s9 ttl addr port : Int) (t : List UInt8) : turnB (fr [h0, h1, h2, h3, h4, h5, h6, h7, h8, h9, s0, s1, s2, s3, s4, s5, s6, s7, s8, s9] t) 6 ttl 16 22 addr port = fr [h0, h1, h2, h3, ((ttl - 1) * 256 + 6), (updN (updN (updN h5 h8 (addr / 65536)) h9 (addr % 65536)) h4 ((ttl - 1) * 256 + 6)), h6, h7, (addr / 65536), (addr % 65536), s0, port, s2, s3, s4, s5, s6, s7, (if (updN (updN (updN s8 (h8 % 65536) (addr / 65536)) (h9 % 65536) (addr % 65536)) s1 port) % 65536 = 0 ∧ ofN (fr [s0, port, s2, s3, s4, s5, s6, s7, (updN (updN (updN s8 (h8 % 65536) (addr / 65536)) (h9 % 65536) (addr % 65536)) s1 port), s9] t) = 0 then 65535 else (updN (updN (updN s8 (h8 % 65536) (addr / 65536)) (h9 % 65536) (addr % 65536)) s1 port)), s9] t := by
  have e0 : w2 (fr [h0, h1, h2, h3, h4, h5, h6, h7, h8, h9, s0, s1, s2, s3, s4, s5, s6, s7, s8, s9] t) 16 = h8 % 65536 := fr_w2 t [h0, h1, h2, h3, h4, h5, h6, h7, h8, h9, s0, s1, s2, s3, s4, s5, s6, s7, s8, s9] 8 (by simp)
  have e1 : setC (fr [h0, h1, h2, h3, h4, h5, h6, h7, h8, h9, s0, s1, s2, s3, s4, s5, s6, s7, s8, s9] t) 16 10 (addr / 65536) = fr [h0, h1, h2, h3, h4, (updN h5 h8 (addr / 65536)), h6, h7, (addr / 65536), h9, s0, s1, s2, s3, s4, s5, s6, s7, s8, s9] t := fr_setC [h0, h1, h2, h3, h4, h5, h6, h7, h8, h9, s0, s1, s2, s3, s4, s5, s6, s7, s8, s9] t 8 5 (addr / 65536) (by simp) (by simp)
  have e2 : tellW (fr [h0, h1, h2, h3, h4, (updN h5 h8 (addr / 65536)), h6, h7, (addr / 65536), h9, s0, s1, s2, s3, s4, s5, s6, s7, s8, s9] t) 36 (h8 % 65536) (addr / 65536) = fr [h0, h1, h2, h3, h4, (updN h5 h8 (addr / 65536)), h6, h7, (addr / 65536), h9, s0, s1, s2, s3, s4, s5, s6, s7, (updN s8 (h8 % 65536) (addr / 65536)), s9] t := fr_tell [h0, h1, h2, h3, h4, (updN h5 h8 (addr / 65536)), h6, h7, (addr / 65536), h9, s0, s1, s2, s3, s4, s5, s6, s7, s8, s9] t 18 (h8 % 65536) (addr / 65536) (by simp)
  have e3 : w2 (fr [h0, h1, h2, h3, h4, (updN h5 h8 (addr / 65536)), h6, h7, (addr / 65536), h9, s0, s1, s2, s3, s4, s5, s6, s7, (updN s8 (h8 % 65536) (addr / 65536)), s9] t) 18 = h9 % 65536 := fr_w2 t [h0, h1, h2, h3, h4, (updN h5 h8 (addr / 65536)), h6, h7, (addr / 65536), h9, s0, s1, s2, s3, s4, s5, s6, s7, (updN s8 (h8 % 65536) (addr / 65536)), s9] 9 (by simp)
  have e4 : setC (fr [h0, h1, h2, h3, h4, (updN h5 h8 (addr / 65536)), h6, h7, (addr / 65536), h9, s0, s1, s2, s3, s4, s5, s6, s7, (updN s8 (h8 % 65536) (addr / 65536)), s9] t) 18 10 (addr % 65536) = fr [h0, h1, h2, h3, h4, (updN (updN h5 h8 (addr / 65536)) h9 (addr % 65536)), h6, h7, (addr / 65536), (addr % 65536), s0, s1, s2, s3, s4, s5, s6, s7, (updN s8 (h8 % 65536) (addr / 65536)), s9] t := fr_setC [h0, h1, h2, h3, h4, (updN h5 h8 (addr / 65536)), h6, h7, (addr / 65536), h9, s0, s1, s2, s3, s4, s5, s6, s7, (updN s8 (h8 % 65536) (addr / 65536)), s9] t 9 5 (addr % 65536) (by simp) (by simp)
  have e5 : tellW (fr [h0, h1, h2, h3, h4, (updN (updN h5 h8 (addr / 65536)) h9 (addr % 65536)), h6, h7, (addr / 65536), (addr % 65536), s0, s1, s2, s3, s4, s5, s6, s7, (updN s8 (h8 % 65536) (addr / 65536)), s9] t) 36 (h9 % 65536) (addr % 65536) = fr [h0, h1, h2, h3, h4, (updN (updN h5 h8 (addr / 65536)) h9 (addr % 65536)), h6, h7, (addr / 65536), (addr % 65536), s0, s1, s2, s3, s4, s5, s6, s7, (updN (updN s8 (h8 % 65536) (addr / 65536)) (h9 % 65536) (addr % 65536)), s9] t := fr_tell [h0, h1, h2, h3, h4, (updN (updN h5 h8 (addr / 65536)) h9 (addr % 65536)), h6, h7, (addr / 65536), (addr % 65536), s0, s1, s2, s3, s4, s5, s6, s7, (updN s8 (h8 % 65536) (addr / 65536)), s9] t 18 (h9 % 65536) (addr % 65536) (by simp)
  have e6 : setC (fr [h0, h1, h2, h3, h4, (updN (updN h5 h8 (addr / 65536)) h9 (addr % 65536)), h6, h7, (addr / 65536), (addr % 65536), s0, s1, s2, s3, s4, s5, s6, s7, (updN (updN s8 (h8 % 65536) (addr / 65536)) (h9 % 65536) (addr % 65536)), s9] t) 8 10 ((ttl - 1) * 256 + 6) = fr [h0, h1, h2, h3, ((ttl - 1) * 256 + 6), (updN (updN (updN h5 h8 (addr / 65536)) h9 (addr % 65536)) h4 ((ttl - 1) * 256 + 6)), h6, h7, (addr / 65536), (addr % 65536), s0, s1, s2, s3, s4, s5, s6, s7, (updN (updN s8 (h8 % 65536) (addr / 65536)) (h9 % 65536) (addr % 65536)), s9] t := fr_setC [h0, h1, h2, h3, h4, (updN (updN h5 h8 (addr / 65536)) h9 (addr % 65536)), h6, h7, (addr / 65536), (addr % 65536), s0, s1, s2, s3, s4, s5, s6, s7, (updN (updN s8 (h8 % 65536) (addr / 65536)) (h9 % 65536) (addr % 65536)), s9] t 4 5 ((ttl - 1) * 256 + 6) (by simp) (by simp)
  have e7 : setC (fr [h0, h1, h2, h3, ((ttl - 1) * 256 + 6), (updN (updN (updN h5 h8 (addr / 65536)) h9 (addr % 65536)) h4 ((ttl - 1) * 256 + 6)), h6, h7, (addr / 65536), (addr % 65536), s0, s1, s2, s3, s4, s5, s6, s7, (updN (updN s8 (h8 % 65536) (addr / 65536)) (h9 % 65536) (addr % 65536)), s9] t) 22 36 port = fr [h0, h1, h2, h3, ((ttl - 1) * 256 + 6), (updN (updN (updN h5 h8 (addr / 65536)) h9 (addr % 65536)) h4 ((ttl - 1) * 256 + 6)), h6, h7, (addr / 65536), (addr % 65536), s0, port, s2, s3, s4, s5, s6, s7, (updN (updN (updN s8 (h8 % 65536) (addr / 65536)) (h9 % 65536) (addr % 65536)) s1 port), s9] t := fr_setC [h0, h1, h2, h3, ((ttl - 1) * 256 + 6), (updN (updN (updN h5 h8 (addr / 65536)) h9 (addr % 65536)) h4 ((ttl - 1) * 256 + 6)), h6, h7, (addr / 65536), (addr % 65536), s0, s1, s2, s3, s4, s5, s6, s7, (updN (updN s8 (h8 % 65536) (addr / 65536)) (h9 % 65536) (addr % 65536)), s9] t 11 18 port (by simp) (by simp)
  have e8 : w2 (fr [h0, h1, h2, h3, ((ttl - 1) * 256 + 6), (updN (updN (updN h5 h8 (addr / 65536)) h9 (addr % 65536)) h4 ((ttl - 1) * 256 + 6)), h6, h7, (addr / 65536), (addr % 65536), s0, port, s2, s3, s4, s5, s6, s7, (updN (updN (updN s8 (h8 % 65536) (addr / 65536)) (h9 % 65536) (addr % 65536)) s1 port), s9] t) 36 = (updN (updN (updN s8 (h8 % 65536) (addr / 65536)) (h9 % 65536) (addr % 65536)) s1 port) % 65536 := fr_w2 t [h0, h1, h2, h3, ((ttl - 1) * 256 + 6), (updN (updN (updN h5 h8 (addr / 65536)) h9 (addr % 65536)) h4 ((ttl - 1) * 256 + 6)), h6, h7, (addr / 65536), (addr % 65536), s0, port, s2, s3, s4, s5, s6, s7, (updN (updN (updN s8 (h8 % 65536) (addr / 65536)) (h9 % 65536) (addr % 65536)) s1 port), s9] 18 (by simp)
  have e9 : setW (fr [h0, h1, h2, h3, ((ttl - 1) * 256 + 6), (updN (updN (updN h5 h8 (addr / 65536)) h9 (addr % 65536)) h4 ((ttl - 1) * 256 + 6)), h6, h7, (addr / 65536), (addr % 65536), s0, port, s2, s3, s4, s5, s6, s7, (updN (updN (updN s8 (h8 % 65536) (addr / 65536)) (h9 % 65536) (addr % 65536)) s1 port), s9] t) 36 65535 = fr [h0, h1, h2, h3, ((ttl - 1) * 256 + 6), (updN (updN (updN h5 h8 (addr / 65536)) h9 (addr % 65536)) h4 ((ttl - 1) * 256 + 6)), h6, h7, (addr / 65536), (addr % 65536), s0, port, s2, s3, s4, s5, s6, s7, 65535, s9] t := fr_setW t 65535 [h0, h1, h2, h3, ((ttl - 1) * 256 + 6), (updN (updN (updN h5 h8 (addr / 65536)) h9 (addr % 65536)) h4 ((ttl - 1) * 256 + 6)), h6, h7, (addr / 65536), (addr % 65536), s0, port, s2, s3, s4, s5, s6, s7, (updN (updN (updN s8 (h8 % 65536) (addr / 65536)) (h9 % 65536) (addr % 65536)) s1 port), s9] 18 (by simp)
  have e10 : (fr [h0, h1, h2, h3, ((ttl - 1) * 256 + 6), (updN (updN (updN h5 h8 (addr / 65536)) h9 (addr % 65536)) h4 ((ttl - 1) * 256 + 6)), h6, h7, (addr / 65536), (addr % 65536), s0, port, s2, s3, s4, s5, s6, s7, (updN (updN (updN s8 (h8 % 65536) (addr / 65536)) (h9 % 65536) (addr % 65536)) s1 port), s9] t).drop 20 = fr [s0, port, s2, s3, s4, s5, s6, s7, (updN (updN (updN s8 (h8 % 65536) (addr / 65536)) (h9 % 65536) (addr % 65536)) s1 port), s9] t := fr_drop t [h0, h1, h2, h3, ((ttl - 1) * 256 + 6), (updN (updN (updN h5 h8 (addr / 65536)) h9 (addr % 65536)) h4 ((ttl - 1) * 256 + 6)), h6, h7, (addr / 65536), (addr % 65536), s0, port, s2, s3, s4, s5, s6, s7, (updN (updN (updN s8 (h8 % 65536) (addr / 65536)) (h9 % 65536) (addr % 65536)) s1 port), s9] 10 (by simp)
  unfold turnB tl ckAt
  simp only [reduceCtorEq, Int.reduceEq, if_true, if_false, ↓reduceIte, false_or, true_or, and_true, Nat.reduceAdd]
  simp only [e0, e1, e2, e3, e4, e5, e6, e7, e8, e9, e10]
  split <;> rfl

end Go.Proofs.Ytblimjilinkmbaa

/-! A frame that is turned is the one that would be built anew. No conditions but the ones that stand in each. -/
namespace Go.Proofs.Ytblimjilinkmbaa
set_option linter.all false
set_option linter.unusedSimpArgs false
open Go.RowKit

theorem be_02 : be 0 2 = [0, 0] := by decide
theorem checkN_ckS (l : List UInt8) (T : Int) (h : (sumL l : Int) = T) : (checkN l : Int) = ckS T := by
  subst h
  have := ofN_le l
  unfold checkN ckS ofN at *
  rw [Int.toNat_natCast]; omega
theorem head_fr (p : Pk) (n : Int) (hp : 0 ≤ p.proto ∧ p.proto < 256) (t : List UInt8) : headB p.proto p.frm p.dst p.ttl p.id n ++ t = fr (hdW p n (ckS (sumW (hdW p n 0)))) t := by
  unfold headB
  rw [checkN_ckS _ (sumW (hdW p n 0)), hd_fr p n _ hp]
  have := hd_fr p n 0 hp []
  rw [be_02, List.append_nil] at this
  rw [this, fr_sum]; simp [sumL]
def preW (p : Pk) (n : Int) : List Int := if p.proto = 1 then [] else [p.frm / 65536, p.frm % 65536, p.dst / 65536, p.dst % 65536, p.proto, n]
theorem pre_fr (p : Pk) (n : Int) (t : List UInt8) : preB p.proto p.frm p.dst n ++ t = fr (preW p n) t := by
  unfold preB preW
  split
  · rfl
  · simp only [List.append_assoc]
    rw [be_2 n, be_2 p.proto, be_4 p.dst, be_4 p.frm]
    simp only [fr_app]; rfl
def sumS (p : Pk) : Int := sumW (preW p (segN p)) + sumW (sgW p 0) + sumL p.body
theorem ckN_eq (p : Pk) (hp : p.proto = 1 ∨ p.proto = 6 ∨ p.proto = 17) (hf : 0 ≤ p.flags ∧ p.flags < 256) : (ckN p : Int) = if p.proto = 17 ∧ ckS (sumS p) = 0 then 65535 else ckS (sumS p) := by
  have e : (checkN (preB p.proto p.frm p.dst (segN p) ++ segA p ++ [0, 0] ++ segZ p) : Int) = ckS (sumS p) := by
    apply checkN_ckS
    have h := sg_fr p hp hf 0
    rw [be_02] at h
    rw [List.append_assoc, List.append_assoc, ← List.append_assoc (segA p), h, pre_fr, fr_sum, Int.add_comm, fr_sum]
    unfold sumS
    omega
  unfold ckN
  by_cases h : p.proto = 17 ∧ ckS (sumS p) = 0
  · rw [if_pos ⟨h.1, by omega⟩, if_pos h]; rfl
  · rw [if_neg (fun hh => h ⟨hh.1, by omega⟩), if_neg h, e]
theorem build_fr (p : Pk) (hp : p.proto = 1 ∨ p.proto = 6 ∨ p.proto = 17) (hf : 0 ≤ p.flags ∧ p.flags < 256) : buildB p = fr (hdW p (segN p) (ckS (sumW (hdW p (segN p) 0))) ++ sgW p (ckN p)) p.body := by
  unfold buildB segB
  rw [sg_fr p hp hf, head_fr p _ (by omega), fr_app]

theorem upd3 (T m1 n1 m2 n2 m3 n3 : Int) (hm1 : 0 ≤ m1 ∧ m1 ≤ 65535) (hn1 : 0 ≤ n1 ∧ n1 ≤ 65535) (hm2 : 0 ≤ m2 ∧ m2 ≤ 65535) (hn2 : 0 ≤ n2 ∧ n2 ≤ 65535) (hm3 : 0 ≤ m3 ∧ m3 ≤ 65535) (hn3 : 0 ≤ n3 ∧ n3 ≤ 65535) (h : 0 < T - m1 - m2 - m3) :
    updN (updN (updN (ckS T) m1 n1) m2 n2) m3 n3 = ckS (T - m1 + n1 - m2 + n2 - m3 + n3) := by
  rw [upd_ck T m1 n1 (by omega) hm1 hn1 (by omega), upd_ck _ m2 n2 (by omega) hm2 hn2 (by omega), upd_ck _ m3 n3 (by omega) hm3 hn3 (by omega)]
theorem upd3I (c T m1 n1 m2 n2 m3 n3 : Int) (hc : ckI c T) (hm1 : 0 ≤ m1 ∧ m1 ≤ 65535) (hn1 : 0 ≤ n1 ∧ n1 ≤ 65535) (hm2 : 0 ≤ m2 ∧ m2 ≤ 65535) (hn2 : 0 ≤ n2 ∧ n2 ≤ 65535) (hm3 : 0 ≤ m3 ∧ m3 ≤ 65535) (hn3 : 0 ≤ n3 ∧ n3 ≤ 65535) :
    ckI (updN (updN (updN c m1 n1) m2 n2) m3 n3) (T - m1 + n1 - m2 + n2 - m3 + n3) :=
  upd_ckI _ _ _ _ (upd_ckI _ _ _ _ (upd_ckI _ _ _ _ hc hm1 hn1) hm2 hn2) hm3 hn3
theorem ckS_eqT {S T : Int} (h : S = T) : ckS S = ckS T := by rw [h]
theorem ofN_fr0 (ws : List Int) (t : List UInt8) : ofN (fr ws t) = 0 ↔ sumW ws + sumL t = 0 := by
  have := fr_sum t ws
  unfold ofN backN
  split <;> omega
/-- The check of a ping that is turned. -/
theorem ping_ck (T m n r : Int) (hm : 0 ≤ m ∧ m ≤ 65535) (hn : 0 ≤ n ∧ n ≤ 65535) (hr : 0 ≤ r) (hT : T = m + r) (P : Prop) [Decidable P] (hP : P ↔ updN (ckS T) m n + n + r = 0) : (if updN (ckS T) m n % 65536 = 0 ∧ P then 65535 else updN (ckS T) m n) = ckS (n + r) := by
  have hb := updN_bd (ckS T) m n
  have hs := ckS_bd T
  have he := updN_eq (ckS T) m n hs hm hn
  by_cases h0 : n + r = 0
  · have hn0 : n = 0 := by omega
    have hr0 : r = 0 := by omega
    rw [h0, ckS_0]
    have e : updN (ckS T) m n = 0 := by
      rw [he]
      by_cases hT0 : T = 0
      · have hm0 : m = 0 := by omega
        have h9 : (131070 : Int) - ckS T - m + n = 65535 := by rw [hT0, ckS_0]; omega
        rw [h9]; decide
      · have h1 := ckS_lt T (by omega)
        have h2 := ckS_lt (131070 - ckS T - m + n) (by omega)
        have h3 := ckS_bd (131070 - ckS T - m + n)
        omega
    rw [if_pos ⟨by rw [e]; rfl, hP.2 (by rw [e]; omega)⟩]
  · rw [if_neg (fun hh => by have := hP.1 hh.2; omega), he]
    by_cases hT0 : T = 0
    · have hm0 : m = 0 := by omega
      have hr0 : r = 0 := by omega
      have h9 : ckS T = 65535 := by rw [hT0, ckS_0]
      exact ckS_congr _ _ (by omega) (by omega) (by omega)
    · have h1 := ckS_lt T (by omega)
      exact ckS_congr _ _ (by omega) (by omega) (by omega)

theorem turned_good (p : Pk) (h : pkErr p = 0) (side addr port : Int) (ht : turnE p side addr port = 0) : pkErr (turned p side addr port) = 0 := by
  obtain ⟨hp, hr, hl, hf⟩ := pkErr_ok h
  unfold turnE at ht
  split at ht
  · cases ht
  split at ht
  · cases ht
  split at ht
  · cases ht
  rename_i t1 t2 t3
  obtain ⟨r1, r2, r3, r4, r5, r6, r7, r8, r9, r10⟩ := hr
  rcases p with ⟨proto, frm, sport, dst, dport, ttl, id, flags, seq, ack, win, body⟩
  dsimp only at *
  unfold pkForm at hf
  dsimp only at hf
  have ha : 0 ≤ addr ∧ addr ≤ 4294967295 := by omega
  have hq : 0 ≤ port ∧ port ≤ 65535 := by omega
  unfold turned
  split
  · refine pkErr_of hp ⟨ha, r2, r3, r4, hq, r6, r7, r8, ⟨?_, ?_⟩, r10⟩ hl ?_
    · dsimp only; omega
    · dsimp only; omega
    · unfold pkForm; dsimp only; omega
  · refine pkErr_of hp ⟨r1, ha, r3, r4, r5, hq, r7, r8, ⟨?_, ?_⟩, r10⟩ hl ?_
    · dsimp only; omega
    · dsimp only; omega
    · unfold pkForm; dsimp only; omega
end Go.Proofs.Ytblimjilinkmbaa

/-! What is turned is what would be built anew. No conditions but the ones that stand in each. -/
namespace Go.Proofs.Ytblimjilinkmbaa
set_option linter.all false
set_option linter.unusedSimpArgs false
open Go.RowKit

theorem hd_turn0 (n id ttl pr f1 f2 d1 d2 a1 a2 : Int) (h1 : 0 ≤ n ∧ n ≤ 200) (h2 : 0 ≤ id ∧ id ≤ 65535) (h3 : 2 ≤ ttl ∧ ttl ≤ 255) (h4 : 0 ≤ pr ∧ pr ≤ 255) (h5 : 0 ≤ f1 ∧ f1 ≤ 65535) (h6 : 0 ≤ f2 ∧ f2 ≤ 65535) (h7 : 0 ≤ d1 ∧ d1 ≤ 65535) (h8 : 0 ≤ d2 ∧ d2 ≤ 65535) (h9 : 0 ≤ a1 ∧ a1 ≤ 65535) (h10 : 0 ≤ a2 ∧ a2 ≤ 65535) :
    updN (updN (updN (ckS (sumW [17664, 20 + n, id, 0, ttl * 256 + pr, 0, f1, f2, d1, d2])) f1 a1) f2 a2) (ttl * 256 + pr) ((ttl - 1) * 256 + pr) = ckS (sumW [17664, 20 + n, id, 0, (ttl - 1) * 256 + pr, 0, a1, a2, d1, d2]) := by
  rw [upd3 _ _ _ _ _ _ _ h5 h9 h6 h10 (by omega) (by omega) (by simp only [sumW]; omega)]
  apply ckS_eqT; simp only [sumW]; omega
theorem hd_turn1 (n id ttl pr f1 f2 d1 d2 a1 a2 : Int) (h1 : 0 ≤ n ∧ n ≤ 200) (h2 : 0 ≤ id ∧ id ≤ 65535) (h3 : 2 ≤ ttl ∧ ttl ≤ 255) (h4 : 0 ≤ pr ∧ pr ≤ 255) (h5 : 0 ≤ f1 ∧ f1 ≤ 65535) (h6 : 0 ≤ f2 ∧ f2 ≤ 65535) (h7 : 0 ≤ d1 ∧ d1 ≤ 65535) (h8 : 0 ≤ d2 ∧ d2 ≤ 65535) (h9 : 0 ≤ a1 ∧ a1 ≤ 65535) (h10 : 0 ≤ a2 ∧ a2 ≤ 65535) :
    updN (updN (updN (ckS (sumW [17664, 20 + n, id, 0, ttl * 256 + pr, 0, f1, f2, d1, d2])) d1 a1) d2 a2) (ttl * 256 + pr) ((ttl - 1) * 256 + pr) = ckS (sumW [17664, 20 + n, id, 0, (ttl - 1) * 256 + pr, 0, f1, f2, a1, a2]) := by
  rw [upd3 _ _ _ _ _ _ _ h7 h9 h8 h10 (by omega) (by omega) (by simp only [sumW]; omega)]
  apply ckS_eqT; simp only [sumW]; omega
theorem fin_ck {k : Int} {P : Prop} [Decidable P] (h : ¬ P) : (if P then 65535 else k) = k := if_neg h
/-- The check of a datagram that is turned. -/
theorem udp_ck (k T : Int) (h : ckI k T) (hT : 0 < T) : (if k % 65536 = 0 then 65535 else k) = if ckS T = 0 then 65535 else ckS T := by
  obtain ⟨h1, h2, h3⟩ := h
  have h4 := ckS_lt T hT
  have h5 := ckS_bd T
  split
  · rename_i hh
    split
    · rfl
    · omega
  · rename_i hh
    have : k ≠ 0 := fun e => hh (by omega)
    split <;> omega
theorem ckI_of (T : Int) (h : 0 < T) : ckI (if ckS T = 0 then 65535 else ckS T) T := by
  have h4 := ckS_lt T h
  have h5 := ckS_bd T
  unfold ckI; split <;> omega

theorem turn_ping0 (frm sport dst dport ttl id flags seq ack win addr port : Int) (body : List UInt8) (r1 : 0 ≤ frm ∧ frm ≤ 4294967295) (r2 : 0 ≤ dst ∧ dst ≤ 4294967295) (r3 : 0 ≤ seq ∧ seq ≤ 4294967295) (r4 : 0 ≤ ack ∧ ack ≤ 4294967295) (r5 : 0 ≤ sport ∧ sport ≤ 65535) (r6 : 0 ≤ dport ∧ dport ≤ 65535) (r7 : 0 ≤ id ∧ id ≤ 65535) (r8 : 0 ≤ win ∧ win ≤ 65535) (r9 : 2 ≤ ttl ∧ ttl ≤ 255) (r10 : 0 ≤ flags ∧ flags ≤ 63) (hl : body.length ≤ 64) (ha : 0 ≤ addr ∧ addr ≤ 4294967295) (hq : 0 ≤ port ∧ port ≤ 65535) (r11 : seq ≤ 65535) : turnB (buildB (⟨1, frm, sport, dst, 0, ttl, id, flags, seq, ack, win, body⟩ : Pk)) 1 ttl 12 24 addr port = buildB (⟨1, addr, port, dst, 0, ttl - 1, id, flags, seq, ack, win, body⟩ : Pk) := by
  have hN := segN_val (⟨1, frm, sport, dst, 0, ttl, id, flags, seq, ack, win, body⟩ : Pk) (by simp)
  have hM := segN_val (⟨1, addr, port, dst, 0, ttl - 1, id, flags, seq, ack, win, body⟩ : Pk) (by simp)
  have hMN : segN (⟨1, addr, port, dst, 0, ttl - 1, id, flags, seq, ack, win, body⟩ : Pk) = segN (⟨1, frm, sport, dst, 0, ttl, id, flags, seq, ack, win, body⟩ : Pk) := by rw [hM, hN]
  have hN2 : segN (⟨1, frm, sport, dst, 0, ttl, id, flags, seq, ack, win, body⟩ : Pk) ≤ 84 := by rw [hN]; simp; omega
  have hkp := ckN_eq (⟨1, frm, sport, dst, 0, ttl, id, flags, seq, ack, win, body⟩ : Pk) (by simp) (by dsimp only; omega)
  have hkq := ckN_eq (⟨1, addr, port, dst, 0, ttl - 1, id, flags, seq, ack, win, body⟩ : Pk) (by simp) (by dsimp only; omega)
  rw [build_fr (⟨1, frm, sport, dst, 0, ttl, id, flags, seq, ack, win, body⟩ : Pk) (by simp) (by dsimp only; omega), build_fr (⟨1, addr, port, dst, 0, ttl - 1, id, flags, seq, ack, win, body⟩ : Pk) (by simp) (by dsimp only; omega), hkp, hkq, hMN]
  unfold sumS preW
  rw [hMN]
  clear hkp hkq hM hN hMN
  generalize segN (⟨1, frm, sport, dst, 0, ttl, id, flags, seq, ack, win, body⟩ : Pk) = n at *
  unfold hdW sgW
  dsimp only
  simp only [reduceCtorEq, Int.reduceEq, if_true, if_false, ↓reduceIte, false_and, true_and, List.cons_append, List.nil_append]
  rw [turnB_ping0]
  refine congrArg (fun l => fr l body) ?_
  rw [hd_turn0 _ _ _ _ _ _ _ _ _ _ (by omega) (by omega) (by omega) (by omega) (by omega) (by omega) (by omega) (by omega) (by omega) (by omega)]
  have hS := Int.natCast_nonneg (sumL body)
  have hck := ping_ck (sumW [] + sumW [flags * 256, 0, sport + 0, seq] + sumL body) (sport + 0) port (flags * 256 + seq + sumL body) (by omega) (by omega) (by omega) (by simp only [sumW]; omega) (ofN (fr [flags * 256, updN (ckS (sumW [] + sumW [flags * 256, 0, sport + 0, seq] + sumL body)) (sport + 0) port, port, seq] body) = 0) (by
    have hb := updN_bd (ckS (sumW [] + sumW [flags * 256, 0, sport + 0, seq] + sumL body)) (sport + 0) port
    rw [ofN_fr0]; generalize updN (ckS (sumW [] + sumW [flags * 256, 0, sport + 0, seq] + sumL body)) (sport + 0) port = u at *; simp only [sumW]; omega)
  rw [hck]
  have e2 : ckS (port + (flags * 256 + seq + sumL body)) = ckS (sumW [] + sumW [flags * 256, 0, port + 0, seq] + sumL body) := by apply ckS_eqT; simp only [sumW]; omega
  rw [e2]
  simp

theorem turn_ping1 (frm sport dst dport ttl id flags seq ack win addr port : Int) (body : List UInt8) (r1 : 0 ≤ frm ∧ frm ≤ 4294967295) (r2 : 0 ≤ dst ∧ dst ≤ 4294967295) (r3 : 0 ≤ seq ∧ seq ≤ 4294967295) (r4 : 0 ≤ ack ∧ ack ≤ 4294967295) (r5 : 0 ≤ sport ∧ sport ≤ 65535) (r6 : 0 ≤ dport ∧ dport ≤ 65535) (r7 : 0 ≤ id ∧ id ≤ 65535) (r8 : 0 ≤ win ∧ win ≤ 65535) (r9 : 2 ≤ ttl ∧ ttl ≤ 255) (r10 : 0 ≤ flags ∧ flags ≤ 63) (hl : body.length ≤ 64) (ha : 0 ≤ addr ∧ addr ≤ 4294967295) (hq : 0 ≤ port ∧ port ≤ 65535) (r11 : seq ≤ 65535) : turnB (buildB (⟨1, frm, 0, dst, dport, ttl, id, flags, seq, ack, win, body⟩ : Pk)) 1 ttl 16 24 addr port = buildB (⟨1, frm, 0, addr, port, ttl - 1, id, flags, seq, ack, win, body⟩ : Pk) := by
  have hN := segN_val (⟨1, frm, 0, dst, dport, ttl, id, flags, seq, ack, win, body⟩ : Pk) (by simp)
  have hM := segN_val (⟨1, frm, 0, addr, port, ttl - 1, id, flags, seq, ack, win, body⟩ : Pk) (by simp)
  have hMN : segN (⟨1, frm, 0, addr, port, ttl - 1, id, flags, seq, ack, win, body⟩ : Pk) = segN (⟨1, frm, 0, dst, dport, ttl, id, flags, seq, ack, win, body⟩ : Pk) := by rw [hM, hN]
  have hN2 : segN (⟨1, frm, 0, dst, dport, ttl, id, flags, seq, ack, win, body⟩ : Pk) ≤ 84 := by rw [hN]; simp; omega
  have hkp := ckN_eq (⟨1, frm, 0, dst, dport, ttl, id, flags, seq, ack, win, body⟩ : Pk) (by simp) (by dsimp only; omega)
  have hkq := ckN_eq (⟨1, frm, 0, addr, port, ttl - 1, id, flags, seq, ack, win, body⟩ : Pk) (by simp) (by dsimp only; omega)
  rw [build_fr (⟨1, frm, 0, dst, dport, ttl, id, flags, seq, ack, win, body⟩ : Pk) (by simp) (by dsimp only; omega), build_fr (⟨1, frm, 0, addr, port, ttl - 1, id, flags, seq, ack, win, body⟩ : Pk) (by simp) (by dsimp only; omega), hkp, hkq, hMN]
  unfold sumS preW
  rw [hMN]
  clear hkp hkq hM hN hMN
  generalize segN (⟨1, frm, 0, dst, dport, ttl, id, flags, seq, ack, win, body⟩ : Pk) = n at *
  unfold hdW sgW
  dsimp only
  simp only [reduceCtorEq, Int.reduceEq, if_true, if_false, ↓reduceIte, false_and, true_and, List.cons_append, List.nil_append]
  rw [turnB_ping1]
  refine congrArg (fun l => fr l body) ?_
  rw [hd_turn1 _ _ _ _ _ _ _ _ _ _ (by omega) (by omega) (by omega) (by omega) (by omega) (by omega) (by omega) (by omega) (by omega) (by omega)]
  have hS := Int.natCast_nonneg (sumL body)
  have hck := ping_ck (sumW [] + sumW [flags * 256, 0, 0 + dport, seq] + sumL body) (0 + dport) port (flags * 256 + seq + sumL body) (by omega) (by omega) (by omega) (by simp only [sumW]; omega) (ofN (fr [flags * 256, updN (ckS (sumW [] + sumW [flags * 256, 0, 0 + dport, seq] + sumL body)) (0 + dport) port, port, seq] body) = 0) (by
    have hb := updN_bd (ckS (sumW [] + sumW [flags * 256, 0, 0 + dport, seq] + sumL body)) (0 + dport) port
    rw [ofN_fr0]; generalize updN (ckS (sumW [] + sumW [flags * 256, 0, 0 + dport, seq] + sumL body)) (0 + dport) port = u at *; simp only [sumW]; omega)
  rw [hck]
  have e2 : ckS (port + (flags * 256 + seq + sumL body)) = ckS (sumW [] + sumW [flags * 256, 0, 0 + port, seq] + sumL body) := by apply ckS_eqT; simp only [sumW]; omega
  rw [e2]
  simp

theorem turn_udp0 (frm sport dst dport ttl id flags seq ack win addr port : Int) (body : List UInt8) (r1 : 0 ≤ frm ∧ frm ≤ 4294967295) (r2 : 0 ≤ dst ∧ dst ≤ 4294967295) (r3 : 0 ≤ seq ∧ seq ≤ 4294967295) (r4 : 0 ≤ ack ∧ ack ≤ 4294967295) (r5 : 0 ≤ sport ∧ sport ≤ 65535) (r6 : 0 ≤ dport ∧ dport ≤ 65535) (r7 : 0 ≤ id ∧ id ≤ 65535) (r8 : 0 ≤ win ∧ win ≤ 65535) (r9 : 2 ≤ ttl ∧ ttl ≤ 255) (r10 : 0 ≤ flags ∧ flags ≤ 63) (hl : body.length ≤ 64) (ha : 0 ≤ addr ∧ addr ≤ 4294967295) (hq : 0 ≤ port ∧ port ≤ 65535) : turnB (buildB (⟨17, frm, sport, dst, dport, ttl, id, flags, seq, ack, win, body⟩ : Pk)) 17 ttl 12 20 addr port = buildB (⟨17, addr, port, dst, dport, ttl - 1, id, flags, seq, ack, win, body⟩ : Pk) := by
  have hN := segN_val (⟨17, frm, sport, dst, dport, ttl, id, flags, seq, ack, win, body⟩ : Pk) (by simp)
  have hM := segN_val (⟨17, addr, port, dst, dport, ttl - 1, id, flags, seq, ack, win, body⟩ : Pk) (by simp)
  have hMN : segN (⟨17, addr, port, dst, dport, ttl - 1, id, flags, seq, ack, win, body⟩ : Pk) = segN (⟨17, frm, sport, dst, dport, ttl, id, flags, seq, ack, win, body⟩ : Pk) := by rw [hM, hN]
  have hN2 : segN (⟨17, frm, sport, dst, dport, ttl, id, flags, seq, ack, win, body⟩ : Pk) ≤ 84 := by rw [hN]; simp; omega
  have hkp := ckN_eq (⟨17, frm, sport, dst, dport, ttl, id, flags, seq, ack, win, body⟩ : Pk) (by simp) (by dsimp only; omega)
  have hkq := ckN_eq (⟨17, addr, port, dst, dport, ttl - 1, id, flags, seq, ack, win, body⟩ : Pk) (by simp) (by dsimp only; omega)
  rw [build_fr (⟨17, frm, sport, dst, dport, ttl, id, flags, seq, ack, win, body⟩ : Pk) (by simp) (by dsimp only; omega), build_fr (⟨17, addr, port, dst, dport, ttl - 1, id, flags, seq, ack, win, body⟩ : Pk) (by simp) (by dsimp only; omega), hkp, hkq, hMN]
  unfold sumS preW
  rw [hMN]
  clear hkp hkq hM hN hMN
  generalize segN (⟨17, frm, sport, dst, dport, ttl, id, flags, seq, ack, win, body⟩ : Pk) = n at *
  unfold hdW sgW
  dsimp only
  simp only [reduceCtorEq, Int.reduceEq, if_true, if_false, ↓reduceIte, false_and, true_and, List.cons_append, List.nil_append]
  rw [turnB_udp0]
  refine congrArg (fun l => fr l body) ?_
  rw [hd_turn0 _ _ _ _ _ _ _ _ _ _ (by omega) (by omega) (by omega) (by omega) (by omega) (by omega) (by omega) (by omega) (by omega) (by omega)]
  have e1 : frm / 65536 % 65536 = frm / 65536 := by omega
  have e2 : frm % 65536 % 65536 = frm % 65536 := by omega
  rw [e1, e2]
  have hS := Int.natCast_nonneg (sumL body)
  have hk0 := ckI_of (sumW [frm / 65536, frm % 65536, dst / 65536, dst % 65536, 17, ↑n] + sumW [sport, dport, 8 + ↑body.length, 0] + sumL body) (by simp only [sumW]; omega)
  have hk := upd3I _ _ (frm / 65536) (addr / 65536) (frm % 65536) (addr % 65536) sport port hk0 (by omega) (by omega) (by omega) (by omega) (by omega) (by omega)
  have hT : sumW [frm / 65536, frm % 65536, dst / 65536, dst % 65536, 17, ↑n] + sumW [sport, dport, 8 + ↑body.length, 0] + sumL body - (frm / 65536) + addr / 65536 - (frm % 65536) + addr % 65536 - sport + port = sumW [addr / 65536, addr % 65536, dst / 65536, dst % 65536, 17, ↑n] + sumW [port, dport, 8 + ↑body.length, 0] + sumL body := by simp only [sumW]; omega
  rw [hT] at hk
  have hck := udp_ck _ _ hk (by simp only [sumW]; omega)
  rw [hck]

theorem turn_udp1 (frm sport dst dport ttl id flags seq ack win addr port : Int) (body : List UInt8) (r1 : 0 ≤ frm ∧ frm ≤ 4294967295) (r2 : 0 ≤ dst ∧ dst ≤ 4294967295) (r3 : 0 ≤ seq ∧ seq ≤ 4294967295) (r4 : 0 ≤ ack ∧ ack ≤ 4294967295) (r5 : 0 ≤ sport ∧ sport ≤ 65535) (r6 : 0 ≤ dport ∧ dport ≤ 65535) (r7 : 0 ≤ id ∧ id ≤ 65535) (r8 : 0 ≤ win ∧ win ≤ 65535) (r9 : 2 ≤ ttl ∧ ttl ≤ 255) (r10 : 0 ≤ flags ∧ flags ≤ 63) (hl : body.length ≤ 64) (ha : 0 ≤ addr ∧ addr ≤ 4294967295) (hq : 0 ≤ port ∧ port ≤ 65535) : turnB (buildB (⟨17, frm, sport, dst, dport, ttl, id, flags, seq, ack, win, body⟩ : Pk)) 17 ttl 16 22 addr port = buildB (⟨17, frm, sport, addr, port, ttl - 1, id, flags, seq, ack, win, body⟩ : Pk) := by
  have hN := segN_val (⟨17, frm, sport, dst, dport, ttl, id, flags, seq, ack, win, body⟩ : Pk) (by simp)
  have hM := segN_val (⟨17, frm, sport, addr, port, ttl - 1, id, flags, seq, ack, win, body⟩ : Pk) (by simp)
  have hMN : segN (⟨17, frm, sport, addr, port, ttl - 1, id, flags, seq, ack, win, body⟩ : Pk) = segN (⟨17, frm, sport, dst, dport, ttl, id, flags, seq, ack, win, body⟩ : Pk) := by rw [hM, hN]
  have hN2 : segN (⟨17, frm, sport, dst, dport, ttl, id, flags, seq, ack, win, body⟩ : Pk) ≤ 84 := by rw [hN]; simp; omega
  have hkp := ckN_eq (⟨17, frm, sport, dst, dport, ttl, id, flags, seq, ack, win, body⟩ : Pk) (by simp) (by dsimp only; omega)
  have hkq := ckN_eq (⟨17, frm, sport, addr, port, ttl - 1, id, flags, seq, ack, win, body⟩ : Pk) (by simp) (by dsimp only; omega)
  rw [build_fr (⟨17, frm, sport, dst, dport, ttl, id, flags, seq, ack, win, body⟩ : Pk) (by simp) (by dsimp only; omega), build_fr (⟨17, frm, sport, addr, port, ttl - 1, id, flags, seq, ack, win, body⟩ : Pk) (by simp) (by dsimp only; omega), hkp, hkq, hMN]
  unfold sumS preW
  rw [hMN]
  clear hkp hkq hM hN hMN
  generalize segN (⟨17, frm, sport, dst, dport, ttl, id, flags, seq, ack, win, body⟩ : Pk) = n at *
  unfold hdW sgW
  dsimp only
  simp only [reduceCtorEq, Int.reduceEq, if_true, if_false, ↓reduceIte, false_and, true_and, List.cons_append, List.nil_append]
  rw [turnB_udp1]
  refine congrArg (fun l => fr l body) ?_
  rw [hd_turn1 _ _ _ _ _ _ _ _ _ _ (by omega) (by omega) (by omega) (by omega) (by omega) (by omega) (by omega) (by omega) (by omega) (by omega)]
  have e1 : dst / 65536 % 65536 = dst / 65536 := by omega
  have e2 : dst % 65536 % 65536 = dst % 65536 := by omega
  rw [e1, e2]
  have hS := Int.natCast_nonneg (sumL body)
  have hk0 := ckI_of (sumW [frm / 65536, frm % 65536, dst / 65536, dst % 65536, 17, ↑n] + sumW [sport, dport, 8 + ↑body.length, 0] + sumL body) (by simp only [sumW]; omega)
  have hk := upd3I _ _ (dst / 65536) (addr / 65536) (dst % 65536) (addr % 65536) dport port hk0 (by omega) (by omega) (by omega) (by omega) (by omega) (by omega)
  have hT : sumW [frm / 65536, frm % 65536, dst / 65536, dst % 65536, 17, ↑n] + sumW [sport, dport, 8 + ↑body.length, 0] + sumL body - (dst / 65536) + addr / 65536 - (dst % 65536) + addr % 65536 - dport + port = sumW [frm / 65536, frm % 65536, addr / 65536, addr % 65536, 17, ↑n] + sumW [sport, port, 8 + ↑body.length, 0] + sumL body := by simp only [sumW]; omega
  rw [hT] at hk
  have hck := udp_ck _ _ hk (by simp only [sumW]; omega)
  rw [hck]

theorem turn_tcp0 (frm sport dst dport ttl id flags seq ack win addr port : Int) (body : List UInt8) (r1 : 0 ≤ frm ∧ frm ≤ 4294967295) (r2 : 0 ≤ dst ∧ dst ≤ 4294967295) (r3 : 0 ≤ seq ∧ seq ≤ 4294967295) (r4 : 0 ≤ ack ∧ ack ≤ 4294967295) (r5 : 0 ≤ sport ∧ sport ≤ 65535) (r6 : 0 ≤ dport ∧ dport ≤ 65535) (r7 : 0 ≤ id ∧ id ≤ 65535) (r8 : 0 ≤ win ∧ win ≤ 65535) (r9 : 2 ≤ ttl ∧ ttl ≤ 255) (r10 : 0 ≤ flags ∧ flags ≤ 63) (hl : body.length ≤ 64) (ha : 0 ≤ addr ∧ addr ≤ 4294967295) (hq : 0 ≤ port ∧ port ≤ 65535) : turnB (buildB (⟨6, frm, sport, dst, dport, ttl, id, flags, seq, ack, win, body⟩ : Pk)) 6 ttl 12 20 addr port = buildB (⟨6, addr, port, dst, dport, ttl - 1, id, flags, seq, ack, win, body⟩ : Pk) := by
  have hN := segN_val (⟨6, frm, sport, dst, dport, ttl, id, flags, seq, ack, win, body⟩ : Pk) (by simp)
  have hM := segN_val (⟨6, addr, port, dst, dport, ttl - 1, id, flags, seq, ack, win, body⟩ : Pk) (by simp)
  have hMN : segN (⟨6, addr, port, dst, dport, ttl - 1, id, flags, seq, ack, win, body⟩ : Pk) = segN (⟨6, frm, sport, dst, dport, ttl, id, flags, seq, ack, win, body⟩ : Pk) := by rw [hM, hN]
  have hN2 : segN (⟨6, frm, sport, dst, dport, ttl, id, flags, seq, ack, win, body⟩ : Pk) ≤ 84 := by rw [hN]; simp; omega
  have hkp := ckN_eq (⟨6, frm, sport, dst, dport, ttl, id, flags, seq, ack, win, body⟩ : Pk) (by simp) (by dsimp only; omega)
  have hkq := ckN_eq (⟨6, addr, port, dst, dport, ttl - 1, id, flags, seq, ack, win, body⟩ : Pk) (by simp) (by dsimp only; omega)
  rw [build_fr (⟨6, frm, sport, dst, dport, ttl, id, flags, seq, ack, win, body⟩ : Pk) (by simp) (by dsimp only; omega), build_fr (⟨6, addr, port, dst, dport, ttl - 1, id, flags, seq, ack, win, body⟩ : Pk) (by simp) (by dsimp only; omega), hkp, hkq, hMN]
  unfold sumS preW
  rw [hMN]
  clear hkp hkq hM hN hMN
  generalize segN (⟨6, frm, sport, dst, dport, ttl, id, flags, seq, ack, win, body⟩ : Pk) = n at *
  unfold hdW sgW
  dsimp only
  simp only [reduceCtorEq, Int.reduceEq, if_true, if_false, ↓reduceIte, false_and, true_and, List.cons_append, List.nil_append]
  rw [turnB_tcp0]
  refine congrArg (fun l => fr l body) ?_
  rw [hd_turn0 _ _ _ _ _ _ _ _ _ _ (by omega) (by omega) (by omega) (by omega) (by omega) (by omega) (by omega) (by omega) (by omega) (by omega)]
  have e1 : frm / 65536 % 65536 = frm / 65536 := by omega
  have e2 : frm % 65536 % 65536 = frm % 65536 := by omega
  rw [e1, e2]
  have hS := Int.natCast_nonneg (sumL body)
  have hck : updN (updN (updN (ckS (sumW [frm / 65536, frm % 65536, dst / 65536, dst % 65536, 6, ↑n] + sumW [sport, dport, seq / 65536, seq % 65536, ack / 65536, ack % 65536, 80 * 256 + flags, win, 0, 0] + sumL body)) (frm / 65536) (addr / 65536)) (frm % 65536) (addr % 65536)) sport port = ckS (sumW [addr / 65536, addr % 65536, dst / 65536, dst % 65536, 6, ↑n] + sumW [port, dport, seq / 65536, seq % 65536, ack / 65536, ack % 65536, 80 * 256 + flags, win, 0, 0] + sumL body) := by
    rw [upd3 _ _ _ _ _ _ _ (by omega) (by omega) (by omega) (by omega) (by omega) (by omega) (by simp only [sumW]; omega)]
    apply ckS_eqT; simp only [sumW]; omega
  rw [hck]
  rw [fin_ck]
  rintro ⟨_, hh⟩
  rw [ofN_fr0] at hh
  have := ckS_bd (sumW [addr / 65536, addr % 65536, dst / 65536, dst % 65536, 6, ↑n] + sumW [port, dport, seq / 65536, seq % 65536, ack / 65536, ack % 65536, 80 * 256 + flags, win, 0, 0] + sumL body)
  generalize ckS (sumW [addr / 65536, addr % 65536, dst / 65536, dst % 65536, 6, ↑n] + sumW [port, dport, seq / 65536, seq % 65536, ack / 65536, ack % 65536, 80 * 256 + flags, win, 0, 0] + sumL body) = u at *; simp only [sumW] at hh; omega

theorem turn_tcp1 (frm sport dst dport ttl id flags seq ack win addr port : Int) (body : List UInt8) (r1 : 0 ≤ frm ∧ frm ≤ 4294967295) (r2 : 0 ≤ dst ∧ dst ≤ 4294967295) (r3 : 0 ≤ seq ∧ seq ≤ 4294967295) (r4 : 0 ≤ ack ∧ ack ≤ 4294967295) (r5 : 0 ≤ sport ∧ sport ≤ 65535) (r6 : 0 ≤ dport ∧ dport ≤ 65535) (r7 : 0 ≤ id ∧ id ≤ 65535) (r8 : 0 ≤ win ∧ win ≤ 65535) (r9 : 2 ≤ ttl ∧ ttl ≤ 255) (r10 : 0 ≤ flags ∧ flags ≤ 63) (hl : body.length ≤ 64) (ha : 0 ≤ addr ∧ addr ≤ 4294967295) (hq : 0 ≤ port ∧ port ≤ 65535) : turnB (buildB (⟨6, frm, sport, dst, dport, ttl, id, flags, seq, ack, win, body⟩ : Pk)) 6 ttl 16 22 addr port = buildB (⟨6, frm, sport, addr, port, ttl - 1, id, flags, seq, ack, win, body⟩ : Pk) := by
  have hN := segN_val (⟨6, frm, sport, dst, dport, ttl, id, flags, seq, ack, win, body⟩ : Pk) (by simp)
  have hM := segN_val (⟨6, frm, sport, addr, port, ttl - 1, id, flags, seq, ack, win, body⟩ : Pk) (by simp)
  have hMN : segN (⟨6, frm, sport, addr, port, ttl - 1, id, flags, seq, ack, win, body⟩ : Pk) = segN (⟨6, frm, sport, dst, dport, ttl, id, flags, seq, ack, win, body⟩ : Pk) := by rw [hM, hN]
  have hN2 : segN (⟨6, frm, sport, dst, dport, ttl, id, flags, seq, ack, win, body⟩ : Pk) ≤ 84 := by rw [hN]; simp; omega
  have hkp := ckN_eq (⟨6, frm, sport, dst, dport, ttl, id, flags, seq, ack, win, body⟩ : Pk) (by simp) (by dsimp only; omega)
  have hkq := ckN_eq (⟨6, frm, sport, addr, port, ttl - 1, id, flags, seq, ack, win, body⟩ : Pk) (by simp) (by dsimp only; omega)
  rw [build_fr (⟨6, frm, sport, dst, dport, ttl, id, flags, seq, ack, win, body⟩ : Pk) (by simp) (by dsimp only; omega), build_fr (⟨6, frm, sport, addr, port, ttl - 1, id, flags, seq, ack, win, body⟩ : Pk) (by simp) (by dsimp only; omega), hkp, hkq, hMN]
  unfold sumS preW
  rw [hMN]
  clear hkp hkq hM hN hMN
  generalize segN (⟨6, frm, sport, dst, dport, ttl, id, flags, seq, ack, win, body⟩ : Pk) = n at *
  unfold hdW sgW
  dsimp only
  simp only [reduceCtorEq, Int.reduceEq, if_true, if_false, ↓reduceIte, false_and, true_and, List.cons_append, List.nil_append]
  rw [turnB_tcp1]
  refine congrArg (fun l => fr l body) ?_
  rw [hd_turn1 _ _ _ _ _ _ _ _ _ _ (by omega) (by omega) (by omega) (by omega) (by omega) (by omega) (by omega) (by omega) (by omega) (by omega)]
  have e1 : dst / 65536 % 65536 = dst / 65536 := by omega
  have e2 : dst % 65536 % 65536 = dst % 65536 := by omega
  rw [e1, e2]
  have hS := Int.natCast_nonneg (sumL body)
  have hck : updN (updN (updN (ckS (sumW [frm / 65536, frm % 65536, dst / 65536, dst % 65536, 6, ↑n] + sumW [sport, dport, seq / 65536, seq % 65536, ack / 65536, ack % 65536, 80 * 256 + flags, win, 0, 0] + sumL body)) (dst / 65536) (addr / 65536)) (dst % 65536) (addr % 65536)) dport port = ckS (sumW [frm / 65536, frm % 65536, addr / 65536, addr % 65536, 6, ↑n] + sumW [sport, port, seq / 65536, seq % 65536, ack / 65536, ack % 65536, 80 * 256 + flags, win, 0, 0] + sumL body) := by
    rw [upd3 _ _ _ _ _ _ _ (by omega) (by omega) (by omega) (by omega) (by omega) (by omega) (by simp only [sumW]; omega)]
    apply ckS_eqT; simp only [sumW]; omega
  rw [hck]
  rw [fin_ck]
  rintro ⟨_, hh⟩
  rw [ofN_fr0] at hh
  have := ckS_bd (sumW [frm / 65536, frm % 65536, addr / 65536, addr % 65536, 6, ↑n] + sumW [sport, port, seq / 65536, seq % 65536, ack / 65536, ack % 65536, 80 * 256 + flags, win, 0, 0] + sumL body)
  generalize ckS (sumW [frm / 65536, frm % 65536, addr / 65536, addr % 65536, 6, ↑n] + sumW [sport, port, seq / 65536, seq % 65536, ack / 65536, ack % 65536, 80 * 256 + flags, win, 0, 0] + sumL body) = u at *; simp only [sumW] at hh; omega

/-- What is turned is what would be built anew. -/
theorem turn_build (p : Pk) (h : pkErr p = 0) (side addr port : Int) (ht : turnE p side addr port = 0) : turnB (buildB p) p.proto p.ttl (atOf side) (whOf p.proto side) addr port = buildB (turned p side addr port) := by
  obtain ⟨hp, hr, hl, hf⟩ := pkErr_ok h
  unfold turnE at ht
  split at ht
  · cases ht
  split at ht
  · cases ht
  split at ht
  · cases ht
  rename_i t1 t2 t3
  obtain ⟨r1, r2, r3, r4, r5, r6, r7, r8, r9, r10⟩ := hr
  rcases p with ⟨proto, frm, sport, dst, dport, ttl, id, flags, seq, ack, win, body⟩
  dsimp only at *
  unfold pkForm at hf
  dsimp only at hf
  have ha : 0 ≤ addr ∧ addr ≤ 4294967295 := by omega
  have hq : 0 ≤ port ∧ port ≤ 65535 := by omega
  unfold turned atOf whOf
  by_cases hs : side = 0
  · rw [if_pos hs, if_pos hs, if_pos hs]
    rcases hp with rfl | rfl | rfl
    · have hd : dport = 0 := by omega
      subst hd
      exact turn_ping0 frm sport dst 0 ttl id flags seq ack win addr port body r1 r2 r3 r4 r5 r6 r7 r8 (by omega) r10 hl ha hq (by omega)
    · exact turn_tcp0 frm sport dst dport ttl id flags seq ack win addr port body r1 r2 r3 r4 r5 r6 r7 r8 (by omega) r10 hl ha hq
    · exact turn_udp0 frm sport dst dport ttl id flags seq ack win addr port body r1 r2 r3 r4 r5 r6 r7 r8 (by omega) r10 hl ha hq
  · rw [if_neg hs, if_neg hs, if_neg hs]
    rcases hp with rfl | rfl | rfl
    · have hd : sport = 0 := by omega
      subst hd
      exact turn_ping1 frm 0 dst dport ttl id flags seq ack win addr port body r1 r2 r3 r4 r5 r6 r7 r8 (by omega) r10 hl ha hq (by omega)
    · exact turn_tcp1 frm sport dst dport ttl id flags seq ack win addr port body r1 r2 r3 r4 r5 r6 r7 r8 (by omega) r10 hl ha hq
    · exact turn_udp1 frm sport dst dport ttl id flags seq ack win addr port body r1 r2 r3 r4 r5 r6 r7 r8 (by omega) r10 hl ha hq
end Go.Proofs.Ytblimjilinkmbaa
