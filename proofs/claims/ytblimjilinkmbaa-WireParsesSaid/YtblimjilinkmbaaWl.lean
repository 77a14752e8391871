/- What holds of packets and their frames. No conditions but the ones that stand in each. -/
import Derived.Test.YtblimjilinkmbaaWs
namespace Go.Proofs.Ytblimjilinkmbaa
set_option linter.all false
set_option linter.unusedSimpArgs false
open Go.RowKit

theorem pkErr_ok {p : Pk} (h : pkErr p = 0) : (p.proto = 1 ∨ p.proto = 6 ∨ p.proto = 17) ∧ pkRange p ∧ p.body.length ≤ 64 ∧ ¬ pkForm p := by
  unfold pkErr at h
  split at h
  · cases h
  · split at h
    · cases h
    · split at h
      · cases h
      · split at h
        · cases h
        · rename_i h1 h2 h3 h4
          exact ⟨Decidable.not_not.1 h1, Decidable.not_not.1 h2, by omega, h4⟩
theorem pkErr_of {p : Pk} (h1 : p.proto = 1 ∨ p.proto = 6 ∨ p.proto = 17) (h2 : pkRange p) (h3 : p.body.length ≤ 64) (h4 : ¬ pkForm p) : pkErr p = 0 := by
  unfold pkErr
  rw [if_neg (fun h => h h1), if_neg (fun h => h h2), if_neg (by omega), if_neg h4]

theorem byte_val (v : Int) (k : Nat) (hk : k ≤ 8) (h0 : 0 ≤ v) : ((byteI v k).toNat : Int) = v / 256 ^ k % 256 := by
  obtain ⟨n, rfl⟩ := Int.eq_ofNat_of_zero_le h0
  rw [byte_nat n k hk]
  simp
theorem byte0 (v : Int) (h0 : 0 ≤ v) (h1 : v < 256) : ((byteI v 0).toNat : Int) = v := by
  rw [byte_val v 0 (by omega) h0]; omega
theorem nb2 (v : Int) (h0 : 0 ≤ v) (h1 : v ≤ 65535) : nbI [byteI v 1, byteI v 0] = v := nbI_be v 2 (by decide) h0 (by omega) (by omega)
theorem nb4 (v : Int) (h0 : 0 ≤ v) (h1 : v ≤ 4294967295) : nbI [byteI v 3, byteI v 2, byteI v 1, byteI v 0] = v := nbI_be v 4 (by decide) h0 (by omega) (by omega)
theorem sumL2 (v : Int) (h0 : 0 ≤ v) (h1 : v ≤ 65535) (l : List UInt8) : sumL (byteI v 1 :: byteI v 0 :: l) = v.toNat + sumL l := by
  have e1 := byte_val v 1 (by omega) h0
  have e0 := byte_val v 0 (by omega) h0
  simp only [sumL]
  omega
theorem sumL_mid (X Z : List UInt8) (v : Int) (hX : X.length % 2 = 0) (h0 : 0 ≤ v) (h1 : v ≤ 65535) : sumL (X ++ be v 2 ++ Z) = sumL X + v.toNat + sumL Z := by
  rw [List.append_assoc, sumL_append _ _ hX]
  show sumL X + sumL (byteI v 1 :: byteI v 0 :: Z) = _
  rw [sumL2 v h0 h1]; omega
theorem sumL_00 (X Z : List UInt8) (hX : X.length % 2 = 0) : sumL (X ++ [0, 0] ++ Z) = sumL X + sumL Z := by
  rw [List.append_assoc, sumL_append _ _ hX]
  simp [sumL]
theorem back_chk (T : Nat) : backN (T + (65535 - backN T)) = 65535 := by
  unfold backN; split <;> split <;> omega
theorem chk_ok (X Z : List UInt8) (hX : X.length % 2 = 0) : ofN (X ++ be (checkN (X ++ [0, 0] ++ Z)) 2 ++ Z) = 65535 := by
  have hl := checkN_le (X ++ [0, 0] ++ Z)
  unfold ofN
  rw [sumL_mid X Z _ hX (by omega) (by omega)]
  unfold checkN ofN
  rw [sumL_00 X Z hX, Int.toNat_natCast]
  have := back_chk (sumL X + sumL Z)
  rw [show sumL X + (65535 - backN (sumL X + sumL Z)) + sumL Z = sumL X + sumL Z + (65535 - backN (sumL X + sumL Z)) by omega]
  exact this

theorem hdA_len (proto ttl id n : Int) : (hdA proto ttl id n).length = 10 := by simp [hdA, be_len]
theorem hdZ_len (frm dst : Int) : (hdZ frm dst).length = 8 := by simp [hdZ, be_len]
theorem headB_len (proto frm dst ttl id n : Int) : (headB proto frm dst ttl id n).length = 20 := by simp [headB, hdA_len, hdZ_len, be_len]
theorem headB_of (proto frm dst ttl id n : Int) : ofN (headB proto frm dst ttl id n) = 65535 := chk_ok _ _ (by rw [hdA_len])
theorem headB_cons (proto frm dst ttl id n : Int) : ∃ c : Int, headB proto frm dst ttl id n = [69, 0, byteI (20 + n) 1, byteI (20 + n) 0, byteI id 1, byteI id 0, 0, 0, byteI ttl 0, byteI proto 0, byteI c 1, byteI c 0,
    byteI frm 3, byteI frm 2, byteI frm 1, byteI frm 0, byteI dst 3, byteI dst 2, byteI dst 1, byteI dst 0] := ⟨_, rfl⟩
theorem ckN_le (p : Pk) : ckN p ≤ 65535 := by
  unfold ckN; split
  · omega
  · exact checkN_le _
theorem segA_even (p : Pk) : (segA p).length % 2 = 0 := by
  unfold segA; split
  · simp [be_len]
  · split <;> simp [be_len]
theorem preB_even (a b c d : Int) : (preB a b c d).length % 2 = 0 := by
  unfold preB; split <;> simp [be_len]
theorem segB_len (p : Pk) : (segB p).length = segN p := by simp [segB, segN, be_len]; omega
theorem segB_of (p : Pk) : ofN (preB p.proto p.frm p.dst (segN p) ++ segB p) = 65535 := by
  have hX : (preB p.proto p.frm p.dst (segN p) ++ segA p).length % 2 = 0 := by
    have := segA_even p; have := preB_even p.proto p.frm p.dst (segN p)
    rw [List.length_append]; omega
  have hk := chk_ok (preB p.proto p.frm p.dst (segN p) ++ segA p) (segZ p) hX
  unfold segB ckN
  rw [← List.append_assoc, ← List.append_assoc]
  split
  · rename_i h
    rw [h.2] at hk
    unfold ofN at hk ⊢
    rw [sumL_mid _ _ _ hX (by omega) (by omega)] at hk ⊢
    generalize sumL (preB p.proto p.frm p.dst (segN p) ++ segA p) = a at *
    generalize sumL (segZ p) = b at *
    unfold backN at hk ⊢
    split at hk
    · cases hk
    · split <;> omega
  · exact hk

theorem buildB_len (p : Pk) : (buildB p).length = 20 + segN p := by simp [buildB, headB_len, segB_len]
theorem buildB_take (p : Pk) : (buildB p).take 20 = headB p.proto p.frm p.dst p.ttl p.id (segN p) := List.take_left' (headB_len _ _ _ _ _ _)
theorem buildB_drop (p : Pk) : (buildB p).drop 20 = segB p := List.drop_left' (headB_len _ _ _ _ _ _)
theorem segN_val (p : Pk) (h : p.proto = 1 ∨ p.proto = 6 ∨ p.proto = 17) : segN p = (if p.proto = 6 then 20 else 8) + p.body.length := by
  unfold segN segA segZ
  rcases h with h | h | h <;> simp [h, be_len] <;> omega
/-- What stands in a frame's head. -/
theorem head_says (proto frm dst ttl id n : Int) (t : List UInt8) (h1 : 0 ≤ proto ∧ proto < 256) (h2 : 0 ≤ frm ∧ frm ≤ 4294967295) (h3 : 0 ≤ dst ∧ dst ≤ 4294967295) (h4 : 0 ≤ ttl ∧ ttl < 256) (h5 : 0 ≤ id ∧ id ≤ 65535) (h6 : 0 ≤ n ∧ n ≤ 65515) :
    let f := headB proto frm dst ttl id n ++ t
    b1 f 0 = 69 ∧ b1 f 1 = 0 ∧ w2 f 2 = 20 + n ∧ w2 f 4 = id ∧ w2 f 6 = 0 ∧ b1 f 8 = ttl ∧ b1 f 9 = proto ∧ w4 f 12 = frm ∧ w4 f 16 = dst := by
  intro f
  obtain ⟨c, hc⟩ := headB_cons proto frm dst ttl id n
  show b1 f 0 = 69 ∧ _
  have hf : f = [69, 0, byteI (20 + n) 1, byteI (20 + n) 0, byteI id 1, byteI id 0, 0, 0, byteI ttl 0, byteI proto 0, byteI c 1, byteI c 0,
    byteI frm 3, byteI frm 2, byteI frm 1, byteI frm 0, byteI dst 3, byteI dst 2, byteI dst 1, byteI dst 0] ++ t := by rw [← hc]
  clear_value f
  subst hf
  exact ⟨rfl, rfl, nb2 _ (by omega) (by omega), nb2 _ h5.1 h5.2, rfl, byte0 _ h4.1 h4.2, byte0 _ h1.1 h1.2, nb4 _ h2.1 h2.2, nb4 _ h3.1 h3.2⟩
theorem build_head (p : Pk) (hr : pkRange p) (hp : p.proto = 1 ∨ p.proto = 6 ∨ p.proto = 17) (hl : p.body.length ≤ 64) (t : List UInt8) :
    let f := headB p.proto p.frm p.dst p.ttl p.id (segN p) ++ t
    b1 f 0 = 69 ∧ b1 f 1 = 0 ∧ w2 f 2 = 20 + segN p ∧ w2 f 4 = p.id ∧ w2 f 6 = 0 ∧ b1 f 8 = p.ttl ∧ b1 f 9 = p.proto ∧ w4 f 12 = p.frm ∧ w4 f 16 = p.dst := by
  obtain ⟨r1, r2, r3, r4, r5, r6, r7, r8, r9, r10⟩ := hr
  have hN := segN_val p hp
  have hN2 : segN p ≤ 84 := by rw [hN]; split <;> omega
  exact head_says _ _ _ _ _ _ t (by omega) r1 r2 (by omega) r7 (by omega)

/-- What is built is read as it was. -/
theorem parse_build (p : Pk) (h : pkErr p = 0) : rdE (buildB p) = 0 ∧ rdK (buildB p) = p := by
  obtain ⟨hp, hr, hl, hf⟩ := pkErr_ok h
  obtain ⟨g0, g1, g2, g4, g6, g8, g9, g12, g16⟩ := build_head p hr hp hl (segB p)
  have hN := segN_val p hp
  have hB := buildB_len p
  have hT := buildB_take p
  have hD := buildB_drop p
  have hO := headB_of p.proto p.frm p.dst p.ttl p.id (segN p)
  have hS := segB_of p
  have hK := ckN_le p
  have hSL := segB_len p
  change b1 (buildB p) 0 = 69 at g0
  change b1 (buildB p) 1 = 0 at g1
  change w2 (buildB p) 2 = _ at g2
  change w2 (buildB p) 4 = _ at g4
  change w2 (buildB p) 6 = _ at g6
  change b1 (buildB p) 8 = _ at g8
  change b1 (buildB p) 9 = _ at g9
  change w4 (buildB p) 12 = _ at g12
  change w4 (buildB p) 16 = _ at g16
  generalize hF : buildB p = F at *
  have hr' := hr
  obtain ⟨r1, r2, r3, r4, r5, r6, r7, r8, r9, r10⟩ := hr
  have hKK : rdK F = p ∧ (p.proto = 1 → b1 (segB p) 1 = 0) ∧ (p.proto = 17 → w2 (segB p) 4 = segN p ∧ w2 (segB p) 6 ≠ 0) ∧ (p.proto = 6 → b1 (segB p) 12 = 80 ∧ b1 (segB p) 13 ≤ 63 ∧ w2 (segB p) 18 = 0) ∧ (p.proto = 1 → b1 (segB p) 0 = 8 ∨ b1 (segB p) 0 = 0) := by
    unfold rdK rdH
    rw [hD, g9, g12, g16, g8, g4]
    rcases p with ⟨proto, frm, sport, dst, dport, ttl, id, flags, seq, ack, win, body⟩
    dsimp only at *
    unfold pkForm at hf
    dsimp only at hf
    rcases hp with rfl | rfl | rfl
    · obtain ⟨c, hc⟩ : ∃ c : Int, segB ⟨1, frm, sport, dst, dport, ttl, id, flags, seq, ack, win, body⟩ = [byteI flags 0, 0, byteI c 1, byteI c 0, byteI (sport + dport) 1, byteI (sport + dport) 0, byteI seq 1, byteI seq 0] ++ body := ⟨_, rfl⟩
      rw [hc]
      have f1 : ack = 0 ∧ win = 0 ∧ (flags = 8 ∧ dport = 0 ∨ flags = 0 ∧ sport = 0) ∧ seq ≤ 65535 := by omega
      obtain ⟨rfl, rfl, f2, f3⟩ := f1
      have e0 : b1 ([byteI flags 0, 0, byteI c 1, byteI c 0, byteI (sport + dport) 1, byteI (sport + dport) 0, byteI seq 1, byteI seq 0] ++ body) 0 = flags := byte0 _ (by omega) (by omega)
      have e1 : w2 ([byteI flags 0, 0, byteI c 1, byteI c 0, byteI (sport + dport) 1, byteI (sport + dport) 0, byteI seq 1, byteI seq 0] ++ body) 4 = sport + dport := nb2 _ (by omega) (by omega)
      have e2 : w2 ([byteI flags 0, 0, byteI c 1, byteI c 0, byteI (sport + dport) 1, byteI (sport + dport) 0, byteI seq 1, byteI seq 0] ++ body) 6 = seq := nb2 _ (by omega) (by omega)
      rw [e0, e1, e2]
      refine ⟨?_, fun _ => rfl, fun h => by omega, fun h => by omega, fun _ => by omega⟩
      rw [if_pos rfl]
      rcases f2 with ⟨rfl, rfl⟩ | ⟨rfl, rfl⟩ <;> simp
    · obtain ⟨c, hc⟩ : ∃ c : Int, segB ⟨6, frm, sport, dst, dport, ttl, id, flags, seq, ack, win, body⟩ = [byteI sport 1, byteI sport 0, byteI dport 1, byteI dport 0, byteI seq 3, byteI seq 2, byteI seq 1, byteI seq 0, byteI ack 3, byteI ack 2, byteI ack 1, byteI ack 0, 80, byteI flags 0, byteI win 1, byteI win 0, byteI c 1, byteI c 0, 0, 0] ++ body := ⟨_, rfl⟩
      rw [hc]
      refine ⟨?_, fun h => by omega, fun h => by omega, fun _ => ⟨rfl, ?_, rfl⟩, fun h => by omega⟩
      · rw [if_neg (by decide), if_neg (by decide)]
        have e1 : ∀ t : List UInt8, w2 ([byteI sport 1, byteI sport 0, byteI dport 1, byteI dport 0, byteI seq 3, byteI seq 2, byteI seq 1, byteI seq 0, byteI ack 3, byteI ack 2, byteI ack 1, byteI ack 0, 80, byteI flags 0, byteI win 1, byteI win 0, byteI c 1, byteI c 0, 0, 0] ++ t) 0 = sport := fun t => nb2 _ (by omega) (by omega)
        have e2 : ∀ t : List UInt8, w2 ([byteI sport 1, byteI sport 0, byteI dport 1, byteI dport 0, byteI seq 3, byteI seq 2, byteI seq 1, byteI seq 0, byteI ack 3, byteI ack 2, byteI ack 1, byteI ack 0, 80, byteI flags 0, byteI win 1, byteI win 0, byteI c 1, byteI c 0, 0, 0] ++ t) 2 = dport := fun t => nb2 _ (by omega) (by omega)
        have e3 : ∀ t : List UInt8, w4 ([byteI sport 1, byteI sport 0, byteI dport 1, byteI dport 0, byteI seq 3, byteI seq 2, byteI seq 1, byteI seq 0, byteI ack 3, byteI ack 2, byteI ack 1, byteI ack 0, 80, byteI flags 0, byteI win 1, byteI win 0, byteI c 1, byteI c 0, 0, 0] ++ t) 4 = seq := fun t => nb4 _ (by omega) (by omega)
        have e4 : ∀ t : List UInt8, w4 ([byteI sport 1, byteI sport 0, byteI dport 1, byteI dport 0, byteI seq 3, byteI seq 2, byteI seq 1, byteI seq 0, byteI ack 3, byteI ack 2, byteI ack 1, byteI ack 0, 80, byteI flags 0, byteI win 1, byteI win 0, byteI c 1, byteI c 0, 0, 0] ++ t) 8 = ack := fun t => nb4 _ (by omega) (by omega)
        have e5 : ∀ t : List UInt8, w2 ([byteI sport 1, byteI sport 0, byteI dport 1, byteI dport 0, byteI seq 3, byteI seq 2, byteI seq 1, byteI seq 0, byteI ack 3, byteI ack 2, byteI ack 1, byteI ack 0, 80, byteI flags 0, byteI win 1, byteI win 0, byteI c 1, byteI c 0, 0, 0] ++ t) 14 = win := fun t => nb2 _ (by omega) (by omega)
        have e6 : ∀ t : List UInt8, b1 ([byteI sport 1, byteI sport 0, byteI dport 1, byteI dport 0, byteI seq 3, byteI seq 2, byteI seq 1, byteI seq 0, byteI ack 3, byteI ack 2, byteI ack 1, byteI ack 0, 80, byteI flags 0, byteI win 1, byteI win 0, byteI c 1, byteI c 0, 0, 0] ++ t) 13 = flags := fun t => byte0 _ (by omega) (by omega)
        rw [e1, e2, e3, e4, e5, e6]
        rfl
      · have : b1 ([byteI sport 1, byteI sport 0, byteI dport 1, byteI dport 0, byteI seq 3, byteI seq 2, byteI seq 1, byteI seq 0, byteI ack 3, byteI ack 2, byteI ack 1, byteI ack 0, 80, byteI flags 0, byteI win 1, byteI win 0, byteI c 1, byteI c 0, 0, 0] ++ body) 13 = flags := byte0 _ (by omega) (by omega)
        rw [this]; omega
    · have hc : segB ⟨17, frm, sport, dst, dport, ttl, id, flags, seq, ack, win, body⟩ = [byteI sport 1, byteI sport 0, byteI dport 1, byteI dport 0, byteI (8 + body.length) 1, byteI (8 + body.length) 0, byteI (ckN ⟨17, frm, sport, dst, dport, ttl, id, flags, seq, ack, win, body⟩) 1, byteI (ckN ⟨17, frm, sport, dst, dport, ttl, id, flags, seq, ack, win, body⟩) 0] ++ body := rfl
      have hc0 : ckN ⟨17, frm, sport, dst, dport, ttl, id, flags, seq, ack, win, body⟩ ≠ 0 := by
        unfold ckN; split
        · decide
        · rename_i hh
          intro h0; exact hh ⟨rfl, h0⟩
      rw [hc]
      generalize ckN ⟨17, frm, sport, dst, dport, ttl, id, flags, seq, ack, win, body⟩ = c at *
      have f1 : ack = 0 ∧ win = 0 ∧ seq = 0 ∧ flags = 0 := by omega
      obtain ⟨rfl, rfl, rfl, rfl⟩ := f1
      refine ⟨?_, fun h => by omega, fun _ => ⟨?_, ?_⟩, fun h => by omega, fun h => by omega⟩
      · rw [if_neg (by decide), if_pos rfl]
        have e1 : ∀ t : List UInt8, w2 ([byteI sport 1, byteI sport 0, byteI dport 1, byteI dport 0, byteI (8 + body.length) 1, byteI (8 + body.length) 0, byteI c 1, byteI c 0] ++ t) 0 = sport := fun t => nb2 _ (by omega) (by omega)
        have e2 : ∀ t : List UInt8, w2 ([byteI sport 1, byteI sport 0, byteI dport 1, byteI dport 0, byteI (8 + body.length) 1, byteI (8 + body.length) 0, byteI c 1, byteI c 0] ++ t) 2 = dport := fun t => nb2 _ (by omega) (by omega)
        rw [e1, e2]
        rfl
      · have e1 : ∀ t : List UInt8, w2 ([byteI sport 1, byteI sport 0, byteI dport 1, byteI dport 0, byteI (8 + body.length) 1, byteI (8 + body.length) 0, byteI c 1, byteI c 0] ++ t) 4 = 8 + body.length := fun t => nb2 _ (by omega) (by omega)
        rw [e1, hN]
        simp
      · have e1 : ∀ t : List UInt8, w2 ([byteI sport 1, byteI sport 0, byteI dport 1, byteI dport 0, byteI (8 + body.length) 1, byteI (8 + body.length) 0, byteI c 1, byteI c 0] ++ t) 6 = c := fun t => nb2 _ (by omega) (by omega)
        rw [e1]; omega
  obtain ⟨k1, k2, k3, k4, k5⟩ := hKK
  refine ⟨?_, k1⟩
  unfold rdE
  rw [k1, h, hD, hT, g0, g1, g2, g6, g8, g9, g12, g16, hO]
  dsimp only
  rw [hSL, hS]
  have hlen : F.length = 20 + segN p := hB
  rw [if_neg (by omega), if_neg (by omega), if_neg (by omega), if_neg (by omega), if_neg (by omega)]
  rw [if_neg (by rcases hp with h1 | h1 | h1 <;> simp [h1] at hN ⊢ <;> omega)]
  rw [if_neg (fun hh => hh.elim (fun h1 => h1 rfl) fun h1 => (k3 h1.1).2 h1.2)]
  rw [if_neg (by rintro ⟨h1, h2⟩; have := k2 h1; have := k5 h1; omega)]
  rw [if_neg (by rintro ⟨h1, h2⟩; exact h2 (by rw [(k3 h1).1])), if_neg (by rintro ⟨h1, h2⟩; have := k4 h1; omega)]
end Go.Proofs.Ytblimjilinkmbaa
