/- What is turned is what would be built anew. No conditions but the ones that stand in each. -/
import Derived.Test.YtblimjilinkmbaaWp
namespace Go.Proofs.Ytblimjilinkmbaa
set_option linter.all false
set_option linter.unusedSimpArgs false
open Go.RowKit

theorem hd_turn0 (n id ttl pr f1 f2 d1 d2 a1 a2 : Int) (h1 : 0 ≤ n ∧ n ≤ 200) (h2 : 0 ≤ id ∧ id ≤ 65535) (h3 : 2 ≤ ttl ∧ ttl ≤ 255) (h4 : 0 ≤ pr ∧ pr ≤ 255) (h5 : 0 ≤ f1 ∧ f1 ≤ 65535) (h6 : 0 ≤ f2 ∧ f2 ≤ 65535) (h7 : 0 ≤ d1 ∧ d1 ≤ 65535) (h8 : 0 ≤ d2 ∧ d2 ≤ 65535) (h9 : 0 ≤ a1 ∧ a1 ≤ 65535) (h10 : 0 ≤ a2 ∧ a2 ≤ 65535) :
    updN (updN (updN (ckS (sumW [17664, 20 + n, id, 0, ttl * 256 + pr, 0, f1, f2, d1, d2])) f1 a1) f2 a2) (ttl * 256 + pr) ((ttl - 1) * 256 + pr) = ckS (sumW [17664, 20 + n, id, 0, (ttl - 1) * 256 + pr, 0, a1, a2, d1, d2]) := by
  rw [upd3 _ _ _ _ _ _ _ h5 h9 h6 h10 (by omega) (by omega) (by simp only [sumW]; omega)]
  apply ckS_eqT; simp only [sumW]; omega
theorem hd_turn1 (n id ttl pr f1 f2 d1 d2 a1 a2 : Int) (h1 : 0 ≤ n ∧ n ≤ 200) (h2 : 0 ≤ id ∧ id ≤ 65535) (h3 : 2 ≤ ttl ∧ ttl ≤ 255) (h4 : 0 ≤ pr ∧ pr ≤ 255) (h5 : 0 ≤ f1 ∧ f1 ≤ 65535) (h6 : 0 ≤ f2 ∧ f2 ≤ 65535) (h7 : 0 ≤ d1 ∧ d1 ≤ 65535) (h8 : 0 ≤ d2 ∧ d2 ≤ 65535) (h9 : 0 ≤ a1 ∧ a1 ≤ 65535) (h10 : 0 ≤ a2 ∧ a2 ≤ 65535) :
    updN (updN (updN (ckS (sumW [17664, 20 + n, id, 0, ttl * 256 + pr, 0, f1, f2, d1, d2])) d1 a1) d2 a2) (ttl * 256 + pr) ((ttl - 1) * 256 + pr) = ckS (sumW [17664, 20 + n, id, 0, (ttl - 1) * 256 + pr, 0, f1, f2, a1, a2]) := by
  rw [upd3 _ _ _ _ _ _ _ h7 h9 h8 h10 (by omega) (by omega) (by simp only [sumW]; omega)]
  apply ckS_eqT; simp only [sumW]; omega
theorem fin_ck {k : Int} {P : Prop} [Decidable P] (h : ¬ P) : (if P then 65535 else k) = k := if_neg h
/-- The check of a datagram that is turned. -/
theorem udp_ck (k T : Int) (h : ckI k T) (hT : 0 < T) : (if k % 65536 = 0 then 65535 else k) = if ckS T = 0 then 65535 else ckS T := by
  obtain ⟨h1, h2, h3⟩ := h
  have h4 := ckS_lt T hT
  have h5 := ckS_bd T
  split
  · rename_i hh
    split
    · rfl
    · omega
  · rename_i hh
    have : k ≠ 0 := fun e => hh (by omega)
    split <;> omega
theorem ckI_of (T : Int) (h : 0 < T) : ckI (if ckS T = 0 then 65535 else ckS T) T := by
  have h4 := ckS_lt T h
  have h5 := ckS_bd T
  unfold ckI; split <;> omega

theorem turn_ping0 (frm sport dst dport ttl id flags seq ack win addr port : Int) (body : List UInt8) (r1 : 0 ≤ frm ∧ frm ≤ 4294967295) (r2 : 0 ≤ dst ∧ dst ≤ 4294967295) (r3 : 0 ≤ seq ∧ seq ≤ 4294967295) (r4 : 0 ≤ ack ∧ ack ≤ 4294967295) (r5 : 0 ≤ sport ∧ sport ≤ 65535) (r6 : 0 ≤ dport ∧ dport ≤ 65535) (r7 : 0 ≤ id ∧ id ≤ 65535) (r8 : 0 ≤ win ∧ win ≤ 65535) (r9 : 2 ≤ ttl ∧ ttl ≤ 255) (r10 : 0 ≤ flags ∧ flags ≤ 63) (hl : body.length ≤ 64) (ha : 0 ≤ addr ∧ addr ≤ 4294967295) (hq : 0 ≤ port ∧ port ≤ 65535) (r11 : seq ≤ 65535) : turnB (buildB (⟨1, frm, sport, dst, 0, ttl, id, flags, seq, ack, win, body⟩ : Pk)) 1 ttl 12 24 addr port = buildB (⟨1, addr, port, dst, 0, ttl - 1, id, flags, seq, ack, win, body⟩ : Pk) := by
  have hN := segN_val (⟨1, frm, sport, dst, 0, ttl, id, flags, seq, ack, win, body⟩ : Pk) (by simp)
  have hM := segN_val (⟨1, addr, port, dst, 0, ttl - 1, id, flags, seq, ack, win, body⟩ : Pk) (by simp)
  have hMN : segN (⟨1, addr, port, dst, 0, ttl - 1, id, flags, seq, ack, win, body⟩ : Pk) = segN (⟨1, frm, sport, dst, 0, ttl, id, flags, seq, ack, win, body⟩ : Pk) := by rw [hM, hN]
  have hN2 : segN (⟨1, frm, sport, dst, 0, ttl, id, flags, seq, ack, win, body⟩ : Pk) ≤ 84 := by rw [hN]; simp; omega
  have hkp := ckN_eq (⟨1, frm, sport, dst, 0, ttl, id, flags, seq, ack, win, body⟩ : Pk) (by simp) (by dsimp only; omega)
  have hkq := ckN_eq (⟨1, addr, port, dst, 0, ttl - 1, id, flags, seq, ack, win, body⟩ : Pk) (by simp) (by dsimp only; omega)
  rw [build_fr (⟨1, frm, sport, dst, 0, ttl, id, flags, seq, ack, win, body⟩ : Pk) (by simp) (by dsimp only; omega), build_fr (⟨1, addr, port, dst, 0, ttl - 1, id, flags, seq, ack, win, body⟩ : Pk) (by simp) (by dsimp only; omega), hkp, hkq, hMN]
  unfold sumS preW
  rw [hMN]
  clear hkp hkq hM hN hMN
  generalize segN (⟨1, frm, sport, dst, 0, ttl, id, flags, seq, ack, win, body⟩ : Pk) = n at *
  unfold hdW sgW
  dsimp only
  simp only [reduceCtorEq, Int.reduceEq, if_true, if_false, ↓reduceIte, false_and, true_and, List.cons_append, List.nil_append]
  rw [turnB_ping0]
  refine congrArg (fun l => fr l body) ?_
  rw [hd_turn0 _ _ _ _ _ _ _ _ _ _ (by omega) (by omega) (by omega) (by omega) (by omega) (by omega) (by omega) (by omega) (by omega) (by omega)]
  have hS := Int.natCast_nonneg (sumL body)
  have hck := ping_ck (sumW [] + sumW [flags * 256, 0, sport + 0, seq] + sumL body) (sport + 0) port (flags * 256 + seq + sumL body) (by omega) (by omega) (by omega) (by simp only [sumW]; omega) (ofN (fr [flags * 256, updN (ckS (sumW [] + sumW [flags * 256, 0, sport + 0, seq] + sumL body)) (sport + 0) port, port, seq] body) = 0) (by
    have hb := updN_bd (ckS (sumW [] + sumW [flags * 256, 0, sport + 0, seq] + sumL body)) (sport + 0) port
    rw [ofN_fr0]; generalize updN (ckS (sumW [] + sumW [flags * 256, 0, sport + 0, seq] + sumL body)) (sport + 0) port = u at *; simp only [sumW]; omega)
  rw [hck]
  have e2 : ckS (port + (flags * 256 + seq + sumL body)) = ckS (sumW [] + sumW [flags * 256, 0, port + 0, seq] + sumL body) := by apply ckS_eqT; simp only [sumW]; omega
  rw [e2]
  simp

theorem turn_ping1 (frm sport dst dport ttl id flags seq ack win addr port : Int) (body : List UInt8) (r1 : 0 ≤ frm ∧ frm ≤ 4294967295) (r2 : 0 ≤ dst ∧ dst ≤ 4294967295) (r3 : 0 ≤ seq ∧ seq ≤ 4294967295) (r4 : 0 ≤ ack ∧ ack ≤ 4294967295) (r5 : 0 ≤ sport ∧ sport ≤ 65535) (r6 : 0 ≤ dport ∧ dport ≤ 65535) (r7 : 0 ≤ id ∧ id ≤ 65535) (r8 : 0 ≤ win ∧ win ≤ 65535) (r9 : 2 ≤ ttl ∧ ttl ≤ 255) (r10 : 0 ≤ flags ∧ flags ≤ 63) (hl : body.length ≤ 64) (ha : 0 ≤ addr ∧ addr ≤ 4294967295) (hq : 0 ≤ port ∧ port ≤ 65535) (r11 : seq ≤ 65535) : turnB (buildB (⟨1, frm, 0, dst, dport, ttl, id, flags, seq, ack, win, body⟩ : Pk)) 1 ttl 16 24 addr port = buildB (⟨1, frm, 0, addr, port, ttl - 1, id, flags, seq, ack, win, body⟩ : Pk) := by
  have hN := segN_val (⟨1, frm, 0, dst, dport, ttl, id, flags, seq, ack, win, body⟩ : Pk) (by simp)
  have hM := segN_val (⟨1, frm, 0, addr, port, ttl - 1, id, flags, seq, ack, win, body⟩ : Pk) (by simp)
  have hMN : segN (⟨1, frm, 0, addr, port, ttl - 1, id, flags, seq, ack, win, body⟩ : Pk) = segN (⟨1, frm, 0, dst, dport, ttl, id, flags, seq, ack, win, body⟩ : Pk) := by rw [hM, hN]
  have hN2 : segN (⟨1, frm, 0, dst, dport, ttl, id, flags, seq, ack, win, body⟩ : Pk) ≤ 84 := by rw [hN]; simp; omega
  have hkp := ckN_eq (⟨1, frm, 0, dst, dport, ttl, id, flags, seq, ack, win, body⟩ : Pk) (by simp) (by dsimp only; omega)
  have hkq := ckN_eq (⟨1, frm, 0, addr, port, ttl - 1, id, flags, seq, ack, win, body⟩ : Pk) (by simp) (by dsimp only; omega)
  rw [build_fr (⟨1, frm, 0, dst, dport, ttl, id, flags, seq, ack, win, body⟩ : Pk) (by simp) (by dsimp only; omega), build_fr (⟨1, frm, 0, addr, port, ttl - 1, id, flags, seq, ack, win, body⟩ : Pk) (by simp) (by dsimp only; omega), hkp, hkq, hMN]
  unfold sumS preW
  rw [hMN]
  clear hkp hkq hM hN hMN
  generalize segN (⟨1, frm, 0, dst, dport, ttl, id, flags, seq, ack, win, body⟩ : Pk) = n at *
  unfold hdW sgW
  dsimp only
  simp only [reduceCtorEq, Int.reduceEq, if_true, if_false, ↓reduceIte, false_and, true_and, List.cons_append, List.nil_append]
  rw [turnB_ping1]
  refine congrArg (fun l => fr l body) ?_
  rw [hd_turn1 _ _ _ _ _ _ _ _ _ _ (by omega) (by omega) (by omega) (by omega) (by omega) (by omega) (by omega) (by omega) (by omega) (by omega)]
  have hS := Int.natCast_nonneg (sumL body)
  have hck := ping_ck (sumW [] + sumW [flags * 256, 0, 0 + dport, seq] + sumL body) (0 + dport) port (flags * 256 + seq + sumL body) (by omega) (by omega) (by omega) (by simp only [sumW]; omega) (ofN (fr [flags * 256, updN (ckS (sumW [] + sumW [flags * 256, 0, 0 + dport, seq] + sumL body)) (0 + dport) port, port, seq] body) = 0) (by
    have hb := updN_bd (ckS (sumW [] + sumW [flags * 256, 0, 0 + dport, seq] + sumL body)) (0 + dport) port
    rw [ofN_fr0]; generalize updN (ckS (sumW [] + sumW [flags * 256, 0, 0 + dport, seq] + sumL body)) (0 + dport) port = u at *; simp only [sumW]; omega)
  rw [hck]
  have e2 : ckS (port + (flags * 256 + seq + sumL body)) = ckS (sumW [] + sumW [flags * 256, 0, 0 + port, seq] + sumL body) := by apply ckS_eqT; simp only [sumW]; omega
  rw [e2]
  simp

theorem turn_udp0 (frm sport dst dport ttl id flags seq ack win addr port : Int) (body : List UInt8) (r1 : 0 ≤ frm ∧ frm ≤ 4294967295) (r2 : 0 ≤ dst ∧ dst ≤ 4294967295) (r3 : 0 ≤ seq ∧ seq ≤ 4294967295) (r4 : 0 ≤ ack ∧ ack ≤ 4294967295) (r5 : 0 ≤ sport ∧ sport ≤ 65535) (r6 : 0 ≤ dport ∧ dport ≤ 65535) (r7 : 0 ≤ id ∧ id ≤ 65535) (r8 : 0 ≤ win ∧ win ≤ 65535) (r9 : 2 ≤ ttl ∧ ttl ≤ 255) (r10 : 0 ≤ flags ∧ flags ≤ 63) (hl : body.length ≤ 64) (ha : 0 ≤ addr ∧ addr ≤ 4294967295) (hq : 0 ≤ port ∧ port ≤ 65535) : turnB (buildB (⟨17, frm, sport, dst, dport, ttl, id, flags, seq, ack, win, body⟩ : Pk)) 17 ttl 12 20 addr port = buildB (⟨17, addr, port, dst, dport, ttl - 1, id, flags, seq, ack, win, body⟩ : Pk) := by
  have hN := segN_val (⟨17, frm, sport, dst, dport, ttl, id, flags, seq, ack, win, body⟩ : Pk) (by simp)
  have hM := segN_val (⟨17, addr, port, dst, dport, ttl - 1, id, flags, seq, ack, win, body⟩ : Pk) (by simp)
  have hMN : segN (⟨17, addr, port, dst, dport, ttl - 1, id, flags, seq, ack, win, body⟩ : Pk) = segN (⟨17, frm, sport, dst, dport, ttl, id, flags, seq, ack, win, body⟩ : Pk) := by rw [hM, hN]
  have hN2 : segN (⟨17, frm, sport, dst, dport, ttl, id, flags, seq, ack, win, body⟩ : Pk) ≤ 84 := by rw [hN]; simp; omega
  have hkp := ckN_eq (⟨17, frm, sport, dst, dport, ttl, id, flags, seq, ack, win, body⟩ : Pk) (by simp) (by dsimp only; omega)
  have hkq := ckN_eq (⟨17, addr, port, dst, dport, ttl - 1, id, flags, seq, ack, win, body⟩ : Pk) (by simp) (by dsimp only; omega)
  rw [build_fr (⟨17, frm, sport, dst, dport, ttl, id, flags, seq, ack, win, body⟩ : Pk) (by simp) (by dsimp only; omega), build_fr (⟨17, addr, port, dst, dport, ttl - 1, id, flags, seq, ack, win, body⟩ : Pk) (by simp) (by dsimp only; omega), hkp, hkq, hMN]
  unfold sumS preW
  rw [hMN]
  clear hkp hkq hM hN hMN
  generalize segN (⟨17, frm, sport, dst, dport, ttl, id, flags, seq, ack, win, body⟩ : Pk) = n at *
  unfold hdW sgW
  dsimp only
  simp only [reduceCtorEq, Int.reduceEq, if_true, if_false, ↓reduceIte, false_and, true_and, List.cons_append, List.nil_append]
  rw [turnB_udp0]
  refine congrArg (fun l => fr l body) ?_
  rw [hd_turn0 _ _ _ _ _ _ _ _ _ _ (by omega) (by omega) (by omega) (by omega) (by omega) (by omega) (by omega) (by omega) (by omega) (by omega)]
  have e1 : frm / 65536 % 65536 = frm / 65536 := by omega
  have e2 : frm % 65536 % 65536 = frm % 65536 := by omega
  rw [e1, e2]
  have hS := Int.natCast_nonneg (sumL body)
  have hk0 := ckI_of (sumW [frm / 65536, frm % 65536, dst / 65536, dst % 65536, 17, ↑n] + sumW [sport, dport, 8 + ↑body.length, 0] + sumL body) (by simp only [sumW]; omega)
  have hk := upd3I _ _ (frm / 65536) (addr / 65536) (frm % 65536) (addr % 65536) sport port hk0 (by omega) (by omega) (by omega) (by omega) (by omega) (by omega)
  have hT : sumW [frm / 65536, frm % 65536, dst / 65536, dst % 65536, 17, ↑n] + sumW [sport, dport, 8 + ↑body.length, 0] + sumL body - (frm / 65536) + addr / 65536 - (frm % 65536) + addr % 65536 - sport + port = sumW [addr / 65536, addr % 65536, dst / 65536, dst % 65536, 17, ↑n] + sumW [port, dport, 8 + ↑body.length, 0] + sumL body := by simp only [sumW]; omega
  rw [hT] at hk
  have hck := udp_ck _ _ hk (by simp only [sumW]; omega)
  rw [hck]

theorem turn_udp1 (frm sport dst dport ttl id flags seq ack win addr port : Int) (body : List UInt8) (r1 : 0 ≤ frm ∧ frm ≤ 4294967295) (r2 : 0 ≤ dst ∧ dst ≤ 4294967295) (r3 : 0 ≤ seq ∧ seq ≤ 4294967295) (r4 : 0 ≤ ack ∧ ack ≤ 4294967295) (r5 : 0 ≤ sport ∧ sport ≤ 65535) (r6 : 0 ≤ dport ∧ dport ≤ 65535) (r7 : 0 ≤ id ∧ id ≤ 65535) (r8 : 0 ≤ win ∧ win ≤ 65535) (r9 : 2 ≤ ttl ∧ ttl ≤ 255) (r10 : 0 ≤ flags ∧ flags ≤ 63) (hl : body.length ≤ 64) (ha : 0 ≤ addr ∧ addr ≤ 4294967295) (hq : 0 ≤ port ∧ port ≤ 65535) : turnB (buildB (⟨17, frm, sport, dst, dport, ttl, id, flags, seq, ack, win, body⟩ : Pk)) 17 ttl 16 22 addr port = buildB (⟨17, frm, sport, addr, port, ttl - 1, id, flags, seq, ack, win, body⟩ : Pk) := by
  have hN := segN_val (⟨17, frm, sport, dst, dport, ttl, id, flags, seq, ack, win, body⟩ : Pk) (by simp)
  have hM := segN_val (⟨17, frm, sport, addr, port, ttl - 1, id, flags, seq, ack, win, body⟩ : Pk) (by simp)
  have hMN : segN (⟨17, frm, sport, addr, port, ttl - 1, id, flags, seq, ack, win, body⟩ : Pk) = segN (⟨17, frm, sport, dst, dport, ttl, id, flags, seq, ack, win, body⟩ : Pk) := by rw [hM, hN]
  have hN2 : segN (⟨17, frm, sport, dst, dport, ttl, id, flags, seq, ack, win, body⟩ : Pk) ≤ 84 := by rw [hN]; simp; omega
  have hkp := ckN_eq (⟨17, frm, sport, dst, dport, ttl, id, flags, seq, ack, win, body⟩ : Pk) (by simp) (by dsimp only; omega)
  have hkq := ckN_eq (⟨17, frm, sport, addr, port, ttl - 1, id, flags, seq, ack, win, body⟩ : Pk) (by simp) (by dsimp only; omega)
  rw [build_fr (⟨17, frm, sport, dst, dport, ttl, id, flags, seq, ack, win, body⟩ : Pk) (by simp) (by dsimp only; omega), build_fr (⟨17, frm, sport, addr, port, ttl - 1, id, flags, seq, ack, win, body⟩ : Pk) (by simp) (by dsimp only; omega), hkp, hkq, hMN]
  unfold sumS preW
  rw [hMN]
  clear hkp hkq hM hN hMN
  generalize segN (⟨17, frm, sport, dst, dport, ttl, id, flags, seq, ack, win, body⟩ : Pk) = n at *
  unfold hdW sgW
  dsimp only
  simp only [reduceCtorEq, Int.reduceEq, if_true, if_false, ↓reduceIte, false_and, true_and, List.cons_append, List.nil_append]
  rw [turnB_udp1]
  refine congrArg (fun l => fr l body) ?_
  rw [hd_turn1 _ _ _ _ _ _ _ _ _ _ (by omega) (by omega) (by omega) (by omega) (by omega) (by omega) (by omega) (by omega) (by omega) (by omega)]
  have e1 : dst / 65536 % 65536 = dst / 65536 := by omega
  have e2 : dst % 65536 % 65536 = dst % 65536 := by omega
  rw [e1, e2]
  have hS := Int.natCast_nonneg (sumL body)
  have hk0 := ckI_of (sumW [frm / 65536, frm % 65536, dst / 65536, dst % 65536, 17, ↑n] + sumW [sport, dport, 8 + ↑body.length, 0] + sumL body) (by simp only [sumW]; omega)
  have hk := upd3I _ _ (dst / 65536) (addr / 65536) (dst % 65536) (addr % 65536) dport port hk0 (by omega) (by omega) (by omega) (by omega) (by omega) (by omega)
  have hT : sumW [frm / 65536, frm % 65536, dst / 65536, dst % 65536, 17, ↑n] + sumW [sport, dport, 8 + ↑body.length, 0] + sumL body - (dst / 65536) + addr / 65536 - (dst % 65536) + addr % 65536 - dport + port = sumW [frm / 65536, frm % 65536, addr / 65536, addr % 65536, 17, ↑n] + sumW [sport, port, 8 + ↑body.length, 0] + sumL body := by simp only [sumW]; omega
  rw [hT] at hk
  have hck := udp_ck _ _ hk (by simp only [sumW]; omega)
  rw [hck]

theorem turn_tcp0 (frm sport dst dport ttl id flags seq ack win addr port : Int) (body : List UInt8) (r1 : 0 ≤ frm ∧ frm ≤ 4294967295) (r2 : 0 ≤ dst ∧ dst ≤ 4294967295) (r3 : 0 ≤ seq ∧ seq ≤ 4294967295) (r4 : 0 ≤ ack ∧ ack ≤ 4294967295) (r5 : 0 ≤ sport ∧ sport ≤ 65535) (r6 : 0 ≤ dport ∧ dport ≤ 65535) (r7 : 0 ≤ id ∧ id ≤ 65535) (r8 : 0 ≤ win ∧ win ≤ 65535) (r9 : 2 ≤ ttl ∧ ttl ≤ 255) (r10 : 0 ≤ flags ∧ flags ≤ 63) (hl : body.length ≤ 64) (ha : 0 ≤ addr ∧ addr ≤ 4294967295) (hq : 0 ≤ port ∧ port ≤ 65535) : turnB (buildB (⟨6, frm, sport, dst, dport, ttl, id, flags, seq, ack, win, body⟩ : Pk)) 6 ttl 12 20 addr port = buildB (⟨6, addr, port, dst, dport, ttl - 1, id, flags, seq, ack, win, body⟩ : Pk) := by
  have hN := segN_val (⟨6, frm, sport, dst, dport, ttl, id, flags, seq, ack, win, body⟩ : Pk) (by simp)
  have hM := segN_val (⟨6, addr, port, dst, dport, ttl - 1, id, flags, seq, ack, win, body⟩ : Pk) (by simp)
  have hMN : segN (⟨6, addr, port, dst, dport, ttl - 1, id, flags, seq, ack, win, body⟩ : Pk) = segN (⟨6, frm, sport, dst, dport, ttl, id, flags, seq, ack, win, body⟩ : Pk) := by rw [hM, hN]
  have hN2 : segN (⟨6, frm, sport, dst, dport, ttl, id, flags, seq, ack, win, body⟩ : Pk) ≤ 84 := by rw [hN]; simp; omega
  have hkp := ckN_eq (⟨6, frm, sport, dst, dport, ttl, id, flags, seq, ack, win, body⟩ : Pk) (by simp) (by dsimp only; omega)
  have hkq := ckN_eq (⟨6, addr, port, dst, dport, ttl - 1, id, flags, seq, ack, win, body⟩ : Pk) (by simp) (by dsimp only; omega)
  rw [build_fr (⟨6, frm, sport, dst, dport, ttl, id, flags, seq, ack, win, body⟩ : Pk) (by simp) (by dsimp only; omega), build_fr (⟨6, addr, port, dst, dport, ttl - 1, id, flags, seq, ack, win, body⟩ : Pk) (by simp) (by dsimp only; omega), hkp, hkq, hMN]
  unfold sumS preW
  rw [hMN]
  clear hkp hkq hM hN hMN
  generalize segN (⟨6, frm, sport, dst, dport, ttl, id, flags, seq, ack, win, body⟩ : Pk) = n at *
  unfold hdW sgW
  dsimp only
  simp only [reduceCtorEq, Int.reduceEq, if_true, if_false, ↓reduceIte, false_and, true_and, List.cons_append, List.nil_append]
  rw [turnB_tcp0]
  refine congrArg (fun l => fr l body) ?_
  rw [hd_turn0 _ _ _ _ _ _ _ _ _ _ (by omega) (by omega) (by omega) (by omega) (by omega) (by omega) (by omega) (by omega) (by omega) (by omega)]
  have e1 : frm / 65536 % 65536 = frm / 65536 := by omega
  have e2 : frm % 65536 % 65536 = frm % 65536 := by omega
  rw [e1, e2]
  have hS := Int.natCast_nonneg (sumL body)
  have hck : updN (updN (updN (ckS (sumW [frm / 65536, frm % 65536, dst / 65536, dst % 65536, 6, ↑n] + sumW [sport, dport, seq / 65536, seq % 65536, ack / 65536, ack % 65536, 80 * 256 + flags, win, 0, 0] + sumL body)) (frm / 65536) (addr / 65536)) (frm % 65536) (addr % 65536)) sport port = ckS (sumW [addr / 65536, addr % 65536, dst / 65536, dst % 65536, 6, ↑n] + sumW [port, dport, seq / 65536, seq % 65536, ack / 65536, ack % 65536, 80 * 256 + flags, win, 0, 0] + sumL body) := by
    rw [upd3 _ _ _ _ _ _ _ (by omega) (by omega) (by omega) (by omega) (by omega) (by omega) (by simp only [sumW]; omega)]
    apply ckS_eqT; simp only [sumW]; omega
  rw [hck]
  rw [fin_ck]
  rintro ⟨_, hh⟩
  rw [ofN_fr0] at hh
  have := ckS_bd (sumW [addr / 65536, addr % 65536, dst / 65536, dst % 65536, 6, ↑n] + sumW [port, dport, seq / 65536, seq % 65536, ack / 65536, ack % 65536, 80 * 256 + flags, win, 0, 0] + sumL body)
  generalize ckS (sumW [addr / 65536, addr % 65536, dst / 65536, dst % 65536, 6, ↑n] + sumW [port, dport, seq / 65536, seq % 65536, ack / 65536, ack % 65536, 80 * 256 + flags, win, 0, 0] + sumL body) = u at *; simp only [sumW] at hh; omega

theorem turn_tcp1 (frm sport dst dport ttl id flags seq ack win addr port : Int) (body : List UInt8) (r1 : 0 ≤ frm ∧ frm ≤ 4294967295) (r2 : 0 ≤ dst ∧ dst ≤ 4294967295) (r3 : 0 ≤ seq ∧ seq ≤ 4294967295) (r4 : 0 ≤ ack ∧ ack ≤ 4294967295) (r5 : 0 ≤ sport ∧ sport ≤ 65535) (r6 : 0 ≤ dport ∧ dport ≤ 65535) (r7 : 0 ≤ id ∧ id ≤ 65535) (r8 : 0 ≤ win ∧ win ≤ 65535) (r9 : 2 ≤ ttl ∧ ttl ≤ 255) (r10 : 0 ≤ flags ∧ flags ≤ 63) (hl : body.length ≤ 64) (ha : 0 ≤ addr ∧ addr ≤ 4294967295) (hq : 0 ≤ port ∧ port ≤ 65535) : turnB (buildB (⟨6, frm, sport, dst, dport, ttl, id, flags, seq, ack, win, body⟩ : Pk)) 6 ttl 16 22 addr port = buildB (⟨6, frm, sport, addr, port, ttl - 1, id, flags, seq, ack, win, body⟩ : Pk) := by
  have hN := segN_val (⟨6, frm, sport, dst, dport, ttl, id, flags, seq, ack, win, body⟩ : Pk) (by simp)
  have hM := segN_val (⟨6, frm, sport, addr, port, ttl - 1, id, flags, seq, ack, win, body⟩ : Pk) (by simp)
  have hMN : segN (⟨6, frm, sport, addr, port, ttl - 1, id, flags, seq, ack, win, body⟩ : Pk) = segN (⟨6, frm, sport, dst, dport, ttl, id, flags, seq, ack, win, body⟩ : Pk) := by rw [hM, hN]
  have hN2 : segN (⟨6, frm, sport, dst, dport, ttl, id, flags, seq, ack, win, body⟩ : Pk) ≤ 84 := by rw [hN]; simp; omega
  have hkp := ckN_eq (⟨6, frm, sport, dst, dport, ttl, id, flags, seq, ack, win, body⟩ : Pk) (by simp) (by dsimp only; omega)
  have hkq := ckN_eq (⟨6, frm, sport, addr, port, ttl - 1, id, flags, seq, ack, win, body⟩ : Pk) (by simp) (by dsimp only; omega)
  rw [build_fr (⟨6, frm, sport, dst, dport, ttl, id, flags, seq, ack, win, body⟩ : Pk) (by simp) (by dsimp only; omega), build_fr (⟨6, frm, sport, addr, port, ttl - 1, id, flags, seq, ack, win, body⟩ : Pk) (by simp) (by dsimp only; omega), hkp, hkq, hMN]
  unfold sumS preW
  rw [hMN]
  clear hkp hkq hM hN hMN
  generalize segN (⟨6, frm, sport, dst, dport, ttl, id, flags, seq, ack, win, body⟩ : Pk) = n at *
  unfold hdW sgW
  dsimp only
  simp only [reduceCtorEq, Int.reduceEq, if_true, if_false, ↓reduceIte, false_and, true_and, List.cons_append, List.nil_append]
  rw [turnB_tcp1]
  refine congrArg (fun l => fr l body) ?_
  rw [hd_turn1 _ _ _ _ _ _ _ _ _ _ (by omega) (by omega) (by omega) (by omega) (by omega) (by omega) (by omega) (by omega) (by omega) (by omega)]
  have e1 : dst / 65536 % 65536 = dst / 65536 := by omega
  have e2 : dst % 65536 % 65536 = dst % 65536 := by omega
  rw [e1, e2]
  have hS := Int.natCast_nonneg (sumL body)
  have hck : updN (updN (updN (ckS (sumW [frm / 65536, frm % 65536, dst / 65536, dst % 65536, 6, ↑n] + sumW [sport, dport, seq / 65536, seq % 65536, ack / 65536, ack % 65536, 80 * 256 + flags, win, 0, 0] + sumL body)) (dst / 65536) (addr / 65536)) (dst % 65536) (addr % 65536)) dport port = ckS (sumW [frm / 65536, frm % 65536, addr / 65536, addr % 65536, 6, ↑n] + sumW [sport, port, seq / 65536, seq % 65536, ack / 65536, ack % 65536, 80 * 256 + flags, win, 0, 0] + sumL body) := by
    rw [upd3 _ _ _ _ _ _ _ (by omega) (by omega) (by omega) (by omega) (by omega) (by omega) (by simp only [sumW]; omega)]
    apply ckS_eqT; simp only [sumW]; omega
  rw [hck]
  rw [fin_ck]
  rintro ⟨_, hh⟩
  rw [ofN_fr0] at hh
  have := ckS_bd (sumW [frm / 65536, frm % 65536, addr / 65536, addr % 65536, 6, ↑n] + sumW [sport, port, seq / 65536, seq % 65536, ack / 65536, ack % 65536, 80 * 256 + flags, win, 0, 0] + sumL body)
  generalize ckS (sumW [frm / 65536, frm % 65536, addr / 65536, addr % 65536, 6, ↑n] + sumW [sport, port, seq / 65536, seq % 65536, ack / 65536, ack % 65536, 80 * 256 + flags, win, 0, 0] + sumL body) = u at *; simp only [sumW] at hh; omega

/-- What is turned is what would be built anew. -/
theorem turn_build (p : Pk) (h : pkErr p = 0) (side addr port : Int) (ht : turnE p side addr port = 0) : turnB (buildB p) p.proto p.ttl (atOf side) (whOf p.proto side) addr port = buildB (turned p side addr port) := by
  obtain ⟨hp, hr, hl, hf⟩ := pkErr_ok h
  unfold turnE at ht
  split at ht
  · cases ht
  split at ht
  · cases ht
  split at ht
  · cases ht
  rename_i t1 t2 t3
  obtain ⟨r1, r2, r3, r4, r5, r6, r7, r8, r9, r10⟩ := hr
  rcases p with ⟨proto, frm, sport, dst, dport, ttl, id, flags, seq, ack, win, body⟩
  dsimp only at *
  unfold pkForm at hf
  dsimp only at hf
  have ha : 0 ≤ addr ∧ addr ≤ 4294967295 := by omega
  have hq : 0 ≤ port ∧ port ≤ 65535 := by omega
  unfold turned atOf whOf
  by_cases hs : side = 0
  · rw [if_pos hs, if_pos hs, if_pos hs]
    rcases hp with rfl | rfl | rfl
    · have hd : dport = 0 := by omega
      subst hd
      exact turn_ping0 frm sport dst 0 ttl id flags seq ack win addr port body r1 r2 r3 r4 r5 r6 r7 r8 (by omega) r10 hl ha hq (by omega)
    · exact turn_tcp0 frm sport dst dport ttl id flags seq ack win addr port body r1 r2 r3 r4 r5 r6 r7 r8 (by omega) r10 hl ha hq
    · exact turn_udp0 frm sport dst dport ttl id flags seq ack win addr port body r1 r2 r3 r4 r5 r6 r7 r8 (by omega) r10 hl ha hq
  · rw [if_neg hs, if_neg hs, if_neg hs]
    rcases hp with rfl | rfl | rfl
    · have hd : sport = 0 := by omega
      subst hd
      exact turn_ping1 frm 0 dst dport ttl id flags seq ack win addr port body r1 r2 r3 r4 r5 r6 r7 r8 (by omega) r10 hl ha hq (by omega)
    · exact turn_tcp1 frm sport dst dport ttl id flags seq ack win addr port body r1 r2 r3 r4 r5 r6 r7 r8 (by omega) r10 hl ha hq
    · exact turn_udp1 frm sport dst dport ttl id flags seq ack win addr port body r1 r2 r3 r4 r5 r6 r7 r8 (by omega) r10 hl ha hq
end Go.Proofs.Ytblimjilinkmbaa
