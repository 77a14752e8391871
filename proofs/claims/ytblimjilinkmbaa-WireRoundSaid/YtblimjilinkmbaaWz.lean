/- What wire.Turn writes. No conditions but the ones that stand in each. -/
import Derived.Test.YtblimjilinkmbaaWx
namespace Go.Proofs.Ytblimjilinkmbaa
set_option linter.all false
set_option linter.unusedSimpArgs false
open Go.RowKit

theorem rdE_parts {f : List UInt8} (h : rdE f = 0) : H6 f ∧ pkErr (rdK f) = 0 := by
  have h1 : ¬ G1 f := fun h1 => by rw [rd1 h1] at h; cases h
  have h2 : ¬ G2 f := fun h2 => by rw [rd2 h1 h2] at h; cases h
  have h3 : ¬ G3 f := fun h3 => by rw [rd3 h1 h2 h3] at h; cases h
  have h4 : ¬ G4 f := fun h4 => by rw [rd4 h1 h2 h3 h4] at h; cases h
  have k : H4 f := ⟨h1, h2, h3, h4⟩
  have h5 : ¬ G5 f := fun h5 => by rw [rd5 k h5] at h; cases h
  have h6 : ¬ G6 f := fun h6 => by rw [rd6 k h5 h6] at h; cases h
  have k6 : H6 f := ⟨k, h5, h6⟩
  have h7 : ¬ G7 f := fun h7 => by rw [rd7 k6 h7] at h; cases h
  have h8 : ¬ G8 f := fun h8 => by rw [rd8 k6 h7 h8] at h; cases h
  have h9 : ¬ G9 f := fun h9 => by rw [rd9 k6 h7 h8 h9] at h; cases h
  have h10 : ¬ G10 f := fun h10 => by rw [rd10 k6 h7 h8 h9 h10] at h; cases h
  exact ⟨k6, by rw [← rd11 k6 h7 h8 h9 h10]; exact h⟩
theorem rdK_proto (f : List UInt8) : (rdK f).proto = b1 f 9 := by
  unfold rdK
  dsimp only
  split
  · rfl
  · split <;> rfl
theorem rdE_tcp {f : List UInt8} (h : rdE f = 0) (h9 : b1 f 9 = 6) : 40 ≤ f.length := by
  have := (rdE_parts h).1.g6
  have h2 := rdE_long h
  unfold G6 at this
  rw [h9, List.length_drop] at this
  simp only [if_true] at this
  omega
theorem hi_eq (a : Int) (h : 0 ≤ a) : a.fdiv (2 ^ min 16 64) = a / 65536 := by
  rw [Int.fdiv_eq_ediv_of_nonneg _ (by decide)]; rfl
theorem lo_eq (a : Int) (h : 0 ≤ a ∧ a ≤ 4294967295) : bits .and .i64 a 65535 = a % 65536 := by
  obtain ⟨x, rfl⟩ := Int.eq_ofNat_of_zero_le h.1
  show IntKind.i64.wrap (((BitVec.ofInt 64 (x : Int)) &&& (BitVec.ofInt 64 65535)).toNat : Int) = _
  rw [BitVec.toNat_and, BitVec.toNat_ofInt, BitVec.toNat_ofInt]
  have e1 : ((x : Int) % ((2 ^ 64 : Nat) : Int)).toNat = x := by omega
  have e2 : ((65535 : Int) % ((2 ^ 64 : Nat) : Int)).toNat = 2 ^ 16 - 1 := by decide
  rw [e1, e2, Nat.and_two_pow_sub_one_eq_mod, IntKind.wrap_i64]
  omega
theorem tp_eq (t p : Int) (ht : 0 ≤ t ∧ t ≤ 255) (hp : 0 ≤ p ∧ p ≤ 255) : bits .or .i64 (t * 256) p = t * 256 + p := by
  have h := or_low t p hp.1 (by omega)
  rw [IntKind.wrap_i64, IntKind.wrap_i64] at h
  have e1 : (t * 256 + 9223372036854775808) % 18446744073709551616 - 9223372036854775808 = t * 256 := by omega
  have e2 : (256 * t + p + 9223372036854775808) % 18446744073709551616 - 9223372036854775808 = t * 256 + p := by omega
  rw [e1, e2] at h; exact h
theorem pow_8 : (2 : Int) ^ min 8 64 = 256 := by decide
theorem byts_set255 (l : List UInt8) (i : Nat) : (byts l).set i (.int .u8 255) = byts (l.set i 255) := by
  have e : (.int .u8 255 : AV) = .int .u8 ((255 : UInt8).toNat : Int) := rfl
  rw [e, byts, byts, List.map_set]
theorem setW_ff (l : List UInt8) (k : Nat) : setW l k 65535 = (l.set k 255).set (k + 1) 255 := by
  unfold setW
  rw [show byteI 65535 1 = 255 by decide, show byteI 65535 0 = 255 by decide]
theorem w2_0 (l : List UInt8) (k : Nat) (h : k + 2 ≤ l.length) : w2 l k = 0 ↔ b1 l k = 0 ∧ b1 l (k + 1) = 0 := by
  have := w2_b1 l k h
  have := b1_bd l k
  have := b1_bd l (k + 1)
  omega
def kI (k : Nat) : Int := k
theorem kI_0 : kI 0 = 0 := rfl
theorem kI_1 : kI 1 = 1 := rfl
theorem kI_2 : kI 2 = 2 := rfl
def sel3 (k : Nat) (a b c : List UInt8) : List UInt8 := match k with | 0 => a | 1 => b | _ => c
theorem sel3_0 (a b c : List UInt8) : sel3 0 a b c = a := rfl
theorem sel3_1 (a b c : List UInt8) : sel3 1 a b c = b := rfl
theorem sel3_2 (a b c : List UInt8) : sel3 2 a b c = c := rfl
def turnT (l : List UInt8) (side addr port : Int) : AV :=
  if rdE l ≠ 0 then .tup [.str [], .int .i64 (rdE l)]
  else if turnE (rdK l) side addr port ≠ 0 then .tup [.str [], .int .i64 (turnE (rdK l) side addr port)]
  else .tup [.str (turnB l (rdK l).proto (rdK l).ttl (atOf side) (whOf (rdK l).proto side) addr port), .int .i64 0]
theorem turn_nm (l : List UInt8) (side addr port : Int) : nmOk 0 (turnT l side addr port) := by
  unfold turnT; split
  · simp [nmOk, nmAll]
  · split <;> simp [nmOk, nmAll]
theorem turn_bad {l : List UInt8} {side addr port e : Int} (h : rdE l = 0) (ht : turnE (rdK l) side addr port = e) (he : e ≠ 0) : turnT l side addr port = .tup [.str [], .int .i64 e] := by
  unfold turnT; rw [if_neg (by omega), ht, if_pos he]
theorem te2 {p : Pk} {side addr port : Int} (h : side < 0 ∨ side > 1 ∨ ¬ (0 ≤ addr ∧ addr ≤ 4294967295) ∨ ¬ (0 ≤ port ∧ port ≤ 65535)) : turnE p side addr port = 2 := if_pos h
theorem te12 {p : Pk} {side addr port : Int} (h : ¬ (side < 0 ∨ side > 1 ∨ ¬ (0 ≤ addr ∧ addr ≤ 4294967295) ∨ ¬ (0 ≤ port ∧ port ≤ 65535))) (h2 : p.ttl = 1) : turnE p side addr port = 12 := (if_neg h).trans (if_pos h2)
theorem te4 {p : Pk} {side addr port : Int} (h : ¬ (side < 0 ∨ side > 1 ∨ ¬ (0 ≤ addr ∧ addr ≤ 4294967295) ∨ ¬ (0 ≤ port ∧ port ≤ 65535))) (h2 : ¬ p.ttl = 1) (h3 : p.proto = 1 ∧ ¬ (side = 0 ↔ p.flags = 8)) : turnE p side addr port = 4 := (if_neg h).trans ((if_neg h2).trans (if_pos h3))
theorem te0 {p : Pk} {side addr port : Int} (h : ¬ (side < 0 ∨ side > 1 ∨ ¬ (0 ≤ addr ∧ addr ≤ 4294967295) ∨ ¬ (0 ≤ port ∧ port ≤ 65535))) (h2 : ¬ p.ttl = 1) (h3 : ¬ (p.proto = 1 ∧ ¬ (side = 0 ↔ p.flags = 8))) : turnE p side addr port = 0 := (if_neg h).trans ((if_neg h2).trans (if_neg h3))
set_option maxHeartbeats 16000000 in
set_option maxRecDepth 20000 in
theorem Turn_ps (gl : Nat → AV) (l : List UInt8) (side addr port : Int) (hl : l.length ≤ 140737488351232) : PS Try.prog gl 23 [.str l, .int .i64 side, .int .i64 addr, .int .i64 port] (turnT l side addr port) := by
  refine ft_wTurn.ps (of_decide_eq_true rfl) (turn_nm l side addr port) fun c hN hg => ?_
  unfold T_wTurn
  have hP := Parse_ps c.gl l hl
  by_cases he : rdE l = 0
  rotate_left
  · rw [parse_bad rfl he] at hP
    have hr : turnT l side addr port = .tup [.str [], .int .i64 (rdE l)] := if_pos he
    rw [hr]
    clear hr
    generalize rdE l = E at *
    unfold pk0 Pk.enc at hP
    dsimp only at hP
    (refine XG ?_; ((try (repeat' with_reducible refine And.intro ?_ ?_)); (try any_goals (first | refine zm ?_ | exact CL | fail))))
    ((first | apply pr_psv | apply prD_psv | apply pr_qrunv | apply prD_qrunv) <;> (first | exact hP | (refine XG ?_; first | exact rfl | exact True.intro | ((try (repeat' with_reducible refine And.intro ?_ ?_)); (try any_goals (first | refine zm ?_ | exact CL | fail))))))
    (refine xw_ifp (fun g1 => ?_) (fun g1 => ?_) <;> try exact g1.elim)
    · (refine XG ?_; ((try (repeat' with_reducible refine And.intro ?_ ?_)); (try any_goals (first | refine zm ?_ | exact CL | fail))))
    · exact (he g1).elim
  obtain ⟨l28, l65⟩ := rdE_long he
  have htcp := @rdE_tcp l he
  have hpr := rdK_proto l
  obtain ⟨hK6, hpk⟩ := rdE_parts he
  obtain ⟨hp, hr, hbl, hfm⟩ := pkErr_ok hpk
  rw [parse_good he] at hP
  have hlo := long_ps c.gl [addr] (by simp)
  have hwo := word_ps c.gl [port] (by simp)
  have hbad := fun e => @turn_bad l side addr port e he
  have hte2 := @te2 (rdK l) side addr port
  have hte12 := @te12 (rdK l) side addr port
  have hte4 := @te4 (rdK l) side addr port
  have hte0 := @te0 (rdK l) side addr port
  have hgood : turnE (rdK l) side addr port = 0 → turnT l side addr port = .tup [.str (turnB l (rdK l).proto (rdK l).ttl (atOf side) (whOf (rdK l).proto side) addr port), .int .i64 0] := fun h => by
    unfold turnT; rw [if_neg (by omega), if_neg (by omega)]
  generalize turnT l side addr port = TT at *
  generalize turnE (rdK l) side addr port = TE at *
  obtain ⟨r1, r2, r3, r4, r5, r6, r7, r8, r9, r10⟩ := hr
  clear hfm hbl hpk hK6
  generalize rdK l = q at *
  obtain ⟨proto, frm, sport, dst, dport, ttl, id, flags, seq, ack, win, body⟩ := q
  unfold Pk.enc at hP
  dsimp only at *
  clear r1 r2 r3 r4 r5 r6 r7 r8
  have HB := Lib.hid hbad
  have HT2 := Lib.hid hte2
  have HT12 := Lib.hid hte12
  have HT4 := Lib.hid hte4
  have HT0 := Lib.hid hte0
  have HG := Lib.hid hgood
  have HTCP := Lib.hid htcp
  clear hbad hte2 hte12 hte4 hte0 hgood htcp
  by_cases hside : side < 0 ∨ side > 1
  · rw [HB.out _ (HT2.out (by omega)) (by decide)]
    have d1 : (decide (side < 0) || decide (1 < side)) = true := by simp; omega
    (refine XG ?_; ((try (repeat' with_reducible refine And.intro ?_ ?_)); (try any_goals (first | refine zm ?_ | exact CL | fail))))
    ((first | apply pr_psv | apply prD_psv | apply pr_qrunv | apply prD_qrunv) <;> (first | exact hP | (refine XG ?_; first | exact rfl | exact True.intro | ((try (repeat' with_reducible refine And.intro ?_ ?_)); (try any_goals (first | refine zm ?_ | exact CL | fail))))))
    (refine xw_ifp (fun g1 => ?_) (fun g1 => ?_) <;> try exact g1.elim)
    (have zf1 := @d1; refine XG ?_; clear zf1; ((try (repeat' with_reducible refine And.intro ?_ ?_)); (try any_goals (first | refine zm ?_ | exact CL | fail))))
    ((first | apply pr_skip | apply prD_skip) <;> (have zf1 := @d1; refine XG ?_; clear zf1; first | exact rfl | exact True.intro | ((try (repeat' with_reducible refine And.intro ?_ ?_)); (try any_goals (first | refine zm ?_ | exact CL | fail)))))
    ((first | apply pr_skip | apply prD_skip) <;> (have zf1 := @d1; refine XG ?_; clear zf1; first | exact rfl | exact True.intro | ((try (repeat' with_reducible refine And.intro ?_ ?_)); (try any_goals (first | refine zm ?_ | exact CL | fail)))))
    ((first | apply pr_skip | apply prD_skip) <;> (have zf1 := @d1; refine XG ?_; clear zf1; first | exact rfl | exact True.intro | ((try (repeat' with_reducible refine And.intro ?_ ?_)); (try any_goals (first | refine zm ?_ | exact CL | fail)))))
    ((first | apply pr_skip | apply prD_skip) <;> (have zf1 := @d1; refine XG ?_; clear zf1; first | exact rfl | exact True.intro | ((try (repeat' with_reducible refine And.intro ?_ ?_)); (try any_goals (first | refine zm ?_ | exact CL | fail)))))
    (refine xw_ifp (fun g2 => ?_) (fun g2 => ?_) <;> try exact g2.elim)
    (refine XG ?_; ((try (repeat' with_reducible refine And.intro ?_ ?_)); (try any_goals (first | refine zm ?_ | exact CL | fail))))
  have d1 : (decide (side < 0) || decide (1 < side)) = false := by simp; omega
  by_cases haddr : 0 ≤ addr ∧ addr ≤ 4294967295
  rotate_left
  · rw [HB.out _ (HT2.out (by omega)) (by decide)]
    have hb : [addr].all (inW 4294967295) = false := by simp [inW]; omega
    rw [hb] at hlo
    (refine XG ?_; ((try (repeat' with_reducible refine And.intro ?_ ?_)); (try any_goals (first | refine zm ?_ | exact CL | fail))))
    ((first | apply pr_psv | apply prD_psv | apply pr_qrunv | apply prD_qrunv) <;> (first | exact hP | (refine XG ?_; first | exact rfl | exact True.intro | ((try (repeat' with_reducible refine And.intro ?_ ?_)); (try any_goals (first | refine zm ?_ | exact CL | fail))))))
    (refine xw_ifp (fun g1 => ?_) (fun g1 => ?_) <;> try exact g1.elim)
    (have zf1 := @d1; refine XG ?_; clear zf1; ((try (repeat' with_reducible refine And.intro ?_ ?_)); (try any_goals (first | refine zm ?_ | exact CL | fail))))
    ((refine pr_on ?_ ?_ ?_); (focus (have zf1 := @d1; refine XG ?_; clear zf1; try first | exact rfl | exact True.intro)); (focus (have zf1 := @d1; refine XG ?_; clear zf1; try trivial)))
    ((first | apply pr_app | apply prD_app | apply pr_bsl | apply prD_bsl | apply pr_s2b | apply prD_s2b); (have zf1 := @d1; refine XG ?_; clear zf1; ((try (repeat' with_reducible refine And.intro ?_ ?_)); (try any_goals (first | refine zm ?_ | exact CL | fail)))))
    ((first | apply pr_bor | apply prD_bor) <;> (first | exact hlo | (with_reducible (exact Flat.bool _)) | (have zf1 := @d1; refine XG ?_; clear zf1; first | exact rfl | exact True.intro | ((try (repeat' with_reducible refine And.intro ?_ ?_)); (try any_goals (first | refine zm ?_ | exact CL | fail))))))
    ((first | apply pr_skip | apply prD_skip) <;> (have zf1 := @d1; refine XG ?_; clear zf1; first | exact rfl | exact True.intro | ((try (repeat' with_reducible refine And.intro ?_ ?_)); (try any_goals (first | refine zm ?_ | exact CL | fail)))))
    ((first | apply pr_skip | apply prD_skip) <;> (have zf1 := @d1; refine XG ?_; clear zf1; first | exact rfl | exact True.intro | ((try (repeat' with_reducible refine And.intro ?_ ?_)); (try any_goals (first | refine zm ?_ | exact CL | fail)))))
    (refine xw_ifp (fun g2 => ?_) (fun g2 => ?_) <;> try exact g2.elim)
    (refine XG ?_; ((try (repeat' with_reducible refine And.intro ?_ ?_)); (try any_goals (first | refine zm ?_ | exact CL | fail))))
  have hb : [addr].all (inW 4294967295) = true := by simp [inW]; omega
  rw [hb] at hlo
  by_cases hport : 0 ≤ port ∧ port ≤ 65535
  rotate_left
  · rw [HB.out _ (HT2.out (by omega)) (by decide)]
    have hb2 : [port].all (inW 65535) = false := by simp [inW]; omega
    rw [hb2] at hwo
    (refine XG ?_; ((try (repeat' with_reducible refine And.intro ?_ ?_)); (try any_goals (first | refine zm ?_ | exact CL | fail))))
    ((first | apply pr_psv | apply prD_psv | apply pr_qrunv | apply prD_qrunv) <;> (first | exact hP | (refine XG ?_; first | exact rfl | exact True.intro | ((try (repeat' with_reducible refine And.intro ?_ ?_)); (try any_goals (first | refine zm ?_ | exact CL | fail))))))
    (refine xw_ifp (fun g1 => ?_) (fun g1 => ?_) <;> try exact g1.elim)
    (have zf1 := @d1; refine XG ?_; clear zf1; ((try (repeat' with_reducible refine And.intro ?_ ?_)); (try any_goals (first | refine zm ?_ | exact CL | fail))))
    ((refine pr_on ?_ ?_ ?_); (focus (have zf1 := @d1; refine XG ?_; clear zf1; try first | exact rfl | exact True.intro)); (focus (have zf1 := @d1; refine XG ?_; clear zf1; try trivial)))
    ((first | apply pr_app | apply prD_app | apply pr_bsl | apply prD_bsl | apply pr_s2b | apply prD_s2b); (have zf1 := @d1; refine XG ?_; clear zf1; ((try (repeat' with_reducible refine And.intro ?_ ?_)); (try any_goals (first | refine zm ?_ | exact CL | fail)))))
    ((first | apply pr_bor | apply prD_bor) <;> (first | exact hlo | (with_reducible (exact Flat.bool _)) | (have zf1 := @d1; refine XG ?_; clear zf1; first | exact rfl | exact True.intro | ((try (repeat' with_reducible refine And.intro ?_ ?_)); (try any_goals (first | refine zm ?_ | exact CL | fail))))))
    ((refine pr_on ?_ ?_ ?_); (focus (have zf1 := @d1; refine XG ?_; clear zf1; try first | exact rfl | exact True.intro)); (focus (have zf1 := @d1; refine XG ?_; clear zf1; try trivial)))
    ((first | apply pr_app | apply prD_app | apply pr_bsl | apply prD_bsl | apply pr_s2b | apply prD_s2b); (have zf1 := @d1; refine XG ?_; clear zf1; ((try (repeat' with_reducible refine And.intro ?_ ?_)); (try any_goals (first | refine zm ?_ | exact CL | fail)))))
    ((first | apply pr_bor | apply prD_bor) <;> (first | exact hwo | (with_reducible (exact Flat.bool _)) | (have zf1 := @d1; refine XG ?_; clear zf1; first | exact rfl | exact True.intro | ((try (repeat' with_reducible refine And.intro ?_ ?_)); (try any_goals (first | refine zm ?_ | exact CL | fail))))))
    (refine xw_ifp (fun g2 => ?_) (fun g2 => ?_) <;> try exact g2.elim)
    (refine XG ?_; ((try (repeat' with_reducible refine And.intro ?_ ?_)); (try any_goals (first | refine zm ?_ | exact CL | fail))))
  have hb2 : [port].all (inW 65535) = true := by simp [inW]; omega
  rw [hb2] at hwo
  have hok : ¬ (side < 0 ∨ side > 1 ∨ ¬ (0 ≤ addr ∧ addr ≤ 4294967295) ∨ ¬ (0 ≤ port ∧ port ≤ 65535)) := by omega
  clear hb hb2
  (refine XG ?_; ((try (repeat' with_reducible refine And.intro ?_ ?_)); (try any_goals (first | refine zm ?_ | exact CL | fail))))
  ((first | apply pr_psv | apply prD_psv | apply pr_qrunv | apply prD_qrunv) <;> (first | exact hP | (refine XG ?_; first | exact rfl | exact True.intro | ((try (repeat' with_reducible refine And.intro ?_ ?_)); (try any_goals (first | refine zm ?_ | exact CL | fail))))))
  (refine xw_ifp (fun g1 => ?_) (fun g1 => ?_) <;> try exact g1.elim)
  (have zf1 := @d1; refine XG ?_; clear zf1; ((try (repeat' with_reducible refine And.intro ?_ ?_)); (try any_goals (first | refine zm ?_ | exact CL | fail))))
  ((refine pr_on ?_ ?_ ?_); (focus (have zf1 := @d1; refine XG ?_; clear zf1; try first | exact rfl | exact True.intro)); (focus (have zf1 := @d1; refine XG ?_; clear zf1; try trivial)))
  ((first | apply pr_app | apply prD_app | apply pr_bsl | apply prD_bsl | apply pr_s2b | apply prD_s2b); (have zf1 := @d1; refine XG ?_; clear zf1; ((try (repeat' with_reducible refine And.intro ?_ ?_)); (try any_goals (first | refine zm ?_ | exact CL | fail)))))
  ((first | apply pr_bor | apply prD_bor) <;> (first | exact hlo | (with_reducible (exact Flat.bool _)) | (have zf1 := @d1; refine XG ?_; clear zf1; first | exact rfl | exact True.intro | ((try (repeat' with_reducible refine And.intro ?_ ?_)); (try any_goals (first | refine zm ?_ | exact CL | fail))))))
  ((refine pr_on ?_ ?_ ?_); (focus (have zf1 := @d1; refine XG ?_; clear zf1; try first | exact rfl | exact True.intro)); (focus (have zf1 := @d1; refine XG ?_; clear zf1; try trivial)))
  ((first | apply pr_app | apply prD_app | apply pr_bsl | apply prD_bsl | apply pr_s2b | apply prD_s2b); (have zf1 := @d1; refine XG ?_; clear zf1; ((try (repeat' with_reducible refine And.intro ?_ ?_)); (try any_goals (first | refine zm ?_ | exact CL | fail)))))
  ((first | apply pr_bor | apply prD_bor) <;> (first | exact hwo | (with_reducible (exact Flat.bool _)) | (have zf1 := @d1; refine XG ?_; clear zf1; first | exact rfl | exact True.intro | ((try (repeat' with_reducible refine And.intro ?_ ?_)); (try any_goals (first | refine zm ?_ | exact CL | fail))))))
  (refine xw_ifp (fun g2 => ?_) (fun g2 => ?_) <;> try exact g2.elim)
  (refine XG ?_; ((try (repeat' with_reducible refine And.intro ?_ ?_)); (try any_goals (first | refine zm ?_ | exact CL | fail))))
  (refine xw_ifp (fun h12 => ?_) (fun h12 => ?_) <;> try exact h12.elim)
  · rw [HB.out _ (HT12.out hok h12) (by decide)]
    (refine XG ?_; ((try (repeat' with_reducible refine And.intro ?_ ?_)); (try any_goals (first | refine zm ?_ | exact CL | fail))))
  rcases hp with h9 | h9 | h9
  · rw [h9]
    have hsz := sizes_ps c.gl 1
    have hz : sizesT 1 = .tup [.int .i64 8, .int .i64 2] := rfl
    rw [hz] at hsz
    clear hz
    have hlm : 28 ≤ l.length := by omega
    by_cases hsf : side = 0 ↔ flags = 8
    rotate_left
    · rw [HB.out _ (HT4.out hok h12 ⟨h9, hsf⟩) (by decide)]
      have hx : ((side == 0) == (flags == 8)) = false := by
        by_cases h1 : side = 0
        · rw [show (side == 0) = true by simp [h1], show (flags == 8) = false by simp; exact fun h => hsf ⟨fun _ => h, fun _ => h1⟩]; rfl
        · rw [show (side == 0) = false by simp [h1], show (flags == 8) = true by simp; exact Decidable.not_not.1 fun h => hsf ⟨fun x => (h1 x).elim, fun x => (h x).elim⟩]; rfl
      (have zf1 := @hx; have zf2 := @Bool.not_true; have zf3 := @Bool.not_false; refine XG ?_; clear zf1 zf2 zf3; ((try (repeat' with_reducible refine And.intro ?_ ?_)); (try any_goals (first | refine zm ?_ | exact CL | fail))))
      (refine xw_ifp (fun g3 => ?_) (fun g3 => ?_) <;> try exact g3.elim)
      (refine XG ?_; ((try (repeat' with_reducible refine And.intro ?_ ?_)); (try any_goals (first | refine zm ?_ | exact CL | fail))))
    have hx : ((side == 0) == (flags == 8)) = true := by
      by_cases h1 : side = 0
      · rw [show (side == 0) = true by simp [h1], show (flags == 8) = true by simp [hsf.1 h1]]; rfl
      · rw [show (side == 0) = false by simp [h1], show (flags == 8) = false by simp; exact fun h => h1 (hsf.2 h)]; rfl
    rw [HG.out (HT0.out hok h12 (fun h => h.2 hsf)), h9]
    (have zf1 := @hx; have zf2 := @Bool.not_true; have zf3 := @Bool.not_false; refine XG ?_; clear zf1 zf2 zf3; ((try (repeat' with_reducible refine And.intro ?_ ?_)); (try any_goals (first | refine zm ?_ | exact CL | fail))))
    clear HB HT2 HT12 HT4 HT0 HG HTCP
    obtain rfl | rfl : side = 0 ∨ side = 1 := by omega
    · have hfin : turnB l 1 ttl (atOf 0) (whOf 1 0) addr port = turnB l 1 ttl 12 24 addr port := rfl
      rw [hfin]
      clear hfin
      have e1 := hi_eq addr haddr.1
      have e2 := lo_eq addr haddr
      have e3 := tp_eq (ttl - 1) 1 (by omega) (by omega)
      have t3 : turnB l 1 ttl 12 24 addr port = (if (w2 (setC (setC (tl (setC (tl (setC l 12 10 (addr / 65536)) 1 (w2 l 12) (addr / 65536)) 14 10 (addr % 65536)) 1 (w2 (tl (setC l 12 10 (addr / 65536)) 1 (w2 l 12) (addr / 65536)) 14) (addr % 65536)) 8 10 ((ttl - 1) * 256 + 1)) 24 22 port) 22 = 0) ∧ ((1 : Int) = 17 ∨ ofN ((setC (setC (tl (setC (tl (setC l 12 10 (addr / 65536)) 1 (w2 l 12) (addr / 65536)) 14 10 (addr % 65536)) 1 (w2 (tl (setC l 12 10 (addr / 65536)) 1 (w2 l 12) (addr / 65536)) 14) (addr % 65536)) 8 10 ((ttl - 1) * 256 + 1)) 24 22 port).drop 20) = 0) then setW (setC (setC (tl (setC (tl (setC l 12 10 (addr / 65536)) 1 (w2 l 12) (addr / 65536)) 14 10 (addr % 65536)) 1 (w2 (tl (setC l 12 10 (addr / 65536)) 1 (w2 l 12) (addr / 65536)) 14) (addr % 65536)) 8 10 ((ttl - 1) * 256 + 1)) 24 22 port) 22 65535 else setC (setC (tl (setC (tl (setC l 12 10 (addr / 65536)) 1 (w2 l 12) (addr / 65536)) 14 10 (addr % 65536)) 1 (w2 (tl (setC l 12 10 (addr / 65536)) 1 (w2 l 12) (addr / 65536)) 14) (addr % 65536)) 8 10 ((ttl - 1) * 256 + 1)) 24 22 port) := rfl
      rw [t3]
      clear t3
      obtain ⟨hi, hhi⟩ : ∃ x, x = addr / 65536 := ⟨_, rfl⟩
      obtain ⟨lo, hlw⟩ : ∃ x, x = addr % 65536 := ⟨_, rfl⟩
      rw [← hhi] at e1 ⊢
      rw [← hlw] at e2 ⊢
      have hhib : 0 ≤ hi ∧ hi ≤ 65535 := by omega
      have hlwb : 0 ≤ lo ∧ lo ≤ 65535 := by omega
      have E1 : tl (setC l 12 10 hi) 1 (w2 l 12) hi = setC l 12 10 hi := rfl
      obtain ⟨B1, hB1⟩ : ∃ x, x = tl (setC l 12 10 hi) 1 (w2 l 12) hi := ⟨_, rfl⟩
      rw [← hB1]
      rw [E1] at hB1
      have E2 : tl (setC B1 14 10 lo) 1 (w2 B1 14) lo = setC B1 14 10 lo := rfl
      obtain ⟨B2, hB2⟩ : ∃ x, x = tl (setC B1 14 10 lo) 1 (w2 B1 14) lo := ⟨_, rfl⟩
      rw [← hB2]
      rw [E2] at hB2
      clear E1 E2
      have hL1 : B1.length = l.length := by rw [hB1]; simp [setC_len, tellW_len]
      have hL2 : B2.length = l.length := by rw [hB2]; simp [setC_len, tellW_len, hL1]
      have hL3 : (setC B2 8 10 ((ttl - 1) * 256 + 1)).length = l.length := by rw [setC_len, hL2]
      have hL4 : (setC (setC B2 8 10 ((ttl - 1) * 256 + 1)) 24 22 port).length = l.length := by rw [setC_len, hL3]
      have s3 := set_gs c.gl B2 false 8 10 ((ttl - 1) * 256 + 1) (by omega) (by omega) (by omega)
      have s4 := set_gs c.gl (setC B2 8 10 ((ttl - 1) * 256 + 1)) false 24 22 port (by omega) (by omega) (by omega)
      rw [hL2] at s3
      rw [hL3] at s4
      generalize setC (setC B2 8 10 ((ttl - 1) * 256 + 1)) 24 22 port = B4 at *
      generalize setC B2 8 10 ((ttl - 1) * 256 + 1) = B3 at *
      obtain ⟨RR, hRR⟩ : ∃ x, x = (if (w2 B4 22 = 0) ∧ ((1 : Int) = 17 ∨ ofN (B4.drop 20) = 0) then setW B4 22 65535 else B4) := ⟨_, rfl⟩
      rw [← hRR]
      have HRR := Lib.hid hRR
      clear hRR
      (refine xw_ifp (fun g3 => ?_) (fun g3 => ?_) <;> try exact g3.elim)
      (refine XG ?_; ((try (repeat' with_reducible refine And.intro ?_ ?_)); (try any_goals (first | refine zm ?_ | exact CL | fail))))
      ((first | apply pr_app | apply prD_app | apply pr_bsl | apply prD_bsl | apply pr_s2b | apply prD_s2b); (refine XG ?_; ((try (repeat' with_reducible refine And.intro ?_ ?_)); (try any_goals (first | refine zm ?_ | exact CL | fail)))))
      have hlw2 : addr % 65536 = lo := hlw.symm
      clear hlw
      ((first | apply pr_psv | apply prD_psv | apply pr_qrunv | apply prD_qrunv) <;> (first | exact hsz | (have zf1 := @e1; have zf2 := @hlw2; refine XM ?_; clear zf1 zf2; first | exact rfl | exact True.intro | ((try (repeat' with_reducible refine And.intro ?_ ?_)); (try any_goals (first | refine zm ?_ | exact CL | fail))))))
      refine loop_rule (fun k : Nat => k ≤ 2) (fun k => ⟨[(1, .int .i64 0), (3, .int .i64 port), (10, .ptr 0 0), (12, .ptr 2 0), (14, .int .i64 22), (15, .int .i64 12), (86, .agg [.int .i64 hi, .int .i64 lo]), (87, .int .i64 (kI k))], [(0, .cells [.int .i64 1, .int .i64 frm, .int .i64 sport, .int .i64 dst, .int .i64 dport, .int .i64 ttl, .int .i64 id, .int .i64 flags, .int .i64 seq, .int .i64 ack, .int .i64 win, .str body]), (1, .cells (byts (sel3 k l B1 B2))), (2, .cells [.sl 1 1 0 l.length l.length, .bool false])], 3⟩) (fun k => 2 - k) ft_wTurn.mixed hN
        ⟨0, by omega, [(1, 3), (2, 4)], by (have zf1 := @sel3_0; have zf2 := @kI_0; refine XG ?_; clear zf1 zf2; ((try (repeat' with_reducible refine And.intro ?_ ?_)); (try any_goals (first | refine zm ?_ | exact CL | fail))))⟩ fun k hk => ?_
      obtain rfl | rfl | rfl : k = 0 ∨ k = 1 ∨ k = 2 := by omega
      · (have zf1 := @sel3_0; have zf2 := @kI_0; refine XM ?_; clear zf1 zf2; ((try (repeat' with_reducible refine And.intro ?_ ?_)); (try any_goals (first | refine zm ?_ | exact CL | fail))))
        (refine xw_ifp (fun q1 => ?_) (fun q1 => ?_) <;> try exact q1.elim)
        (have zf1 := @sel3_0; have zf2 := @kI_0; refine XM ?_; clear zf1 zf2; ((try (repeat' with_reducible refine And.intro ?_ ?_)); (try any_goals (first | refine zm ?_ | exact CL | fail))))
        ((first | apply pr_psv | apply prD_psv | apply pr_qrunv | apply prD_qrunv) <;> (first | exact (nw2 c.gl l 12) | (refine XM ?_; first | exact rfl | exact True.intro | ((try (repeat' with_reducible refine And.intro ?_ ?_)); (try any_goals (first | refine zm ?_ | exact CL | fail))))))
        ((first | refine pr_gs (ins := [2, 1]) (set_gs c.gl l false 12 10 hi (by omega) (by omega) (by omega)) ?_ ?_ | refine prD_gs (ins := [2, 1]) (set_gs c.gl l false 12 10 hi (by omega) (by omega) (by omega)) ?_ ?_ | refine pr_gsv (ins := [2, 1]) (set_gs c.gl l false 12 10 hi (by omega) (by omega) (by omega)) ?_ ?_ | refine prD_gsv (ins := [2, 1]) (set_gs c.gl l false 12 10 hi (by omega) (by omega) (by omega)) ?_ ?_) <;> (have zf1 := @hL1; refine XM ?_; clear zf1; (try first | exact rfl | exact True.intro); ((try (repeat' with_reducible refine And.intro ?_ ?_)); (try any_goals (first | refine zm ?_ | exact CL | fail)))))
        · rfl
        (refine xw_ifp (fun q2 => ?_) (fun q2 => ?_) <;> try exact q2.elim)
        (refine XM ?_; ((try (repeat' with_reducible refine And.intro ?_ ?_)); (try any_goals (first | refine zm ?_ | exact CL | fail))))
        refine ⟨1, by omega, ⟨[], ?_⟩, by omega⟩
        (have zf1 := @sel3_1; have zf2 := @kI_1; have zf3 := @hB1; refine XM ?_; clear zf1 zf2 zf3; ((try (repeat' with_reducible refine And.intro ?_ ?_)); (try any_goals (first | refine zm ?_ | exact CL | fail))))
      · (have zf1 := @sel3_1; have zf2 := @kI_1; refine XM ?_; clear zf1 zf2; ((try (repeat' with_reducible refine And.intro ?_ ?_)); (try any_goals (first | refine zm ?_ | exact CL | fail))))
        (refine xw_ifp (fun q1 => ?_) (fun q1 => ?_) <;> try exact q1.elim)
        (have zf1 := @sel3_1; have zf2 := @kI_1; refine XM ?_; clear zf1 zf2; ((try (repeat' with_reducible refine And.intro ?_ ?_)); (try any_goals (first | refine zm ?_ | exact CL | fail))))
        ((first | apply pr_psv | apply prD_psv | apply pr_qrunv | apply prD_qrunv) <;> (first | exact (nw2 c.gl B1 14) | (refine XM ?_; first | exact rfl | exact True.intro | ((try (repeat' with_reducible refine And.intro ?_ ?_)); (try any_goals (first | refine zm ?_ | exact CL | fail))))))
        ((first | refine pr_gs (ins := [2, 1]) (set_gs c.gl B1 false 14 10 lo (by omega) (by omega) (by omega)) ?_ ?_ | refine prD_gs (ins := [2, 1]) (set_gs c.gl B1 false 14 10 lo (by omega) (by omega) (by omega)) ?_ ?_ | refine pr_gsv (ins := [2, 1]) (set_gs c.gl B1 false 14 10 lo (by omega) (by omega) (by omega)) ?_ ?_ | refine prD_gsv (ins := [2, 1]) (set_gs c.gl B1 false 14 10 lo (by omega) (by omega) (by omega)) ?_ ?_) <;> (have zf1 := @hL1; refine XM ?_; clear zf1; (try first | exact rfl | exact True.intro); ((try (repeat' with_reducible refine And.intro ?_ ?_)); (try any_goals (first | refine zm ?_ | exact CL | fail)))))
        · rfl
        (refine xw_ifp (fun q2 => ?_) (fun q2 => ?_) <;> try exact q2.elim)
        (refine XM ?_; ((try (repeat' with_reducible refine And.intro ?_ ?_)); (try any_goals (first | refine zm ?_ | exact CL | fail))))
        refine ⟨2, by omega, ⟨[], ?_⟩, by omega⟩
        (have zf1 := @sel3_2; have zf2 := @kI_2; have zf3 := @hB2; refine XM ?_; clear zf1 zf2 zf3; ((try (repeat' with_reducible refine And.intro ?_ ?_)); (try any_goals (first | refine zm ?_ | exact CL | fail))))
      (have zf1 := @sel3_2; have zf2 := @kI_2; refine XM ?_; clear zf1 zf2; ((try (repeat' with_reducible refine And.intro ?_ ?_)); (try any_goals (first | refine zm ?_ | exact CL | fail))))
      (refine xw_ifp (fun q1 => ?_) (fun q1 => ?_) <;> try exact q1.elim)
      (have zf1 := @sel3_2; have zf2 := @kI_2; have zf3 := @pow_8; have zf4 := @e3; refine XM ?_; clear zf1 zf2 zf3 zf4; ((try (repeat' with_reducible refine And.intro ?_ ?_)); (try any_goals (first | refine zm ?_ | exact CL | fail))))
      ((first | refine pr_gs (ins := [2, 1]) s3 ?_ ?_ | refine prD_gs (ins := [2, 1]) s3 ?_ ?_ | refine pr_gsv (ins := [2, 1]) s3 ?_ ?_ | refine prD_gsv (ins := [2, 1]) s3 ?_ ?_) <;> (have zf1 := @pow_8; have zf2 := @e3; have zf3 := @hL3; refine XM ?_; clear zf1 zf2 zf3; (try first | exact rfl | exact True.intro); ((try (repeat' with_reducible refine And.intro ?_ ?_)); (try any_goals (first | refine zm ?_ | exact CL | fail)))))
      · rfl
      (refine xw_ifp (fun q2 => ?_) (fun q2 => ?_) <;> try exact q2.elim)
      (refine XM ?_; ((try (repeat' with_reducible refine And.intro ?_ ?_)); (try any_goals (first | refine zm ?_ | exact CL | fail))))
      have hz := w2_0 B4 22 (by omega)
      have hOf := Of_ps c.gl (B4.drop 20) (by rw [List.length_drop]; omega)
      by_cases z : w2 B4 22 = 0
      · have bz1 : (b1 B4 22 == 0) = true := by simp [(hz.1 z).1]
        have bz2 : (b1 B4 23 == 0) = true := by simp [(hz.1 z).2]
        ((first | refine pr_gs (ins := [2, 1]) s4 ?_ ?_ | refine prD_gs (ins := [2, 1]) s4 ?_ ?_ | refine pr_gsv (ins := [2, 1]) s4 ?_ ?_ | refine prD_gsv (ins := [2, 1]) s4 ?_ ?_) <;> (have zf1 := @hL4; have zf2 := @b1_fold; have zf3 := @bz1; have zf4 := @bz2; refine XM ?_; clear zf1 zf2 zf3 zf4; (try first | exact rfl | exact True.intro); ((try (repeat' with_reducible refine And.intro ?_ ?_)); (try any_goals (first | refine zm ?_ | exact CL | fail)))))
        · rfl
        ((first | apply pr_psv | apply prD_psv | apply pr_qrunv | apply prD_qrunv) <;> (first | exact hOf | (have zf1 := @b1_fold; have zf2 := @bz1; have zf3 := @bz2; refine XG ?_; clear zf1 zf2 zf3; first | exact rfl | exact True.intro | ((try (repeat' with_reducible refine And.intro ?_ ?_)); (try any_goals (first | refine zm ?_ | exact CL | fail))))))
        by_cases zz : ofN (B4.drop 20) = 0
        · have bo : (ofN (B4.drop 20) == 0) = true := by simp [zz]
          have hR1 : RR = (B4.set 22 255).set 23 255 := (HRR.out.trans (if_pos ⟨z, .inr zz⟩)).trans (setW_ff _ _)
          rw [hR1]
          clear hR1
          (refine xw_ifp (fun q3 => ?_) (fun q3 => ?_) <;> try exact q3.elim)
          · (have zf1 := @byts_set255; have zf2 := @hL4; refine XM ?_; clear zf1 zf2; ((try (repeat' with_reducible refine And.intro ?_ ?_)); (try any_goals (first | refine zm ?_ | exact CL | fail))))
          · omega
        · have hR1 : RR = B4 := HRR.out.trans (if_neg fun h => h.2.elim (by omega) zz)
          rw [hR1]
          clear hR1
          (refine xw_ifp (fun q3 => ?_) (fun q3 => ?_) <;> try exact q3.elim)
          · omega
          · (refine XG ?_; ((try (repeat' with_reducible refine And.intro ?_ ?_)); (try any_goals (first | refine zm ?_ | exact CL | fail))))
      · have bz : (b1 B4 22 == 0 && b1 B4 23 == 0) = false := by
          have hn : ¬ (b1 B4 22 = 0 ∧ b1 B4 23 = 0) := fun h => z (hz.2 h)
          rw [Bool.and_eq_false_iff, beq_eq_false_iff_ne, beq_eq_false_iff_ne]; omega
        have hR1 : RR = B4 := HRR.out.trans (if_neg fun h => z h.1)
        rw [hR1]
        clear hR1
        ((first | refine pr_gs (ins := [2, 1]) s4 ?_ ?_ | refine prD_gs (ins := [2, 1]) s4 ?_ ?_ | refine pr_gsv (ins := [2, 1]) s4 ?_ ?_ | refine prD_gsv (ins := [2, 1]) s4 ?_ ?_) <;> (have zf1 := @hL4; have zf2 := @b1_fold; have zf3 := @bz; refine XM ?_; clear zf1 zf2 zf3; (try first | exact rfl | exact True.intro); ((try (repeat' with_reducible refine And.intro ?_ ?_)); (try any_goals (first | refine zm ?_ | exact CL | fail)))))
        · rfl
        ((first | apply pr_skip | apply prD_skip) <;> (have zf1 := @b1_fold; have zf2 := @bz; refine XG ?_; clear zf1 zf2; first | exact rfl | exact True.intro | ((try (repeat' with_reducible refine And.intro ?_ ?_)); (try any_goals (first | refine zm ?_ | exact CL | fail)))))
        (refine xw_ifp (fun q3 => ?_) (fun q3 => ?_) <;> try exact q3.elim)
        (have zf1 := @b1_fold; have zf2 := @bz; refine XG ?_; clear zf1 zf2; ((try (repeat' with_reducible refine And.intro ?_ ?_)); (try any_goals (first | refine zm ?_ | exact CL | fail))))
    · have hfin : turnB l 1 ttl (atOf 1) (whOf 1 1) addr port = turnB l 1 ttl 16 24 addr port := rfl
      rw [hfin]
      clear hfin
      have e1 := hi_eq addr haddr.1
      have e2 := lo_eq addr haddr
      have e3 := tp_eq (ttl - 1) 1 (by omega) (by omega)
      have t3 : turnB l 1 ttl 16 24 addr port = (if (w2 (setC (setC (tl (setC (tl (setC l 16 10 (addr / 65536)) 1 (w2 l 16) (addr / 65536)) 18 10 (addr % 65536)) 1 (w2 (tl (setC l 16 10 (addr / 65536)) 1 (w2 l 16) (addr / 65536)) 18) (addr % 65536)) 8 10 ((ttl - 1) * 256 + 1)) 24 22 port) 22 = 0) ∧ ((1 : Int) = 17 ∨ ofN ((setC (setC (tl (setC (tl (setC l 16 10 (addr / 65536)) 1 (w2 l 16) (addr / 65536)) 18 10 (addr % 65536)) 1 (w2 (tl (setC l 16 10 (addr / 65536)) 1 (w2 l 16) (addr / 65536)) 18) (addr % 65536)) 8 10 ((ttl - 1) * 256 + 1)) 24 22 port).drop 20) = 0) then setW (setC (setC (tl (setC (tl (setC l 16 10 (addr / 65536)) 1 (w2 l 16) (addr / 65536)) 18 10 (addr % 65536)) 1 (w2 (tl (setC l 16 10 (addr / 65536)) 1 (w2 l 16) (addr / 65536)) 18) (addr % 65536)) 8 10 ((ttl - 1) * 256 + 1)) 24 22 port) 22 65535 else setC (setC (tl (setC (tl (setC l 16 10 (addr / 65536)) 1 (w2 l 16) (addr / 65536)) 18 10 (addr % 65536)) 1 (w2 (tl (setC l 16 10 (addr / 65536)) 1 (w2 l 16) (addr / 65536)) 18) (addr % 65536)) 8 10 ((ttl - 1) * 256 + 1)) 24 22 port) := rfl
      rw [t3]
      clear t3
      obtain ⟨hi, hhi⟩ : ∃ x, x = addr / 65536 := ⟨_, rfl⟩
      obtain ⟨lo, hlw⟩ : ∃ x, x = addr % 65536 := ⟨_, rfl⟩
      rw [← hhi] at e1 ⊢
      rw [← hlw] at e2 ⊢
      have hhib : 0 ≤ hi ∧ hi ≤ 65535 := by omega
      have hlwb : 0 ≤ lo ∧ lo ≤ 65535 := by omega
      have E1 : tl (setC l 16 10 hi) 1 (w2 l 16) hi = setC l 16 10 hi := rfl
      obtain ⟨B1, hB1⟩ : ∃ x, x = tl (setC l 16 10 hi) 1 (w2 l 16) hi := ⟨_, rfl⟩
      rw [← hB1]
      rw [E1] at hB1
      have E2 : tl (setC B1 18 10 lo) 1 (w2 B1 18) lo = setC B1 18 10 lo := rfl
      obtain ⟨B2, hB2⟩ : ∃ x, x = tl (setC B1 18 10 lo) 1 (w2 B1 18) lo := ⟨_, rfl⟩
      rw [← hB2]
      rw [E2] at hB2
      clear E1 E2
      have hL1 : B1.length = l.length := by rw [hB1]; simp [setC_len, tellW_len]
      have hL2 : B2.length = l.length := by rw [hB2]; simp [setC_len, tellW_len, hL1]
      have hL3 : (setC B2 8 10 ((ttl - 1) * 256 + 1)).length = l.length := by rw [setC_len, hL2]
      have hL4 : (setC (setC B2 8 10 ((ttl - 1) * 256 + 1)) 24 22 port).length = l.length := by rw [setC_len, hL3]
      have s3 := set_gs c.gl B2 false 8 10 ((ttl - 1) * 256 + 1) (by omega) (by omega) (by omega)
      have s4 := set_gs c.gl (setC B2 8 10 ((ttl - 1) * 256 + 1)) false 24 22 port (by omega) (by omega) (by omega)
      rw [hL2] at s3
      rw [hL3] at s4
      generalize setC (setC B2 8 10 ((ttl - 1) * 256 + 1)) 24 22 port = B4 at *
      generalize setC B2 8 10 ((ttl - 1) * 256 + 1) = B3 at *
      obtain ⟨RR, hRR⟩ : ∃ x, x = (if (w2 B4 22 = 0) ∧ ((1 : Int) = 17 ∨ ofN (B4.drop 20) = 0) then setW B4 22 65535 else B4) := ⟨_, rfl⟩
      rw [← hRR]
      have HRR := Lib.hid hRR
      clear hRR
      (refine xw_ifp (fun g3 => ?_) (fun g3 => ?_) <;> try exact g3.elim)
      (refine XG ?_; ((try (repeat' with_reducible refine And.intro ?_ ?_)); (try any_goals (first | refine zm ?_ | exact CL | fail))))
      ((first | apply pr_app | apply prD_app | apply pr_bsl | apply prD_bsl | apply pr_s2b | apply prD_s2b); (refine XG ?_; ((try (repeat' with_reducible refine And.intro ?_ ?_)); (try any_goals (first | refine zm ?_ | exact CL | fail)))))
      have hlw2 : addr % 65536 = lo := hlw.symm
      clear hlw
      ((first | apply pr_psv | apply prD_psv | apply pr_qrunv | apply prD_qrunv) <;> (first | exact hsz | (have zf1 := @e1; have zf2 := @hlw2; refine XM ?_; clear zf1 zf2; first | exact rfl | exact True.intro | ((try (repeat' with_reducible refine And.intro ?_ ?_)); (try any_goals (first | refine zm ?_ | exact CL | fail))))))
      refine loop_rule (fun k : Nat => k ≤ 2) (fun k => ⟨[(1, .int .i64 1), (3, .int .i64 port), (10, .ptr 0 0), (12, .ptr 2 0), (14, .int .i64 22), (15, .int .i64 16), (86, .agg [.int .i64 hi, .int .i64 lo]), (87, .int .i64 (kI k))], [(0, .cells [.int .i64 1, .int .i64 frm, .int .i64 sport, .int .i64 dst, .int .i64 dport, .int .i64 ttl, .int .i64 id, .int .i64 flags, .int .i64 seq, .int .i64 ack, .int .i64 win, .str body]), (1, .cells (byts (sel3 k l B1 B2))), (2, .cells [.sl 1 1 0 l.length l.length, .bool false])], 3⟩) (fun k => 2 - k) ft_wTurn.mixed hN
        ⟨0, by omega, [(1, 3), (2, 4)], by (have zf1 := @sel3_0; have zf2 := @kI_0; refine XG ?_; clear zf1 zf2; ((try (repeat' with_reducible refine And.intro ?_ ?_)); (try any_goals (first | refine zm ?_ | exact CL | fail))))⟩ fun k hk => ?_
      obtain rfl | rfl | rfl : k = 0 ∨ k = 1 ∨ k = 2 := by omega
      · (have zf1 := @sel3_0; have zf2 := @kI_0; refine XM ?_; clear zf1 zf2; ((try (repeat' with_reducible refine And.intro ?_ ?_)); (try any_goals (first | refine zm ?_ | exact CL | fail))))
        (refine xw_ifp (fun q1 => ?_) (fun q1 => ?_) <;> try exact q1.elim)
        (have zf1 := @sel3_0; have zf2 := @kI_0; refine XM ?_; clear zf1 zf2; ((try (repeat' with_reducible refine And.intro ?_ ?_)); (try any_goals (first | refine zm ?_ | exact CL | fail))))
        ((first | apply pr_psv | apply prD_psv | apply pr_qrunv | apply prD_qrunv) <;> (first | exact (nw2 c.gl l 16) | (refine XM ?_; first | exact rfl | exact True.intro | ((try (repeat' with_reducible refine And.intro ?_ ?_)); (try any_goals (first | refine zm ?_ | exact CL | fail))))))
        ((first | refine pr_gs (ins := [2, 1]) (set_gs c.gl l false 16 10 hi (by omega) (by omega) (by omega)) ?_ ?_ | refine prD_gs (ins := [2, 1]) (set_gs c.gl l false 16 10 hi (by omega) (by omega) (by omega)) ?_ ?_ | refine pr_gsv (ins := [2, 1]) (set_gs c.gl l false 16 10 hi (by omega) (by omega) (by omega)) ?_ ?_ | refine prD_gsv (ins := [2, 1]) (set_gs c.gl l false 16 10 hi (by omega) (by omega) (by omega)) ?_ ?_) <;> (have zf1 := @hL1; refine XM ?_; clear zf1; (try first | exact rfl | exact True.intro); ((try (repeat' with_reducible refine And.intro ?_ ?_)); (try any_goals (first | refine zm ?_ | exact CL | fail)))))
        · rfl
        (refine xw_ifp (fun q2 => ?_) (fun q2 => ?_) <;> try exact q2.elim)
        (refine XM ?_; ((try (repeat' with_reducible refine And.intro ?_ ?_)); (try any_goals (first | refine zm ?_ | exact CL | fail))))
        refine ⟨1, by omega, ⟨[], ?_⟩, by omega⟩
        (have zf1 := @sel3_1; have zf2 := @kI_1; have zf3 := @hB1; refine XM ?_; clear zf1 zf2 zf3; ((try (repeat' with_reducible refine And.intro ?_ ?_)); (try any_goals (first | refine zm ?_ | exact CL | fail))))
      · (have zf1 := @sel3_1; have zf2 := @kI_1; refine XM ?_; clear zf1 zf2; ((try (repeat' with_reducible refine And.intro ?_ ?_)); (try any_goals (first | refine zm ?_ | exact CL | fail))))
        (refine xw_ifp (fun q1 => ?_) (fun q1 => ?_) <;> try exact q1.elim)
        (have zf1 := @sel3_1; have zf2 := @kI_1; refine XM ?_; clear zf1 zf2; ((try (repeat' with_reducible refine And.intro ?_ ?_)); (try any_goals (first | refine zm ?_ | exact CL | fail))))
        ((first | apply pr_psv | apply prD_psv | apply pr_qrunv | apply prD_qrunv) <;> (first | exact (nw2 c.gl B1 18) | (refine XM ?_; first | exact rfl | exact True.intro | ((try (repeat' with_reducible refine And.intro ?_ ?_)); (try any_goals (first | refine zm ?_ | exact CL | fail))))))
        ((first | refine pr_gs (ins := [2, 1]) (set_gs c.gl B1 false 18 10 lo (by omega) (by omega) (by omega)) ?_ ?_ | refine prD_gs (ins := [2, 1]) (set_gs c.gl B1 false 18 10 lo (by omega) (by omega) (by omega)) ?_ ?_ | refine pr_gsv (ins := [2, 1]) (set_gs c.gl B1 false 18 10 lo (by omega) (by omega) (by omega)) ?_ ?_ | refine prD_gsv (ins := [2, 1]) (set_gs c.gl B1 false 18 10 lo (by omega) (by omega) (by omega)) ?_ ?_) <;> (have zf1 := @hL1; refine XM ?_; clear zf1; (try first | exact rfl | exact True.intro); ((try (repeat' with_reducible refine And.intro ?_ ?_)); (try any_goals (first | refine zm ?_ | exact CL | fail)))))
        · rfl
        (refine xw_ifp (fun q2 => ?_) (fun q2 => ?_) <;> try exact q2.elim)
        (refine XM ?_; ((try (repeat' with_reducible refine And.intro ?_ ?_)); (try any_goals (first | refine zm ?_ | exact CL | fail))))
        refine ⟨2, by omega, ⟨[], ?_⟩, by omega⟩
        (have zf1 := @sel3_2; have zf2 := @kI_2; have zf3 := @hB2; refine XM ?_; clear zf1 zf2 zf3; ((try (repeat' with_reducible refine And.intro ?_ ?_)); (try any_goals (first | refine zm ?_ | exact CL | fail))))
      (have zf1 := @sel3_2; have zf2 := @kI_2; refine XM ?_; clear zf1 zf2; ((try (repeat' with_reducible refine And.intro ?_ ?_)); (try any_goals (first | refine zm ?_ | exact CL | fail))))
      (refine xw_ifp (fun q1 => ?_) (fun q1 => ?_) <;> try exact q1.elim)
      (have zf1 := @sel3_2; have zf2 := @kI_2; have zf3 := @pow_8; have zf4 := @e3; refine XM ?_; clear zf1 zf2 zf3 zf4; ((try (repeat' with_reducible refine And.intro ?_ ?_)); (try any_goals (first | refine zm ?_ | exact CL | fail))))
      ((first | refine pr_gs (ins := [2, 1]) s3 ?_ ?_ | refine prD_gs (ins := [2, 1]) s3 ?_ ?_ | refine pr_gsv (ins := [2, 1]) s3 ?_ ?_ | refine prD_gsv (ins := [2, 1]) s3 ?_ ?_) <;> (have zf1 := @pow_8; have zf2 := @e3; have zf3 := @hL3; refine XM ?_; clear zf1 zf2 zf3; (try first | exact rfl | exact True.intro); ((try (repeat' with_reducible refine And.intro ?_ ?_)); (try any_goals (first | refine zm ?_ | exact CL | fail)))))
      · rfl
      (refine xw_ifp (fun q2 => ?_) (fun q2 => ?_) <;> try exact q2.elim)
      (refine XM ?_; ((try (repeat' with_reducible refine And.intro ?_ ?_)); (try any_goals (first | refine zm ?_ | exact CL | fail))))
      have hz := w2_0 B4 22 (by omega)
      have hOf := Of_ps c.gl (B4.drop 20) (by rw [List.length_drop]; omega)
      by_cases z : w2 B4 22 = 0
      · have bz1 : (b1 B4 22 == 0) = true := by simp [(hz.1 z).1]
        have bz2 : (b1 B4 23 == 0) = true := by simp [(hz.1 z).2]
        ((first | refine pr_gs (ins := [2, 1]) s4 ?_ ?_ | refine prD_gs (ins := [2, 1]) s4 ?_ ?_ | refine pr_gsv (ins := [2, 1]) s4 ?_ ?_ | refine prD_gsv (ins := [2, 1]) s4 ?_ ?_) <;> (have zf1 := @hL4; have zf2 := @b1_fold; have zf3 := @bz1; have zf4 := @bz2; refine XM ?_; clear zf1 zf2 zf3 zf4; (try first | exact rfl | exact True.intro); ((try (repeat' with_reducible refine And.intro ?_ ?_)); (try any_goals (first | refine zm ?_ | exact CL | fail)))))
        · rfl
        ((first | apply pr_psv | apply prD_psv | apply pr_qrunv | apply prD_qrunv) <;> (first | exact hOf | (have zf1 := @b1_fold; have zf2 := @bz1; have zf3 := @bz2; refine XG ?_; clear zf1 zf2 zf3; first | exact rfl | exact True.intro | ((try (repeat' with_reducible refine And.intro ?_ ?_)); (try any_goals (first | refine zm ?_ | exact CL | fail))))))
        by_cases zz : ofN (B4.drop 20) = 0
        · have bo : (ofN (B4.drop 20) == 0) = true := by simp [zz]
          have hR1 : RR = (B4.set 22 255).set 23 255 := (HRR.out.trans (if_pos ⟨z, .inr zz⟩)).trans (setW_ff _ _)
          rw [hR1]
          clear hR1
          (refine xw_ifp (fun q3 => ?_) (fun q3 => ?_) <;> try exact q3.elim)
          · (have zf1 := @byts_set255; have zf2 := @hL4; refine XM ?_; clear zf1 zf2; ((try (repeat' with_reducible refine And.intro ?_ ?_)); (try any_goals (first | refine zm ?_ | exact CL | fail))))
          · omega
        · have hR1 : RR = B4 := HRR.out.trans (if_neg fun h => h.2.elim (by omega) zz)
          rw [hR1]
          clear hR1
          (refine xw_ifp (fun q3 => ?_) (fun q3 => ?_) <;> try exact q3.elim)
          · omega
          · (refine XG ?_; ((try (repeat' with_reducible refine And.intro ?_ ?_)); (try any_goals (first | refine zm ?_ | exact CL | fail))))
      · have bz : (b1 B4 22 == 0 && b1 B4 23 == 0) = false := by
          have hn : ¬ (b1 B4 22 = 0 ∧ b1 B4 23 = 0) := fun h => z (hz.2 h)
          rw [Bool.and_eq_false_iff, beq_eq_false_iff_ne, beq_eq_false_iff_ne]; omega
        have hR1 : RR = B4 := HRR.out.trans (if_neg fun h => z h.1)
        rw [hR1]
        clear hR1
        ((first | refine pr_gs (ins := [2, 1]) s4 ?_ ?_ | refine prD_gs (ins := [2, 1]) s4 ?_ ?_ | refine pr_gsv (ins := [2, 1]) s4 ?_ ?_ | refine prD_gsv (ins := [2, 1]) s4 ?_ ?_) <;> (have zf1 := @hL4; have zf2 := @b1_fold; have zf3 := @bz; refine XM ?_; clear zf1 zf2 zf3; (try first | exact rfl | exact True.intro); ((try (repeat' with_reducible refine And.intro ?_ ?_)); (try any_goals (first | refine zm ?_ | exact CL | fail)))))
        · rfl
        ((first | apply pr_skip | apply prD_skip) <;> (have zf1 := @b1_fold; have zf2 := @bz; refine XG ?_; clear zf1 zf2; first | exact rfl | exact True.intro | ((try (repeat' with_reducible refine And.intro ?_ ?_)); (try any_goals (first | refine zm ?_ | exact CL | fail)))))
        (refine xw_ifp (fun q3 => ?_) (fun q3 => ?_) <;> try exact q3.elim)
        (have zf1 := @b1_fold; have zf2 := @bz; refine XG ?_; clear zf1 zf2; ((try (repeat' with_reducible refine And.intro ?_ ?_)); (try any_goals (first | refine zm ?_ | exact CL | fail))))
  · rw [h9]
    have hsz := sizes_ps c.gl 6
    have hz : sizesT 6 = .tup [.int .i64 20, .int .i64 16] := rfl
    rw [hz] at hsz
    clear hz
    have hlm : 40 ≤ l.length := by exact HTCP.out (by omega)
    rw [HG.out (HT0.out hok h12 (fun h => by omega)), h9]
    (refine XG ?_; ((try (repeat' with_reducible refine And.intro ?_ ?_)); (try any_goals (first | refine zm ?_ | exact CL | fail))))
    clear HB HT2 HT12 HT4 HT0 HG HTCP
    obtain rfl | rfl : side = 0 ∨ side = 1 := by omega
    · have hfin : turnB l 6 ttl (atOf 0) (whOf 6 0) addr port = turnB l 6 ttl 12 20 addr port := rfl
      rw [hfin]
      clear hfin
      have e1 := hi_eq addr haddr.1
      have e2 := lo_eq addr haddr
      have e3 := tp_eq (ttl - 1) 6 (by omega) (by omega)
      have t3 : turnB l 6 ttl 12 20 addr port = (if (w2 (setC (setC (tl (setC (tl (setC l 12 10 (addr / 65536)) 6 (w2 l 12) (addr / 65536)) 14 10 (addr % 65536)) 6 (w2 (tl (setC l 12 10 (addr / 65536)) 6 (w2 l 12) (addr / 65536)) 14) (addr % 65536)) 8 10 ((ttl - 1) * 256 + 6)) 20 36 port) 36 = 0) ∧ ((6 : Int) = 17 ∨ ofN ((setC (setC (tl (setC (tl (setC l 12 10 (addr / 65536)) 6 (w2 l 12) (addr / 65536)) 14 10 (addr % 65536)) 6 (w2 (tl (setC l 12 10 (addr / 65536)) 6 (w2 l 12) (addr / 65536)) 14) (addr % 65536)) 8 10 ((ttl - 1) * 256 + 6)) 20 36 port).drop 20) = 0) then setW (setC (setC (tl (setC (tl (setC l 12 10 (addr / 65536)) 6 (w2 l 12) (addr / 65536)) 14 10 (addr % 65536)) 6 (w2 (tl (setC l 12 10 (addr / 65536)) 6 (w2 l 12) (addr / 65536)) 14) (addr % 65536)) 8 10 ((ttl - 1) * 256 + 6)) 20 36 port) 36 65535 else setC (setC (tl (setC (tl (setC l 12 10 (addr / 65536)) 6 (w2 l 12) (addr / 65536)) 14 10 (addr % 65536)) 6 (w2 (tl (setC l 12 10 (addr / 65536)) 6 (w2 l 12) (addr / 65536)) 14) (addr % 65536)) 8 10 ((ttl - 1) * 256 + 6)) 20 36 port) := rfl
      rw [t3]
      clear t3
      obtain ⟨hi, hhi⟩ : ∃ x, x = addr / 65536 := ⟨_, rfl⟩
      obtain ⟨lo, hlw⟩ : ∃ x, x = addr % 65536 := ⟨_, rfl⟩
      rw [← hhi] at e1 ⊢
      rw [← hlw] at e2 ⊢
      have hhib : 0 ≤ hi ∧ hi ≤ 65535 := by omega
      have hlwb : 0 ≤ lo ∧ lo ≤ 65535 := by omega
      have E1 : tl (setC l 12 10 hi) 6 (w2 l 12) hi = tellW (setC l 12 10 hi) 36 (w2 l 12) hi := rfl
      obtain ⟨B1, hB1⟩ : ∃ x, x = tl (setC l 12 10 hi) 6 (w2 l 12) hi := ⟨_, rfl⟩
      rw [← hB1]
      rw [E1] at hB1
      have E2 : tl (setC B1 14 10 lo) 6 (w2 B1 14) lo = tellW (setC B1 14 10 lo) 36 (w2 B1 14) lo := rfl
      obtain ⟨B2, hB2⟩ : ∃ x, x = tl (setC B1 14 10 lo) 6 (w2 B1 14) lo := ⟨_, rfl⟩
      rw [← hB2]
      rw [E2] at hB2
      clear E1 E2
      have hL1 : B1.length = l.length := by rw [hB1]; simp [setC_len, tellW_len]
      have hL2 : B2.length = l.length := by rw [hB2]; simp [setC_len, tellW_len, hL1]
      have hL3 : (setC B2 8 10 ((ttl - 1) * 256 + 6)).length = l.length := by rw [setC_len, hL2]
      have hL4 : (setC (setC B2 8 10 ((ttl - 1) * 256 + 6)) 20 36 port).length = l.length := by rw [setC_len, hL3]
      have s3 := set_gs c.gl B2 false 8 10 ((ttl - 1) * 256 + 6) (by omega) (by omega) (by omega)
      have s4 := set_gs c.gl (setC B2 8 10 ((ttl - 1) * 256 + 6)) false 20 36 port (by omega) (by omega) (by omega)
      rw [hL2] at s3
      rw [hL3] at s4
      generalize setC (setC B2 8 10 ((ttl - 1) * 256 + 6)) 20 36 port = B4 at *
      generalize setC B2 8 10 ((ttl - 1) * 256 + 6) = B3 at *
      obtain ⟨RR, hRR⟩ : ∃ x, x = (if (w2 B4 36 = 0) ∧ ((6 : Int) = 17 ∨ ofN (B4.drop 20) = 0) then setW B4 36 65535 else B4) := ⟨_, rfl⟩
      rw [← hRR]
      have HRR := Lib.hid hRR
      clear hRR
      (refine xw_ifp (fun g3 => ?_) (fun g3 => ?_) <;> try exact g3.elim)
      (refine XG ?_; ((try (repeat' with_reducible refine And.intro ?_ ?_)); (try any_goals (first | refine zm ?_ | exact CL | fail))))
      ((first | apply pr_app | apply prD_app | apply pr_bsl | apply prD_bsl | apply pr_s2b | apply prD_s2b); (refine XG ?_; ((try (repeat' with_reducible refine And.intro ?_ ?_)); (try any_goals (first | refine zm ?_ | exact CL | fail)))))
      have hlw2 : addr % 65536 = lo := hlw.symm
      clear hlw
      ((first | apply pr_psv | apply prD_psv | apply pr_qrunv | apply prD_qrunv) <;> (first | exact hsz | (have zf1 := @e1; have zf2 := @hlw2; refine XM ?_; clear zf1 zf2; first | exact rfl | exact True.intro | ((try (repeat' with_reducible refine And.intro ?_ ?_)); (try any_goals (first | refine zm ?_ | exact CL | fail))))))
      refine loop_rule (fun k : Nat => k ≤ 2) (fun k => ⟨[(1, .int .i64 0), (3, .int .i64 port), (10, .ptr 0 0), (12, .ptr 2 0), (14, .int .i64 36), (15, .int .i64 12), (86, .agg [.int .i64 hi, .int .i64 lo]), (87, .int .i64 (kI k))], [(0, .cells [.int .i64 6, .int .i64 frm, .int .i64 sport, .int .i64 dst, .int .i64 dport, .int .i64 ttl, .int .i64 id, .int .i64 flags, .int .i64 seq, .int .i64 ack, .int .i64 win, .str body]), (1, .cells (byts (sel3 k l B1 B2))), (2, .cells [.sl 1 1 0 l.length l.length, .bool false])], 3⟩) (fun k => 2 - k) ft_wTurn.mixed hN
        ⟨0, by omega, [(1, 3), (2, 4)], by (have zf1 := @sel3_0; have zf2 := @kI_0; refine XG ?_; clear zf1 zf2; ((try (repeat' with_reducible refine And.intro ?_ ?_)); (try any_goals (first | refine zm ?_ | exact CL | fail))))⟩ fun k hk => ?_
      obtain rfl | rfl | rfl : k = 0 ∨ k = 1 ∨ k = 2 := by omega
      · (have zf1 := @sel3_0; have zf2 := @kI_0; refine XM ?_; clear zf1 zf2; ((try (repeat' with_reducible refine And.intro ?_ ?_)); (try any_goals (first | refine zm ?_ | exact CL | fail))))
        (refine xw_ifp (fun q1 => ?_) (fun q1 => ?_) <;> try exact q1.elim)
        (have zf1 := @sel3_0; have zf2 := @kI_0; refine XM ?_; clear zf1 zf2; ((try (repeat' with_reducible refine And.intro ?_ ?_)); (try any_goals (first | refine zm ?_ | exact CL | fail))))
        ((first | apply pr_psv | apply prD_psv | apply pr_qrunv | apply prD_qrunv) <;> (first | exact (nw2 c.gl l 12) | (refine XM ?_; first | exact rfl | exact True.intro | ((try (repeat' with_reducible refine And.intro ?_ ?_)); (try any_goals (first | refine zm ?_ | exact CL | fail))))))
        ((first | refine pr_gs (ins := [2, 1]) (set_gs c.gl l false 12 10 hi (by omega) (by omega) (by omega)) ?_ ?_ | refine prD_gs (ins := [2, 1]) (set_gs c.gl l false 12 10 hi (by omega) (by omega) (by omega)) ?_ ?_ | refine pr_gsv (ins := [2, 1]) (set_gs c.gl l false 12 10 hi (by omega) (by omega) (by omega)) ?_ ?_ | refine prD_gsv (ins := [2, 1]) (set_gs c.gl l false 12 10 hi (by omega) (by omega) (by omega)) ?_ ?_) <;> (have zf1 := @hL1; refine XM ?_; clear zf1; (try first | exact rfl | exact True.intro); ((try (repeat' with_reducible refine And.intro ?_ ?_)); (try any_goals (first | refine zm ?_ | exact CL | fail)))))
        · rfl
        (refine xw_ifp (fun q2 => ?_) (fun q2 => ?_) <;> try exact q2.elim)
        (refine XM ?_; ((try (repeat' with_reducible refine And.intro ?_ ?_)); (try any_goals (first | refine zm ?_ | exact CL | fail))))
        ((first | refine pr_gs (ins := [2, 1]) (tell_gs c.gl (setC l 12 10 hi) false 36 (w2 l 12) hi (by rw [setC_len]; omega) (by rw [setC_len]; omega)) ?_ ?_ | refine prD_gs (ins := [2, 1]) (tell_gs c.gl (setC l 12 10 hi) false 36 (w2 l 12) hi (by rw [setC_len]; omega) (by rw [setC_len]; omega)) ?_ ?_ | refine pr_gsv (ins := [2, 1]) (tell_gs c.gl (setC l 12 10 hi) false 36 (w2 l 12) hi (by rw [setC_len]; omega) (by rw [setC_len]; omega)) ?_ ?_ | refine prD_gsv (ins := [2, 1]) (tell_gs c.gl (setC l 12 10 hi) false 36 (w2 l 12) hi (by rw [setC_len]; omega) (by rw [setC_len]; omega)) ?_ ?_) <;> (have zf1 := @setC_len; refine XM ?_; clear zf1; (try first | exact rfl | exact True.intro); ((try (repeat' with_reducible refine And.intro ?_ ?_)); (try any_goals (first | refine zm ?_ | exact CL | fail)))))
        · rfl
        refine ⟨1, by omega, ⟨[], ?_⟩, by omega⟩
        (have zf1 := @sel3_1; have zf2 := @kI_1; have zf3 := @hB1; refine XM ?_; clear zf1 zf2 zf3; ((try (repeat' with_reducible refine And.intro ?_ ?_)); (try any_goals (first | refine zm ?_ | exact CL | fail))))
      · (have zf1 := @sel3_1; have zf2 := @kI_1; refine XM ?_; clear zf1 zf2; ((try (repeat' with_reducible refine And.intro ?_ ?_)); (try any_goals (first | refine zm ?_ | exact CL | fail))))
        (refine xw_ifp (fun q1 => ?_) (fun q1 => ?_) <;> try exact q1.elim)
        (have zf1 := @sel3_1; have zf2 := @kI_1; refine XM ?_; clear zf1 zf2; ((try (repeat' with_reducible refine And.intro ?_ ?_)); (try any_goals (first | refine zm ?_ | exact CL | fail))))
        ((first | apply pr_psv | apply prD_psv | apply pr_qrunv | apply prD_qrunv) <;> (first | exact (nw2 c.gl B1 14) | (refine XM ?_; first | exact rfl | exact True.intro | ((try (repeat' with_reducible refine And.intro ?_ ?_)); (try any_goals (first | refine zm ?_ | exact CL | fail))))))
        ((first | refine pr_gs (ins := [2, 1]) (set_gs c.gl B1 false 14 10 lo (by omega) (by omega) (by omega)) ?_ ?_ | refine prD_gs (ins := [2, 1]) (set_gs c.gl B1 false 14 10 lo (by omega) (by omega) (by omega)) ?_ ?_ | refine pr_gsv (ins := [2, 1]) (set_gs c.gl B1 false 14 10 lo (by omega) (by omega) (by omega)) ?_ ?_ | refine prD_gsv (ins := [2, 1]) (set_gs c.gl B1 false 14 10 lo (by omega) (by omega) (by omega)) ?_ ?_) <;> (have zf1 := @hL1; refine XM ?_; clear zf1; (try first | exact rfl | exact True.intro); ((try (repeat' with_reducible refine And.intro ?_ ?_)); (try any_goals (first | refine zm ?_ | exact CL | fail)))))
        · rfl
        (refine xw_ifp (fun q2 => ?_) (fun q2 => ?_) <;> try exact q2.elim)
        (refine XM ?_; ((try (repeat' with_reducible refine And.intro ?_ ?_)); (try any_goals (first | refine zm ?_ | exact CL | fail))))
        ((first | refine pr_gs (ins := [2, 1]) (tell_gs c.gl (setC B1 14 10 lo) false 36 (w2 B1 14) lo (by rw [setC_len]; omega) (by rw [setC_len]; omega)) ?_ ?_ | refine prD_gs (ins := [2, 1]) (tell_gs c.gl (setC B1 14 10 lo) false 36 (w2 B1 14) lo (by rw [setC_len]; omega) (by rw [setC_len]; omega)) ?_ ?_ | refine pr_gsv (ins := [2, 1]) (tell_gs c.gl (setC B1 14 10 lo) false 36 (w2 B1 14) lo (by rw [setC_len]; omega) (by rw [setC_len]; omega)) ?_ ?_ | refine prD_gsv (ins := [2, 1]) (tell_gs c.gl (setC B1 14 10 lo) false 36 (w2 B1 14) lo (by rw [setC_len]; omega) (by rw [setC_len]; omega)) ?_ ?_) <;> (have zf1 := @setC_len; have zf2 := @hL1; refine XM ?_; clear zf1 zf2; (try first | exact rfl | exact True.intro); ((try (repeat' with_reducible refine And.intro ?_ ?_)); (try any_goals (first | refine zm ?_ | exact CL | fail)))))
        · rfl
        refine ⟨2, by omega, ⟨[], ?_⟩, by omega⟩
        (have zf1 := @sel3_2; have zf2 := @kI_2; have zf3 := @hB2; refine XM ?_; clear zf1 zf2 zf3; ((try (repeat' with_reducible refine And.intro ?_ ?_)); (try any_goals (first | refine zm ?_ | exact CL | fail))))
      (have zf1 := @sel3_2; have zf2 := @kI_2; refine XM ?_; clear zf1 zf2; ((try (repeat' with_reducible refine And.intro ?_ ?_)); (try any_goals (first | refine zm ?_ | exact CL | fail))))
      (refine xw_ifp (fun q1 => ?_) (fun q1 => ?_) <;> try exact q1.elim)
      (have zf1 := @sel3_2; have zf2 := @kI_2; have zf3 := @pow_8; have zf4 := @e3; refine XM ?_; clear zf1 zf2 zf3 zf4; ((try (repeat' with_reducible refine And.intro ?_ ?_)); (try any_goals (first | refine zm ?_ | exact CL | fail))))
      ((first | refine pr_gs (ins := [2, 1]) s3 ?_ ?_ | refine prD_gs (ins := [2, 1]) s3 ?_ ?_ | refine pr_gsv (ins := [2, 1]) s3 ?_ ?_ | refine prD_gsv (ins := [2, 1]) s3 ?_ ?_) <;> (have zf1 := @pow_8; have zf2 := @e3; have zf3 := @hL3; refine XM ?_; clear zf1 zf2 zf3; (try first | exact rfl | exact True.intro); ((try (repeat' with_reducible refine And.intro ?_ ?_)); (try any_goals (first | refine zm ?_ | exact CL | fail)))))
      · rfl
      (refine xw_ifp (fun q2 => ?_) (fun q2 => ?_) <;> try exact q2.elim)
      (refine XM ?_; ((try (repeat' with_reducible refine And.intro ?_ ?_)); (try any_goals (first | refine zm ?_ | exact CL | fail))))
      have hz := w2_0 B4 36 (by omega)
      have hOf := Of_ps c.gl (B4.drop 20) (by rw [List.length_drop]; omega)
      by_cases z : w2 B4 36 = 0
      · have bz1 : (b1 B4 36 == 0) = true := by simp [(hz.1 z).1]
        have bz2 : (b1 B4 37 == 0) = true := by simp [(hz.1 z).2]
        ((first | refine pr_gs (ins := [2, 1]) s4 ?_ ?_ | refine prD_gs (ins := [2, 1]) s4 ?_ ?_ | refine pr_gsv (ins := [2, 1]) s4 ?_ ?_ | refine prD_gsv (ins := [2, 1]) s4 ?_ ?_) <;> (have zf1 := @hL4; have zf2 := @b1_fold; have zf3 := @bz1; have zf4 := @bz2; refine XM ?_; clear zf1 zf2 zf3 zf4; (try first | exact rfl | exact True.intro); ((try (repeat' with_reducible refine And.intro ?_ ?_)); (try any_goals (first | refine zm ?_ | exact CL | fail)))))
        · rfl
        ((first | apply pr_psv | apply prD_psv | apply pr_qrunv | apply prD_qrunv) <;> (first | exact hOf | (have zf1 := @b1_fold; have zf2 := @bz1; have zf3 := @bz2; refine XG ?_; clear zf1 zf2 zf3; first | exact rfl | exact True.intro | ((try (repeat' with_reducible refine And.intro ?_ ?_)); (try any_goals (first | refine zm ?_ | exact CL | fail))))))
        by_cases zz : ofN (B4.drop 20) = 0
        · have bo : (ofN (B4.drop 20) == 0) = true := by simp [zz]
          have hR1 : RR = (B4.set 36 255).set 37 255 := (HRR.out.trans (if_pos ⟨z, .inr zz⟩)).trans (setW_ff _ _)
          rw [hR1]
          clear hR1
          (refine xw_ifp (fun q3 => ?_) (fun q3 => ?_) <;> try exact q3.elim)
          · (have zf1 := @byts_set255; have zf2 := @hL4; refine XM ?_; clear zf1 zf2; ((try (repeat' with_reducible refine And.intro ?_ ?_)); (try any_goals (first | refine zm ?_ | exact CL | fail))))
          · omega
        · have hR1 : RR = B4 := HRR.out.trans (if_neg fun h => h.2.elim (by omega) zz)
          rw [hR1]
          clear hR1
          (refine xw_ifp (fun q3 => ?_) (fun q3 => ?_) <;> try exact q3.elim)
          · omega
          · (refine XG ?_; ((try (repeat' with_reducible refine And.intro ?_ ?_)); (try any_goals (first | refine zm ?_ | exact CL | fail))))
      · have bz : (b1 B4 36 == 0 && b1 B4 37 == 0) = false := by
          have hn : ¬ (b1 B4 36 = 0 ∧ b1 B4 37 = 0) := fun h => z (hz.2 h)
          rw [Bool.and_eq_false_iff, beq_eq_false_iff_ne, beq_eq_false_iff_ne]; omega
        have hR1 : RR = B4 := HRR.out.trans (if_neg fun h => z h.1)
        rw [hR1]
        clear hR1
        ((first | refine pr_gs (ins := [2, 1]) s4 ?_ ?_ | refine prD_gs (ins := [2, 1]) s4 ?_ ?_ | refine pr_gsv (ins := [2, 1]) s4 ?_ ?_ | refine prD_gsv (ins := [2, 1]) s4 ?_ ?_) <;> (have zf1 := @hL4; have zf2 := @b1_fold; have zf3 := @bz; refine XM ?_; clear zf1 zf2 zf3; (try first | exact rfl | exact True.intro); ((try (repeat' with_reducible refine And.intro ?_ ?_)); (try any_goals (first | refine zm ?_ | exact CL | fail)))))
        · rfl
        ((first | apply pr_skip | apply prD_skip) <;> (have zf1 := @b1_fold; have zf2 := @bz; refine XG ?_; clear zf1 zf2; first | exact rfl | exact True.intro | ((try (repeat' with_reducible refine And.intro ?_ ?_)); (try any_goals (first | refine zm ?_ | exact CL | fail)))))
        (refine xw_ifp (fun q3 => ?_) (fun q3 => ?_) <;> try exact q3.elim)
        (have zf1 := @b1_fold; have zf2 := @bz; refine XG ?_; clear zf1 zf2; ((try (repeat' with_reducible refine And.intro ?_ ?_)); (try any_goals (first | refine zm ?_ | exact CL | fail))))
    · have hfin : turnB l 6 ttl (atOf 1) (whOf 6 1) addr port = turnB l 6 ttl 16 22 addr port := rfl
      rw [hfin]
      clear hfin
      have e1 := hi_eq addr haddr.1
      have e2 := lo_eq addr haddr
      have e3 := tp_eq (ttl - 1) 6 (by omega) (by omega)
      have t3 : turnB l 6 ttl 16 22 addr port = (if (w2 (setC (setC (tl (setC (tl (setC l 16 10 (addr / 65536)) 6 (w2 l 16) (addr / 65536)) 18 10 (addr % 65536)) 6 (w2 (tl (setC l 16 10 (addr / 65536)) 6 (w2 l 16) (addr / 65536)) 18) (addr % 65536)) 8 10 ((ttl - 1) * 256 + 6)) 22 36 port) 36 = 0) ∧ ((6 : Int) = 17 ∨ ofN ((setC (setC (tl (setC (tl (setC l 16 10 (addr / 65536)) 6 (w2 l 16) (addr / 65536)) 18 10 (addr % 65536)) 6 (w2 (tl (setC l 16 10 (addr / 65536)) 6 (w2 l 16) (addr / 65536)) 18) (addr % 65536)) 8 10 ((ttl - 1) * 256 + 6)) 22 36 port).drop 20) = 0) then setW (setC (setC (tl (setC (tl (setC l 16 10 (addr / 65536)) 6 (w2 l 16) (addr / 65536)) 18 10 (addr % 65536)) 6 (w2 (tl (setC l 16 10 (addr / 65536)) 6 (w2 l 16) (addr / 65536)) 18) (addr % 65536)) 8 10 ((ttl - 1) * 256 + 6)) 22 36 port) 36 65535 else setC (setC (tl (setC (tl (setC l 16 10 (addr / 65536)) 6 (w2 l 16) (addr / 65536)) 18 10 (addr % 65536)) 6 (w2 (tl (setC l 16 10 (addr / 65536)) 6 (w2 l 16) (addr / 65536)) 18) (addr % 65536)) 8 10 ((ttl - 1) * 256 + 6)) 22 36 port) := rfl
      rw [t3]
      clear t3
      obtain ⟨hi, hhi⟩ : ∃ x, x = addr / 65536 := ⟨_, rfl⟩
      obtain ⟨lo, hlw⟩ : ∃ x, x = addr % 65536 := ⟨_, rfl⟩
      rw [← hhi] at e1 ⊢
      rw [← hlw] at e2 ⊢
      have hhib : 0 ≤ hi ∧ hi ≤ 65535 := by omega
      have hlwb : 0 ≤ lo ∧ lo ≤ 65535 := by omega
      have E1 : tl (setC l 16 10 hi) 6 (w2 l 16) hi = tellW (setC l 16 10 hi) 36 (w2 l 16) hi := rfl
      obtain ⟨B1, hB1⟩ : ∃ x, x = tl (setC l 16 10 hi) 6 (w2 l 16) hi := ⟨_, rfl⟩
      rw [← hB1]
      rw [E1] at hB1
      have E2 : tl (setC B1 18 10 lo) 6 (w2 B1 18) lo = tellW (setC B1 18 10 lo) 36 (w2 B1 18) lo := rfl
      obtain ⟨B2, hB2⟩ : ∃ x, x = tl (setC B1 18 10 lo) 6 (w2 B1 18) lo := ⟨_, rfl⟩
      rw [← hB2]
      rw [E2] at hB2
      clear E1 E2
      have hL1 : B1.length = l.length := by rw [hB1]; simp [setC_len, tellW_len]
      have hL2 : B2.length = l.length := by rw [hB2]; simp [setC_len, tellW_len, hL1]
      have hL3 : (setC B2 8 10 ((ttl - 1) * 256 + 6)).length = l.length := by rw [setC_len, hL2]
      have hL4 : (setC (setC B2 8 10 ((ttl - 1) * 256 + 6)) 22 36 port).length = l.length := by rw [setC_len, hL3]
      have s3 := set_gs c.gl B2 false 8 10 ((ttl - 1) * 256 + 6) (by omega) (by omega) (by omega)
      have s4 := set_gs c.gl (setC B2 8 10 ((ttl - 1) * 256 + 6)) false 22 36 port (by omega) (by omega) (by omega)
      rw [hL2] at s3
      rw [hL3] at s4
      generalize setC (setC B2 8 10 ((ttl - 1) * 256 + 6)) 22 36 port = B4 at *
      generalize setC B2 8 10 ((ttl - 1) * 256 + 6) = B3 at *
      obtain ⟨RR, hRR⟩ : ∃ x, x = (if (w2 B4 36 = 0) ∧ ((6 : Int) = 17 ∨ ofN (B4.drop 20) = 0) then setW B4 36 65535 else B4) := ⟨_, rfl⟩
      rw [← hRR]
      have HRR := Lib.hid hRR
      clear hRR
      (refine xw_ifp (fun g3 => ?_) (fun g3 => ?_) <;> try exact g3.elim)
      (refine XG ?_; ((try (repeat' with_reducible refine And.intro ?_ ?_)); (try any_goals (first | refine zm ?_ | exact CL | fail))))
      ((first | apply pr_app | apply prD_app | apply pr_bsl | apply prD_bsl | apply pr_s2b | apply prD_s2b); (refine XG ?_; ((try (repeat' with_reducible refine And.intro ?_ ?_)); (try any_goals (first | refine zm ?_ | exact CL | fail)))))
      have hlw2 : addr % 65536 = lo := hlw.symm
      clear hlw
      ((first | apply pr_psv | apply prD_psv | apply pr_qrunv | apply prD_qrunv) <;> (first | exact hsz | (have zf1 := @e1; have zf2 := @hlw2; refine XM ?_; clear zf1 zf2; first | exact rfl | exact True.intro | ((try (repeat' with_reducible refine And.intro ?_ ?_)); (try any_goals (first | refine zm ?_ | exact CL | fail))))))
      refine loop_rule (fun k : Nat => k ≤ 2) (fun k => ⟨[(1, .int .i64 1), (3, .int .i64 port), (10, .ptr 0 0), (12, .ptr 2 0), (14, .int .i64 36), (15, .int .i64 16), (86, .agg [.int .i64 hi, .int .i64 lo]), (87, .int .i64 (kI k))], [(0, .cells [.int .i64 6, .int .i64 frm, .int .i64 sport, .int .i64 dst, .int .i64 dport, .int .i64 ttl, .int .i64 id, .int .i64 flags, .int .i64 seq, .int .i64 ack, .int .i64 win, .str body]), (1, .cells (byts (sel3 k l B1 B2))), (2, .cells [.sl 1 1 0 l.length l.length, .bool false])], 3⟩) (fun k => 2 - k) ft_wTurn.mixed hN
        ⟨0, by omega, [(1, 3), (2, 4)], by (have zf1 := @sel3_0; have zf2 := @kI_0; refine XG ?_; clear zf1 zf2; ((try (repeat' with_reducible refine And.intro ?_ ?_)); (try any_goals (first | refine zm ?_ | exact CL | fail))))⟩ fun k hk => ?_
      obtain rfl | rfl | rfl : k = 0 ∨ k = 1 ∨ k = 2 := by omega
      · (have zf1 := @sel3_0; have zf2 := @kI_0; refine XM ?_; clear zf1 zf2; ((try (repeat' with_reducible refine And.intro ?_ ?_)); (try any_goals (first | refine zm ?_ | exact CL | fail))))
        (refine xw_ifp (fun q1 => ?_) (fun q1 => ?_) <;> try exact q1.elim)
        (have zf1 := @sel3_0; have zf2 := @kI_0; refine XM ?_; clear zf1 zf2; ((try (repeat' with_reducible refine And.intro ?_ ?_)); (try any_goals (first | refine zm ?_ | exact CL | fail))))
        ((first | apply pr_psv | apply prD_psv | apply pr_qrunv | apply prD_qrunv) <;> (first | exact (nw2 c.gl l 16) | (refine XM ?_; first | exact rfl | exact True.intro | ((try (repeat' with_reducible refine And.intro ?_ ?_)); (try any_goals (first | refine zm ?_ | exact CL | fail))))))
        ((first | refine pr_gs (ins := [2, 1]) (set_gs c.gl l false 16 10 hi (by omega) (by omega) (by omega)) ?_ ?_ | refine prD_gs (ins := [2, 1]) (set_gs c.gl l false 16 10 hi (by omega) (by omega) (by omega)) ?_ ?_ | refine pr_gsv (ins := [2, 1]) (set_gs c.gl l false 16 10 hi (by omega) (by omega) (by omega)) ?_ ?_ | refine prD_gsv (ins := [2, 1]) (set_gs c.gl l false 16 10 hi (by omega) (by omega) (by omega)) ?_ ?_) <;> (have zf1 := @hL1; refine XM ?_; clear zf1; (try first | exact rfl | exact True.intro); ((try (repeat' with_reducible refine And.intro ?_ ?_)); (try any_goals (first | refine zm ?_ | exact CL | fail)))))
        · rfl
        (refine xw_ifp (fun q2 => ?_) (fun q2 => ?_) <;> try exact q2.elim)
        (refine XM ?_; ((try (repeat' with_reducible refine And.intro ?_ ?_)); (try any_goals (first | refine zm ?_ | exact CL | fail))))
        ((first | refine pr_gs (ins := [2, 1]) (tell_gs c.gl (setC l 16 10 hi) false 36 (w2 l 16) hi (by rw [setC_len]; omega) (by rw [setC_len]; omega)) ?_ ?_ | refine prD_gs (ins := [2, 1]) (tell_gs c.gl (setC l 16 10 hi) false 36 (w2 l 16) hi (by rw [setC_len]; omega) (by rw [setC_len]; omega)) ?_ ?_ | refine pr_gsv (ins := [2, 1]) (tell_gs c.gl (setC l 16 10 hi) false 36 (w2 l 16) hi (by rw [setC_len]; omega) (by rw [setC_len]; omega)) ?_ ?_ | refine prD_gsv (ins := [2, 1]) (tell_gs c.gl (setC l 16 10 hi) false 36 (w2 l 16) hi (by rw [setC_len]; omega) (by rw [setC_len]; omega)) ?_ ?_) <;> (have zf1 := @setC_len; refine XM ?_; clear zf1; (try first | exact rfl | exact True.intro); ((try (repeat' with_reducible refine And.intro ?_ ?_)); (try any_goals (first | refine zm ?_ | exact CL | fail)))))
        · rfl
        refine ⟨1, by omega, ⟨[], ?_⟩, by omega⟩
        (have zf1 := @sel3_1; have zf2 := @kI_1; have zf3 := @hB1; refine XM ?_; clear zf1 zf2 zf3; ((try (repeat' with_reducible refine And.intro ?_ ?_)); (try any_goals (first | refine zm ?_ | exact CL | fail))))
      · (have zf1 := @sel3_1; have zf2 := @kI_1; refine XM ?_; clear zf1 zf2; ((try (repeat' with_reducible refine And.intro ?_ ?_)); (try any_goals (first | refine zm ?_ | exact CL | fail))))
        (refine xw_ifp (fun q1 => ?_) (fun q1 => ?_) <;> try exact q1.elim)
        (have zf1 := @sel3_1; have zf2 := @kI_1; refine XM ?_; clear zf1 zf2; ((try (repeat' with_reducible refine And.intro ?_ ?_)); (try any_goals (first | refine zm ?_ | exact CL | fail))))
        ((first | apply pr_psv | apply prD_psv | apply pr_qrunv | apply prD_qrunv) <;> (first | exact (nw2 c.gl B1 18) | (refine XM ?_; first | exact rfl | exact True.intro | ((try (repeat' with_reducible refine And.intro ?_ ?_)); (try any_goals (first | refine zm ?_ | exact CL | fail))))))
        ((first | refine pr_gs (ins := [2, 1]) (set_gs c.gl B1 false 18 10 lo (by omega) (by omega) (by omega)) ?_ ?_ | refine prD_gs (ins := [2, 1]) (set_gs c.gl B1 false 18 10 lo (by omega) (by omega) (by omega)) ?_ ?_ | refine pr_gsv (ins := [2, 1]) (set_gs c.gl B1 false 18 10 lo (by omega) (by omega) (by omega)) ?_ ?_ | refine prD_gsv (ins := [2, 1]) (set_gs c.gl B1 false 18 10 lo (by omega) (by omega) (by omega)) ?_ ?_) <;> (have zf1 := @hL1; refine XM ?_; clear zf1; (try first | exact rfl | exact True.intro); ((try (repeat' with_reducible refine And.intro ?_ ?_)); (try any_goals (first | refine zm ?_ | exact CL | fail)))))
        · rfl
        (refine xw_ifp (fun q2 => ?_) (fun q2 => ?_) <;> try exact q2.elim)
        (refine XM ?_; ((try (repeat' with_reducible refine And.intro ?_ ?_)); (try any_goals (first | refine zm ?_ | exact CL | fail))))
        ((first | refine pr_gs (ins := [2, 1]) (tell_gs c.gl (setC B1 18 10 lo) false 36 (w2 B1 18) lo (by rw [setC_len]; omega) (by rw [setC_len]; omega)) ?_ ?_ | refine prD_gs (ins := [2, 1]) (tell_gs c.gl (setC B1 18 10 lo) false 36 (w2 B1 18) lo (by rw [setC_len]; omega) (by rw [setC_len]; omega)) ?_ ?_ | refine pr_gsv (ins := [2, 1]) (tell_gs c.gl (setC B1 18 10 lo) false 36 (w2 B1 18) lo (by rw [setC_len]; omega) (by rw [setC_len]; omega)) ?_ ?_ | refine prD_gsv (ins := [2, 1]) (tell_gs c.gl (setC B1 18 10 lo) false 36 (w2 B1 18) lo (by rw [setC_len]; omega) (by rw [setC_len]; omega)) ?_ ?_) <;> (have zf1 := @setC_len; have zf2 := @hL1; refine XM ?_; clear zf1 zf2; (try first | exact rfl | exact True.intro); ((try (repeat' with_reducible refine And.intro ?_ ?_)); (try any_goals (first | refine zm ?_ | exact CL | fail)))))
        · rfl
        refine ⟨2, by omega, ⟨[], ?_⟩, by omega⟩
        (have zf1 := @sel3_2; have zf2 := @kI_2; have zf3 := @hB2; refine XM ?_; clear zf1 zf2 zf3; ((try (repeat' with_reducible refine And.intro ?_ ?_)); (try any_goals (first | refine zm ?_ | exact CL | fail))))
      (have zf1 := @sel3_2; have zf2 := @kI_2; refine XM ?_; clear zf1 zf2; ((try (repeat' with_reducible refine And.intro ?_ ?_)); (try any_goals (first | refine zm ?_ | exact CL | fail))))
      (refine xw_ifp (fun q1 => ?_) (fun q1 => ?_) <;> try exact q1.elim)
      (have zf1 := @sel3_2; have zf2 := @kI_2; have zf3 := @pow_8; have zf4 := @e3; refine XM ?_; clear zf1 zf2 zf3 zf4; ((try (repeat' with_reducible refine And.intro ?_ ?_)); (try any_goals (first | refine zm ?_ | exact CL | fail))))
      ((first | refine pr_gs (ins := [2, 1]) s3 ?_ ?_ | refine prD_gs (ins := [2, 1]) s3 ?_ ?_ | refine pr_gsv (ins := [2, 1]) s3 ?_ ?_ | refine prD_gsv (ins := [2, 1]) s3 ?_ ?_) <;> (have zf1 := @pow_8; have zf2 := @e3; have zf3 := @hL3; refine XM ?_; clear zf1 zf2 zf3; (try first | exact rfl | exact True.intro); ((try (repeat' with_reducible refine And.intro ?_ ?_)); (try any_goals (first | refine zm ?_ | exact CL | fail)))))
      · rfl
      (refine xw_ifp (fun q2 => ?_) (fun q2 => ?_) <;> try exact q2.elim)
      (refine XM ?_; ((try (repeat' with_reducible refine And.intro ?_ ?_)); (try any_goals (first | refine zm ?_ | exact CL | fail))))
      have hz := w2_0 B4 36 (by omega)
      have hOf := Of_ps c.gl (B4.drop 20) (by rw [List.length_drop]; omega)
      by_cases z : w2 B4 36 = 0
      · have bz1 : (b1 B4 36 == 0) = true := by simp [(hz.1 z).1]
        have bz2 : (b1 B4 37 == 0) = true := by simp [(hz.1 z).2]
        ((first | refine pr_gs (ins := [2, 1]) s4 ?_ ?_ | refine prD_gs (ins := [2, 1]) s4 ?_ ?_ | refine pr_gsv (ins := [2, 1]) s4 ?_ ?_ | refine prD_gsv (ins := [2, 1]) s4 ?_ ?_) <;> (have zf1 := @hL4; have zf2 := @b1_fold; have zf3 := @bz1; have zf4 := @bz2; refine XM ?_; clear zf1 zf2 zf3 zf4; (try first | exact rfl | exact True.intro); ((try (repeat' with_reducible refine And.intro ?_ ?_)); (try any_goals (first | refine zm ?_ | exact CL | fail)))))
        · rfl
        ((first | apply pr_psv | apply prD_psv | apply pr_qrunv | apply prD_qrunv) <;> (first | exact hOf | (have zf1 := @b1_fold; have zf2 := @bz1; have zf3 := @bz2; refine XG ?_; clear zf1 zf2 zf3; first | exact rfl | exact True.intro | ((try (repeat' with_reducible refine And.intro ?_ ?_)); (try any_goals (first | refine zm ?_ | exact CL | fail))))))
        by_cases zz : ofN (B4.drop 20) = 0
        · have bo : (ofN (B4.drop 20) == 0) = true := by simp [zz]
          have hR1 : RR = (B4.set 36 255).set 37 255 := (HRR.out.trans (if_pos ⟨z, .inr zz⟩)).trans (setW_ff _ _)
          rw [hR1]
          clear hR1
          (refine xw_ifp (fun q3 => ?_) (fun q3 => ?_) <;> try exact q3.elim)
          · (have zf1 := @byts_set255; have zf2 := @hL4; refine XM ?_; clear zf1 zf2; ((try (repeat' with_reducible refine And.intro ?_ ?_)); (try any_goals (first | refine zm ?_ | exact CL | fail))))
          · omega
        · have hR1 : RR = B4 := HRR.out.trans (if_neg fun h => h.2.elim (by omega) zz)
          rw [hR1]
          clear hR1
          (refine xw_ifp (fun q3 => ?_) (fun q3 => ?_) <;> try exact q3.elim)
          · omega
          · (refine XG ?_; ((try (repeat' with_reducible refine And.intro ?_ ?_)); (try any_goals (first | refine zm ?_ | exact CL | fail))))
      · have bz : (b1 B4 36 == 0 && b1 B4 37 == 0) = false := by
          have hn : ¬ (b1 B4 36 = 0 ∧ b1 B4 37 = 0) := fun h => z (hz.2 h)
          rw [Bool.and_eq_false_iff, beq_eq_false_iff_ne, beq_eq_false_iff_ne]; omega
        have hR1 : RR = B4 := HRR.out.trans (if_neg fun h => z h.1)
        rw [hR1]
        clear hR1
        ((first | refine pr_gs (ins := [2, 1]) s4 ?_ ?_ | refine prD_gs (ins := [2, 1]) s4 ?_ ?_ | refine pr_gsv (ins := [2, 1]) s4 ?_ ?_ | refine prD_gsv (ins := [2, 1]) s4 ?_ ?_) <;> (have zf1 := @hL4; have zf2 := @b1_fold; have zf3 := @bz; refine XM ?_; clear zf1 zf2 zf3; (try first | exact rfl | exact True.intro); ((try (repeat' with_reducible refine And.intro ?_ ?_)); (try any_goals (first | refine zm ?_ | exact CL | fail)))))
        · rfl
        ((first | apply pr_skip | apply prD_skip) <;> (have zf1 := @b1_fold; have zf2 := @bz; refine XG ?_; clear zf1 zf2; first | exact rfl | exact True.intro | ((try (repeat' with_reducible refine And.intro ?_ ?_)); (try any_goals (first | refine zm ?_ | exact CL | fail)))))
        (refine xw_ifp (fun q3 => ?_) (fun q3 => ?_) <;> try exact q3.elim)
        (have zf1 := @b1_fold; have zf2 := @bz; refine XG ?_; clear zf1 zf2; ((try (repeat' with_reducible refine And.intro ?_ ?_)); (try any_goals (first | refine zm ?_ | exact CL | fail))))
  · rw [h9]
    have hsz := sizes_ps c.gl 17
    have hz : sizesT 17 = .tup [.int .i64 8, .int .i64 6] := rfl
    rw [hz] at hsz
    clear hz
    have hlm : 28 ≤ l.length := by omega
    rw [HG.out (HT0.out hok h12 (fun h => by omega)), h9]
    (refine XG ?_; ((try (repeat' with_reducible refine And.intro ?_ ?_)); (try any_goals (first | refine zm ?_ | exact CL | fail))))
    clear HB HT2 HT12 HT4 HT0 HG HTCP
    obtain rfl | rfl : side = 0 ∨ side = 1 := by omega
    · have hfin : turnB l 17 ttl (atOf 0) (whOf 17 0) addr port = turnB l 17 ttl 12 20 addr port := rfl
      rw [hfin]
      clear hfin
      have e1 := hi_eq addr haddr.1
      have e2 := lo_eq addr haddr
      have e3 := tp_eq (ttl - 1) 17 (by omega) (by omega)
      have t3 : turnB l 17 ttl 12 20 addr port = (if (w2 (setC (setC (tl (setC (tl (setC l 12 10 (addr / 65536)) 17 (w2 l 12) (addr / 65536)) 14 10 (addr % 65536)) 17 (w2 (tl (setC l 12 10 (addr / 65536)) 17 (w2 l 12) (addr / 65536)) 14) (addr % 65536)) 8 10 ((ttl - 1) * 256 + 17)) 20 26 port) 26 = 0) ∧ ((17 : Int) = 17 ∨ ofN ((setC (setC (tl (setC (tl (setC l 12 10 (addr / 65536)) 17 (w2 l 12) (addr / 65536)) 14 10 (addr % 65536)) 17 (w2 (tl (setC l 12 10 (addr / 65536)) 17 (w2 l 12) (addr / 65536)) 14) (addr % 65536)) 8 10 ((ttl - 1) * 256 + 17)) 20 26 port).drop 20) = 0) then setW (setC (setC (tl (setC (tl (setC l 12 10 (addr / 65536)) 17 (w2 l 12) (addr / 65536)) 14 10 (addr % 65536)) 17 (w2 (tl (setC l 12 10 (addr / 65536)) 17 (w2 l 12) (addr / 65536)) 14) (addr % 65536)) 8 10 ((ttl - 1) * 256 + 17)) 20 26 port) 26 65535 else setC (setC (tl (setC (tl (setC l 12 10 (addr / 65536)) 17 (w2 l 12) (addr / 65536)) 14 10 (addr % 65536)) 17 (w2 (tl (setC l 12 10 (addr / 65536)) 17 (w2 l 12) (addr / 65536)) 14) (addr % 65536)) 8 10 ((ttl - 1) * 256 + 17)) 20 26 port) := rfl
      rw [t3]
      clear t3
      obtain ⟨hi, hhi⟩ : ∃ x, x = addr / 65536 := ⟨_, rfl⟩
      obtain ⟨lo, hlw⟩ : ∃ x, x = addr % 65536 := ⟨_, rfl⟩
      rw [← hhi] at e1 ⊢
      rw [← hlw] at e2 ⊢
      have hhib : 0 ≤ hi ∧ hi ≤ 65535 := by omega
      have hlwb : 0 ≤ lo ∧ lo ≤ 65535 := by omega
      have E1 : tl (setC l 12 10 hi) 17 (w2 l 12) hi = tellW (setC l 12 10 hi) 26 (w2 l 12) hi := rfl
      obtain ⟨B1, hB1⟩ : ∃ x, x = tl (setC l 12 10 hi) 17 (w2 l 12) hi := ⟨_, rfl⟩
      rw [← hB1]
      rw [E1] at hB1
      have E2 : tl (setC B1 14 10 lo) 17 (w2 B1 14) lo = tellW (setC B1 14 10 lo) 26 (w2 B1 14) lo := rfl
      obtain ⟨B2, hB2⟩ : ∃ x, x = tl (setC B1 14 10 lo) 17 (w2 B1 14) lo := ⟨_, rfl⟩
      rw [← hB2]
      rw [E2] at hB2
      clear E1 E2
      have hL1 : B1.length = l.length := by rw [hB1]; simp [setC_len, tellW_len]
      have hL2 : B2.length = l.length := by rw [hB2]; simp [setC_len, tellW_len, hL1]
      have hL3 : (setC B2 8 10 ((ttl - 1) * 256 + 17)).length = l.length := by rw [setC_len, hL2]
      have hL4 : (setC (setC B2 8 10 ((ttl - 1) * 256 + 17)) 20 26 port).length = l.length := by rw [setC_len, hL3]
      have s3 := set_gs c.gl B2 true 8 10 ((ttl - 1) * 256 + 17) (by omega) (by omega) (by omega)
      have s4 := set_gs c.gl (setC B2 8 10 ((ttl - 1) * 256 + 17)) true 20 26 port (by omega) (by omega) (by omega)
      rw [hL2] at s3
      rw [hL3] at s4
      generalize setC (setC B2 8 10 ((ttl - 1) * 256 + 17)) 20 26 port = B4 at *
      generalize setC B2 8 10 ((ttl - 1) * 256 + 17) = B3 at *
      obtain ⟨RR, hRR⟩ : ∃ x, x = (if (w2 B4 26 = 0) ∧ ((17 : Int) = 17 ∨ ofN (B4.drop 20) = 0) then setW B4 26 65535 else B4) := ⟨_, rfl⟩
      rw [← hRR]
      have HRR := Lib.hid hRR
      clear hRR
      (refine xw_ifp (fun g3 => ?_) (fun g3 => ?_) <;> try exact g3.elim)
      (refine XG ?_; ((try (repeat' with_reducible refine And.intro ?_ ?_)); (try any_goals (first | refine zm ?_ | exact CL | fail))))
      ((first | apply pr_app | apply prD_app | apply pr_bsl | apply prD_bsl | apply pr_s2b | apply prD_s2b); (refine XG ?_; ((try (repeat' with_reducible refine And.intro ?_ ?_)); (try any_goals (first | refine zm ?_ | exact CL | fail)))))
      have hlw2 : addr % 65536 = lo := hlw.symm
      clear hlw
      ((first | apply pr_psv | apply prD_psv | apply pr_qrunv | apply prD_qrunv) <;> (first | exact hsz | (have zf1 := @e1; have zf2 := @hlw2; refine XM ?_; clear zf1 zf2; first | exact rfl | exact True.intro | ((try (repeat' with_reducible refine And.intro ?_ ?_)); (try any_goals (first | refine zm ?_ | exact CL | fail))))))
      refine loop_rule (fun k : Nat => k ≤ 2) (fun k => ⟨[(1, .int .i64 0), (3, .int .i64 port), (10, .ptr 0 0), (12, .ptr 2 0), (14, .int .i64 26), (15, .int .i64 12), (86, .agg [.int .i64 hi, .int .i64 lo]), (87, .int .i64 (kI k))], [(0, .cells [.int .i64 17, .int .i64 frm, .int .i64 sport, .int .i64 dst, .int .i64 dport, .int .i64 ttl, .int .i64 id, .int .i64 flags, .int .i64 seq, .int .i64 ack, .int .i64 win, .str body]), (1, .cells (byts (sel3 k l B1 B2))), (2, .cells [.sl 1 1 0 l.length l.length, .bool true])], 3⟩) (fun k => 2 - k) ft_wTurn.mixed hN
        ⟨0, by omega, [(1, 3), (2, 4)], by (have zf1 := @sel3_0; have zf2 := @kI_0; refine XG ?_; clear zf1 zf2; ((try (repeat' with_reducible refine And.intro ?_ ?_)); (try any_goals (first | refine zm ?_ | exact CL | fail))))⟩ fun k hk => ?_
      obtain rfl | rfl | rfl : k = 0 ∨ k = 1 ∨ k = 2 := by omega
      · (have zf1 := @sel3_0; have zf2 := @kI_0; refine XM ?_; clear zf1 zf2; ((try (repeat' with_reducible refine And.intro ?_ ?_)); (try any_goals (first | refine zm ?_ | exact CL | fail))))
        (refine xw_ifp (fun q1 => ?_) (fun q1 => ?_) <;> try exact q1.elim)
        (have zf1 := @sel3_0; have zf2 := @kI_0; refine XM ?_; clear zf1 zf2; ((try (repeat' with_reducible refine And.intro ?_ ?_)); (try any_goals (first | refine zm ?_ | exact CL | fail))))
        ((first | apply pr_psv | apply prD_psv | apply pr_qrunv | apply prD_qrunv) <;> (first | exact (nw2 c.gl l 12) | (refine XM ?_; first | exact rfl | exact True.intro | ((try (repeat' with_reducible refine And.intro ?_ ?_)); (try any_goals (first | refine zm ?_ | exact CL | fail))))))
        ((first | refine pr_gs (ins := [2, 1]) (set_gs c.gl l true 12 10 hi (by omega) (by omega) (by omega)) ?_ ?_ | refine prD_gs (ins := [2, 1]) (set_gs c.gl l true 12 10 hi (by omega) (by omega) (by omega)) ?_ ?_ | refine pr_gsv (ins := [2, 1]) (set_gs c.gl l true 12 10 hi (by omega) (by omega) (by omega)) ?_ ?_ | refine prD_gsv (ins := [2, 1]) (set_gs c.gl l true 12 10 hi (by omega) (by omega) (by omega)) ?_ ?_) <;> (have zf1 := @hL1; refine XM ?_; clear zf1; (try first | exact rfl | exact True.intro); ((try (repeat' with_reducible refine And.intro ?_ ?_)); (try any_goals (first | refine zm ?_ | exact CL | fail)))))
        · rfl
        (refine xw_ifp (fun q2 => ?_) (fun q2 => ?_) <;> try exact q2.elim)
        (refine XM ?_; ((try (repeat' with_reducible refine And.intro ?_ ?_)); (try any_goals (first | refine zm ?_ | exact CL | fail))))
        ((first | refine pr_gs (ins := [2, 1]) (tell_gs c.gl (setC l 12 10 hi) true 26 (w2 l 12) hi (by rw [setC_len]; omega) (by rw [setC_len]; omega)) ?_ ?_ | refine prD_gs (ins := [2, 1]) (tell_gs c.gl (setC l 12 10 hi) true 26 (w2 l 12) hi (by rw [setC_len]; omega) (by rw [setC_len]; omega)) ?_ ?_ | refine pr_gsv (ins := [2, 1]) (tell_gs c.gl (setC l 12 10 hi) true 26 (w2 l 12) hi (by rw [setC_len]; omega) (by rw [setC_len]; omega)) ?_ ?_ | refine prD_gsv (ins := [2, 1]) (tell_gs c.gl (setC l 12 10 hi) true 26 (w2 l 12) hi (by rw [setC_len]; omega) (by rw [setC_len]; omega)) ?_ ?_) <;> (have zf1 := @setC_len; refine XM ?_; clear zf1; (try first | exact rfl | exact True.intro); ((try (repeat' with_reducible refine And.intro ?_ ?_)); (try any_goals (first | refine zm ?_ | exact CL | fail)))))
        · rfl
        refine ⟨1, by omega, ⟨[], ?_⟩, by omega⟩
        (have zf1 := @sel3_1; have zf2 := @kI_1; have zf3 := @hB1; refine XM ?_; clear zf1 zf2 zf3; ((try (repeat' with_reducible refine And.intro ?_ ?_)); (try any_goals (first | refine zm ?_ | exact CL | fail))))
      · (have zf1 := @sel3_1; have zf2 := @kI_1; refine XM ?_; clear zf1 zf2; ((try (repeat' with_reducible refine And.intro ?_ ?_)); (try any_goals (first | refine zm ?_ | exact CL | fail))))
        (refine xw_ifp (fun q1 => ?_) (fun q1 => ?_) <;> try exact q1.elim)
        (have zf1 := @sel3_1; have zf2 := @kI_1; refine XM ?_; clear zf1 zf2; ((try (repeat' with_reducible refine And.intro ?_ ?_)); (try any_goals (first | refine zm ?_ | exact CL | fail))))
        ((first | apply pr_psv | apply prD_psv | apply pr_qrunv | apply prD_qrunv) <;> (first | exact (nw2 c.gl B1 14) | (refine XM ?_; first | exact rfl | exact True.intro | ((try (repeat' with_reducible refine And.intro ?_ ?_)); (try any_goals (first | refine zm ?_ | exact CL | fail))))))
        ((first | refine pr_gs (ins := [2, 1]) (set_gs c.gl B1 true 14 10 lo (by omega) (by omega) (by omega)) ?_ ?_ | refine prD_gs (ins := [2, 1]) (set_gs c.gl B1 true 14 10 lo (by omega) (by omega) (by omega)) ?_ ?_ | refine pr_gsv (ins := [2, 1]) (set_gs c.gl B1 true 14 10 lo (by omega) (by omega) (by omega)) ?_ ?_ | refine prD_gsv (ins := [2, 1]) (set_gs c.gl B1 true 14 10 lo (by omega) (by omega) (by omega)) ?_ ?_) <;> (have zf1 := @hL1; refine XM ?_; clear zf1; (try first | exact rfl | exact True.intro); ((try (repeat' with_reducible refine And.intro ?_ ?_)); (try any_goals (first | refine zm ?_ | exact CL | fail)))))
        · rfl
        (refine xw_ifp (fun q2 => ?_) (fun q2 => ?_) <;> try exact q2.elim)
        (refine XM ?_; ((try (repeat' with_reducible refine And.intro ?_ ?_)); (try any_goals (first | refine zm ?_ | exact CL | fail))))
        ((first | refine pr_gs (ins := [2, 1]) (tell_gs c.gl (setC B1 14 10 lo) true 26 (w2 B1 14) lo (by rw [setC_len]; omega) (by rw [setC_len]; omega)) ?_ ?_ | refine prD_gs (ins := [2, 1]) (tell_gs c.gl (setC B1 14 10 lo) true 26 (w2 B1 14) lo (by rw [setC_len]; omega) (by rw [setC_len]; omega)) ?_ ?_ | refine pr_gsv (ins := [2, 1]) (tell_gs c.gl (setC B1 14 10 lo) true 26 (w2 B1 14) lo (by rw [setC_len]; omega) (by rw [setC_len]; omega)) ?_ ?_ | refine prD_gsv (ins := [2, 1]) (tell_gs c.gl (setC B1 14 10 lo) true 26 (w2 B1 14) lo (by rw [setC_len]; omega) (by rw [setC_len]; omega)) ?_ ?_) <;> (have zf1 := @setC_len; have zf2 := @hL1; refine XM ?_; clear zf1 zf2; (try first | exact rfl | exact True.intro); ((try (repeat' with_reducible refine And.intro ?_ ?_)); (try any_goals (first | refine zm ?_ | exact CL | fail)))))
        · rfl
        refine ⟨2, by omega, ⟨[], ?_⟩, by omega⟩
        (have zf1 := @sel3_2; have zf2 := @kI_2; have zf3 := @hB2; refine XM ?_; clear zf1 zf2 zf3; ((try (repeat' with_reducible refine And.intro ?_ ?_)); (try any_goals (first | refine zm ?_ | exact CL | fail))))
      (have zf1 := @sel3_2; have zf2 := @kI_2; refine XM ?_; clear zf1 zf2; ((try (repeat' with_reducible refine And.intro ?_ ?_)); (try any_goals (first | refine zm ?_ | exact CL | fail))))
      (refine xw_ifp (fun q1 => ?_) (fun q1 => ?_) <;> try exact q1.elim)
      (have zf1 := @sel3_2; have zf2 := @kI_2; have zf3 := @pow_8; have zf4 := @e3; refine XM ?_; clear zf1 zf2 zf3 zf4; ((try (repeat' with_reducible refine And.intro ?_ ?_)); (try any_goals (first | refine zm ?_ | exact CL | fail))))
      ((first | refine pr_gs (ins := [2, 1]) s3 ?_ ?_ | refine prD_gs (ins := [2, 1]) s3 ?_ ?_ | refine pr_gsv (ins := [2, 1]) s3 ?_ ?_ | refine prD_gsv (ins := [2, 1]) s3 ?_ ?_) <;> (have zf1 := @pow_8; have zf2 := @e3; have zf3 := @hL3; refine XM ?_; clear zf1 zf2 zf3; (try first | exact rfl | exact True.intro); ((try (repeat' with_reducible refine And.intro ?_ ?_)); (try any_goals (first | refine zm ?_ | exact CL | fail)))))
      · rfl
      (refine xw_ifp (fun q2 => ?_) (fun q2 => ?_) <;> try exact q2.elim)
      (refine XM ?_; ((try (repeat' with_reducible refine And.intro ?_ ?_)); (try any_goals (first | refine zm ?_ | exact CL | fail))))
      have hz := w2_0 B4 26 (by omega)
      have hOf := Of_ps c.gl (B4.drop 20) (by rw [List.length_drop]; omega)
      by_cases z : w2 B4 26 = 0
      · have bz1 : (b1 B4 26 == 0) = true := by simp [(hz.1 z).1]
        have bz2 : (b1 B4 27 == 0) = true := by simp [(hz.1 z).2]
        ((first | refine pr_gs (ins := [2, 1]) s4 ?_ ?_ | refine prD_gs (ins := [2, 1]) s4 ?_ ?_ | refine pr_gsv (ins := [2, 1]) s4 ?_ ?_ | refine prD_gsv (ins := [2, 1]) s4 ?_ ?_) <;> (have zf1 := @hL4; have zf2 := @b1_fold; have zf3 := @bz1; have zf4 := @bz2; refine XM ?_; clear zf1 zf2 zf3 zf4; (try first | exact rfl | exact True.intro); ((try (repeat' with_reducible refine And.intro ?_ ?_)); (try any_goals (first | refine zm ?_ | exact CL | fail)))))
        · rfl
        have hR1 : RR = (B4.set 26 255).set 27 255 := (HRR.out.trans (if_pos ⟨z, .inl rfl⟩)).trans (setW_ff _ _)
        rw [hR1]
        clear hR1
        ((first | apply pr_skip | apply prD_skip) <;> (have zf1 := @b1_fold; have zf2 := @bz1; have zf3 := @bz2; refine XG ?_; clear zf1 zf2 zf3; first | exact rfl | exact True.intro | ((try (repeat' with_reducible refine And.intro ?_ ?_)); (try any_goals (first | refine zm ?_ | exact CL | fail)))))
        (refine xw_ifp (fun q3 => ?_) (fun q3 => ?_) <;> try exact q3.elim)
        (have zf1 := @byts_set255; have zf2 := @hL4; refine XM ?_; clear zf1 zf2; ((try (repeat' with_reducible refine And.intro ?_ ?_)); (try any_goals (first | refine zm ?_ | exact CL | fail))))
      · have bz : (b1 B4 26 == 0 && b1 B4 27 == 0) = false := by
          have hn : ¬ (b1 B4 26 = 0 ∧ b1 B4 27 = 0) := fun h => z (hz.2 h)
          rw [Bool.and_eq_false_iff, beq_eq_false_iff_ne, beq_eq_false_iff_ne]; omega
        have hR1 : RR = B4 := HRR.out.trans (if_neg fun h => z h.1)
        rw [hR1]
        clear hR1
        ((first | refine pr_gs (ins := [2, 1]) s4 ?_ ?_ | refine prD_gs (ins := [2, 1]) s4 ?_ ?_ | refine pr_gsv (ins := [2, 1]) s4 ?_ ?_ | refine prD_gsv (ins := [2, 1]) s4 ?_ ?_) <;> (have zf1 := @hL4; have zf2 := @b1_fold; have zf3 := @bz; refine XM ?_; clear zf1 zf2 zf3; (try first | exact rfl | exact True.intro); ((try (repeat' with_reducible refine And.intro ?_ ?_)); (try any_goals (first | refine zm ?_ | exact CL | fail)))))
        · rfl
        ((first | apply pr_skip | apply prD_skip) <;> (have zf1 := @b1_fold; have zf2 := @bz; refine XG ?_; clear zf1 zf2; first | exact rfl | exact True.intro | ((try (repeat' with_reducible refine And.intro ?_ ?_)); (try any_goals (first | refine zm ?_ | exact CL | fail)))))
        (refine xw_ifp (fun q3 => ?_) (fun q3 => ?_) <;> try exact q3.elim)
        (have zf1 := @b1_fold; have zf2 := @bz; refine XG ?_; clear zf1 zf2; ((try (repeat' with_reducible refine And.intro ?_ ?_)); (try any_goals (first | refine zm ?_ | exact CL | fail))))
    · have hfin : turnB l 17 ttl (atOf 1) (whOf 17 1) addr port = turnB l 17 ttl 16 22 addr port := rfl
      rw [hfin]
      clear hfin
      have e1 := hi_eq addr haddr.1
      have e2 := lo_eq addr haddr
      have e3 := tp_eq (ttl - 1) 17 (by omega) (by omega)
      have t3 : turnB l 17 ttl 16 22 addr port = (if (w2 (setC (setC (tl (setC (tl (setC l 16 10 (addr / 65536)) 17 (w2 l 16) (addr / 65536)) 18 10 (addr % 65536)) 17 (w2 (tl (setC l 16 10 (addr / 65536)) 17 (w2 l 16) (addr / 65536)) 18) (addr % 65536)) 8 10 ((ttl - 1) * 256 + 17)) 22 26 port) 26 = 0) ∧ ((17 : Int) = 17 ∨ ofN ((setC (setC (tl (setC (tl (setC l 16 10 (addr / 65536)) 17 (w2 l 16) (addr / 65536)) 18 10 (addr % 65536)) 17 (w2 (tl (setC l 16 10 (addr / 65536)) 17 (w2 l 16) (addr / 65536)) 18) (addr % 65536)) 8 10 ((ttl - 1) * 256 + 17)) 22 26 port).drop 20) = 0) then setW (setC (setC (tl (setC (tl (setC l 16 10 (addr / 65536)) 17 (w2 l 16) (addr / 65536)) 18 10 (addr % 65536)) 17 (w2 (tl (setC l 16 10 (addr / 65536)) 17 (w2 l 16) (addr / 65536)) 18) (addr % 65536)) 8 10 ((ttl - 1) * 256 + 17)) 22 26 port) 26 65535 else setC (setC (tl (setC (tl (setC l 16 10 (addr / 65536)) 17 (w2 l 16) (addr / 65536)) 18 10 (addr % 65536)) 17 (w2 (tl (setC l 16 10 (addr / 65536)) 17 (w2 l 16) (addr / 65536)) 18) (addr % 65536)) 8 10 ((ttl - 1) * 256 + 17)) 22 26 port) := rfl
      rw [t3]
      clear t3
      obtain ⟨hi, hhi⟩ : ∃ x, x = addr / 65536 := ⟨_, rfl⟩
      obtain ⟨lo, hlw⟩ : ∃ x, x = addr % 65536 := ⟨_, rfl⟩
      rw [← hhi] at e1 ⊢
      rw [← hlw] at e2 ⊢
      have hhib : 0 ≤ hi ∧ hi ≤ 65535 := by omega
      have hlwb : 0 ≤ lo ∧ lo ≤ 65535 := by omega
      have E1 : tl (setC l 16 10 hi) 17 (w2 l 16) hi = tellW (setC l 16 10 hi) 26 (w2 l 16) hi := rfl
      obtain ⟨B1, hB1⟩ : ∃ x, x = tl (setC l 16 10 hi) 17 (w2 l 16) hi := ⟨_, rfl⟩
      rw [← hB1]
      rw [E1] at hB1
      have E2 : tl (setC B1 18 10 lo) 17 (w2 B1 18) lo = tellW (setC B1 18 10 lo) 26 (w2 B1 18) lo := rfl
      obtain ⟨B2, hB2⟩ : ∃ x, x = tl (setC B1 18 10 lo) 17 (w2 B1 18) lo := ⟨_, rfl⟩
      rw [← hB2]
      rw [E2] at hB2
      clear E1 E2
      have hL1 : B1.length = l.length := by rw [hB1]; simp [setC_len, tellW_len]
      have hL2 : B2.length = l.length := by rw [hB2]; simp [setC_len, tellW_len, hL1]
      have hL3 : (setC B2 8 10 ((ttl - 1) * 256 + 17)).length = l.length := by rw [setC_len, hL2]
      have hL4 : (setC (setC B2 8 10 ((ttl - 1) * 256 + 17)) 22 26 port).length = l.length := by rw [setC_len, hL3]
      have s3 := set_gs c.gl B2 true 8 10 ((ttl - 1) * 256 + 17) (by omega) (by omega) (by omega)
      have s4 := set_gs c.gl (setC B2 8 10 ((ttl - 1) * 256 + 17)) true 22 26 port (by omega) (by omega) (by omega)
      rw [hL2] at s3
      rw [hL3] at s4
      generalize setC (setC B2 8 10 ((ttl - 1) * 256 + 17)) 22 26 port = B4 at *
      generalize setC B2 8 10 ((ttl - 1) * 256 + 17) = B3 at *
      obtain ⟨RR, hRR⟩ : ∃ x, x = (if (w2 B4 26 = 0) ∧ ((17 : Int) = 17 ∨ ofN (B4.drop 20) = 0) then setW B4 26 65535 else B4) := ⟨_, rfl⟩
      rw [← hRR]
      have HRR := Lib.hid hRR
      clear hRR
      (refine xw_ifp (fun g3 => ?_) (fun g3 => ?_) <;> try exact g3.elim)
      (refine XG ?_; ((try (repeat' with_reducible refine And.intro ?_ ?_)); (try any_goals (first | refine zm ?_ | exact CL | fail))))
      ((first | apply pr_app | apply prD_app | apply pr_bsl | apply prD_bsl | apply pr_s2b | apply prD_s2b); (refine XG ?_; ((try (repeat' with_reducible refine And.intro ?_ ?_)); (try any_goals (first | refine zm ?_ | exact CL | fail)))))
      have hlw2 : addr % 65536 = lo := hlw.symm
      clear hlw
      ((first | apply pr_psv | apply prD_psv | apply pr_qrunv | apply prD_qrunv) <;> (first | exact hsz | (have zf1 := @e1; have zf2 := @hlw2; refine XM ?_; clear zf1 zf2; first | exact rfl | exact True.intro | ((try (repeat' with_reducible refine And.intro ?_ ?_)); (try any_goals (first | refine zm ?_ | exact CL | fail))))))
      refine loop_rule (fun k : Nat => k ≤ 2) (fun k => ⟨[(1, .int .i64 1), (3, .int .i64 port), (10, .ptr 0 0), (12, .ptr 2 0), (14, .int .i64 26), (15, .int .i64 16), (86, .agg [.int .i64 hi, .int .i64 lo]), (87, .int .i64 (kI k))], [(0, .cells [.int .i64 17, .int .i64 frm, .int .i64 sport, .int .i64 dst, .int .i64 dport, .int .i64 ttl, .int .i64 id, .int .i64 flags, .int .i64 seq, .int .i64 ack, .int .i64 win, .str body]), (1, .cells (byts (sel3 k l B1 B2))), (2, .cells [.sl 1 1 0 l.length l.length, .bool true])], 3⟩) (fun k => 2 - k) ft_wTurn.mixed hN
        ⟨0, by omega, [(1, 3), (2, 4)], by (have zf1 := @sel3_0; have zf2 := @kI_0; refine XG ?_; clear zf1 zf2; ((try (repeat' with_reducible refine And.intro ?_ ?_)); (try any_goals (first | refine zm ?_ | exact CL | fail))))⟩ fun k hk => ?_
      obtain rfl | rfl | rfl : k = 0 ∨ k = 1 ∨ k = 2 := by omega
      · (have zf1 := @sel3_0; have zf2 := @kI_0; refine XM ?_; clear zf1 zf2; ((try (repeat' with_reducible refine And.intro ?_ ?_)); (try any_goals (first | refine zm ?_ | exact CL | fail))))
        (refine xw_ifp (fun q1 => ?_) (fun q1 => ?_) <;> try exact q1.elim)
        (have zf1 := @sel3_0; have zf2 := @kI_0; refine XM ?_; clear zf1 zf2; ((try (repeat' with_reducible refine And.intro ?_ ?_)); (try any_goals (first | refine zm ?_ | exact CL | fail))))
        ((first | apply pr_psv | apply prD_psv | apply pr_qrunv | apply prD_qrunv) <;> (first | exact (nw2 c.gl l 16) | (refine XM ?_; first | exact rfl | exact True.intro | ((try (repeat' with_reducible refine And.intro ?_ ?_)); (try any_goals (first | refine zm ?_ | exact CL | fail))))))
        ((first | refine pr_gs (ins := [2, 1]) (set_gs c.gl l true 16 10 hi (by omega) (by omega) (by omega)) ?_ ?_ | refine prD_gs (ins := [2, 1]) (set_gs c.gl l true 16 10 hi (by omega) (by omega) (by omega)) ?_ ?_ | refine pr_gsv (ins := [2, 1]) (set_gs c.gl l true 16 10 hi (by omega) (by omega) (by omega)) ?_ ?_ | refine prD_gsv (ins := [2, 1]) (set_gs c.gl l true 16 10 hi (by omega) (by omega) (by omega)) ?_ ?_) <;> (have zf1 := @hL1; refine XM ?_; clear zf1; (try first | exact rfl | exact True.intro); ((try (repeat' with_reducible refine And.intro ?_ ?_)); (try any_goals (first | refine zm ?_ | exact CL | fail)))))
        · rfl
        (refine xw_ifp (fun q2 => ?_) (fun q2 => ?_) <;> try exact q2.elim)
        (refine XM ?_; ((try (repeat' with_reducible refine And.intro ?_ ?_)); (try any_goals (first | refine zm ?_ | exact CL | fail))))
        ((first | refine pr_gs (ins := [2, 1]) (tell_gs c.gl (setC l 16 10 hi) true 26 (w2 l 16) hi (by rw [setC_len]; omega) (by rw [setC_len]; omega)) ?_ ?_ | refine prD_gs (ins := [2, 1]) (tell_gs c.gl (setC l 16 10 hi) true 26 (w2 l 16) hi (by rw [setC_len]; omega) (by rw [setC_len]; omega)) ?_ ?_ | refine pr_gsv (ins := [2, 1]) (tell_gs c.gl (setC l 16 10 hi) true 26 (w2 l 16) hi (by rw [setC_len]; omega) (by rw [setC_len]; omega)) ?_ ?_ | refine prD_gsv (ins := [2, 1]) (tell_gs c.gl (setC l 16 10 hi) true 26 (w2 l 16) hi (by rw [setC_len]; omega) (by rw [setC_len]; omega)) ?_ ?_) <;> (have zf1 := @setC_len; refine XM ?_; clear zf1; (try first | exact rfl | exact True.intro); ((try (repeat' with_reducible refine And.intro ?_ ?_)); (try any_goals (first | refine zm ?_ | exact CL | fail)))))
        · rfl
        refine ⟨1, by omega, ⟨[], ?_⟩, by omega⟩
        (have zf1 := @sel3_1; have zf2 := @kI_1; have zf3 := @hB1; refine XM ?_; clear zf1 zf2 zf3; ((try (repeat' with_reducible refine And.intro ?_ ?_)); (try any_goals (first | refine zm ?_ | exact CL | fail))))
      · (have zf1 := @sel3_1; have zf2 := @kI_1; refine XM ?_; clear zf1 zf2; ((try (repeat' with_reducible refine And.intro ?_ ?_)); (try any_goals (first | refine zm ?_ | exact CL | fail))))
        (refine xw_ifp (fun q1 => ?_) (fun q1 => ?_) <;> try exact q1.elim)
        (have zf1 := @sel3_1; have zf2 := @kI_1; refine XM ?_; clear zf1 zf2; ((try (repeat' with_reducible refine And.intro ?_ ?_)); (try any_goals (first | refine zm ?_ | exact CL | fail))))
        ((first | apply pr_psv | apply prD_psv | apply pr_qrunv | apply prD_qrunv) <;> (first | exact (nw2 c.gl B1 18) | (refine XM ?_; first | exact rfl | exact True.intro | ((try (repeat' with_reducible refine And.intro ?_ ?_)); (try any_goals (first | refine zm ?_ | exact CL | fail))))))
        ((first | refine pr_gs (ins := [2, 1]) (set_gs c.gl B1 true 18 10 lo (by omega) (by omega) (by omega)) ?_ ?_ | refine prD_gs (ins := [2, 1]) (set_gs c.gl B1 true 18 10 lo (by omega) (by omega) (by omega)) ?_ ?_ | refine pr_gsv (ins := [2, 1]) (set_gs c.gl B1 true 18 10 lo (by omega) (by omega) (by omega)) ?_ ?_ | refine prD_gsv (ins := [2, 1]) (set_gs c.gl B1 true 18 10 lo (by omega) (by omega) (by omega)) ?_ ?_) <;> (have zf1 := @hL1; refine XM ?_; clear zf1; (try first | exact rfl | exact True.intro); ((try (repeat' with_reducible refine And.intro ?_ ?_)); (try any_goals (first | refine zm ?_ | exact CL | fail)))))
        · rfl
        (refine xw_ifp (fun q2 => ?_) (fun q2 => ?_) <;> try exact q2.elim)
        (refine XM ?_; ((try (repeat' with_reducible refine And.intro ?_ ?_)); (try any_goals (first | refine zm ?_ | exact CL | fail))))
        ((first | refine pr_gs (ins := [2, 1]) (tell_gs c.gl (setC B1 18 10 lo) true 26 (w2 B1 18) lo (by rw [setC_len]; omega) (by rw [setC_len]; omega)) ?_ ?_ | refine prD_gs (ins := [2, 1]) (tell_gs c.gl (setC B1 18 10 lo) true 26 (w2 B1 18) lo (by rw [setC_len]; omega) (by rw [setC_len]; omega)) ?_ ?_ | refine pr_gsv (ins := [2, 1]) (tell_gs c.gl (setC B1 18 10 lo) true 26 (w2 B1 18) lo (by rw [setC_len]; omega) (by rw [setC_len]; omega)) ?_ ?_ | refine prD_gsv (ins := [2, 1]) (tell_gs c.gl (setC B1 18 10 lo) true 26 (w2 B1 18) lo (by rw [setC_len]; omega) (by rw [setC_len]; omega)) ?_ ?_) <;> (have zf1 := @setC_len; have zf2 := @hL1; refine XM ?_; clear zf1 zf2; (try first | exact rfl | exact True.intro); ((try (repeat' with_reducible refine And.intro ?_ ?_)); (try any_goals (first | refine zm ?_ | exact CL | fail)))))
        · rfl
        refine ⟨2, by omega, ⟨[], ?_⟩, by omega⟩
        (have zf1 := @sel3_2; have zf2 := @kI_2; have zf3 := @hB2; refine XM ?_; clear zf1 zf2 zf3; ((try (repeat' with_reducible refine And.intro ?_ ?_)); (try any_goals (first | refine zm ?_ | exact CL | fail))))
      (have zf1 := @sel3_2; have zf2 := @kI_2; refine XM ?_; clear zf1 zf2; ((try (repeat' with_reducible refine And.intro ?_ ?_)); (try any_goals (first | refine zm ?_ | exact CL | fail))))
      (refine xw_ifp (fun q1 => ?_) (fun q1 => ?_) <;> try exact q1.elim)
      (have zf1 := @sel3_2; have zf2 := @kI_2; have zf3 := @pow_8; have zf4 := @e3; refine XM ?_; clear zf1 zf2 zf3 zf4; ((try (repeat' with_reducible refine And.intro ?_ ?_)); (try any_goals (first | refine zm ?_ | exact CL | fail))))
      ((first | refine pr_gs (ins := [2, 1]) s3 ?_ ?_ | refine prD_gs (ins := [2, 1]) s3 ?_ ?_ | refine pr_gsv (ins := [2, 1]) s3 ?_ ?_ | refine prD_gsv (ins := [2, 1]) s3 ?_ ?_) <;> (have zf1 := @pow_8; have zf2 := @e3; have zf3 := @hL3; refine XM ?_; clear zf1 zf2 zf3; (try first | exact rfl | exact True.intro); ((try (repeat' with_reducible refine And.intro ?_ ?_)); (try any_goals (first | refine zm ?_ | exact CL | fail)))))
      · rfl
      (refine xw_ifp (fun q2 => ?_) (fun q2 => ?_) <;> try exact q2.elim)
      (refine XM ?_; ((try (repeat' with_reducible refine And.intro ?_ ?_)); (try any_goals (first | refine zm ?_ | exact CL | fail))))
      have hz := w2_0 B4 26 (by omega)
      have hOf := Of_ps c.gl (B4.drop 20) (by rw [List.length_drop]; omega)
      by_cases z : w2 B4 26 = 0
      · have bz1 : (b1 B4 26 == 0) = true := by simp [(hz.1 z).1]
        have bz2 : (b1 B4 27 == 0) = true := by simp [(hz.1 z).2]
        ((first | refine pr_gs (ins := [2, 1]) s4 ?_ ?_ | refine prD_gs (ins := [2, 1]) s4 ?_ ?_ | refine pr_gsv (ins := [2, 1]) s4 ?_ ?_ | refine prD_gsv (ins := [2, 1]) s4 ?_ ?_) <;> (have zf1 := @hL4; have zf2 := @b1_fold; have zf3 := @bz1; have zf4 := @bz2; refine XM ?_; clear zf1 zf2 zf3 zf4; (try first | exact rfl | exact True.intro); ((try (repeat' with_reducible refine And.intro ?_ ?_)); (try any_goals (first | refine zm ?_ | exact CL | fail)))))
        · rfl
        have hR1 : RR = (B4.set 26 255).set 27 255 := (HRR.out.trans (if_pos ⟨z, .inl rfl⟩)).trans (setW_ff _ _)
        rw [hR1]
        clear hR1
        ((first | apply pr_skip | apply prD_skip) <;> (have zf1 := @b1_fold; have zf2 := @bz1; have zf3 := @bz2; refine XG ?_; clear zf1 zf2 zf3; first | exact rfl | exact True.intro | ((try (repeat' with_reducible refine And.intro ?_ ?_)); (try any_goals (first | refine zm ?_ | exact CL | fail)))))
        (refine xw_ifp (fun q3 => ?_) (fun q3 => ?_) <;> try exact q3.elim)
        (have zf1 := @byts_set255; have zf2 := @hL4; refine XM ?_; clear zf1 zf2; ((try (repeat' with_reducible refine And.intro ?_ ?_)); (try any_goals (first | refine zm ?_ | exact CL | fail))))
      · have bz : (b1 B4 26 == 0 && b1 B4 27 == 0) = false := by
          have hn : ¬ (b1 B4 26 = 0 ∧ b1 B4 27 = 0) := fun h => z (hz.2 h)
          rw [Bool.and_eq_false_iff, beq_eq_false_iff_ne, beq_eq_false_iff_ne]; omega
        have hR1 : RR = B4 := HRR.out.trans (if_neg fun h => z h.1)
        rw [hR1]
        clear hR1
        ((first | refine pr_gs (ins := [2, 1]) s4 ?_ ?_ | refine prD_gs (ins := [2, 1]) s4 ?_ ?_ | refine pr_gsv (ins := [2, 1]) s4 ?_ ?_ | refine prD_gsv (ins := [2, 1]) s4 ?_ ?_) <;> (have zf1 := @hL4; have zf2 := @b1_fold; have zf3 := @bz; refine XM ?_; clear zf1 zf2 zf3; (try first | exact rfl | exact True.intro); ((try (repeat' with_reducible refine And.intro ?_ ?_)); (try any_goals (first | refine zm ?_ | exact CL | fail)))))
        · rfl
        ((first | apply pr_skip | apply prD_skip) <;> (have zf1 := @b1_fold; have zf2 := @bz; refine XG ?_; clear zf1 zf2; first | exact rfl | exact True.intro | ((try (repeat' with_reducible refine And.intro ?_ ?_)); (try any_goals (first | refine zm ?_ | exact CL | fail)))))
        (refine xw_ifp (fun q3 => ?_) (fun q3 => ?_) <;> try exact q3.elim)
        (have zf1 := @b1_fold; have zf2 := @bz; refine XG ?_; clear zf1 zf2; ((try (repeat' with_reducible refine And.intro ?_ ?_)); (try any_goals (first | refine zm ?_ | exact CL | fail))))
end Go.Proofs.Ytblimjilinkmbaa
