/- What wire.Build builds. No conditions but the ones that stand in each. -/
import Derived.Test.YtblimjilinkmbaaWg
namespace Go.Proofs.Ytblimjilinkmbaa
set_option linter.all false
set_option linter.unusedSimpArgs false
open Go.RowKit

theorem row_set (A Z : List UInt8) (v : Int) (k : Nat) (hA : A.length = k) : ((A ++ [0, 0] ++ Z).set k (byteI v 1)).set (k + 1) (byteI v 0) = A ++ be v 2 ++ Z := by
  subst hA; exact set_two A Z 0 0 (byteI v 1) (byteI v 0)
theorem be_04 : be 0 4 = [0, 0] ++ [0, 0] := by decide
/-- What is said of a segment while its check is not there yet. -/
structure Seg (p : Pk) (k m : Nat) (row : List UInt8) : Prop where
  len : row.length = m + p.body.length
  sn : segN p = m + p.body.length
  set : ∀ v, (row.set k (byteI v 1)).set (k + 1) (byteI v 0) = segA p ++ be v 2 ++ segZ p
  chk : checkN (preB p.proto p.frm p.dst (segN p) ++ row) = checkN (preB p.proto p.frm p.dst (segN p) ++ segA p ++ [0, 0] ++ segZ p)
theorem Seg.of {p : Pk} {k m : Nat} {row : List UInt8} (h : row = segA p ++ [0, 0] ++ segZ p) (hk : (segA p).length = k) (hm : k + 2 + (segZ p).length = m + p.body.length) : Seg p k m row := by
  subst h
  refine ⟨by simp only [List.length_append, List.length_cons, List.length_nil]; omega, by unfold segN; omega, fun v => row_set _ _ v k hk, by simp only [List.append_assoc]⟩
theorem Seg.ck {p : Pk} {k m : Nat} {row : List UInt8} (h : Seg p k m row) : ckN p = if p.proto = 17 ∧ checkN (preB p.proto p.frm p.dst (segN p) ++ row) = 0 then 65535 else checkN (preB p.proto p.frm p.dst (segN p) ++ row) := by
  unfold ckN; rw [h.chk]

set_option maxHeartbeats 8000000 in
set_option maxRecDepth 20000 in
theorem build_ping (gl : Nat → AV) (frm sport dst dport ttl id flags seq ack win : Int) (body : List UInt8) (h : pkErr (⟨1, frm, sport, dst, dport, ttl, id, flags, seq, ack, win, body⟩ : Pk) = 0) : PS Try.prog gl 11 [.agg (⟨1, frm, sport, dst, dport, ttl, id, flags, seq, ack, win, body⟩ : Pk).enc] (.tup [.str (buildB (⟨1, frm, sport, dst, dport, ttl, id, flags, seq, ack, win, body⟩ : Pk)), .int .i64 0]) := by
  refine ft_wBuild.ps (of_decide_eq_true rfl) (by simp [nmOk, nmAll]) fun c hN hg => ?_
  unfold T_wBuild
  have hG := wGood_ps c.gl (⟨1, frm, sport, dst, dport, ttl, id, flags, seq, ack, win, body⟩ : Pk)
  rw [h] at hG
  obtain ⟨_, ⟨r1, r2, r3, r4, r5, r6, r7, r8, r9, r10⟩, hbl, _⟩ := pkErr_ok h
  dsimp only at r1 r2 r3 r4 r5 r6 r7 r8 r9 r10 hbl
  clear h
  unfold Pk.enc at hG ⊢
  dsimp only at hG ⊢
  obtain ⟨p2, hp2⟩ : ∃ p2 : List UInt8, p2 = be flags 1 ++ [0] := ⟨_, rfl⟩
  have hl2 : p2.length = 2 := by rw [hp2]; rfl
  have lit : [.int .u8 flags, .int .u8 0] = byts p2 := by
    have e := byte0 flags (by omega) (by omega)
    rw [hp2]
    show _ = [AV.int .u8 ((byteI flags 0).toNat : Int), AV.int .u8 0]
    rw [e]
  have hS : Seg (⟨1, frm, sport, dst, dport, ttl, id, flags, seq, ack, win, body⟩ : Pk) 2 8 (p2 ++ be 0 2 ++ be (sport + dport) 2 ++ be seq 2 ++ body) := by
    refine .of (by rw [hp2, be_02]; unfold segA segZ; simp) (by simp [segA, be_len]) (by simp [segZ, be_len]; omega)
  have lr : (p2 ++ be 0 2 ++ be (sport + dport) 2 ++ be seq 2).length = 8 := by simp [be_len, hl2]
  have hm := hS.len
  have hsn := hS.sn
  dsimp only at hm hsn
  have tr : (p2 ++ be 0 2 ++ be (sport + dport) 2 ++ be seq 2).take 8 = p2 ++ be 0 2 ++ be (sport + dport) 2 ++ be seq 2 := List.take_of_length_le (by omega)
  have hset := hS.set
  have hfin : buildB (⟨1, frm, sport, dst, dport, ttl, id, flags, seq, ack, win, body⟩ : Pk) = headB 1 frm dst ttl id ((8 + body.length : Nat) : Int) ++ (((p2 ++ be 0 2 ++ be (sport + dport) 2 ++ be seq 2 ++ body).set 2 (byteI (ckN (⟨1, frm, sport, dst, dport, ttl, id, flags, seq, ack, win, body⟩ : Pk)) 1)).set (2 + 1) (byteI (ckN (⟨1, frm, sport, dst, dport, ttl, id, flags, seq, ack, win, body⟩ : Pk)) 0)) := by
    unfold buildB segB; rw [hsn, hset]
  have hck := hS.ck
  rw [hsn] at hck
  dsimp only at hck
  have hNl : ((8 + body.length : Nat) : Int) = 8 + (body.length : Int) := by omega
  rw [hNl] at hck hfin
  rw [hfin]
  clear hfin hset hS hsn
  generalize ckN (⟨1, frm, sport, dst, dport, ttl, id, flags, seq, ack, win, body⟩ : Pk) = ck at *
  have hl84 : (preB 1 frm dst (8 + (body.length : Int)) ++ (p2 ++ be 0 2 ++ be (sport + dport) 2 ++ be seq 2 ++ body)).length ≤ 200 := by
    unfold preB; simp only [List.length_append] at hm ⊢; split <;> simp [be_len] <;> omega
  have hCk := Check_ps c.gl (preB 1 frm dst (8 + (body.length : Int)) ++ (p2 ++ be 0 2 ++ be (sport + dport) 2 ++ be seq 2 ++ body)) (by omega)
  have hKl := checkN_le (preB 1 frm dst (8 + (body.length : Int)) ++ (p2 ++ be 0 2 ++ be (sport + dport) 2 ++ be seq 2 ++ body))
  have hpre : preB 1 frm dst (8 + (body.length : Int)) = [] := rfl
  rw [hpre] at hCk hck hKl
  clear hl84 hpre
  have hRl : (8 : Int) + (body.length : Int) = ((8 + body.length : Nat) : Int) := by omega
  (refine XG ?_; ((try (repeat' with_reducible refine And.intro ?_ ?_)); (try any_goals (first | refine zm ?_ | exact CL | fail))))
  ((first | apply pr_psv | apply prD_psv | apply pr_qrunv | apply prD_qrunv) <;> (first | exact hG | (refine XG ?_; first | exact rfl | exact True.intro | ((try (repeat' with_reducible refine And.intro ?_ ?_)); (try any_goals (first | refine zm ?_ | exact CL | fail))))))
  (refine xw_ifp (fun g0 => ?_) (fun g0 => ?_) <;> try exact g0.elim)
  (refine XG ?_; ((try (repeat' with_reducible refine And.intro ?_ ?_)); (try any_goals (first | refine zm ?_ | exact CL | fail))))
  (refine xw_ifp (fun g1 => ?_) (fun g1 => ?_) <;> try exact g1.elim)
  (refine XG ?_; ((try (repeat' with_reducible refine And.intro ?_ ?_)); (try any_goals (first | refine zm ?_ | exact CL | fail))))
  ((first | apply pr_app | apply prD_app | apply pr_bsl | apply prD_bsl | apply pr_s2b | apply prD_s2b); (refine XG ?_; ((try (repeat' with_reducible refine And.intro ?_ ?_)); (try any_goals (first | refine zm ?_ | exact CL | fail)))))
  ((first | refine pr_gs (ins := [1]) (put_gs _ p2 0 2 (by decide) (by omega)) ?_ ?_ | refine prD_gs (ins := [1]) (put_gs _ p2 0 2 (by decide) (by omega)) ?_ ?_ | refine pr_gsv (ins := [1]) (put_gs _ p2 0 2 (by decide) (by omega)) ?_ ?_ | refine prD_gsv (ins := [1]) (put_gs _ p2 0 2 (by decide) (by omega)) ?_ ?_) <;> (have zf1 := @be_len; have zf2 := @lit; have zf3 := @hl2; refine XG ?_; clear zf1 zf2 zf3; (try first | exact rfl | exact True.intro); ((try (repeat' with_reducible refine And.intro ?_ ?_)); (try any_goals (first | refine zm ?_ | exact CL | fail)))))
  ((first | refine pr_gs (ins := [2]) (put_gs _ (p2 ++ be 0 2) (sport + dport) 2 (by decide) (by simp [be_len, hl2])) ?_ ?_ | refine prD_gs (ins := [2]) (put_gs _ (p2 ++ be 0 2) (sport + dport) 2 (by decide) (by simp [be_len, hl2])) ?_ ?_ | refine pr_gsv (ins := [2]) (put_gs _ (p2 ++ be 0 2) (sport + dport) 2 (by decide) (by simp [be_len, hl2])) ?_ ?_ | refine prD_gsv (ins := [2]) (put_gs _ (p2 ++ be 0 2) (sport + dport) 2 (by decide) (by simp [be_len, hl2])) ?_ ?_) <;> (have zf1 := @be_len; have zf2 := @hl2; refine XG ?_; clear zf1 zf2; (try first | exact rfl | exact True.intro); ((try (repeat' with_reducible refine And.intro ?_ ?_)); (try any_goals (first | refine zm ?_ | exact CL | fail)))))
  ((first | refine pr_gs (ins := [3]) (put_gs _ (p2 ++ be 0 2 ++ be (sport + dport) 2) seq 2 (by decide) (by simp [be_len, hl2])) ?_ ?_ | refine prD_gs (ins := [3]) (put_gs _ (p2 ++ be 0 2 ++ be (sport + dport) 2) seq 2 (by decide) (by simp [be_len, hl2])) ?_ ?_ | refine pr_gsv (ins := [3]) (put_gs _ (p2 ++ be 0 2 ++ be (sport + dport) 2) seq 2 (by decide) (by simp [be_len, hl2])) ?_ ?_ | refine prD_gsv (ins := [3]) (put_gs _ (p2 ++ be 0 2 ++ be (sport + dport) 2) seq 2 (by decide) (by simp [be_len, hl2])) ?_ ?_) <;> (have zf1 := @be_len; have zf2 := @hl2; refine XG ?_; clear zf1 zf2; (try first | exact rfl | exact True.intro); ((try (repeat' with_reducible refine And.intro ?_ ?_)); (try any_goals (first | refine zm ?_ | exact CL | fail)))))
  ((first | apply pr_app | apply prD_app | apply pr_bsl | apply prD_bsl | apply pr_s2b | apply prD_s2b); (have zf1 := @be_len; have zf2 := @lr; have zf3 := @tr; refine XG ?_; clear zf1 zf2 zf3; ((try (repeat' with_reducible refine And.intro ?_ ?_)); (try any_goals (first | refine zm ?_ | exact CL | fail)))))
  generalize hR : p2 ++ be 0 2 ++ be (sport + dport) 2 ++ be seq 2 ++ body = R at *
  have tR : R.take (8 + body.length) = R := List.take_of_length_le (by omega)
  (refine xw_ifp (fun g4 => ?_) (fun g4 => ?_) <;> try exact g4.elim)
  simp only [List.nil_append] at hck hCk hKl
  generalize checkN (R) = K at *
  (refine XG ?_; ((try (repeat' with_reducible refine And.intro ?_ ?_)); (try any_goals (first | refine zm ?_ | exact CL | fail))))
  ((first | apply pr_psv | apply prD_psv | apply pr_qrunv | apply prD_qrunv) <;> (first | exact hCk | (refine XG ?_; first | exact rfl | exact True.intro | ((try (repeat' with_reducible refine And.intro ?_ ?_)); (try any_goals (first | refine zm ?_ | exact CL | fail))))))
  rw [if_neg (by omega)] at hck
  subst hck
  (refine xw_ifp (fun g5 => ?_) (fun g5 => ?_) <;> try exact g5.elim)
  (refine XG ?_; ((try (repeat' with_reducible refine And.intro ?_ ?_)); (try any_goals (first | refine zm ?_ | exact CL | fail))))
  have h21 : ((2 : Int) + 1).toNat = 3 := rfl
  have hset : ((R.set 2 (byteI ck 1)).set 3 (byteI ck 0)).length = 8 + body.length := by simp [hm]
  (have zf1 := @hm; have zf2 := @byte_0; have zf3 := @h21; refine XG ?_; clear zf1 zf2 zf3; ((try (repeat' with_reducible refine And.intro ?_ ?_)); (try any_goals (first | refine zm ?_ | exact CL | fail))))
  generalize hS : (R.set 2 (byteI ck 1)).set 3 (byteI ck 0) = S at *
  ((first | refine pr_gs (ins := []) (head_gs _ 1 frm dst ttl id (8 + body.length) (by omega)) ?_ ?_ | refine prD_gs (ins := []) (head_gs _ 1 frm dst ttl id (8 + body.length) (by omega)) ?_ ?_ | refine pr_gsv (ins := []) (head_gs _ 1 frm dst ttl id (8 + body.length) (by omega)) ?_ ?_ | refine prD_gsv (ins := []) (head_gs _ 1 frm dst ttl id (8 + body.length) (by omega)) ?_ ?_) <;> (have zf1 := @hm; refine XG ?_; clear zf1; (try first | exact rfl | exact True.intro); ((try (repeat' with_reducible refine And.intro ?_ ?_)); (try any_goals (first | refine zm ?_ | exact CL | fail)))))
  ((first | apply pr_app | apply prD_app | apply pr_bsl | apply prD_bsl | apply pr_s2b | apply prD_s2b); (have zf1 := @hset; have zf2 := @headB_len; refine XG ?_; clear zf1 zf2; ((try (repeat' with_reducible refine And.intro ?_ ?_)); (try any_goals (first | refine zm ?_ | exact CL | fail)))))
  rw [List.take_of_length_le (by simp [headB_len, hset])]

set_option maxHeartbeats 8000000 in
set_option maxRecDepth 20000 in
theorem build_udp (gl : Nat → AV) (frm sport dst dport ttl id flags seq ack win : Int) (body : List UInt8) (h : pkErr (⟨17, frm, sport, dst, dport, ttl, id, flags, seq, ack, win, body⟩ : Pk) = 0) : PS Try.prog gl 11 [.agg (⟨17, frm, sport, dst, dport, ttl, id, flags, seq, ack, win, body⟩ : Pk).enc] (.tup [.str (buildB (⟨17, frm, sport, dst, dport, ttl, id, flags, seq, ack, win, body⟩ : Pk)), .int .i64 0]) := by
  refine ft_wBuild.ps (of_decide_eq_true rfl) (by simp [nmOk, nmAll]) fun c hN hg => ?_
  unfold T_wBuild
  have hG := wGood_ps c.gl (⟨17, frm, sport, dst, dport, ttl, id, flags, seq, ack, win, body⟩ : Pk)
  rw [h] at hG
  obtain ⟨_, ⟨r1, r2, r3, r4, r5, r6, r7, r8, r9, r10⟩, hbl, _⟩ := pkErr_ok h
  dsimp only at r1 r2 r3 r4 r5 r6 r7 r8 r9 r10 hbl
  clear h
  unfold Pk.enc at hG ⊢
  dsimp only at hG ⊢
  have hS : Seg (⟨17, frm, sport, dst, dport, ttl, id, flags, seq, ack, win, body⟩ : Pk) 6 8 (be sport 2 ++ be dport 2 ++ be (8 + body.length) 2 ++ be 0 2 ++ body) := by
    refine .of (by rw [be_02]; unfold segA segZ; simp) (by simp [segA, be_len]) (by simp [segZ, be_len])
  have lr : (be sport 2 ++ be dport 2 ++ be (8 + body.length) 2 ++ be 0 2).length = 8 := by simp [be_len]
  have hm := hS.len
  have hsn := hS.sn
  dsimp only at hm hsn
  have tr : (be sport 2 ++ be dport 2 ++ be (8 + body.length) 2 ++ be 0 2).take 8 = be sport 2 ++ be dport 2 ++ be (8 + body.length) 2 ++ be 0 2 := List.take_of_length_le (by omega)
  have hset := hS.set
  have hfin : buildB (⟨17, frm, sport, dst, dport, ttl, id, flags, seq, ack, win, body⟩ : Pk) = headB 17 frm dst ttl id ((8 + body.length : Nat) : Int) ++ (((be sport 2 ++ be dport 2 ++ be (8 + body.length) 2 ++ be 0 2 ++ body).set 6 (byteI (ckN (⟨17, frm, sport, dst, dport, ttl, id, flags, seq, ack, win, body⟩ : Pk)) 1)).set (6 + 1) (byteI (ckN (⟨17, frm, sport, dst, dport, ttl, id, flags, seq, ack, win, body⟩ : Pk)) 0)) := by
    unfold buildB segB; rw [hsn, hset]
  have hck := hS.ck
  rw [hsn] at hck
  dsimp only at hck
  have hNl : ((8 + body.length : Nat) : Int) = 8 + (body.length : Int) := by omega
  rw [hNl] at hck hfin
  rw [hfin]
  clear hfin hset hS hsn
  generalize ckN (⟨17, frm, sport, dst, dport, ttl, id, flags, seq, ack, win, body⟩ : Pk) = ck at *
  have hl84 : (preB 17 frm dst (8 + (body.length : Int)) ++ (be sport 2 ++ be dport 2 ++ be (8 + body.length) 2 ++ be 0 2 ++ body)).length ≤ 200 := by
    unfold preB; simp only [List.length_append] at hm ⊢; split <;> simp [be_len] <;> omega
  have hCk := Check_ps c.gl (preB 17 frm dst (8 + (body.length : Int)) ++ (be sport 2 ++ be dport 2 ++ be (8 + body.length) 2 ++ be 0 2 ++ body)) (by omega)
  have hKl := checkN_le (preB 17 frm dst (8 + (body.length : Int)) ++ (be sport 2 ++ be dport 2 ++ be (8 + body.length) 2 ++ be 0 2 ++ body))
  have hpre : preB 17 frm dst (8 + (body.length : Int)) = be frm 4 ++ be dst 4 ++ be 17 2 ++ be (8 + (body.length : Int)) 2 := rfl
  rw [hpre] at hCk hck hKl
  clear hl84 hpre
  have hRl : (8 : Int) + (body.length : Int) = ((8 + body.length : Nat) : Int) := by omega
  (refine XG ?_; ((try (repeat' with_reducible refine And.intro ?_ ?_)); (try any_goals (first | refine zm ?_ | exact CL | fail))))
  ((first | apply pr_psv | apply prD_psv | apply pr_qrunv | apply prD_qrunv) <;> (first | exact hG | (refine XG ?_; first | exact rfl | exact True.intro | ((try (repeat' with_reducible refine And.intro ?_ ?_)); (try any_goals (first | refine zm ?_ | exact CL | fail))))))
  (refine xw_ifp (fun g0 => ?_) (fun g0 => ?_) <;> try exact g0.elim)
  (refine XG ?_; ((try (repeat' with_reducible refine And.intro ?_ ?_)); (try any_goals (first | refine zm ?_ | exact CL | fail))))
  (refine xw_ifp (fun g1 => ?_) (fun g1 => ?_) <;> try exact g1.elim)
  (refine XG ?_; ((try (repeat' with_reducible refine And.intro ?_ ?_)); (try any_goals (first | refine zm ?_ | exact CL | fail))))
  (refine xw_ifp (fun g2 => ?_) (fun g2 => ?_) <;> try exact g2.elim)
  (refine XG ?_; ((try (repeat' with_reducible refine And.intro ?_ ?_)); (try any_goals (first | refine zm ?_ | exact CL | fail))))
  ((first | refine pr_gs (ins := []) (put_nil_gs _ sport 2 (by decide) (by decide)) ?_ ?_ | refine prD_gs (ins := []) (put_nil_gs _ sport 2 (by decide) (by decide)) ?_ ?_ | refine pr_gsv (ins := []) (put_nil_gs _ sport 2 (by decide) (by decide)) ?_ ?_ | refine prD_gsv (ins := []) (put_nil_gs _ sport 2 (by decide) (by decide)) ?_ ?_) <;> (have zf1 := @be_len; refine XG ?_; clear zf1; (try first | exact rfl | exact True.intro); ((try (repeat' with_reducible refine And.intro ?_ ?_)); (try any_goals (first | refine zm ?_ | exact CL | fail)))))
  ((first | refine pr_gs (ins := [1]) (put_gs _ (be sport 2) dport 2 (by decide) (by simp [be_len])) ?_ ?_ | refine prD_gs (ins := [1]) (put_gs _ (be sport 2) dport 2 (by decide) (by simp [be_len])) ?_ ?_ | refine pr_gsv (ins := [1]) (put_gs _ (be sport 2) dport 2 (by decide) (by simp [be_len])) ?_ ?_ | refine prD_gsv (ins := [1]) (put_gs _ (be sport 2) dport 2 (by decide) (by simp [be_len])) ?_ ?_) <;> (have zf1 := @be_len; refine XG ?_; clear zf1; (try first | exact rfl | exact True.intro); ((try (repeat' with_reducible refine And.intro ?_ ?_)); (try any_goals (first | refine zm ?_ | exact CL | fail)))))
  ((first | refine pr_gs (ins := [2]) (put_gs _ (be sport 2 ++ be dport 2) (8 + body.length) 2 (by decide) (by simp [be_len])) ?_ ?_ | refine prD_gs (ins := [2]) (put_gs _ (be sport 2 ++ be dport 2) (8 + body.length) 2 (by decide) (by simp [be_len])) ?_ ?_ | refine pr_gsv (ins := [2]) (put_gs _ (be sport 2 ++ be dport 2) (8 + body.length) 2 (by decide) (by simp [be_len])) ?_ ?_ | refine prD_gsv (ins := [2]) (put_gs _ (be sport 2 ++ be dport 2) (8 + body.length) 2 (by decide) (by simp [be_len])) ?_ ?_) <;> (have zf1 := @be_len; refine XG ?_; clear zf1; (try first | exact rfl | exact True.intro); ((try (repeat' with_reducible refine And.intro ?_ ?_)); (try any_goals (first | refine zm ?_ | exact CL | fail)))))
  ((first | refine pr_gs (ins := [3]) (put_gs _ (be sport 2 ++ be dport 2 ++ be (8 + body.length) 2) 0 2 (by decide) (by simp [be_len])) ?_ ?_ | refine prD_gs (ins := [3]) (put_gs _ (be sport 2 ++ be dport 2 ++ be (8 + body.length) 2) 0 2 (by decide) (by simp [be_len])) ?_ ?_ | refine pr_gsv (ins := [3]) (put_gs _ (be sport 2 ++ be dport 2 ++ be (8 + body.length) 2) 0 2 (by decide) (by simp [be_len])) ?_ ?_ | refine prD_gsv (ins := [3]) (put_gs _ (be sport 2 ++ be dport 2 ++ be (8 + body.length) 2) 0 2 (by decide) (by simp [be_len])) ?_ ?_) <;> (have zf1 := @be_len; refine XG ?_; clear zf1; (try first | exact rfl | exact True.intro); ((try (repeat' with_reducible refine And.intro ?_ ?_)); (try any_goals (first | refine zm ?_ | exact CL | fail)))))
  ((first | apply pr_app | apply prD_app | apply pr_bsl | apply prD_bsl | apply pr_s2b | apply prD_s2b); (have zf1 := @be_len; have zf2 := @lr; have zf3 := @tr; refine XG ?_; clear zf1 zf2 zf3; ((try (repeat' with_reducible refine And.intro ?_ ?_)); (try any_goals (first | refine zm ?_ | exact CL | fail)))))
  generalize hR : be sport 2 ++ be dport 2 ++ be (8 + body.length) 2 ++ be 0 2 ++ body = R at *
  have tR : R.take (8 + body.length) = R := List.take_of_length_le (by omega)
  (refine xw_ifp (fun g4 => ?_) (fun g4 => ?_) <;> try exact g4.elim)
  (refine XG ?_; ((try (repeat' with_reducible refine And.intro ?_ ?_)); (try any_goals (first | refine zm ?_ | exact CL | fail))))
  ((first | apply pr_psv | apply prD_psv | apply pr_qrunv | apply prD_qrunv) <;> (first | exact (pseudo_ps _ frm dst 17 (8 + (body.length : Int))) | (have zf1 := @be_len; have zf2 := @hm; have zf3 := @tR; refine XG ?_; clear zf1 zf2 zf3; first | exact rfl | exact True.intro | ((try (repeat' with_reducible refine And.intro ?_ ?_)); (try any_goals (first | refine zm ?_ | exact CL | fail))))))
  generalize checkN (be frm 4 ++ be dst 4 ++ be 17 2 ++ be (8 + (body.length : Int)) 2 ++ R) = K at *
  ((first | apply pr_psv | apply prD_psv | apply pr_qrunv | apply prD_qrunv) <;> (first | exact hCk | (refine XG ?_; first | exact rfl | exact True.intro | ((try (repeat' with_reducible refine And.intro ?_ ?_)); (try any_goals (first | refine zm ?_ | exact CL | fail))))))
  by_cases hK0 : K = 0
  · rw [if_pos ⟨rfl, hK0⟩] at hck
    have hcI : (ck : Int) = 65535 := by omega
    rw [hcI]
    clear hck hcI ck
    subst hK0
    (refine xw_ifp (fun g5 => ?_) (fun g5 => ?_) <;> try exact g5.elim)
    (refine XG ?_; ((try (repeat' with_reducible refine And.intro ?_ ?_)); (try any_goals (first | refine zm ?_ | exact CL | fail))))
    have h21 : ((6 : Int) + 1).toNat = 7 := rfl
    have hset : ((R.set 6 (byteI 65535 1)).set 7 (byteI 65535 0)).length = 8 + body.length := by simp [hm]
    (have zf1 := @hm; have zf2 := @byte_0; have zf3 := @h21; refine XG ?_; clear zf1 zf2 zf3; ((try (repeat' with_reducible refine And.intro ?_ ?_)); (try any_goals (first | refine zm ?_ | exact CL | fail))))
    generalize hS : (R.set 6 (byteI 65535 1)).set 7 (byteI 65535 0) = S at *
    ((first | refine pr_gs (ins := []) (head_gs _ 17 frm dst ttl id (8 + body.length) (by omega)) ?_ ?_ | refine prD_gs (ins := []) (head_gs _ 17 frm dst ttl id (8 + body.length) (by omega)) ?_ ?_ | refine pr_gsv (ins := []) (head_gs _ 17 frm dst ttl id (8 + body.length) (by omega)) ?_ ?_ | refine prD_gsv (ins := []) (head_gs _ 17 frm dst ttl id (8 + body.length) (by omega)) ?_ ?_) <;> (have zf1 := @hm; refine XG ?_; clear zf1; (try first | exact rfl | exact True.intro); ((try (repeat' with_reducible refine And.intro ?_ ?_)); (try any_goals (first | refine zm ?_ | exact CL | fail)))))
    ((first | apply pr_app | apply prD_app | apply pr_bsl | apply prD_bsl | apply pr_s2b | apply prD_s2b); (have zf1 := @hset; have zf2 := @headB_len; refine XG ?_; clear zf1 zf2; ((try (repeat' with_reducible refine And.intro ?_ ?_)); (try any_goals (first | refine zm ?_ | exact CL | fail)))))
    rw [List.take_of_length_le (by simp [headB_len, hset])]
  · rw [if_neg fun h => hK0 h.2] at hck
    subst hck
    have hKb : ((ck : Int) == 0) = false := by simp; omega
    (have zf1 := @hKb; refine XG ?_; clear zf1; ((try (repeat' with_reducible refine And.intro ?_ ?_)); (try any_goals (first | refine zm ?_ | exact CL | fail))))
    (refine xw_ifp (fun g5 => ?_) (fun g5 => ?_) <;> try exact g5.elim)
    (refine XG ?_; ((try (repeat' with_reducible refine And.intro ?_ ?_)); (try any_goals (first | refine zm ?_ | exact CL | fail))))
    have h21 : ((6 : Int) + 1).toNat = 7 := rfl
    have hset : ((R.set 6 (byteI ck 1)).set 7 (byteI ck 0)).length = 8 + body.length := by simp [hm]
    (have zf1 := @hm; have zf2 := @byte_0; have zf3 := @h21; refine XG ?_; clear zf1 zf2 zf3; ((try (repeat' with_reducible refine And.intro ?_ ?_)); (try any_goals (first | refine zm ?_ | exact CL | fail))))
    generalize hS : (R.set 6 (byteI ck 1)).set 7 (byteI ck 0) = S at *
    ((first | refine pr_gs (ins := []) (head_gs _ 17 frm dst ttl id (8 + body.length) (by omega)) ?_ ?_ | refine prD_gs (ins := []) (head_gs _ 17 frm dst ttl id (8 + body.length) (by omega)) ?_ ?_ | refine pr_gsv (ins := []) (head_gs _ 17 frm dst ttl id (8 + body.length) (by omega)) ?_ ?_ | refine prD_gsv (ins := []) (head_gs _ 17 frm dst ttl id (8 + body.length) (by omega)) ?_ ?_) <;> (have zf1 := @hm; refine XG ?_; clear zf1; (try first | exact rfl | exact True.intro); ((try (repeat' with_reducible refine And.intro ?_ ?_)); (try any_goals (first | refine zm ?_ | exact CL | fail)))))
    ((first | apply pr_app | apply prD_app | apply pr_bsl | apply prD_bsl | apply pr_s2b | apply prD_s2b); (have zf1 := @hset; have zf2 := @headB_len; refine XG ?_; clear zf1 zf2; ((try (repeat' with_reducible refine And.intro ?_ ?_)); (try any_goals (first | refine zm ?_ | exact CL | fail)))))
    rw [List.take_of_length_le (by simp [headB_len, hset])]

set_option maxHeartbeats 8000000 in
set_option maxRecDepth 20000 in
theorem build_tcp (gl : Nat → AV) (frm sport dst dport ttl id flags seq ack win : Int) (body : List UInt8) (h : pkErr (⟨6, frm, sport, dst, dport, ttl, id, flags, seq, ack, win, body⟩ : Pk) = 0) : PS Try.prog gl 11 [.agg (⟨6, frm, sport, dst, dport, ttl, id, flags, seq, ack, win, body⟩ : Pk).enc] (.tup [.str (buildB (⟨6, frm, sport, dst, dport, ttl, id, flags, seq, ack, win, body⟩ : Pk)), .int .i64 0]) := by
  refine ft_wBuild.ps (of_decide_eq_true rfl) (by simp [nmOk, nmAll]) fun c hN hg => ?_
  unfold T_wBuild
  have hG := wGood_ps c.gl (⟨6, frm, sport, dst, dport, ttl, id, flags, seq, ack, win, body⟩ : Pk)
  rw [h] at hG
  obtain ⟨_, ⟨r1, r2, r3, r4, r5, r6, r7, r8, r9, r10⟩, hbl, _⟩ := pkErr_ok h
  dsimp only at r1 r2 r3 r4 r5 r6 r7 r8 r9 r10 hbl
  clear h
  unfold Pk.enc at hG ⊢
  dsimp only at hG ⊢
  obtain ⟨p2, hp2⟩ : ∃ p2 : List UInt8, p2 = [80] ++ be flags 1 := ⟨_, rfl⟩
  have hl2 : p2.length = 2 := by rw [hp2]; rfl
  have hS : Seg (⟨6, frm, sport, dst, dport, ttl, id, flags, seq, ack, win, body⟩ : Pk) 16 20 (be sport 2 ++ be dport 2 ++ be seq 4 ++ be ack 4 ++ p2 ++ be win 2 ++ be 0 4 ++ body) := by
    refine .of (by rw [hp2, be_04]; unfold segA segZ; simp) (by simp [segA, be_len]) (by simp [segZ, be_len]; omega)
  have lit : ∀ l : List UInt8, l ++ [UInt8.ofNat 80] ++ [UInt8.ofNat flags.toNat] = l ++ p2 := fun l => by
    have e := byte0 flags (by omega) (by omega)
    have e2 : UInt8.ofNat flags.toNat = byteI flags 0 := UInt8.toNat_inj.1 (by simp only [UInt8.toNat_ofNat', Nat.reducePow]; omega)
    rw [hp2, e2, List.append_assoc]; rfl
  have lr : (be sport 2 ++ be dport 2 ++ be seq 4 ++ be ack 4 ++ p2 ++ be win 2 ++ be 0 4).length = 20 := by simp [be_len, hl2]
  have t12 : (be sport 2 ++ be dport 2 ++ be seq 4 ++ be ack 4).take 12 = be sport 2 ++ be dport 2 ++ be seq 4 ++ be ack 4 := List.take_of_length_le (by simp [be_len])
  have hm := hS.len
  have hsn := hS.sn
  dsimp only at hm hsn
  have tr : (be sport 2 ++ be dport 2 ++ be seq 4 ++ be ack 4 ++ p2 ++ be win 2 ++ be 0 4).take 20 = be sport 2 ++ be dport 2 ++ be seq 4 ++ be ack 4 ++ p2 ++ be win 2 ++ be 0 4 := List.take_of_length_le (by omega)
  have hset := hS.set
  have hfin : buildB (⟨6, frm, sport, dst, dport, ttl, id, flags, seq, ack, win, body⟩ : Pk) = headB 6 frm dst ttl id ((20 + body.length : Nat) : Int) ++ (((be sport 2 ++ be dport 2 ++ be seq 4 ++ be ack 4 ++ p2 ++ be win 2 ++ be 0 4 ++ body).set 16 (byteI (ckN (⟨6, frm, sport, dst, dport, ttl, id, flags, seq, ack, win, body⟩ : Pk)) 1)).set (16 + 1) (byteI (ckN (⟨6, frm, sport, dst, dport, ttl, id, flags, seq, ack, win, body⟩ : Pk)) 0)) := by
    unfold buildB segB; rw [hsn, hset]
  have hck := hS.ck
  rw [hsn] at hck
  dsimp only at hck
  have hNl : ((20 + body.length : Nat) : Int) = 20 + (body.length : Int) := by omega
  rw [hNl] at hck hfin
  rw [hfin]
  clear hfin hset hS hsn
  generalize ckN (⟨6, frm, sport, dst, dport, ttl, id, flags, seq, ack, win, body⟩ : Pk) = ck at *
  have hl84 : (preB 6 frm dst (20 + (body.length : Int)) ++ (be sport 2 ++ be dport 2 ++ be seq 4 ++ be ack 4 ++ p2 ++ be win 2 ++ be 0 4 ++ body)).length ≤ 200 := by
    unfold preB; simp only [List.length_append] at hm ⊢; split <;> simp [be_len] <;> omega
  have hCk := Check_ps c.gl (preB 6 frm dst (20 + (body.length : Int)) ++ (be sport 2 ++ be dport 2 ++ be seq 4 ++ be ack 4 ++ p2 ++ be win 2 ++ be 0 4 ++ body)) (by omega)
  have hKl := checkN_le (preB 6 frm dst (20 + (body.length : Int)) ++ (be sport 2 ++ be dport 2 ++ be seq 4 ++ be ack 4 ++ p2 ++ be win 2 ++ be 0 4 ++ body))
  have hpre : preB 6 frm dst (20 + (body.length : Int)) = be frm 4 ++ be dst 4 ++ be 6 2 ++ be (20 + (body.length : Int)) 2 := rfl
  rw [hpre] at hCk hck hKl
  clear hl84 hpre
  have hRl : (20 : Int) + (body.length : Int) = ((20 + body.length : Nat) : Int) := by omega
  (refine XG ?_; ((try (repeat' with_reducible refine And.intro ?_ ?_)); (try any_goals (first | refine zm ?_ | exact CL | fail))))
  ((first | apply pr_psv | apply prD_psv | apply pr_qrunv | apply prD_qrunv) <;> (first | exact hG | (refine XG ?_; first | exact rfl | exact True.intro | ((try (repeat' with_reducible refine And.intro ?_ ?_)); (try any_goals (first | refine zm ?_ | exact CL | fail))))))
  (refine xw_ifp (fun g0 => ?_) (fun g0 => ?_) <;> try exact g0.elim)
  (refine XG ?_; ((try (repeat' with_reducible refine And.intro ?_ ?_)); (try any_goals (first | refine zm ?_ | exact CL | fail))))
  (refine xw_ifp (fun g1 => ?_) (fun g1 => ?_) <;> try exact g1.elim)
  (refine XG ?_; ((try (repeat' with_reducible refine And.intro ?_ ?_)); (try any_goals (first | refine zm ?_ | exact CL | fail))))
  (refine xw_ifp (fun g2 => ?_) (fun g2 => ?_) <;> try exact g2.elim)
  (refine XG ?_; ((try (repeat' with_reducible refine And.intro ?_ ?_)); (try any_goals (first | refine zm ?_ | exact CL | fail))))
  (refine xw_ifp (fun g3 => ?_) (fun g3 => ?_) <;> try exact g3.elim)
  (refine XG ?_; ((try (repeat' with_reducible refine And.intro ?_ ?_)); (try any_goals (first | refine zm ?_ | exact CL | fail))))
  ((first | refine pr_gs (ins := []) (put_nil_gs _ sport 2 (by decide) (by decide)) ?_ ?_ | refine prD_gs (ins := []) (put_nil_gs _ sport 2 (by decide) (by decide)) ?_ ?_ | refine pr_gsv (ins := []) (put_nil_gs _ sport 2 (by decide) (by decide)) ?_ ?_ | refine prD_gsv (ins := []) (put_nil_gs _ sport 2 (by decide) (by decide)) ?_ ?_) <;> (have zf1 := @be_len; refine XG ?_; clear zf1; (try first | exact rfl | exact True.intro); ((try (repeat' with_reducible refine And.intro ?_ ?_)); (try any_goals (first | refine zm ?_ | exact CL | fail)))))
  ((first | refine pr_gs (ins := [1]) (put_gs _ (be sport 2) dport 2 (by decide) (by simp [be_len])) ?_ ?_ | refine prD_gs (ins := [1]) (put_gs _ (be sport 2) dport 2 (by decide) (by simp [be_len])) ?_ ?_ | refine pr_gsv (ins := [1]) (put_gs _ (be sport 2) dport 2 (by decide) (by simp [be_len])) ?_ ?_ | refine prD_gsv (ins := [1]) (put_gs _ (be sport 2) dport 2 (by decide) (by simp [be_len])) ?_ ?_) <;> (have zf1 := @be_len; refine XG ?_; clear zf1; (try first | exact rfl | exact True.intro); ((try (repeat' with_reducible refine And.intro ?_ ?_)); (try any_goals (first | refine zm ?_ | exact CL | fail)))))
  ((first | refine pr_gs (ins := [2]) (put_gs _ (be sport 2 ++ be dport 2) seq 4 (by decide) (by simp [be_len])) ?_ ?_ | refine prD_gs (ins := [2]) (put_gs _ (be sport 2 ++ be dport 2) seq 4 (by decide) (by simp [be_len])) ?_ ?_ | refine pr_gsv (ins := [2]) (put_gs _ (be sport 2 ++ be dport 2) seq 4 (by decide) (by simp [be_len])) ?_ ?_ | refine prD_gsv (ins := [2]) (put_gs _ (be sport 2 ++ be dport 2) seq 4 (by decide) (by simp [be_len])) ?_ ?_) <;> (have zf1 := @be_len; refine XG ?_; clear zf1; (try first | exact rfl | exact True.intro); ((try (repeat' with_reducible refine And.intro ?_ ?_)); (try any_goals (first | refine zm ?_ | exact CL | fail)))))
  ((first | refine pr_gs (ins := [3]) (put_gs _ (be sport 2 ++ be dport 2 ++ be seq 4) ack 4 (by decide) (by simp [be_len])) ?_ ?_ | refine prD_gs (ins := [3]) (put_gs _ (be sport 2 ++ be dport 2 ++ be seq 4) ack 4 (by decide) (by simp [be_len])) ?_ ?_ | refine pr_gsv (ins := [3]) (put_gs _ (be sport 2 ++ be dport 2 ++ be seq 4) ack 4 (by decide) (by simp [be_len])) ?_ ?_ | refine prD_gsv (ins := [3]) (put_gs _ (be sport 2 ++ be dport 2 ++ be seq 4) ack 4 (by decide) (by simp [be_len])) ?_ ?_) <;> (have zf1 := @be_len; refine XG ?_; clear zf1; (try first | exact rfl | exact True.intro); ((try (repeat' with_reducible refine And.intro ?_ ?_)); (try any_goals (first | refine zm ?_ | exact CL | fail)))))
  ((first | apply pr_app | apply prD_app | apply pr_bsl | apply prD_bsl | apply pr_s2b | apply prD_s2b); (have zf1 := @be_len; refine XG ?_; clear zf1; ((try (repeat' with_reducible refine And.intro ?_ ?_)); (try any_goals (first | refine zm ?_ | exact CL | fail)))))
  ((first | apply pr_app | apply prD_app | apply pr_bsl | apply prD_bsl | apply pr_s2b | apply prD_s2b); (have zf1 := @be_len; have zf2 := @t12; have zf3 := @lit; refine XG ?_; clear zf1 zf2 zf3; ((try (repeat' with_reducible refine And.intro ?_ ?_)); (try any_goals (first | refine zm ?_ | exact CL | fail)))))
  ((first | refine pr_gs (ins := [6]) (put_gs _ (be sport 2 ++ be dport 2 ++ be seq 4 ++ be ack 4 ++ p2) win 2 (by decide) (by simp [be_len, hl2])) ?_ ?_ | refine prD_gs (ins := [6]) (put_gs _ (be sport 2 ++ be dport 2 ++ be seq 4 ++ be ack 4 ++ p2) win 2 (by decide) (by simp [be_len, hl2])) ?_ ?_ | refine pr_gsv (ins := [6]) (put_gs _ (be sport 2 ++ be dport 2 ++ be seq 4 ++ be ack 4 ++ p2) win 2 (by decide) (by simp [be_len, hl2])) ?_ ?_ | refine prD_gsv (ins := [6]) (put_gs _ (be sport 2 ++ be dport 2 ++ be seq 4 ++ be ack 4 ++ p2) win 2 (by decide) (by simp [be_len, hl2])) ?_ ?_) <;> (have zf1 := @be_len; have zf2 := @hl2; refine XG ?_; clear zf1 zf2; (try first | exact rfl | exact True.intro); ((try (repeat' with_reducible refine And.intro ?_ ?_)); (try any_goals (first | refine zm ?_ | exact CL | fail)))))
  ((first | refine pr_gs (ins := [7]) (put_gs _ (be sport 2 ++ be dport 2 ++ be seq 4 ++ be ack 4 ++ p2 ++ be win 2) 0 4 (by decide) (by simp [be_len, hl2])) ?_ ?_ | refine prD_gs (ins := [7]) (put_gs _ (be sport 2 ++ be dport 2 ++ be seq 4 ++ be ack 4 ++ p2 ++ be win 2) 0 4 (by decide) (by simp [be_len, hl2])) ?_ ?_ | refine pr_gsv (ins := [7]) (put_gs _ (be sport 2 ++ be dport 2 ++ be seq 4 ++ be ack 4 ++ p2 ++ be win 2) 0 4 (by decide) (by simp [be_len, hl2])) ?_ ?_ | refine prD_gsv (ins := [7]) (put_gs _ (be sport 2 ++ be dport 2 ++ be seq 4 ++ be ack 4 ++ p2 ++ be win 2) 0 4 (by decide) (by simp [be_len, hl2])) ?_ ?_) <;> (have zf1 := @be_len; have zf2 := @hl2; refine XG ?_; clear zf1 zf2; (try first | exact rfl | exact True.intro); ((try (repeat' with_reducible refine And.intro ?_ ?_)); (try any_goals (first | refine zm ?_ | exact CL | fail)))))
  ((first | apply pr_app | apply prD_app | apply pr_bsl | apply prD_bsl | apply pr_s2b | apply prD_s2b); (have zf1 := @be_len; have zf2 := @lr; have zf3 := @tr; refine XG ?_; clear zf1 zf2 zf3; ((try (repeat' with_reducible refine And.intro ?_ ?_)); (try any_goals (first | refine zm ?_ | exact CL | fail)))))
  generalize hR : be sport 2 ++ be dport 2 ++ be seq 4 ++ be ack 4 ++ p2 ++ be win 2 ++ be 0 4 ++ body = R at *
  have tR : R.take (20 + body.length) = R := List.take_of_length_le (by omega)
  (refine xw_ifp (fun g4 => ?_) (fun g4 => ?_) <;> try exact g4.elim)
  (refine XG ?_; ((try (repeat' with_reducible refine And.intro ?_ ?_)); (try any_goals (first | refine zm ?_ | exact CL | fail))))
  ((first | apply pr_psv | apply prD_psv | apply pr_qrunv | apply prD_qrunv) <;> (first | exact (pseudo_ps _ frm dst 6 (20 + (body.length : Int))) | (have zf1 := @be_len; have zf2 := @hm; have zf3 := @tR; refine XG ?_; clear zf1 zf2 zf3; first | exact rfl | exact True.intro | ((try (repeat' with_reducible refine And.intro ?_ ?_)); (try any_goals (first | refine zm ?_ | exact CL | fail))))))
  generalize checkN (be frm 4 ++ be dst 4 ++ be 6 2 ++ be (20 + (body.length : Int)) 2 ++ R) = K at *
  ((first | apply pr_psv | apply prD_psv | apply pr_qrunv | apply prD_qrunv) <;> (first | exact hCk | (refine XG ?_; first | exact rfl | exact True.intro | ((try (repeat' with_reducible refine And.intro ?_ ?_)); (try any_goals (first | refine zm ?_ | exact CL | fail))))))
  rw [if_neg (by omega)] at hck
  subst hck
  (refine xw_ifp (fun g5 => ?_) (fun g5 => ?_) <;> try exact g5.elim)
  (refine XG ?_; ((try (repeat' with_reducible refine And.intro ?_ ?_)); (try any_goals (first | refine zm ?_ | exact CL | fail))))
  have h21 : ((16 : Int) + 1).toNat = 17 := rfl
  have hset : ((R.set 16 (byteI ck 1)).set 17 (byteI ck 0)).length = 20 + body.length := by simp [hm]
  (have zf1 := @hm; have zf2 := @byte_0; have zf3 := @h21; refine XG ?_; clear zf1 zf2 zf3; ((try (repeat' with_reducible refine And.intro ?_ ?_)); (try any_goals (first | refine zm ?_ | exact CL | fail))))
  generalize hS : (R.set 16 (byteI ck 1)).set 17 (byteI ck 0) = S at *
  ((first | refine pr_gs (ins := []) (head_gs _ 6 frm dst ttl id (20 + body.length) (by omega)) ?_ ?_ | refine prD_gs (ins := []) (head_gs _ 6 frm dst ttl id (20 + body.length) (by omega)) ?_ ?_ | refine pr_gsv (ins := []) (head_gs _ 6 frm dst ttl id (20 + body.length) (by omega)) ?_ ?_ | refine prD_gsv (ins := []) (head_gs _ 6 frm dst ttl id (20 + body.length) (by omega)) ?_ ?_) <;> (have zf1 := @hm; refine XG ?_; clear zf1; (try first | exact rfl | exact True.intro); ((try (repeat' with_reducible refine And.intro ?_ ?_)); (try any_goals (first | refine zm ?_ | exact CL | fail)))))
  ((first | apply pr_app | apply prD_app | apply pr_bsl | apply prD_bsl | apply pr_s2b | apply prD_s2b); (have zf1 := @hset; have zf2 := @headB_len; refine XG ?_; clear zf1 zf2; ((try (repeat' with_reducible refine And.intro ?_ ?_)); (try any_goals (first | refine zm ?_ | exact CL | fail)))))
  rw [List.take_of_length_le (by simp [headB_len, hset])]
end Go.Proofs.Ytblimjilinkmbaa
