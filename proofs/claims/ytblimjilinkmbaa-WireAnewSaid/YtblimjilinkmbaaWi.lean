/- What Build builds, the program's and the reference's. No conditions but the ones that stand in each. -/
import Derived.Test.YtblimjilinkmbaaWh
namespace Go.Proofs.Ytblimjilinkmbaa
set_option linter.all false
set_option linter.unusedSimpArgs false
open Go.RowKit

theorem build_err (gl : Nat → AV) (p : Pk) (h : pkErr p ≠ 0) : PS Try.prog gl 11 [.agg p.enc] (.tup [.str [], .int .i64 (pkErr p)]) := by
  refine ft_wBuild.ps (of_decide_eq_true rfl) (by simp [nmOk, nmAll]) fun c hN hg => ?_
  unfold T_wBuild
  have hG := wGood_ps c.gl p
  generalize pkErr p = E at *
  unfold Pk.enc at hG ⊢
  (refine XG ?_; ((try (repeat' with_reducible refine And.intro ?_ ?_)); (try any_goals (first | refine zm ?_ | exact CL | fail))))
  ((first | apply pr_psv | apply prD_psv | apply pr_qrunv | apply prD_qrunv) <;> (first | exact hG | (refine XG ?_; first | exact rfl | exact True.intro | ((try (repeat' with_reducible refine And.intro ?_ ?_)); (try any_goals (first | refine zm ?_ | exact CL | fail))))))
  (refine xw_ifp (fun g0 => ?_) (fun g0 => ?_) <;> try exact g0.elim)
  · (refine XG ?_; ((try (repeat' with_reducible refine And.intro ?_ ?_)); (try any_goals (first | refine zm ?_ | exact CL | fail))))
  · exact (h g0).elim
theorem Build_ps (gl : Nat → AV) (p : Pk) : PS Try.prog gl 11 [.agg p.enc] (buildT p) := by
  unfold buildT
  by_cases h : pkErr p = 0
  · rw [if_pos h]
    have hp := (pkErr_ok h).1
    rcases p with ⟨proto, frm, sport, dst, dport, ttl, id, flags, seq, ack, win, body⟩
    dsimp only at hp
    rcases hp with rfl | rfl | rfl
    · exact build_ping gl frm sport dst dport ttl id flags seq ack win body h
    · exact build_tcp gl frm sport dst dport ttl id flags seq ack win body h
    · exact build_udp gl frm sport dst dport ttl id flags seq ack win body h
  · rw [if_neg h]; exact build_err gl p h

theorem buildR_err (gl : Nat → AV) (p : Pk) (hok : pkOk p) (h : pkErr p ≠ 0) : PS Try.prog gl 12 [.agg p.enc] (.tup [.str [], .int .i64 (pkErr p)]) := by
  refine ft_rBuild.ps (of_decide_eq_true rfl) (by simp [nmOk, nmAll]) fun c hN hg => ?_
  unfold T_rBuild
  have hG := rGood_ps c.gl p hok
  generalize pkErr p = E at *
  unfold Pk.enc at hG ⊢
  (refine XG ?_; ((try (repeat' with_reducible refine And.intro ?_ ?_)); (try any_goals (first | refine zm ?_ | exact CL | fail))))
  ((first | apply pr_psv | apply prD_psv | apply pr_qrunv | apply prD_qrunv) <;> (first | exact hG | (refine XG ?_; first | exact rfl | exact True.intro | ((try (repeat' with_reducible refine And.intro ?_ ?_)); (try any_goals (first | refine zm ?_ | exact CL | fail))))))
  (refine xw_ifp (fun g0 => ?_) (fun g0 => ?_) <;> try exact g0.elim)
  · (refine XG ?_; ((try (repeat' with_reducible refine And.intro ?_ ?_)); (try any_goals (first | refine zm ?_ | exact CL | fail))))
  · exact (h g0).elim

set_option maxHeartbeats 8000000 in
set_option maxRecDepth 20000 in
theorem buildR_ping (gl : Nat → AV) (frm sport dst dport ttl id flags seq ack win : Int) (body : List UInt8) (h : pkErr (⟨1, frm, sport, dst, dport, ttl, id, flags, seq, ack, win, body⟩ : Pk) = 0) : PS Try.prog gl 12 [.agg (⟨1, frm, sport, dst, dport, ttl, id, flags, seq, ack, win, body⟩ : Pk).enc] (.tup [.str (buildB (⟨1, frm, sport, dst, dport, ttl, id, flags, seq, ack, win, body⟩ : Pk)), .int .i64 0]) := by
  refine ft_rBuild.ps (of_decide_eq_true rfl) (by simp [nmOk, nmAll]) fun c hN hg => ?_
  unfold T_rBuild
  obtain ⟨_, ⟨r1, r2, r3, r4, r5, r6, r7, r8, r9, r10⟩, hbl, _⟩ := pkErr_ok h
  dsimp only at r1 r2 r3 r4 r5 r6 r7 r8 r9 r10 hbl
  have hG := rGood_ps c.gl (⟨1, frm, sport, dst, dport, ttl, id, flags, seq, ack, win, body⟩ : Pk) ⟨by dsimp only; omega, by dsimp only; omega⟩
  rw [h] at hG
  clear h
  obtain ⟨z2, hz2⟩ : ∃ z : List UInt8, [0, 0] = z := ⟨_, rfl⟩
  have l2 : z2.length = 2 := by rw [← hz2]; rfl
  have hA : be flags 1 ++ [0] = segA (⟨1, frm, sport, dst, dport, ttl, id, flags, seq, ack, win, body⟩ : Pk) := by unfold segA; simp
  have hZ : be (sport + dport) 2 ++ be seq 2 ++ body = segZ (⟨1, frm, sport, dst, dport, ttl, id, flags, seq, ack, win, body⟩ : Pk) := by unfold segZ; simp [← hz2]
  have hlA : (segA (⟨1, frm, sport, dst, dport, ttl, id, flags, seq, ack, win, body⟩ : Pk)).length = 2 := by rw [← hA]; simp [be_len]
  have hlZ : (segZ (⟨1, frm, sport, dst, dport, ttl, id, flags, seq, ack, win, body⟩ : Pk)).length = 4 + body.length := by rw [← hZ] <;> first | rfl | (simp [be_len, l2]; done) | (simp [be_len, l2]; omega)
  have hfin : buildB (⟨1, frm, sport, dst, dport, ttl, id, flags, seq, ack, win, body⟩ : Pk) = headB 1 frm dst ttl id (segN (⟨1, frm, sport, dst, dport, ttl, id, flags, seq, ack, win, body⟩ : Pk)) ++ (segA (⟨1, frm, sport, dst, dport, ttl, id, flags, seq, ack, win, body⟩ : Pk) ++ be (ckN (⟨1, frm, sport, dst, dport, ttl, id, flags, seq, ack, win, body⟩ : Pk)) 2 ++ segZ (⟨1, frm, sport, dst, dport, ttl, id, flags, seq, ack, win, body⟩ : Pk)) := rfl
  have hck : ckN (⟨1, frm, sport, dst, dport, ttl, id, flags, seq, ack, win, body⟩ : Pk) = if (⟨1, frm, sport, dst, dport, ttl, id, flags, seq, ack, win, body⟩ : Pk).proto = 17 ∧ checkN (preB (⟨1, frm, sport, dst, dport, ttl, id, flags, seq, ack, win, body⟩ : Pk).proto (⟨1, frm, sport, dst, dport, ttl, id, flags, seq, ack, win, body⟩ : Pk).frm (⟨1, frm, sport, dst, dport, ttl, id, flags, seq, ack, win, body⟩ : Pk).dst (segN (⟨1, frm, sport, dst, dport, ttl, id, flags, seq, ack, win, body⟩ : Pk)) ++ segA (⟨1, frm, sport, dst, dport, ttl, id, flags, seq, ack, win, body⟩ : Pk) ++ [0, 0] ++ segZ (⟨1, frm, sport, dst, dport, ttl, id, flags, seq, ack, win, body⟩ : Pk)) = 0 then 65535 else checkN (preB (⟨1, frm, sport, dst, dport, ttl, id, flags, seq, ack, win, body⟩ : Pk).proto (⟨1, frm, sport, dst, dport, ttl, id, flags, seq, ack, win, body⟩ : Pk).frm (⟨1, frm, sport, dst, dport, ttl, id, flags, seq, ack, win, body⟩ : Pk).dst (segN (⟨1, frm, sport, dst, dport, ttl, id, flags, seq, ack, win, body⟩ : Pk)) ++ segA (⟨1, frm, sport, dst, dport, ttl, id, flags, seq, ack, win, body⟩ : Pk) ++ [0, 0] ++ segZ (⟨1, frm, sport, dst, dport, ttl, id, flags, seq, ack, win, body⟩ : Pk)) := rfl
  have hN : ((segN (⟨1, frm, sport, dst, dport, ttl, id, flags, seq, ack, win, body⟩ : Pk) : Nat) : Int) = 2 + 2 + ((4 + body.length : Nat) : Int) := by unfold segN; omega
  have hNb : segN (⟨1, frm, sport, dst, dport, ttl, id, flags, seq, ack, win, body⟩ : Pk) ≤ 90 := by unfold segN; omega
  dsimp only at hck
  rw [hz2] at hck
  rw [hfin]
  clear hfin
  generalize segA (⟨1, frm, sport, dst, dport, ttl, id, flags, seq, ack, win, body⟩ : Pk) = A at *
  generalize segZ (⟨1, frm, sport, dst, dport, ttl, id, flags, seq, ack, win, body⟩ : Pk) = Z at *
  generalize ckN (⟨1, frm, sport, dst, dport, ttl, id, flags, seq, ack, win, body⟩ : Pk) = ck at *
  generalize segN (⟨1, frm, sport, dst, dport, ttl, id, flags, seq, ack, win, body⟩ : Pk) = N at *
  have hCk := CheckOf_ps c.gl (preB 1 frm dst N ++ A ++ z2 ++ Z) (by unfold preB; simp only [List.length_append]; split <;> (try simp [be_len]) <;> (try omega))
  have hKl := checkN_le (preB 1 frm dst N ++ A ++ z2 ++ Z)
  generalize checkN (preB 1 frm dst N ++ A ++ z2 ++ Z) = K at *
  have hpl : (preB 1 frm dst N).length ≤ 12 := by unfold preB; split <;> simp [be_len]
  have hah := ahead_ps c.gl frm dst 1 N (by omega) (by omega) (by omega) (by omega)
  have hhl : (headB 1 frm dst ttl id N).length = 20 := headB_len _ _ _ _ _ _
  have hhd := headOf_ps c.gl 1 frm dst ttl id N (by omega) (by omega) (by omega) (by omega) (by omega) (by omega)
  generalize preB 1 frm dst N = X at *
  generalize headB 1 frm dst ttl id N = H at *
  have hN2 : ((2 : Int) + 2) + (((4 + body.length : Nat)) : Int) = N := by omega
  unfold Pk.enc at hG ⊢
  dsimp only at hG ⊢
  (refine XG ?_; ((try (repeat' with_reducible refine And.intro ?_ ?_)); (try any_goals (first | refine zm ?_ | exact CL | fail))))
  ((first | apply pr_psv | apply prD_psv | apply pr_qrunv | apply prD_qrunv) <;> (first | exact hG | (refine XG ?_; first | exact rfl | exact True.intro | ((try (repeat' with_reducible refine And.intro ?_ ?_)); (try any_goals (first | refine zm ?_ | exact CL | fail))))))
  (refine xw_ifp (fun g0 => ?_) (fun g0 => ?_) <;> try exact g0.elim)
  (refine XG ?_; ((try (repeat' with_reducible refine And.intro ?_ ?_)); (try any_goals (first | refine zm ?_ | exact CL | fail))))
  (refine xw_ifp (fun g1 => ?_) (fun g1 => ?_) <;> try exact g1.elim)
  (have zf1 := @hz2; have zf2 := @be_len; have zf3 := @l2; have zf4 := @hA; have zf5 := @hlA; have zf6 := @hN2; have zf7 := @hZ; have zf8 := @hlZ; refine XG ?_; clear zf1 zf2 zf3 zf4 zf5 zf6 zf7 zf8; ((try (repeat' with_reducible refine And.intro ?_ ?_)); (try any_goals (first | refine zm ?_ | exact CL | fail))))
  ((first | apply pr_psv | apply prD_psv | apply pr_qrunv | apply prD_qrunv) <;> (first | exact (bytesOf_ps _ flags 1 (by omega) (by omega) (by decide)) | (have zf1 := @hz2; have zf2 := @be_len; have zf3 := @l2; have zf4 := @hA; have zf5 := @hlA; have zf6 := @hN2; have zf7 := @hZ; have zf8 := @hlZ; refine XG ?_; clear zf1 zf2 zf3 zf4 zf5 zf6 zf7 zf8; first | exact rfl | exact True.intro | ((try (repeat' with_reducible refine And.intro ?_ ?_)); (try any_goals (first | refine zm ?_ | exact CL | fail))))))
  ((first | apply pr_psv | apply prD_psv | apply pr_qrunv | apply prD_qrunv) <;> (first | exact (bytesOf_ps _ (sport + dport) 2 (by omega) (by omega) (by decide)) | (have zf1 := @hz2; have zf2 := @be_len; have zf3 := @l2; have zf4 := @hA; have zf5 := @hlA; have zf6 := @hN2; have zf7 := @hZ; have zf8 := @hlZ; refine XG ?_; clear zf1 zf2 zf3 zf4 zf5 zf6 zf7 zf8; first | exact rfl | exact True.intro | ((try (repeat' with_reducible refine And.intro ?_ ?_)); (try any_goals (first | refine zm ?_ | exact CL | fail))))))
  ((first | apply pr_psv | apply prD_psv | apply pr_qrunv | apply prD_qrunv) <;> (first | exact (bytesOf_ps _ seq 2 (by omega) (by omega) (by decide)) | (have zf1 := @hz2; have zf2 := @be_len; have zf3 := @l2; have zf4 := @hA; have zf5 := @hlA; have zf6 := @hN2; have zf7 := @hZ; have zf8 := @hlZ; refine XG ?_; clear zf1 zf2 zf3 zf4 zf5 zf6 zf7 zf8; first | exact rfl | exact True.intro | ((try (repeat' with_reducible refine And.intro ?_ ?_)); (try any_goals (first | refine zm ?_ | exact CL | fail))))))
  ((first | apply pr_psv | apply prD_psv | apply pr_qrunv | apply prD_qrunv) <;> (first | exact hah | (have zf1 := @hz2; have zf2 := @be_len; have zf3 := @l2; have zf4 := @hA; have zf5 := @hlA; have zf6 := @hN2; have zf7 := @hZ; have zf8 := @hlZ; refine XG ?_; clear zf1 zf2 zf3 zf4 zf5 zf6 zf7 zf8; first | exact rfl | exact True.intro | ((try (repeat' with_reducible refine And.intro ?_ ?_)); (try any_goals (first | refine zm ?_ | exact CL | fail))))))
  ((first | apply pr_psv | apply prD_psv | apply pr_qrunv | apply prD_qrunv) <;> (first | exact hCk | (have zf1 := @hz2; have zf2 := @be_len; have zf3 := @l2; have zf4 := @hA; have zf5 := @hlA; have zf6 := @hN2; have zf7 := @hZ; have zf8 := @hlZ; refine XG ?_; clear zf1 zf2 zf3 zf4 zf5 zf6 zf7 zf8; first | exact rfl | exact True.intro | ((try (repeat' with_reducible refine And.intro ?_ ?_)); (try any_goals (first | refine zm ?_ | exact CL | fail))))))
  rw [if_neg (by omega)] at hck
  subst hck
  (refine xw_ifp (fun g5 => ?_) (fun g5 => ?_) <;> try exact g5.elim)
  (have zf1 := @hz2; have zf2 := @be_len; have zf3 := @l2; have zf4 := @hA; have zf5 := @hlA; have zf6 := @hN2; have zf7 := @hZ; have zf8 := @hlZ; refine XG ?_; clear zf1 zf2 zf3 zf4 zf5 zf6 zf7 zf8; ((try (repeat' with_reducible refine And.intro ?_ ?_)); (try any_goals (first | refine zm ?_ | exact CL | fail))))
  ((first | apply pr_psv | apply prD_psv | apply pr_qrunv | apply prD_qrunv) <;> (first | exact hhd | (have zf1 := @hz2; have zf2 := @be_len; have zf3 := @l2; have zf4 := @hA; have zf5 := @hlA; have zf6 := @hN2; have zf7 := @hZ; have zf8 := @hlZ; refine XG ?_; clear zf1 zf2 zf3 zf4 zf5 zf6 zf7 zf8; first | exact rfl | exact True.intro | ((try (repeat' with_reducible refine And.intro ?_ ?_)); (try any_goals (first | refine zm ?_ | exact CL | fail))))))
  ((first | apply pr_psv | apply prD_psv | apply pr_qrunv | apply prD_qrunv) <;> (first | exact (bytesOf_ps _ ck 2 (by omega) (by omega) (by decide)) | (have zf1 := @hz2; have zf2 := @be_len; have zf3 := @l2; have zf4 := @hA; have zf5 := @hlA; have zf6 := @hN2; have zf7 := @hZ; have zf8 := @hlZ; refine XG ?_; clear zf1 zf2 zf3 zf4 zf5 zf6 zf7 zf8; first | exact rfl | exact True.intro | ((try (repeat' with_reducible refine And.intro ?_ ?_)); (try any_goals (first | refine zm ?_ | exact CL | fail))))))
  simp only [List.append_assoc]

set_option maxHeartbeats 8000000 in
set_option maxRecDepth 20000 in
theorem buildR_udp (gl : Nat → AV) (frm sport dst dport ttl id flags seq ack win : Int) (body : List UInt8) (h : pkErr (⟨17, frm, sport, dst, dport, ttl, id, flags, seq, ack, win, body⟩ : Pk) = 0) : PS Try.prog gl 12 [.agg (⟨17, frm, sport, dst, dport, ttl, id, flags, seq, ack, win, body⟩ : Pk).enc] (.tup [.str (buildB (⟨17, frm, sport, dst, dport, ttl, id, flags, seq, ack, win, body⟩ : Pk)), .int .i64 0]) := by
  refine ft_rBuild.ps (of_decide_eq_true rfl) (by simp [nmOk, nmAll]) fun c hN hg => ?_
  unfold T_rBuild
  obtain ⟨_, ⟨r1, r2, r3, r4, r5, r6, r7, r8, r9, r10⟩, hbl, _⟩ := pkErr_ok h
  dsimp only at r1 r2 r3 r4 r5 r6 r7 r8 r9 r10 hbl
  have hG := rGood_ps c.gl (⟨17, frm, sport, dst, dport, ttl, id, flags, seq, ack, win, body⟩ : Pk) ⟨by dsimp only; omega, by dsimp only; omega⟩
  rw [h] at hG
  clear h
  obtain ⟨z2, hz2⟩ : ∃ z : List UInt8, [0, 0] = z := ⟨_, rfl⟩
  have l2 : z2.length = 2 := by rw [← hz2]; rfl
  have hA : be sport 2 ++ be dport 2 ++ be (8 + (body.length : Int)) 2 = segA (⟨17, frm, sport, dst, dport, ttl, id, flags, seq, ack, win, body⟩ : Pk) := by unfold segA; simp
  have hZ : body = segZ (⟨17, frm, sport, dst, dport, ttl, id, flags, seq, ack, win, body⟩ : Pk) := by unfold segZ; simp [← hz2]
  have hlA : (segA (⟨17, frm, sport, dst, dport, ttl, id, flags, seq, ack, win, body⟩ : Pk)).length = 6 := by rw [← hA]; simp [be_len]
  have hlZ : (segZ (⟨17, frm, sport, dst, dport, ttl, id, flags, seq, ack, win, body⟩ : Pk)).length = body.length := by rw [← hZ] <;> first | rfl | (simp [be_len, l2]; done) | (simp [be_len, l2]; omega)
  have hfin : buildB (⟨17, frm, sport, dst, dport, ttl, id, flags, seq, ack, win, body⟩ : Pk) = headB 17 frm dst ttl id (segN (⟨17, frm, sport, dst, dport, ttl, id, flags, seq, ack, win, body⟩ : Pk)) ++ (segA (⟨17, frm, sport, dst, dport, ttl, id, flags, seq, ack, win, body⟩ : Pk) ++ be (ckN (⟨17, frm, sport, dst, dport, ttl, id, flags, seq, ack, win, body⟩ : Pk)) 2 ++ segZ (⟨17, frm, sport, dst, dport, ttl, id, flags, seq, ack, win, body⟩ : Pk)) := rfl
  have hck : ckN (⟨17, frm, sport, dst, dport, ttl, id, flags, seq, ack, win, body⟩ : Pk) = if (⟨17, frm, sport, dst, dport, ttl, id, flags, seq, ack, win, body⟩ : Pk).proto = 17 ∧ checkN (preB (⟨17, frm, sport, dst, dport, ttl, id, flags, seq, ack, win, body⟩ : Pk).proto (⟨17, frm, sport, dst, dport, ttl, id, flags, seq, ack, win, body⟩ : Pk).frm (⟨17, frm, sport, dst, dport, ttl, id, flags, seq, ack, win, body⟩ : Pk).dst (segN (⟨17, frm, sport, dst, dport, ttl, id, flags, seq, ack, win, body⟩ : Pk)) ++ segA (⟨17, frm, sport, dst, dport, ttl, id, flags, seq, ack, win, body⟩ : Pk) ++ [0, 0] ++ segZ (⟨17, frm, sport, dst, dport, ttl, id, flags, seq, ack, win, body⟩ : Pk)) = 0 then 65535 else checkN (preB (⟨17, frm, sport, dst, dport, ttl, id, flags, seq, ack, win, body⟩ : Pk).proto (⟨17, frm, sport, dst, dport, ttl, id, flags, seq, ack, win, body⟩ : Pk).frm (⟨17, frm, sport, dst, dport, ttl, id, flags, seq, ack, win, body⟩ : Pk).dst (segN (⟨17, frm, sport, dst, dport, ttl, id, flags, seq, ack, win, body⟩ : Pk)) ++ segA (⟨17, frm, sport, dst, dport, ttl, id, flags, seq, ack, win, body⟩ : Pk) ++ [0, 0] ++ segZ (⟨17, frm, sport, dst, dport, ttl, id, flags, seq, ack, win, body⟩ : Pk)) := rfl
  have hN : ((segN (⟨17, frm, sport, dst, dport, ttl, id, flags, seq, ack, win, body⟩ : Pk) : Nat) : Int) = 6 + 2 + ((body.length : Nat) : Int) := by unfold segN; omega
  have hNb : segN (⟨17, frm, sport, dst, dport, ttl, id, flags, seq, ack, win, body⟩ : Pk) ≤ 90 := by unfold segN; omega
  dsimp only at hck
  rw [hz2] at hck
  rw [hfin]
  clear hfin
  generalize segA (⟨17, frm, sport, dst, dport, ttl, id, flags, seq, ack, win, body⟩ : Pk) = A at *
  generalize segZ (⟨17, frm, sport, dst, dport, ttl, id, flags, seq, ack, win, body⟩ : Pk) = Z at *
  generalize ckN (⟨17, frm, sport, dst, dport, ttl, id, flags, seq, ack, win, body⟩ : Pk) = ck at *
  generalize segN (⟨17, frm, sport, dst, dport, ttl, id, flags, seq, ack, win, body⟩ : Pk) = N at *
  have hCk := CheckOf_ps c.gl (preB 17 frm dst N ++ A ++ z2 ++ Z) (by unfold preB; simp only [List.length_append]; split <;> (try simp [be_len]) <;> (try omega))
  have hKl := checkN_le (preB 17 frm dst N ++ A ++ z2 ++ Z)
  generalize checkN (preB 17 frm dst N ++ A ++ z2 ++ Z) = K at *
  have hpl : (preB 17 frm dst N).length ≤ 12 := by unfold preB; split <;> simp [be_len]
  have hah := ahead_ps c.gl frm dst 17 N (by omega) (by omega) (by omega) (by omega)
  have hhl : (headB 17 frm dst ttl id N).length = 20 := headB_len _ _ _ _ _ _
  have hhd := headOf_ps c.gl 17 frm dst ttl id N (by omega) (by omega) (by omega) (by omega) (by omega) (by omega)
  generalize preB 17 frm dst N = X at *
  generalize headB 17 frm dst ttl id N = H at *
  have hN2 : ((6 : Int) + 2) + (((body.length : Nat)) : Int) = N := by omega
  subst hZ
  unfold Pk.enc at hG ⊢
  dsimp only at hG ⊢
  (refine XG ?_; ((try (repeat' with_reducible refine And.intro ?_ ?_)); (try any_goals (first | refine zm ?_ | exact CL | fail))))
  ((first | apply pr_psv | apply prD_psv | apply pr_qrunv | apply prD_qrunv) <;> (first | exact hG | (refine XG ?_; first | exact rfl | exact True.intro | ((try (repeat' with_reducible refine And.intro ?_ ?_)); (try any_goals (first | refine zm ?_ | exact CL | fail))))))
  (refine xw_ifp (fun g0 => ?_) (fun g0 => ?_) <;> try exact g0.elim)
  (refine XG ?_; ((try (repeat' with_reducible refine And.intro ?_ ?_)); (try any_goals (first | refine zm ?_ | exact CL | fail))))
  (refine xw_ifp (fun g1 => ?_) (fun g1 => ?_) <;> try exact g1.elim)
  (have zf1 := @hz2; have zf2 := @be_len; have zf3 := @l2; have zf4 := @hA; have zf5 := @hlA; have zf6 := @hN2; refine XG ?_; clear zf1 zf2 zf3 zf4 zf5 zf6; ((try (repeat' with_reducible refine And.intro ?_ ?_)); (try any_goals (first | refine zm ?_ | exact CL | fail))))
  (refine xw_ifp (fun g2 => ?_) (fun g2 => ?_) <;> try exact g2.elim)
  (have zf1 := @hz2; have zf2 := @be_len; have zf3 := @l2; have zf4 := @hA; have zf5 := @hlA; have zf6 := @hN2; refine XG ?_; clear zf1 zf2 zf3 zf4 zf5 zf6; ((try (repeat' with_reducible refine And.intro ?_ ?_)); (try any_goals (first | refine zm ?_ | exact CL | fail))))
  ((first | apply pr_psv | apply prD_psv | apply pr_qrunv | apply prD_qrunv) <;> (first | exact (bytesOf_ps _ sport 2 (by omega) (by omega) (by decide)) | (have zf1 := @hz2; have zf2 := @be_len; have zf3 := @l2; have zf4 := @hA; have zf5 := @hlA; have zf6 := @hN2; refine XG ?_; clear zf1 zf2 zf3 zf4 zf5 zf6; first | exact rfl | exact True.intro | ((try (repeat' with_reducible refine And.intro ?_ ?_)); (try any_goals (first | refine zm ?_ | exact CL | fail))))))
  ((first | apply pr_psv | apply prD_psv | apply pr_qrunv | apply prD_qrunv) <;> (first | exact (bytesOf_ps _ dport 2 (by omega) (by omega) (by decide)) | (have zf1 := @hz2; have zf2 := @be_len; have zf3 := @l2; have zf4 := @hA; have zf5 := @hlA; have zf6 := @hN2; refine XG ?_; clear zf1 zf2 zf3 zf4 zf5 zf6; first | exact rfl | exact True.intro | ((try (repeat' with_reducible refine And.intro ?_ ?_)); (try any_goals (first | refine zm ?_ | exact CL | fail))))))
  ((first | apply pr_psv | apply prD_psv | apply pr_qrunv | apply prD_qrunv) <;> (first | exact (bytesOf_ps _ (8 + (body.length : Int)) 2 (by omega) (by omega) (by decide)) | (have zf1 := @hz2; have zf2 := @be_len; have zf3 := @l2; have zf4 := @hA; have zf5 := @hlA; have zf6 := @hN2; refine XG ?_; clear zf1 zf2 zf3 zf4 zf5 zf6; first | exact rfl | exact True.intro | ((try (repeat' with_reducible refine And.intro ?_ ?_)); (try any_goals (first | refine zm ?_ | exact CL | fail))))))
  ((first | apply pr_psv | apply prD_psv | apply pr_qrunv | apply prD_qrunv) <;> (first | exact hah | (have zf1 := @hz2; have zf2 := @be_len; have zf3 := @l2; have zf4 := @hA; have zf5 := @hlA; have zf6 := @hN2; refine XG ?_; clear zf1 zf2 zf3 zf4 zf5 zf6; first | exact rfl | exact True.intro | ((try (repeat' with_reducible refine And.intro ?_ ?_)); (try any_goals (first | refine zm ?_ | exact CL | fail))))))
  ((first | apply pr_psv | apply prD_psv | apply pr_qrunv | apply prD_qrunv) <;> (first | exact hCk | (have zf1 := @hz2; have zf2 := @be_len; have zf3 := @l2; have zf4 := @hA; have zf5 := @hlA; have zf6 := @hN2; refine XG ?_; clear zf1 zf2 zf3 zf4 zf5 zf6; first | exact rfl | exact True.intro | ((try (repeat' with_reducible refine And.intro ?_ ?_)); (try any_goals (first | refine zm ?_ | exact CL | fail))))))
  by_cases hK0 : K = 0
  · rw [if_pos ⟨rfl, hK0⟩] at hck
    have hcI : (ck : Int) = 65535 := by omega
    rw [hcI]
    clear hck hcI ck
    subst hK0
    (refine xw_ifp (fun g5 => ?_) (fun g5 => ?_) <;> try exact g5.elim)
    (have zf1 := @hz2; have zf2 := @be_len; have zf3 := @l2; have zf4 := @hA; have zf5 := @hlA; have zf6 := @hN2; refine XG ?_; clear zf1 zf2 zf3 zf4 zf5 zf6; ((try (repeat' with_reducible refine And.intro ?_ ?_)); (try any_goals (first | refine zm ?_ | exact CL | fail))))
    ((first | apply pr_psv | apply prD_psv | apply pr_qrunv | apply prD_qrunv) <;> (first | exact hhd | (have zf1 := @hz2; have zf2 := @be_len; have zf3 := @l2; have zf4 := @hA; have zf5 := @hlA; have zf6 := @hN2; refine XG ?_; clear zf1 zf2 zf3 zf4 zf5 zf6; first | exact rfl | exact True.intro | ((try (repeat' with_reducible refine And.intro ?_ ?_)); (try any_goals (first | refine zm ?_ | exact CL | fail))))))
    ((first | apply pr_psv | apply prD_psv | apply pr_qrunv | apply prD_qrunv) <;> (first | exact (bytesOf_ps _ 65535 2 (by omega) (by omega) (by decide)) | (have zf1 := @hz2; have zf2 := @be_len; have zf3 := @l2; have zf4 := @hA; have zf5 := @hlA; have zf6 := @hN2; refine XG ?_; clear zf1 zf2 zf3 zf4 zf5 zf6; first | exact rfl | exact True.intro | ((try (repeat' with_reducible refine And.intro ?_ ?_)); (try any_goals (first | refine zm ?_ | exact CL | fail))))))
    simp only [List.append_assoc]
  · rw [if_neg fun h => hK0 h.2] at hck
    subst hck
    have hKb : ((ck : Int) == 0) = false := by simp; omega
    (have zf1 := @hKb; refine XG ?_; clear zf1; ((try (repeat' with_reducible refine And.intro ?_ ?_)); (try any_goals (first | refine zm ?_ | exact CL | fail))))
    (refine xw_ifp (fun g5 => ?_) (fun g5 => ?_) <;> try exact g5.elim)
    (have zf1 := @hz2; have zf2 := @be_len; have zf3 := @l2; have zf4 := @hA; have zf5 := @hlA; have zf6 := @hN2; refine XG ?_; clear zf1 zf2 zf3 zf4 zf5 zf6; ((try (repeat' with_reducible refine And.intro ?_ ?_)); (try any_goals (first | refine zm ?_ | exact CL | fail))))
    ((first | apply pr_psv | apply prD_psv | apply pr_qrunv | apply prD_qrunv) <;> (first | exact hhd | (have zf1 := @hz2; have zf2 := @be_len; have zf3 := @l2; have zf4 := @hA; have zf5 := @hlA; have zf6 := @hN2; refine XG ?_; clear zf1 zf2 zf3 zf4 zf5 zf6; first | exact rfl | exact True.intro | ((try (repeat' with_reducible refine And.intro ?_ ?_)); (try any_goals (first | refine zm ?_ | exact CL | fail))))))
    ((first | apply pr_psv | apply prD_psv | apply pr_qrunv | apply prD_qrunv) <;> (first | exact (bytesOf_ps _ ck 2 (by omega) (by omega) (by decide)) | (have zf1 := @hz2; have zf2 := @be_len; have zf3 := @l2; have zf4 := @hA; have zf5 := @hlA; have zf6 := @hN2; refine XG ?_; clear zf1 zf2 zf3 zf4 zf5 zf6; first | exact rfl | exact True.intro | ((try (repeat' with_reducible refine And.intro ?_ ?_)); (try any_goals (first | refine zm ?_ | exact CL | fail))))))
    simp only [List.append_assoc]

set_option maxHeartbeats 8000000 in
set_option maxRecDepth 20000 in
theorem buildR_tcp (gl : Nat → AV) (frm sport dst dport ttl id flags seq ack win : Int) (body : List UInt8) (h : pkErr (⟨6, frm, sport, dst, dport, ttl, id, flags, seq, ack, win, body⟩ : Pk) = 0) : PS Try.prog gl 12 [.agg (⟨6, frm, sport, dst, dport, ttl, id, flags, seq, ack, win, body⟩ : Pk).enc] (.tup [.str (buildB (⟨6, frm, sport, dst, dport, ttl, id, flags, seq, ack, win, body⟩ : Pk)), .int .i64 0]) := by
  refine ft_rBuild.ps (of_decide_eq_true rfl) (by simp [nmOk, nmAll]) fun c hN hg => ?_
  unfold T_rBuild
  obtain ⟨_, ⟨r1, r2, r3, r4, r5, r6, r7, r8, r9, r10⟩, hbl, _⟩ := pkErr_ok h
  dsimp only at r1 r2 r3 r4 r5 r6 r7 r8 r9 r10 hbl
  have hG := rGood_ps c.gl (⟨6, frm, sport, dst, dport, ttl, id, flags, seq, ack, win, body⟩ : Pk) ⟨by dsimp only; omega, by dsimp only; omega⟩
  rw [h] at hG
  clear h
  obtain ⟨z2, hz2⟩ : ∃ z : List UInt8, [0, 0] = z := ⟨_, rfl⟩
  have l2 : z2.length = 2 := by rw [← hz2]; rfl
  have hA : be sport 2 ++ be dport 2 ++ be seq 4 ++ be ack 4 ++ [80] ++ be flags 1 ++ be win 2 = segA (⟨6, frm, sport, dst, dport, ttl, id, flags, seq, ack, win, body⟩ : Pk) := by unfold segA; simp
  have hZ : z2 ++ body = segZ (⟨6, frm, sport, dst, dport, ttl, id, flags, seq, ack, win, body⟩ : Pk) := by unfold segZ; simp [← hz2]
  have hlA : (segA (⟨6, frm, sport, dst, dport, ttl, id, flags, seq, ack, win, body⟩ : Pk)).length = 16 := by rw [← hA]; simp [be_len]
  have hlZ : (segZ (⟨6, frm, sport, dst, dport, ttl, id, flags, seq, ack, win, body⟩ : Pk)).length = 2 + body.length := by rw [← hZ] <;> first | rfl | (simp [be_len, l2]; done) | (simp [be_len, l2]; omega)
  have hfin : buildB (⟨6, frm, sport, dst, dport, ttl, id, flags, seq, ack, win, body⟩ : Pk) = headB 6 frm dst ttl id (segN (⟨6, frm, sport, dst, dport, ttl, id, flags, seq, ack, win, body⟩ : Pk)) ++ (segA (⟨6, frm, sport, dst, dport, ttl, id, flags, seq, ack, win, body⟩ : Pk) ++ be (ckN (⟨6, frm, sport, dst, dport, ttl, id, flags, seq, ack, win, body⟩ : Pk)) 2 ++ segZ (⟨6, frm, sport, dst, dport, ttl, id, flags, seq, ack, win, body⟩ : Pk)) := rfl
  have hck : ckN (⟨6, frm, sport, dst, dport, ttl, id, flags, seq, ack, win, body⟩ : Pk) = if (⟨6, frm, sport, dst, dport, ttl, id, flags, seq, ack, win, body⟩ : Pk).proto = 17 ∧ checkN (preB (⟨6, frm, sport, dst, dport, ttl, id, flags, seq, ack, win, body⟩ : Pk).proto (⟨6, frm, sport, dst, dport, ttl, id, flags, seq, ack, win, body⟩ : Pk).frm (⟨6, frm, sport, dst, dport, ttl, id, flags, seq, ack, win, body⟩ : Pk).dst (segN (⟨6, frm, sport, dst, dport, ttl, id, flags, seq, ack, win, body⟩ : Pk)) ++ segA (⟨6, frm, sport, dst, dport, ttl, id, flags, seq, ack, win, body⟩ : Pk) ++ [0, 0] ++ segZ (⟨6, frm, sport, dst, dport, ttl, id, flags, seq, ack, win, body⟩ : Pk)) = 0 then 65535 else checkN (preB (⟨6, frm, sport, dst, dport, ttl, id, flags, seq, ack, win, body⟩ : Pk).proto (⟨6, frm, sport, dst, dport, ttl, id, flags, seq, ack, win, body⟩ : Pk).frm (⟨6, frm, sport, dst, dport, ttl, id, flags, seq, ack, win, body⟩ : Pk).dst (segN (⟨6, frm, sport, dst, dport, ttl, id, flags, seq, ack, win, body⟩ : Pk)) ++ segA (⟨6, frm, sport, dst, dport, ttl, id, flags, seq, ack, win, body⟩ : Pk) ++ [0, 0] ++ segZ (⟨6, frm, sport, dst, dport, ttl, id, flags, seq, ack, win, body⟩ : Pk)) := rfl
  have hN : ((segN (⟨6, frm, sport, dst, dport, ttl, id, flags, seq, ack, win, body⟩ : Pk) : Nat) : Int) = 16 + 2 + ((2 + body.length : Nat) : Int) := by unfold segN; omega
  have hNb : segN (⟨6, frm, sport, dst, dport, ttl, id, flags, seq, ack, win, body⟩ : Pk) ≤ 90 := by unfold segN; omega
  dsimp only at hck
  rw [hz2] at hck
  rw [hfin]
  clear hfin
  generalize segA (⟨6, frm, sport, dst, dport, ttl, id, flags, seq, ack, win, body⟩ : Pk) = A at *
  generalize segZ (⟨6, frm, sport, dst, dport, ttl, id, flags, seq, ack, win, body⟩ : Pk) = Z at *
  generalize ckN (⟨6, frm, sport, dst, dport, ttl, id, flags, seq, ack, win, body⟩ : Pk) = ck at *
  generalize segN (⟨6, frm, sport, dst, dport, ttl, id, flags, seq, ack, win, body⟩ : Pk) = N at *
  have hCk := CheckOf_ps c.gl (preB 6 frm dst N ++ A ++ z2 ++ Z) (by unfold preB; simp only [List.length_append]; split <;> (try simp [be_len]) <;> (try omega))
  have hKl := checkN_le (preB 6 frm dst N ++ A ++ z2 ++ Z)
  generalize checkN (preB 6 frm dst N ++ A ++ z2 ++ Z) = K at *
  have hpl : (preB 6 frm dst N).length ≤ 12 := by unfold preB; split <;> simp [be_len]
  have hah := ahead_ps c.gl frm dst 6 N (by omega) (by omega) (by omega) (by omega)
  have hhl : (headB 6 frm dst ttl id N).length = 20 := headB_len _ _ _ _ _ _
  have hhd := headOf_ps c.gl 6 frm dst ttl id N (by omega) (by omega) (by omega) (by omega) (by omega) (by omega)
  generalize preB 6 frm dst N = X at *
  generalize headB 6 frm dst ttl id N = H at *
  have hN2 : ((16 : Int) + 2) + (((2 + body.length : Nat)) : Int) = N := by omega
  unfold Pk.enc at hG ⊢
  dsimp only at hG ⊢
  (refine XG ?_; ((try (repeat' with_reducible refine And.intro ?_ ?_)); (try any_goals (first | refine zm ?_ | exact CL | fail))))
  ((first | apply pr_psv | apply prD_psv | apply pr_qrunv | apply prD_qrunv) <;> (first | exact hG | (refine XG ?_; first | exact rfl | exact True.intro | ((try (repeat' with_reducible refine And.intro ?_ ?_)); (try any_goals (first | refine zm ?_ | exact CL | fail))))))
  (refine xw_ifp (fun g0 => ?_) (fun g0 => ?_) <;> try exact g0.elim)
  (refine XG ?_; ((try (repeat' with_reducible refine And.intro ?_ ?_)); (try any_goals (first | refine zm ?_ | exact CL | fail))))
  (refine xw_ifp (fun g1 => ?_) (fun g1 => ?_) <;> try exact g1.elim)
  (have zf1 := @hz2; have zf2 := @be_len; have zf3 := @l2; have zf4 := @hA; have zf5 := @hlA; have zf6 := @hN2; have zf7 := @hZ; have zf8 := @hlZ; refine XG ?_; clear zf1 zf2 zf3 zf4 zf5 zf6 zf7 zf8; ((try (repeat' with_reducible refine And.intro ?_ ?_)); (try any_goals (first | refine zm ?_ | exact CL | fail))))
  (refine xw_ifp (fun g2 => ?_) (fun g2 => ?_) <;> try exact g2.elim)
  (have zf1 := @hz2; have zf2 := @be_len; have zf3 := @l2; have zf4 := @hA; have zf5 := @hlA; have zf6 := @hN2; have zf7 := @hZ; have zf8 := @hlZ; refine XG ?_; clear zf1 zf2 zf3 zf4 zf5 zf6 zf7 zf8; ((try (repeat' with_reducible refine And.intro ?_ ?_)); (try any_goals (first | refine zm ?_ | exact CL | fail))))
  ((first | apply pr_psv | apply prD_psv | apply pr_qrunv | apply prD_qrunv) <;> (first | exact (bytesOf_ps _ sport 2 (by omega) (by omega) (by decide)) | (have zf1 := @hz2; have zf2 := @be_len; have zf3 := @l2; have zf4 := @hA; have zf5 := @hlA; have zf6 := @hN2; have zf7 := @hZ; have zf8 := @hlZ; refine XG ?_; clear zf1 zf2 zf3 zf4 zf5 zf6 zf7 zf8; first | exact rfl | exact True.intro | ((try (repeat' with_reducible refine And.intro ?_ ?_)); (try any_goals (first | refine zm ?_ | exact CL | fail))))))
  ((first | apply pr_psv | apply prD_psv | apply pr_qrunv | apply prD_qrunv) <;> (first | exact (bytesOf_ps _ dport 2 (by omega) (by omega) (by decide)) | (have zf1 := @hz2; have zf2 := @be_len; have zf3 := @l2; have zf4 := @hA; have zf5 := @hlA; have zf6 := @hN2; have zf7 := @hZ; have zf8 := @hlZ; refine XG ?_; clear zf1 zf2 zf3 zf4 zf5 zf6 zf7 zf8; first | exact rfl | exact True.intro | ((try (repeat' with_reducible refine And.intro ?_ ?_)); (try any_goals (first | refine zm ?_ | exact CL | fail))))))
  ((first | apply pr_psv | apply prD_psv | apply pr_qrunv | apply prD_qrunv) <;> (first | exact (bytesOf_ps _ seq 4 (by omega) (by omega) (by decide)) | (have zf1 := @hz2; have zf2 := @be_len; have zf3 := @l2; have zf4 := @hA; have zf5 := @hlA; have zf6 := @hN2; have zf7 := @hZ; have zf8 := @hlZ; refine XG ?_; clear zf1 zf2 zf3 zf4 zf5 zf6 zf7 zf8; first | exact rfl | exact True.intro | ((try (repeat' with_reducible refine And.intro ?_ ?_)); (try any_goals (first | refine zm ?_ | exact CL | fail))))))
  ((first | apply pr_psv | apply prD_psv | apply pr_qrunv | apply prD_qrunv) <;> (first | exact (bytesOf_ps _ ack 4 (by omega) (by omega) (by decide)) | (have zf1 := @hz2; have zf2 := @be_len; have zf3 := @l2; have zf4 := @hA; have zf5 := @hlA; have zf6 := @hN2; have zf7 := @hZ; have zf8 := @hlZ; refine XG ?_; clear zf1 zf2 zf3 zf4 zf5 zf6 zf7 zf8; first | exact rfl | exact True.intro | ((try (repeat' with_reducible refine And.intro ?_ ?_)); (try any_goals (first | refine zm ?_ | exact CL | fail))))))
  ((first | apply pr_psv | apply prD_psv | apply pr_qrunv | apply prD_qrunv) <;> (first | exact (bytesOf_ps _ flags 1 (by omega) (by omega) (by decide)) | (have zf1 := @hz2; have zf2 := @be_len; have zf3 := @l2; have zf4 := @hA; have zf5 := @hlA; have zf6 := @hN2; have zf7 := @hZ; have zf8 := @hlZ; refine XG ?_; clear zf1 zf2 zf3 zf4 zf5 zf6 zf7 zf8; first | exact rfl | exact True.intro | ((try (repeat' with_reducible refine And.intro ?_ ?_)); (try any_goals (first | refine zm ?_ | exact CL | fail))))))
  ((first | apply pr_psv | apply prD_psv | apply pr_qrunv | apply prD_qrunv) <;> (first | exact (bytesOf_ps _ win 2 (by omega) (by omega) (by decide)) | (have zf1 := @hz2; have zf2 := @be_len; have zf3 := @l2; have zf4 := @hA; have zf5 := @hlA; have zf6 := @hN2; have zf7 := @hZ; have zf8 := @hlZ; refine XG ?_; clear zf1 zf2 zf3 zf4 zf5 zf6 zf7 zf8; first | exact rfl | exact True.intro | ((try (repeat' with_reducible refine And.intro ?_ ?_)); (try any_goals (first | refine zm ?_ | exact CL | fail))))))
  ((first | apply pr_psv | apply prD_psv | apply pr_qrunv | apply prD_qrunv) <;> (first | exact hah | (have zf1 := @hz2; have zf2 := @be_len; have zf3 := @l2; have zf4 := @hA; have zf5 := @hlA; have zf6 := @hN2; have zf7 := @hZ; have zf8 := @hlZ; refine XG ?_; clear zf1 zf2 zf3 zf4 zf5 zf6 zf7 zf8; first | exact rfl | exact True.intro | ((try (repeat' with_reducible refine And.intro ?_ ?_)); (try any_goals (first | refine zm ?_ | exact CL | fail))))))
  ((first | apply pr_psv | apply prD_psv | apply pr_qrunv | apply prD_qrunv) <;> (first | exact hCk | (have zf1 := @hz2; have zf2 := @be_len; have zf3 := @l2; have zf4 := @hA; have zf5 := @hlA; have zf6 := @hN2; have zf7 := @hZ; have zf8 := @hlZ; refine XG ?_; clear zf1 zf2 zf3 zf4 zf5 zf6 zf7 zf8; first | exact rfl | exact True.intro | ((try (repeat' with_reducible refine And.intro ?_ ?_)); (try any_goals (first | refine zm ?_ | exact CL | fail))))))
  rw [if_neg (by omega)] at hck
  subst hck
  (refine xw_ifp (fun g5 => ?_) (fun g5 => ?_) <;> try exact g5.elim)
  (have zf1 := @hz2; have zf2 := @be_len; have zf3 := @l2; have zf4 := @hA; have zf5 := @hlA; have zf6 := @hN2; have zf7 := @hZ; have zf8 := @hlZ; refine XG ?_; clear zf1 zf2 zf3 zf4 zf5 zf6 zf7 zf8; ((try (repeat' with_reducible refine And.intro ?_ ?_)); (try any_goals (first | refine zm ?_ | exact CL | fail))))
  ((first | apply pr_psv | apply prD_psv | apply pr_qrunv | apply prD_qrunv) <;> (first | exact hhd | (have zf1 := @hz2; have zf2 := @be_len; have zf3 := @l2; have zf4 := @hA; have zf5 := @hlA; have zf6 := @hN2; have zf7 := @hZ; have zf8 := @hlZ; refine XG ?_; clear zf1 zf2 zf3 zf4 zf5 zf6 zf7 zf8; first | exact rfl | exact True.intro | ((try (repeat' with_reducible refine And.intro ?_ ?_)); (try any_goals (first | refine zm ?_ | exact CL | fail))))))
  ((first | apply pr_psv | apply prD_psv | apply pr_qrunv | apply prD_qrunv) <;> (first | exact (bytesOf_ps _ ck 2 (by omega) (by omega) (by decide)) | (have zf1 := @hz2; have zf2 := @be_len; have zf3 := @l2; have zf4 := @hA; have zf5 := @hlA; have zf6 := @hN2; have zf7 := @hZ; have zf8 := @hlZ; refine XG ?_; clear zf1 zf2 zf3 zf4 zf5 zf6 zf7 zf8; first | exact rfl | exact True.intro | ((try (repeat' with_reducible refine And.intro ?_ ?_)); (try any_goals (first | refine zm ?_ | exact CL | fail))))))
  simp only [List.append_assoc]
end Go.Proofs.Ytblimjilinkmbaa
