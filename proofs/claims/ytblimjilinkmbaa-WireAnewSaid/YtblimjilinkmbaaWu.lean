/- What tells that a frame is refused. No conditions but the ones that stand in each. -/
import Derived.Test.YtblimjilinkmbaaWt
namespace Go.Proofs.Ytblimjilinkmbaa
set_option linter.all false
set_option linter.unusedSimpArgs false
open Go.RowKit

theorem rdE_long {f : List UInt8} (h : rdE f = 0) : 28 ≤ f.length ∧ f.length ≤ 65535 := by
  have h1 : ¬ G1 f := fun h1 => by rw [rd1 h1] at h; cases h
  have h2 : ¬ G2 f := fun h2 => by rw [rd2 h1 h2] at h; cases h
  have h3 : ¬ G3 f := fun h3 => by rw [rd3 h1 h2 h3] at h; cases h
  have h4 : ¬ G4 f := fun h4 => by rw [rd4 h1 h2 h3 h4] at h; cases h
  have k : H4 f := ⟨h1, h2, h3, h4⟩
  have h5 : ¬ G5 f := fun h5 => by rw [rd5 k h5] at h; cases h
  have h6 : ¬ G6 f := fun h6 => by rw [rd6 k h5 h6] at h; cases h
  unfold G1 at h1
  unfold G6 at h6
  rw [List.length_drop] at h6
  have := w2_bd f 2 (by omega)
  split at h6 <;> omega
theorem rdK_frm (f : List UInt8) : (rdK f).frm = w4 f 12 := by
  unfold rdK
  dsimp only
  split
  · rfl
  · split <;> rfl
def refuseT (l : List UInt8) (id : Int) : AV := if rdE l ≠ 0 then .tup [.str [], .int .i64 (rdE l)] else if ¬ (0 ≤ id ∧ id ≤ 65535) then .tup [.str [], .int .i64 2] else .tup [.str (refB l (w4 l 12) id), .int .i64 0]
theorem refuse_nm (l : List UInt8) (id : Int) : nmOk 0 (refuseT l id) := by
  unfold refuseT; split
  · simp [nmOk, nmAll]
  · split <;> simp [nmOk, nmAll]
set_option maxHeartbeats 2000000 in
theorem Refuse_ps (gl : Nat → AV) (l : List UInt8) (id : Int) (hl : l.length ≤ 140737488351232) : PS Try.prog gl 20 [.str l, .int .i64 id] (refuseT l id) := by
  refine ft_wRefuse.ps (of_decide_eq_true rfl) (refuse_nm l id) fun c hN hg => ?_
  unfold T_wRefuse
  have hP := Parse_ps c.gl l hl
  by_cases he : rdE l = 0
  rotate_left
  · rw [parse_bad rfl he] at hP
    have hr : refuseT l id = .tup [.str [], .int .i64 (rdE l)] := if_pos he
    rw [hr]
    clear hr
    generalize rdE l = E at *
    unfold pk0 Pk.enc at hP
    dsimp only at hP
    (refine XG ?_; ((try (repeat' with_reducible refine And.intro ?_ ?_)); (try any_goals (first | refine zm ?_ | exact CL | fail))))
    ((first | apply pr_psv | apply prD_psv | apply pr_qrunv | apply prD_qrunv) <;> (first | exact hP | (refine XG ?_; first | exact rfl | exact True.intro | ((try (repeat' with_reducible refine And.intro ?_ ?_)); (try any_goals (first | refine zm ?_ | exact CL | fail))))))
    (refine xw_ifp (fun g1 => ?_) (fun g1 => ?_) <;> try exact g1.elim)
    · (refine XG ?_; ((try (repeat' with_reducible refine And.intro ?_ ?_)); (try any_goals (first | refine zm ?_ | exact CL | fail))))
    · exact (he g1).elim
  obtain ⟨l28, l65⟩ := rdE_long he
  rw [parse_good he] at hP
  have hf := rdK_frm l
  have hw := word_ps c.gl [id] (by simp)
  have h4 := w4_bd l 12 (by omega)
  unfold Pk.enc at hP
  rw [hf] at hP
  generalize rdK l = q at *
  clear hf
  by_cases hid : 0 ≤ id ∧ id ≤ 65535
  rotate_left
  · have hr : refuseT l id = .tup [.str [], .int .i64 2] := by unfold refuseT; rw [if_neg (by omega), if_pos hid]
    have hb : [id].all (inW 65535) = false := by simp [inW]; omega
    rw [hr]
    rw [hb] at hw
    (refine XG ?_; ((try (repeat' with_reducible refine And.intro ?_ ?_)); (try any_goals (first | refine zm ?_ | exact CL | fail))))
    ((first | apply pr_psv | apply prD_psv | apply pr_qrunv | apply prD_qrunv) <;> (first | exact hP | (refine XG ?_; first | exact rfl | exact True.intro | ((try (repeat' with_reducible refine And.intro ?_ ?_)); (try any_goals (first | refine zm ?_ | exact CL | fail))))))
    (refine xw_ifp (fun g1 => ?_) (fun g1 => ?_) <;> try exact g1.elim)
    (refine XG ?_; ((try (repeat' with_reducible refine And.intro ?_ ?_)); (try any_goals (first | refine zm ?_ | exact CL | fail))))
    ((first | apply pr_app | apply prD_app | apply pr_bsl | apply prD_bsl | apply pr_s2b | apply prD_s2b); (refine XG ?_; ((try (repeat' with_reducible refine And.intro ?_ ?_)); (try any_goals (first | refine zm ?_ | exact CL | fail)))))
    ((first | apply pr_bor | apply prD_bor) <;> (first | exact hw | (with_reducible (exact Flat.bool _)) | (refine XG ?_; first | exact rfl | exact True.intro | ((try (repeat' with_reducible refine And.intro ?_ ?_)); (try any_goals (first | refine zm ?_ | exact CL | fail))))))
    (refine xw_ifp (fun g2 => ?_) (fun g2 => ?_) <;> try exact g2.elim)
    (refine XG ?_; ((try (repeat' with_reducible refine And.intro ?_ ?_)); (try any_goals (first | refine zm ?_ | exact CL | fail))))
  have hr : refuseT l id = .tup [.str (refB l (w4 l 12) id), .int .i64 0] := by unfold refuseT; rw [if_neg (by omega), if_neg (by omega)]
  have hb : [id].all (inW 65535) = true := by simp [inW]; omega
  rw [hr]
  rw [hb] at hw
  clear hr hb
  obtain ⟨p8, hp8⟩ : ∃ p8 : List UInt8, p8 = [3, 13, 0, 0, 0, 0, 0, 0] := ⟨_, rfl⟩
  have hl8 : p8.length = 8 := by rw [hp8]; rfl
  have lit : [.int .u8 3, .int .u8 13, .int .u8 0, .int .u8 0, .int .u8 0, .int .u8 0, .int .u8 0, .int .u8 0] = byts p8 := by rw [hp8]; rfl
  have hset : ∀ v, ((p8 ++ l.take 28).set 2 (byteI v 1)).set 3 (byteI v 0) = [3, 13] ++ be v 2 ++ ([0, 0, 0, 0] ++ l.take 28) := fun v => by rw [hp8]; rfl
  have hck : checkN ([3, 13] ++ [0, 0] ++ ([0, 0, 0, 0] ++ l.take 28)) = checkN (p8 ++ l.take 28) := by rw [hp8]; rfl
  have hfin : refB l (w4 l 12) id = headB 1 167772414 (w4 l 12) 64 id 36 ++ ((p8 ++ l.take 28).set 2 (byteI (checkN (p8 ++ l.take 28)) 1)).set 3 (byteI (checkN (p8 ++ l.take 28)) 0) := by
    unfold refB refS; rw [hset, hck]
  rw [hfin]
  clear hfin hck hset hp8
  have hlr : (p8 ++ l.take 28).length = 36 := by rw [List.length_append, List.length_take]; omega
  have hCk := Check_ps c.gl (p8 ++ l.take 28) (by omega)
  have hKl := checkN_le (p8 ++ l.take 28)
  generalize checkN (p8 ++ l.take 28) = K at *
  have t8 : p8.take 8 = p8 := List.take_of_length_le (by omega)
  (refine XG ?_; ((try (repeat' with_reducible refine And.intro ?_ ?_)); (try any_goals (first | refine zm ?_ | exact CL | fail))))
  ((first | apply pr_psv | apply prD_psv | apply pr_qrunv | apply prD_qrunv) <;> (first | exact hP | (refine XG ?_; first | exact rfl | exact True.intro | ((try (repeat' with_reducible refine And.intro ?_ ?_)); (try any_goals (first | refine zm ?_ | exact CL | fail))))))
  (refine xw_ifp (fun g1 => ?_) (fun g1 => ?_) <;> try exact g1.elim)
  (refine XG ?_; ((try (repeat' with_reducible refine And.intro ?_ ?_)); (try any_goals (first | refine zm ?_ | exact CL | fail))))
  ((first | apply pr_app | apply prD_app | apply pr_bsl | apply prD_bsl | apply pr_s2b | apply prD_s2b); (refine XG ?_; ((try (repeat' with_reducible refine And.intro ?_ ?_)); (try any_goals (first | refine zm ?_ | exact CL | fail)))))
  ((first | apply pr_bor | apply prD_bor) <;> (first | exact hw | (with_reducible (exact Flat.bool _)) | (refine XG ?_; first | exact rfl | exact True.intro | ((try (repeat' with_reducible refine And.intro ?_ ?_)); (try any_goals (first | refine zm ?_ | exact CL | fail))))))
  (refine xw_ifp (fun g2 => ?_) (fun g2 => ?_) <;> try exact g2.elim)
  (refine XG ?_; ((try (repeat' with_reducible refine And.intro ?_ ?_)); (try any_goals (first | refine zm ?_ | exact CL | fail))))
  ((first | apply pr_app | apply prD_app | apply pr_bsl | apply prD_bsl | apply pr_s2b | apply prD_s2b); (refine XG ?_; ((try (repeat' with_reducible refine And.intro ?_ ?_)); (try any_goals (first | refine zm ?_ | exact CL | fail)))))
  simp only [lit]
  ((first | apply pr_app | apply prD_app | apply pr_bsl | apply prD_bsl | apply pr_s2b | apply prD_s2b); (have zf1 := @hl8; have zf2 := @t8; refine XG ?_; clear zf1 zf2; ((try (repeat' with_reducible refine And.intro ?_ ?_)); (try any_goals (first | refine zm ?_ | exact CL | fail)))))
  generalize hR : p8 ++ l.take 28 = R at *
  have tR : R.take 36 = R := List.take_of_length_le (by omega)
  ((first | apply pr_psv | apply prD_psv | apply pr_qrunv | apply prD_qrunv) <;> (first | exact hCk | (have zf1 := @hlr; have zf2 := @tR; refine XG ?_; clear zf1 zf2; first | exact rfl | exact True.intro | ((try (repeat' with_reducible refine And.intro ?_ ?_)); (try any_goals (first | refine zm ?_ | exact CL | fail))))))
  have hset : ((R.set 2 (byteI K 1)).set 3 (byteI K 0)).length = 36 := by simp [hlr]
  (have zf1 := @hlr; have zf2 := @byte_0; refine XG ?_; clear zf1 zf2; ((try (repeat' with_reducible refine And.intro ?_ ?_)); (try any_goals (first | refine zm ?_ | exact CL | fail))))
  generalize hS : (R.set 2 (byteI K 1)).set 3 (byteI K 0) = S at *
  have hmin : ((8 + min 28 l.length : Nat) : Int) = 36 := by omega
  ((first | refine pr_gs (ins := []) (head_gs _ 1 167772414 (w4 l 12) 64 id 36 (by omega)) ?_ ?_ | refine prD_gs (ins := []) (head_gs _ 1 167772414 (w4 l 12) 64 id 36 (by omega)) ?_ ?_ | refine pr_gsv (ins := []) (head_gs _ 1 167772414 (w4 l 12) 64 id 36 (by omega)) ?_ ?_ | refine prD_gsv (ins := []) (head_gs _ 1 167772414 (w4 l 12) 64 id 36 (by omega)) ?_ ?_) <;> (have zf1 := @hlr; have zf2 := @hmin; refine XG ?_; clear zf1 zf2; (try first | exact rfl | exact True.intro); ((try (repeat' with_reducible refine And.intro ?_ ?_)); (try any_goals (first | refine zm ?_ | exact CL | fail)))))
  ((first | apply pr_app | apply prD_app | apply pr_bsl | apply prD_bsl | apply pr_s2b | apply prD_s2b); (have zf1 := @hset; have zf2 := @headB_len; refine XG ?_; clear zf1 zf2; ((try (repeat' with_reducible refine And.intro ?_ ?_)); (try any_goals (first | refine zm ?_ | exact CL | fail)))))
  rw [List.take_of_length_le (by simp [headB_len, hset])]
set_option maxHeartbeats 2000000 in
theorem RefuseR_ps (gl : Nat → AV) (l : List UInt8) (id : Int) (hl : l.length ≤ 140737488351232) : PS Try.prog gl 21 [.str l, .int .i64 id] (refuseT l id) := by
  refine ft_rRefuse.ps (of_decide_eq_true rfl) (refuse_nm l id) fun c hN hg => ?_
  unfold T_rRefuse
  have hP := ParseR_ps c.gl l hl
  by_cases he : rdE l = 0
  rotate_left
  · rw [parse_bad rfl he] at hP
    have hr : refuseT l id = .tup [.str [], .int .i64 (rdE l)] := if_pos he
    rw [hr]
    clear hr
    generalize rdE l = E at *
    unfold pk0 Pk.enc at hP
    dsimp only at hP
    (refine XG ?_; ((try (repeat' with_reducible refine And.intro ?_ ?_)); (try any_goals (first | refine zm ?_ | exact CL | fail))))
    ((first | apply pr_psv | apply prD_psv | apply pr_qrunv | apply prD_qrunv) <;> (first | exact hP | (refine XG ?_; first | exact rfl | exact True.intro | ((try (repeat' with_reducible refine And.intro ?_ ?_)); (try any_goals (first | refine zm ?_ | exact CL | fail))))))
    (refine xw_ifp (fun g1 => ?_) (fun g1 => ?_) <;> try exact g1.elim)
    · (refine XG ?_; ((try (repeat' with_reducible refine And.intro ?_ ?_)); (try any_goals (first | refine zm ?_ | exact CL | fail))))
    · exact (he g1).elim
  obtain ⟨l28, l65⟩ := rdE_long he
  rw [parse_good he] at hP
  have hf := rdK_frm l
  have h4 := w4_bd l 12 (by omega)
  unfold Pk.enc at hP
  rw [hf] at hP
  generalize rdK l = q at *
  clear hf
  by_cases hid : 0 ≤ id ∧ id ≤ 65535
  rotate_left
  · have hr : refuseT l id = .tup [.str [], .int .i64 2] := by unfold refuseT; rw [if_neg (by omega), if_pos hid]
    rw [hr]
    (refine XG ?_; ((try (repeat' with_reducible refine And.intro ?_ ?_)); (try any_goals (first | refine zm ?_ | exact CL | fail))))
    ((first | apply pr_psv | apply prD_psv | apply pr_qrunv | apply prD_qrunv) <;> (first | exact hP | (refine XG ?_; first | exact rfl | exact True.intro | ((try (repeat' with_reducible refine And.intro ?_ ?_)); (try any_goals (first | refine zm ?_ | exact CL | fail))))))
    (refine xw_ifp (fun g1 => ?_) (fun g1 => ?_) <;> try exact g1.elim)
    (refine XG ?_; ((try (repeat' with_reducible refine And.intro ?_ ?_)); (try any_goals (first | refine zm ?_ | exact CL | fail))))
    (refine xw_ifp (fun g2 => ?_) (fun g2 => ?_) <;> try exact g2.elim)
    · (refine XG ?_; ((try (repeat' with_reducible refine And.intro ?_ ?_)); (try any_goals (first | refine zm ?_ | exact CL | fail))))
    · omega
  have hr : refuseT l id = .tup [.str (refB l (w4 l 12) id), .int .i64 0] := by unfold refuseT; rw [if_neg (by omega), if_neg (by omega)]
  rw [hr]
  clear hr
  obtain ⟨z4, hz4⟩ : ∃ z4 : List UInt8, [0, 0, 0, 0] = z4 := ⟨_, rfl⟩
  obtain ⟨p4, hp4⟩ : ∃ p4 : List UInt8, [3, 13, 0, 0] = p4 := ⟨_, rfl⟩
  obtain ⟨p2, hp2⟩ : ∃ p2 : List UInt8, [3, 13] = p2 := ⟨_, rfl⟩
  have l4 : z4.length = 4 := by rw [← hz4]; rfl
  have m4 : p4.length = 4 := by rw [← hp4]; rfl
  have m2 : p2.length = 2 := by rw [← hp2]; rfl
  have hck : checkN ([3, 13] ++ [0, 0] ++ ([0, 0, 0, 0] ++ l.take 28)) = checkN (p4 ++ (z4 ++ l.take 28)) := by rw [← hp4, ← hz4]; rfl
  have hfin : refB l (w4 l 12) id = headB 1 167772414 (w4 l 12) 64 id 36 ++ (p2 ++ be (checkN (p4 ++ (z4 ++ l.take 28))) 2 ++ (z4 ++ l.take 28)) := by
    unfold refB refS; rw [hck, hp2, hz4]
  rw [hfin]
  clear hfin hck
  have hbl : (z4 ++ l.take 28).length = 32 := by rw [List.length_append, List.length_take]; omega
  have hCk := CheckOf_ps c.gl (p4 ++ (z4 ++ l.take 28)) (by rw [List.length_append]; omega)
  have hKl := checkN_le (p4 ++ (z4 ++ l.take 28))
  generalize checkN (p4 ++ (z4 ++ l.take 28)) = K at *
  have hhd := headOf_ps c.gl 1 167772414 (w4 l 12) 64 id 36 (by omega) (by omega) (by omega) (by omega) (by omega) (by omega)
  have hhl : (headB 1 167772414 (w4 l 12) 64 id 36).length = 20 := headB_len _ _ _ _ _ _
  generalize headB 1 167772414 (w4 l 12) 64 id 36 = H at *
  have hBK := bytesOf_ps c.gl K 2 (by omega) (by omega) (by decide)
  generalize hB : z4 ++ l.take 28 = B at *
  (refine XG ?_; ((try (repeat' with_reducible refine And.intro ?_ ?_)); (try any_goals (first | refine zm ?_ | exact CL | fail))))
  ((first | apply pr_psv | apply prD_psv | apply pr_qrunv | apply prD_qrunv) <;> (first | exact hP | (refine XG ?_; first | exact rfl | exact True.intro | ((try (repeat' with_reducible refine And.intro ?_ ?_)); (try any_goals (first | refine zm ?_ | exact CL | fail))))))
  (refine xw_ifp (fun g1 => ?_) (fun g1 => ?_) <;> try exact g1.elim)
  (refine XG ?_; ((try (repeat' with_reducible refine And.intro ?_ ?_)); (try any_goals (first | refine zm ?_ | exact CL | fail))))
  (refine xw_ifp (fun g2 => ?_) (fun g2 => ?_) <;> try exact g2.elim)
  · omega
  (have zf1 := @hz4; have zf2 := @hB; have zf3 := @l4; refine XG ?_; clear zf1 zf2 zf3; ((try (repeat' with_reducible refine And.intro ?_ ?_)); (try any_goals (first | refine zm ?_ | exact CL | fail))))
  ((first | apply pr_psv | apply prD_psv | apply pr_qrunv | apply prD_qrunv) <;> (first | exact hhd | (have zf1 := @hp2; have zf2 := @hp4; have zf3 := @hhl; have zf4 := @m2; have zf5 := @m4; have zf6 := @hbl; refine XG ?_; clear zf1 zf2 zf3 zf4 zf5 zf6; first | exact rfl | exact True.intro | ((try (repeat' with_reducible refine And.intro ?_ ?_)); (try any_goals (first | refine zm ?_ | exact CL | fail))))))
  ((first | apply pr_psv | apply prD_psv | apply pr_qrunv | apply prD_qrunv) <;> (first | exact hCk | (have zf1 := @hp2; have zf2 := @hp4; have zf3 := @hhl; have zf4 := @m2; have zf5 := @m4; have zf6 := @hbl; refine XG ?_; clear zf1 zf2 zf3 zf4 zf5 zf6; first | exact rfl | exact True.intro | ((try (repeat' with_reducible refine And.intro ?_ ?_)); (try any_goals (first | refine zm ?_ | exact CL | fail))))))
  ((first | apply pr_psv | apply prD_psv | apply pr_qrunv | apply prD_qrunv) <;> (first | exact hBK | (have zf1 := @hp2; have zf2 := @hp4; have zf3 := @hhl; have zf4 := @m2; have zf5 := @m4; have zf6 := @hbl; have zf7 := @be_len; refine XG ?_; clear zf1 zf2 zf3 zf4 zf5 zf6 zf7; first | exact rfl | exact True.intro | ((try (repeat' with_reducible refine And.intro ?_ ?_)); (try any_goals (first | refine zm ?_ | exact CL | fail))))))
  simp only [List.append_assoc]
/-- A number brought to 0 to n - 1. -/
theorem wpick_ps (gl : Nat → AV) (k n : Int) (h0 : 0 < n) (h1 : n ≤ 4611686018427387904) (hk : -9223372036854775808 ≤ k ∧ k ≤ 9223372036854775807) : PS Try.prog gl 19 [.int .i64 k, .int .i64 n] (.int .i64 (k % n)) := by
  refine ft_wpick.ps (of_decide_eq_true rfl) (by simp [nmOk]) fun c hN hg => ?_
  unfold T_wpick
  have hb := tmod_bd k n h0
  have he : k.tmod n = k % n ∨ k.tmod n = k % n - n := by
    rw [Int.tmod_eq_emod]
    split
    · exact .inl (by omega)
    · right
      have e : (n.natAbs : Int) = n := by omega
      rw [e]
  have h2 := Int.emod_nonneg k (show n ≠ 0 by omega)
  have h3 := Int.emod_lt_of_pos k h0
  generalize k % n = s at *
  (refine XG ?_; ((try (repeat' with_reducible refine And.intro ?_ ?_)); (try any_goals (first | refine zm ?_ | exact CL | fail))))
  (refine xw_ifp (fun g1 => ?_) (fun g1 => ?_) <;> try exact g1.elim)
  · (refine XG ?_; ((try (repeat' with_reducible refine And.intro ?_ ?_)); (try any_goals (first | refine zm ?_ | exact CL | fail))))
  · (refine XG ?_; ((try (repeat' with_reducible refine And.intro ?_ ?_)); (try any_goals (first | refine zm ?_ | exact CL | fail))))
set_option maxHeartbeats 2000000 in
theorem WireRefuses_ps (gl : Nat → AV) (l : List UInt8) (id : Int) (hl : l.length ≤ 140737488351232) : PS Try.prog gl 7 [.str l, .int .i64 id] (.bool true) := by
  refine ft_LRefuses.ps (of_decide_eq_true rfl) (by simp [nmOk]) fun c hN hg => ?_
  unfold T_LRefuses
  have h1 : ∃ (q : List UInt8) (e : Int), refuseT l id = .tup [.str q, .int .i64 e] := by
    unfold refuseT
    split
    · exact ⟨_, _, rfl⟩
    · split <;> exact ⟨_, _, rfl⟩
  obtain ⟨q, e, hq⟩ := h1
  have h2 := Refuse_ps c.gl l id hl
  have h3 := RefuseR_ps c.gl l id hl
  rw [hq] at h2 h3
  (refine XG ?_; ((try (repeat' with_reducible refine And.intro ?_ ?_)); (try any_goals (first | refine zm ?_ | exact CL | fail))))
  ((first | apply pr_psv | apply prD_psv | apply pr_qrunv | apply prD_qrunv) <;> (first | exact h2 | (refine XG ?_; first | exact rfl | exact True.intro | ((try (repeat' with_reducible refine And.intro ?_ ?_)); (try any_goals (first | refine zm ?_ | exact CL | fail))))))
  ((first | apply pr_psv | apply prD_psv | apply pr_qrunv | apply prD_qrunv) <;> (first | exact h3 | (refine XG ?_; first | exact rfl | exact True.intro | ((try (repeat' with_reducible refine And.intro ?_ ?_)); (try any_goals (first | refine zm ?_ | exact CL | fail))))))
  ((first | apply pr_psv | apply prD_psv | apply pr_qrunv | apply prD_qrunv) <;> (first | exact (buildsL_ps _) | (refine XG ?_; first | exact rfl | exact True.intro | ((try (repeat' with_reducible refine And.intro ?_ ?_)); (try any_goals (first | refine zm ?_ | exact CL | fail))))))
end Go.Proofs.Ytblimjilinkmbaa
