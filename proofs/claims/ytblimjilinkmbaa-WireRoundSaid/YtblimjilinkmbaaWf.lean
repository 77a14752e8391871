/- Heads and what is summed ahead. No conditions but the ones that stand in each. -/
import Derived.Test.YtblimjilinkmbaaWe
namespace Go.Proofs.Ytblimjilinkmbaa
set_option linter.all false
set_option linter.unusedSimpArgs false
open Go.RowKit

theorem u8_be (v : Int) : [UInt8.ofNat (IntKind.u8.wrap v).toNat] = be v 1 := by
  show _ = [byteI v 0]
  unfold byteI
  have : v.fdiv (2 ^ min (8 * ((0 : Nat) : Int)).toNat 64) = v := Int.fdiv_one v
  rw [this]
theorem byts_setW (l : List UInt8) (i : Nat) (n : Int) : (byts l).set i (.int .u8 (IntKind.u8.wrap n)) = byts (l.set i (UInt8.ofNat (IntKind.u8.wrap n).toNat)) := by
  have h0 : 0 ≤ IntKind.u8.wrap n ∧ IntKind.u8.wrap n < 256 := by rw [IntKind.wrap_u8]; omega
  generalize IntKind.u8.wrap n = k at h0 ⊢
  have e : (.int .u8 k : AV) = .int .u8 (UInt8.ofNat k.toNat).toNat := by simp; omega
  rw [e, byts, byts, List.map_set]
theorem byte_1 (v : Int) : UInt8.ofNat (IntKind.u8.wrap (v.fdiv (2 ^ min 8 64))).toNat = byteI v 1 := rfl
theorem byte_0 (v : Int) : UInt8.ofNat (IntKind.u8.wrap v).toNat = byteI v 0 := by
  have := u8_be v
  simp only [be, List.cons.injEq, and_true] at this; exact this
attribute [go_sem] byts_setW byte_1
theorem lit69 : byts [69, 0] = [.int .u8 69, .int .u8 0] := rfl
theorem set_two (A Z : List UInt8) (a b x y : UInt8) : ((A ++ [a, b] ++ Z).set A.length x).set (A.length + 1) y = A ++ [x, y] ++ Z := by
  rw [List.append_assoc, List.set_append_right _ _ (Nat.le_refl _), List.set_append_right _ _ (by omega)]
  simp
theorem head_set (A Z : List UInt8) (hA : A.length = 10) (v : Int) : ((A ++ be 0 2 ++ Z).set 10 (byteI v 1)).set 11 (byteI v 0) = A ++ be v 2 ++ Z := by
  rw [be_02]
  have := set_two A Z 0 0 (byteI v 1) (byteI v 0)
  rw [hA] at this
  exact this
set_option maxHeartbeats 2000000 in
theorem head_gs (gl : Nat → AV) (proto frm dst ttl id n : Int) (hn : 0 ≤ n ∧ n ≤ 1000) :
    GS Try.prog gl 27 [.int .i64 proto, .int .i64 frm, .int .i64 dst, .int .i64 ttl, .int .i64 id, .int .i64 n] [] 0 (.sl 1 0 0 20 20) [(0, .cells (byts (headB proto frm dst ttl id n)))] 1 := by
  refine ft_whead.gs (of_decide_eq_true rfl) (by simp) fun c hgh hg => ?_
  unfold T_whead
  obtain ⟨p2, hp2⟩ : ∃ p2 : List UInt8, p2 = [69, 0] := ⟨_, rfl⟩
  have hl2 : p2.length = 2 := by rw [hp2]; rfl
  have lit : [.int .u8 69, .int .u8 0] = byts p2 := by rw [hp2]; rfl
  have hset : ∀ v, ((p2 ++ be (20 + n) 2 ++ be id 2 ++ be 0 2 ++ be ttl 1 ++ be proto 1 ++ be 0 2 ++ be frm 4 ++ be dst 4).set 10 (byteI v 1)).set 11 (byteI v 0) = hdA proto ttl id n ++ be v 2 ++ hdZ frm dst := fun v => by
    have := head_set (hdA proto ttl id n) (hdZ frm dst) (hdA_len _ _ _ _) v
    rw [← this, hp2]; unfold hdA hdZ; rw [be_02]; simp only [List.append_assoc]
  have hck : checkN (p2 ++ be (20 + n) 2 ++ be id 2 ++ be 0 2 ++ be ttl 1 ++ be proto 1 ++ be 0 2 ++ be frm 4 ++ be dst 4) = checkN (hdA proto ttl id n ++ [0, 0] ++ hdZ frm dst) := by
    unfold hdA hdZ; rw [be_02, hp2]; simp only [List.append_assoc]
  have hlen : (p2 ++ be (20 + n) 2 ++ be id 2 ++ be 0 2 ++ be ttl 1 ++ be proto 1 ++ be 0 2 ++ be frm 4 ++ be dst 4).length = 20 := by simp [be_len, hl2]
  have t8 : (p2 ++ be (20 + n) 2 ++ be id 2 ++ be 0 2).take 8 = p2 ++ be (20 + n) 2 ++ be id 2 ++ be 0 2 := List.take_of_length_le (by simp [be_len, hl2])
  have hC := Check_ps c.gl (p2 ++ be (20 + n) 2 ++ be id 2 ++ be 0 2 ++ be ttl 1 ++ be proto 1 ++ be 0 2 ++ be frm 4 ++ be dst 4) (by rw [hlen]; decide)
  have hL := checkN_le (p2 ++ be (20 + n) 2 ++ be id 2 ++ be 0 2 ++ be ttl 1 ++ be proto 1 ++ be 0 2 ++ be frm 4 ++ be dst 4)
  (refine XG ?_; ((try (repeat' with_reducible refine And.intro ?_ ?_)); (try any_goals (first | refine zm ?_ | exact CL | fail))))
  ((first | apply pr_app | apply prD_app | apply pr_bsl | apply prD_bsl | apply pr_s2b | apply prD_s2b); (refine XG ?_; ((try (repeat' with_reducible refine And.intro ?_ ?_)); (try any_goals (first | refine zm ?_ | exact CL | fail)))))
  ((first | refine pr_gs (ins := [0]) (put_gs _ p2 (20 + n) 2 (by decide) (by omega)) ?_ ?_ | refine prD_gs (ins := [0]) (put_gs _ p2 (20 + n) 2 (by decide) (by omega)) ?_ ?_ | refine pr_gsv (ins := [0]) (put_gs _ p2 (20 + n) 2 (by decide) (by omega)) ?_ ?_ | refine prD_gsv (ins := [0]) (put_gs _ p2 (20 + n) 2 (by decide) (by omega)) ?_ ?_) <;> (have zf1 := @be_len; have zf2 := @lit; have zf3 := @hl2; refine XG ?_; clear zf1 zf2 zf3; (try first | exact rfl | exact True.intro); ((try (repeat' with_reducible refine And.intro ?_ ?_)); (try any_goals (first | refine zm ?_ | exact CL | fail)))))
  ((first | refine pr_gs (ins := [1]) (put_gs _ (p2 ++ be (20 + n) 2) id 2 (by decide) (by simp [be_len, hl2])) ?_ ?_ | refine prD_gs (ins := [1]) (put_gs _ (p2 ++ be (20 + n) 2) id 2 (by decide) (by simp [be_len, hl2])) ?_ ?_ | refine pr_gsv (ins := [1]) (put_gs _ (p2 ++ be (20 + n) 2) id 2 (by decide) (by simp [be_len, hl2])) ?_ ?_ | refine prD_gsv (ins := [1]) (put_gs _ (p2 ++ be (20 + n) 2) id 2 (by decide) (by simp [be_len, hl2])) ?_ ?_) <;> (have zf1 := @be_len; have zf2 := @hl2; refine XG ?_; clear zf1 zf2; (try first | exact rfl | exact True.intro); ((try (repeat' with_reducible refine And.intro ?_ ?_)); (try any_goals (first | refine zm ?_ | exact CL | fail)))))
  ((first | refine pr_gs (ins := [2]) (put_gs _ (p2 ++ be (20 + n) 2 ++ be id 2) 0 2 (by decide) (by simp [be_len, hl2])) ?_ ?_ | refine prD_gs (ins := [2]) (put_gs _ (p2 ++ be (20 + n) 2 ++ be id 2) 0 2 (by decide) (by simp [be_len, hl2])) ?_ ?_ | refine pr_gsv (ins := [2]) (put_gs _ (p2 ++ be (20 + n) 2 ++ be id 2) 0 2 (by decide) (by simp [be_len, hl2])) ?_ ?_ | refine prD_gsv (ins := [2]) (put_gs _ (p2 ++ be (20 + n) 2 ++ be id 2) 0 2 (by decide) (by simp [be_len, hl2])) ?_ ?_) <;> (have zf1 := @be_len; have zf2 := @hl2; refine XG ?_; clear zf1 zf2; (try first | exact rfl | exact True.intro); ((try (repeat' with_reducible refine And.intro ?_ ?_)); (try any_goals (first | refine zm ?_ | exact CL | fail)))))
  ((first | apply pr_app | apply prD_app | apply pr_bsl | apply prD_bsl | apply pr_s2b | apply prD_s2b); (have zf1 := @be_len; have zf2 := @hl2; refine XG ?_; clear zf1 zf2; ((try (repeat' with_reducible refine And.intro ?_ ?_)); (try any_goals (first | refine zm ?_ | exact CL | fail)))))
  ((first | apply pr_app | apply prD_app | apply pr_bsl | apply prD_bsl | apply pr_s2b | apply prD_s2b); (have zf1 := @be_len; have zf2 := @u8_be; have zf3 := @hl2; have zf4 := @t8; refine XG ?_; clear zf1 zf2 zf3 zf4; ((try (repeat' with_reducible refine And.intro ?_ ?_)); (try any_goals (first | refine zm ?_ | exact CL | fail)))))
  ((first | refine pr_gs (ins := [5]) (put_gs _ (p2 ++ be (20 + n) 2 ++ be id 2 ++ be 0 2 ++ be ttl 1 ++ be proto 1) 0 2 (by decide) (by simp [be_len, hl2])) ?_ ?_ | refine prD_gs (ins := [5]) (put_gs _ (p2 ++ be (20 + n) 2 ++ be id 2 ++ be 0 2 ++ be ttl 1 ++ be proto 1) 0 2 (by decide) (by simp [be_len, hl2])) ?_ ?_ | refine pr_gsv (ins := [5]) (put_gs _ (p2 ++ be (20 + n) 2 ++ be id 2 ++ be 0 2 ++ be ttl 1 ++ be proto 1) 0 2 (by decide) (by simp [be_len, hl2])) ?_ ?_ | refine prD_gsv (ins := [5]) (put_gs _ (p2 ++ be (20 + n) 2 ++ be id 2 ++ be 0 2 ++ be ttl 1 ++ be proto 1) 0 2 (by decide) (by simp [be_len, hl2])) ?_ ?_) <;> (have zf1 := @be_len; have zf2 := @hl2; refine XG ?_; clear zf1 zf2; (try first | exact rfl | exact True.intro); ((try (repeat' with_reducible refine And.intro ?_ ?_)); (try any_goals (first | refine zm ?_ | exact CL | fail)))))
  ((first | refine pr_gs (ins := [6]) (put_gs _ (p2 ++ be (20 + n) 2 ++ be id 2 ++ be 0 2 ++ be ttl 1 ++ be proto 1 ++ be 0 2) frm 4 (by decide) (by simp [be_len, hl2])) ?_ ?_ | refine prD_gs (ins := [6]) (put_gs _ (p2 ++ be (20 + n) 2 ++ be id 2 ++ be 0 2 ++ be ttl 1 ++ be proto 1 ++ be 0 2) frm 4 (by decide) (by simp [be_len, hl2])) ?_ ?_ | refine pr_gsv (ins := [6]) (put_gs _ (p2 ++ be (20 + n) 2 ++ be id 2 ++ be 0 2 ++ be ttl 1 ++ be proto 1 ++ be 0 2) frm 4 (by decide) (by simp [be_len, hl2])) ?_ ?_ | refine prD_gsv (ins := [6]) (put_gs _ (p2 ++ be (20 + n) 2 ++ be id 2 ++ be 0 2 ++ be ttl 1 ++ be proto 1 ++ be 0 2) frm 4 (by decide) (by simp [be_len, hl2])) ?_ ?_) <;> (have zf1 := @be_len; have zf2 := @hl2; refine XG ?_; clear zf1 zf2; (try first | exact rfl | exact True.intro); ((try (repeat' with_reducible refine And.intro ?_ ?_)); (try any_goals (first | refine zm ?_ | exact CL | fail)))))
  ((first | refine pr_gs (ins := [7]) (put_gs _ (p2 ++ be (20 + n) 2 ++ be id 2 ++ be 0 2 ++ be ttl 1 ++ be proto 1 ++ be 0 2 ++ be frm 4) dst 4 (by decide) (by simp [be_len, hl2])) ?_ ?_ | refine prD_gs (ins := [7]) (put_gs _ (p2 ++ be (20 + n) 2 ++ be id 2 ++ be 0 2 ++ be ttl 1 ++ be proto 1 ++ be 0 2 ++ be frm 4) dst 4 (by decide) (by simp [be_len, hl2])) ?_ ?_ | refine pr_gsv (ins := [7]) (put_gs _ (p2 ++ be (20 + n) 2 ++ be id 2 ++ be 0 2 ++ be ttl 1 ++ be proto 1 ++ be 0 2 ++ be frm 4) dst 4 (by decide) (by simp [be_len, hl2])) ?_ ?_ | refine prD_gsv (ins := [7]) (put_gs _ (p2 ++ be (20 + n) 2 ++ be id 2 ++ be 0 2 ++ be ttl 1 ++ be proto 1 ++ be 0 2 ++ be frm 4) dst 4 (by decide) (by simp [be_len, hl2])) ?_ ?_) <;> (have zf1 := @be_len; have zf2 := @hl2; refine XG ?_; clear zf1 zf2; (try first | exact rfl | exact True.intro); ((try (repeat' with_reducible refine And.intro ?_ ?_)); (try any_goals (first | refine zm ?_ | exact CL | fail)))))
  generalize hrow : p2 ++ be (20 + n) 2 ++ be id 2 ++ be 0 2 ++ be ttl 1 ++ be proto 1 ++ be 0 2 ++ be frm 4 ++ be dst 4 = row at *
  have t20 : row.take 20 = row := List.take_of_length_le (by omega)
  ((first | apply pr_psv | apply prD_psv | apply pr_qrunv | apply prD_qrunv) <;> (first | exact hC | (have zf1 := @t20; have zf2 := @hlen; refine XG ?_; clear zf1 zf2; first | exact rfl | exact True.intro | ((try (repeat' with_reducible refine And.intro ?_ ?_)); (try any_goals (first | refine zm ?_ | exact CL | fail))))))
  (have zf1 := @t20; have zf2 := @hlen; have zf3 := @byte_0; refine XG ?_; clear zf1 zf2 zf3; ((try (repeat' with_reducible refine And.intro ?_ ?_)); (try any_goals (first | refine zm ?_ | exact CL | fail))))
  rw [hset]
  refine ⟨[(0, 8)], ?_⟩
  (refine XG ?_; ((try (repeat' with_reducible refine And.intro ?_ ?_)); (try any_goals (first | refine zm ?_ | exact CL | fail))))
  unfold headB
  rw [hck]
end Go.Proofs.Ytblimjilinkmbaa
