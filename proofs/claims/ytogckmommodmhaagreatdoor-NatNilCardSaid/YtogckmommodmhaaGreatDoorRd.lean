/- Messages. No conditions but the ones that stand in each. -/
import Derived.Test.YtogckmommodmhaaGreatDoorRc
namespace Go.Proofs.YtogckmommodmhaaGreatDoor
set_option linter.all false
set_option linter.unusedSimpArgs false
open Go.RowKit

def goodE (t s a b : Int) : Bool := decide (0 ≤ t) && decide (t ≤ 1099511627776) && decide (0 ≤ s) && decide (s < 8) && decide (0 ≤ a) && decide (a < 3) && decide (0 ≤ b) && decide (b < 6)
def errE (t s a b : Int) : Int := if goodE t s a b = true then 0 else 2
theorem recGood_ps (gl : Nat → AV) (t s a b : Int) (f : Bool) : PS Tryz.prog gl 85 [.agg [.int .i64 t, .int .i64 s, .int .i64 a, .int .i64 b, .bool f]] (.int .i64 (errE t s a b)) := by
  refine ft_recGood.ps (of_decide_eq_true rfl) (by simp [nmOk]) fun c hN hg => ?_
  unfold T_recGood
  (refine XG ?_; ((try (repeat' with_reducible refine And.intro ?_ ?_)); (try any_goals (first | refine zm ?_ | exact CL | fail))))
  (repeat' (first | ((refine xw_ifp (fun hh => ?_) (fun hh => ?_) <;> try exact hh.elim) <;> (refine XG ?_; ((try (repeat' with_reducible refine And.intro ?_ ?_)); (try any_goals (first | refine zm ?_ | exact CL | fail))))) ))
  · unfold errE goodE; rw [if_neg]; simp; omega
  · unfold errE goodE; rw [if_pos]; simp; omega
theorem GoodEvent_ps (gl : Nat → AV) (t s a b : Int) (f : Bool) : PS Tryz.prog gl 174 [.agg [.int .i64 t, .int .i64 s, .int .i64 a, .int .i64 b, .bool f]] (.int .i64 (errE t s a b)) := by
  refine ft_GoodEvent.ps (of_decide_eq_true rfl) (by simp [nmOk]) fun c hN hg => ?_
  unfold T_GoodEvent
  (refine XG ?_; ((try (repeat' with_reducible refine And.intro ?_ ?_)); (try any_goals (first | refine zm ?_ | exact CL | fail))))
  (repeat' (first | ((refine xw_ifp (fun hh => ?_) (fun hh => ?_) <;> try exact hh.elim) <;> (refine XG ?_; ((try (repeat' with_reducible refine And.intro ?_ ?_)); (try any_goals (first | refine zm ?_ | exact CL | fail))))) ))
  · unfold errE goodE; rw [if_neg]; simp; omega
  · unfold errE goodE; rw [if_pos]; simp; omega

/-- A message: its header, its set. -/
def msgB (seq time set : Int) (bs : List UInt8) : List UInt8 := be 10 2 ++ be (20 + bs.length) 2 ++ be (time.tmod 4294967296) 4 ++ be seq 4 ++ be 1 4 ++ be set 2 ++ be (4 + bs.length) 2 ++ bs
def msgT (seq time set : Int) (bs : List UInt8) : AV := if 0 ≤ seq ∧ seq < 4294967296 then .tup [.str (msgB seq time set bs), .int .i64 0] else .tup [.str [], .int .i64 2]
theorem message_ps (gl : Nat → AV) (seq time set : Int) (bs : List UInt8) (hl : bs.length ≤ 10000000) : PS Tryz.prog gl 123 [.int .i64 seq, .int .i64 time, .int .i64 set, .isl bs.length (byts bs)] (msgT seq time set bs) := by
  refine ft_message.ps (of_decide_eq_true rfl) (by unfold msgT; split <;> simp [nmOk, nmAll]) fun c hN hg => ?_
  unfold T_message
  (refine XG ?_; ((try (repeat' with_reducible refine And.intro ?_ ?_)); (try any_goals (first | refine zm ?_ | exact CL | fail))))
  (refine xw_ifp (fun h1 => ?_) (fun h1 => ?_) <;> try exact h1.elim)
  · (refine XG ?_; ((try (repeat' with_reducible refine And.intro ?_ ?_)); (try any_goals (first | refine zm ?_ | exact CL | fail))))
    unfold msgT; rw [if_neg (by omega)]
  · (refine XG ?_; ((try (repeat' with_reducible refine And.intro ?_ ?_)); (try any_goals (first | refine zm ?_ | exact CL | fail))))
    ((first | refine pr_gs (ins := []) (rput_nil_gs _ 10 2 (by decide) (by decide)) ?_ ?_ | refine prD_gs (ins := []) (rput_nil_gs _ 10 2 (by decide) (by decide)) ?_ ?_ | refine pr_gsv (ins := []) (rput_nil_gs _ 10 2 (by decide) (by decide)) ?_ ?_ | refine prD_gsv (ins := []) (rput_nil_gs _ 10 2 (by decide) (by decide)) ?_ ?_) <;> (have zf1 := @be_len; refine XG ?_; clear zf1; (try first | exact rfl | exact True.intro); ((try (repeat' with_reducible refine And.intro ?_ ?_)); (try any_goals (first | refine zm ?_ | exact CL | fail)))))
    ((first | refine pr_gs (ins := [0]) (rput_gs _ (be 10 2) (20 + bs.length) 2 (by decide) (by simp [be_len])) ?_ ?_ | refine prD_gs (ins := [0]) (rput_gs _ (be 10 2) (20 + bs.length) 2 (by decide) (by simp [be_len])) ?_ ?_ | refine pr_gsv (ins := [0]) (rput_gs _ (be 10 2) (20 + bs.length) 2 (by decide) (by simp [be_len])) ?_ ?_ | refine prD_gsv (ins := [0]) (rput_gs _ (be 10 2) (20 + bs.length) 2 (by decide) (by simp [be_len])) ?_ ?_) <;> (have zf1 := @be_len; refine XG ?_; clear zf1; (try first | exact rfl | exact True.intro); ((try (repeat' with_reducible refine And.intro ?_ ?_)); (try any_goals (first | refine zm ?_ | exact CL | fail)))))
    ((first | refine pr_gs (ins := [1]) (rput_gs _ (be 10 2 ++ be (20 + bs.length) 2) (time.tmod 4294967296) 4 (by decide) (by simp [be_len])) ?_ ?_ | refine prD_gs (ins := [1]) (rput_gs _ (be 10 2 ++ be (20 + bs.length) 2) (time.tmod 4294967296) 4 (by decide) (by simp [be_len])) ?_ ?_ | refine pr_gsv (ins := [1]) (rput_gs _ (be 10 2 ++ be (20 + bs.length) 2) (time.tmod 4294967296) 4 (by decide) (by simp [be_len])) ?_ ?_ | refine prD_gsv (ins := [1]) (rput_gs _ (be 10 2 ++ be (20 + bs.length) 2) (time.tmod 4294967296) 4 (by decide) (by simp [be_len])) ?_ ?_) <;> (have zf1 := @be_len; refine XG ?_; clear zf1; (try first | exact rfl | exact True.intro); ((try (repeat' with_reducible refine And.intro ?_ ?_)); (try any_goals (first | refine zm ?_ | exact CL | fail)))))
    ((first | refine pr_gs (ins := [2]) (rput_gs _ (be 10 2 ++ be (20 + bs.length) 2 ++ be (time.tmod 4294967296) 4) seq 4 (by decide) (by simp [be_len])) ?_ ?_ | refine prD_gs (ins := [2]) (rput_gs _ (be 10 2 ++ be (20 + bs.length) 2 ++ be (time.tmod 4294967296) 4) seq 4 (by decide) (by simp [be_len])) ?_ ?_ | refine pr_gsv (ins := [2]) (rput_gs _ (be 10 2 ++ be (20 + bs.length) 2 ++ be (time.tmod 4294967296) 4) seq 4 (by decide) (by simp [be_len])) ?_ ?_ | refine prD_gsv (ins := [2]) (rput_gs _ (be 10 2 ++ be (20 + bs.length) 2 ++ be (time.tmod 4294967296) 4) seq 4 (by decide) (by simp [be_len])) ?_ ?_) <;> (have zf1 := @be_len; refine XG ?_; clear zf1; (try first | exact rfl | exact True.intro); ((try (repeat' with_reducible refine And.intro ?_ ?_)); (try any_goals (first | refine zm ?_ | exact CL | fail)))))
    ((first | refine pr_gs (ins := [3]) (rput_gs _ (be 10 2 ++ be (20 + bs.length) 2 ++ be (time.tmod 4294967296) 4 ++ be seq 4) 1 4 (by decide) (by simp [be_len])) ?_ ?_ | refine prD_gs (ins := [3]) (rput_gs _ (be 10 2 ++ be (20 + bs.length) 2 ++ be (time.tmod 4294967296) 4 ++ be seq 4) 1 4 (by decide) (by simp [be_len])) ?_ ?_ | refine pr_gsv (ins := [3]) (rput_gs _ (be 10 2 ++ be (20 + bs.length) 2 ++ be (time.tmod 4294967296) 4 ++ be seq 4) 1 4 (by decide) (by simp [be_len])) ?_ ?_ | refine prD_gsv (ins := [3]) (rput_gs _ (be 10 2 ++ be (20 + bs.length) 2 ++ be (time.tmod 4294967296) 4 ++ be seq 4) 1 4 (by decide) (by simp [be_len])) ?_ ?_) <;> (have zf1 := @be_len; refine XG ?_; clear zf1; (try first | exact rfl | exact True.intro); ((try (repeat' with_reducible refine And.intro ?_ ?_)); (try any_goals (first | refine zm ?_ | exact CL | fail)))))
    ((first | refine pr_gs (ins := [4]) (rput_gs _ (be 10 2 ++ be (20 + bs.length) 2 ++ be (time.tmod 4294967296) 4 ++ be seq 4 ++ be 1 4) set 2 (by decide) (by simp [be_len])) ?_ ?_ | refine prD_gs (ins := [4]) (rput_gs _ (be 10 2 ++ be (20 + bs.length) 2 ++ be (time.tmod 4294967296) 4 ++ be seq 4 ++ be 1 4) set 2 (by decide) (by simp [be_len])) ?_ ?_ | refine pr_gsv (ins := [4]) (rput_gs _ (be 10 2 ++ be (20 + bs.length) 2 ++ be (time.tmod 4294967296) 4 ++ be seq 4 ++ be 1 4) set 2 (by decide) (by simp [be_len])) ?_ ?_ | refine prD_gsv (ins := [4]) (rput_gs _ (be 10 2 ++ be (20 + bs.length) 2 ++ be (time.tmod 4294967296) 4 ++ be seq 4 ++ be 1 4) set 2 (by decide) (by simp [be_len])) ?_ ?_) <;> (have zf1 := @be_len; refine XG ?_; clear zf1; (try first | exact rfl | exact True.intro); ((try (repeat' with_reducible refine And.intro ?_ ?_)); (try any_goals (first | refine zm ?_ | exact CL | fail)))))
    ((first | refine pr_gs (ins := [5]) (rput_gs _ (be 10 2 ++ be (20 + bs.length) 2 ++ be (time.tmod 4294967296) 4 ++ be seq 4 ++ be 1 4 ++ be set 2) (4 + bs.length) 2 (by decide) (by simp [be_len])) ?_ ?_ | refine prD_gs (ins := [5]) (rput_gs _ (be 10 2 ++ be (20 + bs.length) 2 ++ be (time.tmod 4294967296) 4 ++ be seq 4 ++ be 1 4 ++ be set 2) (4 + bs.length) 2 (by decide) (by simp [be_len])) ?_ ?_ | refine pr_gsv (ins := [5]) (rput_gs _ (be 10 2 ++ be (20 + bs.length) 2 ++ be (time.tmod 4294967296) 4 ++ be seq 4 ++ be 1 4 ++ be set 2) (4 + bs.length) 2 (by decide) (by simp [be_len])) ?_ ?_ | refine prD_gsv (ins := [5]) (rput_gs _ (be 10 2 ++ be (20 + bs.length) 2 ++ be (time.tmod 4294967296) 4 ++ be seq 4 ++ be 1 4 ++ be set 2) (4 + bs.length) 2 (by decide) (by simp [be_len])) ?_ ?_) <;> (have zf1 := @be_len; refine XG ?_; clear zf1; (try first | exact rfl | exact True.intro); ((try (repeat' with_reducible refine And.intro ?_ ?_)); (try any_goals (first | refine zm ?_ | exact CL | fail)))))
    ((first | apply pr_app | apply prD_app | apply pr_bsl | apply prD_bsl | apply pr_s2b | apply prD_s2b); (have zf1 := @be_len; refine XG ?_; clear zf1; ((try (repeat' with_reducible refine And.intro ?_ ?_)); (try any_goals (first | refine zm ?_ | exact CL | fail)))))
    unfold msgT msgB
    rw [if_pos (by omega), List.take_of_length_le (by simp [be_len])]

def fieldsL : List Int := [323, 8, 8, 4, 225, 4, 361, 2, 362, 2, 230, 1]
def tmpl (k : Nat) : List UInt8 := be 300 2 ++ be 6 2 ++ (fieldsL.take (2 * k)).flatMap fun f => be f 2
theorem tmpl_len : ∀ k, k ≤ 6 → (tmpl k).length = 4 + 4 * k := by decide +kernel
theorem tmpl_succ : ∀ k, k < 6 → tmpl k ++ be (fieldsL.getD (2 * k) 0) 2 ++ be (fieldsL.getD (2 * k + 1) 0) 2 = tmpl (k + 1) := by decide +kernel
theorem Template_ps (gl : Nat → AV) (h0 : gl 0 = .xp (ints fieldsL) 0) (seq : Int) : PS Tryz.prog gl 83 [.int .i64 seq] (msgT seq 0 2 (tmpl 6)) := by
  refine ft_Template.ps (of_decide_eq_true rfl) (by unfold msgT; split <;> simp [nmOk, nmAll]) fun c hN hg => ?_
  unfold T_Template
  have hg0 : c.gl 0 = .xp (ints fieldsL) 0 := by rw [hg]; exact h0
  have hf : fieldsL.length = 12 := rfl
  (refine XG ?_; ((try (repeat' with_reducible refine And.intro ?_ ?_)); (try any_goals (first | refine zm ?_ | exact CL | fail))))
  ((first | refine pr_gs (ins := []) (rput_nil_gs _ 300 2 (by decide) (by decide)) ?_ ?_ | refine prD_gs (ins := []) (rput_nil_gs _ 300 2 (by decide) (by decide)) ?_ ?_ | refine pr_gsv (ins := []) (rput_nil_gs _ 300 2 (by decide) (by decide)) ?_ ?_ | refine prD_gsv (ins := []) (rput_nil_gs _ 300 2 (by decide) (by decide)) ?_ ?_) <;> (have zf1 := @be_len; refine XG ?_; clear zf1; (try first | exact rfl | exact True.intro); ((try (repeat' with_reducible refine And.intro ?_ ?_)); (try any_goals (first | refine zm ?_ | exact CL | fail)))))
  ((first | refine pr_gs (ins := [0]) (rput_gs _ (be 300 2) 6 2 (by decide) (by simp [be_len])) ?_ ?_ | refine prD_gs (ins := [0]) (rput_gs _ (be 300 2) 6 2 (by decide) (by simp [be_len])) ?_ ?_ | refine pr_gsv (ins := [0]) (rput_gs _ (be 300 2) 6 2 (by decide) (by simp [be_len])) ?_ ?_ | refine prD_gsv (ins := [0]) (rput_gs _ (be 300 2) 6 2 (by decide) (by simp [be_len])) ?_ ?_) <;> (have zf1 := @be_len; have zf2 := @hg0; have zf3 := @hf; refine XG ?_; clear zf1 zf2 zf3; (try first | exact rfl | exact True.intro); ((try (repeat' with_reducible refine And.intro ?_ ?_)); (try any_goals (first | refine zm ?_ | exact CL | fail)))))
  refine loop_rule (fun k : Nat => k ≤ 6) (fun k => ⟨[(0, .int .i64 seq), (4, .sl 1 0 0 (4 + 4 * k) (4 + 4 * k)), (10, .agg (ints fieldsL)), (11, .int .i64 k)], [(0, .cells (byts (tmpl k)))], 1⟩) (fun k => 6 - k) ft_Template.mixed hN
    ⟨0, by omega, [(0, 1)], by (refine XG ?_; ((try (repeat' with_reducible refine And.intro ?_ ?_)); (try any_goals (first | refine zm ?_ | exact CL | fail)))); rfl⟩ fun k hk => ?_
  (refine XG ?_; ((try (repeat' with_reducible refine And.intro ?_ ?_)); (try any_goals (first | refine zm ?_ | exact CL | fail))))
  (refine xw_ifp (fun h1 => ?_) (fun h1 => ?_) <;> try exact h1.elim)
  · have hk6 : k < 6 := by omega
    have hl := tmpl_len k hk
    have hs := tmpl_succ k hk6
    have hl2 : (tmpl k).length ≤ 100000000 := by omega
    have e3 : k * 2 = 2 * k := by omega
    (have zf1 := @hf; refine XG ?_; clear zf1; ((try (repeat' with_reducible refine And.intro ?_ ?_)); (try any_goals (first | refine zm ?_ | exact CL | fail))))
    ((first | refine pr_gs (ins := [0]) (rput_gs _ (tmpl k) (fieldsL.getD (2 * k) 0) 2 (by decide) hl2) ?_ ?_ | refine prD_gs (ins := [0]) (rput_gs _ (tmpl k) (fieldsL.getD (2 * k) 0) 2 (by decide) hl2) ?_ ?_ | refine pr_gsv (ins := [0]) (rput_gs _ (tmpl k) (fieldsL.getD (2 * k) 0) 2 (by decide) hl2) ?_ ?_ | refine prD_gsv (ins := [0]) (rput_gs _ (tmpl k) (fieldsL.getD (2 * k) 0) 2 (by decide) hl2) ?_ ?_) <;> (have zf1 := @be_len; have zf2 := @hf; have zf3 := @hl; have zf4 := @e3; refine XG ?_; clear zf1 zf2 zf3 zf4; (try first | exact rfl | exact True.intro); ((try (repeat' with_reducible refine And.intro ?_ ?_)); (try any_goals (first | refine zm ?_ | exact CL | fail)))))
    ((first | refine pr_gs (ins := [2]) (rput_gs _ (tmpl k ++ be (fieldsL.getD (2 * k) 0) 2) (fieldsL.getD (2 * k + 1) 0) 2 (by decide) (by simp [be_len]; omega)) ?_ ?_ | refine prD_gs (ins := [2]) (rput_gs _ (tmpl k ++ be (fieldsL.getD (2 * k) 0) 2) (fieldsL.getD (2 * k + 1) 0) 2 (by decide) (by simp [be_len]; omega)) ?_ ?_ | refine pr_gsv (ins := [2]) (rput_gs _ (tmpl k ++ be (fieldsL.getD (2 * k) 0) 2) (fieldsL.getD (2 * k + 1) 0) 2 (by decide) (by simp [be_len]; omega)) ?_ ?_ | refine prD_gsv (ins := [2]) (rput_gs _ (tmpl k ++ be (fieldsL.getD (2 * k) 0) 2) (fieldsL.getD (2 * k + 1) 0) 2 (by decide) (by simp [be_len]; omega)) ?_ ?_) <;> (have zf1 := @be_len; have zf2 := @hf; have zf3 := @hl; have zf4 := @e3; refine XG ?_; clear zf1 zf2 zf3 zf4; (try first | exact rfl | exact True.intro); ((try (repeat' with_reducible refine And.intro ?_ ?_)); (try any_goals (first | refine zm ?_ | exact CL | fail)))))
    refine ⟨k + 1, by omega, ⟨[(0, 3)], ?_⟩, by omega⟩
    (have zf1 := @hs; refine XG ?_; clear zf1; ((try (repeat' with_reducible refine And.intro ?_ ?_)); (try any_goals (first | refine zm ?_ | exact CL | fail))))
  · have : k = 6 := by omega
    subst this
    have h28 : (tmpl 6).length = 28 := tmpl_len 6 (by omega)
    have hm := message_ps c.gl seq 0 2 (tmpl 6) (by omega)
    rw [h28] at hm
    by_cases hq : 0 ≤ seq ∧ seq < 4294967296
    · have e : msgT seq 0 2 (tmpl 6) = .tup [.str (msgB seq 0 2 (tmpl 6)), .int .i64 0] := if_pos hq
      rw [e] at hm ⊢
      (refine XG ?_; ((try (repeat' with_reducible refine And.intro ?_ ?_)); (try any_goals (first | refine zm ?_ | exact CL | fail))))
      ((first | apply pr_bor | apply prD_bor) <;> (first | exact hm | (with_reducible exact .tup (by simp [Flat.str, Flat.int])) | (have zf1 := @h28; refine XG ?_; clear zf1; first | exact rfl | exact True.intro | ((try (repeat' with_reducible refine And.intro ?_ ?_)); (try any_goals (first | refine zm ?_ | exact CL | fail))))))
    · have e : msgT seq 0 2 (tmpl 6) = .tup [.str [], .int .i64 2] := if_neg hq
      rw [e] at hm ⊢
      (refine XG ?_; ((try (repeat' with_reducible refine And.intro ?_ ?_)); (try any_goals (first | refine zm ?_ | exact CL | fail))))
      ((first | apply pr_bor | apply prD_bor) <;> (first | exact hm | (with_reducible exact .tup (by simp [Flat.str, Flat.int])) | (have zf1 := @h28; refine XG ?_; clear zf1; first | exact rfl | exact True.intro | ((try (repeat' with_reducible refine And.intro ?_ ?_)); (try any_goals (first | refine zm ?_ | exact CL | fail))))))

theorem msgB_len (seq time set : Int) (bs : List UInt8) : (msgB seq time set bs).length = 20 + bs.length := by simp [msgB, be_len]; omega






















end Go.Proofs.YtogckmommodmhaaGreatDoor
