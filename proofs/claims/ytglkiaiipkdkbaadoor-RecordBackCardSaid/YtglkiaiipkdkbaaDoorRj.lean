/- Numbers read from texts; events read from texts. No conditions but the ones that stand in each. -/
import Derived.Test.YtglkiaiipkdkbaaDoorRi
import Derived.Test.YtglkiaiipkdkbaaDoorRk
import Derived.Lib.Hide
namespace Go.Proofs.YtglkiaiipkdkbaaDoor
set_option linter.all false
set_option linter.unusedSimpArgs false
open Go.RowKit

theorem numberOf_ps (gl : Nat → AV) (l : List UInt8) (hl : l.length ≤ 100000000) : PS Tryd.prog gl 28 [.str l] (.int .i64 (nbI l)) := by
  refine ft_numberOf.ps (of_decide_eq_true rfl) (by simp [nmOk]) fun c hN hg => ?_
  unfold T_numberOf
  (refine XG ?_; ((try (repeat' with_reducible refine And.intro ?_ ?_)); (try any_goals (first | refine zm ?_ | exact CL | fail))))
  ((first | apply pr_app | apply prD_app | apply pr_bsl | apply prD_bsl | apply pr_s2b | apply prD_s2b); (refine XG ?_; ((try (repeat' with_reducible refine And.intro ?_ ?_)); (try any_goals (first | refine zm ?_ | exact CL | fail)))))
  refine loop_rule (fun k : Nat => k ≤ l.length) (fun k => ⟨[(3, .int .i64 (nbI (l.take k))), (7, .sl 1 0 0 l.length l.length), (8, .int .i64 l.length), (9, .int .i64 k)], [(0, .cells (byts l))], 1⟩) (fun k => l.length - k) ft_numberOf.mixed hN
    ⟨0, by omega, [], by (refine XG ?_; ((try (repeat' with_reducible refine And.intro ?_ ?_)); (try any_goals (first | refine zm ?_ | exact CL | fail)))) <;> rfl⟩ fun k hk => ?_
  (refine XG ?_; ((try (repeat' with_reducible refine And.intro ?_ ?_)); (try any_goals (first | refine zm ?_ | exact CL | fail))))
  (refine xw_ifp (fun h1 => ?_) (fun h1 => ?_) <;> try exact h1.elim)
  · have hs := nbI_succ l k (by omega)
    (refine XG ?_; ((try (repeat' with_reducible refine And.intro ?_ ?_)); (try any_goals (first | refine zm ?_ | exact CL | fail))))
    refine ⟨k + 1, by omega, ⟨[], ?_⟩, by omega⟩
    (have zf1 := @hs; refine XG ?_; clear zf1; ((try (repeat' with_reducible refine And.intro ?_ ?_)); (try any_goals (first | refine zm ?_ | exact CL | fail))))
    rw [IntKind.wrap_i64, IntKind.wrap_i64, IntKind.wrap_i64, IntKind.wrap_i64]
    omega
  · have : k = l.length := by omega
    subst this
    (refine XG ?_; ((try (repeat' with_reducible refine And.intro ?_ ?_)); (try any_goals (first | refine zm ?_ | exact CL | fail))))

theorem number_ok (gl : Nat → AV) (l : List UInt8) (bad : Bool) (n : Nat) (hn : n ≤ l.length) (h8 : n ≤ 1000) :
    GS Tryd.prog gl 26 [.ptr 0 0, .int .i64 n] [(0, .cells [.str l, .bool bad])] 1 (.int .i64 (nbI (l.take n))) [(0, .cells [.str (l.drop n), .bool bad])] 1 := by
  refine ft_number.gs (of_decide_eq_true rfl) (by simp [Bk.live]) fun c hgh hg => ?_
  unfold T_number
  (refine XG ?_; ((try (repeat' with_reducible refine And.intro ?_ ?_)); (try any_goals (first | refine zm ?_ | exact CL | fail))))
  (refine xw_ifp (fun h1 => ?_) (fun h1 => ?_) <;> try exact h1.elim)
  · omega
  (refine XG ?_; ((try (repeat' with_reducible refine And.intro ?_ ?_)); (try any_goals (first | refine zm ?_ | exact CL | fail))))
  ((first | apply pr_app | apply prD_app | apply pr_bsl | apply prD_bsl | apply pr_s2b | apply prD_s2b); (refine XG ?_; ((try (repeat' with_reducible refine And.intro ?_ ?_)); (try any_goals (first | refine zm ?_ | exact CL | fail)))))
  refine loop_ruleG (fun k : Nat => k ≤ n) (fun k => ⟨[(0, .ptr 0 0), (1, .int .i64 n), (5, .int .i64 (nbI ((l.take n).take k))), (27, .sl 1 1 0 n n), (28, .int .i64 n), (29, .int .i64 k)], [(0, .cells [.str l, .bool bad]), (1, .cells (byts (l.take n)))], 2⟩) (fun k => n - k) ft_number.mixed 1 hgh
    ⟨0, by omega, [], by (refine XG ?_; ((try (repeat' with_reducible refine And.intro ?_ ?_)); (try any_goals (first | refine zm ?_ | exact CL | fail)))) <;> rfl⟩ fun k hk => ?_
  (refine XG ?_; ((try (repeat' with_reducible refine And.intro ?_ ?_)); (try any_goals (first | refine zm ?_ | exact CL | fail))))
  (refine xw_ifp (fun h2 => ?_) (fun h2 => ?_) <;> try exact h2.elim)
  · have hlen : (l.take n).length = n := by rw [List.length_take]; omega
    have hs := nbI_succ (l.take n) k (by omega)
    have ho := or_low (nbI ((l.take n).take k)) ((l.take n).getD k 0).toNat (by omega) (by have := UInt8.toNat_lt ((l.take n).getD k 0); omega)
    have hb := UInt8.toNat_lt ((l.take n).getD k 0)
    generalize hL : l.take n = L at *
    (have zf1 := @hlen; refine XG ?_; clear zf1; ((try (repeat' with_reducible refine And.intro ?_ ?_)); (try any_goals (first | refine zm ?_ | exact CL | fail))))
    refine ⟨k + 1, by omega, ⟨[], ?_⟩, by omega⟩
    (have zf1 := @hs; have zf2 := @hlen; refine XG ?_; clear zf1 zf2; ((try (repeat' with_reducible refine And.intro ?_ ?_)); (try any_goals (first | refine zm ?_ | exact CL | fail))))
    have m1 : l.take (min k n) = L.take k := by rw [← hL, List.take_take]
    have m2 : l.take (min (k + 1) n) = L.take (k + 1) := by rw [← hL, List.take_take]
    have m3 : (2 : Int) ^ min 8 64 = 256 := by decide
    rw [m1, m2, m3, hs, ho]
  · have : k = n := by omega
    subst this
    (refine XG ?_; ((try (repeat' with_reducible refine And.intro ?_ ?_)); (try any_goals (first | refine zm ?_ | exact CL | fail))))
    refine ⟨[], ?_⟩
    (refine XG ?_; ((try (repeat' with_reducible refine And.intro ?_ ?_)); (try any_goals (first | refine zm ?_ | exact CL | fail))))
theorem number_bad (gl : Nat → AV) (l : List UInt8) (bad : Bool) (n : Nat) (hn : l.length < n) (h8 : n ≤ 1000) :
    GS Tryd.prog gl 26 [.ptr 0 0, .int .i64 n] [(0, .cells [.str l, .bool bad])] 1 (.int .i64 0) [(0, .cells [.str [], .bool true])] 1 := by
  refine ft_number.gs (of_decide_eq_true rfl) (by simp [Bk.live]) fun c hgh hg => ?_
  unfold T_number
  (refine XG ?_; ((try (repeat' with_reducible refine And.intro ?_ ?_)); (try any_goals (first | refine zm ?_ | exact CL | fail))))
  (refine xw_ifp (fun h1 => ?_) (fun h1 => ?_) <;> try exact h1.elim)
  · (refine XG ?_; ((try (repeat' with_reducible refine And.intro ?_ ?_)); (try any_goals (first | refine zm ?_ | exact CL | fail))))
    refine ⟨[], ?_⟩
    (refine XG ?_; ((try (repeat' with_reducible refine And.intro ?_ ?_)); (try any_goals (first | refine zm ?_ | exact CL | fail))))
  · omega

theorem td8 (x : Int) (h : -70000 ≤ x ∧ x ≤ 70000) : -70000 ≤ x.tdiv 8 ∧ x.tdiv 8 ≤ 70000 := by
  by_cases h0 : 0 ≤ x
  · rw [Int.tdiv_eq_ediv_of_nonneg h0]; omega
  · have e : x.tdiv 8 = -((-x).tdiv 8) := by rw [Int.neg_tdiv, Int.neg_neg]
    rw [e, Int.tdiv_eq_ediv_of_nonneg (by omega)]; omega
theorem errE_ok {t s a b : Int} (h : goodE t s a b = true) : errE t s a b = 0 := if_pos h
theorem ok_errE {t s a b : Int} (h : errE t s a b = 0) : goodE t s a b = true := by
  unfold errE at h
  split at h
  · assumption
  · cases h
/-- What reading the event ahead yields. -/
def evZ : List AV := [.int .i64 0, .int .i64 0, .int .i64 0, .int .i64 0, .bool false]
def evTup : Option Ev → AV
  | some e => .tup [.agg e.enc, .int .i64 0]
  | none => .tup [.agg evZ, .int .i64 2]
def evTupB : Option Ev → AV
  | some e => .tup [.agg e.enc, .bool true]
  | none => .tup [.agg evZ, .bool false]
theorem number_v (gl : Nat → AV) (l : List UInt8) (bad : Bool) (n : Nat) (v : Int) (hv : nbI (l.take n) = v) (hn : n ≤ l.length) (h8 : n ≤ 1000) :
    GS Tryd.prog gl 26 [.ptr 0 0, .int .i64 n] [(0, .cells [.str l, .bool bad])] 1 (.int .i64 v) [(0, .cells [.str (l.drop n), .bool bad])] 1 := hv ▸ number_ok gl l bad n hn h8
def evOk (Z1 Z2 T I O F E K : Int) : Prop := 1 ≤ K ∧ K ≤ 2 ∧ 0 ≤ F - 1024 ∧ (F - 1024).tmod 8 = 0 ∧ E = F + 8 - 1 ∧ goodE T (I - Z2 - 1) (O - Z1 - 1) ((F - 1024).tdiv 8) = true
def evY (Z1 Z2 T I O F K : Int) : AV := .tup [.agg [.int .i64 T, .int .i64 (I - Z2 - 1), .int .i64 (O - Z1 - 1), .int .i64 ((F - 1024).tdiv 8), .bool (K == 2)], .int .i64 0]
def evN : AV := .tup [.agg evZ, .int .i64 2]
open Classical in
noncomputable def evOf (Z1 Z2 T I O F E K : Int) : AV := if evOk Z1 Z2 T I O F E K then evY Z1 Z2 T I O F K else evN
theorem ev_eq (l : List UInt8) : evTup (rdEv l) = evOf 3405803776 167772160 (nbI (l.take 8)) (nbI ((l.drop 8).take 4)) (nbI ((l.drop 12).take 4)) (nbI ((l.drop 16).take 2)) (nbI ((l.drop 18).take 2)) (nbI ((l.drop 20).take 1)) := by
  have e1 : ∀ I : Int, I - 167772161 = I - 167772160 - 1 := fun I => by omega
  have e2 : ∀ O : Int, O - 3405803777 = O - 3405803776 - 1 := fun O => by omega
  have e3 : ∀ F : Int, F + 7 = F + 8 - 1 := fun F => by omega
  unfold rdEv evOf
  have hc : rdOk l = evOk 3405803776 167772160 (nbI (l.take 8)) (nbI ((l.drop 8).take 4)) (nbI ((l.drop 12).take 4)) (nbI ((l.drop 16).take 2)) (nbI ((l.drop 18).take 2)) (nbI ((l.drop 20).take 1)) := by
    unfold rdOk evOk rdEv0
    simp only [e1, e2, e3]
  by_cases h : rdOk l
  · rw [if_pos h, if_pos (hc ▸ h)]
    unfold rdEv0 evTup Ev.enc evY
    simp only [e1, e2]
  · rw [if_neg h, if_neg (hc ▸ h)]
    rfl
theorem ofN_le (Z : Int) (k : Nat) (h : Z = k) : 0 ≤ Z ∧ Z = k := ⟨by omega, h⟩
set_option maxRecDepth 20000 in
set_option maxHeartbeats 1000000 in
theorem event_gs0 (gl : Nat → AV) (l : List UInt8) (bad : Bool) (hl : 21 ≤ l.length) (T I O F E K : Int) (h1 : nbI (l.take 8) = T) (h2 : nbI ((l.drop 8).take 4) = I) (h3 : nbI ((l.drop 12).take 4) = O) (h4 : nbI ((l.drop 16).take 2) = F) (h5 : nbI ((l.drop 18).take 2) = E) (h6 : nbI ((l.drop 20).take 1) = K)
    (l2 : 0 ≤ I ∧ I < 4294967296) (l3 : 0 ≤ O ∧ O < 4294967296) (l4 : 0 ≤ F ∧ F < 65536) (l5 : 0 ≤ E ∧ E < 65536) (l6 : 0 ≤ K ∧ K < 256) :
    GS Tryd.prog gl 27 [.ptr 0 0] [(0, .cells [.str l, .bool bad])] 1 (evOf 3405803776 167772160 T I O F E K) [(0, .cells [.str (l.drop 21), .bool bad])] 1 := by
  refine ft_event.gs (of_decide_eq_true rfl) (by simp [Bk.live]) fun c hgh hg => ?_
  unfold T_event
  have a1 := number_v c.gl l bad 8 _ h1 (by omega) (by decide)
  have a2 := number_v c.gl (l.drop 8) bad 4 _ h2 (by simp only [List.length_drop]; omega) (by decide)
  have a3 := number_v c.gl (l.drop 12) bad 4 _ h3 (by simp only [List.length_drop]; omega) (by decide)
  have a4 := number_v c.gl (l.drop 16) bad 2 _ h4 (by simp only [List.length_drop]; omega) (by decide)
  have a5 := number_v c.gl (l.drop 18) bad 2 _ h5 (by simp only [List.length_drop]; omega) (by decide)
  have a6 := number_v c.gl (l.drop 20) bad 1 _ h6 (by simp only [List.length_drop]; omega) (by decide)
  obtain ⟨Z1, hZ1, hz1⟩ : ∃ Z : Int, (3405803776 : Int) = Z ∧ 0 ≤ Z ∧ Z ≤ 4294967296 := ⟨_, rfl, by decide, by decide⟩
  obtain ⟨Z2, hZ2, hz2⟩ : ∃ Z : Int, (167772160 : Int) = Z ∧ 0 ≤ Z ∧ Z ≤ 4294967296 := ⟨_, rfl, by decide, by decide⟩
  rw [hZ1, hZ2]
  clear hZ1 hZ2 h1 h2 h3 h4 h5 h6
  (refine XG ?_; ((try (repeat' with_reducible refine And.intro ?_ ?_)); (try any_goals (first | refine zm ?_ | exact CL | fail))))
  ((first | refine pr_gs (ins := [0]) a1 ?_ ?_ | refine prD_gs (ins := [0]) a1 ?_ ?_ | refine pr_gsv (ins := [0]) a1 ?_ ?_ | refine prD_gsv (ins := [0]) a1 ?_ ?_) <;> (refine XG ?_; (try first | exact rfl | exact True.intro); ((try (repeat' with_reducible refine And.intro ?_ ?_)); (try any_goals (first | refine zm ?_ | exact CL | fail)))))
  ((first | refine pr_gs (ins := [0]) a2 ?_ ?_ | refine prD_gs (ins := [0]) a2 ?_ ?_ | refine pr_gsv (ins := [0]) a2 ?_ ?_ | refine prD_gsv (ins := [0]) a2 ?_ ?_) <;> (refine XG ?_; (try first | exact rfl | exact True.intro); ((try (repeat' with_reducible refine And.intro ?_ ?_)); (try any_goals (first | refine zm ?_ | exact CL | fail)))))
  ((first | refine pr_gs (ins := [0]) a3 ?_ ?_ | refine prD_gs (ins := [0]) a3 ?_ ?_ | refine pr_gsv (ins := [0]) a3 ?_ ?_ | refine prD_gsv (ins := [0]) a3 ?_ ?_) <;> (have zf1 := @List.drop_drop.{0}; refine XG ?_; clear zf1; (try first | exact rfl | exact True.intro); ((try (repeat' with_reducible refine And.intro ?_ ?_)); (try any_goals (first | refine zm ?_ | exact CL | fail)))))
  ((first | refine pr_gs (ins := [0]) a4 ?_ ?_ | refine prD_gs (ins := [0]) a4 ?_ ?_ | refine pr_gsv (ins := [0]) a4 ?_ ?_ | refine prD_gsv (ins := [0]) a4 ?_ ?_) <;> (have zf1 := @List.drop_drop.{0}; refine XG ?_; clear zf1; (try first | exact rfl | exact True.intro); ((try (repeat' with_reducible refine And.intro ?_ ?_)); (try any_goals (first | refine zm ?_ | exact CL | fail)))))
  ((first | refine pr_gs (ins := [0]) a5 ?_ ?_ | refine prD_gs (ins := [0]) a5 ?_ ?_ | refine pr_gsv (ins := [0]) a5 ?_ ?_ | refine prD_gsv (ins := [0]) a5 ?_ ?_) <;> (have zf1 := @List.drop_drop.{0}; refine XG ?_; clear zf1; (try first | exact rfl | exact True.intro); ((try (repeat' with_reducible refine And.intro ?_ ?_)); (try any_goals (first | refine zm ?_ | exact CL | fail)))))
  ((first | refine pr_gs (ins := [0]) a6 ?_ ?_ | refine prD_gs (ins := [0]) a6 ?_ ?_ | refine pr_gsv (ins := [0]) a6 ?_ ?_ | refine prD_gsv (ins := [0]) a6 ?_ ?_) <;> (have zf1 := @List.drop_drop.{0}; refine XG ?_; clear zf1; (try first | exact rfl | exact True.intro); ((try (repeat' with_reducible refine And.intro ?_ ?_)); (try any_goals (first | refine zm ?_ | exact CL | fail)))))
  clear a1 a2 a3 a4 a5 a6
  ((first | apply pr_psv | apply prD_psv | apply pr_qrunv | apply prD_qrunv) <;> (first | exact (rGood_ps _ _ _ _ _ _) | (refine XG ?_; first | exact rfl | exact True.intro | ((try (repeat' with_reducible refine And.intro ?_ ?_)); (try any_goals (first | refine zm ?_ | exact CL | fail))))))
  have e3 : IntKind.i64.wrap ((F - 1024).tdiv 8) = (F - 1024).tdiv 8 := by
    have := td8 (F - 1024) (by omega)
    rw [IntKind.wrap_i64]; omega
  (refine xw_ifp (fun h7 => ?_) (fun h7 => ?_) <;> try exact h7.elim)
  · rw [e3] at h7
    have hX : evOf Z1 Z2 T I O F E K = evN := if_neg fun h => by
      obtain ⟨a1, a2, a3, a4, a5, a6⟩ := h
      have := errE_ok a6
      omega
    rw [hX]
    clear hX
    (have zf1 := @evZ.eq_1; have zf2 := @evN.eq_1; refine XG ?_; clear zf1 zf2; ((try (repeat' with_reducible refine And.intro ?_ ?_)); (try any_goals (first | refine zm ?_ | exact CL | fail))))
    refine ⟨[], ?_⟩
    (have zf1 := @evZ.eq_1; have zf2 := @evN.eq_1; refine XG ?_; clear zf1 zf2; ((try (repeat' with_reducible refine And.intro ?_ ?_)); (try any_goals (first | refine zm ?_ | exact CL | fail))))
  · rw [e3] at h7
    have hX : evOf Z1 Z2 T I O F E K = evY Z1 Z2 T I O F K := if_pos ⟨by omega, by omega, by omega, by omega, by omega, ok_errE (by omega)⟩
    rw [hX]
    clear hX h7
    (have zf1 := @evY.eq_1; refine XG ?_; clear zf1; ((try (repeat' with_reducible refine And.intro ?_ ?_)); (try any_goals (first | refine zm ?_ | exact CL | fail))))
    refine ⟨[], ?_⟩
    (have zf1 := @e3; have zf2 := @evY.eq_1; refine XG ?_; clear zf1 zf2; ((try (repeat' with_reducible refine And.intro ?_ ?_)); (try any_goals (first | refine zm ?_ | exact CL | fail))))
theorem event_gs (gl : Nat → AV) (l : List UInt8) (bad : Bool) (hl : 21 ≤ l.length) :
    GS Tryd.prog gl 27 [.ptr 0 0] [(0, .cells [.str l, .bool bad])] 1 (evTup (rdEv l)) [(0, .cells [.str (l.drop 21), .bool bad])] 1 := by
  rw [ev_eq]
  exact event_gs0 gl l bad hl _ _ _ _ _ _ rfl rfl rfl rfl rfl rfl (nbI_b4 _ (cut_l _ _ _ (by omega))) (nbI_b4 _ (cut_l _ _ _ (by omega))) (nbI_b2 _ (cut_l _ _ _ (by omega))) (nbI_b2 _ (cut_l _ _ _ (by omega))) (nbI_b1 _ (cut_l _ _ _ (by omega)))
end Go.Proofs.YtglkiaiipkdkbaaDoor
