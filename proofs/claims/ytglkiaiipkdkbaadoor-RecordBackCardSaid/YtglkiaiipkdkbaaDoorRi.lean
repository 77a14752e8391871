/- Messages of events by the program, templates by the document; the walk of the statement RecordTells. No conditions but the ones that stand in each. -/
import Derived.Test.YtglkiaiipkdkbaaDoorRh
namespace Go.Proofs.YtglkiaiipkdkbaaDoor
set_option linter.all false
set_option linter.unusedSimpArgs false
open Go.RowKit

set_option maxHeartbeats 2000000 in
theorem Message_ps (gl : Nat → AV) (seq : Int) (l : List Ev) (hll : l.length ≤ 4611686018427387904) :
    PS Tryd.prog gl 12 [.int .i64 seq, .isl l.length (evs5 l)] (evMsg seq l) := by
  refine ft_Message.ps (of_decide_eq_true rfl) (evMsg_nm _ _ _) fun c hN hg => ?_
  unfold T_Message
  have hl := evs5_len l
  (refine XG ?_; ((try (repeat' with_reducible refine And.intro ?_ ?_)); (try any_goals (first | refine zm ?_ | exact CL | fail))))
  (refine xw_ifp (fun h1 => ?_) (fun h1 => ?_) <;> try exact h1.elim)
  · have : l = [] := List.eq_nil_of_length_eq_zero (by omega)
    subst this
    (refine XG ?_; ((try (repeat' with_reducible refine And.intro ?_ ?_)); (try any_goals (first | refine zm ?_ | exact CL | fail))))
    rfl
  obtain ⟨e0, l0, hL⟩ : ∃ e0 l0, e0 :: l0 = l := by
    cases l with
    | nil => simp at h1
    | cons e l => exact ⟨e, l, rfl⟩
  have hc0 : (evs5 l).getD 0 .any = .int .i64 e0.t := by
    have := evs5_get (e0 :: l0) 0 (by simp) 0 (by decide)
    simp only [List.getElem_cons_zero, Ev.enc, List.getD_cons_zero, Nat.zero_mul, Nat.zero_add] at this
    rw [← hL]; exact this
  (refine XG ?_; ((try (repeat' with_reducible refine And.intro ?_ ?_)); (try any_goals (first | refine zm ?_ | exact CL | fail))))
  (refine xw_ifp (fun h2 => ?_) (fun h2 => ?_) <;> try exact h2.elim)
  · (refine XG ?_; ((try (repeat' with_reducible refine And.intro ?_ ?_)); (try any_goals (first | refine zm ?_ | exact CL | fail))))
    subst hL
    simp only [evMsg]
    rw [if_pos (by simp only [List.length_cons] at h2; omega)]
  have hlen : l.length ≤ 64 := by omega
  have hlen2 : ¬ 64 < l0.length + 1 := by rw [← hL] at hlen; simp only [List.length_cons] at hlen; omega
  generalize l = L at *
  (refine XG ?_; ((try (repeat' with_reducible refine And.intro ?_ ?_)); (try any_goals (first | refine zm ?_ | exact CL | fail))))
  refine loopVC_ph (ps := [(6, 1)]) (by (refine XG ?_; ((try (repeat' with_reducible refine And.intro ?_ ?_)); (try any_goals (first | refine zm ?_ | exact CL | fail))))) ?_
  (refine XG ?_)
  refine loop_rule (fun k : Nat => k ≤ L.length ∧ allE e0.t (L.take k) = true) (fun k => ⟨[(0, .int .i64 seq), (1, .isl L.length (evs5 L)), (6, .sl 1 0 0 (21 * k) (21 * k)), (17, .isl L.length (evs5 L)), (18, .int .i64 L.length), (19, .int .i64 k)], [(0, .cells (byts (evsB (L.take k))))], 1⟩) (fun k => L.length - k) ft_Message.mixed hN
    ⟨0, ⟨by omega, rfl⟩, [], by (refine XG ?_; ((try (repeat' with_reducible refine And.intro ?_ ?_)); (try any_goals (first | refine zm ?_ | exact CL | fail)))); rfl⟩ fun k ⟨hk, hall⟩ => ?_
  (refine XG ?_; ((try (repeat' with_reducible refine And.intro ?_ ?_)); (try any_goals (first | refine zm ?_ | exact CL | fail))))
  (refine xw_ifp (fun h3 => ?_) (fun h3 => ?_) <;> try exact h3.elim)
  · have hkn : k < L.length := by omega
    have hcut := evs5_cut L k hkn
    have htk := evsB_succ L k hkn
    have hall2 : allE e0.t (L.take (k + 1)) = (goodE L[k].t L[k].s L[k].a L[k].b && L[k].t == e0.t) := by
      unfold allE at hall ⊢
      rw [List.take_add_one, List.getElem?_eq_getElem hkn, List.all_append, hall]
      simp
    have hbad : (goodE L[k].t L[k].s L[k].a L[k].b && L[k].t == e0.t) = false → allE e0.t L = false := fun hb => by
      unfold allE
      rw [List.all_eq_false]
      exact ⟨L[k], List.getElem_mem _, by rw [hb]; simp⟩
    have hlk : (evsB (L.take k)).length = 21 * k := by rw [evsB_len]; simp; omega
    generalize L[k] = e at *
    obtain ⟨t, sb, a, b, f⟩ := e
    simp only [Ev.enc] at hcut
    (have zf1 := @hl; have zf2 := @hcut; refine XG ?_; clear zf1 zf2; ((try (repeat' with_reducible refine And.intro ?_ ?_)); (try any_goals (first | refine zm ?_ | exact CL | fail))))
    ((first | apply pr_psv | apply prD_psv | apply pr_qrunv | apply prD_qrunv) <;> (first | exact (rGood_ps _ _ _ _ _ _) | (have zf1 := @hcut; have zf2 := @hc0; refine XG ?_; clear zf1 zf2; first | exact rfl | exact True.intro | ((try (repeat' with_reducible refine And.intro ?_ ?_)); (try any_goals (first | refine zm ?_ | exact CL | fail))))))
    (refine xw_ifp (fun h4 => ?_) (fun h4 => ?_) <;> try exact h4.elim)
    · have hb := hbad (by
        simp only [errE] at h4
        cases hg : goodE t sb a b
        · rfl
        · rw [if_pos hg] at h4; simpa using h4)
      (refine XG ?_; ((try (repeat' with_reducible refine And.intro ?_ ?_)); (try any_goals (first | refine zm ?_ | exact CL | fail))))
      subst hL
      simp only [evMsg]
      rw [if_neg hlen2, if_neg (by rw [hb]; simp)]
    · have hgd : goodE t sb a b = true := by
        simp only [errE] at h4
        by_cases hg : goodE t sb a b = true
        · exact hg
        · rw [if_neg hg] at h4; simp at h4
      have ht : t = e0.t := by
        simp only [errE] at h4
        rw [if_pos hgd] at h4; simpa using h4
      have hr := hgd
      simp [goodE] at hr
      generalize hB : evsB (L.take k) = B at *
      have hB2 : B.length ≤ 100000000 - 21 := by omega
      (refine XG ?_; ((try (repeat' with_reducible refine And.intro ?_ ?_)); (try any_goals (first | refine zm ?_ | exact CL | fail))))
      ((first | refine pr_gs (ins := [0]) (put_gs _ B t 8 (by decide) (by omega)) ?_ ?_ | refine prD_gs (ins := [0]) (put_gs _ B t 8 (by decide) (by omega)) ?_ ?_ | refine pr_gsv (ins := [0]) (put_gs _ B t 8 (by decide) (by omega)) ?_ ?_ | refine prD_gsv (ins := [0]) (put_gs _ B t 8 (by decide) (by omega)) ?_ ?_) <;> (have zf1 := @be_len; have zf2 := @hlk; refine XG ?_; clear zf1 zf2; (try first | exact rfl | exact True.intro); ((try (repeat' with_reducible refine And.intro ?_ ?_)); (try any_goals (first | refine zm ?_ | exact CL | fail)))))
      ((first | refine pr_gs (ins := [2]) (put_gs _ (B ++ be t 8) (167772161 + sb) 4 (by decide) (by simp [be_len]; omega)) ?_ ?_ | refine prD_gs (ins := [2]) (put_gs _ (B ++ be t 8) (167772161 + sb) 4 (by decide) (by simp [be_len]; omega)) ?_ ?_ | refine pr_gsv (ins := [2]) (put_gs _ (B ++ be t 8) (167772161 + sb) 4 (by decide) (by simp [be_len]; omega)) ?_ ?_ | refine prD_gsv (ins := [2]) (put_gs _ (B ++ be t 8) (167772161 + sb) 4 (by decide) (by simp [be_len]; omega)) ?_ ?_) <;> (have zf1 := @be_len; have zf2 := @hlk; refine XG ?_; clear zf1 zf2; (try first | exact rfl | exact True.intro); ((try (repeat' with_reducible refine And.intro ?_ ?_)); (try any_goals (first | refine zm ?_ | exact CL | fail)))))
      ((first | refine pr_gs (ins := [3]) (put_gs _ (B ++ be t 8 ++ be (167772161 + sb) 4) (3405803777 + a) 4 (by decide) (by simp [be_len]; omega)) ?_ ?_ | refine prD_gs (ins := [3]) (put_gs _ (B ++ be t 8 ++ be (167772161 + sb) 4) (3405803777 + a) 4 (by decide) (by simp [be_len]; omega)) ?_ ?_ | refine pr_gsv (ins := [3]) (put_gs _ (B ++ be t 8 ++ be (167772161 + sb) 4) (3405803777 + a) 4 (by decide) (by simp [be_len]; omega)) ?_ ?_ | refine prD_gsv (ins := [3]) (put_gs _ (B ++ be t 8 ++ be (167772161 + sb) 4) (3405803777 + a) 4 (by decide) (by simp [be_len]; omega)) ?_ ?_) <;> (have zf1 := @be_len; have zf2 := @hlk; refine XG ?_; clear zf1 zf2; (try first | exact rfl | exact True.intro); ((try (repeat' with_reducible refine And.intro ?_ ?_)); (try any_goals (first | refine zm ?_ | exact CL | fail)))))
      ((first | refine pr_gs (ins := [4]) (put_gs _ (B ++ be t 8 ++ be (167772161 + sb) 4 ++ be (3405803777 + a) 4) (1024 + b * 8) 2 (by decide) (by simp [be_len]; omega)) ?_ ?_ | refine prD_gs (ins := [4]) (put_gs _ (B ++ be t 8 ++ be (167772161 + sb) 4 ++ be (3405803777 + a) 4) (1024 + b * 8) 2 (by decide) (by simp [be_len]; omega)) ?_ ?_ | refine pr_gsv (ins := [4]) (put_gs _ (B ++ be t 8 ++ be (167772161 + sb) 4 ++ be (3405803777 + a) 4) (1024 + b * 8) 2 (by decide) (by simp [be_len]; omega)) ?_ ?_ | refine prD_gsv (ins := [4]) (put_gs _ (B ++ be t 8 ++ be (167772161 + sb) 4 ++ be (3405803777 + a) 4) (1024 + b * 8) 2 (by decide) (by simp [be_len]; omega)) ?_ ?_) <;> (have zf1 := @be_len; have zf2 := @hlk; refine XG ?_; clear zf1 zf2; (try first | exact rfl | exact True.intro); ((try (repeat' with_reducible refine And.intro ?_ ?_)); (try any_goals (first | refine zm ?_ | exact CL | fail)))))
      ((first | refine pr_gs (ins := [5]) (put_gs _ (B ++ be t 8 ++ be (167772161 + sb) 4 ++ be (3405803777 + a) 4 ++ be (1024 + b * 8) 2) (1024 + b * 8 + 8 - 1) 2 (by decide) (by simp [be_len]; omega)) ?_ ?_ | refine prD_gs (ins := [5]) (put_gs _ (B ++ be t 8 ++ be (167772161 + sb) 4 ++ be (3405803777 + a) 4 ++ be (1024 + b * 8) 2) (1024 + b * 8 + 8 - 1) 2 (by decide) (by simp [be_len]; omega)) ?_ ?_ | refine pr_gsv (ins := [5]) (put_gs _ (B ++ be t 8 ++ be (167772161 + sb) 4 ++ be (3405803777 + a) 4 ++ be (1024 + b * 8) 2) (1024 + b * 8 + 8 - 1) 2 (by decide) (by simp [be_len]; omega)) ?_ ?_ | refine prD_gsv (ins := [5]) (put_gs _ (B ++ be t 8 ++ be (167772161 + sb) 4 ++ be (3405803777 + a) 4 ++ be (1024 + b * 8) 2) (1024 + b * 8 + 8 - 1) 2 (by decide) (by simp [be_len]; omega)) ?_ ?_) <;> (have zf1 := @be_len; have zf2 := @hlk; refine XG ?_; clear zf1 zf2; (try first | exact rfl | exact True.intro); ((try (repeat' with_reducible refine And.intro ?_ ?_)); (try any_goals (first | refine zm ?_ | exact CL | fail)))))
      have e1 : 1024 + 8 * b = 1024 + b * 8 := by omega
      have e2 : 1031 + 8 * b = 1024 + b * 8 + 8 - 1 := by omega
      cases f with
      | false =>
        (refine xw_ifp (fun h5 => ?_) (fun h5 => ?_) <;> try exact h5.elim)
        (refine XG ?_; ((try (repeat' with_reducible refine And.intro ?_ ?_)); (try any_goals (first | refine zm ?_ | exact CL | fail))))
        ((first | refine pr_gs (ins := [6]) (put_gs _ (B ++ be t 8 ++ be (167772161 + sb) 4 ++ be (3405803777 + a) 4 ++ be (1024 + b * 8) 2 ++ be (1024 + b * 8 + 8 - 1) 2) 1 1 (by decide) (by simp [be_len]; omega)) ?_ ?_ | refine prD_gs (ins := [6]) (put_gs _ (B ++ be t 8 ++ be (167772161 + sb) 4 ++ be (3405803777 + a) 4 ++ be (1024 + b * 8) 2 ++ be (1024 + b * 8 + 8 - 1) 2) 1 1 (by decide) (by simp [be_len]; omega)) ?_ ?_ | refine pr_gsv (ins := [6]) (put_gs _ (B ++ be t 8 ++ be (167772161 + sb) 4 ++ be (3405803777 + a) 4 ++ be (1024 + b * 8) 2 ++ be (1024 + b * 8 + 8 - 1) 2) 1 1 (by decide) (by simp [be_len]; omega)) ?_ ?_ | refine prD_gsv (ins := [6]) (put_gs _ (B ++ be t 8 ++ be (167772161 + sb) 4 ++ be (3405803777 + a) 4 ++ be (1024 + b * 8) 2 ++ be (1024 + b * 8 + 8 - 1) 2) 1 1 (by decide) (by simp [be_len]; omega)) ?_ ?_) <;> (have zf1 := @be_len; have zf2 := @hlk; refine XG ?_; clear zf1 zf2; (try first | exact rfl | exact True.intro); ((try (repeat' with_reducible refine And.intro ?_ ?_)); (try any_goals (first | refine zm ?_ | exact CL | fail)))))
        refine ⟨k + 1, ⟨by omega, by rw [hall2, hgd, ht]; simp⟩, ⟨[(0, 7)], ?_⟩, by omega⟩
        (have zf1 := @htk; refine XG ?_; clear zf1; ((try (repeat' with_reducible refine And.intro ?_ ?_)); (try any_goals (first | refine zm ?_ | exact CL | fail))))
        simp [evB, e1, e2]
      | true =>
        (refine xw_ifp (fun h5 => ?_) (fun h5 => ?_) <;> try exact h5.elim)
        (refine XG ?_; ((try (repeat' with_reducible refine And.intro ?_ ?_)); (try any_goals (first | refine zm ?_ | exact CL | fail))))
        ((first | refine pr_gs (ins := [6]) (put_gs _ (B ++ be t 8 ++ be (167772161 + sb) 4 ++ be (3405803777 + a) 4 ++ be (1024 + b * 8) 2 ++ be (1024 + b * 8 + 8 - 1) 2) 2 1 (by decide) (by simp [be_len]; omega)) ?_ ?_ | refine prD_gs (ins := [6]) (put_gs _ (B ++ be t 8 ++ be (167772161 + sb) 4 ++ be (3405803777 + a) 4 ++ be (1024 + b * 8) 2 ++ be (1024 + b * 8 + 8 - 1) 2) 2 1 (by decide) (by simp [be_len]; omega)) ?_ ?_ | refine pr_gsv (ins := [6]) (put_gs _ (B ++ be t 8 ++ be (167772161 + sb) 4 ++ be (3405803777 + a) 4 ++ be (1024 + b * 8) 2 ++ be (1024 + b * 8 + 8 - 1) 2) 2 1 (by decide) (by simp [be_len]; omega)) ?_ ?_ | refine prD_gsv (ins := [6]) (put_gs _ (B ++ be t 8 ++ be (167772161 + sb) 4 ++ be (3405803777 + a) 4 ++ be (1024 + b * 8) 2 ++ be (1024 + b * 8 + 8 - 1) 2) 2 1 (by decide) (by simp [be_len]; omega)) ?_ ?_) <;> (have zf1 := @be_len; have zf2 := @hlk; refine XG ?_; clear zf1 zf2; (try first | exact rfl | exact True.intro); ((try (repeat' with_reducible refine And.intro ?_ ?_)); (try any_goals (first | refine zm ?_ | exact CL | fail)))))
        refine ⟨k + 1, ⟨by omega, by rw [hall2, hgd, ht]; simp⟩, ⟨[(0, 7)], ?_⟩, by omega⟩
        (have zf1 := @htk; refine XG ?_; clear zf1; ((try (repeat' with_reducible refine And.intro ?_ ?_)); (try any_goals (first | refine zm ?_ | exact CL | fail))))
        simp [evB, e1, e2]
  · have : k = L.length := by omega
    subst this
    rw [List.take_length] at hall ⊢
    have hb : (evsB L).length ≤ 10000000 := by rw [evsB_len]; omega
    have hm := message_ps c.gl seq e0.t 300 (evsB L) hb
    have e2 : evMsg seq L = msgT seq e0.t 300 (evsB L) := by
      subst hL
      simp only [evMsg]
      rw [if_neg hlen2, if_pos hall]
    have hlB := evsB_len L
    rw [e2]
    clear e2
    rw [hlB] at hm
    have hf : Flat (msgT seq e0.t 300 (evsB L)) := by
      unfold msgT; split <;> exact .tup (by simp [Flat.str, Flat.int])
    unfold msgT at hm hf ⊢
    (have zf1 := @hc0; refine XG ?_; clear zf1; ((try (repeat' with_reducible refine And.intro ?_ ?_)); (try any_goals (first | refine zm ?_ | exact CL | fail))))
    split at hm
    · rename_i hq
      rw [if_pos hq] at hf
      ((first | apply pr_bor | apply prD_bor) <;> (first | exact hm | (with_reducible exact hf) | (have zf1 := @hc0; have zf2 := @hlB; refine XG ?_; clear zf1 zf2; first | exact rfl | exact True.intro | ((try (repeat' with_reducible refine And.intro ?_ ?_)); (try any_goals (first | refine zm ?_ | exact CL | fail))))))
      rw [if_pos (by assumption)]
    · rename_i hq
      rw [if_neg hq] at hf
      ((first | apply pr_bor | apply prD_bor) <;> (first | exact hm | (with_reducible exact hf) | (have zf1 := @hc0; have zf2 := @hlB; refine XG ?_; clear zf1 zf2; first | exact rfl | exact True.intro | ((try (repeat' with_reducible refine And.intro ?_ ?_)); (try any_goals (first | refine zm ?_ | exact CL | fail))))))
      rw [if_neg (by assumption)]

def tmplR (k : Nat) : List UInt8 := be 300 2 ++ be 6 2 ++ (fieldsL.take k).flatMap fun f => be f 2
theorem tmplR_len : ∀ k, k ≤ 12 → (tmplR k).length = 4 + 2 * k := by decide +kernel
theorem tmplR_succ : ∀ k, k < 12 → tmplR k ++ be (fieldsL.getD k 0) 2 = tmplR (k + 1) := by decide +kernel
theorem fieldsL_bd : ∀ k, k < 12 → 0 ≤ fieldsL.getD k 0 ∧ fieldsL.getD k 0 ≤ 1000 := by decide +kernel
theorem TemplateR_ps (gl : Nat → AV) (seq : Int) : PS Tryd.prog gl 15 [.int .i64 seq] (msgT seq 0 2 (tmpl 6)) := by
  refine ft_TemplateR.ps (of_decide_eq_true rfl) (msgT_nm _ _ _ _ _) fun c hN hg => ?_
  unfold T_TemplateR
  have hf : fieldsL.length = 12 := rfl
  (refine XG ?_; ((try (repeat' with_reducible refine And.intro ?_ ?_)); (try any_goals (first | refine zm ?_ | exact CL | fail))))
  ((first | apply pr_psv | apply prD_psv | apply pr_qrunv | apply prD_qrunv) <;> (first | exact (bytesOf_ps _ 300 2 (by omega) (by omega) (by decide)) | (have zf1 := @be_len; refine XG ?_; clear zf1; first | exact rfl | exact True.intro | ((try (repeat' with_reducible refine And.intro ?_ ?_)); (try any_goals (first | refine zm ?_ | exact CL | fail))))))
  ((first | apply pr_psv | apply prD_psv | apply pr_qrunv | apply prD_qrunv) <;> (first | exact (bytesOf_ps _ 6 2 (by omega) (by omega) (by decide)) | (have zf1 := @be_len; refine XG ?_; clear zf1; first | exact rfl | exact True.intro | ((try (repeat' with_reducible refine And.intro ?_ ?_)); (try any_goals (first | refine zm ?_ | exact CL | fail))))))
  ((first | apply pr_app | apply prD_app | apply pr_bsl | apply prD_bsl | apply pr_s2b | apply prD_s2b); (refine XG ?_; ((try (repeat' with_reducible refine And.intro ?_ ?_)); (try any_goals (first | refine zm ?_ | exact CL | fail)))))
  refine loop_rule (fun k : Nat => k ≤ 12) (fun k => ⟨[(0, .int .i64 seq), (4, .str (tmplR k)), (10, .sl 1 0 0 12 12), (11, .int .i64 12), (12, .int .i64 k)], [(0, .cells (ints fieldsL))], 1⟩) (fun k => 12 - k) ft_TemplateR.mixed hN
    ⟨0, by omega, [], by (refine XG ?_; ((try (repeat' with_reducible refine And.intro ?_ ?_)); (try any_goals (first | refine zm ?_ | exact CL | fail)))) <;> rfl⟩ fun k hk => ?_
  (refine XG ?_; ((try (repeat' with_reducible refine And.intro ?_ ?_)); (try any_goals (first | refine zm ?_ | exact CL | fail))))
  (refine xw_ifp (fun h1 => ?_) (fun h1 => ?_) <;> try exact h1.elim)
  · have hk6 : k < 12 := by omega
    have hl := tmplR_len k hk
    have hs := tmplR_succ k hk6
    obtain ⟨b0, b1⟩ := fieldsL_bd k hk6
    (have zf1 := @hf; refine XG ?_; clear zf1; ((try (repeat' with_reducible refine And.intro ?_ ?_)); (try any_goals (first | refine zm ?_ | exact CL | fail))))
    ((first | apply pr_psv | apply prD_psv | apply pr_qrunv | apply prD_qrunv) <;> (first | exact (bytesOf_ps _ (fieldsL.getD k 0) 2 b0 (by omega) (by decide)) | (have zf1 := @be_len; have zf2 := @hl; refine XG ?_; clear zf1 zf2; first | exact rfl | exact True.intro | ((try (repeat' with_reducible refine And.intro ?_ ?_)); (try any_goals (first | refine zm ?_ | exact CL | fail))))))
    refine ⟨k + 1, by omega, ⟨[], ?_⟩, by omega⟩
    (have zf1 := @hs; refine XG ?_; clear zf1; ((try (repeat' with_reducible refine And.intro ?_ ?_)); (try any_goals (first | refine zm ?_ | exact CL | fail))))
  · have : k = 12 := by omega
    subst this
    have hm := messageR_ps c.gl seq 0 2 (tmpl 6) (by rw [tmpl_len 6 (by omega)]; omega) (by omega) (by omega)
    have e12 : tmplR 12 = tmpl 6 := by decide +kernel
    unfold msgT at hm ⊢
    (have zf1 := @e12; refine XG ?_; clear zf1; ((try (repeat' with_reducible refine And.intro ?_ ?_)); (try any_goals (first | refine zm ?_ | exact CL | fail))))
    split at hm
    · ((first | apply pr_psv | apply prD_psv | apply pr_qrunv | apply prD_qrunv) <;> (first | exact hm | (have zf1 := @e12; refine XG ?_; clear zf1; first | exact rfl | exact True.intro | ((try (repeat' with_reducible refine And.intro ?_ ?_)); (try any_goals (first | refine zm ?_ | exact CL | fail))))))
      rw [if_pos (by assumption)]
    · ((first | apply pr_psv | apply prD_psv | apply pr_qrunv | apply prD_qrunv) <;> (first | exact hm | (have zf1 := @e12; refine XG ?_; clear zf1; first | exact rfl | exact True.intro | ((try (repeat' with_reducible refine And.intro ?_ ?_)); (try any_goals (first | refine zm ?_ | exact CL | fail))))))
      rw [if_neg (by assumption)]

theorem msgT_form (seq time set : Int) (bs : List UInt8) : ∃ b k, msgT seq time set bs = .tup [.str b, .int .i64 k] := by
  unfold msgT; split <;> exact ⟨_, _, rfl⟩
theorem evMsg_form (seq : Int) (l : List Ev) : ∃ b k, evMsg seq l = .tup [.str b, .int .i64 k] := by
  unfold evMsg
  split
  · exact ⟨_, _, rfl⟩
  · split
    · exact ⟨_, _, rfl⟩
    · split
      · exact msgT_form _ _ _ _
      · exact ⟨_, _, rfl⟩
set_option maxHeartbeats 1000000 in
theorem RecordTells_ps (gl : Nat → AV) (h0 : gl 0 = .xp (ints fieldsL) 0) (seq : Int) (l : List Ev) (hll : l.length * 40 ≤ 140737488355328) : PS Tryd.prog gl 5 [.int .i64 seq, .isl l.length (evs5 l)] (.bool true) := by
  refine ft_RecordTells.ps (of_decide_eq_true rfl) (by simp [nmOk]) fun c hN hg => ?_
  unfold T_RecordTells
  have hl := evs5_len l
  have ha := Message_ps c.gl seq l (by omega)
  have hb := MessageR_ps c.gl seq l (by omega)
  have hu := Template_ps c.gl (by rw [hg]; exact h0) seq
  have hv := TemplateR_ps c.gl seq
  have hfl := evMsg_flat seq l
  have htl := tellsL_ps c.gl (by rw [hg]; exact h0)
  obtain ⟨b1, k1, e1⟩ := evMsg_form seq l
  obtain ⟨b2, k2, e2⟩ := msgT_form seq 0 2 (tmpl 6)
  rw [e1] at ha hb hfl
  rw [e2] at hu hv
  (have zf1 := @hl; refine XG ?_; clear zf1; ((try (repeat' with_reducible refine And.intro ?_ ?_)); (try any_goals (first | refine zm ?_ | exact CL | fail))))
  ((first | apply pr_app | apply prD_app | apply pr_bsl | apply prD_bsl | apply pr_s2b | apply prD_s2b); (have zf1 := @hl; refine XG ?_; clear zf1; ((try (repeat' with_reducible refine And.intro ?_ ?_)); (try any_goals (first | refine zm ?_ | exact CL | fail)))))
  ((first | apply pr_bor | apply prD_bor) <;> (first | exact ha | (with_reducible exact hfl) | (have zf1 := @hl; refine XG ?_; clear zf1; first | exact rfl | exact True.intro | ((try (repeat' with_reducible refine And.intro ?_ ?_)); (try any_goals (first | refine zm ?_ | exact CL | fail))))))
  ((first | apply pr_psv | apply prD_psv | apply pr_qrunv | apply prD_qrunv) <;> (first | exact hb | (have zf1 := @hl; refine XG ?_; clear zf1; first | exact rfl | exact True.intro | ((try (repeat' with_reducible refine And.intro ?_ ?_)); (try any_goals (first | refine zm ?_ | exact CL | fail))))))
  ((first | apply pr_psv | apply prD_psv | apply pr_qrunv | apply prD_qrunv) <;> (first | exact hu | (have zf1 := @hl; refine XG ?_; clear zf1; first | exact rfl | exact True.intro | ((try (repeat' with_reducible refine And.intro ?_ ?_)); (try any_goals (first | refine zm ?_ | exact CL | fail))))))
  by_cases hn : l.length = 0
  · have e0 : l = [] := List.eq_nil_of_length_eq_zero hn
    subst e0
    ((first | apply pr_psv | apply prD_psv | apply pr_qrunv | apply prD_qrunv) <;> (first | exact hv | (have zf1 := @hl; refine XG ?_; clear zf1; first | exact rfl | exact True.intro | ((try (repeat' with_reducible refine And.intro ?_ ?_)); (try any_goals (first | refine zm ?_ | exact CL | fail))))))
    ((first | apply pr_skip | apply prD_skip) <;> (have zf1 := @hl; refine XG ?_; clear zf1; first | exact rfl | exact True.intro | ((try (repeat' with_reducible refine And.intro ?_ ?_)); (try any_goals (first | refine zm ?_ | exact CL | fail)))))
    ((first | apply pr_skip | apply prD_skip) <;> (have zf1 := @hl; refine XG ?_; clear zf1; first | exact rfl | exact True.intro | ((try (repeat' with_reducible refine And.intro ?_ ?_)); (try any_goals (first | refine zm ?_ | exact CL | fail)))))
    ((first | apply pr_psv | apply prD_psv | apply pr_qrunv | apply prD_qrunv) <;> (first | exact htl | (have zf1 := @hl; refine XG ?_; clear zf1; first | exact rfl | exact True.intro | ((try (repeat' with_reducible refine And.intro ?_ ?_)); (try any_goals (first | refine zm ?_ | exact CL | fail))))))
  · have hcut := evs5_cut l 0 (by omega)
    generalize l[0] = e at *
    obtain ⟨t, sb, a, b, f⟩ := e
    simp only [Ev.enc, Nat.zero_mul, List.drop_zero] at hcut
    have hnz : ((l.length : Int) == 0) = false := by simpa using hn
    ((first | apply pr_psv | apply prD_psv | apply pr_qrunv | apply prD_qrunv) <;> (first | exact hv | (have zf1 := @hl; have zf2 := @hnz; have zf3 := @hcut; refine XG ?_; clear zf1 zf2 zf3; first | exact rfl | exact True.intro | ((try (repeat' with_reducible refine And.intro ?_ ?_)); (try any_goals (first | refine zm ?_ | exact CL | fail))))))
    ((first | apply pr_psv | apply prD_psv | apply pr_qrunv | apply prD_qrunv) <;> (first | exact (rGood_ps _ _ _ _ _ _) | (have zf1 := @hl; have zf2 := @hnz; have zf3 := @hcut; refine XG ?_; clear zf1 zf2 zf3; first | exact rfl | exact True.intro | ((try (repeat' with_reducible refine And.intro ?_ ?_)); (try any_goals (first | refine zm ?_ | exact CL | fail))))))
    ((first | apply pr_psv | apply prD_psv | apply pr_qrunv | apply prD_qrunv) <;> (first | exact (GoodEvent_ps _ _ _ _ _ _) | (have zf1 := @hl; have zf2 := @hnz; have zf3 := @hcut; refine XG ?_; clear zf1 zf2 zf3; first | exact rfl | exact True.intro | ((try (repeat' with_reducible refine And.intro ?_ ?_)); (try any_goals (first | refine zm ?_ | exact CL | fail))))))
    ((first | apply pr_psv | apply prD_psv | apply pr_qrunv | apply prD_qrunv) <;> (first | exact htl | (have zf1 := @hl; have zf2 := @hnz; refine XG ?_; clear zf1 zf2; first | exact rfl | exact True.intro | ((try (repeat' with_reducible refine And.intro ?_ ?_)); (try any_goals (first | refine zm ?_ | exact CL | fail))))))
end Go.Proofs.YtglkiaiipkdkbaaDoor
