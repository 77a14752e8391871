/- Numbers as texts: the document's bytesOf; messages of events. No conditions but the ones that stand in each. -/
import Derived.Test.YtglkiaiipkdkbaaDoorRg
import Derived.Test.YtglkiaiipkdkbaaDoorE3
namespace Go.Proofs.YtglkiaiipkdkbaaDoor
set_option linter.all false
set_option linter.unusedSimpArgs false
open Go.RowKit

theorem byteI_eq (v : Int) (k : Nat) (hk : k ≤ 8) : byteI v k = UInt8.ofNat ((v / 256 ^ k) % 256).toNat := by
  unfold byteI
  rw [IntKind.wrap_u8]
  have e : min (8 * (k : Int)).toNat 64 = 8 * k := by omega
  rw [e, Int.fdiv_eq_ediv_of_nonneg _ (Int.pow_nonneg (by decide))]
  have e2 : (2 : Int) ^ (8 * k) = 256 ^ k := by rw [Int.pow_mul]; rfl
  rw [e2]
theorem ediv_step (v : Int) (j : Nat) : v / 256 ^ j / 256 = v / 256 ^ (j + 1) := by
  rw [Int.ediv_ediv_of_nonneg (Int.pow_nonneg (by decide)), Int.pow_succ]
theorem ediv_bd (v : Int) (h0 : 0 ≤ v) (j : Nat) : 0 ≤ v / 256 ^ j ∧ v / 256 ^ j ≤ v := by
  have hp : (0 : Int) < 256 ^ j := Int.pow_pos (by decide)
  exact ⟨Int.ediv_nonneg h0 (by omega), Int.ediv_le_self _ h0⟩
theorem bytesOf_ps (gl : Nat → AV) (v : Int) (n : Nat) (h0 : 0 ≤ v) (h1 : v ≤ 9223372036854775807) (hn : n ≤ 8) :
    PS Tryd.prog gl 25 [.int .i64 v, .int .i64 n] (.str (be v n)) := by
  refine ft_bytesOf.ps (of_decide_eq_true rfl) (by simp [nmOk]) fun c hN hg => ?_
  unfold T_bytesOf
  (refine XG ?_; ((try (repeat' with_reducible refine And.intro ?_ ?_)); (try any_goals (first | refine zm ?_ | exact CL | fail))))
  refine loop_rule (fun j : Nat => j ≤ n) (fun j => ⟨[(0, .int .i64 (v / 256 ^ j)), (1, .int .i64 ((n - j : Nat) : Int)), (5, .str (be v j))], [], 0⟩) (fun j => n - j) ft_bytesOf.mixed hN
    ⟨0, by omega, [], by (refine XG ?_; ((try (repeat' with_reducible refine And.intro ?_ ?_)); (try any_goals (first | refine zm ?_ | exact CL | fail)))); simp [be]⟩ fun j hj => ?_
  (refine XG ?_; ((try (repeat' with_reducible refine And.intro ?_ ?_)); (try any_goals (first | refine zm ?_ | exact CL | fail))))
  obtain ⟨b0, b1⟩ := ediv_bd v h0 j
  (refine xw_ifp (fun h2 => ?_) (fun h2 => ?_) <;> try exact h2.elim)
  · (refine XG ?_; ((try (repeat' with_reducible refine And.intro ?_ ?_)); (try any_goals (first | refine zm ?_ | exact CL | fail))))
    ((first | apply pr_app | apply prD_app | apply pr_bsl | apply prD_bsl | apply pr_s2b | apply prD_s2b); (have zf1 := @be_len; refine XG ?_; clear zf1; ((try (repeat' with_reducible refine And.intro ?_ ?_)); (try any_goals (first | refine zm ?_ | exact CL | fail)))))
    · intro x hx
      rw [List.mem_singleton] at hx
      subst hx; exact rfl
    · simp only [toB, List.map_cons, List.map_nil, List.length_cons, List.length_nil]; omega
    have e1 : (v / 256 ^ j).tdiv 256 = v / 256 ^ (j + 1) := by rw [Int.tdiv_eq_ediv_of_nonneg b0, ediv_step]
    have e2 : (v / 256 ^ j).tmod 256 = (v / 256 ^ j) % 256 := Int.tmod_eq_emod_of_nonneg b0
    obtain ⟨c0, c1⟩ := ediv_bd v h0 (j + 1)
    refine ⟨j + 1, by omega, ⟨[], ?_⟩, by omega⟩
    rw [e1, e2]
    refine ⟨by rw [IntKind.wrap_i64]; omega, by omega, ?_⟩
    simp only [be, byteI_eq v j (by omega)]
    simp only [toB, asI, IntKind.wrap_u8, List.map_cons, List.map_nil, List.cons_append, List.nil_append, Int.emod_emod]
  · have : j = n := by omega
    subst this
    (refine XG ?_; ((try (repeat' with_reducible refine And.intro ?_ ?_)); (try any_goals (first | refine zm ?_ | exact CL | fail))))

/-- An event as bytes. -/
def evB (e : Ev) : List UInt8 := be e.t 8 ++ be (167772161 + e.s) 4 ++ be (3405803777 + e.a) 4 ++ be (1024 + 8 * e.b) 2 ++ be (1031 + 8 * e.b) 2 ++ be (if e.f then 2 else 1) 1
theorem evB_len (e : Ev) : (evB e).length = 21 := by simp [evB, be_len]
theorem eventText_ps (gl : Nat → AV) (e : Ev) (h : goodE e.t e.s e.a e.b = true) : PS Tryd.prog gl 23 [.agg e.enc] (.str (evB e)) := by
  refine ft_eventText.ps (of_decide_eq_true rfl) (by simp [nmOk]) fun c hN hg => ?_
  unfold T_eventText
  obtain ⟨t, s, a, b, f⟩ := e
  simp [goodE] at h
  simp only [Ev.enc]
  (refine XG ?_; ((try (repeat' with_reducible refine And.intro ?_ ?_)); (try any_goals (first | refine zm ?_ | exact CL | fail))))
  cases f with
  | false =>
    (refine xw_ifp (fun h2 => ?_) (fun h2 => ?_) <;> try exact h2.elim)
    (refine XG ?_; ((try (repeat' with_reducible refine And.intro ?_ ?_)); (try any_goals (first | refine zm ?_ | exact CL | fail))))
    ((first | apply pr_psv | apply prD_psv | apply pr_qrunv | apply prD_qrunv) <;> (first | exact (bytesOf_ps _ t 8 (by omega) (by omega) (by decide)) | (have zf1 := @be_len; refine XG ?_; clear zf1; first | exact rfl | exact True.intro | ((try (repeat' with_reducible refine And.intro ?_ ?_)); (try any_goals (first | refine zm ?_ | exact CL | fail))))))
    ((first | apply pr_psv | apply prD_psv | apply pr_qrunv | apply prD_qrunv) <;> (first | exact (bytesOf_ps _ (167772161 + s) 4 (by omega) (by omega) (by decide)) | (have zf1 := @be_len; refine XG ?_; clear zf1; first | exact rfl | exact True.intro | ((try (repeat' with_reducible refine And.intro ?_ ?_)); (try any_goals (first | refine zm ?_ | exact CL | fail))))))
    ((first | apply pr_psv | apply prD_psv | apply pr_qrunv | apply prD_qrunv) <;> (first | exact (bytesOf_ps _ (3405803777 + a) 4 (by omega) (by omega) (by decide)) | (have zf1 := @be_len; refine XG ?_; clear zf1; first | exact rfl | exact True.intro | ((try (repeat' with_reducible refine And.intro ?_ ?_)); (try any_goals (first | refine zm ?_ | exact CL | fail))))))
    ((first | apply pr_psv | apply prD_psv | apply pr_qrunv | apply prD_qrunv) <;> (first | exact (bytesOf_ps _ (1024 + 8 * b) 2 (by omega) (by omega) (by decide)) | (have zf1 := @be_len; refine XG ?_; clear zf1; first | exact rfl | exact True.intro | ((try (repeat' with_reducible refine And.intro ?_ ?_)); (try any_goals (first | refine zm ?_ | exact CL | fail))))))
    ((first | apply pr_psv | apply prD_psv | apply pr_qrunv | apply prD_qrunv) <;> (first | exact (bytesOf_ps _ (1031 + 8 * b) 2 (by omega) (by omega) (by decide)) | (have zf1 := @be_len; refine XG ?_; clear zf1; first | exact rfl | exact True.intro | ((try (repeat' with_reducible refine And.intro ?_ ?_)); (try any_goals (first | refine zm ?_ | exact CL | fail))))))
    ((first | apply pr_psv | apply prD_psv | apply pr_qrunv | apply prD_qrunv) <;> (first | exact (bytesOf_ps _ 1 1 (by omega) (by omega) (by decide)) | (have zf1 := @be_len; refine XG ?_; clear zf1; first | exact rfl | exact True.intro | ((try (repeat' with_reducible refine And.intro ?_ ?_)); (try any_goals (first | refine zm ?_ | exact CL | fail))))))
    simp [evB]
  | true =>
    (refine xw_ifp (fun h2 => ?_) (fun h2 => ?_) <;> try exact h2.elim)
    (refine XG ?_; ((try (repeat' with_reducible refine And.intro ?_ ?_)); (try any_goals (first | refine zm ?_ | exact CL | fail))))
    ((first | apply pr_psv | apply prD_psv | apply pr_qrunv | apply prD_qrunv) <;> (first | exact (bytesOf_ps _ t 8 (by omega) (by omega) (by decide)) | (have zf1 := @be_len; refine XG ?_; clear zf1; first | exact rfl | exact True.intro | ((try (repeat' with_reducible refine And.intro ?_ ?_)); (try any_goals (first | refine zm ?_ | exact CL | fail))))))
    ((first | apply pr_psv | apply prD_psv | apply pr_qrunv | apply prD_qrunv) <;> (first | exact (bytesOf_ps _ (167772161 + s) 4 (by omega) (by omega) (by decide)) | (have zf1 := @be_len; refine XG ?_; clear zf1; first | exact rfl | exact True.intro | ((try (repeat' with_reducible refine And.intro ?_ ?_)); (try any_goals (first | refine zm ?_ | exact CL | fail))))))
    ((first | apply pr_psv | apply prD_psv | apply pr_qrunv | apply prD_qrunv) <;> (first | exact (bytesOf_ps _ (3405803777 + a) 4 (by omega) (by omega) (by decide)) | (have zf1 := @be_len; refine XG ?_; clear zf1; first | exact rfl | exact True.intro | ((try (repeat' with_reducible refine And.intro ?_ ?_)); (try any_goals (first | refine zm ?_ | exact CL | fail))))))
    ((first | apply pr_psv | apply prD_psv | apply pr_qrunv | apply prD_qrunv) <;> (first | exact (bytesOf_ps _ (1024 + 8 * b) 2 (by omega) (by omega) (by decide)) | (have zf1 := @be_len; refine XG ?_; clear zf1; first | exact rfl | exact True.intro | ((try (repeat' with_reducible refine And.intro ?_ ?_)); (try any_goals (first | refine zm ?_ | exact CL | fail))))))
    ((first | apply pr_psv | apply prD_psv | apply pr_qrunv | apply prD_qrunv) <;> (first | exact (bytesOf_ps _ (1031 + 8 * b) 2 (by omega) (by omega) (by decide)) | (have zf1 := @be_len; refine XG ?_; clear zf1; first | exact rfl | exact True.intro | ((try (repeat' with_reducible refine And.intro ?_ ?_)); (try any_goals (first | refine zm ?_ | exact CL | fail))))))
    ((first | apply pr_psv | apply prD_psv | apply pr_qrunv | apply prD_qrunv) <;> (first | exact (bytesOf_ps _ 2 1 (by omega) (by omega) (by decide)) | (have zf1 := @be_len; refine XG ?_; clear zf1; first | exact rfl | exact True.intro | ((try (repeat' with_reducible refine And.intro ?_ ?_)); (try any_goals (first | refine zm ?_ | exact CL | fail))))))
    simp [evB]

theorem be_10 : be 10 2 = [0, 10] := by decide +kernel
theorem be_1 : be 1 4 = [0, 0, 0, 1] := by decide +kernel
theorem messageR_ps (gl : Nat → AV) (seq time set : Int) (bs : List UInt8) (hl : bs.length ≤ 10000000) (ht : 0 ≤ time) (hs : 0 ≤ set ∧ set ≤ 65535) :
    PS Tryd.prog gl 24 [.int .i64 seq, .int .i64 time, .int .i64 set, .str bs] (msgT seq time set bs) := by
  refine ft_messageR.ps (of_decide_eq_true rfl) (by unfold msgT; split <;> simp [nmOk, nmAll]) fun c hN hg => ?_
  unfold T_messageR
  (refine XG ?_; ((try (repeat' with_reducible refine And.intro ?_ ?_)); (try any_goals (first | refine zm ?_ | exact CL | fail))))
  have e0 : time.tmod 4294967296 = time % 4294967296 := Int.tmod_eq_emod_of_nonneg ht
  (refine xw_ifp (fun h1 => ?_) (fun h1 => ?_) <;> try exact h1.elim)
  · (refine XG ?_; ((try (repeat' with_reducible refine And.intro ?_ ?_)); (try any_goals (first | refine zm ?_ | exact CL | fail))))
    unfold msgT; rw [if_neg (by omega)]
  · (refine XG ?_; ((try (repeat' with_reducible refine And.intro ?_ ?_)); (try any_goals (first | refine zm ?_ | exact CL | fail))))
    ((first | apply pr_psv | apply prD_psv | apply pr_qrunv | apply prD_qrunv) <;> (first | exact (bytesOf_ps _ (20 + bs.length) 2 (by omega) (by omega) (by decide)) | (have zf1 := @be_len; refine XG ?_; clear zf1; first | exact rfl | exact True.intro | ((try (repeat' with_reducible refine And.intro ?_ ?_)); (try any_goals (first | refine zm ?_ | exact CL | fail))))))
    ((first | apply pr_psv | apply prD_psv | apply pr_qrunv | apply prD_qrunv) <;> (first | exact (bytesOf_ps _ (time.tmod 4294967296) 4 (by omega) (by omega) (by decide)) | (have zf1 := @be_len; refine XG ?_; clear zf1; first | exact rfl | exact True.intro | ((try (repeat' with_reducible refine And.intro ?_ ?_)); (try any_goals (first | refine zm ?_ | exact CL | fail))))))
    ((first | apply pr_psv | apply prD_psv | apply pr_qrunv | apply prD_qrunv) <;> (first | exact (bytesOf_ps _ seq 4 (by omega) (by omega) (by decide)) | (have zf1 := @be_len; refine XG ?_; clear zf1; first | exact rfl | exact True.intro | ((try (repeat' with_reducible refine And.intro ?_ ?_)); (try any_goals (first | refine zm ?_ | exact CL | fail))))))
    ((first | apply pr_psv | apply prD_psv | apply pr_qrunv | apply prD_qrunv) <;> (first | exact (bytesOf_ps _ set 2 (by omega) (by omega) (by decide)) | (have zf1 := @be_len; refine XG ?_; clear zf1; first | exact rfl | exact True.intro | ((try (repeat' with_reducible refine And.intro ?_ ?_)); (try any_goals (first | refine zm ?_ | exact CL | fail))))))
    ((first | apply pr_psv | apply prD_psv | apply pr_qrunv | apply prD_qrunv) <;> (first | exact (bytesOf_ps _ (4 + bs.length) 2 (by omega) (by omega) (by decide)) | (have zf1 := @be_len; refine XG ?_; clear zf1; first | exact rfl | exact True.intro | ((try (repeat' with_reducible refine And.intro ?_ ?_)); (try any_goals (first | refine zm ?_ | exact CL | fail))))))
    unfold msgT msgB
    rw [if_pos (by omega), be_10, be_1]
    simp

/-- The events' bytes, one behind the other. -/
def evsB (l : List Ev) : List UInt8 := l.flatMap evB
theorem evsB_len (l : List Ev) : (evsB l).length = 21 * l.length := by
  induction l with
  | nil => rfl
  | cons e l ih => simp [evsB, evB_len] at ih ⊢; omega
theorem evsB_succ (l : List Ev) (k : Nat) (h : k < l.length) : evsB (l.take (k + 1)) = evsB (l.take k) ++ evB l[k] := by
  rw [List.take_add_one, List.getElem?_eq_getElem h]
  simp only [evsB, List.flatMap_append, Option.toList_some, List.flatMap_cons, List.flatMap_nil, List.append_nil]
/-- Are all of these of a time, and good? -/
def allE (t0 : Int) (l : List Ev) : Bool := l.all fun e => goodE e.t e.s e.a e.b && e.t == t0
def evMsg (seq : Int) : List Ev → AV
  | [] => .tup [.str [], .int .i64 7]
  | e :: l => if 64 < l.length + 1 then .tup [.str [], .int .i64 6] else if allE e.t (e :: l) = true then msgT seq e.t 300 (evsB (e :: l)) else .tup [.str [], .int .i64 2]
theorem msgT_nm (n : Nat) (seq time set : Int) (bs : List UInt8) : nmOk n (msgT seq time set bs) := by unfold msgT; split <;> simp [nmOk, nmAll]
theorem evMsg_nm (n : Nat) (seq : Int) (l : List Ev) : nmOk n (evMsg seq l) := by
  unfold evMsg
  split
  · simp [nmOk, nmAll]
  · split
    · simp [nmOk, nmAll]
    · split
      · exact msgT_nm _ _ _ _ _
      · simp [nmOk, nmAll]
theorem evMsg_flat (seq : Int) (l : List Ev) : Flat (evMsg seq l) := by
  have h2 : ∀ (b : List UInt8) (n : Int), Flat (.tup [.str b, .int .i64 n]) := fun b n => .tup (by simp [Flat.str, Flat.int])
  unfold evMsg
  split
  · exact h2 _ _
  · split
    · exact h2 _ _
    · split
      · unfold msgT; split <;> exact h2 _ _
      · exact h2 _ _

set_option maxHeartbeats 1000000 in
theorem MessageR_ps (gl : Nat → AV) (seq : Int) (l : List Ev) (hll : l.length ≤ 4611686018427387904) :
    PS Tryd.prog gl 13 [.int .i64 seq, .isl l.length (evs5 l)] (evMsg seq l) := by
  refine ft_MessageR.ps (of_decide_eq_true rfl) (evMsg_nm _ _ _) fun c hN hg => ?_
  unfold T_MessageR
  have hl := evs5_len l
  (refine XG ?_; ((try (repeat' with_reducible refine And.intro ?_ ?_)); (try any_goals (first | refine zm ?_ | exact CL | fail))))
  (refine xw_ifp (fun h1 => ?_) (fun h1 => ?_) <;> try exact h1.elim)
  · have : l = [] := List.eq_nil_of_length_eq_zero (by omega)
    subst this
    (refine XG ?_; ((try (repeat' with_reducible refine And.intro ?_ ?_)); (try any_goals (first | refine zm ?_ | exact CL | fail))))
    rfl
  obtain ⟨e0, l0, hL⟩ : ∃ e0 l0, e0 :: l0 = l := by
    cases l with
    | nil => simp at h1
    | cons e l => exact ⟨e, l, rfl⟩
  have hc0 : (evs5 l).getD 0 .any = .int .i64 e0.t := by
    have := evs5_get (e0 :: l0) 0 (by simp) 0 (by decide)
    simp only [List.getElem_cons_zero, Ev.enc, List.getD_cons_zero, Nat.zero_mul, Nat.zero_add] at this
    rw [← hL]; exact this
  (refine XG ?_; ((try (repeat' with_reducible refine And.intro ?_ ?_)); (try any_goals (first | refine zm ?_ | exact CL | fail))))
  (refine xw_ifp (fun h2 => ?_) (fun h2 => ?_) <;> try exact h2.elim)
  · (refine XG ?_; ((try (repeat' with_reducible refine And.intro ?_ ?_)); (try any_goals (first | refine zm ?_ | exact CL | fail))))
    subst hL
    simp only [evMsg]
    rw [if_pos (by simp only [List.length_cons] at h2; omega)]
  have hlen : l.length ≤ 64 := by omega
  have hlen2 : ¬ 64 < l0.length + 1 := by rw [← hL] at hlen; simp only [List.length_cons] at hlen; omega
  generalize l = L at *
  (refine XG ?_; ((try (repeat' with_reducible refine And.intro ?_ ?_)); (try any_goals (first | refine zm ?_ | exact CL | fail))))
  refine loop_rule (fun k : Nat => k ≤ L.length ∧ allE e0.t (L.take k) = true) (fun k => ⟨[(0, .int .i64 seq), (1, .isl L.length (evs5 L)), (6, .str (evsB (L.take k))), (15, .isl L.length (evs5 L)), (16, .int .i64 L.length), (17, .int .i64 k)], [], 0⟩) (fun k => L.length - k) ft_MessageR.mixed hN
    ⟨0, ⟨by omega, rfl⟩, [], by (refine XG ?_; ((try (repeat' with_reducible refine And.intro ?_ ?_)); (try any_goals (first | refine zm ?_ | exact CL | fail)))); rfl⟩ fun k ⟨hk, hall⟩ => ?_
  (refine XG ?_; ((try (repeat' with_reducible refine And.intro ?_ ?_)); (try any_goals (first | refine zm ?_ | exact CL | fail))))
  (refine xw_ifp (fun h3 => ?_) (fun h3 => ?_) <;> try exact h3.elim)
  · have hkn : k < L.length := by omega
    have hcut := evs5_cut L k hkn
    have htk := evsB_succ L k hkn
    have hall2 : allE e0.t (L.take (k + 1)) = (goodE L[k].t L[k].s L[k].a L[k].b && L[k].t == e0.t) := by
      unfold allE at hall ⊢
      rw [List.take_add_one, List.getElem?_eq_getElem hkn, List.all_append, hall]
      simp
    have hbad : (goodE L[k].t L[k].s L[k].a L[k].b && L[k].t == e0.t) = false → allE e0.t L = false := fun hb => by
      unfold allE
      rw [List.all_eq_false]
      exact ⟨L[k], List.getElem_mem _, by rw [hb]; simp⟩
    have hlk : (evsB (L.take k)).length = 21 * k := by rw [evsB_len]; simp; omega
    have htx := eventText_ps c.gl L[k]
    generalize L[k] = e at *
    obtain ⟨t, sb, a, b, f⟩ := e
    simp only [Ev.enc] at hcut htx
    (have zf1 := @hl; have zf2 := @hcut; refine XG ?_; clear zf1 zf2; ((try (repeat' with_reducible refine And.intro ?_ ?_)); (try any_goals (first | refine zm ?_ | exact CL | fail))))
    ((first | apply pr_psv | apply prD_psv | apply pr_qrunv | apply prD_qrunv) <;> (first | exact (GoodEvent_ps _ _ _ _ _ _) | (have zf1 := @hcut; have zf2 := @hc0; refine XG ?_; clear zf1 zf2; first | exact rfl | exact True.intro | ((try (repeat' with_reducible refine And.intro ?_ ?_)); (try any_goals (first | refine zm ?_ | exact CL | fail))))))
    (refine xw_ifp (fun h4 => ?_) (fun h4 => ?_) <;> try exact h4.elim)
    · have hb := hbad (by
        simp only [errE] at h4
        cases hg : goodE t sb a b
        · rfl
        · rw [if_pos hg] at h4; simpa using h4)
      (refine XG ?_; ((try (repeat' with_reducible refine And.intro ?_ ?_)); (try any_goals (first | refine zm ?_ | exact CL | fail))))
      subst hL
      simp only [evMsg]
      rw [if_neg hlen2, if_neg (by rw [hb]; simp)]
    · have hgd : goodE t sb a b = true := by
        simp only [errE] at h4
        by_cases hg : goodE t sb a b = true
        · exact hg
        · rw [if_neg hg] at h4; simp at h4
      have ht : t = e0.t := by
        simp only [errE] at h4
        rw [if_pos hgd] at h4; simpa using h4
      (refine XG ?_; ((try (repeat' with_reducible refine And.intro ?_ ?_)); (try any_goals (first | refine zm ?_ | exact CL | fail))))
      ((first | apply pr_psv | apply prD_psv | apply pr_qrunv | apply prD_qrunv) <;> (first | exact (htx hgd) | (have zf1 := @hlk; have zf2 := @evB_len; refine XG ?_; clear zf1 zf2; first | exact rfl | exact True.intro | ((try (repeat' with_reducible refine And.intro ?_ ?_)); (try any_goals (first | refine zm ?_ | exact CL | fail))))))
      refine ⟨k + 1, ⟨by omega, by rw [hall2, hgd, ht]; simp⟩, ⟨[], ?_⟩, by omega⟩
      (have zf1 := @htk; refine XG ?_; clear zf1; ((try (repeat' with_reducible refine And.intro ?_ ?_)); (try any_goals (first | refine zm ?_ | exact CL | fail))))
  · have : k = L.length := by omega
    subst this
    rw [List.take_length] at hall ⊢
    have hb : (evsB L).length ≤ 10000000 := by rw [evsB_len]; omega
    have ht : 0 ≤ e0.t := by
      subst hL
      simp [allE, goodE] at hall
      omega
    have hm := messageR_ps c.gl seq e0.t 300 (evsB L) hb ht (by omega)
    have e2 : evMsg seq L = msgT seq e0.t 300 (evsB L) := by
      subst hL
      simp only [evMsg]
      rw [if_neg hlen2, if_pos hall]
    rw [e2]
    clear e2
    unfold msgT at hm ⊢
    (have zf1 := @hc0; refine XG ?_; clear zf1; ((try (repeat' with_reducible refine And.intro ?_ ?_)); (try any_goals (first | refine zm ?_ | exact CL | fail))))
    split at hm
    · ((first | apply pr_psv | apply prD_psv | apply pr_qrunv | apply prD_qrunv) <;> (first | exact hm | (have zf1 := @hc0; refine XG ?_; clear zf1; first | exact rfl | exact True.intro | ((try (repeat' with_reducible refine And.intro ?_ ?_)); (try any_goals (first | refine zm ?_ | exact CL | fail))))))
      rw [if_pos (by assumption)]
    · ((first | apply pr_psv | apply prD_psv | apply pr_qrunv | apply prD_qrunv) <;> (first | exact hm | (have zf1 := @hc0; refine XG ?_; clear zf1; first | exact rfl | exact True.intro | ((try (repeat' with_reducible refine And.intro ?_ ?_)); (try any_goals (first | refine zm ?_ | exact CL | fail))))))
      rw [if_neg (by assumption)]
end Go.Proofs.YtglkiaiipkdkbaaDoor
