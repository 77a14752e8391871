/- The walk of the statement RecordBack. No conditions but the ones that stand in each. -/
import Derived.Test.YtglkiaiipkdkbaaDoorRu
namespace Go.Proofs.YtglkiaiipkdkbaaDoor
set_option linter.all false
set_option linter.unusedSimpArgs false
open Go.RowKit

structure Tl where
  t : Int
  es : List Ev
def Tl.enc (x : Tl) : List AV := [.int .i64 x.t, .isl x.es.length (evs5 x.es)]
def tls (l : List Tl) : List AV := l.flatMap Tl.enc
theorem tls_len (l : List Tl) : (tls l).length = l.length * 2 := by
  induction l with
  | nil => rfl
  | cons e l ih => simp [tls, Tl.enc] at ih ⊢; omega
theorem tls_cut (l : List Tl) (k : Nat) (h : k < l.length) : ((tls l).drop (k * 2)).take 2 = (l[k]).enc := by
  induction l generalizing k with
  | nil => simp at h
  | cons e l ih =>
    cases k with
    | zero => simp [tls, Tl.enc]
    | succ k =>
      have := ih k (by simpa using h)
      have e1 : tls (e :: l) = e.enc ++ tls l := by simp [tls]
      rw [e1, List.drop_append, List.drop_eq_nil_of_le (by simp [Tl.enc]; omega)]
      have e2 : (k + 1) * 2 - e.enc.length = k * 2 := by simp [Tl.enc]; omega
      rw [e2]; simpa using this
theorem tls_get (l : List Tl) (i : Nat) (h : i < l.length) (j : Nat) (hj : j < 2) : (tls l).getD (i * 2 + j) .any = l[i].enc.getD j .any := by
  have := tls_cut l i h
  rw [← this, cut_get hj]
theorem nm_tls (n : Nat) (l : List Tl) : nmAll n (tls l) = True := by
  refine eq_true ?_
  rw [nmAll_iff]
  intro x hx
  obtain ⟨e, _, he⟩ := List.mem_flatMap.1 hx
  simp [Tl.enc] at he
  rcases he with rfl | rfl
  · simp [nmOk]
  · simp [nmOk, evs5_nm]
theorem rens_tls (ρ : Nat → Nat) (l : List Tl) : rens ρ (tls l) = tls l := by
  rw [rens_eq]
  refine (List.map_congr_left (g := id) fun x hx => ?_).trans (List.map_id _)
  obtain ⟨e, _, he⟩ := List.mem_flatMap.1 hx
  simp [Tl.enc] at he
  rcases he with rfl | rfl
  · simp [ren]
  · simp [ren, rens_evs5]
attribute [go_sem] nm_tls rens_tls tls_len
theorem tmod_bd' (k n : Int) (h : 0 < n) : -n < k.tmod n ∧ k.tmod n < n := by
  have h1 := Int.tmod_lt_of_pos k h
  have h2 := Int.tmod_lt_of_pos (-k) h
  rw [Int.neg_tmod] at h2
  omega
theorem kpick_ps (gl : Nat → AV) (k n : Int) (h0 : 0 < n) (h1 : n ≤ 4611686018427387904) (hk : -9223372036854775808 ≤ k ∧ k ≤ 9223372036854775807) : PS Tryd.prog gl 20 [.int .i64 k, .int .i64 n] (.int .i64 (k % n)) := by
  refine ft_kpick.ps (of_decide_eq_true rfl) (by simp [nmOk]) fun c hN hg => ?_
  unfold T_kpick
  have hb := tmod_bd' k n h0
  have he : k.tmod n = k % n ∨ k.tmod n = k % n - n := by
    rw [Int.tmod_eq_emod]
    split
    · exact .inl (by omega)
    · right
      have e : (n.natAbs : Int) = n := by omega
      rw [e]
  have h2 := Int.emod_nonneg k (show n ≠ 0 by omega)
  have h3 := Int.emod_lt_of_pos k h0
  generalize k % n = s at *
  (refine XG ?_; ((try (repeat' with_reducible refine And.intro ?_ ?_)); (try any_goals (first | refine zm ?_ | exact CL | fail))))
  (refine xw_ifp (fun g1 => ?_) (fun g1 => ?_) <;> try exact g1.elim)
  · (refine XG ?_; ((try (repeat' with_reducible refine And.intro ?_ ?_)); (try any_goals (first | refine zm ?_ | exact CL | fail))))
  · (refine XG ?_; ((try (repeat' with_reducible refine And.intro ?_ ?_)); (try any_goals (first | refine zm ?_ | exact CL | fail))))
theorem lastT_app {t : Int} {all p : List Ev} (h : oneT t p) (h0 : p ≠ []) : lastT (all ++ p) = t := by
  have hp : 0 < p.length := List.length_pos_iff.2 h0
  unfold lastT
  rw [List.getD_eq_getElem?_getD, List.getElem?_append_right (by rw [List.length_append]; omega)]
  have e : (all ++ p).length - 1 - all.length = p.length - 1 := by rw [List.length_append]; omega
  rw [e, List.getElem?_eq_getElem (by omega), Option.getD_some]
  exact (h _ (List.getElem_mem _)).2
theorem evMsg_one {t : Int} {p : List Ev} (h : oneT t p) (h0 : p ≠ []) (h20 : p.length ≤ 20) (q : Int) (hq : 0 ≤ q ∧ q < 4294967296) : evMsg q p = .tup [.str (msgB q t 300 (evsB p)), .int .i64 0] := by
  cases p with
  | nil => exact (h0 rfl).elim
  | cons e p =>
    have het := (h e (by simp)).2
    have ha : allE e.t (e :: p) = true := by
      unfold allE
      rw [List.all_eq_true]
      intro x hx
      obtain ⟨h1, h2⟩ := h x hx
      have hg := (good_iff x).2 h1
      rw [h2] at hg
      simp [hg, h2, het]
    unfold evMsg
    dsimp only
    rw [if_neg (by simp only [List.length_cons] at h20; omega), if_pos ha, het]
    exact if_pos hq
theorem evs5_app (a b : List Ev) : evs5 a ++ evs5 b = evs5 (a ++ b) := by simp [evs5]
structure BkI where
  i : Nat
  now : Int
  s : List UInt8
  all : List Ev
  cnt : Nat
structure PtI where
  k : Nat
  p : List Ev
set_option maxHeartbeats 4000000 in
set_option maxRecDepth 20000 in
theorem RecordBack_ps (gl : Nat → AV) (h0 : gl 0 = .xp (ints fieldsL) 0) (l : List Tl) (hll : l.length ≤ 140737488355328) (hbd : ∀ x ∈ l, (-9223372036854775808 ≤ x.t ∧ x.t ≤ 9223372036854775807) ∧ x.es.length ≤ 9223372036854775807) :
    PS Tryd.prog gl 7 [.isl l.length (tls l)] (.bool true) := by
  refine ft_RecordBack.ps (of_decide_eq_true rfl) (by simp [nmOk]) fun c hN hg => ?_
  unfold T_RecordBack
  have htl := tellsK_ps c.gl (by rw [hg]; exact h0)
  have htm := Template_ps c.gl (by rw [hg]; exact h0) 0
  have e4 : msgT 0 0 2 (tmpl 6) = .tup [.str (msgB 0 0 2 (tmpl 6)), .int .i64 0] := if_pos (by omega)
  rw [e4] at htm
  have hml : (msgB 0 0 2 (tmpl 6)).length = 48 := by rw [msgB_len, tmpl_len 6 (by omega)]
  have hts := told_start
  generalize msgB 0 0 2 (tmpl 6) = S0 at *
  have hRd := fun (s : List UInt8) hs => Read_ps c.gl (by rw [hg]; exact h0) s hs
  have hlt := tls_len l
  (refine XG ?_; ((try (repeat' with_reducible refine And.intro ?_ ?_)); (try any_goals (first | refine zm ?_ | exact CL | fail))))
  ((first | apply pr_psv | apply prD_psv | apply pr_qrunv | apply prD_qrunv) <;> (first | exact htl | (refine XG ?_; first | exact rfl | exact True.intro | ((try (repeat' with_reducible refine And.intro ?_ ?_)); (try any_goals (first | refine zm ?_ | exact CL | fail))))))
  (refine xw_ifp (fun g1 => ?_) (fun g1 => ?_) <;> try exact g1.elim)
  (refine XG ?_; ((try (repeat' with_reducible refine And.intro ?_ ?_)); (try any_goals (first | refine zm ?_ | exact CL | fail))))
  ((first | apply pr_psv | apply prD_psv | apply pr_qrunv | apply prD_qrunv) <;> (first | exact htm | (refine XG ?_; first | exact rfl | exact True.intro | ((try (repeat' with_reducible refine And.intro ?_ ?_)); (try any_goals (first | refine zm ?_ | exact CL | fail))))))
  refine loop_nil 5 5 rfl rfl ?_
  refine loop_rule (fun x : BkI => x.i ≤ 20 ∧ x.i ≤ l.length ∧ ToldI x.cnt x.s x.all ∧ (0 ≤ x.now ∧ x.now ≤ 1000 * x.i) ∧ (x.all = [] ∨ lastT x.all ≤ x.now) ∧ x.all.length ≤ 20 * x.i ∧ x.s.length ≤ 48 + 500 * x.i)
    (fun x => ⟨[(0, .isl l.length (tls l)), (3, .str x.s), (5, .sl 5 0 0 x.all.length x.all.length), (6, .int .i64 x.now), (7, .int .i64 x.i)], [(0, .cells (evs5 x.all))], 1⟩) (fun x => 20 - x.i) ft_RecordBack.mixed hN
    ⟨⟨0, 0, S0, [], 1⟩, ⟨by simp, by simp, hts, by simp, .inl rfl, by simp, by dsimp only; omega⟩, [], by (have zf1 := @St.named.eq_1; refine XG ?_; clear zf1; ((try (repeat' with_reducible refine And.intro ?_ ?_)); (try any_goals (first | refine zm ?_ | exact CL | fail)))); exact rfl⟩ fun ⟨i, now, s, all, cnt⟩ hI => ?_
  obtain ⟨hi, hil, hT, hnow, hla, hal, hsl⟩ := id hI
  clear hI
  dsimp only at hi hil hT hnow hla hal hsl
  have hel := evs5_len all
  (refine XG ?_; ((try (repeat' with_reducible refine And.intro ?_ ?_)); (try any_goals (first | refine zm ?_ | exact CL | fail))))
  (refine xw_ifp (fun g2 => ?_) (fun g2 => ?_) <;> try exact g2.elim)
  · have hin : i < l.length := by omega
    have hg0 := tls_get l i hin 0 (by decide)
    have hg1 := tls_get l i hin 1 (by decide)
    rw [Nat.add_zero] at hg0
    obtain ⟨hbt, hbe⟩ := hbd _ (List.getElem_mem hin)
    generalize l[i] = x at *
    obtain ⟨tt, es⟩ := x
    unfold Tl.enc at hg0 hg1
    dsimp only [List.getD_cons_zero, List.getD_cons_succ] at hg0 hg1 hbt hbe
    have hpk := kpick_ps c.gl tt 1000 (by decide) (by decide) hbt
    have p0 := Int.emod_nonneg tt (show (1000 : Int) ≠ 0 by decide)
    have p1 := Int.emod_lt_of_pos tt (show (0 : Int) < 1000 by decide)
    generalize tt % 1000 = dt at *
    have hel2 := evs5_len es
    (have zf1 := @hlt; have zf2 := @hg0; have zf3 := @hg1; refine XG ?_; clear zf1 zf2 zf3; ((try (repeat' with_reducible refine And.intro ?_ ?_)); (try any_goals (first | refine zm ?_ | exact CL | fail))))
    ((first | apply pr_psv | apply prD_psv | apply pr_qrunv | apply prD_qrunv) <;> (first | exact hpk | (have zf1 := @hlt; have zf2 := @hg0; have zf3 := @hg1; refine XG ?_; clear zf1 zf2 zf3; first | exact rfl | exact True.intro | ((try (repeat' with_reducible refine And.intro ?_ ?_)); (try any_goals (first | refine zm ?_ | exact CL | fail))))))
    refine loop_nil 8 5 rfl rfl ?_
    obtain ⟨hP1, hP2⟩ := part_ok (t := now + dt) es [] (fun x hx => by cases hx) (by decide)
    generalize hP : part (now + dt) [] es = P at *
    refine loop_rule (fun x : PtI => x.k ≤ es.length ∧ part (now + dt) x.p (es.drop x.k) = P ∧ x.p.length ≤ 20)
      (fun x => ⟨[(0, .isl l.length (tls l)), (3, .str s), (5, .sl 5 0 0 all.length all.length), (6, .int .i64 (now + dt)), (7, .int .i64 i), (8, .sl 5 1 0 x.p.length x.p.length), (44, .isl es.length (evs5 es)), (45, .int .i64 es.length), (46, .int .i64 x.k)], [(0, .cells (evs5 all)), (1, .cells (evs5 x.p))], 2⟩) (fun x => es.length - x.k) ft_RecordBack.mixed hN
      ⟨⟨0, []⟩, ⟨by simp, hP, by simp⟩, [], by (have zf1 := @St.named.eq_1; refine XG ?_; clear zf1; ((try (repeat' with_reducible refine And.intro ?_ ?_)); (try any_goals (first | refine zm ?_ | exact CL | fail)))); exact rfl⟩ fun ⟨k, p⟩ hJ => ?_
    obtain ⟨hk, hp, hp20⟩ := id hJ
    clear hJ
    dsimp only at hk hp hp20
    have help := evs5_len p
    (refine XG ?_; ((try (repeat' with_reducible refine And.intro ?_ ?_)); (try any_goals (first | refine zm ?_ | exact CL | fail))))
    (refine xw_ifp (fun g3 => ?_) (fun g3 => ?_) <;> try exact g3.elim)
    · have hkn : k < es.length := by omega
      have hcut := evs5_cut es k hkn
      have hd : es.drop k = es[k] :: es.drop (k + 1) := List.drop_eq_getElem_cons hkn
      rw [hd] at hp
      unfold part at hp
      generalize es[k] = e at *
      obtain ⟨te, sb, a, b, f⟩ := e
      simp only [Ev.enc] at hcut
      unfold goodAt at hp
      dsimp only at hp
      have hGd := rGood_ps c.gl (now + dt) sb a b f
      by_cases hgd : goodE (now + dt) sb a b = true
      · rw [errE_ok hgd] at hGd
        by_cases hp19 : p.length < 20
        · rw [if_pos ⟨hgd, hp19⟩] at hp
          (have zf1 := @hel2; have zf2 := @hcut; refine XG ?_; clear zf1 zf2; ((try (repeat' with_reducible refine And.intro ?_ ?_)); (try any_goals (first | refine zm ?_ | exact CL | fail))))
          ((first | apply pr_psv | apply prD_psv | apply pr_qrunv | apply prD_qrunv) <;> (first | exact hGd | (have zf1 := @hel2; have zf2 := @hcut; refine XG ?_; clear zf1 zf2; first | exact rfl | exact True.intro | ((try (repeat' with_reducible refine And.intro ?_ ?_)); (try any_goals (first | refine zm ?_ | exact CL | fail))))))
          (refine xw_ifp (fun g4 => ?_) (fun g4 => ?_) <;> try exact g4.elim)
          · (refine XG ?_; ((try (repeat' with_reducible refine And.intro ?_ ?_)); (try any_goals (first | refine zm ?_ | exact CL | fail))))
            ((first | apply pr_app | apply prD_app | apply pr_bsl | apply prD_bsl | apply pr_s2b | apply prD_s2b); (refine XG ?_; ((try (repeat' with_reducible refine And.intro ?_ ?_)); (try any_goals (first | refine zm ?_ | exact CL | fail)))))
            ((first | apply pr_app | apply prD_app | apply pr_bsl | apply prD_bsl | apply pr_s2b | apply prD_s2b); (have zf1 := @help; refine XG ?_; clear zf1; ((try (repeat' with_reducible refine And.intro ?_ ?_)); (try any_goals (first | refine zm ?_ | exact CL | fail)))))
            refine ⟨⟨k + 1, p ++ [(⟨now + dt, sb, a, b, f⟩ : Ev)]⟩, ⟨by dsimp only; omega, hp, by simp; omega⟩, ⟨[(1, 4)], ?_⟩, by dsimp only; omega⟩
            have hsn := evs5_snoc p (now + dt) sb a b f
            have hln : (p ++ [(⟨now + dt, sb, a, b, f⟩ : Ev)]).length = p.length + 1 := by simp
            (have zf1 := @hsn; have zf2 := @hln; refine XG ?_; clear zf1 zf2; ((try (repeat' with_reducible refine And.intro ?_ ?_)); (try any_goals (first | refine zm ?_ | exact CL | fail))))
          · omega
        · rw [if_neg (fun h => hp19 h.2)] at hp
          (have zf1 := @hel2; have zf2 := @hcut; refine XG ?_; clear zf1 zf2; ((try (repeat' with_reducible refine And.intro ?_ ?_)); (try any_goals (first | refine zm ?_ | exact CL | fail))))
          ((first | apply pr_psv | apply prD_psv | apply pr_qrunv | apply prD_qrunv) <;> (first | exact hGd | (have zf1 := @hel2; have zf2 := @hcut; refine XG ?_; clear zf1 zf2; first | exact rfl | exact True.intro | ((try (repeat' with_reducible refine And.intro ?_ ?_)); (try any_goals (first | refine zm ?_ | exact CL | fail))))))
          (refine xw_ifp (fun g4 => ?_) (fun g4 => ?_) <;> try exact g4.elim)
          · omega
          · (refine XG ?_; ((try (repeat' with_reducible refine And.intro ?_ ?_)); (try any_goals (first | refine zm ?_ | exact CL | fail))))
            refine ⟨⟨k + 1, p⟩, ⟨by dsimp only; omega, hp, hp20⟩, ⟨[], ?_⟩, by dsimp only; omega⟩
            (refine XG ?_; ((try (repeat' with_reducible refine And.intro ?_ ?_)); (try any_goals (first | refine zm ?_ | exact CL | fail))))
      · have he2 : errE (now + dt) sb a b = 2 := if_neg hgd
        rw [he2] at hGd
        rw [if_neg (fun h => hgd h.1)] at hp
        (have zf1 := @hel2; have zf2 := @hcut; refine XG ?_; clear zf1 zf2; ((try (repeat' with_reducible refine And.intro ?_ ?_)); (try any_goals (first | refine zm ?_ | exact CL | fail))))
        ((first | apply pr_psv | apply prD_psv | apply pr_qrunv | apply prD_qrunv) <;> (first | exact hGd | (have zf1 := @hel2; have zf2 := @hcut; refine XG ?_; clear zf1 zf2; first | exact rfl | exact True.intro | ((try (repeat' with_reducible refine And.intro ?_ ?_)); (try any_goals (first | refine zm ?_ | exact CL | fail))))))
        (refine xw_ifp (fun g4 => ?_) (fun g4 => ?_) <;> try exact g4.elim)
        (refine XG ?_; ((try (repeat' with_reducible refine And.intro ?_ ?_)); (try any_goals (first | refine zm ?_ | exact CL | fail))))
        refine ⟨⟨k + 1, p⟩, ⟨by dsimp only; omega, hp, hp20⟩, ⟨[], ?_⟩, by dsimp only; omega⟩
        (refine XG ?_; ((try (repeat' with_reducible refine And.intro ?_ ?_)); (try any_goals (first | refine zm ?_ | exact CL | fail))))
    · have hke : k = es.length := by omega
      subst hke
      rw [List.drop_length] at hp
      unfold part at hp
      subst hp
      have hMs := Message_ps c.gl all.length p (by omega)
      have hfl := evMsg_flat all.length p
      by_cases hp0 : p = []
      · subst hp0
        have e7 : evMsg all.length [] = .tup [.str [], .int .i64 7] := rfl
        rw [e7] at hMs hfl
        (refine XG ?_; ((try (repeat' with_reducible refine And.intro ?_ ?_)); (try any_goals (first | refine zm ?_ | exact CL | fail))))
        ((first | apply pr_bor | apply prD_bor) <;> (first | exact hMs | (with_reducible exact hfl) | (have zf1 := @hel; refine XG ?_; clear zf1; first | exact rfl | exact True.intro | ((try (repeat' with_reducible refine And.intro ?_ ?_)); (try any_goals (first | refine zm ?_ | exact CL | fail))))))
        (refine xw_ifp (fun g4 => ?_) (fun g4 => ?_) <;> try exact g4.elim)
        (refine XG ?_; ((try (repeat' with_reducible refine And.intro ?_ ?_)); (try any_goals (first | refine zm ?_ | exact CL | fail))))
        (refine xw_ifp (fun g5 => ?_) (fun g5 => ?_) <;> try exact g5.elim)
        (refine XG ?_; ((try (repeat' with_reducible refine And.intro ?_ ?_)); (try any_goals (first | refine zm ?_ | exact CL | fail))))
        refine ⟨⟨i + 1, now + dt, s, all, cnt⟩, ⟨by dsimp only; omega, by dsimp only; omega, hT, by dsimp only; omega, hla.imp_right fun h => by dsimp only; omega, by dsimp only; omega, by dsimp only; omega⟩, ⟨[], ?_⟩, by dsimp only; omega⟩
        (refine XG ?_; ((try (repeat' with_reducible refine And.intro ?_ ?_)); (try any_goals (first | refine zm ?_ | exact CL | fail))))
      · rw [evMsg_one hP1 hp0 hP2 _ (by omega)] at hMs hfl
        have hbl := evsB_len p
        have hmsl := msgB_len all.length (now + dt) 300 (evsB p)
        have hT2 := told_more hT (t := now + dt) (by omega) hP1 hp0 (by omega) (by omega) (hla.imp_right fun h => by omega)
        have hlt2 := lastT_app (all := all) hP1 hp0
        generalize msgB all.length (now + dt) 300 (evsB p) = MB at *
        (refine XG ?_; ((try (repeat' with_reducible refine And.intro ?_ ?_)); (try any_goals (first | refine zm ?_ | exact CL | fail))))
        ((first | apply pr_bor | apply prD_bor) <;> (first | exact hMs | (with_reducible exact hfl) | (have zf1 := @hel; have zf2 := @help; refine XG ?_; clear zf1 zf2; first | exact rfl | exact True.intro | ((try (repeat' with_reducible refine And.intro ?_ ?_)); (try any_goals (first | refine zm ?_ | exact CL | fail))))))
        have hpp : 0 < p.length := List.length_pos_iff.2 hp0
        have hpz : ((p.length : Int) == 0) = false := by simp; omega
        (refine xw_ifp (fun g4 => ?_) (fun g4 => ?_) <;> try exact g4.elim)
        · omega
        (refine XG ?_; ((try (repeat' with_reducible refine And.intro ?_ ?_)); (try any_goals (first | refine zm ?_ | exact CL | fail))))
        (refine xw_ifp (fun g5 => ?_) (fun g5 => ?_) <;> try exact g5.elim)
        (refine XG ?_; ((try (repeat' with_reducible refine And.intro ?_ ?_)); (try any_goals (first | refine zm ?_ | exact CL | fail))))
        ((first | apply pr_app | apply prD_app | apply pr_bsl | apply prD_bsl | apply pr_s2b | apply prD_s2b); (have zf1 := @hel; have zf2 := @help; refine XG ?_; clear zf1 zf2; ((try (repeat' with_reducible refine And.intro ?_ ?_)); (try any_goals (first | refine zm ?_ | exact CL | fail)))))
        have hap := evs5_app all p
        have hln : (all ++ p).length = all.length + p.length := List.length_append
        refine ⟨⟨i + 1, now + dt, s ++ MB, all ++ p, cnt + 1⟩, ⟨by dsimp only; omega, by dsimp only; omega, hT2, by dsimp only; omega, .inr (by dsimp only; omega), by dsimp only; omega, ?_⟩, ⟨[(0, 2)], ?_⟩, by dsimp only; omega⟩
        · dsimp only; rw [List.length_append]; omega
        · (have zf1 := @hap; have zf2 := @hln; refine XG ?_; clear zf1 zf2; ((try (repeat' with_reducible refine And.intro ?_ ?_)); (try any_goals (first | refine zm ?_ | exact CL | fail))))
  · have hok := hT.ok
    have hlss := hT.less
    have hR1 := hRd s (by omega)
    have hR2 := hRd (s.take (s.length - 1)) (by rw [List.length_take]; omega)
    rw [hok] at hR1
    rw [hlss] at hR2
    unfold rdAV okR at hR1
    unfold rdAV errR at hR2
    dsimp only at hR1 hR2
    have hs1 : 1 ≤ s.length := by obtain ⟨s1, ml, _, _, _, rfl, _, _, h4, _⟩ := hT.last; rw [List.length_append]; omega
    have hS : (s.length : Int) - 1 = ((s.length - 1 : Nat) : Int) := by omega
    (refine XG ?_; ((try (repeat' with_reducible refine And.intro ?_ ?_)); (try any_goals (first | refine zm ?_ | exact CL | fail))))
    ((first | apply pr_psv | apply prD_psv | apply pr_qrunv | apply prD_qrunv) <;> (first | exact hR1 | (refine XG ?_; first | exact rfl | exact True.intro | ((try (repeat' with_reducible refine And.intro ?_ ?_)); (try any_goals (first | refine zm ?_ | exact CL | fail))))))
    (refine xw_ifp (fun g3 => ?_) (fun g3 => ?_) <;> try exact g3.elim)
    (refine XG ?_; ((try (repeat' with_reducible refine And.intro ?_ ?_)); (try any_goals (first | refine zm ?_ | exact CL | fail))))
    refine loop_rule (fun k : Nat => k ≤ all.length) (fun k => ⟨[(3, .str s), (5, .sl 5 0 0 all.length all.length), (13, .isl all.length (evs5 all)), (104, .int .i64 all.length), (105, .int .i64 k)], [(0, .cells (evs5 all))], 1⟩) (fun k => all.length - k) ft_RecordBack.mixed hN ⟨0, by omega, [], by (refine XG ?_; ((try (repeat' with_reducible refine And.intro ?_ ?_)); (try any_goals (first | refine zm ?_ | exact CL | fail))))⟩ fun k hk => ?_
    (refine XG ?_; ((try (repeat' with_reducible refine And.intro ?_ ?_)); (try any_goals (first | refine zm ?_ | exact CL | fail))))
    (refine xw_ifp (fun g4 => ?_) (fun g4 => ?_) <;> try exact g4.elim)
    · have hkn : k < all.length := by omega
      have hcut := evs5_cut all k hkn
      have heq := @ev_eq5 c true all[k]
      generalize all[k] = e at *
      (have zf1 := @hel; have zf2 := @hcut; refine XG ?_; clear zf1 zf2; ((try (repeat' with_reducible refine And.intro ?_ ?_)); (try any_goals (first | refine zm ?_ | exact CL | fail))))
      ((first | apply pr_psv | apply prD_psv | apply pr_qrunv | apply prD_qrunv) <;> (first | exact heq | (have zf1 := @hel; have zf2 := @hcut; refine XG ?_; clear zf1 zf2; first | exact rfl | exact True.intro | ((try (repeat' with_reducible refine And.intro ?_ ?_)); (try any_goals (first | refine zm ?_ | exact CL | fail))))))
      (refine xw_ifp (fun g5 => ?_) (fun g5 => ?_) <;> try exact g5.elim)
      (refine XG ?_; ((try (repeat' with_reducible refine And.intro ?_ ?_)); (try any_goals (first | refine zm ?_ | exact CL | fail))))
      refine ⟨k + 1, by omega, ⟨[], ?_⟩, by omega⟩
      (refine XG ?_; ((try (repeat' with_reducible refine And.intro ?_ ?_)); (try any_goals (first | refine zm ?_ | exact CL | fail))))
    · (have zf1 := @hS; refine XG ?_; clear zf1; ((try (repeat' with_reducible refine And.intro ?_ ?_)); (try any_goals (first | refine zm ?_ | exact CL | fail))))
      ((first | apply pr_psv | apply prD_psv | apply pr_qrunv | apply prD_qrunv) <;> (first | exact hR2 | (have zf1 := @hS; refine XG ?_; clear zf1; first | exact rfl | exact True.intro | ((try (repeat' with_reducible refine And.intro ?_ ?_)); (try any_goals (first | refine zm ?_ | exact CL | fail))))))
end Go.Proofs.YtglkiaiipkdkbaaDoor
