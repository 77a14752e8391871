/- What package bind answers: the small functions. No conditions but the ones that stand in each. -/
import Derived.Test.YtphaicaobepimaaDa
import Derived.Test.YtphaicaobepimaaDb
import Derived.Test.YtphaicaobepimaaQd
namespace Go.Proofs.Ytphaicaobepimaa
set_option linter.all false
set_option linter.unusedSimpArgs false
open Go.RowKit

def blkT (port : Int) : AV := .tup [.int .i64 (blkOf' port), .int .i64 (if inPort port = true then (port - 1024) % 8 else 0), .bool (inPort port)]
theorem bBlock_ps (gl : Nat → AV) (port : Int) (hp : -9223372036854775808 ≤ port ∧ port ≤ 9223372036854775807) : PS Try.prog gl 18 [.int .i64 port] (blkT port) := by
  refine ft_bBlock.ps (of_decide_eq_true rfl) (by simp [blkT, nmOk, nmAll]) fun c hN hg => ?_
  unfold T_bBlock
  by_cases h : inPort port = true
  · have h' := h
    unfold inPort at h'
    simp at h'
    have e1 : (port - 1024).tdiv 8 = (port - 1024) / 8 := Int.tdiv_eq_ediv_of_nonneg (by omega)
    have e2 : (port - 1024).tmod 8 = (port - 1024) % 8 := Int.tmod_eq_emod_of_nonneg (by omega)
    unfold blkT blkOf'
    rw [if_pos h, if_pos h, h]
    (refine XG ?_; ((try (repeat' with_reducible refine And.intro ?_ ?_)); (try any_goals (first | refine zm ?_ | exact CL | fail))))
    (refine xw_ifp (fun h1 => ?_) (fun h1 => ?_) <;> try exact h1.elim)
    · omega
    (have zf1 := @e1; have zf2 := @e2; refine XG ?_; clear zf1 zf2; ((try (repeat' with_reducible refine And.intro ?_ ?_)); (try any_goals (first | refine zm ?_ | exact CL | fail))))
  · have h' := h
    unfold inPort at h'
    simp at h'
    have hb : inPort port = false := by simpa using h
    unfold blkT blkOf'
    rw [if_neg h, if_neg h, hb]
    by_cases hlo : port < 1024
    · have d1 : decide (port < 1024) = true := by simpa using hlo
      have e0 : ∃ x, IntKind.i64.wrap (port - 1024) = x := ⟨_, rfl⟩
      obtain ⟨x, hx⟩ := e0
      (have zf1 := @d1; have zf2 := @hx; refine XG ?_; clear zf1 zf2; ((try (repeat' with_reducible refine And.intro ?_ ?_)); (try any_goals (first | refine zm ?_ | exact CL | fail))))
      (refine xw_ifp (fun h1 => ?_) (fun h1 => ?_) <;> try exact h1.elim)
      (refine XG ?_; ((try (repeat' with_reducible refine And.intro ?_ ?_)); (try any_goals (first | refine zm ?_ | exact CL | fail))))
    · (refine XG ?_; ((try (repeat' with_reducible refine And.intro ?_ ?_)); (try any_goals (first | refine zm ?_ | exact CL | fail))))
      (refine xw_ifp (fun h1 => ?_) (fun h1 => ?_) <;> try exact h1.elim)
      · (refine XG ?_; ((try (repeat' with_reducible refine And.intro ?_ ?_)); (try any_goals (first | refine zm ?_ | exact CL | fail))))
      · omega
theorem bknown_ps (gl : Nat → AV) (proto s inn : Int) : PS Try.prog gl 47 [.int .i64 proto, .int .i64 s, .int .i64 inn] (.bool (knownB proto s inn)) := by
  refine ft_bknown.ps (of_decide_eq_true rfl) (by simp [nmOk]) fun c hN hg => ?_
  unfold T_bknown knownB
  (refine XG ?_; ((try (repeat' with_reducible refine And.intro ?_ ?_)); (try any_goals (first | refine zm ?_ | exact CL | fail))))
set_option maxHeartbeats 1000000 in
theorem bFind_ps (gl : Nat → AV) (t : Tb) (ht : t.wf) (hl : t.maps.length ≤ 4611686018427387904) (proto s inn : Int) : PS Try.prog gl 13 [.agg t.enc, .int .i64 proto, .int .i64 s, .int .i64 inn] (mpT (t.maps.find? (isFwd proto s inn))) := by
  refine ft_bFind.ps (of_decide_eq_true rfl) (by cases t.maps.find? (isFwd proto s inn) <;> simp [mpT, nmOk, nmAll, Mp.enc]) fun c hN hg => ?_
  unfold T_bFind
  have e2 := Tb.enc_len ht
  have e3 := Tb.enc_maps ht
  have hel := mps_len t.maps
  generalize hR : t.maps.find? (isFwd proto s inn) = R
  (have zf1 := @e2; have zf2 := @e3; refine XG ?_; clear zf1 zf2; ((try (repeat' with_reducible refine And.intro ?_ ?_)); (try any_goals (first | refine zm ?_ | exact CL | fail))))
  refine loop_rule (fun k : Nat => k ≤ t.maps.length ∧ (t.maps.drop k).find? (isFwd proto s inn) = R) (fun k => ⟨[(1, .int .i64 proto), (2, .int .i64 s), (3, .int .i64 inn), (8, .ptr 1 0), (13, .isl t.maps.length (mps t.maps)), (14, .int .i64 t.maps.length), (15, .int .i64 k)], [(0, .cells t.enc), (1, .cells [.int .i64 0, .int .i64 0, .int .i64 0, .int .i64 0, .int .i64 0])], 2⟩) (fun k => t.maps.length - k) ft_bFind.mixed hN
    ⟨0, ⟨by omega, by rw [List.drop_zero]; exact hR⟩, [], by (refine XG ?_; ((try (repeat' with_reducible refine And.intro ?_ ?_)); (try any_goals (first | refine zm ?_ | exact CL | fail))))⟩ fun k hI => ?_
  obtain ⟨hk, hf⟩ := id hI
  clear hI
  (refine XG ?_; ((try (repeat' with_reducible refine And.intro ?_ ?_)); (try any_goals (first | refine zm ?_ | exact CL | fail))))
  (refine xw_ifp (fun h1 => ?_) (fun h1 => ?_) <;> try exact h1.elim)
  · have hkn : k < t.maps.length := by omega
    have hcut := mps_cut t.maps k hkn
    rw [List.drop_eq_getElem_cons hkn, List.find?_cons] at hf
    generalize t.maps[k] = m at *
    obtain ⟨mp, ms, mi, ma, mt⟩ := m
    unfold isFwd at hf
    simp only [Mp.enc] at hcut
    dsimp only at hf
    (have zf1 := @hel; have zf2 := @hcut; refine XG ?_; clear zf1 zf2; ((try (repeat' with_reducible refine And.intro ?_ ?_)); (try any_goals (first | refine zm ?_ | exact CL | fail))))
    (refine xw_ifp (fun h2 => ?_) (fun h2 => ?_) <;> try exact h2.elim)
    · have hc : (mp == proto && ms == s && mi == inn) = true := by simp [h2]
      rw [hc] at hf
      dsimp only at hf
      subst hf
      unfold mpT Mp.enc
      (refine XG ?_; ((try (repeat' with_reducible refine And.intro ?_ ?_)); (try any_goals (first | refine zm ?_ | exact CL | fail))))
    · have hc : (mp == proto && ms == s && mi == inn) = false := by
        cases hb : (mp == proto && ms == s && mi == inn)
        · rfl
        · simp at hb; omega
      rw [hc] at hf
      dsimp only at hf
      (refine XG ?_; ((try (repeat' with_reducible refine And.intro ?_ ?_)); (try any_goals (first | refine zm ?_ | exact CL | fail))))
      refine ⟨k + 1, ⟨by omega, hf⟩, ⟨[], ?_⟩, by omega⟩
      (refine XG ?_; ((try (repeat' with_reducible refine And.intro ?_ ?_)); (try any_goals (first | refine zm ?_ | exact CL | fail))))
  · have : k = t.maps.length := by omega
    subst this
    rw [List.drop_length] at hf
    subst hf
    unfold mpT mp0 Mp.enc
    (refine XG ?_; ((try (repeat' with_reducible refine And.intro ?_ ?_)); (try any_goals (first | refine zm ?_ | exact CL | fail))))
    exact rfl
set_option maxHeartbeats 1000000 in
theorem bBack_ps (gl : Nat → AV) (t : Tb) (ht : t.wf) (hl : t.maps.length ≤ 4611686018427387904) (proto a port : Int) : PS Try.prog gl 16 [.agg t.enc, .int .i64 proto, .int .i64 a, .int .i64 port] (mpT (t.maps.find? (isBack proto a port))) := by
  refine ft_bBack.ps (of_decide_eq_true rfl) (by cases t.maps.find? (isBack proto a port) <;> simp [mpT, nmOk, nmAll, Mp.enc]) fun c hN hg => ?_
  unfold T_bBack
  have e2 := Tb.enc_len ht
  have e3 := Tb.enc_maps ht
  have hel := mps_len t.maps
  generalize hR : t.maps.find? (isBack proto a port) = R
  (have zf1 := @e2; have zf2 := @e3; refine XG ?_; clear zf1 zf2; ((try (repeat' with_reducible refine And.intro ?_ ?_)); (try any_goals (first | refine zm ?_ | exact CL | fail))))
  refine loop_rule (fun k : Nat => k ≤ t.maps.length ∧ (t.maps.drop k).find? (isBack proto a port) = R) (fun k => ⟨[(1, .int .i64 proto), (2, .int .i64 a), (3, .int .i64 port), (8, .ptr 1 0), (13, .isl t.maps.length (mps t.maps)), (14, .int .i64 t.maps.length), (15, .int .i64 k)], [(0, .cells t.enc), (1, .cells [.int .i64 0, .int .i64 0, .int .i64 0, .int .i64 0, .int .i64 0])], 2⟩) (fun k => t.maps.length - k) ft_bBack.mixed hN
    ⟨0, ⟨by omega, by rw [List.drop_zero]; exact hR⟩, [], by (refine XG ?_; ((try (repeat' with_reducible refine And.intro ?_ ?_)); (try any_goals (first | refine zm ?_ | exact CL | fail))))⟩ fun k hI => ?_
  obtain ⟨hk, hf⟩ := id hI
  clear hI
  (refine XG ?_; ((try (repeat' with_reducible refine And.intro ?_ ?_)); (try any_goals (first | refine zm ?_ | exact CL | fail))))
  (refine xw_ifp (fun h1 => ?_) (fun h1 => ?_) <;> try exact h1.elim)
  · have hkn : k < t.maps.length := by omega
    have hcut := mps_cut t.maps k hkn
    rw [List.drop_eq_getElem_cons hkn, List.find?_cons] at hf
    generalize t.maps[k] = m at *
    obtain ⟨mp, ms, mi, ma, mt⟩ := m
    unfold isBack at hf
    simp only [Mp.enc] at hcut
    dsimp only at hf
    (have zf1 := @hel; have zf2 := @hcut; refine XG ?_; clear zf1 zf2; ((try (repeat' with_reducible refine And.intro ?_ ?_)); (try any_goals (first | refine zm ?_ | exact CL | fail))))
    (refine xw_ifp (fun h2 => ?_) (fun h2 => ?_) <;> try exact h2.elim)
    · have hc : (mp == proto && ma == a && mt == port) = true := by simp [h2]
      rw [hc] at hf
      dsimp only at hf
      subst hf
      unfold mpT Mp.enc
      (refine XG ?_; ((try (repeat' with_reducible refine And.intro ?_ ?_)); (try any_goals (first | refine zm ?_ | exact CL | fail))))
    · have hc : (mp == proto && ma == a && mt == port) = false := by
        cases hb : (mp == proto && ma == a && mt == port)
        · rfl
        · simp at hb; omega
      rw [hc] at hf
      dsimp only at hf
      (refine XG ?_; ((try (repeat' with_reducible refine And.intro ?_ ?_)); (try any_goals (first | refine zm ?_ | exact CL | fail))))
      refine ⟨k + 1, ⟨by omega, hf⟩, ⟨[], ?_⟩, by omega⟩
      (refine XG ?_; ((try (repeat' with_reducible refine And.intro ?_ ?_)); (try any_goals (first | refine zm ?_ | exact CL | fail))))
  · have : k = t.maps.length := by omega
    subst this
    rw [List.drop_length] at hf
    subst hf
    unfold mpT mp0 Mp.enc
    (refine XG ?_; ((try (repeat' with_reducible refine And.intro ?_ ?_)); (try any_goals (first | refine zm ?_ | exact CL | fail))))
    exact rfl
end Go.Proofs.Ytphaicaobepimaa
