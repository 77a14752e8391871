/- The law of a new map that moves no other. No conditions but the ones that stand in each. -/
import Derived.Test.YtphaicaobepimaaDs
namespace Go.Proofs.Ytphaicaobepimaa
set_option linter.all false
set_option linter.unusedSimpArgs false
open Go.RowKit

theorem Opened.sub {t : Tb} {proto : Int} {S : Nat} {inn : Int} {x : Tb × Mp × Bool × Int} (h : Opened t proto S inn x) : ∀ m ∈ t.maps, m ∈ x.1.maps := by
  cases h with
  | no e he => exact fun _ h => h
  | old m hf => exact fun _ h => h
  | own port hf hok hb hn => exact fun _ h => List.mem_append_left _ h
  | new b k hf hb hk hz hh hc hd hn => exact fun _ h => List.mem_append_left _ h
theorem Opened.len {t : Tb} {proto : Int} {S : Nat} {inn : Int} {x : Tb × Mp × Bool × Int} (h : Opened t proto S inn x) : t.maps.length ≤ x.1.maps.length ∧ x.1.maps.length ≤ t.maps.length + 1 := by
  cases h with
  | no e he => exact ⟨Nat.le_refl _, Nat.le_succ _⟩
  | old m hf => exact ⟨Nat.le_refl _, Nat.le_succ _⟩
  | own port hf hok hb hn => show _ ≤ (t.maps ++ [_]).length ∧ (t.maps ++ [_]).length ≤ _; simp
  | new b k hf hb hk hz hh hc hd hn => show _ ≤ (t.maps ++ [_]).length ∧ (t.maps ++ [_]).length ≤ _; simp
theorem Opened.homes {t : Tb} (hw : t.wf) {proto : Int} {S : Nat} {inn : Int} (hS : S < 8) {x : Tb × Mp × Bool × Int} (h : Opened t proto S inn x) (u : Nat) : x.1.hom u = t.hom u ∨ u = S ∧ t.hom u = 0 := by
  cases h with
  | no e he => exact .inl rfl
  | old m hf => exact .inl rfl
  | own port hf hok hb hn => exact .inl rfl
  | new b k hf hb hk hz hh hc hd hn =>
    have e : ∀ u, ((⟨t.pool.put b k (S + 1), t.home.set S (b + 1), t.maps⟩ : Tb).add ⟨proto, S, inn, b, 1024 + (k : Int) * 8⟩).hom u = if u = S then (b : Int) + 1 else t.hom u := fun u => getD_set_eq (by rw [hw.home]; exact hS) _ _
    dsimp only
    rw [e]
    by_cases hu : u = S
    · subst hu
      rw [if_pos rfl]
      omega
    · rw [if_neg hu]; exact .inl rfl
theorem homes_get {t : Tb} (hw : t.wf) {u : Nat} (hu : u < 8) : (ints t.home).getD u .any = .int .i64 (t.hom u) := by
  have hl : u < t.home.length := by rw [hw.home]; exact hu
  simp [ints, Tb.hom, List.getD, hl]
set_option maxHeartbeats 8000000 in
set_option maxRecDepth 20000 in
theorem BindOthers_ps (gl : Nat → AV) (t : Tb) (ht : t.ok) (proto s inn draw : Int) : PS Try.prog gl 5 [.agg t.enc, .int .i64 proto, .int .i64 s, .int .i64 inn, .int .i64 draw] (.bool true) := by
  refine ft_kOthers.ps (of_decide_eq_true rfl) (by simp [nmOk]) fun c hN hg => ?_
  unfold T_kOthers
  have e2 := Tb.enc_len ht.wf
  have e3 := Tb.enc_maps ht.wf
  have hO := bOpen_ps c.gl t ht proto s inn draw
  have hK := kbinds_ps c.gl
  have hbad : goodB t = false ∨ knownB proto s inn = false → (t.opn proto s inn draw).2.2.2 = 2 := fun h => by unfold Tb.opn; rw [if_pos h]
  by_cases he : (t.opn proto s inn draw).2.2.2 = 0
  rotate_left
  · have hew : (t.opn proto s inn draw).1.wf := by
      by_cases hb : goodB t = false ∨ knownB proto s inn = false
      · have : t.opn proto s inn draw = (t, mp0, false, 2) := if_pos hb
        rw [this]; exact ht.wf
      · have hg : GT t := goodT_GT.1 ((goodB_iff t).1 (by cases h : goodB t; exact (hb (.inl h)).elim; rfl))
        have hk : knownB proto s inn = true := by cases h : knownB proto s inn; exact (hb (.inr h)).elim; rfl
        obtain ⟨_, ⟨hs0, _⟩, _⟩ := known_bd hk
        obtain ⟨S, rfl⟩ := Int.eq_ofNat_of_zero_le hs0
        exact (opened hg ht.wf hk draw).wf ht.wf
    generalize t.opn proto s inn draw = x at *
    obtain ⟨T, m, tk, e⟩ := x
    unfold opnT putT Mp.enc at hO
    dsimp only at hO he hew
    have e4 := Tb.enc_len hew
    (have zf1 := @e2; refine XG ?_; clear zf1; ((try (repeat' with_reducible refine And.intro ?_ ?_)); (try any_goals (first | refine zm ?_ | exact CL | fail))))
    ((first | apply pr_psv | apply prD_psv | apply pr_qrunv | apply prD_qrunv) <;> (first | exact hO | (have zf1 := @e2; have zf2 := @e4; refine XG ?_; clear zf1 zf2; first | exact rfl | exact True.intro | ((try (repeat' with_reducible refine And.intro ?_ ?_)); (try any_goals (first | refine zm ?_ | exact CL | fail))))))
    have hne : (e != 0) = true := by simpa using he
    ((first | apply pr_skip | apply prD_skip) <;> (have zf1 := @hne; refine XG ?_; clear zf1; first | exact rfl | exact True.intro | ((try (repeat' with_reducible refine And.intro ?_ ?_)); (try any_goals (first | refine zm ?_ | exact CL | fail)))))
    (refine xw_ifp (fun h1 => ?_) (fun h1 => ?_) <;> try exact h1.elim)
    (refine XG ?_; ((try (repeat' with_reducible refine And.intro ?_ ?_)); (try any_goals (first | refine zm ?_ | exact CL | fail))))
    ((first | apply pr_psv | apply prD_psv | apply pr_qrunv | apply prD_qrunv) <;> (first | exact hK | (refine XG ?_; first | exact rfl | exact True.intro | ((try (repeat' with_reducible refine And.intro ?_ ?_)); (try any_goals (first | refine zm ?_ | exact CL | fail))))))
  have hgk : ¬ (goodB t = false ∨ knownB proto s inn = false) := fun h => by have := hbad h; omega
  have hg : GT t := goodT_GT.1 ((goodB_iff t).1 (by cases h : goodB t; exact (hgk (.inl h)).elim; rfl))
  have hk : knownB proto s inn = true := by cases h : knownB proto s inn; exact (hgk (.inr h)).elim; rfl
  obtain ⟨_, ⟨hs0, hs8⟩, _⟩ := known_bd hk
  obtain ⟨S, rfl⟩ := Int.eq_ofNat_of_zero_le hs0
  have hop := opened hg ht.wf hk draw
  generalize t.opn proto S inn draw = x at *
  have hT := hop.good hg ht.wf hk
  have hTw := hop.wf ht.wf
  have hsub := hop.sub
  have hlen := hop.len
  have hhom := hop.homes ht.wf (by omega)
  obtain ⟨T, m, tk, e⟩ := x
  dsimp only at *
  subst he
  unfold opnT putT Mp.enc at hO
  dsimp only at hO
  have e4 := Tb.enc_len hTw
  have e5 := Tb.enc_maps hTw
  have hel := mps_len t.maps
  have e6 := Tb.enc_homes ht.wf
  have hml := maps_le (goodT_GT.2 hT)
  (have zf1 := @e2; refine XG ?_; clear zf1; ((try (repeat' with_reducible refine And.intro ?_ ?_)); (try any_goals (first | refine zm ?_ | exact CL | fail))))
  ((first | apply pr_psv | apply prD_psv | apply pr_qrunv | apply prD_qrunv) <;> (first | exact hO | (have zf1 := @e2; have zf2 := @e4; refine XG ?_; clear zf1 zf2; first | exact rfl | exact True.intro | ((try (repeat' with_reducible refine And.intro ?_ ?_)); (try any_goals (first | refine zm ?_ | exact CL | fail))))))
  ((first | apply pr_psv | apply prD_psv | apply pr_qrunv | apply prD_qrunv) <;> (first | exact hK | (refine XG ?_; first | exact rfl | exact True.intro | ((try (repeat' with_reducible refine And.intro ?_ ?_)); (try any_goals (first | refine zm ?_ | exact CL | fail))))))
  (refine xw_ifp (fun h1 => ?_) (fun h1 => ?_) <;> try exact h1.elim)
  (have zf1 := @e2; have zf2 := @e3; refine XG ?_; clear zf1 zf2; ((try (repeat' with_reducible refine And.intro ?_ ?_)); (try any_goals (first | refine zm ?_ | exact CL | fail))))
  refine loop_rule (fun k : Nat => k ≤ t.maps.length) (fun k => ⟨[(2, .int .i64 S), (5, .ptr 0 0), (11, .ptr 1 0), (40, .isl t.maps.length (mps t.maps)), (41, .int .i64 t.maps.length), (42, .int .i64 k)], [(0, .cells t.enc), (1, .cells T.enc)], 2⟩) (fun k => t.maps.length - k) ft_kOthers.mixed hN
    ⟨0, by omega, [], by (refine XG ?_; ((try (repeat' with_reducible refine And.intro ?_ ?_)); (try any_goals (first | refine zm ?_ | exact CL | fail))))⟩ fun k hk => ?_
  (refine XG ?_; ((try (repeat' with_reducible refine And.intro ?_ ?_)); (try any_goals (first | refine zm ?_ | exact CL | fail))))
  (refine xw_ifp (fun h2 => ?_) (fun h2 => ?_) <;> try exact h2.elim)
  · have hkn : k < t.maps.length := by omega
    have hcut := mps_cut t.maps k hkn
    have hF := bFind_ps c.gl T hTw (by omega) (t.maps[k]).proto (t.maps[k]).s (t.maps[k]).inn
    rw [hT.fwd (hsub _ (List.getElem_mem hkn))] at hF
    generalize t.maps[k] = o at *
    have heq := @mp_eq c true o o
    rw [decide_eq_true rfl] at heq
    unfold mpT at hF
    obtain ⟨op, os, oi, oa, ot⟩ := o
    simp only [Mp.enc] at hcut hF heq
    (have zf1 := @e2; have zf2 := @e3; have zf3 := @hel; have zf4 := @hcut; refine XG ?_; clear zf1 zf2 zf3 zf4; ((try (repeat' with_reducible refine And.intro ?_ ?_)); (try any_goals (first | refine zm ?_ | exact CL | fail))))
    ((first | apply pr_psv | apply prD_psv | apply pr_qrunv | apply prD_qrunv) <;> (first | exact hF | (have zf1 := @e4; refine XG ?_; clear zf1; first | exact rfl | exact True.intro | ((try (repeat' with_reducible refine And.intro ?_ ?_)); (try any_goals (first | refine zm ?_ | exact CL | fail))))))
    ((first | apply pr_psv | apply prD_psv | apply pr_qrunv | apply prD_qrunv) <;> (first | exact heq | (refine XG ?_; first | exact rfl | exact True.intro | ((try (repeat' with_reducible refine And.intro ?_ ?_)); (try any_goals (first | refine zm ?_ | exact CL | fail))))))
    (refine xw_ifp (fun h3 => ?_) (fun h3 => ?_) <;> try exact h3.elim)
    (refine XG ?_; ((try (repeat' with_reducible refine And.intro ?_ ?_)); (try any_goals (first | refine zm ?_ | exact CL | fail))))
    refine ⟨k + 1, by omega, ⟨[], ?_⟩, by omega⟩
    (refine XG ?_; ((try (repeat' with_reducible refine And.intro ?_ ?_)); (try any_goals (first | refine zm ?_ | exact CL | fail))))
  · (have zf1 := @e2; have zf2 := @e6; refine XG ?_; clear zf1 zf2; ((try (repeat' with_reducible refine And.intro ?_ ?_)); (try any_goals (first | refine zm ?_ | exact CL | fail))))
    refine loop_rule (fun k : Nat => k ≤ 8) (fun k => ⟨[(2, .int .i64 S), (5, .ptr 0 0), (11, .ptr 1 0), (66, .agg (ints t.home)), (67, .int .i64 k)], [(0, .cells t.enc), (1, .cells T.enc)], 2⟩) (fun k => 8 - k) ft_kOthers.mixed hN
      ⟨0, by omega, [], by (refine XG ?_; ((try (repeat' with_reducible refine And.intro ?_ ?_)); (try any_goals (first | refine zm ?_ | exact CL | fail))))⟩ fun u hu => ?_
    (refine XG ?_; ((try (repeat' with_reducible refine And.intro ?_ ?_)); (try any_goals (first | refine zm ?_ | exact CL | fail))))
    (refine xw_ifp (fun h3 => ?_) (fun h3 => ?_) <;> try exact h3.elim)
    · have hu8 : u < 8 := by omega
      have eh := homes_get ht.wf hu8
      have eT := Tb.enc_home hTw hu8
      have hil : (ints t.home).length = 8 := by rw [ints_len, ht.wf.home]
      have hhu := hhom u
      by_cases heq : T.hom u = t.hom u
      · rw [heq] at eT
        (have zf1 := @eh; have zf2 := @eT; have zf3 := @e4; have zf4 := @hil; refine XG ?_; clear zf1 zf2 zf3 zf4; ((try (repeat' with_reducible refine And.intro ?_ ?_)); (try any_goals (first | refine zm ?_ | exact CL | fail))))
        (refine xw_ifp (fun h4 => ?_) (fun h4 => ?_) <;> try exact h4.elim)
        (refine XG ?_; ((try (repeat' with_reducible refine And.intro ?_ ?_)); (try any_goals (first | refine zm ?_ | exact CL | fail))))
        refine ⟨u + 1, by omega, ⟨[], ?_⟩, by omega⟩
        (refine XG ?_; ((try (repeat' with_reducible refine And.intro ?_ ?_)); (try any_goals (first | refine zm ?_ | exact CL | fail))))
      · obtain ⟨hus, h0⟩ := hhu.resolve_left heq
        rw [h0] at eh
        subst hus
        (have zf1 := @eh; have zf2 := @eT; have zf3 := @e4; have zf4 := @hil; refine XG ?_; clear zf1 zf2 zf3 zf4; ((try (repeat' with_reducible refine And.intro ?_ ?_)); (try any_goals (first | refine zm ?_ | exact CL | fail))))
        (refine xw_ifp (fun h4 => ?_) (fun h4 => ?_) <;> try exact h4.elim)
        (refine XG ?_; ((try (repeat' with_reducible refine And.intro ?_ ?_)); (try any_goals (first | refine zm ?_ | exact CL | fail))))
        refine ⟨u + 1, by omega, ⟨[], ?_⟩, by omega⟩
        (refine XG ?_; ((try (repeat' with_reducible refine And.intro ?_ ?_)); (try any_goals (first | refine zm ?_ | exact CL | fail))))
    · have hle : decide ((T.maps.length : Int) - (t.maps.length : Int) ≤ 1) = true := by rw [decide_eq_true_eq]; omega
      (have zf1 := @e2; have zf2 := @e3; have zf3 := @e4; have zf4 := @e5; have zf5 := @hle; refine XG ?_; clear zf1 zf2 zf3 zf4 zf5; ((try (repeat' with_reducible refine And.intro ?_ ?_)); (try any_goals (first | refine zm ?_ | exact CL | fail))))
end Go.Proofs.Ytphaicaobepimaa
