/- What bind.Open answers: the whole. No conditions but the ones that stand in each. -/
import Derived.Test.YtphaicaobepimaaDi
import Derived.Test.YtphaicaobepimaaDj
namespace Go.Proofs.Ytphaicaobepimaa
set_option linter.all false
set_option linter.unusedSimpArgs false
open Go.RowKit

theorem many_succ (l : List Mp) (k : Nat) (h : k < l.length) (s : Int) : manyOf (l.take (k + 1)) s = manyOf (l.take k) s + (if l[k].s = s then 1 else 0) := by
  have e : l.take (k + 1) = l.take k ++ [l[k]] := by rw [List.take_add_one, List.getElem?_eq_getElem h]; rfl
  unfold manyOf
  rw [e, List.countP_append]
  by_cases h2 : l[k].s = s <;> simp [h2]
theorem many_le (l : List Mp) (k : Nat) (s : Int) : manyOf (l.take k) s ≤ k := by
  unfold manyOf
  have := List.countP_le_length (p := fun m : Mp => m.s == s) (l := l.take k)
  rw [List.length_take] at this
  omega
def z30 : List AV := [(.int .i64 0), (.int .i64 0), (.int .i64 0), (.int .i64 0), (.int .i64 0), (.int .i64 0), (.int .i64 0), (.int .i64 0), (.int .i64 0), (.int .i64 0), (.int .i64 0), (.int .i64 0), (.int .i64 0), (.int .i64 0), (.int .i64 0), (.int .i64 0), (.int .i64 0), (.int .i64 0), (.bool false), (.bool false), (.bool false), (.int .i64 0), (.int .i64 0), (.int .i64 0), (.int .i64 0), (.int .i64 0), (.int .i64 0), (.int .i64 0), (.int .i64 0), .nils]
def z5 : List AV := [(.int .i64 0), (.int .i64 0), (.int .i64 0), (.int .i64 0), (.int .i64 0)]
theorem z30_nm (n : Nat) : nmAll n z30 = True := by simp [z30, nmAll, nmOk]
theorem z5_nm (n : Nat) : nmAll n z5 = True := by simp [z5, nmAll, nmOk]
theorem z30_rens (ρ : Nat → Nat) : rens ρ z30 = z30 := by simp [z30, rens, ren]
theorem z5_rens (ρ : Nat → Nat) : rens ρ z5 = z5 := by simp [z5, rens, ren]
theorem many_nil (s : Int) : manyOf [] s = 0 := rfl
attribute [go_sem] z30_nm z5_nm z30_rens z5_rens many_nil
theorem blk_free (k : Nat) (t : Tb) (proto a : Int) (r : List Int) (i : Nat) (h : i < 8) : ((blkPorts k).drop i ++ r).find? (freeP t proto a) = if freeP t proto a (1024 + (k : Int) * 8 + i) = true then some (1024 + (k : Int) * 8 + i) else ((blkPorts k).drop (i + 1) ++ r).find? (freeP t proto a) := by
  have hl : i < (blkPorts k).length := by simpa [blkPorts] using h
  rw [List.drop_eq_getElem_cons hl, List.cons_append, List.find?_cons]
  have e : (blkPorts k)[i] = 1024 + (k : Int) * 8 + i := by simp [blkPorts]
  rw [e]
  split <;> rename_i h <;> simp [h]
theorem ownB_bd {t : Tb} {s n k : Nat} (h : k ∈ ownB t s n) : k < n := by
  unfold ownB at h
  exact List.mem_range.1 (List.mem_filter.1 h).1
set_option maxHeartbeats 8000000 in
set_option maxRecDepth 20000 in
theorem bOpen_in (gl : Nat → AV) (t : Tb) (ht : t.ok) (hgt : goodT t) (proto : Int) (S : Nat) (inn draw : Int) (hkn : knownB proto S inn = true) (R : AV) (hnm : nmOk 0 R)
    (H1 : Hid (∀ m, t.maps.find? (isFwd proto S inn) = some m → R = putT t m false 0))
    (H2 : Hid (t.maps.find? (isFwd proto S inn) = none → 12 ≤ manyOf t.maps S → R = putT t mp0 false 6))
    (H3 : Hid (t.maps.find? (isFwd proto S inn) = none → ¬ 12 ≤ manyOf t.maps S → (∀ port, firstFree t proto (t.hom S - 1) (ownL t S) = some port → R = putT (t.add ⟨proto, S, inn, t.hom S - 1, port⟩) ⟨proto, S, inn, t.hom S - 1, port⟩ false 0) ∧
      (firstFree t proto (t.hom S - 1) (ownL t S) = none → (2 ≤ (ownL t S).length → R = putT t mp0 false 6) ∧ (¬ 2 ≤ (ownL t S).length → (1 ≤ t.hom S → R = opnT (t.tk proto S inn (t.hom S - 1) draw)) ∧
        (¬ 1 ≤ t.hom S → ((t.pool.pick draw).2 ≠ 0 → R = putT t mp0 false (t.pool.pick draw).2) ∧ ((t.pool.pick draw).2 = 0 → R = opnT (t.tk proto S inn (t.pool.pick draw).1 draw))))))) :
    PS Try.prog gl 23 [.agg t.enc, .int .i64 proto, .int .i64 S, .int .i64 inn, .int .i64 draw] R := by
  refine ft_bOpen.ps (of_decide_eq_true rfl) hnm fun c hN hg => ?_
  unfold T_bOpen
  have e2 := Tb.enc_len ht.wf
  have e3 := Tb.enc_maps ht.wf
  have hG := bGood_ps c.gl t ht
  rw [goodB_t hgt] at hG
  have hK := bknown_ps c.gl proto S inn
  rw [hkn] at hK
  have hF := bFind_ps c.gl t ht.wf ht.len proto S inn
  have hel := mps_len t.maps
  obtain ⟨_, ⟨_, hS8⟩, _⟩ := known_bd hkn
  have hS8 : S < 8 := by omega
  have hhb := Tb.hom_bd hgt ht.wf hS8
  have hml := maps_le hgt
  have eh := Tb.enc_home ht.wf hS8
  have hBl := bblocks_ps c.gl t ht.wf S hS8 hhb
  cases hfd : t.maps.find? (isFwd proto S inn) with
  | some m =>
    have hR := H1.out m hfd
    rw [hfd] at hF
    unfold mpT at hF
    subst hR
    (have zf1 := @e2; refine XG ?_; clear zf1; ((try (repeat' with_reducible refine And.intro ?_ ?_)); (try any_goals (first | refine zm ?_ | exact CL | fail))))
    ((first | apply pr_psv | apply prD_psv | apply pr_qrunv | apply prD_qrunv) <;> (first | exact hG | (have zf1 := @e2; refine XG ?_; clear zf1; first | exact rfl | exact True.intro | ((try (repeat' with_reducible refine And.intro ?_ ?_)); (try any_goals (first | refine zm ?_ | exact CL | fail))))))
    ((first | apply pr_psv | apply prD_psv | apply pr_qrunv | apply prD_qrunv) <;> (first | exact hK | (have zf1 := @e2; refine XG ?_; clear zf1; first | exact rfl | exact True.intro | ((try (repeat' with_reducible refine And.intro ?_ ?_)); (try any_goals (first | refine zm ?_ | exact CL | fail))))))
    (refine xw_ifp (fun h1 => ?_) (fun h1 => ?_) <;> try exact h1.elim)
    (have zf1 := @e2; refine XG ?_; clear zf1; ((try (repeat' with_reducible refine And.intro ?_ ?_)); (try any_goals (first | refine zm ?_ | exact CL | fail))))
    unfold Mp.enc at hF
    ((first | apply pr_psv | apply prD_psv | apply pr_qrunv | apply prD_qrunv) <;> (first | exact hF | (have zf1 := @e2; refine XG ?_; clear zf1; first | exact rfl | exact True.intro | ((try (repeat' with_reducible refine And.intro ?_ ?_)); (try any_goals (first | refine zm ?_ | exact CL | fail))))))
    (refine xw_ifp (fun h2 => ?_) (fun h2 => ?_) <;> try exact h2.elim)
    (have zf1 := @e2; have zf2 := @putT.eq_1; have zf3 := @Mp.enc.eq_1; refine XG ?_; clear zf1 zf2 zf3; ((try (repeat' with_reducible refine And.intro ?_ ?_)); (try any_goals (first | refine zm ?_ | exact CL | fail))))
  | none =>
    rw [hfd] at hF
    unfold mpT mp0 Mp.enc at hF
    dsimp only at hF
    (have zf1 := @e2; refine XG ?_; clear zf1; ((try (repeat' with_reducible refine And.intro ?_ ?_)); (try any_goals (first | refine zm ?_ | exact CL | fail))))
    ((first | apply pr_psv | apply prD_psv | apply pr_qrunv | apply prD_qrunv) <;> (first | exact hG | (have zf1 := @e2; refine XG ?_; clear zf1; first | exact rfl | exact True.intro | ((try (repeat' with_reducible refine And.intro ?_ ?_)); (try any_goals (first | refine zm ?_ | exact CL | fail))))))
    ((first | apply pr_psv | apply prD_psv | apply pr_qrunv | apply prD_qrunv) <;> (first | exact hK | (have zf1 := @e2; refine XG ?_; clear zf1; first | exact rfl | exact True.intro | ((try (repeat' with_reducible refine And.intro ?_ ?_)); (try any_goals (first | refine zm ?_ | exact CL | fail))))))
    (refine xw_ifp (fun h1 => ?_) (fun h1 => ?_) <;> try exact h1.elim)
    (have zf1 := @e2; refine XG ?_; clear zf1; ((try (repeat' with_reducible refine And.intro ?_ ?_)); (try any_goals (first | refine zm ?_ | exact CL | fail))))
    ((first | apply pr_psv | apply prD_psv | apply pr_qrunv | apply prD_qrunv) <;> (first | exact hF | (have zf1 := @e2; refine XG ?_; clear zf1; first | exact rfl | exact True.intro | ((try (repeat' with_reducible refine And.intro ?_ ?_)); (try any_goals (first | refine zm ?_ | exact CL | fail))))))
    (refine xw_ifp (fun h2 => ?_) (fun h2 => ?_) <;> try exact h2.elim)
    (have zf1 := @e2; have zf2 := @e3; refine XG ?_; clear zf1 zf2; ((try (repeat' with_reducible refine And.intro ?_ ?_)); (try any_goals (first | refine zm ?_ | exact CL | fail))))
    refine loop_rule (fun k : Nat => k ≤ t.maps.length)
      (fun k => ⟨[(1, .int .i64 proto), (2, .int .i64 S), (3, .int .i64 inn), (4, .int .i64 draw), (5, .ptr 0 0), (10, .ptr 1 0), (11, .ptr 2 0), (14, .cl 50 [.ptr 0 0]), (17, .int .i64 (manyOf (t.maps.take k) S)), (61, .isl t.maps.length (mps t.maps)), (62, .int .i64 t.maps.length), (63, .int .i64 k)], [(0, .cells t.enc), (1, .cells z30), (2, .cells z5)], 3⟩) (fun k => t.maps.length - k) ft_bOpen.mixed hN
      ⟨0, by omega, [], by (have zf1 := @z30.eq_1; have zf2 := @z5.eq_1; refine XG ?_; clear zf1 zf2; ((try (repeat' with_reducible refine And.intro ?_ ?_)); (try any_goals (first | refine zm ?_ | exact CL | fail))))⟩ fun k hk => ?_
    (refine XG ?_; ((try (repeat' with_reducible refine And.intro ?_ ?_)); (try any_goals (first | refine zm ?_ | exact CL | fail))))
    (refine xw_ifp (fun h3 => ?_) (fun h3 => ?_) <;> try exact h3.elim)
    · have hkn : k < t.maps.length := by omega
      have hcut := mps_cut t.maps k hkn
      have hms := many_succ t.maps k hkn S
      have hmle := many_le t.maps k S
      generalize t.maps[k] = m at *
      obtain ⟨mp, ms, mi, ma, mt⟩ := m
      simp only [Mp.enc] at hcut
      dsimp only at hms
      (have zf1 := @hel; have zf2 := @hcut; refine XG ?_; clear zf1 zf2; ((try (repeat' with_reducible refine And.intro ?_ ?_)); (try any_goals (first | refine zm ?_ | exact CL | fail))))
      (refine xw_ifp (fun h4 => ?_) (fun h4 => ?_) <;> try exact h4.elim)
      · rw [if_pos (by omega)] at hms
        (refine XG ?_; ((try (repeat' with_reducible refine And.intro ?_ ?_)); (try any_goals (first | refine zm ?_ | exact CL | fail))))
        refine ⟨k + 1, by omega, ⟨[], ?_⟩, by omega⟩
        (have zf1 := @hms; refine XG ?_; clear zf1; ((try (repeat' with_reducible refine And.intro ?_ ?_)); (try any_goals (first | refine zm ?_ | exact CL | fail))))
      · rw [if_neg (by omega)] at hms
        (refine XG ?_; ((try (repeat' with_reducible refine And.intro ?_ ?_)); (try any_goals (first | refine zm ?_ | exact CL | fail))))
        refine ⟨k + 1, by omega, ⟨[], ?_⟩, by omega⟩
        (have zf1 := @hms; refine XG ?_; clear zf1; ((try (repeat' with_reducible refine And.intro ?_ ?_)); (try any_goals (first | refine zm ?_ | exact CL | fail))))
    · have : k = t.maps.length := by omega
      subst this
      have htl : t.maps.take t.maps.length = t.maps := List.take_length
      rw [htl]
      have hmc := many_le t.maps t.maps.length S
      rw [htl] at hmc
      have HH2 := Lib.hid (H2.out hfd)
      have HH3 := Lib.hid (H3.out hfd)
      clear H1 H2 H3
      generalize manyOf t.maps S = many at *
      (refine XG ?_; ((try (repeat' with_reducible refine And.intro ?_ ?_)); (try any_goals (first | refine zm ?_ | exact CL | fail))))
      (refine xw_ifp (fun h4 => ?_) (fun h4 => ?_) <;> try exact h4.elim)
      · have hR := HH2.out (by omega)
        subst hR
        (refine XG ?_; ((try (repeat' with_reducible refine And.intro ?_ ?_)); (try any_goals (first | refine zm ?_ | exact CL | fail))))
        ((first | refine pr_gs (ins := [0]) (bOpenNo_gs c.gl t ht.wf 6) ?_ ?_ | refine prD_gs (ins := [0]) (bOpenNo_gs c.gl t ht.wf 6) ?_ ?_ | refine pr_gsv (ins := [0]) (bOpenNo_gs c.gl t ht.wf 6) ?_ ?_ | refine prD_gsv (ins := [0]) (bOpenNo_gs c.gl t ht.wf 6) ?_ ?_) <;> (have zf1 := @e2; have zf2 := @putT.eq_1; have zf3 := @Mp.enc.eq_1; have zf4 := @mp0.eq_1; have zf5 := @z30.eq_1; have zf6 := @z5.eq_1; refine XG ?_; clear zf1 zf2 zf3 zf4 zf5 zf6; (try first | exact rfl | exact True.intro); ((try (repeat' with_reducible refine And.intro ?_ ?_)); (try any_goals (first | refine zm ?_ | exact CL | fail)))))
      have HH4 := Lib.hid (HH3.out (by omega))
      clear HH3 HH2
      by_cases hh1 : 1 ≤ t.hom S
      · have hbl : blksT t S = .isl (ownB t S 6).length (ints (natI (ownB t S 6))) := if_pos hh1
        have how : ownL t S = ownB t S 6 := if_pos hh1
        rw [hbl] at hBl
        rw [how] at HH4
        have hWb : ∀ k ∈ ownB t S 6, k < 6 := fun k hk => ownB_bd hk
        have hWl := ownB_le t S 6
        clear hbl how
        generalize ownB t S 6 = W at *
        have hWn := natI_len W
        have hBk := fun port => bBack_ps c.gl t ht.wf ht.len proto (t.hom S - 1) port
        generalize hfr : firstFree t proto (t.hom S - 1) = fr at *
        obtain ⟨a, ha⟩ : ∃ a : Int, a = t.hom S - 1 := ⟨_, rfl⟩
        rw [← ha] at HH4 hBk hfr
        (have zf1 := @e2; refine XG ?_; clear zf1; ((try (repeat' with_reducible refine And.intro ?_ ?_)); (try any_goals (first | refine zm ?_ | exact CL | fail))))
        ((first | apply pr_psv | apply prD_psv | apply pr_qrunv | apply prD_qrunv) <;> (first | exact hBl | (have zf1 := @e2; refine XG ?_; clear zf1; first | exact rfl | exact True.intro | ((try (repeat' with_reducible refine And.intro ?_ ?_)); (try any_goals (first | refine zm ?_ | exact CL | fail))))))
        refine loop_rule (fun k : Nat => k ≤ W.length ∧ fr (W.drop k) = fr W)
          (fun k => ⟨[(1, .int .i64 proto), (2, .int .i64 S), (3, .int .i64 inn), (4, .int .i64 draw), (5, .ptr 0 0), (10, .ptr 1 0), (11, .ptr 2 0), (14, .cl 50 [.ptr 0 0]), (20, .isl W.length (ints (natI W))), (85, .isl W.length (ints (natI W))), (86, .int .i64 W.length), (87, .int .i64 k)], [(0, .cells t.enc), (1, .cells z30), (2, .cells z5)], 3⟩) (fun k => W.length - k) ft_bOpen.mixed hN
          ⟨0, ⟨by omega, rfl⟩, [], by (refine XG ?_; ((try (repeat' with_reducible refine And.intro ?_ ?_)); (try any_goals (first | refine zm ?_ | exact CL | fail))))⟩ fun k hk => ?_
        obtain ⟨hk, hfk⟩ := hk
        (refine XG ?_; ((try (repeat' with_reducible refine And.intro ?_ ?_)); (try any_goals (first | refine zm ?_ | exact CL | fail))))
        (refine xw_ifp (fun h5 => ?_) (fun h5 => ?_) <;> try exact h5.elim)
        · have hkn : k < W.length := by omega
          have hbk := hWb _ (List.getElem_mem hkn)
          have hdr : W.drop k = W[k] :: W.drop (k + 1) := List.drop_eq_getElem_cons hkn
          have hcell := natI_get W k hkn
          rw [show W.getD k 0 = W[k] by simp [List.getD, hkn]] at hcell
          rw [hdr] at hfk
          generalize W[k] = q at *
          (have zf1 := @hWn; have zf2 := @hcell; refine XG ?_; clear zf1 zf2; ((try (repeat' with_reducible refine And.intro ?_ ?_)); (try any_goals (first | refine zm ?_ | exact CL | fail))))
          refine loop_rule (fun i : Nat => i ≤ 8 ∧ ((blkPorts q).drop i ++ (W.drop (k + 1)).flatMap blkPorts).find? (freeP t proto a) = fr W)
            (fun i => ⟨[(1, .int .i64 proto), (2, .int .i64 S), (3, .int .i64 inn), (4, .int .i64 draw), (5, .ptr 0 0), (10, .ptr 1 0), (11, .ptr 2 0), (14, .cl 50 [.ptr 0 0]), (20, .isl W.length (ints (natI W))), (22, .int .i64 q), (85, .isl W.length (ints (natI W))), (86, .int .i64 W.length), (87, .int .i64 k), (91, .int .i64 i)], [(0, .cells t.enc), (1, .cells z30), (2, .cells z5)], 3⟩) (fun i => 8 - i) ft_bOpen.mixed hN
            ⟨0, ⟨by omega, by rw [← hfk, ← hfr]; rfl⟩, [], by (refine XG ?_; ((try (repeat' with_reducible refine And.intro ?_ ?_)); (try any_goals (first | refine zm ?_ | exact CL | fail))))⟩ fun i hi => ?_
          obtain ⟨hi, hfi⟩ := hi
          (refine XG ?_; ((try (repeat' with_reducible refine And.intro ?_ ?_)); (try any_goals (first | refine zm ?_ | exact CL | fail))))
          (refine xw_ifp (fun h6 => ?_) (fun h6 => ?_) <;> try exact h6.elim)
          · have hi8 : i < 8 := by omega
            rw [blk_free q t proto a _ i hi8] at hfi
            have hB := hBk (1024 + (q : Int) * 8 + i)
            unfold freeP at hfi
            cases hfb : t.maps.find? (isBack proto a (1024 + (q : Int) * 8 + i)) with
            | none =>
              rw [hfb] at hfi hB
              simp only [Option.isNone_none, if_true] at hfi
              unfold mpT mp0 Mp.enc at hB
              dsimp only at hB
              have hR := HH4.out.1 _ hfi.symm
              subst hR
              have e24 := Tb.enc_len (t := t.add ⟨proto, S, inn, a, 1024 + (q : Int) * 8 + i⟩) ⟨ht.wf.pool, ht.wf.home⟩
              have hPut := bput_ps c.gl t ht.wf (show t.maps.length ≤ 100000 by omega) ⟨proto, S, inn, a, 1024 + (q : Int) * 8 + i⟩ false
              unfold putT Mp.enc at hPut
              generalize Tb.add _ _ = T3 at *
              dsimp only at hPut
              subst ha
              (have zf1 := @e2; have zf2 := @eh; refine XG ?_; clear zf1 zf2; ((try (repeat' with_reducible refine And.intro ?_ ?_)); (try any_goals (first | refine zm ?_ | exact CL | fail))))
              ((first | apply pr_psv | apply prD_psv | apply pr_qrunv | apply prD_qrunv) <;> (first | exact hB | (have zf1 := @e2; refine XG ?_; clear zf1; first | exact rfl | exact True.intro | ((try (repeat' with_reducible refine And.intro ?_ ?_)); (try any_goals (first | refine zm ?_ | exact CL | fail))))))
              (refine xw_ifp (fun h7 => ?_) (fun h7 => ?_) <;> try exact h7.elim)
              (have zf1 := @e2; have zf2 := @eh; refine XG ?_; clear zf1 zf2; ((try (repeat' with_reducible refine And.intro ?_ ?_)); (try any_goals (first | refine zm ?_ | exact CL | fail))))
              ((first | apply pr_psv | apply prD_psv | apply pr_qrunv | apply prD_qrunv) <;> (first | exact hPut | (have zf1 := @e2; have zf2 := @e24; have zf3 := @putT.eq_1; have zf4 := @Mp.enc.eq_1; have zf5 := @z30.eq_1; have zf6 := @z5.eq_1; refine XG ?_; clear zf1 zf2 zf3 zf4 zf5 zf6; first | exact rfl | exact True.intro | ((try (repeat' with_reducible refine And.intro ?_ ?_)); (try any_goals (first | refine zm ?_ | exact CL | fail))))))
            | some m =>
              rw [hfb] at hfi hB
              simp only [Option.isNone_some, Bool.false_eq_true, if_false] at hfi
              unfold mpT Mp.enc at hB
              dsimp only at hB
              subst ha
              (have zf1 := @e2; have zf2 := @eh; refine XG ?_; clear zf1 zf2; ((try (repeat' with_reducible refine And.intro ?_ ?_)); (try any_goals (first | refine zm ?_ | exact CL | fail))))
              ((first | apply pr_psv | apply prD_psv | apply pr_qrunv | apply prD_qrunv) <;> (first | exact hB | (have zf1 := @e2; refine XG ?_; clear zf1; first | exact rfl | exact True.intro | ((try (repeat' with_reducible refine And.intro ?_ ?_)); (try any_goals (first | refine zm ?_ | exact CL | fail))))))
              (refine xw_ifp (fun h7 => ?_) (fun h7 => ?_) <;> try exact h7.elim)
              (refine XG ?_; ((try (repeat' with_reducible refine And.intro ?_ ?_)); (try any_goals (first | refine zm ?_ | exact CL | fail))))
              refine ⟨i + 1, ⟨by omega, hfi⟩, ⟨[], ?_⟩, by omega⟩
              (refine XG ?_; ((try (repeat' with_reducible refine And.intro ?_ ?_)); (try any_goals (first | refine zm ?_ | exact CL | fail))))
          · have : i = 8 := by omega
            subst this
            rw [show (blkPorts q).drop 8 = [] by simp [blkPorts], List.nil_append] at hfi
            (refine XG ?_; ((try (repeat' with_reducible refine And.intro ?_ ?_)); (try any_goals (first | refine zm ?_ | exact CL | fail))))
            refine ⟨k + 1, ⟨by omega, by rw [← hfi, ← hfr]; rfl⟩, ⟨[], ?_⟩, by omega⟩
            (refine XG ?_; ((try (repeat' with_reducible refine And.intro ?_ ?_)); (try any_goals (first | refine zm ?_ | exact CL | fail))))
        · have : k = W.length := by omega
          subst this
          rw [List.drop_length] at hfk
          have HH5 := HH4.out.2 (by rw [← hfk, ← hfr]; rfl)
          have HPN := Lib.hid HH5.1
          have HPY := Lib.hid HH5.2
          clear HH4 HH5
          (refine XG ?_; ((try (repeat' with_reducible refine And.intro ?_ ?_)); (try any_goals (first | refine zm ?_ | exact CL | fail))))
          (refine xw_ifp (fun h6 => ?_) (fun h6 => ?_) <;> try exact h6.elim)
          · have hR := HPN.out (by omega)
            subst hR
            (refine XG ?_; ((try (repeat' with_reducible refine And.intro ?_ ?_)); (try any_goals (first | refine zm ?_ | exact CL | fail))))
            ((first | refine pr_gs (ins := [0]) (bOpenNo_gs c.gl t ht.wf 6) ?_ ?_ | refine prD_gs (ins := [0]) (bOpenNo_gs c.gl t ht.wf 6) ?_ ?_ | refine pr_gsv (ins := [0]) (bOpenNo_gs c.gl t ht.wf 6) ?_ ?_ | refine prD_gsv (ins := [0]) (bOpenNo_gs c.gl t ht.wf 6) ?_ ?_) <;> (have zf1 := @e2; have zf2 := @putT.eq_1; have zf3 := @Mp.enc.eq_1; have zf4 := @mp0.eq_1; have zf5 := @z30.eq_1; have zf6 := @z5.eq_1; refine XG ?_; clear zf1 zf2 zf3 zf4 zf5 zf6; (try first | exact rfl | exact True.intro); ((try (repeat' with_reducible refine And.intro ?_ ?_)); (try any_goals (first | refine zm ?_ | exact CL | fail)))))
          have HTK := Lib.hid ((HPY.out (by omega)).1 hh1)
          clear HPN HPY
          (have zf1 := @e2; have zf2 := @eh; refine XG ?_; clear zf1 zf2; ((try (repeat' with_reducible refine And.intro ?_ ?_)); (try any_goals (first | refine zm ?_ | exact CL | fail))))
          have e4 := Tb.enc_pool ht.wf
          (refine xw_ifp (fun h7 => ?_) (fun h7 => ?_) <;> try exact h7.elim)
          · omega
          clear h7
          rw [← ha]
          have hT := pTake_ps c.gl t.pool ht.wf.pool S a draw
          have htkn := taken t.pool ht.wf.pool S a draw
          have htw := Pool.take_wf t.pool ht.wf.pool S a draw
          generalize hx : t.pool.take S a draw = x at *
          obtain ⟨tp, tk, te⟩ := x
          unfold takeT at hT
          dsimp only at hT htw
          have etl := Pool.enc_len htw
          (have zf1 := @e2; have zf2 := @e4; refine XG ?_; clear zf1 zf2; ((try (repeat' with_reducible refine And.intro ?_ ?_)); (try any_goals (first | refine zm ?_ | exact CL | fail))))
          ((first | apply pr_psv | apply prD_psv | apply pr_qrunv | apply prD_qrunv) <;> (first | exact hT | (have zf1 := @e2; have zf2 := @etl; refine XG ?_; clear zf1 zf2; first | exact rfl | exact True.intro | ((try (repeat' with_reducible refine And.intro ?_ ?_)); (try any_goals (first | refine zm ?_ | exact CL | fail))))))
          (refine xw_ifp (fun h8 => ?_) (fun h8 => ?_) <;> try exact h8.elim)
          · have hR := HTK.out.trans (show opnT (t.tk proto S inn a draw) = putT t mp0 false te by unfold Tb.tk opnT; rw [hx]; simp [h8])
            subst hR
            (refine XG ?_; ((try (repeat' with_reducible refine And.intro ?_ ?_)); (try any_goals (first | refine zm ?_ | exact CL | fail))))
            ((first | refine pr_gs (ins := [0]) (bOpenNo_gs c.gl t ht.wf te) ?_ ?_ | refine prD_gs (ins := [0]) (bOpenNo_gs c.gl t ht.wf te) ?_ ?_ | refine pr_gsv (ins := [0]) (bOpenNo_gs c.gl t ht.wf te) ?_ ?_ | refine prD_gsv (ins := [0]) (bOpenNo_gs c.gl t ht.wf te) ?_ ?_) <;> (have zf1 := @e2; have zf2 := @putT.eq_1; have zf3 := @Mp.enc.eq_1; have zf4 := @mp0.eq_1; have zf5 := @z30.eq_1; have zf6 := @z5.eq_1; refine XG ?_; clear zf1 zf2 zf3 zf4 zf5 zf6; (try first | exact rfl | exact True.intro); ((try (repeat' with_reducible refine And.intro ?_ ?_)); (try any_goals (first | refine zm ?_ | exact CL | fail)))))
          have hte : te = 0 := by simpa using h8
          subst hte
          cases htkn with
          | no _ he => exact (he rfl).elim
          | yes b kk _ hb3 hk6 _ _ hgo _ _ _ =>
          have hpw := htw
          have es1 := Tb.enc_pool_set ht.wf hpw
          have hw1 : (⟨t.pool.put b kk (S + 1), t.home, t.maps⟩ : Tb).wf := ⟨hpw, ht.wf.home⟩
          have es2 : (⟨t.pool.put b kk (S + 1), t.home, t.maps⟩ : Tb).enc.set (21 + S) (.int .i64 (a + 1)) = (⟨t.pool.put b kk (S + 1), t.home.set S (a + 1), t.maps⟩ : Tb).enc := Tb.enc_home_set hw1 hS8 (a + 1)
          have hw2 : (⟨t.pool.put b kk (S + 1), t.home.set S (a + 1), t.maps⟩ : Tb).wf := ⟨hpw, by rw [List.length_set]; exact ht.wf.home⟩
          have e22 := Tb.enc_len hw2
          have e21 := Tb.enc_len hw1
          have hPut := bput_ps c.gl _ hw2 (show t.maps.length ≤ 100000 by omega) ⟨proto, S, inn, a, 1024 + (kk : Int) * 8⟩ true
          have hR := HTK.out.trans (show opnT (t.tk proto S inn a draw) = putT (Tb.add ⟨t.pool.put b kk (S + 1), t.home.set S (a + 1), t.maps⟩ ⟨proto, S, inn, a, 1024 + (kk : Int) * 8⟩) ⟨proto, S, inn, a, 1024 + (kk : Int) * 8⟩ true 0 by unfold Tb.tk opnT; rw [hx]; rfl)
          subst hR
          clear HTK
          have e24 := Tb.enc_len (t := Tb.add ⟨t.pool.put b kk (S + 1), t.home.set S (a + 1), t.maps⟩ ⟨proto, S, inn, a, 1024 + (kk : Int) * 8⟩) ⟨hw2.pool, hw2.home⟩
          unfold putT Mp.enc at hPut
          generalize Tb.add _ _ = T3 at *
          generalize (⟨t.pool.put b kk (S + 1), t.home.set S (a + 1), t.maps⟩ : Tb) = T2 at *
          generalize (⟨t.pool.put b kk (S + 1), t.home, t.maps⟩ : Tb) = T1 at *
          dsimp only at hPut
          (have zf1 := @e2; have zf2 := @es1; have zf3 := @es2; have zf4 := @e22; have zf5 := @e21; refine XG ?_; clear zf1 zf2 zf3 zf4 zf5; ((try (repeat' with_reducible refine And.intro ?_ ?_)); (try any_goals (first | refine zm ?_ | exact CL | fail))))
          ((first | apply pr_psv | apply prD_psv | apply pr_qrunv | apply prD_qrunv) <;> (first | exact hPut | (have zf1 := @e2; have zf2 := @e24; have zf3 := @putT.eq_1; have zf4 := @Mp.enc.eq_1; have zf5 := @z30.eq_1; have zf6 := @z5.eq_1; refine XG ?_; clear zf1 zf2 zf3 zf4 zf5 zf6; first | exact rfl | exact True.intro | ((try (repeat' with_reducible refine And.intro ?_ ?_)); (try any_goals (first | refine zm ?_ | exact CL | fail))))))
      · have hbl : blksT t S = .nils := if_neg hh1
        have how : ownL t S = [] := if_neg hh1
        rw [hbl] at hBl
        rw [how] at HH4
        (have zf1 := @e2; refine XG ?_; clear zf1; ((try (repeat' with_reducible refine And.intro ?_ ?_)); (try any_goals (first | refine zm ?_ | exact CL | fail))))
        ((first | apply pr_psv | apply prD_psv | apply pr_qrunv | apply prD_qrunv) <;> (first | exact hBl | (have zf1 := @e2; refine XG ?_; clear zf1; first | exact rfl | exact True.intro | ((try (repeat' with_reducible refine And.intro ?_ ?_)); (try any_goals (first | refine zm ?_ | exact CL | fail))))))
        refine loop_rule (fun _ : Unit => True)
          (fun _ => ⟨[(1, .int .i64 proto), (2, .int .i64 S), (3, .int .i64 inn), (4, .int .i64 draw), (5, .ptr 0 0), (10, .ptr 1 0), (11, .ptr 2 0), (14, .cl 50 [.ptr 0 0]), (20, .nils), (85, .nils), (86, .int .i64 0), (87, .int .i64 0)], [(0, .cells t.enc), (1, .cells z30), (2, .cells z5)], 3⟩) (fun _ => 0) ft_bOpen.mixed hN
          ⟨(), trivial, [], by (refine XG ?_; ((try (repeat' with_reducible refine And.intro ?_ ?_)); (try any_goals (first | refine zm ?_ | exact CL | fail))))⟩ fun _ _ => ?_
        (refine XG ?_; ((try (repeat' with_reducible refine And.intro ?_ ?_)); (try any_goals (first | refine zm ?_ | exact CL | fail))))
        (refine xw_ifp (fun h5 => ?_) (fun h5 => ?_) <;> try exact h5.elim)
        (refine XG ?_; ((try (repeat' with_reducible refine And.intro ?_ ?_)); (try any_goals (first | refine zm ?_ | exact CL | fail))))
        (refine xw_ifp (fun h6 => ?_) (fun h6 => ?_) <;> try exact h6.elim)
        (have zf1 := @e2; have zf2 := @eh; refine XG ?_; clear zf1 zf2; ((try (repeat' with_reducible refine And.intro ?_ ?_)); (try any_goals (first | refine zm ?_ | exact CL | fail))))
        have e4 := Tb.enc_pool ht.wf
        have hP := pPick_ps c.gl t.pool ht.wf.pool draw
        have HH5 := (HH4.out.2 rfl).2 (by simp)
        have HH6 := HH5.2 hh1
        have HPN := Lib.hid HH6.1
        have HPY := Lib.hid HH6.2
        clear HH4 HH5 HH6
        have hpk := picked t.pool draw
        generalize t.pool.pick draw = pk at *
        obtain ⟨pa, pe⟩ := pk
        dsimp only at HPN HPY hP
        (refine xw_ifp (fun h7 => ?_) (fun h7 => ?_) <;> try exact h7.elim)
        rotate_left
        · omega
        (have zf1 := @e2; have zf2 := @e4; refine XG ?_; clear zf1 zf2; ((try (repeat' with_reducible refine And.intro ?_ ?_)); (try any_goals (first | refine zm ?_ | exact CL | fail))))
        ((first | apply pr_psv | apply prD_psv | apply pr_qrunv | apply prD_qrunv) <;> (first | exact hP | (have zf1 := @e2; refine XG ?_; clear zf1; first | exact rfl | exact True.intro | ((try (repeat' with_reducible refine And.intro ?_ ?_)); (try any_goals (first | refine zm ?_ | exact CL | fail))))))
        (refine xw_ifp (fun h8 => ?_) (fun h8 => ?_) <;> try exact h8.elim)
        · have hR := HPN.out h8
          subst hR
          (refine XG ?_; ((try (repeat' with_reducible refine And.intro ?_ ?_)); (try any_goals (first | refine zm ?_ | exact CL | fail))))
          ((first | refine pr_gs (ins := [0]) (bOpenNo_gs c.gl t ht.wf pe) ?_ ?_ | refine prD_gs (ins := [0]) (bOpenNo_gs c.gl t ht.wf pe) ?_ ?_ | refine pr_gsv (ins := [0]) (bOpenNo_gs c.gl t ht.wf pe) ?_ ?_ | refine prD_gsv (ins := [0]) (bOpenNo_gs c.gl t ht.wf pe) ?_ ?_) <;> (have zf1 := @e2; have zf2 := @putT.eq_1; have zf3 := @Mp.enc.eq_1; have zf4 := @mp0.eq_1; have zf5 := @z30.eq_1; have zf6 := @z5.eq_1; refine XG ?_; clear zf1 zf2 zf3 zf4 zf5 zf6; (try first | exact rfl | exact True.intro); ((try (repeat' with_reducible refine And.intro ?_ ?_)); (try any_goals (first | refine zm ?_ | exact CL | fail)))))
        have hpe : pe = 0 := by simpa using h8
        subst hpe
        have HTK := Lib.hid (HPY.out rfl)
        have hT := pTake_ps c.gl t.pool ht.wf.pool S pa draw
        have htkn := taken t.pool ht.wf.pool S pa draw
        have htw := Pool.take_wf t.pool ht.wf.pool S pa draw
        generalize hx : t.pool.take S pa draw = x at *
        obtain ⟨tp, tk, te⟩ := x
        unfold takeT at hT
        dsimp only at hT htw
        have etl := Pool.enc_len htw
        clear h8
        (have zf1 := @e2; have zf2 := @e4; refine XG ?_; clear zf1 zf2; ((try (repeat' with_reducible refine And.intro ?_ ?_)); (try any_goals (first | refine zm ?_ | exact CL | fail))))
        ((first | apply pr_psv | apply prD_psv | apply pr_qrunv | apply prD_qrunv) <;> (first | exact hT | (have zf1 := @e2; have zf2 := @etl; refine XG ?_; clear zf1 zf2; first | exact rfl | exact True.intro | ((try (repeat' with_reducible refine And.intro ?_ ?_)); (try any_goals (first | refine zm ?_ | exact CL | fail))))))
        (refine xw_ifp (fun h8 => ?_) (fun h8 => ?_) <;> try exact h8.elim)
        · have hR := HTK.out.trans (show opnT (t.tk proto S inn pa draw) = putT t mp0 false te by unfold Tb.tk opnT; rw [hx]; simp [h8])
          subst hR
          (refine XG ?_; ((try (repeat' with_reducible refine And.intro ?_ ?_)); (try any_goals (first | refine zm ?_ | exact CL | fail))))
          ((first | refine pr_gs (ins := [0]) (bOpenNo_gs c.gl t ht.wf te) ?_ ?_ | refine prD_gs (ins := [0]) (bOpenNo_gs c.gl t ht.wf te) ?_ ?_ | refine pr_gsv (ins := [0]) (bOpenNo_gs c.gl t ht.wf te) ?_ ?_ | refine prD_gsv (ins := [0]) (bOpenNo_gs c.gl t ht.wf te) ?_ ?_) <;> (have zf1 := @e2; have zf2 := @putT.eq_1; have zf3 := @Mp.enc.eq_1; have zf4 := @mp0.eq_1; have zf5 := @z30.eq_1; have zf6 := @z5.eq_1; refine XG ?_; clear zf1 zf2 zf3 zf4 zf5 zf6; (try first | exact rfl | exact True.intro); ((try (repeat' with_reducible refine And.intro ?_ ?_)); (try any_goals (first | refine zm ?_ | exact CL | fail)))))
        have hte : te = 0 := by simpa using h8
        subst hte
        cases htkn with
        | no _ he => exact (he rfl).elim
        | yes b kk _ hb3 hk6 _ _ hgo _ _ _ =>
        have hpw := htw
        have es1 := Tb.enc_pool_set ht.wf hpw
        have hw1 : (⟨t.pool.put b kk (S + 1), t.home, t.maps⟩ : Tb).wf := ⟨hpw, ht.wf.home⟩
        have es2 : (⟨t.pool.put b kk (S + 1), t.home, t.maps⟩ : Tb).enc.set (21 + S) (.int .i64 (pa + 1)) = (⟨t.pool.put b kk (S + 1), t.home.set S (pa + 1), t.maps⟩ : Tb).enc := Tb.enc_home_set hw1 hS8 (pa + 1)
        have hw2 : (⟨t.pool.put b kk (S + 1), t.home.set S (pa + 1), t.maps⟩ : Tb).wf := ⟨hpw, by rw [List.length_set]; exact ht.wf.home⟩
        have e22 := Tb.enc_len hw2
        have e21 := Tb.enc_len hw1
        have hPut := bput_ps c.gl _ hw2 (show t.maps.length ≤ 100000 by omega) ⟨proto, S, inn, pa, 1024 + (kk : Int) * 8⟩ true
        have hR := HTK.out.trans (show opnT (t.tk proto S inn pa draw) = putT (Tb.add ⟨t.pool.put b kk (S + 1), t.home.set S (pa + 1), t.maps⟩ ⟨proto, S, inn, pa, 1024 + (kk : Int) * 8⟩) ⟨proto, S, inn, pa, 1024 + (kk : Int) * 8⟩ true 0 by unfold Tb.tk opnT; rw [hx]; rfl)
        subst hR
        clear HTK HPY HPN
        have e24 := Tb.enc_len (t := Tb.add ⟨t.pool.put b kk (S + 1), t.home.set S (pa + 1), t.maps⟩ ⟨proto, S, inn, pa, 1024 + (kk : Int) * 8⟩) ⟨hw2.pool, hw2.home⟩
        unfold putT Mp.enc at hPut
        generalize Tb.add _ _ = T3 at *
        generalize (⟨t.pool.put b kk (S + 1), t.home.set S (pa + 1), t.maps⟩ : Tb) = T2 at *
        generalize (⟨t.pool.put b kk (S + 1), t.home, t.maps⟩ : Tb) = T1 at *
        dsimp only at hPut
        (have zf1 := @e2; have zf2 := @es1; have zf3 := @es2; have zf4 := @e22; have zf5 := @e21; refine XG ?_; clear zf1 zf2 zf3 zf4 zf5; ((try (repeat' with_reducible refine And.intro ?_ ?_)); (try any_goals (first | refine zm ?_ | exact CL | fail))))
        ((first | apply pr_psv | apply prD_psv | apply pr_qrunv | apply prD_qrunv) <;> (first | exact hPut | (have zf1 := @e2; have zf2 := @e24; have zf3 := @putT.eq_1; have zf4 := @Mp.enc.eq_1; have zf5 := @z30.eq_1; have zf6 := @z5.eq_1; refine XG ?_; clear zf1 zf2 zf3 zf4 zf5 zf6; first | exact rfl | exact True.intro | ((try (repeat' with_reducible refine And.intro ?_ ?_)); (try any_goals (first | refine zm ?_ | exact CL | fail))))))
end Go.Proofs.Ytphaicaobepimaa
