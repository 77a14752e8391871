/- What the document's CloseMap answers. No conditions but the ones that stand in each. -/
import Derived.Test.YtphaicaobepimaaGg
namespace Go.Proofs.Ytphaicaobepimaa
set_option linter.all false
set_option linter.unusedSimpArgs false
open Go.RowKit

section
variable {P : Program} {c : Cx} {s : St}
theorem R.last {g : Nat → GM} {s : FS} {a : Act} {w : World} (hR : R c g s a w) {b : Nat} {cs : List AV} {x y : AV} (hb : s.H b = .cells (cs ++ [x])) (hxy : ∀ (W : Nat → Prop) (v : Value), VR g W w x v → VR g W w y v) : R c g (s.putB b (.cells (cs ++ [y]))) a w := by
  have hBR := hR.h b
  rw [hb] at hBR
  have hlive : (s.H b).live := by rw [hb]; trivial
  generalize hgb : g b = m at hBR
  generalize hL : cs ++ [x] = L at hBR
  cases hBR with
  | ph => simp at hL
  | cells h1 h2 h3 h4 h5 =>
    subst hL
    rename_i k cur e fz
    refine hR.setBlock hgb hlive trivial (Fr.refl w _) (.cells h1 (by simpa using h2) (fun j hj => h3 j (by simpa using hj)) (fun j hj => ?_) h5)
    have h6 := h4 j (by simpa using hj)
    by_cases hj2 : j < cs.length
    · rw [List.getD_eq_getElem?_getD, List.getElem?_append_left hj2] at h6 ⊢; exact h6
    · have hje : j = cs.length := by simp at hj; omega
      subst hje
      rw [List.getD_eq_getElem?_getD, List.getElem?_append_right (Nat.le_refl _), Nat.sub_self] at h6 ⊢
      exact hxy _ _ h6
/-- The last cell of a block, that is nil, as a row with a name. -/
theorem loop_cellnil {b : TC} {Q : EX → St → Prop} (i es : Nat) (cs : List AV) (hb : s.fs.H i = .cells (cs ++ [.nils])) (hf : s.fs.H s.n = .free)
    (h : LoopVC P c b Q ((⟨s.t, (s.n, .cells []) :: s.h, s.n + 1⟩ : St).putB i (.cells (cs ++ [.sl es s.n 0 0 0])))) : LoopVC P c b Q s := by
  intro code he g a w hR
  have e : (⟨s.t, (s.n, .cells []) :: s.h, s.n + 1⟩ : St).fs = s.fs.putB s.n (.cells []) := by
    refine fs_ext (fun j => rfl) (fun j => ?_)
    show lookb ((s.n, _) :: s.h) (s.n + 1) j = (s.fs.putB s.n _).H j
    rw [lookb_cons]
    unfold FS.putB
    by_cases hj : j = s.n
    · subst hj; simp
    · have hj2 : ¬ s.n = j := fun q => hj q.symm
      simp only [hj, hj2, if_false]
      exact lookb_up _ _ _ hj
  have hi : i ≠ s.n := by rintro rfl; rw [hb] at hf; cases hf
  have h1 := hR.phantom hf
  refine h code he (updG g s.n .ph) a w ?_
  rw [St.fs_putB, e]
  refine h1.last (x := .nils) ?_ fun W v hv => ?_
  · show (if s.n = i then _ else s.fs.H i) = _
    rw [if_neg (fun q => hi q.symm)]; exact hb
  · obtain ⟨ad, rfl⟩ := nils_inv hv
    exact .slp updG_self rfl
end
def keepM (l : List Mp) (m : Mp) (k : Nat) : List Mp := (l.take k).filter fun o => !decide (o = m)
def hasM (l : List Mp) (m : Mp) (k : Nat) : Bool := (l.take k).any fun o => decide (o = m)
theorem take_snoc (l : List Mp) (k : Nat) (h : k < l.length) : l.take (k + 1) = l.take k ++ [l[k]] := by rw [List.take_succ, List.getElem?_eq_getElem h]; rfl
theorem keep_yes {l : List Mp} {m : Mp} {k : Nat} (h : k < l.length) (he : l[k] = m) : keepM l m (k + 1) = keepM l m k ∧ hasM l m (k + 1) = true := by
  unfold keepM hasM; rw [take_snoc l k h, List.filter_append, List.any_append]; simp [List.filter_cons, he]
theorem keep_no {l : List Mp} {m : Mp} {k : Nat} (h : k < l.length) (he : l[k] ≠ m) : keepM l m (k + 1) = keepM l m k ++ [l[k]] ∧ hasM l m (k + 1) = hasM l m k := by
  unfold keepM hasM; rw [take_snoc l k h, List.filter_append, List.any_append]; simp [List.filter_cons, he]
theorem keep_le (l : List Mp) (m : Mp) (k : Nat) : (keepM l m k).length ≤ k := Nat.le_trans (List.length_filter_le _ _) (by rw [List.length_take]; omega)
theorem hd_own_set {t : Tb} (h : t.wf) {A K : Nat} (hA : A < 3) (hK : K < 6) (v : Int) (x : AV) : (t.hd ++ [x]).set (A * 6 + K) (.int .i64 v) = (⟨t.pool.put A K v, t.home, t.maps⟩ : Tb).hd ++ [x] := by
  have hl := h.pool.own
  unfold Tb.hd Pool.enc Pool.put
  rw [List.append_assoc, List.append_assoc, List.set_append_left _ _ (by rw [ints_len, hl]; omega), List.append_assoc, List.append_assoc]
  simp [ints, List.map_set]
theorem hd_row {t : Tb} (h : t.wf) (x : AV) {a : Nat} (ha : a < 3) : ((t.hd ++ [x]).drop (a * 6)).take 6 = ints (t.pool.row a) := by
  have e := row_take t.pool h.pool a ha
  unfold Tb.hd
  rw [List.append_assoc, List.drop_append_of_le_length (by rw [Pool.enc_len h.pool]; omega), List.take_append_of_le_length (by rw [List.length_drop, Pool.enc_len h.pool]; omega), e]
set_option maxHeartbeats 4000000 in
set_option maxRecDepth 20000 in
theorem rClose_bad (gl : Nat → AV) (t : Tb) (ht : t.ok) (hh : Hid (∀ s, s < 8 → -9223372036854775808 ≤ t.hom s ∧ t.hom s ≤ 9223372036854775807)) (m : Mp) (h : goodB t = false) : PS Try.prog gl 28 [.agg t.enc, .agg m.enc] (clsT (t, false, 2)) := by
  refine ft_rClose.ps (of_decide_eq_true rfl) (by simp [clsT_nm]) fun c hN hg => ?_
  unfold T_rClose
  have e2 := Tb.enc_len ht.wf
  have hG := rGoodTable_ps c.gl t ht hh
  rw [h] at hG
  unfold Mp.enc
  (have zf1 := @e2; refine XG ?_; clear zf1; ((try (repeat' with_reducible refine And.intro ?_ ?_)); (try any_goals (first | refine zm ?_ | exact CL | fail))))
  ((first | apply pr_psv | apply prD_psv | apply pr_qrunv | apply prD_qrunv) <;> (first | exact hG | (have zf1 := @e2; refine XG ?_; clear zf1; first | exact rfl | exact True.intro | ((try (repeat' with_reducible refine And.intro ?_ ?_)); (try any_goals (first | refine zm ?_ | exact CL | fail))))))
  (refine xw_ifp (fun h1 => ?_) (fun h1 => ?_) <;> try exact h1.elim)
  (have zf1 := @e2; have zf2 := @clsT.eq_1; refine XG ?_; clear zf1 zf2; ((try (repeat' with_reducible refine And.intro ?_ ?_)); (try any_goals (first | refine zm ?_ | exact CL | fail))))
set_option maxHeartbeats 16000000 in
set_option maxRecDepth 20000 in
theorem rClose_in (gl : Nat → AV) (t : Tb) (ht : t.ok) (hh : Hid (∀ s, s < 8 → -9223372036854775808 ≤ t.hom s ∧ t.hom s ≤ 9223372036854775807)) (hgt : goodT t) (m : Mp) (hmb : -9223372036854775808 ≤ m.port ∧ m.port ≤ 9223372036854775807) (L : List Mp) (hL : keepM t.maps m t.maps.length = L) (R : AV) (hnm : nmOk 0 R)
    (H0 : Hid (hasM t.maps m t.maps.length = false → R = clsT (t, false, 7)))
    (H1 : Hid (hasM t.maps m t.maps.length = true → 0 < L.countP (sameB m) → R = clsT (⟨t.pool, t.home, L⟩, false, 0)))
    (H2 : Hid (hasM t.maps m t.maps.length = true → ¬ 0 < L.countP (sameB m) → R = clsT ((⟨t.pool, t.home, L⟩ : Tb).give m, true, 0))) :
    PS Try.prog gl 28 [.agg t.enc, .agg m.enc] R := by
  refine ft_rClose.ps (of_decide_eq_true rfl) hnm fun c hN hg => ?_
  unfold T_rClose
  have e2 := Tb.enc_len ht.wf
  have e3 := Tb.enc_maps ht.wf
  have hG := rGoodTable_ps c.gl t ht hh
  rw [goodB_t hgt] at hG
  have hml := maps_le hgt
  have hel := mps_len t.maps
  have hs := Tb.enc_set ht.wf
  have hhl := Tb.hd_len ht.wf
  have hgd := fun x => hd_get29 ht.wf x
  have hs29 := fun x y => hd_set29 ht.wf x y
  have hbm := rBlockOf_ps c.gl m.port hmb
  have hsm : ∀ o : Mp, sameB m o = (decide (o.a = m.a) && decide (blkOf' o.port = blkOf' m.port)) := fun _ => rfl
  have hbl := blk_lt m.port
  unfold blkT at hbm
  obtain ⟨mp, ms, mi, ma, mt⟩ := m
  dsimp only at *
  unfold Mp.enc
  generalize (if inPort mt = true then (mt - 1024) % 8 else 0) = mj at *
  generalize hmq : inPort mt = mq at *
  generalize hmk : blkOf' mt = mk at *
  (have zf1 := @e2; refine XG ?_; clear zf1; ((try (repeat' with_reducible refine And.intro ?_ ?_)); (try any_goals (first | refine zm ?_ | exact CL | fail))))
  ((first | apply pr_psv | apply prD_psv | apply pr_qrunv | apply prD_qrunv) <;> (first | exact hG | (have zf1 := @e2; refine XG ?_; clear zf1; first | exact rfl | exact True.intro | ((try (repeat' with_reducible refine And.intro ?_ ?_)); (try any_goals (first | refine zm ?_ | exact CL | fail))))))
  (refine xw_ifp (fun h1 => ?_) (fun h1 => ?_) <;> try exact h1.elim)
  (have zf1 := @hs; have zf2 := @hhl; have zf3 := @e2; refine XG ?_; clear zf1 zf2 zf3; ((try (repeat' with_reducible refine And.intro ?_ ?_)); (try any_goals (first | refine zm ?_ | exact CL | fail))))
  ((first | apply pr_psv | apply prD_psv | apply pr_qrunv | apply prD_qrunv) <;> (first | exact hbm | (have zf1 := @hhl; have zf2 := @e2; have zf3 := @e3; refine XG ?_; clear zf1 zf2 zf3; first | exact rfl | exact True.intro | ((try (repeat' with_reducible refine And.intro ?_ ?_)); (try any_goals (first | refine zm ?_ | exact CL | fail))))))
  refine loop_cellnil 3 5 t.hd ?_ ?_ ?_
  · exact rfl
  · exact rfl
  refine loop_rule (fun k : Nat => k ≤ t.maps.length)
    (fun k => ⟨[(2, .ptr 0 0), (3, .ptr 1 0), (4, .ptr 2 0), (7, .ptr 3 0), (8, .int .i64 mk), (11, .int .i64 ((keepM t.maps ⟨mp, ms, mi, ma, mt⟩ k).countP (sameB ⟨mp, ms, mi, ma, mt⟩) : Nat)), (12, .bool (hasM t.maps ⟨mp, ms, mi, ma, mt⟩ k)), (35, .isl t.maps.length (mps t.maps)), (36, .int .i64 t.maps.length), (37, .int .i64 k)],
      [(0, .cells t.enc), (1, .cells [.int .i64 mp, .int .i64 ms, .int .i64 mi, .int .i64 ma, .int .i64 mt]), (2, .cells z30n), (3, .cells (t.hd ++ [.sl 5 4 0 (keepM t.maps ⟨mp, ms, mi, ma, mt⟩ k).length (keepM t.maps ⟨mp, ms, mi, ma, mt⟩ k).length])), (4, .cells (mps (keepM t.maps ⟨mp, ms, mi, ma, mt⟩ k)))], 5⟩) (fun k => t.maps.length - k) ft_rClose.mixed hN
    ⟨0, by omega, [], by (have zf1 := @St.putB.eq_1; have zf2 := @z30n.eq_1; have zf3 := @z30.eq_1; refine XG ?_; clear zf1 zf2 zf3; ((try (repeat' with_reducible refine And.intro ?_ ?_)); (try any_goals (first | refine zm ?_ | exact CL | fail)))) <;> exact rfl⟩ fun k hk => ?_
  (refine XG ?_; ((try (repeat' with_reducible refine And.intro ?_ ?_)); (try any_goals (first | refine zm ?_ | exact CL | fail))))
  (refine xw_ifp (fun h2 => ?_) (fun h2 => ?_) <;> try exact h2.elim)
  · have hkn : k < t.maps.length := by omega
    have hcut := mps_cut t.maps k hkn
    have hob := (hgt.maps k hkn).1.2.1
    have hob : -9223372036854775808 ≤ t.maps[k].port ∧ t.maps[k].port ≤ 9223372036854775807 := by
      unfold inPort at hob
      simp only [Bool.and_eq_true, decide_eq_true_eq] at hob
      omega
    have hbo := rBlockOf_ps c.gl t.maps[k].port hob
    have heq := @mp_eq c false t.maps[k] ⟨mp, ms, mi, ma, mt⟩
    have hky := @keep_yes t.maps ⟨mp, ms, mi, ma, mt⟩ k hkn
    have hkn2 := @keep_no t.maps ⟨mp, ms, mi, ma, mt⟩ k hkn
    have hks := hsm t.maps[k]
    have hle := keep_le t.maps ⟨mp, ms, mi, ma, mt⟩ k
    generalize hK : keepM t.maps ⟨mp, ms, mi, ma, mt⟩ k = K at *
    generalize hasM t.maps ⟨mp, ms, mi, ma, mt⟩ k = F at *
    have hle2 := List.countP_le_length (p := sameB ⟨mp, ms, mi, ma, mt⟩) (l := K)
    generalize t.maps[k] = o at *
    obtain ⟨op, os, oi, oa, ot⟩ := o
    simp only [Mp.enc] at hcut heq
    dsimp only at hbo hks
    unfold blkT at hbo
    generalize (if inPort ot = true then (ot - 1024) % 8 else 0) = oj at *
    generalize blkOf' ot = ob at *
    generalize inPort ot = oq at *
    by_cases hoe : (⟨op, os, oi, oa, ot⟩ : Mp) = ⟨mp, ms, mi, ma, mt⟩
    · obtain ⟨hk1, hk2⟩ := hky hoe
      rw [decide_eq_true hoe] at heq
      (have zf1 := @hel; have zf2 := @hcut; refine XG ?_; clear zf1 zf2; ((try (repeat' with_reducible refine And.intro ?_ ?_)); (try any_goals (first | refine zm ?_ | exact CL | fail))))
      ((first | apply pr_psv | apply prD_psv | apply pr_qrunv | apply prD_qrunv) <;> (first | exact heq | (have zf1 := @hel; have zf2 := @hcut; refine XG ?_; clear zf1 zf2; first | exact rfl | exact True.intro | ((try (repeat' with_reducible refine And.intro ?_ ?_)); (try any_goals (first | refine zm ?_ | exact CL | fail))))))
      (refine xw_ifp (fun h3 => ?_) (fun h3 => ?_) <;> try exact h3.elim)
      (refine XG ?_; ((try (repeat' with_reducible refine And.intro ?_ ?_)); (try any_goals (first | refine zm ?_ | exact CL | fail))))
      refine ⟨k + 1, by omega, ⟨[], ?_⟩, by omega⟩
      (have zf1 := @hk1; have zf2 := @hk2; refine XG ?_; clear zf1 zf2; ((try (repeat' with_reducible refine And.intro ?_ ?_)); (try any_goals (first | refine zm ?_ | exact CL | fail))))
    · obtain ⟨hk1, hk2⟩ := hkn2 hoe
      rw [decide_eq_false hoe] at heq
      have hlK := mps_len K
      have hfK : (mps K).take (K.length * 5) = mps K := List.take_of_length_le (by omega)
      have hsn := mps_snoc K ⟨op, os, oi, oa, ot⟩
      have hln : (K ++ [(⟨op, os, oi, oa, ot⟩ : Mp)]).length = K.length + 1 := by simp
      have hcp : (K ++ [(⟨op, os, oi, oa, ot⟩ : Mp)]).countP (sameB ⟨mp, ms, mi, ma, mt⟩) = K.countP (sameB ⟨mp, ms, mi, ma, mt⟩) + if sameB ⟨mp, ms, mi, ma, mt⟩ ⟨op, os, oi, oa, ot⟩ = true then 1 else 0 := by
        rw [List.countP_append, List.countP_cons]; simp
      rw [hks] at hcp
      dsimp only at hsn
      (have zf1 := @hel; have zf2 := @hcut; refine XG ?_; clear zf1 zf2; ((try (repeat' with_reducible refine And.intro ?_ ?_)); (try any_goals (first | refine zm ?_ | exact CL | fail))))
      ((first | apply pr_psv | apply prD_psv | apply pr_qrunv | apply prD_qrunv) <;> (first | exact heq | (have zf1 := @hel; have zf2 := @hcut; refine XG ?_; clear zf1 zf2; first | exact rfl | exact True.intro | ((try (repeat' with_reducible refine And.intro ?_ ?_)); (try any_goals (first | refine zm ?_ | exact CL | fail))))))
      (refine xw_ifp (fun h3 => ?_) (fun h3 => ?_) <;> try exact h3.elim)
      (have zf1 := @hgd; have zf2 := @hhl; refine XG ?_; clear zf1 zf2; ((try (repeat' with_reducible refine And.intro ?_ ?_)); (try any_goals (first | refine zm ?_ | exact CL | fail))))
      ((first | apply pr_app | apply prD_app | apply pr_bsl | apply prD_bsl | apply pr_s2b | apply prD_s2b); (have zf1 := @hgd; have zf2 := @hhl; refine XG ?_; clear zf1 zf2; ((try (repeat' with_reducible refine And.intro ?_ ?_)); (try any_goals (first | refine zm ?_ | exact CL | fail)))))
      ((first | apply pr_app | apply prD_app | apply pr_bsl | apply prD_bsl | apply pr_s2b | apply prD_s2b); (have zf1 := @hlK; have zf2 := @hfK; have zf3 := @hhl; have zf4 := @hs29; refine XG ?_; clear zf1 zf2 zf3 zf4; ((try (repeat' with_reducible refine And.intro ?_ ?_)); (try any_goals (first | refine zm ?_ | exact CL | fail)))))
      ((first | apply pr_psv | apply prD_psv | apply pr_qrunv | apply prD_qrunv) <;> (first | exact hbo | (have zf1 := @hhl; refine XG ?_; clear zf1; first | exact rfl | exact True.intro | ((try (repeat' with_reducible refine And.intro ?_ ?_)); (try any_goals (first | refine zm ?_ | exact CL | fail))))))
      (refine xw_ifp (fun h4 => ?_) (fun h4 => ?_) <;> try exact h4.elim)
      · have hcp : (K ++ [(⟨op, os, oi, oa, ot⟩ : Mp)]).countP (sameB ⟨mp, ms, mi, ma, mt⟩) = K.countP (sameB ⟨mp, ms, mi, ma, mt⟩) + 1 := by rw [hcp]; simp [h4]
        (refine XG ?_; ((try (repeat' with_reducible refine And.intro ?_ ?_)); (try any_goals (first | refine zm ?_ | exact CL | fail))))
        refine ⟨k + 1, by omega, ⟨[(4, 7)], ?_⟩, by omega⟩
        (have zf1 := @hk1; have zf2 := @hk2; have zf3 := @hcp; have zf4 := @hsn; have zf5 := @hln; refine XG ?_; clear zf1 zf2 zf3 zf4 zf5; ((try (repeat' with_reducible refine And.intro ?_ ?_)); (try any_goals (first | refine zm ?_ | exact CL | fail))))
      · have hcp : (K ++ [(⟨op, os, oi, oa, ot⟩ : Mp)]).countP (sameB ⟨mp, ms, mi, ma, mt⟩) = K.countP (sameB ⟨mp, ms, mi, ma, mt⟩) := by rw [hcp]; simp; omega
        (refine XG ?_; ((try (repeat' with_reducible refine And.intro ?_ ?_)); (try any_goals (first | refine zm ?_ | exact CL | fail))))
        refine ⟨k + 1, by omega, ⟨[(4, 7)], ?_⟩, by omega⟩
        (have zf1 := @hk1; have zf2 := @hk2; have zf3 := @hcp; have zf4 := @hsn; have zf5 := @hln; refine XG ?_; clear zf1 zf2 zf3 zf4 zf5; ((try (repeat' with_reducible refine And.intro ?_ ?_)); (try any_goals (first | refine zm ?_ | exact CL | fail))))
  · have : k = t.maps.length := by omega
    subst this
    rw [hL]
    have hlK := mps_len L
    have hle := keep_le t.maps ⟨mp, ms, mi, ma, mt⟩ t.maps.length
    rw [hL] at hle
    have hfK : (mps L).take (L.length * 5) = mps L := List.take_of_length_le (by omega)
    by_cases hF : hasM t.maps ⟨mp, ms, mi, ma, mt⟩ t.maps.length = false
    · have hR := H0.out hF
      subst hR
      clear H0 H1 H2
      rw [hF]
      (refine XG ?_; ((try (repeat' with_reducible refine And.intro ?_ ?_)); (try any_goals (first | refine zm ?_ | exact CL | fail))))
      (refine xw_ifp (fun h3 => ?_) (fun h3 => ?_) <;> try exact h3.elim)
      (have zf1 := @e2; have zf2 := @clsT.eq_1; have zf3 := @z30n.eq_1; have zf4 := @z30.eq_1; refine XG ?_; clear zf1 zf2 zf3 zf4; ((try (repeat' with_reducible refine And.intro ?_ ?_)); (try any_goals (first | refine zm ?_ | exact CL | fail))))
    have hF : hasM t.maps ⟨mp, ms, mi, ma, mt⟩ t.maps.length = true := by simpa using hF
    have HH1 := Lib.hid (H1.out hF)
    have HH2 := Lib.hid (H2.out hF)
    rw [hF]
    clear H0 H1 H2
    generalize L.countP (sameB ⟨mp, ms, mi, ma, mt⟩) = cn at *
    (refine XG ?_; ((try (repeat' with_reducible refine And.intro ?_ ?_)); (try any_goals (first | refine zm ?_ | exact CL | fail))))
    (refine xw_ifp (fun h3 => ?_) (fun h3 => ?_) <;> try exact h3.elim)
    (refine XG ?_; ((try (repeat' with_reducible refine And.intro ?_ ?_)); (try any_goals (first | refine zm ?_ | exact CL | fail))))
    (refine xw_ifp (fun h4 => ?_) (fun h4 => ?_) <;> try exact h4.elim)
    · have hR := HH1.out (by omega)
      subst hR
      rw [show clsT (⟨t.pool, t.home, L⟩, false, 0) = .tup [.agg (t.hd ++ [.isl L.length (mps L)]), .bool false, .int .i64 0] from rfl]
      (have zf1 := @hhl; have zf2 := @z30n.eq_1; have zf3 := @z30.eq_1; have zf4 := @List.map_append.{0,0}; have zf5 := @hfK; refine XG ?_; clear zf1 zf2 zf3 zf4 zf5; ((try (repeat' with_reducible refine And.intro ?_ ?_)); (try any_goals (first | refine zm ?_ | exact CL | fail))))
    have hR := HH2.out (by omega)
    clear HH1 HH2
    subst hR
    obtain ⟨i, hil, him⟩ : ∃ i, ∃ h : i < t.maps.length, t.maps[i] = ⟨mp, ms, mi, ma, mt⟩ := by
      unfold hasM at hF
      rw [List.take_length, List.any_eq_true] at hF
      obtain ⟨o, ho, he⟩ := hF
      obtain ⟨i, hi, rfl⟩ := List.getElem_of_mem ho
      exact ⟨i, hi, of_decide_eq_true he⟩
    have hok := hgt.maps i hil
    rw [him] at hok
    clear hF him
    obtain ⟨⟨hkn, hip, ha0, ha3⟩, hho, how⟩ := hok
    obtain ⟨_, ⟨hs0, hs8⟩, _⟩ := known_bd hkn
    dsimp only at hkn hip ha0 ha3 hho how hs0 hs8
    rw [hmk] at how
    have hGv : (⟨t.pool, t.home, L⟩ : Tb).give ⟨mp, ms, mi, ma, mt⟩ = if ownL ⟨(t.pool.give ms ma mk).1, t.home, L⟩ ms.toNat = [] then ⟨(t.pool.give ms ma mk).1, t.home.set ms.toNat 0, L⟩ else ⟨(t.pool.give ms ma mk).1, t.home, L⟩ := by unfold Tb.give; rw [hmk]
    rw [hGv]
    clear hGv hL hkn hsm
    obtain ⟨A, rfl⟩ := Int.eq_ofNat_of_zero_le ha0
    obtain ⟨K, rfl⟩ := Int.eq_ofNat_of_zero_le hbl.1
    obtain ⟨S, rfl⟩ := Int.eq_ofNat_of_zero_le hs0
    have hA3 : A < 3 := by omega
    have hK6 : K < 6 := by omega
    have hS8 : S < 8 := by omega
    rw [Int.toNat_natCast] at hho
    rw [Int.toNat_natCast, Int.toNat_natCast] at how
    rw [Int.toNat_natCast, give_yes (goodT_GT.1 hgt).pool hA3 hK6 hs0 how]
    dsimp only
    have hos : ∀ x, (t.hd ++ [x]).set (A * 6 + K) (.int .i64 0) = (⟨t.pool.put A K 0, t.home, L⟩ : Tb).hd ++ [x] := fun x => hd_own_set ht.wf hA3 hK6 0 x
    have hw1 : (⟨t.pool.put A K 0, t.home, L⟩ : Tb).wf := ⟨Pool.put_wf _ ht.wf.pool _ _ _, ht.wf.home⟩
    have hw2 : (⟨t.pool.put A K 0, t.home.set S 0, L⟩ : Tb).wf := ⟨Pool.put_wf _ ht.wf.pool _ _ _, by rw [List.length_set]; exact ht.wf.home⟩
    have hrw := fun x => hd_row hw1 x hA3
    have hrl := row_length _ hw1.pool A hA3
    have hvv := fun k h => row_getD (t.pool.put A K 0) A k h
    have hol : ownL (⟨t.pool.put A K 0, t.home, L⟩ : Tb) S = ownB (⟨t.pool.put A K 0, t.home, L⟩ : Tb) S 6 := if_pos (show 1 ≤ t.hom S by omega)
    rw [hol]
    have hsucc := ownB_succ (⟨t.pool.put A K 0, t.home, L⟩ : Tb) S
    have hhm : (Tb.hom ⟨t.pool.put A K 0, t.home, L⟩ S - 1).toNat = A := by show (t.hom S - 1).toNat = A; omega
    rw [hhm] at hsucc
    have hW0 : ownB (⟨t.pool.put A K 0, t.home, L⟩ : Tb) S 0 = [] := rfl
    generalize ownB (⟨t.pool.put A K 0, t.home, L⟩ : Tb) S = W at *
    have hW0d : decide (W 0 ≠ []) = false := by rw [hW0]; simp
    have hhs := fun x => hd_home_set hw1 hS8 0 x
    have hl1 := Tb.hd_len hw1
    have hl2 := Tb.hd_len hw2
    dsimp only at hhs hsucc hrw hrl
    generalize t.pool.put A K 0 = P' at *
    (have zf1 := @hhl; have zf2 := @hos; refine XG ?_; clear zf1 zf2; ((try (repeat' with_reducible refine And.intro ?_ ?_)); (try any_goals (first | refine zm ?_ | exact CL | fail))))
    (have zf1 := @hl1; have zf2 := @hrw; refine XG ?_; clear zf1 zf2; ((try (repeat' with_reducible refine And.intro ?_ ?_)); (try any_goals (first | refine zm ?_ | exact CL | fail))))
    refine loop_rule (fun k : Nat => k ≤ 6)
      (fun k => ⟨[(2, .ptr 0 0), (3, .ptr 1 0), (4, .ptr 2 0), (7, .ptr 3 0), (18, .bool (decide (W k ≠ []))), (88, .agg (ints (P'.row A))), (89, .int .i64 k)],
        [(0, .cells t.enc), (1, .cells [.int .i64 mp, .int .i64 S, .int .i64 mi, .int .i64 A, .int .i64 mt]), (2, .cells z30n), (3, .cells ((⟨P', t.home, L⟩ : Tb).hd ++ [.sl 5 4 0 L.length L.length])), (4, .cells (mps L))], 5⟩) (fun k => 6 - k) ft_rClose.mixed hN
      ⟨0, by omega, [], by (have zf1 := @hW0d; refine XG ?_; clear zf1; ((try (repeat' with_reducible refine And.intro ?_ ?_)); (try any_goals (first | refine zm ?_ | exact CL | fail))))⟩ fun k hk => ?_
    (refine XG ?_; ((try (repeat' with_reducible refine And.intro ?_ ?_)); (try any_goals (first | refine zm ?_ | exact CL | fail))))
    (refine xw_ifp (fun h5 => ?_) (fun h5 => ?_) <;> try exact h5.elim)
    · have hk6 : k < 6 := by omega
      have hv := hvv k hk6
      have hsk := hsucc k
      generalize P'.ow A k = x at *
      by_cases hWk : W k = []
      · have e1 : decide (W k ≠ []) = false := by simp [hWk]
        rw [e1]
        by_cases hx : x = (S : Int) + 1
        · have hW1 : (decide (W (k + 1) ≠ [])) = true := by rw [hsk, if_pos hx]; simp
          (have zf1 := @hrl; have zf2 := @hv; refine XG ?_; clear zf1 zf2; ((try (repeat' with_reducible refine And.intro ?_ ?_)); (try any_goals (first | refine zm ?_ | exact CL | fail))))
          refine ⟨k + 1, by omega, ⟨[], ?_⟩, by omega⟩
          (have zf1 := @hW1; refine XG ?_; clear zf1; ((try (repeat' with_reducible refine And.intro ?_ ?_)); (try any_goals (first | refine zm ?_ | exact CL | fail)))) <;> simp [hx]
        · have hW1 : (decide (W (k + 1) ≠ [])) = false := by rw [hsk, if_neg hx, hWk]; simp
          (have zf1 := @hrl; have zf2 := @hv; refine XG ?_; clear zf1 zf2; ((try (repeat' with_reducible refine And.intro ?_ ?_)); (try any_goals (first | refine zm ?_ | exact CL | fail))))
          refine ⟨k + 1, by omega, ⟨[], ?_⟩, by omega⟩
          (have zf1 := @hW1; refine XG ?_; clear zf1; ((try (repeat' with_reducible refine And.intro ?_ ?_)); (try any_goals (first | refine zm ?_ | exact CL | fail)))) <;> simp [hx]
      · have e1 : (decide (W k ≠ [])) = true := by simp [hWk]
        have hW1 : (decide (W (k + 1) ≠ [])) = true := by rw [hsk]; simp [hWk]
        rw [e1]
        (have zf1 := @hrl; have zf2 := @hv; refine XG ?_; clear zf1 zf2; ((try (repeat' with_reducible refine And.intro ?_ ?_)); (try any_goals (first | refine zm ?_ | exact CL | fail))))
        refine ⟨k + 1, by omega, ⟨[], ?_⟩, by omega⟩
        (have zf1 := @hW1; refine XG ?_; clear zf1; ((try (repeat' with_reducible refine And.intro ?_ ?_)); (try any_goals (first | refine zm ?_ | exact CL | fail))))
    · have : k = 6 := by omega
      subst this
      by_cases hW : W 6 = []
      · have e1 : decide (W 6 ≠ []) = false := by simp [hW]
        rw [if_pos hW, e1]
        (refine XG ?_; ((try (repeat' with_reducible refine And.intro ?_ ?_)); (try any_goals (first | refine zm ?_ | exact CL | fail))))
        (refine xw_ifp (fun h6 => ?_) (fun h6 => ?_) <;> try exact h6.elim)
        rw [show clsT ((⟨P', t.home.set S 0, L⟩ : Tb), true, 0) = .tup [.agg ((⟨P', t.home.set S 0, L⟩ : Tb).hd ++ [.isl L.length (mps L)]), .bool true, .int .i64 0] from rfl]
        (have zf1 := @hl1; have zf2 := @hhs; have zf3 := @hl2; have zf4 := @z30n.eq_1; have zf5 := @z30.eq_1; have zf6 := @List.map_append.{0,0}; have zf7 := @hfK; refine XG ?_; clear zf1 zf2 zf3 zf4 zf5 zf6 zf7; ((try (repeat' with_reducible refine And.intro ?_ ?_)); (try any_goals (first | refine zm ?_ | exact CL | fail))))
      · have e1 : (decide (W 6 ≠ [])) = true := by simp [hW]
        rw [if_neg hW, e1]
        (refine XG ?_; ((try (repeat' with_reducible refine And.intro ?_ ?_)); (try any_goals (first | refine zm ?_ | exact CL | fail))))
        (refine xw_ifp (fun h6 => ?_) (fun h6 => ?_) <;> try exact h6.elim)
        rw [show clsT ((⟨P', t.home, L⟩ : Tb), true, 0) = .tup [.agg ((⟨P', t.home, L⟩ : Tb).hd ++ [.isl L.length (mps L)]), .bool true, .int .i64 0] from rfl]
        (have zf1 := @hl1; have zf2 := @z30n.eq_1; have zf3 := @z30.eq_1; have zf4 := @List.map_append.{0,0}; have zf5 := @hfK; refine XG ?_; clear zf1 zf2 zf3 zf4 zf5; ((try (repeat' with_reducible refine And.intro ?_ ?_)); (try any_goals (first | refine zm ?_ | exact CL | fail))))
end Go.Proofs.Ytphaicaobepimaa
