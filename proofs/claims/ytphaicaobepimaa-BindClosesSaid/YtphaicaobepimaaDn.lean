/- What bind.Close answers. No conditions but the ones that stand in each. -/
import Derived.Test.YtphaicaobepimaaDm
import Derived.Test.YtphaicaobepimaaDj
namespace Go.Proofs.Ytphaicaobepimaa
set_option linter.all false
set_option linter.unusedSimpArgs false
open Go.RowKit

theorem ixM_eq (m : Mp) : ∀ (l : List Mp) (k : Nat), ixM l m k = match l.findIdx? (fun x => decide (m = x)) with
    | some i => ((i + k : Nat) : Int)
    | none => -1
  | [], k => rfl
  | x :: l, k => by
    rw [ixM, ixM_eq m l (k + 1), List.findIdx?_cons]
    by_cases h : m = x
    · simp [h]
    · simp only [h, if_false, decide_false]
      cases l.findIdx? (fun x => decide (m = x)) with
      | none => rfl
      | some i => simp only [Option.map_some, Bool.false_eq_true, if_false]; congr 1; omega
theorem find_ix {l : List Mp} {m : Mp} {i : Nat} (h : l.findIdx? (fun x => decide (m = x)) = some i) : ∃ hi : i < l.length, l[i] = m := by
  obtain ⟨hi, h1, _⟩ := List.findIdx?_eq_some_iff_getElem.1 h
  exact ⟨hi, (of_decide_eq_true h1).symm⟩
/-- Do two maps lie in one block? -/
def sameB (m o : Mp) : Bool := decide (o.a = m.a) && decide (blkOf' o.port = blkOf' m.port)
/-- The table without a map, and without its block. -/
noncomputable def Tb.give (t : Tb) (m : Mp) : Tb :=
  if ownL ⟨(t.pool.give m.s m.a (blkOf' m.port)).1, t.home, t.maps⟩ m.s.toNat = [] then ⟨(t.pool.give m.s m.a (blkOf' m.port)).1, t.home.set m.s.toNat 0, t.maps⟩ else ⟨(t.pool.give m.s m.a (blkOf' m.port)).1, t.home, t.maps⟩
def Tb.del (t : Tb) (i : Nat) : Tb := ⟨t.pool, t.home, t.maps.eraseIdx i⟩
noncomputable def Tb.cls (t : Tb) (m : Mp) : Tb × Bool × Int :=
  if goodB t = false then (t, false, 2) else
  match t.maps.findIdx? (fun x => decide (m = x)) with
  | none => (t, false, 7)
  | some i => if (t.maps.eraseIdx i).any (sameB m) = true then (t.del i, false, 0) else ((t.del i).give m, true, 0)
def clsT (x : Tb × Bool × Int) : AV := .tup [.agg x.1.enc, .bool x.2.1, .int .i64 x.2.2]
theorem clsT_nm (x : Tb × Bool × Int) (n : Nat) : nmOk n (clsT x) = True := by simp [nmOk, nmAll, clsT, Tb.enc_nm]
theorem clsT_ren (x : Tb × Bool × Int) (ρ : Nat → Nat) : ren ρ (clsT x) = clsT x := by simp [ren, rens, clsT, Tb.enc_rens]
attribute [go_sem] clsT_nm clsT_ren
set_option maxHeartbeats 4000000 in
set_option maxRecDepth 20000 in
theorem bClose_bad (gl : Nat → AV) (t : Tb) (ht : t.ok) (m : Mp) (h : goodB t = false) : PS Try.prog gl 27 [.agg t.enc, .agg m.enc] (clsT (t, false, 2)) := by
  refine ft_bClose.ps (of_decide_eq_true rfl) (by simp [clsT_nm]) fun c hN hg => ?_
  unfold T_bClose
  have e2 := Tb.enc_len ht.wf
  have hG := bGood_ps c.gl t ht
  rw [h] at hG
  unfold Mp.enc
  (have zf1 := @e2; refine XG ?_; clear zf1; ((try (repeat' with_reducible refine And.intro ?_ ?_)); (try any_goals (first | refine zm ?_ | exact CL | fail))))
  ((first | apply pr_psv | apply prD_psv | apply pr_qrunv | apply prD_qrunv) <;> (first | exact hG | (have zf1 := @e2; refine XG ?_; clear zf1; first | exact rfl | exact True.intro | ((try (repeat' with_reducible refine And.intro ?_ ?_)); (try any_goals (first | refine zm ?_ | exact CL | fail))))))
  (refine xw_ifp (fun h1 => ?_) (fun h1 => ?_) <;> try exact h1.elim)
  (have zf1 := @e2; have zf2 := @clsT.eq_1; refine XG ?_; clear zf1 zf2; ((try (repeat' with_reducible refine And.intro ?_ ?_)); (try any_goals (first | refine zm ?_ | exact CL | fail))))
set_option maxHeartbeats 4000000 in
set_option maxRecDepth 20000 in
theorem bClose_none (gl : Nat → AV) (t : Tb) (ht : t.ok) (m : Mp) (h : goodB t = true) (hi : t.maps.findIdx? (fun x => decide (m = x)) = none) : PS Try.prog gl 27 [.agg t.enc, .agg m.enc] (clsT (t, false, 7)) := by
  refine ft_bClose.ps (of_decide_eq_true rfl) (by simp [clsT_nm]) fun c hN hg => ?_
  unfold T_bClose
  have e2 := Tb.enc_len ht.wf
  have e3 := Tb.enc_maps ht.wf
  have hG := bGood_ps c.gl t ht
  rw [h] at hG
  have hI := index_ps c.gl t.maps ht.len m
  rw [ixM_eq, hi] at hI
  dsimp only at hI
  unfold Mp.enc at hI ⊢
  (have zf1 := @e2; refine XG ?_; clear zf1; ((try (repeat' with_reducible refine And.intro ?_ ?_)); (try any_goals (first | refine zm ?_ | exact CL | fail))))
  ((first | apply pr_psv | apply prD_psv | apply pr_qrunv | apply prD_qrunv) <;> (first | exact hG | (have zf1 := @e2; refine XG ?_; clear zf1; first | exact rfl | exact True.intro | ((try (repeat' with_reducible refine And.intro ?_ ?_)); (try any_goals (first | refine zm ?_ | exact CL | fail))))))
  (refine xw_ifp (fun h1 => ?_) (fun h1 => ?_) <;> try exact h1.elim)
  (have zf1 := @e2; have zf2 := @e3; refine XG ?_; clear zf1 zf2; ((try (repeat' with_reducible refine And.intro ?_ ?_)); (try any_goals (first | refine zm ?_ | exact CL | fail))))
  ((first | apply pr_psv | apply prD_psv | apply pr_qrunv | apply prD_qrunv) <;> (first | exact hI | (have zf1 := @e2; have zf2 := @e3; refine XG ?_; clear zf1 zf2; first | exact rfl | exact True.intro | ((try (repeat' with_reducible refine And.intro ?_ ?_)); (try any_goals (first | refine zm ?_ | exact CL | fail))))))
  (refine xw_ifp (fun h2 => ?_) (fun h2 => ?_) <;> try exact h2.elim)
  (have zf1 := @e2; have zf2 := @clsT.eq_1; refine XG ?_; clear zf1 zf2; ((try (repeat' with_reducible refine And.intro ?_ ?_)); (try any_goals (first | refine zm ?_ | exact CL | fail))))
theorem hd_get29 {t : Tb} (h : t.wf) (x : AV) : (t.hd ++ [x]).getD 29 .any = x := by
  rw [List.getD_eq_getElem?_getD, List.getElem?_append_right (by rw [Tb.hd_len h]; decide), Tb.hd_len h]; rfl
theorem hd_pool {t : Tb} (h : t.wf) (x : AV) : (t.hd ++ [x]).take 21 = t.pool.enc := by
  unfold Tb.hd
  rw [List.append_assoc, List.take_append_of_le_length (by rw [Pool.enc_len h.pool]; decide), List.take_of_length_le (by rw [Pool.enc_len h.pool]; decide)]
theorem hd_pool_set {t : Tb} (h : t.wf) {p : Pool} (hp : p.wf) (x : AV) : splc (t.hd ++ [x]) 0 p.enc = (⟨p, t.home, t.maps⟩ : Tb).hd ++ [x] := by
  unfold splc Tb.hd
  rw [List.take_zero, List.nil_append, Pool.enc_len hp, List.append_assoc, List.append_assoc, Nat.zero_add, ← Pool.enc_len h.pool, List.drop_left]
theorem hd_home_set {t : Tb} (h : t.wf) {s : Nat} (hs : s < 8) (v : Int) (x : AV) : (t.hd ++ [x]).set (21 + s) (.int .i64 v) = (⟨t.pool, t.home.set s v, t.maps⟩ : Tb).hd ++ [x] := by
  unfold Tb.hd
  rw [List.append_assoc, List.set_append_right _ _ (by rw [Pool.enc_len h.pool]; omega), Pool.enc_len h.pool, show 21 + s - 21 = s by omega, List.set_append_left _ _ (by rw [ints_len, h.home]; exact hs), List.append_assoc]
  simp [ints, List.map_set]
theorem islW {g : Nat → GM} {W : Nat → Prop} {w : World} {n : Nat} {cs : List AV} {v : Value} (h : VR g W w (.isl n cs) v) : VR g W w (.isl n []) v := by
  obtain ⟨a, cap, us, rfl, h1, h2, _, _⟩ := isl_inv h
  exact .isl (us := us) h1 h2 (fun j hj => by simp at hj) (fun j hj => by simp at hj)
theorem PS.len {P : Program} {gl : Nat → AV} {f : FuncId} {args : List AV} {n : Nat} {cs : List AV} (h : PS P gl f args (.isl n cs)) : PS P gl f args (.isl n []) :=
  ⟨h.1, fun w vs X hX hg hv => (h.2 w vs X hX hg hv).mono fun e w' ⟨v, he, hr, hf⟩ => ⟨v, he, islW hr, hf⟩⟩
theorem Flat.len (n : Nat) : Flat (.isl n []) := fun _ _ _ _ _ _ _ h => by
  obtain ⟨a, cap, us, rfl, h1, h2, _, _⟩ := isl_inv h
  exact .isl (us := us) h1 h2 (fun j hj => by simp at hj) (fun j hj => by simp at hj)
def z30n : List AV := z30.take 29 ++ [.nils]
theorem z30n_nm (n : Nat) : nmAll n z30n = True := by simp [z30n, z30, nmAll, nmOk]
theorem z30n_rens (ρ : Nat → Nat) : rens ρ z30n = z30n := by simp [z30n, z30, rens, ren]
attribute [go_sem] z30n_nm z30n_rens
theorem any_cut (l : List Mp) (k : Nat) (h : k < l.length) (f : Mp → Bool) : (l.drop k).any f = (f l[k] || (l.drop (k + 1)).any f) := by
  rw [List.drop_eq_getElem_cons h, List.any_cons]
set_option maxHeartbeats 8000000 in
set_option maxRecDepth 20000 in
theorem bClose_in (gl : Nat → AV) (t : Tb) (ht : t.ok) (hgt : goodT t) (m : Mp) (i : Nat) (hi : t.maps.findIdx? (fun x => decide (m = x)) = some i) (R : AV) (hnm : nmOk 0 R)
    (H1 : Hid ((t.maps.eraseIdx i).any (sameB m) = true → R = clsT (t.del i, false, 0)))
    (H2 : Hid ((t.maps.eraseIdx i).any (sameB m) = false → R = clsT ((t.del i).give m, true, 0))) : PS Try.prog gl 27 [.agg t.enc, .agg m.enc] R := by
  refine ft_bClose.ps (of_decide_eq_true rfl) hnm fun c hN hg => ?_
  unfold T_bClose
  have e2 := Tb.enc_len ht.wf
  have e3 := Tb.enc_maps ht.wf
  have hG := bGood_ps c.gl t ht
  rw [goodB_t hgt] at hG
  have hI := index_ps c.gl t.maps ht.len m
  rw [ixM_eq, hi] at hI
  dsimp only at hI
  rw [Nat.add_zero] at hI
  have hml := maps_le hgt
  have hel := mps_len t.maps
  have hs := Tb.enc_set ht.wf
  have hsl := Tb.hd_get t ht.wf
  have hgd := fun x => hd_get29 ht.wf x
  have hhl := Tb.hd_len ht.wf
  obtain ⟨hil, him⟩ := find_ix hi
  have hok := hgt.maps i hil
  rw [him] at hok
  obtain ⟨⟨hkn, hip, ha0, ha3⟩, hho, how⟩ := hok
  obtain ⟨_, ⟨hs0, hs8⟩, _⟩ := known_bd hkn
  have hip' := hip
  unfold inPort at hip'
  simp only [Bool.and_eq_true, decide_eq_true_eq] at hip'
  have hB := bBlock_ps c.gl m.port (by omega)
  unfold blkT at hB
  rw [hip] at hB
  simp only [if_true] at hB
  have hD := delete_gs c.gl t.maps (by omega) i hil
  have hLl : (t.maps.eraseIdx i).length = t.maps.length - 1 := by rw [List.length_eraseIdx, if_pos hil]
  have hLb : ∀ (k : Nat) (h : k < (t.maps.eraseIdx i).length), -9223372036854775808 ≤ (t.maps.eraseIdx i)[k].port ∧ (t.maps.eraseIdx i)[k].port ≤ 9223372036854775807 := fun k h => by
    have hm := List.mem_of_mem_eraseIdx (List.getElem_mem h)
    obtain ⟨j, hj, he⟩ := List.getElem_of_mem hm
    have h2 := (hgt.maps j hj).1.2.1
    rw [he] at h2
    unfold inPort at h2
    simp only [Bool.and_eq_true, decide_eq_true_eq] at h2
    omega
  have hGv := pGive_ps c.gl t.pool ht.wf.pool m.s m.a (blkOf' m.port) (by omega)
  have hgw : ((t.pool.give m.s m.a (blkOf' m.port)).1).wf := Pool.give_wf _ ht.wf.pool _ _ _
  obtain ⟨S, hS⟩ := Int.eq_ofNat_of_zero_le hs0
  have hSt : m.s.toNat = S := by omega
  have hdel : ∀ L, L = t.maps.eraseIdx i → t.del i = ⟨t.pool, t.home, L⟩ := fun L h => by rw [h]; rfl
  have hdl := hdel _ rfl
  unfold Tb.give at H2
  rw [hdl] at H1 H2
  rw [← hLl] at hD
  generalize t.maps.eraseIdx i = L at *
  have hlel := mps_len L
  have hcl := hd_pool ht.wf
  have e4 := Pool.enc_len hgw
  have hW1 : (⟨(t.pool.give m.s m.a (blkOf' m.port)).1, t.home, L⟩ : Tb).wf := ⟨hgw, ht.wf.home⟩
  have hps : ∀ x, splc (t.hd ++ [x]) 0 (t.pool.give m.s m.a (blkOf' m.port)).1.enc = (⟨(t.pool.give m.s m.a (blkOf' m.port)).1, t.home, L⟩ : Tb).hd ++ [x] := fun x => hd_pool_set ht.wf hgw x
  have hb3 : 0 ≤ (⟨(t.pool.give m.s m.a (blkOf' m.port)).1, t.home, L⟩ : Tb).hom S ∧ (⟨(t.pool.give m.s m.a (blkOf' m.port)).1, t.home, L⟩ : Tb).hom S ≤ 3 := by
    have : (⟨(t.pool.give m.s m.a (blkOf' m.port)).1, t.home, L⟩ : Tb).hom S = t.hom m.s.toNat := by rw [hSt]; rfl
    omega
  have hh1 : 1 ≤ (⟨(t.pool.give m.s m.a (blkOf' m.port)).1, t.home, L⟩ : Tb).hom S := by
    have : (⟨(t.pool.give m.s m.a (blkOf' m.port)).1, t.home, L⟩ : Tb).hom S = t.hom m.s.toNat := by rw [hSt]; rfl
    omega
  have hBl := bblocks_ps c.gl _ hW1 S (by omega) hb3
  have hbl : blksT _ S = _ := if_pos hh1
  have howl : ownL _ S = _ := if_pos hh1
  rw [hbl] at hBl
  rw [hSt] at H2
  dsimp only at H2
  rw [howl] at H2
  unfold pairT at hGv
  generalize t.pool.give m.s m.a (blkOf' m.port) = gv at *
  obtain ⟨p', ge⟩ := gv
  dsimp only at *
  have hhs := fun v x => hd_home_set hW1 (show S < 8 by omega) v x
  dsimp only at hhs
  have e5 : ∀ x, ((⟨p', t.home, L⟩ : Tb).hd ++ [x]).length = 30 := fun x => Tb.hd_get _ hW1 x
  have hwl : (ownB ⟨p', t.home, L⟩ S 6).length = 0 ↔ ownB ⟨p', t.home, L⟩ S 6 = [] := List.length_eq_zero_iff
  have hnl := natI_len (ownB ⟨p', t.home, L⟩ S 6)
  generalize ownB ⟨p', t.home, L⟩ S 6 = W at *
  have hfull : (mps L).take (L.length * 5) = mps L := List.take_of_length_le (by omega)
  have hN2 : t.maps.length = L.length + 1 := by omega
  have hcln := clone_gs c.gl t.maps (by omega)
  have hsm : ∀ o : Mp, sameB m o = (decide (o.a = m.a) && decide (blkOf' o.port = blkOf' m.port)) := fun _ => rfl
  have henc : (⟨p', t.home, L⟩ : Tb).enc = (⟨p', t.home, L⟩ : Tb).hd ++ [.isl L.length (mps L)] := rfl
  rw [henc] at hBl
  have hBl := hBl.len
  have hhl1 := Tb.hd_len hW1
  rw [hS] at hGv
  unfold Mp.enc at hI ⊢
  rw [hS] at hI ⊢
  (have zf1 := @e2; refine XG ?_; clear zf1; ((try (repeat' with_reducible refine And.intro ?_ ?_)); (try any_goals (first | refine zm ?_ | exact CL | fail))))
  ((first | apply pr_psv | apply prD_psv | apply pr_qrunv | apply prD_qrunv) <;> (first | exact hG | (have zf1 := @e2; refine XG ?_; clear zf1; first | exact rfl | exact True.intro | ((try (repeat' with_reducible refine And.intro ?_ ?_)); (try any_goals (first | refine zm ?_ | exact CL | fail))))))
  (refine xw_ifp (fun h1 => ?_) (fun h1 => ?_) <;> try exact h1.elim)
  (have zf1 := @e2; have zf2 := @e3; refine XG ?_; clear zf1 zf2; ((try (repeat' with_reducible refine And.intro ?_ ?_)); (try any_goals (first | refine zm ?_ | exact CL | fail))))
  ((first | apply pr_psv | apply prD_psv | apply pr_qrunv | apply prD_qrunv) <;> (first | exact hI | (have zf1 := @e2; have zf2 := @e3; refine XG ?_; clear zf1 zf2; first | exact rfl | exact True.intro | ((try (repeat' with_reducible refine And.intro ?_ ?_)); (try any_goals (first | refine zm ?_ | exact CL | fail))))))
  (refine xw_ifp (fun h2 => ?_) (fun h2 => ?_) <;> try exact h2.elim)
  · omega
  (have zf1 := @e2; have zf2 := @e3; refine XG ?_; clear zf1 zf2; ((try (repeat' with_reducible refine And.intro ?_ ?_)); (try any_goals (first | refine zm ?_ | exact CL | fail))))
  ((first | refine pr_gs (ins := []) hcln ?_ ?_ | refine prD_gs (ins := []) hcln ?_ ?_ | refine pr_gsv (ins := []) hcln ?_ ?_ | refine prD_gsv (ins := []) hcln ?_ ?_) <;> (have zf1 := @e2; have zf2 := @e3; refine XG ?_; clear zf1 zf2; (try first | exact rfl | exact True.intro); ((try (repeat' with_reducible refine And.intro ?_ ?_)); (try any_goals (first | refine zm ?_ | exact CL | fail)))))
  ((first | refine pr_gs (ins := [3]) hD ?_ ?_ | refine prD_gs (ins := [3]) hD ?_ ?_ | refine pr_gsv (ins := [3]) hD ?_ ?_ | refine prD_gsv (ins := [3]) hD ?_ ?_) <;> (have zf1 := @e2; have zf2 := @e3; refine XG ?_; clear zf1 zf2; (try first | exact rfl | exact True.intro); ((try (repeat' with_reducible refine And.intro ?_ ?_)); (try any_goals (first | refine zm ?_ | exact CL | fail)))))
  (have zf1 := @hs; have zf2 := @e2; have zf3 := @hsl; refine XG ?_; clear zf1 zf2 zf3; ((try (repeat' with_reducible refine And.intro ?_ ?_)); (try any_goals (first | refine zm ?_ | exact CL | fail))))
  ((first | apply pr_psv | apply prD_psv | apply pr_qrunv | apply prD_qrunv) <;> (first | exact hB | (have zf1 := @hhl; have zf2 := @hgd; refine XG ?_; clear zf1 zf2; first | exact rfl | exact True.intro | ((try (repeat' with_reducible refine And.intro ?_ ?_)); (try any_goals (first | refine zm ?_ | exact CL | fail))))))
  refine loop_rule (fun k : Nat => k ≤ L.length ∧ L.any (sameB m) = (L.drop k).any (sameB m))
    (fun k => ⟨[(2, .ptr 0 0), (3, .ptr 1 0), (4, .ptr 2 0), (8, .int .i64 (blkOf' m.port)), (43, .sl 5 3 0 L.length t.maps.length), (44, .int .i64 L.length), (45, .int .i64 k)], [(0, .cells (t.hd ++ [.sl 5 3 0 L.length t.maps.length])), (1, .cells [.int .i64 m.proto, .int .i64 S, .int .i64 m.inn, .int .i64 m.a, .int .i64 m.port]), (2, .cells z30n), (3, .cells (mps L))], 4⟩) (fun k => L.length - k) ft_bClose.mixed hN
    ⟨0, ⟨by omega, rfl⟩, [(3, 3)], by (have zf1 := @z30n.eq_1; have zf2 := @z30.eq_1; refine XG ?_; clear zf1 zf2; ((try (repeat' with_reducible refine And.intro ?_ ?_)); (try any_goals (first | refine zm ?_ | exact CL | fail))))⟩ fun k hk => ?_
  obtain ⟨hk, hak⟩ := hk
  (refine XG ?_; ((try (repeat' with_reducible refine And.intro ?_ ?_)); (try any_goals (first | refine zm ?_ | exact CL | fail))))
  (refine xw_ifp (fun h3 => ?_) (fun h3 => ?_) <;> try exact h3.elim)
  · have hkn : k < L.length := by omega
    have hcut := mps_cut L k hkn
    have hBo := bBlock_ps c.gl _ (hLb k hkn)
    rw [any_cut L k hkn, hsm] at hak
    generalize L[k] = o at *
    obtain ⟨op, os, oi, oa, ot⟩ := o
    simp only [Mp.enc] at hcut
    dsimp only at hBo hak
    unfold blkT at hBo
    generalize (if inPort ot = true then (ot - 1024) % 8 else 0) = oj at *
    generalize blkOf' ot = ob at *
    generalize inPort ot = oq at *
    (have zf1 := @hlel; have zf2 := @hcut; refine XG ?_; clear zf1 zf2; ((try (repeat' with_reducible refine And.intro ?_ ?_)); (try any_goals (first | refine zm ?_ | exact CL | fail))))
    ((first | apply pr_psv | apply prD_psv | apply pr_qrunv | apply prD_qrunv) <;> (first | exact hBo | (have zf1 := @hlel; have zf2 := @hcut; refine XG ?_; clear zf1 zf2; first | exact rfl | exact True.intro | ((try (repeat' with_reducible refine And.intro ?_ ?_)); (try any_goals (first | refine zm ?_ | exact CL | fail))))))
    (refine xw_ifp (fun h4 => ?_) (fun h4 => ?_) <;> try exact h4.elim)
    · have hR := H1.out (by rw [hak]; simp [h4])
      subst hR
      rw [show clsT (⟨t.pool, t.home, L⟩, false, 0) = .tup [.agg (t.hd ++ [.isl L.length (mps L)]), .bool false, .int .i64 0] from rfl]
      (have zf1 := @hhl; have zf2 := @z30n.eq_1; have zf3 := @z30.eq_1; have zf4 := @List.map_append.{0,0}; have zf5 := @hfull; refine XG ?_; clear zf1 zf2 zf3 zf4 zf5; ((try (repeat' with_reducible refine And.intro ?_ ?_)); (try any_goals (first | refine zm ?_ | exact CL | fail))))
    · have hak : L.any (sameB m) = (L.drop (k + 1)).any (sameB m) := by
        rw [hak]
        rcases h4 with h5 | h5 <;> simp [h5]
      (refine XG ?_; ((try (repeat' with_reducible refine And.intro ?_ ?_)); (try any_goals (first | refine zm ?_ | exact CL | fail))))
      refine ⟨k + 1, ⟨by omega, hak⟩, ⟨[(3, 3)], ?_⟩, by omega⟩
      (refine XG ?_; ((try (repeat' with_reducible refine And.intro ?_ ?_)); (try any_goals (first | refine zm ?_ | exact CL | fail))))
  · have : k = L.length := by omega
    subst this
    rw [List.drop_length, List.any_nil] at hak
    have hR := H2.out hak
    clear H1 H2
    (have zf1 := @hhl; have zf2 := @hcl; refine XG ?_; clear zf1 zf2; ((try (repeat' with_reducible refine And.intro ?_ ?_)); (try any_goals (first | refine zm ?_ | exact CL | fail))))
    ((first | apply pr_psv | apply prD_psv | apply pr_qrunv | apply prD_qrunv) <;> (first | exact hGv | (have zf1 := @hhl; have zf2 := @hcl; have zf3 := @hps; have zf4 := @e4; have zf5 := @hhl1; refine XG ?_; clear zf1 zf2 zf3 zf4 zf5; first | exact rfl | exact True.intro | ((try (repeat' with_reducible refine And.intro ?_ ?_)); (try any_goals (first | refine zm ?_ | exact CL | fail))))))
    ((first | apply pr_bor | apply prD_bor) <;> (first | exact hBl | (with_reducible (exact Flat.len _)) | (have zf1 := @hfull; have zf2 := @hhl1; have zf3 := @List.map_append.{0,0}; refine XG ?_; clear zf1 zf2 zf3; first | exact rfl | exact True.intro | ((try (repeat' with_reducible refine And.intro ?_ ?_)); (try any_goals (first | refine zm ?_ | exact CL | fail))))))
    have hhs2 := hhs 0 (.sl 5 3 0 L.length t.maps.length)
    have hhl2 := Tb.hd_len (t := (⟨p', t.home.set S 0, L⟩ : Tb)) ⟨hgw, by rw [List.length_set]; exact ht.wf.home⟩
    (refine xw_ifp (fun h5 => ?_) (fun h5 => ?_) <;> try exact h5.elim)
    · have hW : W = [] := hwl.1 (by omega)
      rw [if_pos hW] at hR
      subst hR
      rw [show clsT ((⟨p', t.home.set S 0, L⟩ : Tb), true, 0) = .tup [.agg ((⟨p', t.home.set S 0, L⟩ : Tb).hd ++ [.isl L.length (mps L)]), .bool true, .int .i64 0] from rfl]
      (have zf1 := @hhl1; have zf2 := @hhl2; have zf3 := @hhs2; have zf4 := @z30n.eq_1; have zf5 := @z30.eq_1; have zf6 := @List.map_append.{0,0}; have zf7 := @hfull; refine XG ?_; clear zf1 zf2 zf3 zf4 zf5 zf6 zf7; ((try (repeat' with_reducible refine And.intro ?_ ?_)); (try any_goals (first | refine zm ?_ | exact CL | fail))))
    · have hW : ¬ W = [] := fun h => h5 (by have := hwl.2 h; omega)
      rw [if_neg hW] at hR
      subst hR
      rw [show clsT ((⟨p', t.home, L⟩ : Tb), true, 0) = .tup [.agg ((⟨p', t.home, L⟩ : Tb).hd ++ [.isl L.length (mps L)]), .bool true, .int .i64 0] from rfl]
      (have zf1 := @hhl1; have zf2 := @z30n.eq_1; have zf3 := @z30.eq_1; have zf4 := @List.map_append.{0,0}; have zf5 := @hfull; refine XG ?_; clear zf1 zf2 zf3 zf4 zf5; ((try (repeat' with_reducible refine And.intro ?_ ?_)); (try any_goals (first | refine zm ?_ | exact CL | fail))))
theorem bClose_ps (gl : Nat → AV) (t : Tb) (ht : t.ok) (m : Mp) : PS Try.prog gl 27 [.agg t.enc, .agg m.enc] (clsT (t.cls m)) := by
  by_cases hb : goodB t = false
  · have e : t.cls m = (t, false, 2) := if_pos hb
    rw [e]
    exact bClose_bad gl t ht m hb
  have hg : goodB t = true := by
    cases h : goodB t
    · exact (hb h).elim
    · rfl
  have e : t.cls m = match t.maps.findIdx? (fun x => decide (m = x)) with
    | none => (t, false, 7)
    | some i => if (t.maps.eraseIdx i).any (sameB m) = true then (t.del i, false, 0) else ((t.del i).give m, true, 0) := if_neg hb
  cases hi : t.maps.findIdx? (fun x => decide (m = x)) with
  | none => rw [e, hi]; exact bClose_none gl t ht m hg hi
  | some i =>
    refine bClose_in gl t ht ((goodB_iff t).1 hg) m i hi _ (by rw [clsT_nm]; trivial) (Lib.hid fun h => ?_) (Lib.hid fun h => ?_)
    · rw [e, hi]; dsimp only; rw [if_pos h]
    · rw [e, hi]; dsimp only; rw [if_neg (by rw [h]; simp)]
end Go.Proofs.Ytphaicaobepimaa
