/- When the document says that a table is one. No conditions but the ones that stand in each. -/
import Derived.Test.YtphaicaobepimaaGb
import Derived.Test.YtphaicaobepimaaGc
namespace Go.Proofs.Ytphaicaobepimaa
set_option linter.all false
set_option linter.unusedSimpArgs false
open Go.RowKit

section
variable {P : Program} {c : Cx}
theorem prD_lkpG {anc : List Nat} {fs : List Foot} {r0 : List TOp} {K : St → Prop} {s : St} {d : Nat} {t : TypeId} {ok : Bool} {xs : List TV} {gd : Option (Nat × Bool)} {wide : Bool} {ks : List SK} {z : AV} (hT : MapT P t wide ks z) (hb : gB s.fs gd = some true) (hok : gOk s.fs gd)
    (h : cokAll none (evs c.gl s.fs xs) ∧ lkpOk s.fs wide ks ((evs c.gl s.fs xs).map strip) ∧ XD P c anc r0 (⟨gdT gd ++ tmpsOf xs, [mpB ((evs c.gl s.fs xs).map strip)], [d], []⟩ :: fs) K (s.put d (lkpV s.fs z ok ((evs c.gl s.fs xs).map strip)))) :
    PendDR P c anc (.pd (some d) (.lkp t ok) xs gd) r0 fs K s := ⟨_, _, on_AOkT hb hok (lkp_AOkT hT h.1 h.2.1), h.2.2⟩
end
theorem mtP : MapT Try.prog 84 true [.int .i64, .int .i64, .int .i64] (.bool false) := MapT.mk' (by kernel_rfl)
theorem mtF : MapT Try.prog 85 true [.int .i64, .int .i64, .int .i64] (.bool false) := MapT.mk' (by kernel_rfl)
theorem mtM : MapT Try.prog 86 true [.int .i64, .int .i64] (.int .i64 0) := MapT.mk' (by kernel_rfl)
theorem mtI : MapT Try.prog 61 false [.int .i64] (.int .i64 0) := MapT.mk' (by kernel_rfl)
def kP (m : Mp) : AV := .agg [.int .i64 m.proto, .int .i64 m.a, .int .i64 m.port]
def kF (m : Mp) : AV := .agg [.int .i64 m.proto, .int .i64 m.s, .int .i64 m.inn]
def kM (m : Mp) : AV := .agg [.int .i64 m.a, .int .i64 (blkOf' m.port)]
def kI (n : Int) : AV := .int .i64 n
noncomputable def bP (l : List Mp) : Bk := .mapb (setL (l.map kP)) true
noncomputable def bF (l : List Mp) : Bk := .mapb (setL (l.map kF)) true
noncomputable def bM (l : List Mp) : Bk := .mapb (incL (l.map kM)) true
noncomputable def bI (l : List Int) : Bk := .mapb (incL (l.map kI)) true
theorem e_kvP (l : List Mp) : kvB (bP l) = setL (l.map kP) := rfl
theorem e_kvF (l : List Mp) : kvB (bF l) = setL (l.map kF) := rfl
theorem e_kvM (l : List Mp) : kvB (bM l) = incL (l.map kM) := rfl
theorem e_kvI (l : List Int) : kvB (bI l) = incL (l.map kI) := rfl
theorem e_dnP (l : List Mp) : dnB (bP l) = true := rfl
theorem e_dnF (l : List Mp) : dnB (bF l) = true := rfl
theorem e_dnM (l : List Mp) : dnB (bM l) = true := rfl
theorem e_dnI (l : List Int) : dnB (bI l) = true := rfl
theorem e_imP (l : List Mp) : isMapb (bP l) = True := rfl
theorem e_imF (l : List Mp) : isMapb (bF l) = True := rfl
theorem e_imM (l : List Mp) : isMapb (bM l) = True := rfl
theorem e_imI (l : List Int) : isMapb (bI l) = True := rfl
theorem nmB_map {n : Nat} {kvs : List (AV × AV)} {dn : Bool} (h : ∀ p ∈ kvs, nmOk n p.1 ∧ nmOk n p.2) : nmB n (.mapb kvs dn) = True := eq_true h
theorem renB_map {ρ : Nat → Nat} {kvs : List (AV × AV)} {dn : Bool} (h : flatKV kvs) : renB ρ (.mapb kvs dn) = .mapb kvs dn := by
  show Bk.mapb (kvs.map fun p => (ren ρ p.1, ren ρ p.2)) dn = _
  rw [h]
theorem all_map {α : Type} {f : α → AV} {p : AV → Prop} (h : ∀ a, p (f a)) (l : List α) : ∀ x ∈ l.map f, p x := fun x hx => by obtain ⟨a, _, rfl⟩ := List.mem_map.1 hx; exact h a
theorem e_nmP (n : Nat) (l : List Mp) : nmB n (bP l) = True := nmB_map (setL_nm n _ (all_map (fun m => by simp [kP, nmOk, nmAll]) l))
theorem e_nmF (n : Nat) (l : List Mp) : nmB n (bF l) = True := nmB_map (setL_nm n _ (all_map (fun m => by simp [kF, nmOk, nmAll]) l))
theorem e_nmM (n : Nat) (l : List Mp) : nmB n (bM l) = True := nmB_map (incL_nm n _ (all_map (fun m => by simp [kM, nmOk, nmAll]) l))
theorem e_nmI (n : Nat) (l : List Int) : nmB n (bI l) = True := nmB_map (incL_nm n _ (all_map (fun m => by simp [kI, nmOk]) l))
theorem e_reP (ρ : Nat → Nat) (l : List Mp) : renB ρ (bP l) = bP l := renB_map (setL_flat (all_map (p := fun x => ∀ ρ, ren ρ x = x) (fun m ρ => by simp [kP, ren, rens]) l))
theorem e_reF (ρ : Nat → Nat) (l : List Mp) : renB ρ (bF l) = bF l := renB_map (setL_flat (all_map (p := fun x => ∀ ρ, ren ρ x = x) (fun m ρ => by simp [kF, ren, rens]) l))
theorem e_reM (ρ : Nat → Nat) (l : List Mp) : renB ρ (bM l) = bM l := renB_map (incL_flat (all_map (p := fun x => ∀ ρ, ren ρ x = x) (fun m ρ => by simp [kM, ren, rens]) l))
theorem e_reI (ρ : Nat → Nat) (l : List Int) : renB ρ (bI l) = bI l := renB_map (incL_flat (all_map (p := fun x => ∀ ρ, ren ρ x = x) (fun m ρ => by simp [kI, ren]) l))
theorem e_0P : Bk.mapb [] true = bP [] := rfl
theorem e_ksP (l : List Mp) : KeysOk true [.int .i64, .int .i64, .int .i64] (setL (l.map kP)) = True := eq_true (setL_keys (all_map (fun m => by simp [kP, KeyOk, keyF, kindA]) l))
theorem e_ksF (l : List Mp) : KeysOk true [.int .i64, .int .i64, .int .i64] (setL (l.map kF)) = True := eq_true (setL_keys (all_map (fun m => by simp [kF, KeyOk, keyF, kindA]) l))
theorem e_ksM (l : List Mp) : KeysOk true [.int .i64, .int .i64] (incL (l.map kM)) = True := eq_true (incL_keys (all_map (fun m => by simp [kM, KeyOk, keyF, kindA]) l))
theorem e_ksI (l : List Int) : KeysOk false [.int .i64] (incL (l.map kI)) = True := eq_true (incL_keys (all_map (fun m => by simp [kI, KeyOk, keyF, kindA]) l))
attribute [go_sem ↓] e_nmP e_nmF e_nmM e_nmI e_reP e_reF e_reM e_reI
attribute [go_sem] e_kvP e_kvF e_kvM e_kvI e_dnP e_dnF e_dnM e_dnI e_imP e_imF e_imM e_imI e_ksP e_ksF e_ksM e_ksI
theorem goodB_no {t : Tb} (h : ¬ GT t) : goodB t = false := by
  cases hb : goodB t with
  | false => rfl
  | true => exact (h (goodT_GT.1 ((goodB_iff t).1 hb))).elim
theorem mem_kP {l : List Mp} {m : Mp} : kP m ∈ l.map kP ↔ ∃ o ∈ l, o.proto = m.proto ∧ o.a = m.a ∧ o.port = m.port := by
  rw [List.mem_map]
  constructor
  · rintro ⟨o, ho, he⟩
    simp [kP] at he
    exact ⟨o, ho, he.1, he.2.1, he.2.2⟩
  · rintro ⟨o, ho, h1, h2, h3⟩
    exact ⟨o, ho, by simp [kP, h1, h2, h3]⟩
theorem mem_kF {l : List Mp} {m : Mp} : kF m ∈ l.map kF ↔ ∃ o ∈ l, o.proto = m.proto ∧ o.s = m.s ∧ o.inn = m.inn := by
  rw [List.mem_map]
  constructor
  · rintro ⟨o, ho, he⟩
    simp [kF] at he
    exact ⟨o, ho, he.1, he.2.1, he.2.2⟩
  · rintro ⟨o, ho, h1, h2, h3⟩
    exact ⟨o, ho, by simp [kF, h1, h2, h3]⟩
theorem klash_iff (o m : Mp) : klash o m = true ↔ o.proto = m.proto ∧ (o.a = m.a ∧ o.port = m.port ∨ o.s = m.s ∧ o.inn = m.inn) := by
  unfold klash
  simp only [Bool.and_eq_true, Bool.or_eq_true, beq_iff_eq]
  constructor
  · rintro ⟨h1, ⟨h2, h3⟩ | ⟨h2, h3⟩⟩
    · exact ⟨h1.symm, .inl ⟨h2.symm, h3.symm⟩⟩
    · exact ⟨h1.symm, .inr ⟨h2.symm, h3.symm⟩⟩
  · rintro ⟨h1, ⟨h2, h3⟩ | ⟨h2, h3⟩⟩
    · exact ⟨h1.symm, .inl ⟨h2.symm, h3.symm⟩⟩
    · exact ⟨h1.symm, .inr ⟨h2.symm, h3.symm⟩⟩
/-- The first k maps are as they should be. -/
def PreOk (t : Tb) (l : List Mp) : Prop := (∀ m ∈ l, mapOk t m) ∧ l.Pairwise fun x y => klash x y = false
theorem PreOk.not {t : Tb} {k : Nat} (hk : k < t.maps.length) (h : ¬ (mapOk t t.maps[k] ∧ ∀ o ∈ t.maps.take k, klash o t.maps[k] = false)) : ¬ GT t := by
  intro hg
  refine h ⟨hg.maps _ (List.getElem_mem hk), fun o ho => ?_⟩
  obtain ⟨i, hi, rfl⟩ := List.getElem_of_mem ho
  rw [List.length_take] at hi
  rw [List.getElem_take]
  exact List.pairwise_iff_getElem.1 hg.apart i k (by omega) hk (by omega)
theorem PreOk.succ {t : Tb} {k : Nat} (hk : k < t.maps.length) (h : PreOk t (t.maps.take k)) (h1 : mapOk t t.maps[k]) (h2 : ∀ o ∈ t.maps.take k, klash o t.maps[k] = false) : PreOk t (t.maps.take (k + 1)) := by
  have e : t.maps.take (k + 1) = t.maps.take k ++ [t.maps[k]] := by rw [List.take_add_one, List.getElem?_eq_getElem hk]; rfl
  rw [e]
  refine ⟨fun m hm => ?_, apart_add h.2 h2⟩
  rcases List.mem_append.1 hm with hm | hm
  · exact h.1 m hm
  · rw [List.mem_singleton.1 hm]; exact h1
theorem rev_succ {t : Tb} {k : Nat} (hk : k < t.maps.length) : (t.maps.take (k + 1)).reverse = t.maps[k] :: (t.maps.take k).reverse := by
  rw [List.take_add_one, List.getElem?_eq_getElem hk]; simp
theorem updP (m : Mp) (l : List Mp) : Bk.mapb (updA (setL (l.map kP)) (.agg [.int .i64 m.proto, .int .i64 m.a, .int .i64 m.port]) (.bool true)) true = bP (m :: l) := rfl
theorem updF (m : Mp) (l : List Mp) : Bk.mapb (updA (setL (l.map kF)) (.agg [.int .i64 m.proto, .int .i64 m.s, .int .i64 m.inn]) (.bool true)) true = bF (m :: l) := rfl
theorem updM (m : Mp) (l : List Mp) : Bk.mapb (updA (incL (l.map kM)) (kM m) (.int .i64 ((cntA (l.map kM) (kM m) : Nat) + 1))) true = bM (m :: l) := rfl
theorem updI (n : Int) (l : List Int) : Bk.mapb (updA (incL (l.map kI)) (.int .i64 n) (.int .i64 ((cntA (l.map kI) (kI n) : Nat) + 1))) true = bI (n :: l) := rfl
theorem cntA_le (l : List AV) (x : AV) : cntA l x ≤ l.length := List.countP_le_length
theorem beq_iff2 (a : Int) (n : Nat) : (a == 0) = ((n : Int) == 0) ↔ (a = 0 ↔ n = 0) := by
  show decide (a = 0) = decide ((n : Int) = 0) ↔ _
  rw [decide_eq_decide]; omega
/-- Whose blocks those are that somebody has, of the first so many. -/
def hadL (own : List Int) (i : Nat) : List Int := (((own.take i).filter fun o => decide (0 < o)).map fun o => o - 1).reverse
theorem hadL_succ {own : List Int} {i : Nat} (h : i < own.length) : hadL own (i + 1) = if 0 < own.getD i 0 then (own.getD i 0 - 1) :: hadL own i else hadL own i := by
  have e : own.getD i 0 = own[i] := by simp [List.getD, h]
  rw [e]
  unfold hadL
  rw [List.take_add_one, List.getElem?_eq_getElem h, List.filter_append, List.map_append, List.reverse_append]
  by_cases ho : 0 < own[i] <;> simp [ho]
theorem hadL_len (own : List Int) (i : Nat) : (hadL own i).length ≤ i := by
  unfold hadL
  rw [List.length_reverse, List.length_map]
  exact Nat.le_trans (List.length_filter_le _ _) (by rw [List.length_take]; omega)
theorem cnt_kI (l : List Int) (n : Int) : cntA (l.map kI) (.int .i64 n) = l.countP fun o => decide (o = n) := by
  unfold cntA
  rw [List.countP_map]
  refine List.countP_congr fun o _ => ?_
  simp [kI]
theorem had_cnt {p : Pool} (hw : p.wf) (s : Nat) : cntA ((hadL p.own 18).map kI) (.int .i64 s) = cntB p.own s := by
  rw [cnt_kI]
  unfold hadL cntB
  rw [List.countP_reverse, List.countP_map, List.countP_filter, List.take_of_length_le (by rw [hw.own]; omega)]
  refine List.countP_congr fun o _ => ?_
  simp only [Function.comp, Bool.and_eq_true, decide_eq_true_eq, beq_iff_eq]
  omega
theorem many_cntA (l : List Mp) (s : Nat) : cntA ((l.reverse.map Mp.s).map kI) (.int .i64 s) = manyOf l s := by
  rw [cnt_kI, List.countP_map, List.countP_reverse]
  unfold manyOf
  refine List.countP_congr fun m _ => ?_
  simp
theorem used_cntA {t : Tb} (hp : ∀ m ∈ t.maps, mapOk t m) {a k : Nat} (ha : a < 3) (hk : k < 6) : 0 < cntA (t.maps.reverse.map kM) (.agg [.int .i64 a, .int .i64 k]) ↔ ∃ m ∈ t.maps, mIdx m = a * 6 + k := by
  unfold cntA
  rw [List.countP_pos_iff]
  constructor
  · rintro ⟨x, hx, he⟩
    obtain ⟨m, hm, rfl⟩ := List.mem_map.1 hx
    have he := @of_decide_eq_true _ (Classical.propDecidable _) he
    simp [kM] at he
    refine ⟨m, List.mem_reverse.1 hm, ?_⟩
    unfold mIdx
    rw [he.1, he.2]; simp
  · rintro ⟨m, hm, he⟩
    have h1 := (hp m hm).1.2.2
    have h2 := blk_lt m.port
    refine ⟨kM m, List.mem_map_of_mem (List.mem_reverse.2 hm), ?_⟩
    unfold mIdx at he
    have e1 : m.a = (a : Int) := by omega
    have e2 : blkOf' m.port = (k : Int) := by omega
    simp [kM, e1, e2]
set_option maxHeartbeats 16000000 in
set_option maxRecDepth 20000 in
theorem rGoodTable_ps (gl : Nat → AV) (t : Tb) (ht : t.ok) (hh : Hid (∀ s, s < 8 → -9223372036854775808 ≤ t.hom s ∧ t.hom s ≤ 9223372036854775807)) : PS Try.prog gl 21 [.agg t.enc] (.bool (goodB t)) := by
  refine ft_rGoodTable.ps (of_decide_eq_true rfl) (by simp [nmOk]) fun c hN hg => ?_
  unfold T_rGoodTable
  have e2 := Tb.enc_len ht.wf
  have e3 := Tb.enc_maps ht.wf
  have e4 := Tb.enc_pool ht.wf
  have hG := rGoodPool_ps c.gl t.pool ht.wf.pool
  have hel := mps_len t.maps
  have hlen := ht.len
  cases hgp : t.pool.good with
  | false =>
    rw [hgp] at hG
    have hb := goodB_no (t := t) fun h => by have := h.pool; rw [hgp] at this; cases this
    (have zf1 := @e2; have zf2 := @e4; refine XG ?_; clear zf1 zf2; ((try (repeat' with_reducible refine And.intro ?_ ?_)); (try any_goals (first | refine zm ?_ | exact CL | fail))))
    ((first | apply pr_psv | apply prD_psv | apply pr_qrunv | apply prD_qrunv) <;> (first | exact hG | (refine XG ?_; first | exact rfl | exact True.intro | ((try (repeat' with_reducible refine And.intro ?_ ?_)); (try any_goals (first | refine zm ?_ | exact CL | fail))))))
    (refine xw_ifp (fun h1 => ?_) (fun h1 => ?_) <;> try exact h1.elim)
    (have zf1 := @hb; refine XG ?_; clear zf1; ((try (repeat' with_reducible refine And.intro ?_ ?_)); (try any_goals (first | refine zm ?_ | exact CL | fail))))
  | true =>
  rw [hgp] at hG
  (have zf1 := @e2; have zf2 := @e4; refine XG ?_; clear zf1 zf2; ((try (repeat' with_reducible refine And.intro ?_ ?_)); (try any_goals (first | refine zm ?_ | exact CL | fail))))
  ((first | apply pr_psv | apply prD_psv | apply pr_qrunv | apply prD_qrunv) <;> (first | exact hG | (refine XG ?_; first | exact rfl | exact True.intro | ((try (repeat' with_reducible refine And.intro ?_ ?_)); (try any_goals (first | refine zm ?_ | exact CL | fail))))))
  (refine xw_ifp (fun h1 => ?_) (fun h1 => ?_) <;> try exact h1.elim)
  (refine XG ?_; ((try (repeat' with_reducible refine And.intro ?_ ?_)); (try any_goals (first | refine zm ?_ | exact CL | fail))))
  (refine pr_mkm mtP ?_; (refine XG ?_; ((try (repeat' with_reducible refine And.intro ?_ ?_)); (try any_goals (first | refine zm ?_ | exact CL | fail)))))
  (refine pr_mkm mtF ?_; (refine XG ?_; ((try (repeat' with_reducible refine And.intro ?_ ?_)); (try any_goals (first | refine zm ?_ | exact CL | fail)))))
  (refine pr_mkm mtM ?_; (refine XG ?_; ((try (repeat' with_reducible refine And.intro ?_ ?_)); (try any_goals (first | refine zm ?_ | exact CL | fail)))))
  (refine pr_mkm mtI ?_; (have zf1 := @e2; have zf2 := @e3; refine XG ?_; clear zf1 zf2; ((try (repeat' with_reducible refine And.intro ?_ ?_)); (try any_goals (first | refine zm ?_ | exact CL | fail)))))
  refine loop_rule (fun k : Nat => k ≤ t.maps.length ∧ PreOk t (t.maps.take k))
    (fun k => ⟨[(1, .ptr 0 0), (3, .mp 1), (4, .mp 2), (5, .mp 3), (6, .mp 4), (28, .isl t.maps.length (mps t.maps)), (29, .int .i64 t.maps.length), (30, .int .i64 k)],
      [(0, .cells t.enc), (1, bP (t.maps.take k).reverse), (2, bF (t.maps.take k).reverse), (3, bM (t.maps.take k).reverse), (4, bI ((t.maps.take k).reverse.map Mp.s))], 5⟩) (fun k => t.maps.length - k) ft_rGoodTable.mixed hN
    ⟨0, ⟨by omega, fun m hm => (by simp at hm), by simp⟩, [], by (refine XG ?_; ((try (repeat' with_reducible refine And.intro ?_ ?_)); (try any_goals (first | refine zm ?_ | exact CL | fail)))) <;> exact rfl⟩ fun k hI => ?_
  obtain ⟨hk, hpo⟩ := id hI
  clear hI
  (refine XG ?_; ((try (repeat' with_reducible refine And.intro ?_ ?_)); (try any_goals (first | refine zm ?_ | exact CL | fail))))
  (refine xw_ifp (fun h2 => ?_) (fun h2 => ?_) <;> try exact h2.elim)
  · have hkn : k < t.maps.length := by omega
    have hcut := mps_cut t.maps k hkn
    have hbd := ht.bd _ (List.getElem_mem hkn)
    have hNot := PreOk.not (t := t) hkn
    have hSucc := PreOk.succ (t := t) hkn hpo
    have hRev := rev_succ (t := t) hkn
    generalize t.maps[k] = m at *
    have hBo := rBlockOf_ps c.gl m.port hbd.2.2.2.2
    unfold blkT at hBo
    have hIP := risProto_ps c.gl m.proto
    obtain ⟨mp, ms, mi, ma, mt⟩ := m
    simp only [Mp.enc] at hcut
    dsimp only at hBo hIP
    have hprR : mapPre t ⟨mp, ms, mi, ma, mt⟩ ↔ (protoB mp = true ∧ 0 ≤ ms ∧ ms < 8 ∧ 0 ≤ mi ∧ mi ≤ 65535) ∧ inPort mt = true ∧ 0 ≤ ma ∧ ma < 3 := by
      unfold mapPre knownB protoB
      simp only [Bool.and_eq_true, decide_eq_true_eq]
      constructor
      · rintro ⟨⟨⟨⟨⟨h1, h2⟩, h3⟩, h4⟩, h5⟩, h6⟩; exact ⟨⟨h1, h2, h3, h4, h5⟩, h6⟩
      · rintro ⟨⟨h1, h2, h3, h4, h5⟩, h6⟩; exact ⟨⟨⟨⟨⟨h1, h2⟩, h3⟩, h4⟩, h5⟩, h6⟩
    generalize hoj : (if inPort mt = true then (mt - 1024) % 8 else 0) = oj at *
    have hbl := blk_lt mt
    have hMpr := mem_kP (l := (t.maps.take k).reverse) (m := ⟨mp, ms, mi, ma, mt⟩)
    have hMfr := mem_kF (l := (t.maps.take k).reverse) (m := ⟨mp, ms, mi, ma, mt⟩)
    by_cases hpre : mapPre t ⟨mp, ms, mi, ma, mt⟩
    rotate_left
    · have hb := goodB_no (hNot fun h => hpre h.1.1)
      rw [hprR] at hpre
      cases hip : inPort mt with
      | false =>
        rw [hip] at hBo
        (have zf1 := @hel; have zf2 := @hcut; refine XG ?_; clear zf1 zf2; ((try (repeat' with_reducible refine And.intro ?_ ?_)); (try any_goals (first | refine zm ?_ | exact CL | fail))))
        ((first | apply pr_psv | apply prD_psv | apply pr_qrunv | apply prD_qrunv) <;> (first | exact hBo | (refine XG ?_; first | exact rfl | exact True.intro | ((try (repeat' with_reducible refine And.intro ?_ ?_)); (try any_goals (first | refine zm ?_ | exact CL | fail))))))
        ((first | apply pr_skip | apply prD_skip) <;> (refine XG ?_; first | exact rfl | exact True.intro | ((try (repeat' with_reducible refine And.intro ?_ ?_)); (try any_goals (first | refine zm ?_ | exact CL | fail)))))
        (refine xw_ifp (fun h3 => ?_) (fun h3 => ?_) <;> try exact h3.elim)
        (have zf1 := @hb; refine XG ?_; clear zf1; ((try (repeat' with_reducible refine And.intro ?_ ?_)); (try any_goals (first | refine zm ?_ | exact CL | fail))))
      | true =>
        rw [hip] at hBo hpre
        cases hq : protoB mp with
        | false =>
          rw [hq] at hIP
          (have zf1 := @hel; have zf2 := @hcut; refine XG ?_; clear zf1 zf2; ((try (repeat' with_reducible refine And.intro ?_ ?_)); (try any_goals (first | refine zm ?_ | exact CL | fail))))
          ((first | apply pr_psv | apply prD_psv | apply pr_qrunv | apply prD_qrunv) <;> (first | exact hBo | (refine XG ?_; first | exact rfl | exact True.intro | ((try (repeat' with_reducible refine And.intro ?_ ?_)); (try any_goals (first | refine zm ?_ | exact CL | fail))))))
          ((first | apply pr_psv | apply prD_psv | apply pr_qrunv | apply prD_qrunv) <;> (first | exact hIP | (refine XG ?_; first | exact rfl | exact True.intro | ((try (repeat' with_reducible refine And.intro ?_ ?_)); (try any_goals (first | refine zm ?_ | exact CL | fail))))))
          (refine xw_ifp (fun h3 => ?_) (fun h3 => ?_) <;> try exact h3.elim)
          (have zf1 := @hb; refine XG ?_; clear zf1; ((try (repeat' with_reducible refine And.intro ?_ ?_)); (try any_goals (first | refine zm ?_ | exact CL | fail))))
        | true =>
          rw [hq] at hIP hpre
          (have zf1 := @hel; have zf2 := @hcut; refine XG ?_; clear zf1 zf2; ((try (repeat' with_reducible refine And.intro ?_ ?_)); (try any_goals (first | refine zm ?_ | exact CL | fail))))
          ((first | apply pr_psv | apply prD_psv | apply pr_qrunv | apply prD_qrunv) <;> (first | exact hBo | (refine XG ?_; first | exact rfl | exact True.intro | ((try (repeat' with_reducible refine And.intro ?_ ?_)); (try any_goals (first | refine zm ?_ | exact CL | fail))))))
          ((first | apply pr_psv | apply prD_psv | apply pr_qrunv | apply prD_qrunv) <;> (first | exact hIP | (refine XG ?_; first | exact rfl | exact True.intro | ((try (repeat' with_reducible refine And.intro ?_ ?_)); (try any_goals (first | refine zm ?_ | exact CL | fail))))))
          (refine xw_ifp (fun h3 => ?_) (fun h3 => ?_) <;> try exact h3.elim)
          · (have zf1 := @hb; refine XG ?_; clear zf1; ((try (repeat' with_reducible refine And.intro ?_ ?_)); (try any_goals (first | refine zm ?_ | exact CL | fail))))
          · exfalso; simp at hpre; omega
    · obtain ⟨⟨hq, hs0, hs8, hi0, hi1⟩, hip, ha0, ha3⟩ := hprR.1 hpre
      rw [hip] at hBo
      rw [hq] at hIP
      obtain ⟨S, rfl⟩ := Int.eq_ofNat_of_zero_le hs0
      obtain ⟨A, rfl⟩ := Int.eq_ofNat_of_zero_le ha0
      obtain ⟨B, hB⟩ := Int.eq_ofNat_of_zero_le hbl.1
      have hB6 : B < 6 := by omega
      have hA3 : A < 3 := by omega
      have hS8 : S < 8 := by omega
      have eh := Tb.enc_home ht.wf hS8
      have eo := Tb.enc_ow ht.wf hA3 hB6
      have hog := Pool.ow_good t.pool hgp A B
      have hokR : mapOk t ⟨mp, S, mi, A, mt⟩ ↔ t.hom S = (A : Int) + 1 ∧ t.pool.ow A B = (S : Int) + 1 := by
        unfold mapOk
        dsimp only
        rw [hB, Int.toNat_natCast, Int.toNat_natCast, Int.toNat_natCast]
        exact ⟨fun h => h.2, fun h => ⟨hpre, h⟩⟩
      have hwv : ∃ v, IntKind.i64.wrap (t.hom S - 1) = v ∧ (v = (A : Int) ↔ t.hom S = (A : Int) + 1) := by
        have := hh.out S hS8
        refine ⟨_, rfl, ?_⟩
        rw [IntKind.wrap_i64]; omega
      obtain ⟨v, hv1, hv2⟩ := hwv
      rw [hB] at hBo
      obtain ⟨cP, hgP, hcP⟩ : ∃ b, getA (setL ((t.maps.take k).reverse.map kP)) (.agg [.int .i64 mp, .int .i64 A, .int .i64 mt]) (.bool false) = .bool b ∧ (b = true ↔ kP ⟨mp, S, mi, A, mt⟩ ∈ (t.maps.take k).reverse.map kP) :=
        setL_has _ _
      obtain ⟨cF, hgF, hcF⟩ : ∃ b, getA (setL ((t.maps.take k).reverse.map kF)) (.agg [.int .i64 mp, .int .i64 S, .int .i64 mi]) (.bool false) = .bool b ∧ (b = true ↔ kF ⟨mp, S, mi, A, mt⟩ ∈ (t.maps.take k).reverse.map kF) :=
        setL_has _ _
      rw [hMpr] at hcP
      rw [hMfr] at hcF
      have hkl : (∀ o ∈ t.maps.take k, klash o ⟨mp, S, mi, A, mt⟩ = false) ↔ cP = false ∧ cF = false := by
        constructor
        · intro h
          constructor
          · cases hb : cP with
            | false => rfl
            | true =>
              obtain ⟨o, ho, h1, h2, h3⟩ := hcP.1 hb
              have := h o (List.mem_reverse.1 ho)
              rw [(klash_iff _ _).2 ⟨h1, .inl ⟨h2, h3⟩⟩] at this; cases this
          · cases hb : cF with
            | false => rfl
            | true =>
              obtain ⟨o, ho, h1, h2, h3⟩ := hcF.1 hb
              have := h o (List.mem_reverse.1 ho)
              rw [(klash_iff _ _).2 ⟨h1, .inr ⟨h2, h3⟩⟩] at this; cases this
        · rintro ⟨h1, h2⟩ o ho
          cases hk : klash o ⟨mp, S, mi, A, mt⟩ with
          | false => rfl
          | true =>
            obtain ⟨h3, h4⟩ := (klash_iff _ _).1 hk
            rcases h4 with ⟨h5, h6⟩ | ⟨h5, h6⟩
            · have := hcP.2 ⟨o, List.mem_reverse.2 ho, h3, h5, h6⟩; rw [h1] at this; cases this
            · have := hcF.2 ⟨o, List.mem_reverse.2 ho, h3, h5, h6⟩; rw [h2] at this; cases this
      rw [hokR, hkl] at hNot hSucc
      clear hcP hcF hMpr hMfr hokR hkl hprR hbl
      have hcM := cntA_le ((t.maps.take k).reverse.map kM) (.agg [.int .i64 A, .int .i64 B])
      have hgM := incL_get ((t.maps.take k).reverse.map kM) (.agg [.int .i64 A, .int .i64 B])
      have hcS := cntA_le (((t.maps.take k).reverse.map Mp.s).map kI) (.int .i64 S)
      have hgS := incL_get (((t.maps.take k).reverse.map Mp.s).map kI) (.int .i64 S)
      rw [List.length_map, List.length_reverse, List.length_take] at hcM
      rw [List.length_map, List.length_map, List.length_reverse, List.length_take] at hcS
      have huM := updM ⟨mp, S, mi, A, mt⟩ (t.maps.take k).reverse
      have huI := updI S ((t.maps.take k).reverse.map Mp.s)
      have huP := updP ⟨mp, S, mi, A, mt⟩ (t.maps.take k).reverse
      have huF := updF ⟨mp, S, mi, A, mt⟩ (t.maps.take k).reverse
      have hkM : kM ⟨mp, S, mi, A, mt⟩ = .agg [.int .i64 A, .int .i64 B] := by unfold kM; dsimp only; rw [hB]
      rw [hkM] at huM
      have hkI : kI S = .int .i64 S := rfl
      rw [hkI] at huI
      dsimp only at huP huF
      generalize cntA ((t.maps.take k).reverse.map kM) (.agg [.int .i64 A, .int .i64 B]) = nM at *
      generalize cntA (((t.maps.take k).reverse.map Mp.s).map kI) (.int .i64 S) = nS at *
      generalize t.hom S = hm at *
      generalize t.pool.ow A B = ow at *
      cases cP with
      | true =>
        have hb := goodB_no (hNot fun h => by cases h.2.1)
        (have zf1 := @hel; have zf2 := @hcut; refine XG ?_; clear zf1 zf2; ((try (repeat' with_reducible refine And.intro ?_ ?_)); (try any_goals (first | refine zm ?_ | exact CL | fail))))
        ((first | apply pr_psv | apply prD_psv | apply pr_qrunv | apply prD_qrunv) <;> (first | exact hBo | (refine XG ?_; first | exact rfl | exact True.intro | ((try (repeat' with_reducible refine And.intro ?_ ?_)); (try any_goals (first | refine zm ?_ | exact CL | fail))))))
        ((first | apply pr_psv | apply prD_psv | apply pr_qrunv | apply prD_qrunv) <;> (first | exact hIP | (refine XG ?_; first | exact rfl | exact True.intro | ((try (repeat' with_reducible refine And.intro ?_ ?_)); (try any_goals (first | refine zm ?_ | exact CL | fail))))))
        (refine xw_ifp (fun h3 => ?_) (fun h3 => ?_) <;> try exact h3.elim)
        · omega
        (refine XG ?_; ((try (repeat' with_reducible refine And.intro ?_ ?_)); (try any_goals (first | refine zm ?_ | exact CL | fail))))
        ((first | refine pr_lkp mtP ?_ | refine prD_lkp mtP ?_); (have zf1 := @hgP; refine XG ?_; clear zf1; ((try (repeat' with_reducible refine And.intro ?_ ?_)); (try any_goals (first | refine zm ?_ | exact CL | fail)))))
        ((first | apply pr_skip | apply prD_skip) <;> (refine XG ?_; first | exact rfl | exact True.intro | ((try (repeat' with_reducible refine And.intro ?_ ?_)); (try any_goals (first | refine zm ?_ | exact CL | fail)))))
        (refine xw_ifp (fun h4 => ?_) (fun h4 => ?_) <;> try exact h4.elim)
        (have zf1 := @hb; refine XG ?_; clear zf1; ((try (repeat' with_reducible refine And.intro ?_ ?_)); (try any_goals (first | refine zm ?_ | exact CL | fail))))
      | false =>
      cases cF with
      | true =>
        have hb := goodB_no (hNot fun h => by cases h.2.2)
        (have zf1 := @hel; have zf2 := @hcut; refine XG ?_; clear zf1 zf2; ((try (repeat' with_reducible refine And.intro ?_ ?_)); (try any_goals (first | refine zm ?_ | exact CL | fail))))
        ((first | apply pr_psv | apply prD_psv | apply pr_qrunv | apply prD_qrunv) <;> (first | exact hBo | (refine XG ?_; first | exact rfl | exact True.intro | ((try (repeat' with_reducible refine And.intro ?_ ?_)); (try any_goals (first | refine zm ?_ | exact CL | fail))))))
        ((first | apply pr_psv | apply prD_psv | apply pr_qrunv | apply prD_qrunv) <;> (first | exact hIP | (refine XG ?_; first | exact rfl | exact True.intro | ((try (repeat' with_reducible refine And.intro ?_ ?_)); (try any_goals (first | refine zm ?_ | exact CL | fail))))))
        (refine xw_ifp (fun h3 => ?_) (fun h3 => ?_) <;> try exact h3.elim)
        · omega
        (refine XG ?_; ((try (repeat' with_reducible refine And.intro ?_ ?_)); (try any_goals (first | refine zm ?_ | exact CL | fail))))
        ((first | refine pr_lkp mtP ?_ | refine prD_lkp mtP ?_); (have zf1 := @hgP; refine XG ?_; clear zf1; ((try (repeat' with_reducible refine And.intro ?_ ?_)); (try any_goals (first | refine zm ?_ | exact CL | fail)))))
        ((refine prD_lkpG mtF ?_ ?_ ?_); (focus (have zf1 := @hgF; refine XG ?_; clear zf1; try first | exact rfl | exact True.intro)); (focus (have zf1 := @hgF; refine XG ?_; clear zf1; try trivial)); (have zf1 := @hgF; refine XG ?_; clear zf1; ((try (repeat' with_reducible refine And.intro ?_ ?_)); (try any_goals (first | refine zm ?_ | exact CL | fail)))))
        (refine xw_ifp (fun h4 => ?_) (fun h4 => ?_) <;> try exact h4.elim)
        (have zf1 := @hb; refine XG ?_; clear zf1; ((try (repeat' with_reducible refine And.intro ?_ ?_)); (try any_goals (first | refine zm ?_ | exact CL | fail))))
      | false =>
        (have zf1 := @hel; have zf2 := @hcut; refine XG ?_; clear zf1 zf2; ((try (repeat' with_reducible refine And.intro ?_ ?_)); (try any_goals (first | refine zm ?_ | exact CL | fail))))
        ((first | apply pr_psv | apply prD_psv | apply pr_qrunv | apply prD_qrunv) <;> (first | exact hBo | (refine XG ?_; first | exact rfl | exact True.intro | ((try (repeat' with_reducible refine And.intro ?_ ?_)); (try any_goals (first | refine zm ?_ | exact CL | fail))))))
        ((first | apply pr_psv | apply prD_psv | apply pr_qrunv | apply prD_qrunv) <;> (first | exact hIP | (refine XG ?_; first | exact rfl | exact True.intro | ((try (repeat' with_reducible refine And.intro ?_ ?_)); (try any_goals (first | refine zm ?_ | exact CL | fail))))))
        (refine xw_ifp (fun h3 => ?_) (fun h3 => ?_) <;> try exact h3.elim)
        · omega
        (refine XG ?_; ((try (repeat' with_reducible refine And.intro ?_ ?_)); (try any_goals (first | refine zm ?_ | exact CL | fail))))
        ((first | refine pr_lkp mtP ?_ | refine prD_lkp mtP ?_); (have zf1 := @hgP; refine XG ?_; clear zf1; ((try (repeat' with_reducible refine And.intro ?_ ?_)); (try any_goals (first | refine zm ?_ | exact CL | fail)))))
        ((refine prD_lkpG mtF ?_ ?_ ?_); (focus (have zf1 := @hgF; have zf2 := @e2; have zf3 := @eh; have zf4 := @eo; have zf5 := @hv1; refine XG ?_; clear zf1 zf2 zf3 zf4 zf5; try first | exact rfl | exact True.intro)); (focus (have zf1 := @hgF; have zf2 := @e2; have zf3 := @eh; have zf4 := @eo; have zf5 := @hv1; refine XG ?_; clear zf1 zf2 zf3 zf4 zf5; try trivial)); (have zf1 := @hgF; have zf2 := @e2; have zf3 := @eh; have zf4 := @eo; have zf5 := @hv1; refine XG ?_; clear zf1 zf2 zf3 zf4 zf5; ((try (repeat' with_reducible refine And.intro ?_ ?_)); (try any_goals (first | refine zm ?_ | exact CL | fail)))))
        (refine xw_ifp (fun h4 => ?_) (fun h4 => ?_) <;> try exact h4.elim)
        · have hb := goodB_no (hNot fun h => by omega)
          (have zf1 := @hb; refine XG ?_; clear zf1; ((try (repeat' with_reducible refine And.intro ?_ ?_)); (try any_goals (first | refine zm ?_ | exact CL | fail))))
        have hmm := men_mst (incL ((t.maps.take k).reverse.map kM)) (.agg [.int .i64 A, .int .i64 B]) (.int .i64 0) (.int .i64 ((nM : Int) + 1))
        have hgm := getA_men (incL ((t.maps.take k).reverse.map kM)) (.agg [.int .i64 A, .int .i64 B]) (.int .i64 0)
        have hix := ixA_lt (incL ((t.maps.take k).reverse.map kM)) (.agg [.int .i64 A, .int .i64 B]) (.int .i64 0)
        have hkm : KeysOk true [.int .i64, .int .i64] (menA (incL ((t.maps.take k).reverse.map kM)) (.agg [.int .i64 A, .int .i64 B]) (.int .i64 0)) = True := eq_true (men_keys (of_eq_true (e_ksM _)) (by simp [KeyOk, keyF, kindA]))
        rw [hgM] at hgm
        have hnx : ∀ n : Nat, ((n : Int)).toNat = n := fun n => Int.toNat_natCast n
        have hS2 : PreOk t (t.maps.take (k + 1)) := hSucc (by omega) ⟨rfl, rfl⟩
        (refine XG ?_; ((try (repeat' with_reducible refine And.intro ?_ ?_)); (try any_goals (first | refine zm ?_ | exact CL | fail))))
        ((first | refine pr_upd mtP ?_ | refine prD_upd mtP ?_); (have zf1 := @huP; refine XG ?_; clear zf1; ((try (repeat' with_reducible refine And.intro ?_ ?_)); (try any_goals (first | refine zm ?_ | exact CL | fail)))))
        ((first | refine pr_upd mtF ?_ | refine prD_upd mtF ?_); (have zf1 := @huF; refine XG ?_; clear zf1; ((try (repeat' with_reducible refine And.intro ?_ ?_)); (try any_goals (first | refine zm ?_ | exact CL | fail)))))
        · ((first | refine pr_lkp mtM ?_ | refine prD_lkp mtM ?_); (have zf1 := @hgM; refine XG ?_; clear zf1; ((try (repeat' with_reducible refine And.intro ?_ ?_)); (try any_goals (first | refine zm ?_ | exact CL | fail)))))
          ((first | refine pr_men mtM ?_ | refine prD_men mtM ?_); (have zf1 := @hgM; refine XG ?_; clear zf1; ((try (repeat' with_reducible refine And.intro ?_ ?_)); (try any_goals (first | refine zm ?_ | exact CL | fail)))))
          (refine prD_mst ?_; (have zf1 := @hmm; have zf2 := @huM; have zf3 := @hnx; refine XG ?_; clear zf1 zf2 zf3; ((try (repeat' with_reducible refine And.intro ?_ ?_)); (try any_goals (first | refine zm ?_ | exact CL | fail)))))
          ((first | refine pr_lkp mtI ?_ | refine prD_lkp mtI ?_); (have zf1 := @hgS; refine XG ?_; clear zf1; ((try (repeat' with_reducible refine And.intro ?_ ?_)); (try any_goals (first | refine zm ?_ | exact CL | fail)))))
          ((first | refine pr_upd mtI ?_ | refine prD_upd mtI ?_); (have zf1 := @huI; refine XG ?_; clear zf1; ((try (repeat' with_reducible refine And.intro ?_ ?_)); (try any_goals (first | refine zm ?_ | exact CL | fail)))))
          refine ⟨k + 1, ⟨by omega, hS2⟩, ⟨[], ?_⟩, by omega⟩
          (have zf1 := @hRev; refine XG ?_; clear zf1; ((try (repeat' with_reducible refine And.intro ?_ ?_)); (try any_goals (first | refine zm ?_ | exact CL | fail))))
        · ((first | refine pr_men mtM ?_ | refine prD_men mtM ?_); (have zf1 := @hgM; refine XG ?_; clear zf1; ((try (repeat' with_reducible refine And.intro ?_ ?_)); (try any_goals (first | refine zm ?_ | exact CL | fail)))))
          ((first | refine pr_lkp mtM ?_ | refine prD_lkp mtM ?_); (have zf1 := @hgm; have zf2 := @hkm; refine XG ?_; clear zf1 zf2; ((try (repeat' with_reducible refine And.intro ?_ ?_)); (try any_goals (first | refine zm ?_ | exact CL | fail)))))
          (refine prD_mst ?_; (have zf1 := @hmm; have zf2 := @huM; have zf3 := @hnx; refine XG ?_; clear zf1 zf2 zf3; ((try (repeat' with_reducible refine And.intro ?_ ?_)); (try any_goals (first | refine zm ?_ | exact CL | fail)))))
          ((first | refine pr_lkp mtI ?_ | refine prD_lkp mtI ?_); (have zf1 := @hgS; refine XG ?_; clear zf1; ((try (repeat' with_reducible refine And.intro ?_ ?_)); (try any_goals (first | refine zm ?_ | exact CL | fail)))))
          ((first | refine pr_upd mtI ?_ | refine prD_upd mtI ?_); (have zf1 := @huI; refine XG ?_; clear zf1; ((try (repeat' with_reducible refine And.intro ?_ ?_)); (try any_goals (first | refine zm ?_ | exact CL | fail)))))
          refine ⟨k + 1, ⟨by omega, hS2⟩, ⟨[], ?_⟩, by omega⟩
          (have zf1 := @hRev; refine XG ?_; clear zf1; ((try (repeat' with_reducible refine And.intro ?_ ?_)); (try any_goals (first | refine zm ?_ | exact CL | fail))))
  · have : k = t.maps.length := by omega
    subst this
    rw [List.take_length] at hpo ⊢
    have h5 : Bk.mapb [] true = bI (hadL t.pool.own 0) := rfl
    have hol := ht.wf.pool.own
    (refine XG ?_; ((try (repeat' with_reducible refine And.intro ?_ ?_)); (try any_goals (first | refine zm ?_ | exact CL | fail))))
    (refine pr_mkm mtI ?_; (have zf1 := @h5; refine XG ?_; clear zf1; ((try (repeat' with_reducible refine And.intro ?_ ?_)); (try any_goals (first | refine zm ?_ | exact CL | fail)))))
    refine loop_rule (fun a : Nat => a ≤ 3 ∧ ∀ i, i < a * 6 → (0 < t.pool.own.getD i 0 ↔ ∃ m ∈ t.maps, mIdx m = i))
      (fun a => ⟨[(1, .ptr 0 0), (5, .mp 3), (6, .mp 4), (14, .mp 5), (146, .int .i64 a)],
        [(0, .cells t.enc), (1, bP t.maps.reverse), (2, bF t.maps.reverse), (3, bM t.maps.reverse), (4, bI (t.maps.reverse.map Mp.s)), (5, bI (hadL t.pool.own (a * 6)))], 6⟩) (fun a => 3 - a) ft_rGoodTable.mixed hN
      ⟨0, ⟨by omega, fun i hi => by omega⟩, [], by (refine XG ?_; ((try (repeat' with_reducible refine And.intro ?_ ?_)); (try any_goals (first | refine zm ?_ | exact CL | fail))))⟩ fun a hI => ?_
    obtain ⟨ha, hua⟩ := id hI
    clear hI
    (refine XG ?_; ((try (repeat' with_reducible refine And.intro ?_ ?_)); (try any_goals (first | refine zm ?_ | exact CL | fail))))
    (refine xw_ifp (fun h3 => ?_) (fun h3 => ?_) <;> try exact h3.elim)
    · have ha3 : a < 3 := by omega
      (refine XG ?_; ((try (repeat' with_reducible refine And.intro ?_ ?_)); (try any_goals (first | refine zm ?_ | exact CL | fail))))
      refine loop_rule (fun k : Nat => k ≤ 6 ∧ ∀ i, i < a * 6 + k → (0 < t.pool.own.getD i 0 ↔ ∃ m ∈ t.maps, mIdx m = i))
        (fun k => ⟨[(1, .ptr 0 0), (5, .mp 3), (6, .mp 4), (14, .mp 5), (15, .int .i64 a), (146, .int .i64 a), (149, .int .i64 k)],
          [(0, .cells t.enc), (1, bP t.maps.reverse), (2, bF t.maps.reverse), (3, bM t.maps.reverse), (4, bI (t.maps.reverse.map Mp.s)), (5, bI (hadL t.pool.own (a * 6 + k)))], 6⟩) (fun k => 6 - k) ft_rGoodTable.mixed hN
        ⟨0, ⟨by omega, hua⟩, [], by (refine XG ?_; ((try (repeat' with_reducible refine And.intro ?_ ?_)); (try any_goals (first | refine zm ?_ | exact CL | fail))))⟩ fun k hI => ?_
      obtain ⟨hk, huk⟩ := id hI
      clear hI
      (refine XG ?_; ((try (repeat' with_reducible refine And.intro ?_ ?_)); (try any_goals (first | refine zm ?_ | exact CL | fail))))
      (refine xw_ifp (fun h4 => ?_) (fun h4 => ?_) <;> try exact h4.elim)
      · have hk6 : k < 6 := by omega
        have eo := Tb.enc_ow ht.wf ha3 hk6
        have hog := Pool.ow_good t.pool hgp a k
        have hsu := hadL_succ (own := t.pool.own) (i := a * 6 + k) (by omega)
        rw [show a * 6 + k + 1 = a * 6 + (k + 1) by omega] at hsu
        have hgM := incL_get (t.maps.reverse.map kM) (.agg [.int .i64 a, .int .i64 k])
        have hcM := used_cntA hpo.1 ha3 hk6
        have hll := hadL_len t.pool.own (a * 6 + k)
        have how : t.pool.own.getD (a * 6 + k) 0 = t.pool.ow a k := rfl
        have hNx : (0 < t.pool.ow a k ↔ 0 < cntA (t.maps.reverse.map kM) (.agg [.int .i64 a, .int .i64 k])) → ∀ i, i < a * 6 + (k + 1) → (0 < t.pool.own.getD i 0 ↔ ∃ m ∈ t.maps, mIdx m = i) := fun h i hi => by
          by_cases e : i = a * 6 + k
          · subst e; rw [how, h, hcM]
          · exact huk i (by omega)
        have hBad : ¬ (0 < t.pool.ow a k ↔ 0 < cntA (t.maps.reverse.map kM) (.agg [.int .i64 a, .int .i64 k])) → ¬ GT t := fun h hg => h (by
          rw [hcM]
          have := hg.used (a * 6 + k) (by omega)
          rw [how] at this
          rw [← this]; omega)
        rw [how] at hsu
        generalize cntA (t.maps.reverse.map kM) (.agg [.int .i64 a, .int .i64 k]) = nM at *
        have hcH := cntA_le ((hadL t.pool.own (a * 6 + k)).map kI) (.int .i64 (t.pool.ow a k - 1))
        have hgH := incL_get ((hadL t.pool.own (a * 6 + k)).map kI) (.int .i64 (t.pool.ow a k - 1))
        have huH := updI (t.pool.ow a k - 1) (hadL t.pool.own (a * 6 + k))
        rw [List.length_map] at hcH
        have hkI : kI (t.pool.ow a k - 1) = .int .i64 (t.pool.ow a k - 1) := rfl
        rw [hkI] at huH
        generalize cntA ((hadL t.pool.own (a * 6 + k)).map kI) (.int .i64 (t.pool.ow a k - 1)) = nH at *
        generalize t.pool.ow a k = o at *
        (have zf1 := @e2; have zf2 := @eo; refine XG ?_; clear zf1 zf2; ((try (repeat' with_reducible refine And.intro ?_ ?_)); (try any_goals (first | refine zm ?_ | exact CL | fail))))
        (refine xw_ifp (fun h5' => ?_) (fun h5' => ?_) <;> try exact h5'.elim)
        · rw [if_pos (by omega)] at hsu
          (refine XG ?_; ((try (repeat' with_reducible refine And.intro ?_ ?_)); (try any_goals (first | refine zm ?_ | exact CL | fail))))
          ((first | refine pr_lkp mtI ?_ | refine prD_lkp mtI ?_); (have zf1 := @hgH; refine XG ?_; clear zf1; ((try (repeat' with_reducible refine And.intro ?_ ?_)); (try any_goals (first | refine zm ?_ | exact CL | fail)))))
          ((first | refine pr_upd mtI ?_ | refine prD_upd mtI ?_); (have zf1 := @huH; refine XG ?_; clear zf1; ((try (repeat' with_reducible refine And.intro ?_ ?_)); (try any_goals (first | refine zm ?_ | exact CL | fail)))))
          ((first | refine pr_lkp mtM ?_ | refine prD_lkp mtM ?_); (have zf1 := @hgM; refine XG ?_; clear zf1; ((try (repeat' with_reducible refine And.intro ?_ ?_)); (try any_goals (first | refine zm ?_ | exact CL | fail)))))
          (refine xw_ifp (fun h6 => ?_) (fun h6 => ?_) <;> try exact h6.elim)
          · have hb := goodB_no (hBad (by simp at h6; omega))
            (have zf1 := @hb; refine XG ?_; clear zf1; ((try (repeat' with_reducible refine And.intro ?_ ?_)); (try any_goals (first | refine zm ?_ | exact CL | fail))))
          · (refine XG ?_; ((try (repeat' with_reducible refine And.intro ?_ ?_)); (try any_goals (first | refine zm ?_ | exact CL | fail))))
            refine ⟨k + 1, ⟨by omega, hNx (by simp at h6; omega)⟩, ⟨[], ?_⟩, by omega⟩
            (have zf1 := @hsu; refine XG ?_; clear zf1; ((try (repeat' with_reducible refine And.intro ?_ ?_)); (try any_goals (first | refine zm ?_ | exact CL | fail))))
        · rw [if_neg (by omega)] at hsu
          (refine XG ?_; ((try (repeat' with_reducible refine And.intro ?_ ?_)); (try any_goals (first | refine zm ?_ | exact CL | fail))))
          ((first | refine pr_lkp mtM ?_ | refine prD_lkp mtM ?_); (have zf1 := @hgM; refine XG ?_; clear zf1; ((try (repeat' with_reducible refine And.intro ?_ ?_)); (try any_goals (first | refine zm ?_ | exact CL | fail)))))
          (refine xw_ifp (fun h6 => ?_) (fun h6 => ?_) <;> try exact h6.elim)
          · have hb := goodB_no (hBad (by simp at h6; omega))
            (have zf1 := @hb; refine XG ?_; clear zf1; ((try (repeat' with_reducible refine And.intro ?_ ?_)); (try any_goals (first | refine zm ?_ | exact CL | fail))))
          · (refine XG ?_; ((try (repeat' with_reducible refine And.intro ?_ ?_)); (try any_goals (first | refine zm ?_ | exact CL | fail))))
            refine ⟨k + 1, ⟨by omega, hNx (by simp at h6; omega)⟩, ⟨[], ?_⟩, by omega⟩
            (have zf1 := @hsu; refine XG ?_; clear zf1; ((try (repeat' with_reducible refine And.intro ?_ ?_)); (try any_goals (first | refine zm ?_ | exact CL | fail))))
      · have : k = 6 := by omega
        subst this
        (refine XG ?_; ((try (repeat' with_reducible refine And.intro ?_ ?_)); (try any_goals (first | refine zm ?_ | exact CL | fail))))
        have e6 : (a + 1) * 6 = a * 6 + 6 := by omega
        refine ⟨a + 1, ⟨by omega, by rw [e6]; exact huk⟩, ⟨[], ?_⟩, by omega⟩
        (have zf1 := @e6; refine XG ?_; clear zf1; ((try (repeat' with_reducible refine And.intro ?_ ?_)); (try any_goals (first | refine zm ?_ | exact CL | fail))))
    · have : a = 3 := by omega
      subst this
      (refine XG ?_; ((try (repeat' with_reducible refine And.intro ?_ ?_)); (try any_goals (first | refine zm ?_ | exact CL | fail))))
      refine loop_rule (fun s : Nat => s ≤ 8 ∧ ∀ u, u < s → cntB t.pool.own u ≤ 2 ∧ manyOf t.maps (u : Int) ≤ 12 ∧ (t.hom u ≠ 0 ↔ 0 < cntB t.pool.own u))
        (fun s => ⟨[(1, .ptr 0 0), (6, .mp 4), (14, .mp 5), (177, .int .i64 s)],
          [(0, .cells t.enc), (1, bP t.maps.reverse), (2, bF t.maps.reverse), (3, bM t.maps.reverse), (4, bI (t.maps.reverse.map Mp.s)), (5, bI (hadL t.pool.own 18))], 6⟩) (fun s => 8 - s) ft_rGoodTable.mixed hN
        ⟨0, ⟨by omega, fun u hu => by omega⟩, [], by (refine XG ?_; ((try (repeat' with_reducible refine And.intro ?_ ?_)); (try any_goals (first | refine zm ?_ | exact CL | fail)))) <;> exact rfl⟩ fun s hI => ?_
      obtain ⟨hs, hus⟩ := id hI
      clear hI
      (refine XG ?_; ((try (repeat' with_reducible refine And.intro ?_ ?_)); (try any_goals (first | refine zm ?_ | exact CL | fail))))
      (refine xw_ifp (fun h4 => ?_) (fun h4 => ?_) <;> try exact h4.elim)
      · have hs8 : s < 8 := by omega
        have eh := Tb.enc_home ht.wf hs8
        have hgB := incL_get ((hadL t.pool.own 18).map kI) (.int .i64 s)
        have hgO := incL_get ((t.maps.reverse.map Mp.s).map kI) (.int .i64 s)
        rw [had_cnt ht.wf.pool] at hgB
        rw [many_cntA] at hgO
        have hNx : cntB t.pool.own s ≤ 2 ∧ manyOf t.maps (s : Int) ≤ 12 ∧ (t.hom s ≠ 0 ↔ 0 < cntB t.pool.own s) → ∀ u, u < s + 1 → cntB t.pool.own u ≤ 2 ∧ manyOf t.maps (u : Int) ≤ 12 ∧ (t.hom u ≠ 0 ↔ 0 < cntB t.pool.own u) := fun h u hu => by
          by_cases e : u = s
          · subst e; exact h
          · exact hus u (by omega)
        have hBad : ¬ (cntB t.pool.own s ≤ 2 ∧ manyOf t.maps (s : Int) ≤ 12 ∧ (t.hom s ≠ 0 ↔ 0 < cntB t.pool.own s)) → ¬ GT t := fun h hg => h ⟨hg.two s hs8, hg.many s hs8, hg.home s hs8⟩
        generalize cntB t.pool.own s = nB at *
        generalize manyOf t.maps (s : Int) = nO at *
        generalize t.hom s = hm at *
        by_cases c1 : 2 < nB
        · have d1 : decide (2 < (nB : Int)) = true := by rw [decide_eq_true_eq]; omega
          have hb := goodB_no (hBad (by omega))
          (refine XG ?_; ((try (repeat' with_reducible refine And.intro ?_ ?_)); (try any_goals (first | refine zm ?_ | exact CL | fail))))
          ((first | refine pr_lkp mtI ?_ | refine prD_lkp mtI ?_); (have zf1 := @hgB; have zf2 := @d1; refine XG ?_; clear zf1 zf2; ((try (repeat' with_reducible refine And.intro ?_ ?_)); (try any_goals (first | refine zm ?_ | exact CL | fail)))))
          ((first | apply pr_skip | apply prD_skip) <;> (have zf1 := @d1; refine XG ?_; clear zf1; first | exact rfl | exact True.intro | ((try (repeat' with_reducible refine And.intro ?_ ?_)); (try any_goals (first | refine zm ?_ | exact CL | fail)))))
          ((first | apply pr_skip | apply prD_skip) <;> (have zf1 := @d1; refine XG ?_; clear zf1; first | exact rfl | exact True.intro | ((try (repeat' with_reducible refine And.intro ?_ ?_)); (try any_goals (first | refine zm ?_ | exact CL | fail)))))
          (refine xw_ifp (fun h5' => ?_) (fun h5' => ?_) <;> try exact h5'.elim)
          (have zf1 := @hb; refine XG ?_; clear zf1; ((try (repeat' with_reducible refine And.intro ?_ ?_)); (try any_goals (first | refine zm ?_ | exact CL | fail))))
        · have d1 : decide (2 < (nB : Int)) = false := by rw [decide_eq_false_iff_not]; omega
          by_cases c2 : 12 < nO
          · have d2 : decide (12 < (nO : Int)) = true := by rw [decide_eq_true_eq]; omega
            have hb := goodB_no (hBad (by omega))
            (refine XG ?_; ((try (repeat' with_reducible refine And.intro ?_ ?_)); (try any_goals (first | refine zm ?_ | exact CL | fail))))
            ((first | refine pr_lkp mtI ?_ | refine prD_lkp mtI ?_); (have zf1 := @hgB; have zf2 := @d1; refine XG ?_; clear zf1 zf2; ((try (repeat' with_reducible refine And.intro ?_ ?_)); (try any_goals (first | refine zm ?_ | exact CL | fail)))))
            ((refine prD_lkpG mtI ?_ ?_ ?_); (focus (have zf1 := @hgO; have zf2 := @d1; have zf3 := @d2; refine XG ?_; clear zf1 zf2 zf3; try first | exact rfl | exact True.intro)); (focus (have zf1 := @hgO; have zf2 := @d1; have zf3 := @d2; refine XG ?_; clear zf1 zf2 zf3; try trivial)); (have zf1 := @hgO; have zf2 := @d1; have zf3 := @d2; refine XG ?_; clear zf1 zf2 zf3; ((try (repeat' with_reducible refine And.intro ?_ ?_)); (try any_goals (first | refine zm ?_ | exact CL | fail)))))
            ((first | apply pr_skip | apply prD_skip) <;> (have zf1 := @d1; have zf2 := @d2; refine XG ?_; clear zf1 zf2; first | exact rfl | exact True.intro | ((try (repeat' with_reducible refine And.intro ?_ ?_)); (try any_goals (first | refine zm ?_ | exact CL | fail)))))
            (refine xw_ifp (fun h5' => ?_) (fun h5' => ?_) <;> try exact h5'.elim)
            (have zf1 := @hb; refine XG ?_; clear zf1; ((try (repeat' with_reducible refine And.intro ?_ ?_)); (try any_goals (first | refine zm ?_ | exact CL | fail))))
          · have d2 : decide (12 < (nO : Int)) = false := by rw [decide_eq_false_iff_not]; omega
            (refine XG ?_; ((try (repeat' with_reducible refine And.intro ?_ ?_)); (try any_goals (first | refine zm ?_ | exact CL | fail))))
            ((first | refine pr_lkp mtI ?_ | refine prD_lkp mtI ?_); (have zf1 := @hgB; have zf2 := @d1; refine XG ?_; clear zf1 zf2; ((try (repeat' with_reducible refine And.intro ?_ ?_)); (try any_goals (first | refine zm ?_ | exact CL | fail)))))
            ((refine prD_lkpG mtI ?_ ?_ ?_); (focus (have zf1 := @hgO; have zf2 := @d1; have zf3 := @d2; have zf4 := @e2; have zf5 := @eh; refine XG ?_; clear zf1 zf2 zf3 zf4 zf5; try first | exact rfl | exact True.intro)); (focus (have zf1 := @hgO; have zf2 := @d1; have zf3 := @d2; have zf4 := @e2; have zf5 := @eh; refine XG ?_; clear zf1 zf2 zf3 zf4 zf5; try trivial)); (have zf1 := @hgO; have zf2 := @d1; have zf3 := @d2; have zf4 := @e2; have zf5 := @eh; refine XG ?_; clear zf1 zf2 zf3 zf4 zf5; ((try (repeat' with_reducible refine And.intro ?_ ?_)); (try any_goals (first | refine zm ?_ | exact CL | fail)))))
            ((refine prD_lkpG mtI ?_ ?_ ?_); (focus (have zf1 := @hgB; have zf2 := @d1; have zf3 := @d2; refine XG ?_; clear zf1 zf2 zf3; try first | exact rfl | exact True.intro)); (focus (have zf1 := @hgB; have zf2 := @d1; have zf3 := @d2; refine XG ?_; clear zf1 zf2 zf3; try trivial)); (have zf1 := @hgB; have zf2 := @d1; have zf3 := @d2; refine XG ?_; clear zf1 zf2 zf3; ((try (repeat' with_reducible refine And.intro ?_ ?_)); (try any_goals (first | refine zm ?_ | exact CL | fail)))))
            (refine xw_ifp (fun h5' => ?_) (fun h5' => ?_) <;> try exact h5'.elim)
            · have hb := goodB_no (hBad (by rw [beq_iff2] at h5'; omega))
              (have zf1 := @hb; refine XG ?_; clear zf1; ((try (repeat' with_reducible refine And.intro ?_ ?_)); (try any_goals (first | refine zm ?_ | exact CL | fail))))
            · (refine XG ?_; ((try (repeat' with_reducible refine And.intro ?_ ?_)); (try any_goals (first | refine zm ?_ | exact CL | fail))))
              refine ⟨s + 1, ⟨by omega, hNx (by rw [beq_iff2] at h5'; omega)⟩, ⟨[], ?_⟩, by omega⟩
              (refine XG ?_; ((try (repeat' with_reducible refine And.intro ?_ ?_)); (try any_goals (first | refine zm ?_ | exact CL | fail))))
      · have : s = 8 := by omega
        subst this
        have hb : goodB t = true := (goodB_iff t).2 (goodT_GT.2 ⟨hgp, hpo.1, hpo.2, fun i hi => (by
          have h1 := hua i hi
          have h2 : 0 ≤ t.pool.own.getD i 0 := by
            have hil : i < t.pool.own.length := by omega
            rw [List.getD_eq_getElem?_getD, List.getElem?_eq_getElem hil]
            exact (good_own hgp (List.getElem_mem hil)).1
          rw [← h1]; omega), fun u hu => (hus u hu).1, fun u hu => (hus u hu).2.1, fun u hu => (hus u hu).2.2⟩)
        (have zf1 := @hb; refine XG ?_; clear zf1; ((try (repeat' with_reducible refine And.intro ?_ ?_)); (try any_goals (first | refine zm ?_ | exact CL | fail))))
end Go.Proofs.Ytphaicaobepimaa
