/- Good tables, said with counts; and that they stay good. No conditions but the ones that stand in each. -/
import Derived.Test.YtphaicaobepimaaDn
namespace Go.Proofs.Ytphaicaobepimaa
set_option linter.all false
set_option linter.unusedSimpArgs false
open Go.RowKit

/-- How many blocks a subscriber has. -/
def cntB (own : List Int) (s : Nat) : Nat := own.countP fun o => o == (s : Int) + 1
structure GT (t : Tb) : Prop where
  pool : t.pool.good = true
  maps : ∀ m ∈ t.maps, mapOk t m
  apart : t.maps.Pairwise fun x y => klash x y = false
  used : ∀ i, i < 18 → (t.pool.own.getD i 0 ≠ 0 ↔ ∃ m ∈ t.maps, mIdx m = i)
  two : ∀ s, s < 8 → cntB t.pool.own s ≤ 2
  many : ∀ s : Nat, s < 8 → manyOf t.maps (s : Int) ≤ 12
  home : ∀ s, s < 8 → (t.hom s ≠ 0 ↔ 0 < cntB t.pool.own s)
theorem klash_comm (x y : Mp) : klash x y = klash y x := by
  have hb : ∀ a b : Int, (a == b) = (b == a) := fun a b => by
    by_cases h : a = b
    · subst h; rfl
    · have h2 : ¬ b = a := fun e => h e.symm
      rw [beq_eq_false_iff_ne.2 h, beq_eq_false_iff_ne.2 h2]
  unfold klash
  rw [hb y.proto, hb y.a, hb y.port, hb y.s, hb y.inn]
theorem good_own {p : Pool} (h : p.good = true) {o : Int} (ho : o ∈ p.own) : 0 ≤ o ∧ o ≤ 8 := by
  have := List.all_eq_true.1 h o ho
  unfold goodI at this
  simp at this; omega
theorem blk_cnt {p : Pool} (h : p.good = true) {s : Nat} (hs : s < 8) : (blkL p.own).getD s 0 = cntB p.own s := by
  rw [blkL_eq _ _ hs]
  unfold cntB
  congr 1
  refine List.countP_congr fun o ho => ?_
  have := good_own h ho
  simp only [Bool.and_eq_true, Bool.not_eq_true', beq_eq_false_iff_ne, beq_iff_eq, ne_eq]
  omega
theorem many_cnt {l : List Mp} (h : ∀ m ∈ l, 0 ≤ m.s) {s : Nat} (hs : s < 8) : (manyL l).getD s 0 = manyOf l s := by
  rw [manyL_eq _ _ hs]
  unfold manyOf
  congr 1
  refine List.countP_congr fun o ho => ?_
  have := h o ho
  simp only [beq_iff_eq]
  omega
theorem mapOk_s {t : Tb} {m : Mp} (h : mapOk t m) : 0 ≤ m.s ∧ m.s < 8 := by
  obtain ⟨_, h2, _⟩ := known_bd h.1.1; exact h2
theorem goodT_GT {t : Tb} : goodT t ↔ GT t := by
  constructor
  · intro h
    have hm : ∀ m ∈ t.maps, mapOk t m := fun m hm => by
      obtain ⟨i, hi, rfl⟩ := List.getElem_of_mem hm
      exact h.maps i hi
    refine ⟨h.pool, hm, List.pairwise_iff_getElem.2 fun i j hi hj hij => ?_, fun i hi => ?_, fun s hs => ?_, fun s hs => ?_, fun s hs => ?_⟩
    · rw [klash_comm]; exact h.apart j i hj hij
    · have := h.used i hi
      rw [usedL_eq _ _ hi] at this
      rw [← bne_iff_ne, this, List.any_eq_true]
      simp
    · have := (h.subs s hs).1; rw [blk_cnt h.pool hs] at this; omega
    · have := (h.subs s hs).2.1; rw [many_cnt (fun m hm' => (mapOk_s (hm m hm')).1) hs] at this; omega
    · have := (h.subs s hs).2.2
      rw [blk_cnt h.pool hs] at this
      rw [← bne_iff_ne, this, decide_eq_true_eq]; omega
  · intro h
    refine ⟨h.pool, fun i hi => h.maps _ (List.getElem_mem hi), fun i j hi hj => ?_, fun i hi => ?_, fun s hs => ⟨?_, ?_, ?_⟩⟩
    · rw [klash_comm]; exact List.pairwise_iff_getElem.1 h.apart j i (by omega) hi hj
    · rw [usedL_eq _ _ hi]
      have := h.used i hi
      rw [← bne_iff_ne] at this
      by_cases h2 : (t.pool.own.getD i 0 != 0) = true
      · rw [h2]
        obtain ⟨m, hm, he⟩ := this.1 h2
        exact (List.any_eq_true.2 ⟨m, hm, by simp [he]⟩).symm
      · have h3 : (t.pool.own.getD i 0 != 0) = false := by simpa using h2
        rw [h3]
        symm
        rw [List.any_eq_false]
        intro m hm he
        exact h2 (this.2 ⟨m, hm, by simpa using he⟩)
    · rw [blk_cnt h.pool hs]; have := h.two s hs; omega
    · rw [many_cnt (fun m hm' => (mapOk_s (h.maps m hm')).1) hs]; have := h.many s hs; omega
    · rw [blk_cnt h.pool hs]
      have := h.home s hs
      rw [← bne_iff_ne] at this
      by_cases h2 : (t.hom s != 0) = true
      · rw [h2]; have := this.1 h2; simp; omega
      · have h3 : (t.hom s != 0) = false := by simpa using h2
        rw [h3]
        symm
        rw [decide_eq_false_iff_not]
        intro h4
        exact h2 (this.2 (by omega))

theorem blk_lt (port : Int) : 0 ≤ blkOf' port ∧ blkOf' port < 6 := by
  unfold blkOf'
  split
  · rename_i h; unfold inPort at h; simp at h; omega
  · omega
theorem mIdx_eq {m o : Mp} (hm : 0 ≤ m.a) (ho : 0 ≤ o.a) : mIdx m = mIdx o ↔ m.a = o.a ∧ blkOf' m.port = blkOf' o.port := by
  have h1 := blk_lt m.port
  have h2 := blk_lt o.port
  unfold mIdx
  constructor
  · intro h; omega
  · rintro ⟨h3, h4⟩; rw [h3, h4]
theorem mIdx_lt {t : Tb} {m : Mp} (h : mapPre t m) : mIdx m < 18 := by
  have h1 := blk_lt m.port
  have := h.2.2
  unfold mIdx
  omega
theorem ow_idx (t : Tb) (m : Mp) : t.pool.ow m.a.toNat (blkOf' m.port).toNat = t.pool.own.getD (mIdx m) 0 := rfl
theorem klash_same {m o : Mp} (h : klash m o = false) : m ≠ o := by
  rintro rfl
  simp [klash] at h
theorem many_add (l : List Mp) (m : Mp) (s : Int) : manyOf (l ++ [m]) s = manyOf l s + (if m.s = s then 1 else 0) := by
  unfold manyOf
  rw [List.countP_append]
  by_cases h : m.s = s <;> simp [h]
theorem apart_add {l : List Mp} {m : Mp} (h : l.Pairwise fun x y => klash x y = false) (hm : ∀ o ∈ l, klash o m = false) : (l ++ [m]).Pairwise fun x y => klash x y = false := by
  rw [List.pairwise_append]
  exact ⟨h, List.pairwise_singleton _ _, fun a ha b hb => by rw [List.mem_singleton.1 hb]; exact hm a ha⟩
/-- A map more, in a block that is its subscriber's. -/
theorem GT.add {t : Tb} (h : GT t) {m : Mp} (hm : mapOk t m) (hk : ∀ o ∈ t.maps, klash o m = false) (hn : manyOf t.maps m.s < 12) : GT (t.add m) := by
  refine ⟨h.pool, fun o ho => ?_, apart_add h.apart hk, fun i hi => ?_, h.two, fun s hs => ?_, h.home⟩
  · rcases List.mem_append.1 ho with ho | ho
    · exact h.maps o ho
    · rw [List.mem_singleton.1 ho]; exact hm
  · refine (h.used i hi).trans ⟨fun ⟨o, ho, he⟩ => ⟨o, List.mem_append_left _ ho, he⟩, fun ⟨o, ho, he⟩ => ?_⟩
    rcases List.mem_append.1 ho with ho | ho
    · exact ⟨o, ho, he⟩
    · rw [List.mem_singleton.1 ho] at he
      refine (h.used i hi).1 ?_
      rw [← he, ← ow_idx t m, hm.2.2]
      have := mapOk_s hm; omega
  · show manyOf (t.maps ++ [m]) s ≤ 12
    rw [many_add]
    have := h.many s hs
    split
    · rename_i e; rw [e] at hn; omega
    · omega
theorem getD_set_eq {l : List Int} {i : Nat} (h : i < l.length) (v : Int) (j : Nat) : (l.set i v).getD j 0 = if j = i then v else l.getD j 0 := by
  by_cases e : j = i
  · subst e; simp [List.getD, h]
  · rw [if_neg e]; simp [List.getD, List.getElem?_set_ne (fun q => e q.symm)]
theorem cnt_set {l : List Int} {i : Nat} (h : i < l.length) (v : Int) (s : Nat) : cntB (l.set i v) s = (cntB l s - if l.getD i 0 = (s : Int) + 1 then 1 else 0) + if v = (s : Int) + 1 then 1 else 0 := by
  unfold cntB
  rw [List.countP_set h]
  have e : l.getD i 0 = l[i] := by simp [List.getD, h]
  rw [e]
  simp only [beq_iff_eq]
theorem cnt_pos {l : List Int} {i s : Nat} (h : i < l.length) (he : l.getD i 0 = (s : Int) + 1) : 0 < cntB l s := by
  unfold cntB
  rw [List.countP_pos_iff]
  refine ⟨l[i], List.getElem_mem h, ?_⟩
  have e : l.getD i 0 = l[i] := by simp [List.getD, h]
  rw [e] at he; simp [he]
theorem good_putO {p : Pool} (h : p.good = true) (a k : Nat) {o : Int} (ho : 0 ≤ o ∧ o ≤ 8) : (p.put a k o).good = true := by
  refine List.all_eq_true.2 fun x hx => ?_
  rcases List.mem_or_eq_of_mem_set hx with h2 | h2
  · exact List.all_eq_true.1 h x h2
  · subst h2; unfold goodI; simp; omega
/-- A map more, in a block that was nobody's. -/
theorem GT.take {t : Tb} (h : GT t) (hw : t.wf) {b k S : Nat} (hb : b < 3) (hk : k < 6) (hS : S < 8) (hz : t.pool.ow b k = 0) (hh : t.hom S = 0 ∨ t.hom S = b + 1) (hc : cntB t.pool.own S ≤ 1) {m : Mp} (hs : m.s = S) (ha : m.a = b) (hmb : (blkOf' m.port).toNat = k)
    (hpre : mapPre t m) (hkl : ∀ o ∈ t.maps, klash o m = false) (hn : manyOf t.maps m.s < 12) : GT ((⟨t.pool.put b k (S + 1), t.home.set S (b + 1), t.maps⟩ : Tb).add m) := by
  have hl : b * 6 + k < t.pool.own.length := by rw [hw.pool.own]; omega
  have hlh : S < t.home.length := by rw [hw.home]; exact hS
  have hidx : mIdx m = b * 6 + k := by unfold mIdx; rw [hmb, ha, Int.toNat_natCast]
  have hz' : t.pool.own.getD (b * 6 + k) 0 = 0 := hz
  have hho : ∀ u, (⟨t.pool.put b k (S + 1), t.home.set S (b + 1), t.maps⟩ : Tb).hom u = if u = S then (b : Int) + 1 else t.hom u := fun u => getD_set_eq hlh _ _
  have how : ∀ i, (t.pool.own.set (b * 6 + k) ((S : Int) + 1)).getD i 0 = if i = b * 6 + k then (S : Int) + 1 else t.pool.own.getD i 0 := fun i => getD_set_eq hl _ _
  have hold : ∀ o ∈ t.maps, mIdx o ≠ b * 6 + k := fun o ho he => by
    exact (h.used _ (by omega)).2 ⟨o, ho, he⟩ hz'
  refine ⟨good_putO h.pool _ _ (by omega), fun o ho => ?_, apart_add h.apart hkl, fun i hi => ?_, fun s hs' => ?_, fun s hs' => ?_, fun s hs' => ?_⟩
  · rcases List.mem_append.1 ho with ho | ho
    · have := h.maps o ho
      have h8 := mapOk_s this
      have h3 := this.1.2.2
      refine ⟨this.1, ?_, ?_⟩
      · show (⟨t.pool.put b k (S + 1), t.home.set S (b + 1), t.maps⟩ : Tb).hom _ = _
        rw [hho]
        split
        · rename_i e
          have := this.2.1
          rw [e] at this
          omega
        · exact this.2.1
      · show (t.pool.own.set (b * 6 + k) ((S : Int) + 1)).getD (mIdx o) 0 = _
        rw [how, if_neg (hold o ho)]
        exact this.2.2
    · rw [List.mem_singleton.1 ho]
      refine ⟨hpre, ?_, ?_⟩
      · show (⟨t.pool.put b k (S + 1), t.home.set S (b + 1), t.maps⟩ : Tb).hom _ = _
        rw [hho, if_pos (by omega), ha]
      · show (t.pool.own.set (b * 6 + k) ((S : Int) + 1)).getD (mIdx m) 0 = _
        rw [how, if_pos hidx, hs]
  · show (t.pool.own.set (b * 6 + k) ((S : Int) + 1)).getD i 0 ≠ 0 ↔ ∃ o ∈ t.maps ++ [m], mIdx o = i
    rw [how]
    by_cases e : i = b * 6 + k
    · rw [if_pos e]
      exact ⟨fun _ => ⟨m, by simp, by rw [hidx, e]⟩, fun _ => by omega⟩
    · rw [if_neg e]
      refine (h.used i hi).trans ⟨fun ⟨o, ho, he⟩ => ⟨o, List.mem_append_left _ ho, he⟩, fun ⟨o, ho, he⟩ => ?_⟩
      rcases List.mem_append.1 ho with ho | ho
      · exact ⟨o, ho, he⟩
      · rw [List.mem_singleton.1 ho] at he; exact (e (by rw [← he, hidx])).elim
  · show cntB (t.pool.own.set (b * 6 + k) ((S : Int) + 1)) s ≤ 2
    rw [cnt_set hl, hz', if_neg (by omega)]
    have := h.two s hs'
    split
    · rename_i e; have : s = S := by omega
      subst this; omega
    · omega
  · show manyOf (t.maps ++ [m]) s ≤ 12
    rw [many_add]
    have := h.many s hs'
    split
    · rename_i e; rw [e] at hn; omega
    · omega
  · show (⟨t.pool.put b k (S + 1), t.home.set S (b + 1), t.maps⟩ : Tb).hom s ≠ 0 ↔ 0 < cntB (t.pool.own.set (b * 6 + k) ((S : Int) + 1)) s
    rw [hho, cnt_set hl, hz', if_neg (show ¬ (0 : Int) = (s : Int) + 1 by omega)]
    by_cases e : s = S
    · subst e; rw [if_pos rfl, if_pos rfl]; omega
    · rw [if_neg e, if_neg (by omega)]
      have := h.home s hs'
      omega
/-- A map less, its block has others. -/
theorem GT.del {t : Tb} (h : GT t) {i : Nat} (hi : i < t.maps.length) (ho : ∃ o ∈ t.maps.eraseIdx i, mIdx o = mIdx t.maps[i]) : GT (t.del i) := by
  have hsub : ∀ o ∈ t.maps.eraseIdx i, o ∈ t.maps := fun o ho => List.mem_of_mem_eraseIdx ho
  refine ⟨h.pool, fun o ho => h.maps o (hsub o ho), h.apart.sublist (List.eraseIdx_sublist _ _), fun j hj => ?_, h.two, fun s hs => ?_, h.home⟩
  · refine (h.used j hj).trans ⟨fun ⟨o, ho', he⟩ => ?_, fun ⟨o, ho', he⟩ => ⟨o, hsub o ho', he⟩⟩
    obtain ⟨n, hn, rfl⟩ := List.getElem_of_mem ho'
    by_cases e : n = i
    · subst e
      obtain ⟨q, hq, hqe⟩ := ho
      exact ⟨q, hq, hqe.trans he⟩
    · exact ⟨_, List.mem_eraseIdx_iff_getElem.2 ⟨n, hn, e, rfl⟩, he⟩
  · have := h.many s hs
    exact Nat.le_trans (List.Sublist.countP_le (List.eraseIdx_sublist _ _)) this

/-! ### All blocks of a subscriber are at its home -/
def rowC (own : List Int) (s a : Nat) : Nat := (List.range 6).countP fun k => own.getD (a * 6 + k) 0 == (s : Int) + 1
theorem cnt_rows {own : List Int} (h : own.length = 18) (s : Nat) : cntB own s = rowC own s 0 + rowC own s 1 + rowC own s 2 := by
  match own, h with
  | [o0, o1, o2, o3, o4, o5, o6, o7, o8, o9, o10, o11, o12, o13, o14, o15, o16, o17], _ =>
    have e : List.range 6 = [0, 1, 2, 3, 4, 5] := rfl
    unfold cntB rowC
    rw [e]
    simp only [List.countP_cons, List.countP_nil, List.getD, List.getElem?_cons_zero, List.getElem?_cons_succ, Option.getD_some, Nat.zero_add, Nat.zero_mul, Nat.one_mul, Nat.reduceMul, Nat.reduceAdd, Nat.add_zero]
    ac_rfl
theorem GT.owner {t : Tb} (h : GT t) {i s : Nat} (hi : i < 18) (ho : t.pool.own.getD i 0 = (s : Int) + 1) : 1 ≤ t.hom s ∧ (t.hom s - 1).toNat = i / 6 ∧ t.hom s ≤ 3 := by
  obtain ⟨m, hm, he⟩ := (h.used i hi).1 (by omega)
  have hok := h.maps m hm
  have hs := mapOk_s hok
  have hb := blk_lt m.port
  have h1 := hok.2.2
  rw [ow_idx, he, ho] at h1
  have h2 := hok.2.1
  rw [show m.s.toNat = s by omega] at h2
  have ha := hok.1.2.2
  unfold mIdx at he
  omega
/-- A subscriber's blocks are all at its home. -/
def homeOk (t : Tb) (s : Nat) : Prop := ∀ i, i < 18 → t.pool.own.getD i 0 = (s : Int) + 1 → 1 ≤ t.hom s ∧ (t.hom s - 1).toNat = i / 6 ∧ t.hom s ≤ 3
theorem GT.homeOk {t : Tb} (h : GT t) (s : Nat) : homeOk t s := fun _ hi ho => h.owner hi ho
theorem row_none {t : Tb} {s : Nat} (h : homeOk t s) (a : Nat) (ha : a < 3) (hn : ¬ (1 ≤ t.hom s ∧ (t.hom s - 1).toNat = a)) : rowC t.pool.own s a = 0 := by
  unfold rowC
  rw [List.countP_eq_zero]
  intro k hk he
  have hk := List.mem_range.1 hk
  have := h (a * 6 + k) (by omega) (by simpa using he)
  omega
theorem cnt_own {t : Tb} {s : Nat} (h : homeOk t s) (hw : t.wf) : cntB t.pool.own s = (ownL t s).length := by
  rw [cnt_rows hw.pool.own]
  unfold ownL
  split
  · rename_i h1
    have e : (ownB t s 6).length = rowC t.pool.own s (t.hom s - 1).toNat := by
      unfold ownB rowC
      rw [← List.countP_eq_length_filter]; rfl
    rw [e]
    have h0 := row_none h 0 (by omega)
    have h1' := row_none h 1 (by omega)
    have h2 := row_none h 2 (by omega)
    by_cases e0 : (t.hom s - 1).toNat = 0
    · rw [e0, h1' (by omega), h2 (by omega)]; omega
    · by_cases e1 : (t.hom s - 1).toNat = 1
      · rw [e1, h0 (by omega), h2 (by omega)]; omega
      · by_cases e2 : (t.hom s - 1).toNat = 2
        · rw [e2, h0 (by omega), h1' (by omega)]; omega
        · rw [h0 (by omega), h1' (by omega), h2 (by omega)]
          have : rowC t.pool.own s (t.hom s - 1).toNat = 0 := by
            unfold rowC
            rw [List.countP_eq_zero]
            intro k hk he
            rw [List.getD_eq_getElem?_getD, List.getElem?_eq_none (by have := hw.pool.own; omega)] at he
            simp at he; omega
          omega
  · rw [row_none h 0 (by omega) (by omega), row_none h 1 (by omega) (by omega), row_none h 2 (by omega) (by omega)]; rfl
end Go.Proofs.Ytphaicaobepimaa
