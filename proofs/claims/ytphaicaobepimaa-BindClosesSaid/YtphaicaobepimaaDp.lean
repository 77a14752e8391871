/- What Open and Close do to a good table. No conditions but the ones that stand in each. -/
import Derived.Test.YtphaicaobepimaaDo
namespace Go.Proofs.Ytphaicaobepimaa
set_option linter.all false
set_option linter.unusedSimpArgs false
open Go.RowKit

theorem isFwd_self (m : Mp) : isFwd m.proto m.s m.inn m = true := by simp [isFwd]
theorem isBack_self (m : Mp) : isBack m.proto m.a m.port m = true := by simp [isBack]
theorem klash_fwd {m o : Mp} (h : isFwd m.proto m.s m.inn o = true) : klash o m = true := by
  unfold isFwd at h; unfold klash
  simp at h ⊢
  exact ⟨h.1.1.symm, Or.inr ⟨h.1.2.symm, h.2.symm⟩⟩
theorem klash_back {m o : Mp} (h : isBack m.proto m.a m.port o = true) : klash o m = true := by
  unfold isBack at h; unfold klash
  simp at h ⊢
  exact ⟨h.1.1.symm, Or.inl ⟨h.1.2.symm, h.2.symm⟩⟩
theorem apart_eq {l : List Mp} (h : l.Pairwise fun x y => klash x y = false) {x y : Mp} (hx : x ∈ l) (hy : y ∈ l) (hk : klash x y = true) : x = y := by
  obtain ⟨i, hi, rfl⟩ := List.getElem_of_mem hx
  obtain ⟨j, hj, rfl⟩ := List.getElem_of_mem hy
  have hp := List.pairwise_iff_getElem.1 h
  rcases Nat.lt_trichotomy i j with hij | rfl | hij
  · have := hp i j hi hj hij; rw [this] at hk; cases hk
  · rfl
  · have := hp j i hj hi hij; rw [klash_comm, this] at hk; cases hk
theorem find_one {l : List Mp} (p : Mp → Bool) (m : Mp) (hm : m ∈ l) (hp : p m = true) (hu : ∀ o ∈ l, p o = true → o = m) : l.find? p = some m := by
  cases h : l.find? p with
  | none => exact absurd hp (by have := List.find?_eq_none.1 h m hm; simpa using this)
  | some o => rw [hu o (List.mem_of_find?_eq_some h) (List.find?_some h)]
theorem GT.fwd {t : Tb} (h : GT t) {m : Mp} (hm : m ∈ t.maps) : t.maps.find? (isFwd m.proto m.s m.inn) = some m :=
  find_one _ m hm (isFwd_self m) fun o ho hp => apart_eq h.apart ho hm (klash_fwd hp)
theorem GT.back {t : Tb} (h : GT t) {m : Mp} (hm : m ∈ t.maps) : t.maps.find? (isBack m.proto m.a m.port) = some m :=
  find_one _ m hm (isBack_self m) fun o ho hp => apart_eq h.apart ho hm (klash_back hp)
theorem klash_no {l : List Mp} {m : Mp} (h1 : l.find? (isFwd m.proto m.s m.inn) = none) (h2 : l.find? (isBack m.proto m.a m.port) = none) : ∀ o ∈ l, klash o m = false := by
  intro o ho
  have h1 := List.find?_eq_none.1 h1 o ho
  have h2 := List.find?_eq_none.1 h2 o ho
  cases hk : klash o m with
  | false => rfl
  | true =>
    exfalso
    unfold klash at hk
    unfold isFwd at h1
    unfold isBack at h2
    simp at hk h1 h2
    rcases hk with ⟨hp, ⟨ha, hq⟩ | ⟨ha, hq⟩⟩
    · exact h2 hp.symm ha.symm hq.symm
    · exact h1 hp.symm ha.symm hq.symm

/-- What Open may have done. -/
inductive Opened (t : Tb) (proto : Int) (S : Nat) (inn : Int) : Tb × Mp × Bool × Int → Prop
  | no (e : Int) (he : e ≠ 0) : Opened t proto S inn (t, mp0, false, e)
  | old (m : Mp) (hf : t.maps.find? (isFwd proto S inn) = some m) : Opened t proto S inn (t, m, false, 0)
  | own (port : Int) (hf : t.maps.find? (isFwd proto S inn) = none) (hok : mapOk t ⟨proto, S, inn, t.hom S - 1, port⟩) (hb : t.maps.find? (isBack proto (t.hom S - 1) port) = none) (hn : manyOf t.maps S < 12) :
      Opened t proto S inn (t.add ⟨proto, S, inn, t.hom S - 1, port⟩, ⟨proto, S, inn, t.hom S - 1, port⟩, false, 0)
  | new (b k : Nat) (hf : t.maps.find? (isFwd proto S inn) = none) (hb : b < 3) (hk : k < 6) (hz : t.pool.ow b k = 0) (hh : t.hom S = 0 ∨ t.hom S = b + 1) (hc : cntB t.pool.own S ≤ 1) (hd : t.pool.dra b = false) (hn : manyOf t.maps S < 12) :
      Opened t proto S inn ((⟨t.pool.put b k (S + 1), t.home.set S (b + 1), t.maps⟩ : Tb).add ⟨proto, S, inn, b, 1024 + (k : Int) * 8⟩, ⟨proto, S, inn, b, 1024 + (k : Int) * 8⟩, true, 0)
theorem blk_port {q i : Nat} (hq : q < 6) (hi : i < 8) : inPort (1024 + (q : Int) * 8 + i) = true ∧ blkOf' (1024 + (q : Int) * 8 + i) = q := by
  have h : inPort (1024 + (q : Int) * 8 + i) = true := by unfold inPort; simp; omega
  refine ⟨h, ?_⟩
  unfold blkOf'
  rw [if_pos h]; omega
theorem opened_tk {t : Tb} (h : GT t) (hw : t.wf) {proto : Int} {S : Nat} {inn : Int} (hf : t.maps.find? (isFwd proto S inn) = none) (hn : manyOf t.maps S < 12) (a draw : Int) (hh : t.hom S = 0 ∨ t.hom S = a + 1) (hc : cntB t.pool.own S ≤ 1) : Opened t proto S inn (t.tk proto S inn a draw) := by
  have htk := taken t.pool hw.pool S a draw
  unfold Tb.tk
  generalize t.pool.take S a draw = x at *
  cases htk with
  | no e he => rw [if_pos he]; exact .no e he
  | yes b k ha hb hk _ _ _ hd _ ho =>
    rw [if_neg (by simp)]
    subst ha
    exact .new b k hf hb hk ho (by omega) hc hd hn
theorem opened {t : Tb} (h : GT t) (hw : t.wf) {proto : Int} {S : Nat} {inn : Int} (hkn : knownB proto S inn = true) (draw : Int) : Opened t proto S inn (t.opn proto S inn draw) := by
  have hgb : ¬ (goodB t = false ∨ knownB proto S inn = false) := by
    rw [(goodB_iff t).2 (goodT_GT.2 h), hkn]; simp
  obtain ⟨_, ⟨_, hS8⟩, _⟩ := known_bd hkn
  unfold Tb.opn
  rw [if_neg hgb]
  cases hf : t.maps.find? (isFwd proto S inn) with
  | some m => exact .old m hf
  | none =>
    dsimp only
    split
    · exact .no 6 (by decide)
    rename_i hn
    have hn : manyOf t.maps S < 12 := by omega
    rw [Int.toNat_natCast]
    cases hff : firstFree t proto (t.hom S - 1) (ownL t S) with
    | some port =>
      dsimp only
      unfold firstFree at hff
      have hm := List.mem_of_find?_eq_some hff
      have hfr := List.find?_some hff
      obtain ⟨q, hq, hp⟩ := List.mem_flatMap.1 hm
      have h1 : 1 ≤ t.hom S := by
        rcases Int.lt_or_le (t.hom S) 1 with h2 | h2
        · have e : ownL t S = [] := if_neg (by omega)
          rw [e] at hq; cases hq
        · exact h2
      have e : ownL t S = ownB t S 6 := if_pos h1
      rw [e] at hq
      unfold ownB at hq
      obtain ⟨hq6, hqo⟩ := List.mem_filter.1 hq
      have hq6 := List.mem_range.1 hq6
      unfold blkPorts at hp
      obtain ⟨i, hi, rfl⟩ := List.mem_map.1 hp
      have hi := List.mem_range.1 hi
      obtain ⟨b1, b2⟩ := blk_port hq6 hi
      have h3 := (h.homeOk S)
      have hho : t.pool.ow (t.hom S - 1).toNat q = (S : Int) + 1 := by simpa using hqo
      have h3 : t.hom S ≤ 3 := by
        obtain ⟨x, hx⟩ := List.exists_mem_of_ne_nil _ (show ownL t S ≠ [] by rw [e]; intro h0; unfold ownB at h0; rw [h0] at hq; cases hq)
        have hcp : 0 < cntB t.pool.own S := by
          rw [cnt_own (h.homeOk S) hw, List.length_pos_iff]; intro h0; rw [h0] at hx; cases hx
        unfold cntB at hcp
        obtain ⟨o, ho, he⟩ := List.countP_pos_iff.1 hcp
        obtain ⟨j, hj, rfl⟩ := List.getElem_of_mem ho
        have hj18 : j < 18 := by have := hw.pool.own; omega
        exact (h.homeOk S j hj18 (by rw [List.getD_eq_getElem?_getD, List.getElem?_eq_getElem hj]; simpa using he)).2.2
      refine .own _ hf ⟨⟨hkn, b1, by show 0 ≤ t.hom S - 1; omega, by show t.hom S - 1 < 3; omega⟩, ?_, ?_⟩ ?_ hn
      · show t.hom (S : Int).toNat = t.hom S - 1 + 1
        rw [Int.toNat_natCast]; omega
      · show t.pool.ow (t.hom S - 1).toNat (blkOf' _).toNat = (S : Int) + 1
        rw [b2, Int.toNat_natCast]; exact hho
      · unfold freeP at hfr
        simpa using hfr
    | none =>
      dsimp only
      split
      · exact .no 6 (by decide)
      rename_i h2
      have hc : cntB t.pool.own S ≤ 1 := by rw [cnt_own (h.homeOk S) hw]; omega
      split
      · rename_i h1
        exact opened_tk h hw hf hn _ draw (by omega) hc
      · rename_i h1
        have h0 : t.hom S = 0 := by
          have := Tb.hom_bd (goodT_GT.2 h) hw (s := S) (by omega)
          omega
        split
        · rename_i hp
          exact .no _ hp
        · exact opened_tk h hw hf hn _ draw (.inl h0) hc
/-- The table stays good. -/
theorem Opened.good {t : Tb} (h : GT t) (hw : t.wf) {proto : Int} {S : Nat} {inn : Int} (hkn : knownB proto S inn = true) {x : Tb × Mp × Bool × Int} (ho : Opened t proto S inn x) : GT x.1 := by
  obtain ⟨_, ⟨_, hS8⟩, _⟩ := known_bd hkn
  cases ho with
  | no e he => exact h
  | old m hf => exact h
  | own port hf hok hb hn => exact h.add hok (klash_no hf hb) hn
  | new b k hf hb hk hz hh hc hd hn =>
    obtain ⟨b1, b2⟩ := blk_port (i := 0) hk (by omega)
    rw [show (1024 + (k : Int) * 8 + (0 : Nat)) = 1024 + (k : Int) * 8 by omega] at b1 b2
    refine h.take hw hb hk (by omega) hz hh hc rfl rfl (by show (blkOf' (1024 + (k : Int) * 8)).toNat = k; rw [b2]; omega) ⟨hkn, b1, by show 0 ≤ (b : Int); omega, by show (b : Int) < 3; omega⟩ (klash_no hf ?_) hn
    rw [List.find?_eq_none]
    intro o ho' hp
    unfold isBack at hp
    simp at hp
    have hok := h.maps o ho'
    have : mIdx o = b * 6 + k := by
      unfold mIdx; rw [hp.1.2, hp.2, b2]; omega
    exact (h.used _ (by omega)).2 ⟨o, ho', this⟩ hz
theorem Opened.wf {t : Tb} (hw : t.wf) {proto : Int} {S : Nat} {inn : Int} {x : Tb × Mp × Bool × Int} (ho : Opened t proto S inn x) : x.1.wf := by
  cases ho with
  | no e he => exact hw
  | old m hf => exact hw
  | own port hf hok hb hn => exact ⟨hw.pool, hw.home⟩
  | new b k hf hb hk hz hh hc hd hn => exact ⟨Pool.put_wf _ hw.pool _ _ _, by show (t.home.set _ _).length = 8; rw [List.length_set]; exact hw.home⟩
theorem GT.ok {t : Tb} (h : GT t) (hw : t.wf) : t.ok := by
  refine ⟨hw, fun m hm => ?_, by have := maps_le (goodT_GT.2 h); omega⟩
  have hok := h.maps m hm
  obtain ⟨h1, h2, h3⟩ := known_bd hok.1.1
  have h4 := hok.1.2
  have h5 := h4.1
  unfold inPort at h5
  simp only [Bool.and_eq_true, decide_eq_true_eq] at h5
  unfold MpB
  refine ⟨?_, ?_, ?_, ?_, ?_⟩ <;> omega
end Go.Proofs.Ytphaicaobepimaa
