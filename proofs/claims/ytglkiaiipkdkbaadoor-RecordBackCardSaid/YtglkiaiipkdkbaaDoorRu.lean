/- Messages that were told are read as they were: plain. No conditions but the ones that stand in each. -/
import Derived.Test.YtglkiaiipkdkbaaDoorRq
namespace Go.Proofs.YtglkiaiipkdkbaaDoor
set_option linter.all false
set_option linter.unusedSimpArgs false
open Go.RowKit

theorem cut_at (a b c : List UInt8) (k n : Nat) (ha : a.length = k) (hb : b.length = n) : ((a ++ (b ++ c)).drop k).take n = b := by
  subst ha; subst hb
  rw [List.drop_left, List.take_left]
theorem msg_parts (q t set : Int) (bs rest : List UInt8) :
    n2 (msgB q t set bs ++ rest) 0 = nbI (be 10 2) ∧ n2 (msgB q t set bs ++ rest) 2 = nbI (be (20 + bs.length) 2) ∧ n4 (msgB q t set bs ++ rest) 4 = nbI (be (t.tmod 4294967296) 4) ∧ n4 (msgB q t set bs ++ rest) 8 = nbI (be q 4) ∧
    n4 (msgB q t set bs ++ rest) 12 = nbI (be 1 4) ∧ n2 (msgB q t set bs ++ rest) 16 = nbI (be set 2) ∧ n2 (msgB q t set bs ++ rest) 18 = nbI (be (4 + bs.length) 2) := by
  have hl : ∀ (v : Int) (n : Nat), (be v n).length = n := fun v n => be_len v n
  unfold msgB n2 n4
  simp only [List.append_assoc]
  generalize e1 : be 10 2 = x1
  generalize e2 : be (20 + bs.length) 2 = x2
  generalize e3 : be (t.tmod 4294967296) 4 = x3
  generalize e4 : be q 4 = x4
  generalize e5 : be 1 4 = x5
  generalize e6 : be set 2 = x6
  generalize e7 : be (4 + bs.length) 2 = x7
  have l1 : x1.length = 2 := by rw [← e1, hl]
  have l2 : x2.length = 2 := by rw [← e2, hl]
  have l3 : x3.length = 4 := by rw [← e3, hl]
  have l4 : x4.length = 4 := by rw [← e4, hl]
  have l5 : x5.length = 4 := by rw [← e5, hl]
  have l6 : x6.length = 2 := by rw [← e6, hl]
  have l7 : x7.length = 2 := by rw [← e7, hl]
  refine ⟨?_, ?_, ?_, ?_, ?_, ?_, ?_⟩
  · have := cut_at [] x1 (x2 ++ (x3 ++ (x4 ++ (x5 ++ (x6 ++ (x7 ++ (bs ++ rest))))))) 0 2 rfl l1
    rw [List.nil_append] at this; rw [this]
  · rw [cut_at x1 x2 _ 2 2 l1 l2]
  · have := cut_at (x1 ++ x2) x3 (x4 ++ (x5 ++ (x6 ++ (x7 ++ (bs ++ rest))))) 4 4 (by simp [l1, l2]) l3
    simp only [List.append_assoc] at this; rw [this]
  · have := cut_at (x1 ++ (x2 ++ x3)) x4 (x5 ++ (x6 ++ (x7 ++ (bs ++ rest)))) 8 4 (by simp [l1, l2, l3]) l4
    simp only [List.append_assoc] at this; rw [this]
  · have := cut_at (x1 ++ (x2 ++ (x3 ++ x4))) x5 (x6 ++ (x7 ++ (bs ++ rest))) 12 4 (by simp [l1, l2, l3, l4]) l5
    simp only [List.append_assoc] at this; rw [this]
  · have := cut_at (x1 ++ (x2 ++ (x3 ++ (x4 ++ x5)))) x6 (x7 ++ (bs ++ rest)) 16 2 (by simp [l1, l2, l3, l4, l5]) l6
    simp only [List.append_assoc] at this; rw [this]
  · have := cut_at (x1 ++ (x2 ++ (x3 ++ (x4 ++ (x5 ++ x6))))) x7 (bs ++ rest) 18 2 (by simp [l1, l2, l3, l4, l5, l6]) l7
    simp only [List.append_assoc] at this; rw [this]
/-- A message, its numbers small. -/
structure MsgI (q t set : Int) (bs : List UInt8) : Prop where
  q0 : 0 ≤ q ∧ q < 4294967296
  t0 : 0 ≤ t ∧ t < 4294967296
  s0 : set = 2 ∨ set = 300
  b0 : bs.length ≤ 10000
theorem MsgI.nums {q t set : Int} {bs rest : List UInt8} (h : MsgI q t set bs) : n2 (msgB q t set bs ++ rest) 0 = 10 ∧ n2 (msgB q t set bs ++ rest) 2 = 20 + bs.length ∧ n4 (msgB q t set bs ++ rest) 4 = t ∧ n4 (msgB q t set bs ++ rest) 8 = q ∧
    n4 (msgB q t set bs ++ rest) 12 = 1 ∧ n2 (msgB q t set bs ++ rest) 16 = set ∧ n2 (msgB q t set bs ++ rest) 18 = 4 + bs.length := by
  obtain ⟨⟨q0, q1⟩, ⟨t0, t1⟩, s0, b0⟩ := h
  obtain ⟨p1, p2, p3, p4, p5, p6, p7⟩ := msg_parts q t set bs rest
  have et : t.tmod 4294967296 = t := by rw [Int.tmod_eq_emod_of_nonneg t0]; omega
  rw [p1, p2, p3, p4, p5, p6, p7, et]
  refine ⟨nbI_be _ _ (by decide) (by decide) (by decide) (by decide), nbI_be _ _ (by decide) (by omega) (by omega) (by omega), nbI_be _ _ (by decide) t0 (by omega) (by omega), nbI_be _ _ (by decide) q0 (by omega) (by omega),
    nbI_be _ _ (by decide) (by decide) (by decide) (by decide), nbI_be _ _ (by decide) (by omega) (by omega) (by omega), nbI_be _ _ (by decide) (by omega) (by omega) (by omega)⟩
theorem MsgI.ok {q t set : Int} {bs rest : List UInt8} (h : MsgI q t set bs) : msgB q t set bs ++ rest ≠ [] ∧ hdOk (msgB q t set bs ++ rest) ∧ setOk (msgB q t set bs ++ rest) ∧ msgN (msgB q t set bs ++ rest) = 20 + bs.length ∧
    (msgB q t set bs ++ rest).take (20 + bs.length) = msgB q t set bs ∧ (msgB q t set bs ++ rest).drop (20 + bs.length) = rest := by
  obtain ⟨p1, p2, p3, p4, p5, p6, p7⟩ := h.nums (rest := rest)
  have hl := msgB_len q t set bs
  have hs := h.s0
  refine ⟨fun e => ?_, ⟨?_, p1, by omega, ?_, p5⟩, ⟨by omega, by omega⟩, by unfold msgN; omega, ?_, ?_⟩
  · have := congrArg List.length e
    rw [List.length_append, hl] at this; simp at this
  · rw [List.length_append, hl]; omega
  · rw [List.length_append, hl]; omega
  · rw [← hl, List.take_left]
  · rw [← hl, List.drop_left]
theorem rd_tmpl (f : Nat) (k : Bool) (rest : List UInt8) : rdLogF (f + 1) [] k (msgB 0 0 2 (tmpl 6) ++ rest) = rdLogF f [] true rest := by
  have h : MsgI 0 0 2 (tmpl 6) := ⟨by decide, by decide, .inl rfl, by rw [tmpl_len 6 (by omega)]; decide⟩
  obtain ⟨a1, a2, a3, a4, a5, a6⟩ := h.ok (rest := rest)
  obtain ⟨_, _, _, p4, _, p6, _⟩ := h.nums (rest := rest)
  rw [rf5 a1 a2 a3 (by rw [p4]; rfl) p6 (by rw [a4, a5]; rfl), a4, a6]
/-- Events of one time, all of them good. -/
def oneT (t : Int) (p : List Ev) : Prop := ∀ e ∈ p, e.good ∧ e.t = t
theorem rdEvs_all {t : Int} (ht : t % 4294967296 = t) : ∀ (p l : List Ev), oneT t p → (l = [] ∨ lastT l ≤ t) → rdEvs t p.length l (evsB p) = some (l ++ p)
  | [], l, _, _ => by rw [List.append_nil]; rfl
  | e :: p, l, hp, hl => by
    obtain ⟨he, het⟩ := hp e (by simp)
    show rdEvs t (p.length + 1) l (evB e ++ evsB p) = _
    rw [rdEvs, rd_evB e he]
    have hc : e.t % 4294967296 = t ∧ (l = [] ∨ lastT l ≤ e.t) := by rw [het]; exact ⟨ht, hl⟩
    dsimp only
    rw [if_pos hc, show 21 = (evB e).length from (evB_len e).symm, List.drop_left]
    rw [rdEvs_all ht p (l ++ [e]) (fun x hx => hp x (by simp [hx])) (.inr ?_)]
    · rw [List.append_assoc]; rfl
    · unfold lastT
      rw [List.length_append]
      simp [het]
theorem rd_evs (f : Nat) (l p : List Ev) (t : Int) (rest : List UInt8) (ht : 0 ≤ t ∧ t < 4294967296) (hp : oneT t p) (h0 : p ≠ []) (h20 : p.length ≤ 400) (hq : l.length < 4000000) (hl : l = [] ∨ lastT l ≤ t) :
    rdLogF (f + 1) l true (msgB l.length t 300 (evsB p) ++ rest) = rdLogF f (l ++ p) true rest := by
  have hbl := evsB_len p
  have h : MsgI l.length t 300 (evsB p) := ⟨by omega, ht, .inr rfl, by omega⟩
  obtain ⟨a1, a2, a3, a4, a5, a6⟩ := h.ok (rest := rest)
  obtain ⟨_, _, p3, p4, _, p6, _⟩ := h.nums (rest := rest)
  have hpos : 0 < p.length := List.length_pos_iff.2 h0
  rw [rf8 a1 a2 a3 p4 (by rw [p6]; decide) rfl (by rw [a4]; omega), a4, a5, a6, p3]
  have e1 : (20 + (evsB p).length - 20) / 21 = p.length := by omega
  have e2 : (msgB l.length t 300 (evsB p)).drop 20 = evsB p := by
    unfold msgB
    have hh : (be 10 2 ++ be (20 + (evsB p).length) 2 ++ be (t.tmod 4294967296) 4 ++ be (l.length : Int) 4 ++ be 1 4 ++ be 300 2 ++ be (4 + (evsB p).length) 2).length = 20 := by simp [be_len]
    rw [show 20 = (be 10 2 ++ be (20 + (evsB p).length) 2 ++ be (t.tmod 4294967296) 4 ++ be (l.length : Int) 4 ++ be 1 4 ++ be 300 2 ++ be (4 + (evsB p).length) 2).length from hh.symm, List.drop_left]
  rw [e1, e2, rdEvs_all (by omega) p l hp hl]
theorem rd_short {f : Nat} {l : List Ev} {k : Bool} {s : List UInt8} (h0 : s ≠ []) (h : (s.length : Int) < n2 s 2) : rdLogF (f + 1) l k s = .error 1 := rf1 h0 fun hd => by have := hd.2.2.2.1; omega
/-- Fuel beyond the text's length is not needed. -/
theorem rd_fuel : ∀ (n : Nat) (f : Nat) (l : List Ev) (k : Bool) (s : List UInt8), s.length ≤ n → n ≤ f → rdLogF f l k s = rdLogF n l k s
  | 0, f, l, k, s, h, hf => by
    have : s = [] := List.eq_nil_of_length_eq_zero (by omega)
    subst this; rw [rf_nil, rf_nil]
  | n + 1, 0, l, k, s, h, hf => by omega
  | n + 1, f + 1, l, k, s, h, hf => by
    have ih := fun l k (s : List UInt8) hs => rd_fuel n f l k s hs (by omega)
    by_cases h0 : s = []
    · subst h0; rw [rf_nil, rf_nil]
    by_cases h1 : hdOk s
    rotate_left
    · rw [rf1 h0 h1, rf1 h0 h1]
    by_cases h2 : setOk s
    rotate_left
    · rw [rf2 h0 h1 h2, rf2 h0 h1 h2]
    by_cases h3 : n4 s 8 = l.length
    rotate_left
    · rw [rf3 h0 h1 h2 h3, rf3 h0 h1 h2 h3]
    have hn : 20 ≤ msgN s := by obtain ⟨_, _, a3, _, _⟩ := h1; unfold msgN; omega
    have hpos : 0 < s.length := List.length_pos_iff.2 h0
    by_cases h4 : n2 s 16 = 2
    · by_cases h5 : msgB l.length 0 2 (tmpl 6) = s.take (msgN s)
      · rw [rf5 h0 h1 h2 h3 h4 h5, rf5 h0 h1 h2 h3 h4 h5]
        exact ih _ _ _ (by rw [List.length_drop]; omega)
      · rw [rf4 h0 h1 h2 h3 h4 h5, rf4 h0 h1 h2 h3 h4 h5]
    cases k with
    | false => rw [rf6 h0 h1 h2 h3 h4 rfl, rf6 h0 h1 h2 h3 h4 rfl]
    | true =>
      by_cases h6 : msgN s = 20 ∨ (msgN s - 20) % 21 ≠ 0
      · rw [rf7 h0 h1 h2 h3 h4 rfl h6, rf7 h0 h1 h2 h3 h4 rfl h6]
      · rw [rf8 h0 h1 h2 h3 h4 rfl h6, rf8 h0 h1 h2 h3 h4 rfl h6]
        split
        · rfl
        · exact ih _ _ _ (by rw [List.length_drop]; omega)
/-- What was told so far: read, it says just these events; a byte less, it says nothing. -/
structure ToldI (cnt : Nat) (s : List UInt8) (all : List Ev) : Prop where
  read : ∀ f rest, rdLogF (cnt + f) [] false (s ++ rest) = rdLogF f all true rest
  cnt_le : cnt ≤ s.length
  last : ∃ (s1 ml : List UInt8) (l1 : List Ev) (k1 : Bool) (c1 : Nat), s = s1 ++ ml ∧ (∀ f rest, rdLogF (c1 + f) [] false (s1 ++ rest) = rdLogF f l1 k1 rest) ∧ c1 ≤ s1.length ∧ 20 ≤ ml.length ∧ n2 ml 2 = ml.length
theorem ToldI.ok {cnt : Nat} {s : List UInt8} {all : List Ev} (h : ToldI cnt s all) : rdLog s = .ok all := by
  have h1 := h.read 0 []
  rw [List.append_nil, rf_nil] at h1
  have h2 := rd_fuel s.length (cnt + s.length) [] false s (Nat.le_refl _) (by omega)
  have h3 := h.read s.length []
  rw [List.append_nil, rf_nil, h2] at h3
  exact h3
theorem ToldI.less {cnt : Nat} {s : List UInt8} {all : List Ev} (h : ToldI cnt s all) : rdLog (s.take (s.length - 1)) = .error 1 := by
  obtain ⟨s1, ml, l1, k1, c1, rfl, h1, h2, h3, h4⟩ := h.last
  have e : (s1 ++ ml).take ((s1 ++ ml).length - 1) = s1 ++ ml.take (ml.length - 1) := by
    rw [List.length_append, List.take_append, List.take_of_length_le (by omega)]
    congr 2; omega
  rw [e]
  have hl : (ml.take (ml.length - 1)).length = ml.length - 1 := by rw [List.length_take]; omega
  have h5 := h1 (s1.length + ml.length) (ml.take (ml.length - 1))
  have h6 := rd_fuel (s1 ++ ml.take (ml.length - 1)).length (c1 + (s1.length + ml.length)) [] false (s1 ++ ml.take (ml.length - 1)) (Nat.le_refl _) (by rw [List.length_append, hl]; omega)
  have h7 : rdLog (s1 ++ ml.take (ml.length - 1)) = rdLogF (s1.length + ml.length) l1 k1 (ml.take (ml.length - 1)) := by
    unfold rdLog; rw [← h6, h5]
  rw [h7]
  obtain ⟨g, hg⟩ : ∃ g, s1.length + ml.length = g + 1 := ⟨s1.length + ml.length - 1, by omega⟩
  rw [hg]
  refine rd_short (fun e => ?_) ?_
  · rw [e] at hl; simp at hl; omega
  · have : n2 (ml.take (ml.length - 1)) 2 = n2 ml 2 := n2_take ml (ml.length - 1) 2 (by omega)
    rw [this, h4, hl]; omega
theorem told_start : ToldI 1 (msgB 0 0 2 (tmpl 6)) [] := by
  have hl := msgB_len 0 0 2 (tmpl 6)
  have ht := tmpl_len 6 (by omega)
  have h : MsgI 0 0 2 (tmpl 6) := ⟨by decide, by decide, .inl rfl, by omega⟩
  refine ⟨fun f rest => by rw [Nat.add_comm]; exact rd_tmpl f false rest, by omega, [], msgB 0 0 2 (tmpl 6), [], false, 0, (List.nil_append _).symm, fun f rest => by rw [Nat.zero_add, List.nil_append], Nat.le_refl _, by omega, ?_⟩
  have := (h.nums (rest := [])).2.1
  rw [List.append_nil] at this
  rw [this, hl]; omega
theorem told_more {cnt : Nat} {s : List UInt8} {all p : List Ev} {t : Int} (h : ToldI cnt s all) (ht : 0 ≤ t ∧ t < 4294967296) (hp : oneT t p) (h0 : p ≠ []) (h20 : p.length ≤ 400) (hq : all.length < 4000000) (hl : all = [] ∨ lastT all ≤ t) :
    ToldI (cnt + 1) (s ++ msgB all.length t 300 (evsB p)) (all ++ p) := by
  have hml := msgB_len all.length t 300 (evsB p)
  have hbl := evsB_len p
  have hM : MsgI all.length t 300 (evsB p) := ⟨by omega, ht, .inr rfl, by omega⟩
  refine ⟨fun f rest => ?_, ?_, s, _, all, true, cnt, rfl, h.read, h.cnt_le, by omega, ?_⟩
  · rw [List.append_assoc, Nat.add_assoc, Nat.add_comm 1 f, h.read, rd_evs f all p t rest ht hp h0 h20 hq hl]
  · rw [List.length_append]; have := h.cnt_le; omega
  · have := (hM.nums (rest := [])).2.1
    rw [List.append_nil] at this
    rw [this, hml]; omega
/-- What is told of a list of events at a time: the good ones, at most twenty. -/
def goodAt (t : Int) (e : Ev) : Bool := goodE t e.s e.a e.b
def part (t : Int) : List Ev → List Ev → List Ev
  | p, [] => p
  | p, e :: l => if goodAt t e = true ∧ p.length < 20 then part t (p ++ [⟨t, e.s, e.a, e.b, e.f⟩]) l else part t p l
theorem part_ok {t : Int} : ∀ (l p : List Ev), oneT t p → p.length ≤ 20 → oneT t (part t p l) ∧ (part t p l).length ≤ 20
  | [], p, h, hl => ⟨h, hl⟩
  | e :: l, p, h, hl => by
    unfold part
    split
    · rename_i hc
      refine part_ok l _ (fun x hx => ?_) (by rw [List.length_append]; simp; omega)
      rcases List.mem_append.1 hx with hx | hx
      · exact h x hx
      · rw [List.mem_singleton] at hx
        subst hx
        exact ⟨(good_iff _).1 hc.1, rfl⟩
    · exact part_ok l p h hl
end Go.Proofs.YtglkiaiipkdkbaaDoor
