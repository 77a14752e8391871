/- The small functions of wire. No conditions but the ones that stand in each. -/
import Derived.Test.YtblimjilinkmbaaWb
import Derived.Test.YtblimjilinkmbaaP1
namespace Go.Proofs.Ytblimjilinkmbaa
set_option linter.all false
set_option linter.unusedSimpArgs false
open Go.RowKit

theorem all_snoc {α : Type} (p : α → Bool) (l : List α) (d : α) (k : Nat) (h : k < l.length) : (l.take (k + 1)).all p = ((l.take k).all p && p (l.getD k d)) := by
  have e : l.take (k + 1) = l.take k ++ [l.getD k d] := by
    rw [List.take_add_one, List.getElem?_eq_getElem h]; simp [List.getD, h]
  rw [e, List.all_append]; simp
theorem all_cut {α : Type} (p : α → Bool) (l : List α) (d : α) (k : Nat) (h : k < l.length) (hn : p (l.getD k d) = false) : l.all p = false := by
  rw [List.all_eq_false]
  refine ⟨l.getD k d, ?_, by rw [hn]; decide⟩
  simp only [List.getD, List.getElem?_eq_getElem h, Option.getD_some]; exact List.getElem_mem h
def inW (hi n : Int) : Bool := decide (0 ≤ n) && decide (n ≤ hi)
theorem word_ps (gl : Nat → AV) (l : List Int) (hl : l.length ≤ 100) : PS Try.prog gl 33 [.isl l.length (ints l)] (.bool (l.all (inW 65535))) := by
  refine ft_wword.ps (of_decide_eq_true rfl) (by simp [nmOk]) fun c hN hg => ?_
  unfold T_wword
  (refine XG ?_; ((try (repeat' with_reducible refine And.intro ?_ ?_)); (try any_goals (first | refine zm ?_ | exact CL | fail))))
  refine loop_rule (fun k : Nat => k ≤ l.length ∧ (l.take k).all (inW 65535) = true) (fun k => ⟨[(5, .isl l.length (ints l)), (6, .int .i64 l.length), (7, .int .i64 k)], [], 0⟩) (fun k => l.length - k) ft_wword.mixed hN
    ⟨0, by simp, [], by (refine XG ?_; ((try (repeat' with_reducible refine And.intro ?_ ?_)); (try any_goals (first | refine zm ?_ | exact CL | fail))))⟩ fun k hk => ?_
  obtain ⟨hk, ha⟩ := hk
  (refine XG ?_; ((try (repeat' with_reducible refine And.intro ?_ ?_)); (try any_goals (first | refine zm ?_ | exact CL | fail))))
  (refine xw_ifp (fun h1 => ?_) (fun h1 => ?_) <;> try exact h1.elim)
  · have hs := all_snoc (inW 65535) l 0 k (by omega)
    have hcut := all_cut (inW 65535) l 0 k (by omega)
    (refine XG ?_; ((try (repeat' with_reducible refine And.intro ?_ ?_)); (try any_goals (first | refine zm ?_ | exact CL | fail))))
    generalize l.getD k 0 = x at *
    (refine xw_ifp (fun h2 => ?_) (fun h2 => ?_) <;> try exact h2.elim)
    · (refine XG ?_; ((try (repeat' with_reducible refine And.intro ?_ ?_)); (try any_goals (first | refine zm ?_ | exact CL | fail))))
      refine (hcut ?_).symm
      unfold inW; simp; omega
    · (refine XG ?_; ((try (repeat' with_reducible refine And.intro ?_ ?_)); (try any_goals (first | refine zm ?_ | exact CL | fail))))
      refine ⟨k + 1, ⟨by omega, ?_⟩, ⟨[], ?_⟩, by omega⟩
      · rw [hs, ha]; unfold inW; simp; omega
      · omega
  · have : k = l.length := by omega
    subst this
    (refine XG ?_; ((try (repeat' with_reducible refine And.intro ?_ ?_)); (try any_goals (first | refine zm ?_ | exact CL | fail))))
    rw [List.take_length] at ha; exact ha.symm
theorem long_ps (gl : Nat → AV) (l : List Int) (hl : l.length ≤ 100) : PS Try.prog gl 32 [.isl l.length (ints l)] (.bool (l.all (inW 4294967295))) := by
  refine ft_wlong.ps (of_decide_eq_true rfl) (by simp [nmOk]) fun c hN hg => ?_
  unfold T_wlong
  (refine XG ?_; ((try (repeat' with_reducible refine And.intro ?_ ?_)); (try any_goals (first | refine zm ?_ | exact CL | fail))))
  refine loop_rule (fun k : Nat => k ≤ l.length ∧ (l.take k).all (inW 4294967295) = true) (fun k => ⟨[(5, .isl l.length (ints l)), (6, .int .i64 l.length), (7, .int .i64 k)], [], 0⟩) (fun k => l.length - k) ft_wlong.mixed hN
    ⟨0, by simp, [], by (refine XG ?_; ((try (repeat' with_reducible refine And.intro ?_ ?_)); (try any_goals (first | refine zm ?_ | exact CL | fail))))⟩ fun k hk => ?_
  obtain ⟨hk, ha⟩ := hk
  (refine XG ?_; ((try (repeat' with_reducible refine And.intro ?_ ?_)); (try any_goals (first | refine zm ?_ | exact CL | fail))))
  (refine xw_ifp (fun h1 => ?_) (fun h1 => ?_) <;> try exact h1.elim)
  · have hs := all_snoc (inW 4294967295) l 0 k (by omega)
    have hcut := all_cut (inW 4294967295) l 0 k (by omega)
    (refine XG ?_; ((try (repeat' with_reducible refine And.intro ?_ ?_)); (try any_goals (first | refine zm ?_ | exact CL | fail))))
    generalize l.getD k 0 = x at *
    (refine xw_ifp (fun h2 => ?_) (fun h2 => ?_) <;> try exact h2.elim)
    · (refine XG ?_; ((try (repeat' with_reducible refine And.intro ?_ ?_)); (try any_goals (first | refine zm ?_ | exact CL | fail))))
      refine (hcut ?_).symm
      unfold inW; simp; omega
    · (refine XG ?_; ((try (repeat' with_reducible refine And.intro ?_ ?_)); (try any_goals (first | refine zm ?_ | exact CL | fail))))
      refine ⟨k + 1, ⟨by omega, ?_⟩, ⟨[], ?_⟩, by omega⟩
      · rw [hs, ha]; unfold inW; simp; omega
      · omega
  · have : k = l.length := by omega
    subst this
    (refine XG ?_; ((try (repeat' with_reducible refine And.intro ?_ ?_)); (try any_goals (first | refine zm ?_ | exact CL | fail))))
    rw [List.take_length] at ha; exact ha.symm
def sizesT (p : Int) : AV := if p = 1 then .tup [.int .i64 8, .int .i64 2] else if p = 17 then .tup [.int .i64 8, .int .i64 6] else if p = 6 then .tup [.int .i64 20, .int .i64 16] else .tup [.int .i64 0, .int .i64 0]
theorem sizes_ps (gl : Nat → AV) (p : Int) : PS Try.prog gl 38 [.int .i64 p] (sizesT p) := by
  refine ft_wsizes.ps (of_decide_eq_true rfl) (by unfold sizesT; split <;> (try split) <;> (try split) <;> simp [nmOk, nmAll]) fun c hN hg => ?_
  unfold T_wsizes
  (refine XG ?_; ((try (repeat' with_reducible refine And.intro ?_ ?_)); (try any_goals (first | refine zm ?_ | exact CL | fail))))
  (refine xw_ifp (fun h1 => ?_) (fun h1 => ?_) <;> try exact h1.elim)
  · (refine XG ?_; ((try (repeat' with_reducible refine And.intro ?_ ?_)); (try any_goals (first | refine zm ?_ | exact CL | fail))))
    unfold sizesT; rw [if_pos h1]
  · (refine XG ?_; ((try (repeat' with_reducible refine And.intro ?_ ?_)); (try any_goals (first | refine zm ?_ | exact CL | fail))))
    (refine xw_ifp (fun h2 => ?_) (fun h2 => ?_) <;> try exact h2.elim)
    · (refine XG ?_; ((try (repeat' with_reducible refine And.intro ?_ ?_)); (try any_goals (first | refine zm ?_ | exact CL | fail))))
      unfold sizesT; rw [if_neg h1, if_pos h2]
    · (refine XG ?_; ((try (repeat' with_reducible refine And.intro ?_ ?_)); (try any_goals (first | refine zm ?_ | exact CL | fail))))
      (refine xw_ifp (fun h3 => ?_) (fun h3 => ?_) <;> try exact h3.elim)
      · (refine XG ?_; ((try (repeat' with_reducible refine And.intro ?_ ?_)); (try any_goals (first | refine zm ?_ | exact CL | fail))))
        unfold sizesT; rw [if_neg h1, if_neg h2, if_pos h3]
      · (refine XG ?_; ((try (repeat' with_reducible refine And.intro ?_ ?_)); (try any_goals (first | refine zm ?_ | exact CL | fail))))
        unfold sizesT; rw [if_neg h1, if_neg h2, if_neg h3]
def noT (e : Int) : AV := .tup [.agg pk0.enc, .int .i64 e]
theorem no_gs (gl : Nat → AV) (e : Int) : GS Try.prog gl 36 [.int .i64 e] [] 0 (noT e) [] 0 := by
  refine ft_wno.gs (of_decide_eq_true rfl) (by simp) fun c hgh hg => ?_
  unfold T_wno noT pk0 Pk.enc
  (refine XG ?_; ((try (repeat' with_reducible refine And.intro ?_ ?_)); (try any_goals (first | refine zm ?_ | exact CL | fail))))
  refine ⟨[], ?_⟩
  (refine XG ?_; ((try (repeat' with_reducible refine And.intro ?_ ?_)); (try any_goals (first | refine zm ?_ | exact CL | fail))))
theorem number_ps (gl : Nat → AV) (l : List UInt8) (hl : l.length ≤ 100000000) : PS Try.prog gl 37 [.str l] (.int .i64 (nbI l)) := by
  refine ft_wnumber.ps (of_decide_eq_true rfl) (by simp [nmOk]) fun c hN hg => ?_
  unfold T_wnumber
  (refine XG ?_; ((try (repeat' with_reducible refine And.intro ?_ ?_)); (try any_goals (first | refine zm ?_ | exact CL | fail))))
  ((first | apply pr_app | apply prD_app | apply pr_bsl | apply prD_bsl | apply pr_s2b | apply prD_s2b); (refine XG ?_; ((try (repeat' with_reducible refine And.intro ?_ ?_)); (try any_goals (first | refine zm ?_ | exact CL | fail)))))
  refine loop_rule (fun k : Nat => k ≤ l.length) (fun k => ⟨[(3, .int .i64 (nbI (l.take k))), (7, .sl 1 0 0 l.length l.length), (8, .int .i64 l.length), (9, .int .i64 k)], [(0, .cells (byts l))], 1⟩) (fun k => l.length - k) ft_wnumber.mixed hN
    ⟨0, by omega, [], by (refine XG ?_; ((try (repeat' with_reducible refine And.intro ?_ ?_)); (try any_goals (first | refine zm ?_ | exact CL | fail)))) <;> rfl⟩ fun k hk => ?_
  (refine XG ?_; ((try (repeat' with_reducible refine And.intro ?_ ?_)); (try any_goals (first | refine zm ?_ | exact CL | fail))))
  (refine xw_ifp (fun h1 => ?_) (fun h1 => ?_) <;> try exact h1.elim)
  · have hs := nbI_succ l k (by omega)
    have ho := or_low (nbI (l.take k)) (l.getD k 0).toNat (by omega) (by have := UInt8.toNat_lt (l.getD k 0); omega)
    have hb := UInt8.toNat_lt (l.getD k 0)
    (refine XG ?_; ((try (repeat' with_reducible refine And.intro ?_ ?_)); (try any_goals (first | refine zm ?_ | exact CL | fail))))
    refine ⟨k + 1, by omega, ⟨[], ?_⟩, by omega⟩
    (have zf1 := @hs; refine XG ?_; clear zf1; ((try (repeat' with_reducible refine And.intro ?_ ?_)); (try any_goals (first | refine zm ?_ | exact CL | fail))))
    have m3 : (2 : Int) ^ min 8 64 = 256 := by decide
    rw [m3, ho]
  · have : k = l.length := by omega
    subst this
    (refine XG ?_; ((try (repeat' with_reducible refine And.intro ?_ ?_)); (try any_goals (first | refine zm ?_ | exact CL | fail))))
theorem numberOf_ps (gl : Nat → AV) (l : List UInt8) (hl : l.length ≤ 100000000) : PS Try.prog gl 39 [.str l] (.int .i64 (nbI l)) := by
  refine ft_rnumber.ps (of_decide_eq_true rfl) (by simp [nmOk]) fun c hN hg => ?_
  unfold T_rnumber
  (refine XG ?_; ((try (repeat' with_reducible refine And.intro ?_ ?_)); (try any_goals (first | refine zm ?_ | exact CL | fail))))
  ((first | apply pr_app | apply prD_app | apply pr_bsl | apply prD_bsl | apply pr_s2b | apply prD_s2b); (refine XG ?_; ((try (repeat' with_reducible refine And.intro ?_ ?_)); (try any_goals (first | refine zm ?_ | exact CL | fail)))))
  refine loop_rule (fun k : Nat => k ≤ l.length) (fun k => ⟨[(3, .int .i64 (nbI (l.take k))), (7, .sl 1 0 0 l.length l.length), (8, .int .i64 l.length), (9, .int .i64 k)], [(0, .cells (byts l))], 1⟩) (fun k => l.length - k) ft_rnumber.mixed hN
    ⟨0, by omega, [], by (refine XG ?_; ((try (repeat' with_reducible refine And.intro ?_ ?_)); (try any_goals (first | refine zm ?_ | exact CL | fail)))) <;> rfl⟩ fun k hk => ?_
  (refine XG ?_; ((try (repeat' with_reducible refine And.intro ?_ ?_)); (try any_goals (first | refine zm ?_ | exact CL | fail))))
  (refine xw_ifp (fun h1 => ?_) (fun h1 => ?_) <;> try exact h1.elim)
  · have hs := nbI_succ l k (by omega)
    (refine XG ?_; ((try (repeat' with_reducible refine And.intro ?_ ?_)); (try any_goals (first | refine zm ?_ | exact CL | fail))))
    refine ⟨k + 1, by omega, ⟨[], ?_⟩, by omega⟩
    (have zf1 := @hs; refine XG ?_; clear zf1; ((try (repeat' with_reducible refine And.intro ?_ ?_)); (try any_goals (first | refine zm ?_ | exact CL | fail))))
    rw [IntKind.wrap_i64, IntKind.wrap_i64, IntKind.wrap_i64, IntKind.wrap_i64]
    omega
  · have : k = l.length := by omega
    subst this
    (refine XG ?_; ((try (repeat' with_reducible refine And.intro ?_ ?_)); (try any_goals (first | refine zm ?_ | exact CL | fail))))
structure PutI where
  k : Nat
  l : List UInt8
theorem put_gs (gl : Nat → AV) (l : List UInt8) (v : Int) (n : Nat) (hn : n ≤ 8) (hl : l.length ≤ 100000000) :
    GS Try.prog gl 24 [.sl 1 0 0 l.length l.length, .int .i64 v, .int .i64 n] [(0, .cells (byts l))] 1 (.sl 1 1 0 (l.length + n) (l.length + n)) [(1, .cells (byts (l ++ be v n)))] 2 := by
  refine ft_wput.gs (of_decide_eq_true rfl) (by simp [Bk.live]) fun c hgh hg => ?_
  unfold T_wput
  (refine XG ?_; ((try (repeat' with_reducible refine And.intro ?_ ?_)); (try any_goals (first | refine zm ?_ | exact CL | fail))))
  refine loop_ruleG (fun x : PutI => x.k ≤ n ∧ x.l ++ be v x.k = l ++ be v n) (fun x => ⟨[(0, .sl 1 1 0 x.l.length x.l.length), (1, .int .i64 v), (7, .int .i64 ((x.k : Int) - 1))], [(1, .cells (byts x.l))], 2⟩) (fun x => x.k) ft_wput.mixed 1 hgh
    ⟨⟨n, l⟩, ⟨Nat.le_refl _, rfl⟩, [(1, 0)], by (refine XG ?_; ((try (repeat' with_reducible refine And.intro ?_ ?_)); (try any_goals (first | refine zm ?_ | exact CL | fail))))⟩ fun ⟨k, l'⟩ ⟨hk, he⟩ => ?_
  dsimp only at hk he
  (refine XG ?_; ((try (repeat' with_reducible refine And.intro ?_ ?_)); (try any_goals (first | refine zm ?_ | exact CL | fail))))
  have hll : l'.length + k = l.length + n := by
    have := congrArg List.length he
    simpa [be_len] using this
  (refine xw_ifp (fun h1 => ?_) (fun h1 => ?_) <;> try exact h1.elim)
  · obtain ⟨k, rfl⟩ : ∃ j, k = j + 1 := ⟨k - 1, by omega⟩
    have e1 : (((k + 1 : Nat) : Int) - 1) = k := by omega
    rw [e1] at h1 ⊢
    (refine XG ?_; ((try (repeat' with_reducible refine And.intro ?_ ?_)); (try any_goals (first | refine zm ?_ | exact CL | fail))))
    ((first | apply pr_app | apply prD_app | apply pr_bsl | apply prD_bsl | apply pr_s2b | apply prD_s2b); (refine XG ?_; ((try (repeat' with_reducible refine And.intro ?_ ?_)); (try any_goals (first | refine zm ?_ | exact CL | fail)))))
    ((first | apply pr_app | apply prD_app | apply pr_bsl | apply prD_bsl | apply pr_s2b | apply prD_s2b); (refine XG ?_; ((try (repeat' with_reducible refine And.intro ?_ ?_)); (try any_goals (first | refine zm ?_ | exact CL | fail)))))
    refine ⟨⟨k, l' ++ [byteI v k]⟩, ⟨by dsimp only; omega, ?_⟩, ⟨[(1, 3)], ?_⟩, by dsimp only; omega⟩
    · simpa [be] using he
    · (refine XG ?_; ((try (repeat' with_reducible refine And.intro ?_ ?_)); (try any_goals (first | refine zm ?_ | exact CL | fail))))
      rfl
  · have hk0 : k = 0 := by omega
    subst hk0
    simp only [be, List.append_nil] at he
    subst he
    (refine XG ?_; ((try (repeat' with_reducible refine And.intro ?_ ?_)); (try any_goals (first | refine zm ?_ | exact CL | fail))))
    refine ⟨[], ?_⟩
    (have zf1 := @be_len; refine XG ?_; clear zf1; ((try (repeat' with_reducible refine And.intro ?_ ?_)); (try any_goals (first | refine zm ?_ | exact CL | fail))))

structure PutN where
  k : Nat
  l : Option (List UInt8)
theorem put_nil_gs (gl : Nat → AV) (v : Int) (n : Nat) (hn : n ≤ 8) (h0 : 0 < n) :
    GS Try.prog gl 24 [.nils, .int .i64 v, .int .i64 n] [] 0 (.sl 1 0 0 n n) [(0, .cells (byts (be v n)))] 1 := by
  refine ft_wput.gs (of_decide_eq_true rfl) (by simp) fun c hgh hg => ?_
  unfold T_wput
  (refine XG ?_; ((try (repeat' with_reducible refine And.intro ?_ ?_)); (try any_goals (first | refine zm ?_ | exact CL | fail))))
  refine loop_ruleG (fun x : PutN => x.k ≤ n ∧ (x.l.getD []) ++ be v x.k = be v n ∧ (x.l = none → x.k = n)) (fun x => match x.l with | none => ⟨[(0, .nils), (1, .int .i64 v), (7, .int .i64 ((x.k : Int) - 1))], [], 0⟩ | some l => ⟨[(0, .sl 1 0 0 l.length l.length), (1, .int .i64 v), (7, .int .i64 ((x.k : Int) - 1))], [(0, .cells (byts l))], 1⟩) (fun x => x.k) ft_wput.mixed 0 hgh
    ⟨⟨n, none⟩, ⟨Nat.le_refl _, rfl, fun _ => rfl⟩, [], by (refine XG ?_; ((try (repeat' with_reducible refine And.intro ?_ ?_)); (try any_goals (first | refine zm ?_ | exact CL | fail))))⟩ fun ⟨k, o⟩ ⟨hk, he, hno⟩ => ?_
  cases o with
  | none =>
    dsimp only at hk he hno
    obtain rfl := hno rfl
    (refine XG ?_; ((try (repeat' with_reducible refine And.intro ?_ ?_)); (try any_goals (first | refine zm ?_ | exact CL | fail))))
    (refine xw_ifp (fun h1 => ?_) (fun h1 => ?_) <;> try exact h1.elim)
    · obtain ⟨k, rfl⟩ : ∃ j, k = j + 1 := ⟨k - 1, by omega⟩
      have e1 : (((k + 1 : Nat) : Int) - 1) = k := by omega
      rw [e1] at h1 ⊢
      (refine XG ?_; ((try (repeat' with_reducible refine And.intro ?_ ?_)); (try any_goals (first | refine zm ?_ | exact CL | fail))))
      ((first | apply pr_app | apply prD_app | apply pr_bsl | apply prD_bsl | apply pr_s2b | apply prD_s2b); (refine XG ?_; ((try (repeat' with_reducible refine And.intro ?_ ?_)); (try any_goals (first | refine zm ?_ | exact CL | fail)))))
      ((first | apply pr_app | apply prD_app | apply pr_bsl | apply prD_bsl | apply pr_s2b | apply prD_s2b); (refine XG ?_; ((try (repeat' with_reducible refine And.intro ?_ ?_)); (try any_goals (first | refine zm ?_ | exact CL | fail)))))
      refine ⟨⟨k, some [byteI v k]⟩, ⟨by dsimp only; omega, ?_, fun h => by cases h⟩, ⟨[(0, 1)], ?_⟩, by dsimp only; omega⟩
      · simp [be]
      · (refine XG ?_; ((try (repeat' with_reducible refine And.intro ?_ ?_)); (try any_goals (first | refine zm ?_ | exact CL | fail))))
        exact byts_snocW [] _ []
    · omega
  | some l' =>
    dsimp only [Option.getD_some] at hk he hno
    have hll : l'.length + k = n := by
      have := congrArg List.length he
      simpa [be_len] using this
    (refine XG ?_; ((try (repeat' with_reducible refine And.intro ?_ ?_)); (try any_goals (first | refine zm ?_ | exact CL | fail))))
    (refine xw_ifp (fun h1 => ?_) (fun h1 => ?_) <;> try exact h1.elim)
    · obtain ⟨k, rfl⟩ : ∃ j, k = j + 1 := ⟨k - 1, by omega⟩
      have e1 : (((k + 1 : Nat) : Int) - 1) = k := by omega
      rw [e1] at h1 ⊢
      (refine XG ?_; ((try (repeat' with_reducible refine And.intro ?_ ?_)); (try any_goals (first | refine zm ?_ | exact CL | fail))))
      ((first | apply pr_app | apply prD_app | apply pr_bsl | apply prD_bsl | apply pr_s2b | apply prD_s2b); (refine XG ?_; ((try (repeat' with_reducible refine And.intro ?_ ?_)); (try any_goals (first | refine zm ?_ | exact CL | fail)))))
      ((first | apply pr_app | apply prD_app | apply pr_bsl | apply prD_bsl | apply pr_s2b | apply prD_s2b); (refine XG ?_; ((try (repeat' with_reducible refine And.intro ?_ ?_)); (try any_goals (first | refine zm ?_ | exact CL | fail)))))
      refine ⟨⟨k, some (l' ++ [byteI v k])⟩, ⟨by dsimp only; omega, ?_, fun h => by cases h⟩, ⟨[(0, 2)], ?_⟩, by dsimp only; omega⟩
      · simpa [be] using he
      · (refine XG ?_; ((try (repeat' with_reducible refine And.intro ?_ ?_)); (try any_goals (first | refine zm ?_ | exact CL | fail))))
        rfl
    · have hk0 : k = 0 := by omega
      subst hk0
      simp only [be, List.append_nil] at he
      subst he
      (refine XG ?_; ((try (repeat' with_reducible refine And.intro ?_ ?_)); (try any_goals (first | refine zm ?_ | exact CL | fail))))
      refine ⟨[], ?_⟩
      (have zf1 := @be_len; refine XG ?_; clear zf1; ((try (repeat' with_reducible refine And.intro ?_ ?_)); (try any_goals (first | refine zm ?_ | exact CL | fail))))


theorem byteI_eq (v : Int) (k : Nat) (hk : k ≤ 8) : byteI v k = UInt8.ofNat ((v / 256 ^ k) % 256).toNat := by
  unfold byteI
  rw [IntKind.wrap_u8]
  have e : min (8 * (k : Int)).toNat 64 = 8 * k := by omega
  rw [e, Int.fdiv_eq_ediv_of_nonneg _ (Int.pow_nonneg (by decide))]
  have e2 : (2 : Int) ^ (8 * k) = 256 ^ k := by rw [Int.pow_mul]; rfl
  rw [e2]
theorem ediv_step (v : Int) (j : Nat) : v / 256 ^ j / 256 = v / 256 ^ (j + 1) := by
  rw [Int.ediv_ediv_of_nonneg (Int.pow_nonneg (by decide)), Int.pow_succ]
theorem ediv_bd (v : Int) (h0 : 0 ≤ v) (j : Nat) : 0 ≤ v / 256 ^ j ∧ v / 256 ^ j ≤ v := by
  have hp : (0 : Int) < 256 ^ j := Int.pow_pos (by decide)
  exact ⟨Int.ediv_nonneg h0 (by omega), Int.ediv_le_self _ h0⟩
theorem bytesOf_ps (gl : Nat → AV) (v : Int) (n : Nat) (h0 : 0 ≤ v) (h1 : v ≤ 9223372036854775807) (hn : n ≤ 8) :
    PS Try.prog gl 28 [.int .i64 v, .int .i64 n] (.str (be v n)) := by
  refine ft_rbytes.ps (of_decide_eq_true rfl) (by simp [nmOk]) fun c hN hg => ?_
  unfold T_rbytes
  (refine XG ?_; ((try (repeat' with_reducible refine And.intro ?_ ?_)); (try any_goals (first | refine zm ?_ | exact CL | fail))))
  refine loop_rule (fun j : Nat => j ≤ n) (fun j => ⟨[(0, .int .i64 (v / 256 ^ j)), (1, .int .i64 ((n - j : Nat) : Int)), (5, .str (be v j))], [], 0⟩) (fun j => n - j) ft_rbytes.mixed hN
    ⟨0, by omega, [], by (refine XG ?_; ((try (repeat' with_reducible refine And.intro ?_ ?_)); (try any_goals (first | refine zm ?_ | exact CL | fail)))); simp [be]⟩ fun j hj => ?_
  (refine XG ?_; ((try (repeat' with_reducible refine And.intro ?_ ?_)); (try any_goals (first | refine zm ?_ | exact CL | fail))))
  obtain ⟨b0, b1⟩ := ediv_bd v h0 j
  (refine xw_ifp (fun h2 => ?_) (fun h2 => ?_) <;> try exact h2.elim)
  · (refine XG ?_; ((try (repeat' with_reducible refine And.intro ?_ ?_)); (try any_goals (first | refine zm ?_ | exact CL | fail))))
    ((first | apply pr_app | apply prD_app | apply pr_bsl | apply prD_bsl | apply pr_s2b | apply prD_s2b); (have zf1 := @be_len; refine XG ?_; clear zf1; ((try (repeat' with_reducible refine And.intro ?_ ?_)); (try any_goals (first | refine zm ?_ | exact CL | fail)))))
    · intro x hx
      rw [List.mem_singleton] at hx
      subst hx; exact rfl
    · simp only [toB, List.map_cons, List.map_nil, List.length_cons, List.length_nil]; omega
    have e1 : (v / 256 ^ j).tdiv 256 = v / 256 ^ (j + 1) := by rw [Int.tdiv_eq_ediv_of_nonneg b0, ediv_step]
    have e2 : (v / 256 ^ j).tmod 256 = (v / 256 ^ j) % 256 := Int.tmod_eq_emod_of_nonneg b0
    obtain ⟨c0, c1⟩ := ediv_bd v h0 (j + 1)
    refine ⟨j + 1, by omega, ⟨[], ?_⟩, by omega⟩
    rw [e1, e2]
    refine ⟨by rw [IntKind.wrap_i64]; omega, by omega, ?_⟩
    simp only [be, byteI_eq v j (by omega)]
    simp only [toB, asI, IntKind.wrap_u8, List.map_cons, List.map_nil, List.cons_append, List.nil_append, Int.emod_emod]
  · have : j = n := by omega
    subst this
    (refine XG ?_; ((try (repeat' with_reducible refine And.intro ?_ ?_)); (try any_goals (first | refine zm ?_ | exact CL | fail))))


end Go.Proofs.Ytblimjilinkmbaa
