/- Numbers as bytes, put behind a row. No conditions but the ones that stand in each. -/
import Derived.Test.YtogckmommodmhaaGreatDoorRb
import Derived.Test.YtogckmommodmhaaGreatDoorB0
namespace Go.Proofs.YtogckmommodmhaaGreatDoor
set_option linter.all false
set_option linter.unusedSimpArgs false
open Go.RowKit

structure rPutI where
  k : Nat
  l : List UInt8
theorem rput_gs (gl : Nat → AV) (l : List UInt8) (v : Int) (n : Nat) (hn : n ≤ 8) (hl : l.length ≤ 100000000) :
    GS Tryz.prog gl 122 [.sl 1 0 0 l.length l.length, .int .i64 v, .int .i64 n] [(0, .cells (byts l))] 1 (.sl 1 1 0 (l.length + n) (l.length + n)) [(1, .cells (byts (l ++ be v n)))] 2 := by
  refine ft_put.gs (of_decide_eq_true rfl) (by simp [Bk.live]) fun c hgh hg => ?_
  unfold T_put
  (refine XG ?_; ((try (repeat' with_reducible refine And.intro ?_ ?_)); (try any_goals (first | refine zm ?_ | exact CL | fail))))
  refine loop_ruleG (fun x : rPutI => x.k ≤ n ∧ x.l ++ be v x.k = l ++ be v n) (fun x => ⟨[(0, .sl 1 1 0 x.l.length x.l.length), (1, .int .i64 v), (7, .int .i64 ((x.k : Int) - 1))], [(1, .cells (byts x.l))], 2⟩) (fun x => x.k) ft_put.mixed 1 hgh
    ⟨⟨n, l⟩, ⟨Nat.le_refl _, rfl⟩, [(1, 0)], by (refine XG ?_; ((try (repeat' with_reducible refine And.intro ?_ ?_)); (try any_goals (first | refine zm ?_ | exact CL | fail))))⟩ fun ⟨k, l'⟩ ⟨hk, he⟩ => ?_
  dsimp only at hk he
  (refine XG ?_; ((try (repeat' with_reducible refine And.intro ?_ ?_)); (try any_goals (first | refine zm ?_ | exact CL | fail))))
  have hll : l'.length + k = l.length + n := by
    have := congrArg List.length he
    simpa [be_len] using this
  (refine xw_ifp (fun h1 => ?_) (fun h1 => ?_) <;> try exact h1.elim)
  · obtain ⟨k, rfl⟩ : ∃ j, k = j + 1 := ⟨k - 1, by omega⟩
    have e1 : (((k + 1 : Nat) : Int) - 1) = k := by omega
    rw [e1] at h1 ⊢
    (refine XG ?_; ((try (repeat' with_reducible refine And.intro ?_ ?_)); (try any_goals (first | refine zm ?_ | exact CL | fail))))
    ((first | apply pr_app | apply prD_app | apply pr_bsl | apply prD_bsl | apply pr_s2b | apply prD_s2b); (refine XG ?_; ((try (repeat' with_reducible refine And.intro ?_ ?_)); (try any_goals (first | refine zm ?_ | exact CL | fail)))))
    ((first | apply pr_app | apply prD_app | apply pr_bsl | apply prD_bsl | apply pr_s2b | apply prD_s2b); (refine XG ?_; ((try (repeat' with_reducible refine And.intro ?_ ?_)); (try any_goals (first | refine zm ?_ | exact CL | fail)))))
    refine ⟨⟨k, l' ++ [byteI v k]⟩, ⟨by dsimp only; omega, ?_⟩, ⟨[(1, 3)], ?_⟩, by dsimp only; omega⟩
    · simpa [be] using he
    · (refine XG ?_; ((try (repeat' with_reducible refine And.intro ?_ ?_)); (try any_goals (first | refine zm ?_ | exact CL | fail))))
      rfl
  · have hk0 : k = 0 := by omega
    subst hk0
    simp only [be, List.append_nil] at he
    subst he
    (refine XG ?_; ((try (repeat' with_reducible refine And.intro ?_ ?_)); (try any_goals (first | refine zm ?_ | exact CL | fail))))
    refine ⟨[], ?_⟩
    (have zf1 := @be_len; refine XG ?_; clear zf1; ((try (repeat' with_reducible refine And.intro ?_ ?_)); (try any_goals (first | refine zm ?_ | exact CL | fail))))

structure rPutN where
  k : Nat
  l : Option (List UInt8)
theorem rput_nil_gs (gl : Nat → AV) (v : Int) (n : Nat) (hn : n ≤ 8) (h0 : 0 < n) :
    GS Tryz.prog gl 122 [.nils, .int .i64 v, .int .i64 n] [] 0 (.sl 1 0 0 n n) [(0, .cells (byts (be v n)))] 1 := by
  refine ft_put.gs (of_decide_eq_true rfl) (by simp) fun c hgh hg => ?_
  unfold T_put
  (refine XG ?_; ((try (repeat' with_reducible refine And.intro ?_ ?_)); (try any_goals (first | refine zm ?_ | exact CL | fail))))
  refine loop_ruleG (fun x : rPutN => x.k ≤ n ∧ (x.l.getD []) ++ be v x.k = be v n ∧ (x.l = none → x.k = n)) (fun x => match x.l with | none => ⟨[(0, .nils), (1, .int .i64 v), (7, .int .i64 ((x.k : Int) - 1))], [], 0⟩ | some l => ⟨[(0, .sl 1 0 0 l.length l.length), (1, .int .i64 v), (7, .int .i64 ((x.k : Int) - 1))], [(0, .cells (byts l))], 1⟩) (fun x => x.k) ft_put.mixed 0 hgh
    ⟨⟨n, none⟩, ⟨Nat.le_refl _, rfl, fun _ => rfl⟩, [], by (refine XG ?_; ((try (repeat' with_reducible refine And.intro ?_ ?_)); (try any_goals (first | refine zm ?_ | exact CL | fail))))⟩ fun ⟨k, o⟩ ⟨hk, he, hno⟩ => ?_
  cases o with
  | none =>
    dsimp only at hk he hno
    obtain rfl := hno rfl
    (refine XG ?_; ((try (repeat' with_reducible refine And.intro ?_ ?_)); (try any_goals (first | refine zm ?_ | exact CL | fail))))
    (refine xw_ifp (fun h1 => ?_) (fun h1 => ?_) <;> try exact h1.elim)
    · obtain ⟨k, rfl⟩ : ∃ j, k = j + 1 := ⟨k - 1, by omega⟩
      have e1 : (((k + 1 : Nat) : Int) - 1) = k := by omega
      rw [e1] at h1 ⊢
      (refine XG ?_; ((try (repeat' with_reducible refine And.intro ?_ ?_)); (try any_goals (first | refine zm ?_ | exact CL | fail))))
      ((first | apply pr_app | apply prD_app | apply pr_bsl | apply prD_bsl | apply pr_s2b | apply prD_s2b); (refine XG ?_; ((try (repeat' with_reducible refine And.intro ?_ ?_)); (try any_goals (first | refine zm ?_ | exact CL | fail)))))
      ((first | apply pr_app | apply prD_app | apply pr_bsl | apply prD_bsl | apply pr_s2b | apply prD_s2b); (refine XG ?_; ((try (repeat' with_reducible refine And.intro ?_ ?_)); (try any_goals (first | refine zm ?_ | exact CL | fail)))))
      refine ⟨⟨k, some [byteI v k]⟩, ⟨by dsimp only; omega, ?_, fun h => by cases h⟩, ⟨[(0, 1)], ?_⟩, by dsimp only; omega⟩
      · simp [be]
      · (refine XG ?_; ((try (repeat' with_reducible refine And.intro ?_ ?_)); (try any_goals (first | refine zm ?_ | exact CL | fail))))
        exact byts_snocW [] _ []
    · omega
  | some l' =>
    dsimp only [Option.getD_some] at hk he hno
    have hll : l'.length + k = n := by
      have := congrArg List.length he
      simpa [be_len] using this
    (refine XG ?_; ((try (repeat' with_reducible refine And.intro ?_ ?_)); (try any_goals (first | refine zm ?_ | exact CL | fail))))
    (refine xw_ifp (fun h1 => ?_) (fun h1 => ?_) <;> try exact h1.elim)
    · obtain ⟨k, rfl⟩ : ∃ j, k = j + 1 := ⟨k - 1, by omega⟩
      have e1 : (((k + 1 : Nat) : Int) - 1) = k := by omega
      rw [e1] at h1 ⊢
      (refine XG ?_; ((try (repeat' with_reducible refine And.intro ?_ ?_)); (try any_goals (first | refine zm ?_ | exact CL | fail))))
      ((first | apply pr_app | apply prD_app | apply pr_bsl | apply prD_bsl | apply pr_s2b | apply prD_s2b); (refine XG ?_; ((try (repeat' with_reducible refine And.intro ?_ ?_)); (try any_goals (first | refine zm ?_ | exact CL | fail)))))
      ((first | apply pr_app | apply prD_app | apply pr_bsl | apply prD_bsl | apply pr_s2b | apply prD_s2b); (refine XG ?_; ((try (repeat' with_reducible refine And.intro ?_ ?_)); (try any_goals (first | refine zm ?_ | exact CL | fail)))))
      refine ⟨⟨k, some (l' ++ [byteI v k])⟩, ⟨by dsimp only; omega, ?_, fun h => by cases h⟩, ⟨[(0, 2)], ?_⟩, by dsimp only; omega⟩
      · simpa [be] using he
      · (refine XG ?_; ((try (repeat' with_reducible refine And.intro ?_ ?_)); (try any_goals (first | refine zm ?_ | exact CL | fail))))
        rfl
    · have hk0 : k = 0 := by omega
      subst hk0
      simp only [be, List.append_nil] at he
      subst he
      (refine XG ?_; ((try (repeat' with_reducible refine And.intro ?_ ?_)); (try any_goals (first | refine zm ?_ | exact CL | fail))))
      refine ⟨[], ?_⟩
      (have zf1 := @be_len; refine XG ?_; clear zf1; ((try (repeat' with_reducible refine And.intro ?_ ?_)); (try any_goals (first | refine zm ?_ | exact CL | fail))))
end Go.Proofs.YtogckmommodmhaaGreatDoor
