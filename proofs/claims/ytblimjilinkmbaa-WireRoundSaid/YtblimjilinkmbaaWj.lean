/- What is wrong with a frame, step by step. No conditions. -/
import Derived.Test.YtblimjilinkmbaaWi
namespace Go.Proofs.Ytblimjilinkmbaa
set_option linter.all false
set_option linter.unusedSimpArgs false
open Go.RowKit

def G1 (f : List UInt8) : Prop := f.length < 20 ∨ b1 f 0 ≠ 69 ∨ w2 f 2 ≠ f.length
def G2 (f : List UInt8) : Prop := ofN (f.take 20) ≠ 65535
def G3 (f : List UInt8) : Prop := b1 f 1 ≠ 0 ∨ w2 f 6 ≠ 0
def G4 (f : List UInt8) : Prop := b1 f 8 = 0
def G5 (f : List UInt8) : Prop := ¬ (b1 f 9 = 1 ∨ b1 f 9 = 6 ∨ b1 f 9 = 17)
def G6 (f : List UInt8) : Prop := (f.drop 20).length < (if b1 f 9 = 6 then 20 else 8)
def G7 (f : List UInt8) : Prop := ofN (preB (b1 f 9) (w4 f 12) (w4 f 16) (f.drop 20).length ++ f.drop 20) ≠ 65535 ∨ (b1 f 9 = 17 ∧ w2 (f.drop 20) 6 = 0)
def G8 (f : List UInt8) : Prop := b1 f 9 = 1 ∧ ((b1 (f.drop 20) 0 ≠ 8 ∧ b1 (f.drop 20) 0 ≠ 0) ∨ b1 (f.drop 20) 1 ≠ 0)
def G9 (f : List UInt8) : Prop := b1 f 9 = 17 ∧ w2 (f.drop 20) 4 ≠ (f.drop 20).length
def G10 (f : List UInt8) : Prop := b1 f 9 = 6 ∧ (b1 (f.drop 20) 12 ≠ 80 ∨ 63 < b1 (f.drop 20) 13 ∨ w2 (f.drop 20) 18 ≠ 0)
theorem rd1 {f : List UInt8} (h : G1 f) : rdE f = 1 := if_pos h
theorem rd2 {f : List UInt8} (h1 : ¬ G1 f) (h : G2 f) : rdE f = 3 := (if_neg h1).trans (if_pos h)
theorem rd3 {f : List UInt8} (h1 : ¬ G1 f) (h2 : ¬ G2 f) (h : G3 f) : rdE f = 4 := (if_neg h1).trans ((if_neg h2).trans (if_pos h))
theorem rd4 {f : List UInt8} (h1 : ¬ G1 f) (h2 : ¬ G2 f) (h3 : ¬ G3 f) (h : G4 f) : rdE f = 12 := (if_neg h1).trans ((if_neg h2).trans ((if_neg h3).trans (if_pos h)))
structure H4 (f : List UInt8) : Prop where
  g1 : ¬ G1 f
  g2 : ¬ G2 f
  g3 : ¬ G3 f
  g4 : ¬ G4 f
theorem rd5 {f : List UInt8} (k : H4 f) (h : G5 f) : rdE f = 4 := (if_neg k.g1).trans ((if_neg k.g2).trans ((if_neg k.g3).trans ((if_neg k.g4).trans (if_pos h))))
theorem rd6 {f : List UInt8} (k : H4 f) (h5 : ¬ G5 f) (h : G6 f) : rdE f = 1 := (if_neg k.g1).trans ((if_neg k.g2).trans ((if_neg k.g3).trans ((if_neg k.g4).trans ((if_neg h5).trans (if_pos h)))))
structure H6 (f : List UInt8) : Prop where
  g : H4 f
  g5 : ¬ G5 f
  g6 : ¬ G6 f
theorem rd7 {f : List UInt8} (k : H6 f) (h : G7 f) : rdE f = 3 := (if_neg k.g.g1).trans ((if_neg k.g.g2).trans ((if_neg k.g.g3).trans ((if_neg k.g.g4).trans ((if_neg k.g5).trans ((if_neg k.g6).trans (if_pos h))))))
theorem rd8 {f : List UInt8} (k : H6 f) (h7 : ¬ G7 f) (h : G8 f) : rdE f = 4 := (if_neg k.g.g1).trans ((if_neg k.g.g2).trans ((if_neg k.g.g3).trans ((if_neg k.g.g4).trans ((if_neg k.g5).trans ((if_neg k.g6).trans ((if_neg h7).trans (if_pos h)))))))
theorem rd9 {f : List UInt8} (k : H6 f) (h7 : ¬ G7 f) (h8 : ¬ G8 f) (h : G9 f) : rdE f = 1 := (if_neg k.g.g1).trans ((if_neg k.g.g2).trans ((if_neg k.g.g3).trans ((if_neg k.g.g4).trans ((if_neg k.g5).trans ((if_neg k.g6).trans ((if_neg h7).trans ((if_neg h8).trans (if_pos h))))))))
theorem rd10 {f : List UInt8} (k : H6 f) (h7 : ¬ G7 f) (h8 : ¬ G8 f) (h9 : ¬ G9 f) (h : G10 f) : rdE f = 4 := (if_neg k.g.g1).trans ((if_neg k.g.g2).trans ((if_neg k.g.g3).trans ((if_neg k.g.g4).trans ((if_neg k.g5).trans ((if_neg k.g6).trans ((if_neg h7).trans ((if_neg h8).trans ((if_neg h9).trans (if_pos h)))))))))
theorem rd11 {f : List UInt8} (k : H6 f) (h7 : ¬ G7 f) (h8 : ¬ G8 f) (h9 : ¬ G9 f) (h10 : ¬ G10 f) : rdE f = pkErr (rdK f) := (if_neg k.g.g1).trans ((if_neg k.g.g2).trans ((if_neg k.g.g3).trans ((if_neg k.g.g4).trans ((if_neg k.g5).trans ((if_neg k.g6).trans ((if_neg h7).trans ((if_neg h8).trans ((if_neg h9).trans (if_neg h10)))))))))
theorem b1_fold (l : List UInt8) (k : Nat) : ((l.getD k 0).toNat : Int) = b1 l k := rfl
theorem b1_bd (l : List UInt8) (k : Nat) : 0 ≤ b1 l k ∧ b1 l k ≤ 255 := by unfold b1; have := UInt8.toNat_lt (l.getD k 0); omega
theorem w2_bd (l : List UInt8) (k : Nat) (h : k + 2 ≤ l.length) : 0 ≤ w2 l k ∧ w2 l k ≤ 65535 := by unfold w2; have := nbI_b2 _ (cut_l l k 2 h); omega
theorem w4_bd (l : List UInt8) (k : Nat) (h : k + 4 ≤ l.length) : 0 ≤ w4 l k ∧ w4 l k ≤ 4294967295 := by unfold w4; have := nbI_b4 _ (cut_l l k 4 h); omega
theorem nw2 (gl : Nat → AV) (l : List UInt8) (k : Nat) : PS Try.prog gl 37 [.str ((l.drop k).take 2)] (.int .i64 (w2 l k)) := number_ps gl _ (by rw [List.length_take]; omega)
theorem nw4 (gl : Nat → AV) (l : List UInt8) (k : Nat) : PS Try.prog gl 37 [.str ((l.drop k).take 4)] (.int .i64 (w4 l k)) := number_ps gl _ (by rw [List.length_take]; omega)
theorem nr2 (gl : Nat → AV) (l : List UInt8) (k : Nat) : PS Try.prog gl 39 [.str ((l.drop k).take 2)] (.int .i64 (w2 l k)) := numberOf_ps gl _ (by rw [List.length_take]; omega)
theorem nr4 (gl : Nat → AV) (l : List UInt8) (k : Nat) : PS Try.prog gl 39 [.str ((l.drop k).take 4)] (.int .i64 (w4 l k)) := numberOf_ps gl _ (by rw [List.length_take]; omega)
end Go.Proofs.Ytblimjilinkmbaa
