/- Contracts of package track and of the reference's, and the walks of the statements on names and on tracks. No conditions but the ones that stand in each. -/
import Derived.Test.YtoaoofiaiiedlaaQuiet
import Derived.Test.YtoaoofiaiiedlaaRows
namespace Go.Proofs.Ytoaoofiaiiedlaa
open Go.RowKit

set_option maxHeartbeats 1000000 in
theorem LNames (w : World) : Calls Try.prog 3 #[] w fun e w' => e = .returned (.bool true) ∧ Ext w w' := by
  go_enter Try.func3, Try.ntmps3
  go_wp2
  go_ret
  exact ⟨rfl, Ext.refl _⟩

/-- A packet. -/
structure Pkt where
  proto : Int
  frm : Int
  sport : Int
  to_ : Int
  dport : Int
  ttl : Int
  id : Int
  flags : Int
  seq : Int
  ack : Int
  win : Int
  body : ByteArray
abbrev Pkt.v (p : Pkt) : Value := .agg #[.int .i64 p.proto, .int .i64 p.frm, .int .i64 p.sport, .int .i64 p.to_, .int .i64 p.dport, .int .i64 p.ttl, .int .i64 p.id, .int .i64 p.flags, .int .i64 p.seq, .int .i64 p.ack, .int .i64 p.win, .string p.body]

/-- Does a packet begin a flow? -/
def begB (proto flags : Int) : Bool :=
  if proto = 1 then flags == 8 else if proto = 6 then flags / 2 % 2 == 1 && flags % 2 == 0 && flags / 4 % 2 == 0 && flags / 16 % 2 == 0 else proto == 17

theorem and23 (f : Int) (h0 : 0 ≤ f) (h1 : f ≤ 63) : (bits .and .i64 f 23 == 2) = (f / 2 % 2 == 1 && f % 2 == 0 && f / 4 % 2 == 0 && f / 16 % 2 == 0) := by
  have key : ∀ n : Fin 64, (bits .and .i64 (n.val : Int) 23 == 2) = ((n.val : Int) / 2 % 2 == 1 && (n.val : Int) % 2 == 0 && (n.val : Int) / 4 % 2 == 0 && (n.val : Int) / 16 % 2 == 0) := by decide
  have := key ⟨f.toNat, by omega⟩
  simpa [Int.toNat_of_nonneg h0] using this

theorem begB_1 (p : Pkt) (h : (p.proto == 1) = true) : begB p.proto p.flags = (p.flags == 8) := by
  unfold begB; rw [if_pos (by simpa using h)]
theorem begB_6 (p : Pkt) (h : (p.proto == 1) = false) (h6 : (p.proto == 6) = true) : begB p.proto p.flags = (p.flags / 2 % 2 == 1 && p.flags % 2 == 0 && p.flags / 4 % 2 == 0 && p.flags / 16 % 2 == 0) := by
  unfold begB; rw [if_neg (by simpa using h), if_pos (by simpa using h6)]
theorem begB_17 (p : Pkt) (h : (p.proto == 1) = false) (h6 : (p.proto == 6) = false) : begB p.proto p.flags = (p.proto == 17) := by
  unfold begB; rw [if_neg (by simpa using h), if_neg (by simpa using h6)]


set_option maxHeartbeats 400000 in
theorem Begins_any (p : Pkt) (w : World) (h0 : 0 ≤ p.flags) (h1 : p.flags ≤ 63) :
    Calls Try.prog 28 #[p.v] w fun e w' => e = .returned (.bool (begB p.proto p.flags)) ∧ Ext w w' := by
  have hA := Lib.hid (and23 p.flags h0 h1)
  cases e1 : (p.proto == 1)
  · cases e6 : (p.proto == 6)
    · have hB := Lib.hid (begB_17 p e1 e6)
      go_enter Try.func28, Try.ntmps28
      go_wp2
      go_ret
      exact ⟨ret_bool hB.out.symm, Ext.alloc _ _⟩
    · have hB := Lib.hid ((begB_6 p e1 e6).trans hA.out.symm)
      go_enter Try.func28, Try.ntmps28
      go_wp2
      go_ret
      exact ⟨ret_bool hB.out.symm, Ext.alloc _ _⟩
  · have hB := Lib.hid (begB_1 p e1)
    go_enter Try.func28, Try.ntmps28
    go_wp2
    go_ret
    exact ⟨ret_bool hB.out.symm, Ext.alloc _ _⟩

def firstN (proto : Int) : Int := if proto = 6 then 1 else 2
set_option maxHeartbeats 400000 in
theorem First_any (p : Pkt) (w : World) :
    Calls Try.prog 30 #[p.v] w fun e w' => e = .returned (.int .i64 (firstN p.proto)) ∧ Ext w w' := by
  go_enter Try.func30, Try.ntmps30
  go_wp2
  all_goals go_ret
  all_goals exact ⟨ret_int (by simp only [beq_iff_eq, beq_eq_false_iff_ne] at *; unfold firstN; split <;> omega), Ext.alloc _ _⟩

def lifeN (proto state : Int) : Int := if proto = 1 then 8 else if proto = 17 then 20 else if state = 2 then 60 else if state = 1 then 4 else 6
theorem lifeN_bd (proto state : Int) : 4 ≤ lifeN proto state ∧ lifeN proto state ≤ 60 := by
  unfold lifeN; (repeat' split) <;> omega
set_option maxHeartbeats 400000 in
theorem Life_any (p s : Int) (w : World) :
    Calls Try.prog 34 #[.int .i64 p, .int .i64 s] w fun e w' => e = .returned (.int .i64 (lifeN p s)) ∧ w' = w := by
  go_enter Try.func34, Try.ntmps34
  go_wp2
  all_goals go_ret
  all_goals exact ⟨ret_int (by simp only [beq_iff_eq, beq_eq_false_iff_ne] at *; unfold lifeN; (repeat' split) <;> omega), rfl⟩

set_option maxHeartbeats 400000 in
theorem LifeR_any (p s : Int) (w : World) :
    Calls Try.prog 35 #[.int .i64 p, .int .i64 s] w fun e w' => e = .returned (.int .i64 (lifeN p s)) ∧ w' = w := by
  go_enter Try.func35, Try.ntmps35
  go_wp2
  all_goals go_ret
  all_goals exact ⟨ret_int (by simp only [beq_iff_eq, beq_eq_false_iff_ne] at *; unfold lifeN; (repeat' split) <;> omega), rfl⟩

set_option maxHeartbeats 400000 in
theorem FirstR_any (p : Pkt) (w : World) :
    Calls Try.prog 31 #[p.v] w fun e w' => e = .returned (.int .i64 (firstN p.proto)) ∧ Ext w w' := by
  go_enter Try.func31, Try.ntmps31
  go_wp2
  all_goals go_ret
  all_goals exact ⟨ret_int (by simp only [beq_iff_eq, beq_eq_false_iff_ne] at *; unfold firstN; split <;> omega), Ext.alloc _ _⟩

theorem tmod_nn (a : Int) (h : 0 ≤ a) : a.tmod 2 = a % 2 := Int.tmod_eq_emod_of_nonneg h
set_option maxHeartbeats 400000 in
theorem BeginsR1_any (g : Nat) (f b : Int) (w : World) (h0 : 0 ≤ f) (h1 : f ≤ 63) (hb : 1 ≤ b) (hb2 : b ≤ 16) (hc : w.cell? ⟨g, 7, none⟩ = some (.int .i64 f)) :
    Calls Try.prog 51 #[.int .i64 b, .pointer (some ⟨g, 0, none⟩)] w fun e w' => e = .returned (.bool (f / b % 2 == 1)) ∧ w' = w := by
  have h2 : 0 ≤ f / b := Int.ediv_nonneg h0 (by omega)
  have h3 : f / b ≤ f := Int.ediv_le_self _ h0
  have hne : (b == 0) = false := by simp; omega
  go_enter Try.func51, Try.ntmps51
  go_wp2
  go_ret
  exact ⟨rfl, rfl⟩

set_option maxHeartbeats 2000000 in
theorem BeginsR_any (p : Pkt) (w : World) (h0 : 0 ≤ p.flags) (h1 : p.flags ≤ 63) :
    Calls Try.prog 29 #[p.v] w fun e w' => e = .returned (.bool (begB p.proto p.flags)) ∧ Ext w w' := by
  cases e17 : (p.proto == 17)
  · cases e1 : (p.proto == 1)
    · cases e6 : (p.proto == 6)
      · go_enter Try.func29, Try.ntmps29
        go_wp2_with (go_at_call 51; refine (BeginsR1_any _ p.flags _ _ h0 h1 (by omega) (by omega) (by simp)).mono ?_; rintro e w' ⟨rfl, rfl⟩)
        go_ret
        exact ⟨ret_bool (by simp at *; unfold begB; first | (simp [*]; done) | (simp [*]; omega)), Ext.alloc _ _⟩
      · cases c2 : (p.flags / 2 % 2 == 1)
        · go_enter Try.func29, Try.ntmps29
          go_wp2_with (go_at_call 51; refine (BeginsR1_any _ p.flags _ _ h0 h1 (by omega) (by omega) (by simp)).mono ?_; rintro e w' ⟨rfl, rfl⟩)
          go_ret
          exact ⟨ret_bool (by simp at *; unfold begB; first | (simp [*]; done) | (simp [*]; omega)), Ext.alloc _ _⟩
        · have d1 : p.flags / 1 = p.flags := Int.ediv_one _
          cases c1 : (p.flags % 2 == 1)
          · cases c4 : (p.flags / 4 % 2 == 1)
            · cases c16 : (p.flags / 16 % 2 == 1)
              · go_enter Try.func29, Try.ntmps29
                go_wp2_with (go_at_call 51; refine (BeginsR1_any _ p.flags _ _ h0 h1 (by omega) (by omega) (by simp)).mono ?_; rintro e w' ⟨rfl, rfl⟩)
                go_ret
                exact ⟨ret_bool (by simp at *; unfold begB; first | (simp [*]; done) | (simp [*]; omega)), Ext.alloc _ _⟩
              · go_enter Try.func29, Try.ntmps29
                go_wp2_with (go_at_call 51; refine (BeginsR1_any _ p.flags _ _ h0 h1 (by omega) (by omega) (by simp)).mono ?_; rintro e w' ⟨rfl, rfl⟩)
                go_ret
                exact ⟨ret_bool (by simp at *; unfold begB; first | (simp [*]; done) | (simp [*]; omega)), Ext.alloc _ _⟩
            · go_enter Try.func29, Try.ntmps29
              go_wp2_with (go_at_call 51; refine (BeginsR1_any _ p.flags _ _ h0 h1 (by omega) (by omega) (by simp)).mono ?_; rintro e w' ⟨rfl, rfl⟩)
              go_ret
              exact ⟨ret_bool (by simp at *; unfold begB; first | (simp [*]; done) | (simp [*]; omega)), Ext.alloc _ _⟩
          · go_enter Try.func29, Try.ntmps29
            go_wp2_with (go_at_call 51; refine (BeginsR1_any _ p.flags _ _ h0 h1 (by omega) (by omega) (by simp)).mono ?_; rintro e w' ⟨rfl, rfl⟩)
            go_ret
            exact ⟨ret_bool (by simp at *; unfold begB; first | (simp [*]; done) | (simp [*]; omega)), Ext.alloc _ _⟩
    · have e6 : (p.proto == 6) = false := by simp at e1 ⊢; omega
      cases e8 : (p.flags == 8)
      · go_enter Try.func29, Try.ntmps29
        go_wp2_with (go_at_call 51; refine (BeginsR1_any _ p.flags _ _ h0 h1 (by omega) (by omega) (by simp)).mono ?_; rintro e w' ⟨rfl, rfl⟩)
        go_ret
        exact ⟨ret_bool (by simp at *; unfold begB; first | (simp [*]; done) | (simp [*]; omega)), Ext.alloc _ _⟩
      · go_enter Try.func29, Try.ntmps29
        go_wp2_with (go_at_call 51; refine (BeginsR1_any _ p.flags _ _ h0 h1 (by omega) (by omega) (by simp)).mono ?_; rintro e w' ⟨rfl, rfl⟩)
        go_ret
        exact ⟨ret_bool (by simp at *; unfold begB; first | (simp [*]; done) | (simp [*]; omega)), Ext.alloc _ _⟩
  · have e1 : (p.proto == 1) = false := by simp at e17 ⊢; omega
    have e6 : (p.proto == 6) = false := by simp at e17 ⊢; omega
    go_enter Try.func29, Try.ntmps29
    go_wp2_with (go_at_call 51; refine (BeginsR1_any _ p.flags _ _ h0 h1 (by omega) (by omega) (by simp)).mono ?_; rintro e w' ⟨rfl, rfl⟩)
    go_ret
    exact ⟨ret_bool (by simp at *; unfold begB; first | (simp [*]; done) | (simp [*]; omega)), Ext.alloc _ _⟩
end Go.Proofs.Ytoaoofiaiiedlaa
