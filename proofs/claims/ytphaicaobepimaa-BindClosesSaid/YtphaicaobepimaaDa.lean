/- Tables of maps, said plainly. No conditions but the ones that stand in each. -/
import Derived.Test.YtphaicaobepimaaQa
namespace Go.Proofs.Ytphaicaobepimaa
set_option linter.all false
set_option linter.unusedSimpArgs false
open Go.RowKit

structure Mp where
  proto : Int
  s : Int
  inn : Int
  a : Int
  port : Int
  deriving DecidableEq
def Mp.enc (m : Mp) : List AV := [.int .i64 m.proto, .int .i64 m.s, .int .i64 m.inn, .int .i64 m.a, .int .i64 m.port]
def mp0 : Mp := ⟨0, 0, 0, 0, 0⟩
def mps (l : List Mp) : List AV := l.flatMap Mp.enc
theorem mps_len (l : List Mp) : (mps l).length = l.length * 5 := by
  induction l with
  | nil => rfl
  | cons e l ih => simp [mps, Mp.enc] at ih ⊢; omega
theorem mps_cut (l : List Mp) (k : Nat) (h : k < l.length) : ((mps l).drop (k * 5)).take 5 = (l[k]).enc := by
  induction l generalizing k with
  | nil => simp at h
  | cons e l ih =>
    cases k with
    | zero => simp [mps, Mp.enc]
    | succ k =>
      have := ih k (by simpa using h)
      have e1 : mps (e :: l) = e.enc ++ mps l := by simp [mps]
      rw [e1, List.drop_append, List.drop_eq_nil_of_le (by simp [Mp.enc]; omega)]
      have e2 : (k + 1) * 5 - e.enc.length = k * 5 := by simp [Mp.enc]; omega
      rw [e2]; simpa using this
theorem mps_app (a b : List Mp) : mps a ++ mps b = mps (a ++ b) := by simp [mps]
theorem mps_snoc (l : List Mp) (m : Mp) : mps l ++ [.int .i64 m.proto, .int .i64 m.s, .int .i64 m.inn, .int .i64 m.a, .int .i64 m.port] = mps (l ++ [m]) := by simp [mps, Mp.enc]
theorem mps_take (l : List Mp) (k : Nat) (h : k ≤ l.length) : (mps l).take (k * 5) = mps (l.take k) := by
  have e : mps l = mps (l.take k) ++ mps (l.drop k) := by rw [mps_app, List.take_append_drop]
  rw [e, List.take_append_of_le_length (by rw [mps_len, List.length_take]; omega), List.take_of_length_le (by rw [mps_len, List.length_take]; omega)]
theorem mps_mem {l : List Mp} {x : AV} (h : x ∈ mps l) : ∃ n, x = .int .i64 n := by
  obtain ⟨e, _, he⟩ := List.mem_flatMap.1 h
  simp [Mp.enc] at he
  rcases he with rfl | rfl | rfl | rfl | rfl <;> exact ⟨_, rfl⟩
theorem mps_nm (n : Nat) (l : List Mp) : nmAll n (mps l) = True := by
  refine eq_true ?_
  rw [nmAll_iff]
  intro x hx
  obtain ⟨k, rfl⟩ := mps_mem hx
  simp [nmOk]
theorem mps_rens (ρ : Nat → Nat) (l : List Mp) : rens ρ (mps l) = mps l := by
  rw [rens_eq]
  refine (List.map_congr_left (g := id) fun x hx => ?_).trans (List.map_id _)
  obtain ⟨k, rfl⟩ := mps_mem hx
  simp [ren]
theorem mps_frz (s : FS) (l : List Mp) : (mps l).map (frzS s) = mps l := by
  refine (List.map_congr_left (g := id) fun x hx => ?_).trans (List.map_id _)
  obtain ⟨k, rfl⟩ := mps_mem hx
  rfl
attribute [go_sem] mps_nm mps_rens mps_frz mps_len

/-- A table. -/
structure Tb where
  pool : Pool
  home : List Int
  maps : List Mp
structure Tb.wf (t : Tb) : Prop where
  pool : t.pool.wf
  home : t.home.length = 8
/-- The cells ahead of the maps. -/
def Tb.hd (t : Tb) : List AV := t.pool.enc ++ ints t.home
theorem Tb.hd_len {t : Tb} (h : t.wf) : t.hd.length = 29 := by simp [Tb.hd, Pool.enc_len h.pool, ints_len, h.home]
theorem Tb.hd_nm (t : Tb) (n : Nat) : nmAll n t.hd = True := by simp only [Tb.hd, nm_app, Pool.enc_nm, nm_ints, and_self]
theorem Tb.hd_rens (t : Tb) (ρ : Nat → Nat) : rens ρ t.hd = t.hd := by simp only [Tb.hd, rens_app, Pool.enc_rens, rens_ints]
theorem Tb.hd_frz (t : Tb) (s : FS) : t.hd.map (frzS s) = t.hd := by simp only [Tb.hd, List.map_append, Pool.enc_frz, frz_ints]
attribute [go_sem] Tb.hd_nm Tb.hd_rens Tb.hd_frz
/-- As it comes in, or goes out: its maps in memory that nobody writes. -/
def Tb.enc (t : Tb) : List AV := t.hd ++ [.isl t.maps.length (mps t.maps)]
theorem Tb.enc_len {t : Tb} (h : t.wf) : t.enc.length = 30 := by simp [Tb.enc, Tb.hd_len h]
theorem Tb.enc_nm (t : Tb) (n : Nat) : nmAll n t.enc = True := by simp [Tb.enc, nm_app, Tb.hd_nm, nmAll, nmOk, mps_nm]
theorem Tb.enc_rens (t : Tb) (ρ : Nat → Nat) : rens ρ t.enc = t.enc := by simp [Tb.enc, rens_app, Tb.hd_rens, rens, ren, mps_rens]
theorem Tb.enc_frz (t : Tb) (s : FS) : t.enc.map (frzS s) = t.enc := by simp [Tb.enc, List.map_append, Tb.hd_frz, frzS]
attribute [go_sem] Tb.enc_nm Tb.enc_rens Tb.enc_frz
theorem Tb.enc_maps {t : Tb} (h : t.wf) : t.enc.getD 29 .any = .isl t.maps.length (mps t.maps) := by
  unfold Tb.enc
  rw [List.getD_eq_getElem?_getD, List.getElem?_append_right (by rw [Tb.hd_len h]; decide), Tb.hd_len h]; rfl
theorem Tb.enc_pool {t : Tb} (h : t.wf) : t.enc.take 21 = t.pool.enc := by
  unfold Tb.enc Tb.hd
  rw [List.append_assoc, List.take_append_of_le_length (by rw [Pool.enc_len h.pool]; decide), List.take_of_length_le (by rw [Pool.enc_len h.pool]; decide)]
def Tb.hom (t : Tb) (s : Nat) : Int := t.home.getD s 0
theorem Tb.enc_home {t : Tb} (h : t.wf) {s : Nat} (hs : s < 8) : t.enc.getD (21 + s) .any = .int .i64 (t.hom s) := by
  unfold Tb.enc Tb.hd Tb.hom
  rw [List.append_assoc, List.getD_eq_getElem?_getD, List.getElem?_append_right (by rw [Pool.enc_len h.pool]; omega), Pool.enc_len h.pool, show 21 + s - 21 = s by omega, List.getElem?_append_left (by rw [ints_len, h.home]; exact hs)]
  have hl : s < t.home.length := by rw [h.home]; exact hs
  simp [ints, List.getD, hl]
/-- Which block a port lies in. -/
def inPort (port : Int) : Bool := decide (1024 ≤ port) && decide (port < 1072)
def blkOf' (port : Int) : Int := if inPort port = true then (port - 1024) / 8 else 0
def knownB (proto s inn : Int) : Bool := (proto == 1 || proto == 6 || proto == 17) && decide (0 ≤ s) && decide (s < 8) && decide (0 ≤ inn) && decide (inn ≤ 65535)
/-- The first map that is asked for. -/
def findP (p : Mp → Bool) : List Mp → Option Mp := List.find? p
def isFwd (proto s inn : Int) (m : Mp) : Bool := m.proto == proto && m.s == s && m.inn == inn
def isBack (proto a port : Int) (m : Mp) : Bool := m.proto == proto && m.a == a && m.port == port
def mpT : Option Mp → AV
  | some m => .tup [.agg m.enc, .bool true]
  | none => .tup [.agg mp0.enc, .bool false]
end Go.Proofs.Ytphaicaobepimaa
