/- What bind.Open answers. No conditions but the ones that stand in each. -/
import Derived.Test.YtphaicaobepimaaDh
namespace Go.Proofs.Ytphaicaobepimaa
set_option linter.all false
set_option linter.unusedSimpArgs false
open Go.RowKit

theorem putT_nm (t : Tb) (m : Mp) (b : Bool) (e : Int) (n : Nat) : nmOk n (putT t m b e) = True := by simp [nmOk, nmAll, putT, Tb.enc_nm, Mp.enc]
theorem putT_ren (t : Tb) (m : Mp) (b : Bool) (e : Int) (ρ : Nat → Nat) : ren ρ (putT t m b e) = putT t m b e := by simp [ren, rens, putT, Tb.enc_rens, Mp.enc]
attribute [go_sem] putT_nm putT_ren
theorem bOpenNo_gs (gl : Nat → AV) (t : Tb) (ht : t.wf) (e : Int) : GS Try.prog gl 50 [.int .i64 e, .ptr 0 0] [(0, .cells t.enc)] 1 (putT t mp0 false e) [(0, .cells t.enc)] 1 := by
  refine ft_bOpenNo.gs (of_decide_eq_true rfl) (by simp [Bk.live]) fun c hN hg => ?_
  unfold T_bOpenNo
  have e2 := Tb.enc_len ht
  (have zf1 := @e2; refine XG ?_; clear zf1; ((try (repeat' with_reducible refine And.intro ?_ ?_)); (try any_goals (first | refine zm ?_ | exact CL | fail))))
  refine ⟨[], ?_⟩
  (refine XG ?_; ((try (repeat' with_reducible refine And.intro ?_ ?_)); (try any_goals (first | refine zm ?_ | exact CL | fail))))
  rfl
theorem Tb.enc_pool_set {t : Tb} (h : t.wf) {p : Pool} (hp : p.wf) : splc t.enc 0 p.enc = (⟨p, t.home, t.maps⟩ : Tb).enc := by
  unfold splc Tb.enc Tb.hd
  rw [List.take_zero, List.nil_append, Pool.enc_len hp, List.append_assoc, List.append_assoc, Nat.zero_add, ← Pool.enc_len h.pool, List.drop_left]
theorem Tb.enc_home_set {t : Tb} (h : t.wf) {s : Nat} (hs : s < 8) (x : Int) : t.enc.set (21 + s) (.int .i64 x) = (⟨t.pool, t.home.set s x, t.maps⟩ : Tb).enc := by
  unfold Tb.enc Tb.hd
  rw [List.append_assoc, List.set_append_right _ _ (by rw [Pool.enc_len h.pool]; omega), Pool.enc_len h.pool, show 21 + s - 21 = s by omega, List.set_append_left _ _ (by rw [ints_len, h.home]; exact hs), List.append_assoc]
  simp [ints, List.map_set]
/-- How many maps a subscriber has. -/
def manyOf (l : List Mp) (s : Int) : Nat := l.countP fun m => m.s == s
/-- The ports of a block. -/
def blkPorts (k : Nat) : List Int := (List.range 8).map fun (i : Nat) => 1024 + (k : Int) * 8 + (i : Int)
def freeP (t : Tb) (proto a port : Int) : Bool := (t.maps.find? (isBack proto a port)).isNone
/-- The first port that is free, of a subscriber's blocks. -/
def firstFree (t : Tb) (proto a : Int) (l : List Nat) : Option Int := (l.flatMap blkPorts).find? (freeP t proto a)
/-- The blocks that a subscriber has. -/
def ownL (t : Tb) (s : Nat) : List Nat := if 1 ≤ t.hom s then ownB t s 6 else []
/-- What there is behind the choice of an address. -/
def Tb.tk (t : Tb) (proto s inn a draw : Int) : Tb × Mp × Bool × Int :=
  if (t.pool.take s a draw).2.2 ≠ 0 then (t, mp0, false, (t.pool.take s a draw).2.2) else
  (Tb.add ⟨(t.pool.take s a draw).1, t.home.set s.toNat (a + 1), t.maps⟩ ⟨proto, s, inn, a, 1024 + (t.pool.take s a draw).2.1 * 8⟩, ⟨proto, s, inn, a, 1024 + (t.pool.take s a draw).2.1 * 8⟩, true, 0)
/-- The table with a map of a subscriber's port. -/
noncomputable def Tb.opn (t : Tb) (proto s inn draw : Int) : Tb × Mp × Bool × Int :=
  if goodB t = false ∨ knownB proto s inn = false then (t, mp0, false, 2) else
  match t.maps.find? (isFwd proto s inn) with
  | some m => (t, m, false, 0)
  | none =>
    if 12 ≤ manyOf t.maps s then (t, mp0, false, 6) else
    match firstFree t proto (t.hom s.toNat - 1) (ownL t s.toNat) with
    | some port => (t.add ⟨proto, s, inn, t.hom s.toNat - 1, port⟩, ⟨proto, s, inn, t.hom s.toNat - 1, port⟩, false, 0)
    | none =>
      if 2 ≤ (ownL t s.toNat).length then (t, mp0, false, 6) else
      if 1 ≤ t.hom s.toNat then t.tk proto s inn (t.hom s.toNat - 1) draw else
      if (t.pool.pick draw).2 ≠ 0 then (t, mp0, false, (t.pool.pick draw).2) else t.tk proto s inn (t.pool.pick draw).1 draw
def opnT (x : Tb × Mp × Bool × Int) : AV := putT x.1 x.2.1 x.2.2.1 x.2.2.2
set_option maxHeartbeats 4000000 in
set_option maxRecDepth 20000 in
theorem bOpen_bad (gl : Nat → AV) (t : Tb) (ht : t.ok) (proto s inn draw : Int) (h : goodB t = false ∨ knownB proto s inn = false) : PS Try.prog gl 23 [.agg t.enc, .int .i64 proto, .int .i64 s, .int .i64 inn, .int .i64 draw] (putT t mp0 false 2) := by
  refine ft_bOpen.ps (of_decide_eq_true rfl) (by simp [putT_nm]) fun c hN hg => ?_
  unfold T_bOpen
  have e2 := Tb.enc_len ht.wf
  have hG := bGood_ps c.gl t ht
  have hK := bknown_ps c.gl proto s inn
  by_cases hgd : goodB t = true
  · rw [hgd] at hG
    have hk : knownB proto s inn = false := h.resolve_left (by rw [hgd]; simp)
    rw [hk] at hK
    (have zf1 := @e2; refine XG ?_; clear zf1; ((try (repeat' with_reducible refine And.intro ?_ ?_)); (try any_goals (first | refine zm ?_ | exact CL | fail))))
    ((first | apply pr_psv | apply prD_psv | apply pr_qrunv | apply prD_qrunv) <;> (first | exact hG | (have zf1 := @e2; refine XG ?_; clear zf1; first | exact rfl | exact True.intro | ((try (repeat' with_reducible refine And.intro ?_ ?_)); (try any_goals (first | refine zm ?_ | exact CL | fail))))))
    ((first | apply pr_psv | apply prD_psv | apply pr_qrunv | apply prD_qrunv) <;> (first | exact hK | (have zf1 := @e2; refine XG ?_; clear zf1; first | exact rfl | exact True.intro | ((try (repeat' with_reducible refine And.intro ?_ ?_)); (try any_goals (first | refine zm ?_ | exact CL | fail))))))
    (refine xw_ifp (fun h1 => ?_) (fun h1 => ?_) <;> try exact h1.elim)
    (refine XG ?_; ((try (repeat' with_reducible refine And.intro ?_ ?_)); (try any_goals (first | refine zm ?_ | exact CL | fail))))
    ((first | refine pr_gs (ins := [0]) (bOpenNo_gs c.gl t ht.wf 2) ?_ ?_ | refine prD_gs (ins := [0]) (bOpenNo_gs c.gl t ht.wf 2) ?_ ?_ | refine pr_gsv (ins := [0]) (bOpenNo_gs c.gl t ht.wf 2) ?_ ?_ | refine prD_gsv (ins := [0]) (bOpenNo_gs c.gl t ht.wf 2) ?_ ?_) <;> (have zf1 := @e2; have zf2 := @putT.eq_1; have zf3 := @Mp.enc.eq_1; have zf4 := @mp0.eq_1; refine XG ?_; clear zf1 zf2 zf3 zf4; (try first | exact rfl | exact True.intro); ((try (repeat' with_reducible refine And.intro ?_ ?_)); (try any_goals (first | refine zm ?_ | exact CL | fail)))))
  · have hgd : goodB t = false := by simpa using hgd
    rw [hgd] at hG
    (have zf1 := @e2; refine XG ?_; clear zf1; ((try (repeat' with_reducible refine And.intro ?_ ?_)); (try any_goals (first | refine zm ?_ | exact CL | fail))))
    ((first | apply pr_psv | apply prD_psv | apply pr_qrunv | apply prD_qrunv) <;> (first | exact hG | (have zf1 := @e2; refine XG ?_; clear zf1; first | exact rfl | exact True.intro | ((try (repeat' with_reducible refine And.intro ?_ ?_)); (try any_goals (first | refine zm ?_ | exact CL | fail))))))
    ((first | apply pr_skip | apply prD_skip) <;> (refine XG ?_; first | exact rfl | exact True.intro | ((try (repeat' with_reducible refine And.intro ?_ ?_)); (try any_goals (first | refine zm ?_ | exact CL | fail)))))
    (refine xw_ifp (fun h1 => ?_) (fun h1 => ?_) <;> try exact h1.elim)
    (refine XG ?_; ((try (repeat' with_reducible refine And.intro ?_ ?_)); (try any_goals (first | refine zm ?_ | exact CL | fail))))
    ((first | refine pr_gs (ins := [0]) (bOpenNo_gs c.gl t ht.wf 2) ?_ ?_ | refine prD_gs (ins := [0]) (bOpenNo_gs c.gl t ht.wf 2) ?_ ?_ | refine pr_gsv (ins := [0]) (bOpenNo_gs c.gl t ht.wf 2) ?_ ?_ | refine prD_gsv (ins := [0]) (bOpenNo_gs c.gl t ht.wf 2) ?_ ?_) <;> (have zf1 := @e2; have zf2 := @putT.eq_1; have zf3 := @Mp.enc.eq_1; have zf4 := @mp0.eq_1; refine XG ?_; clear zf1 zf2 zf3 zf4; (try first | exact rfl | exact True.intro); ((try (repeat' with_reducible refine And.intro ?_ ?_)); (try any_goals (first | refine zm ?_ | exact CL | fail)))))
end Go.Proofs.Ytphaicaobepimaa
