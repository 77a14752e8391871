/- What the laws' own helpers answer: pick, sameTable, binds. No conditions but the ones that stand in each. -/
import Derived.Test.YtphaicaobepimaaDr
import Derived.Test.YtphaicaobepimaaDq
namespace Go.Proofs.Ytphaicaobepimaa
set_option linter.all false
set_option linter.unusedSimpArgs false
open Go.RowKit

/-- What pick answers. -/
def pickI (x n : Int) : Int := x % n
theorem kpick_ps (gl : Nat → AV) (x n : Int) (hx : -9223372036854775808 ≤ x ∧ x ≤ 9223372036854775807) (hn : 0 < n ∧ n ≤ 1000000) : PS Try.prog gl 30 [.int .i64 x, .int .i64 n] (.int .i64 (pickI x n)) := by
  refine ft_kpick.ps (of_decide_eq_true rfl) (by simp [nmOk]) fun c hN hg => ?_
  unfold T_kpick pickI
  have hb := tmod_bdQ x n hn.1
  have he : x % n = if x.tmod n < 0 then x.tmod n + n else x.tmod n := by
    have h0 : x % n = (x.tmod n) % n := by
      have h1 := Int.mul_tdiv_add_tmod x n
      conv => lhs; rw [← h1, Int.add_comm, Int.add_mul_emod_self_left]
    rw [h0]
    split
    · rw [← Int.add_emod_right, Int.emod_eq_of_lt (by omega) (by omega)]
    · rw [Int.emod_eq_of_lt (by omega) (by omega)]
  (refine XG ?_; ((try (repeat' with_reducible refine And.intro ?_ ?_)); (try any_goals (first | refine zm ?_ | exact CL | fail))))
  (refine xw_ifp (fun h1 => ?_) (fun h1 => ?_) <;> try exact h1.elim)
  · rw [if_pos h1] at he
    (have zf1 := @he; refine XG ?_; clear zf1; ((try (repeat' with_reducible refine And.intro ?_ ?_)); (try any_goals (first | refine zm ?_ | exact CL | fail))))
  · rw [if_neg h1] at he
    (have zf1 := @he; refine XG ?_; clear zf1; ((try (repeat' with_reducible refine And.intro ?_ ?_)); (try any_goals (first | refine zm ?_ | exact CL | fail))))
theorem pick_bd (x : Int) {n : Int} (h : 0 < n) : 0 ≤ pickI x n ∧ pickI x n < n := ⟨Int.emod_nonneg x (by omega), Int.emod_lt_of_pos x h⟩
theorem eqSh_pool : eqSh Try.prog 100 26 = some Pool.ks := by kernel_rfl
theorem pool_same {c : Cx} {ne : Bool} (p : Pool) (h : p.wf) : QRun Try.prog c (.cA ne 26) [.agg p.enc, .agg p.enc] (.bool (ne != true)) :=
  cA_run eqSh_pool (by kernel_rfl) (by kernel_rfl) (Pool.enc_kinds h) (Pool.enc_kinds h) (by simp)
theorem eqSh_home : eqSh Try.prog 100 27 = some (List.replicate 8 (.int .i64)) := by kernel_rfl
theorem home_kinds {l : List Int} (h : l.length = 8) : (ints l).map kindA = (List.replicate 8 (SK.int .i64)).map some := by
  rw [← h]; apply List.ext_getElem <;> simp [ints, kindA]
theorem home_same {c : Cx} {ne : Bool} (l : List Int) (h : l.length = 8) : QRun Try.prog c (.cA ne 27) [.agg (ints l), .agg (ints l)] (.bool (ne != true)) :=
  cA_run eqSh_home (by kernel_rfl) (by kernel_rfl) (home_kinds h) (home_kinds h) (by simp)
theorem Tb.enc_homes {t : Tb} (h : t.wf) : (t.enc.drop 21).take 8 = ints t.home := by
  unfold Tb.enc Tb.hd
  rw [List.append_assoc, ← Pool.enc_len h.pool, List.drop_left, List.take_append_of_le_length (by rw [ints_len, h.home]; decide), List.take_of_length_le (by rw [ints_len, h.home]; decide)]
set_option maxHeartbeats 2000000 in
theorem ksame_ps (gl : Nat → AV) (t : Tb) (ht : t.wf) (hl : t.maps.length ≤ 4611686018427387904) : PS Try.prog gl 29 [.agg t.enc, .agg t.enc] (.bool true) := by
  refine ft_ksame.ps (of_decide_eq_true rfl) (by simp [nmOk]) fun c hN hg => ?_
  unfold T_ksame
  have e2 := Tb.enc_len ht
  have e3 := Tb.enc_maps ht
  have e4 := Tb.enc_pool ht
  have e5 := Tb.enc_homes ht
  have hel := mps_len t.maps
  have hp := @pool_same c true t.pool ht.pool
  have hh := @home_same c true t.home ht.home
  (have zf1 := @e2; have zf2 := @e4; refine XG ?_; clear zf1 zf2; ((try (repeat' with_reducible refine And.intro ?_ ?_)); (try any_goals (first | refine zm ?_ | exact CL | fail))))
  ((first | apply pr_psv | apply prD_psv | apply pr_qrunv | apply prD_qrunv) <;> (first | exact hp | (have zf1 := @e2; have zf2 := @e4; have zf3 := @e5; refine XG ?_; clear zf1 zf2 zf3; first | exact rfl | exact True.intro | ((try (repeat' with_reducible refine And.intro ?_ ?_)); (try any_goals (first | refine zm ?_ | exact CL | fail))))))
  ((first | apply pr_psv | apply prD_psv | apply pr_qrunv | apply prD_qrunv) <;> (first | exact hh | (have zf1 := @e2; have zf2 := @e3; refine XG ?_; clear zf1 zf2; first | exact rfl | exact True.intro | ((try (repeat' with_reducible refine And.intro ?_ ?_)); (try any_goals (first | refine zm ?_ | exact CL | fail))))))
  (refine xw_ifp (fun h1 => ?_) (fun h1 => ?_) <;> try exact h1.elim)
  (refine XG ?_; ((try (repeat' with_reducible refine And.intro ?_ ?_)); (try any_goals (first | refine zm ?_ | exact CL | fail))))
  refine loop_rule (fun k : Nat => k ≤ t.maps.length) (fun k => ⟨[(2, .ptr 0 0), (3, .ptr 1 0), (5, .int .i64 k)], [(0, .cells t.enc), (1, .cells t.enc)], 2⟩) (fun k => t.maps.length - k) ft_ksame.mixed hN
    ⟨0, by omega, [], by (refine XG ?_; ((try (repeat' with_reducible refine And.intro ?_ ?_)); (try any_goals (first | refine zm ?_ | exact CL | fail))))⟩ fun k hk => ?_
  (have zf1 := @e2; have zf2 := @e3; refine XG ?_; clear zf1 zf2; ((try (repeat' with_reducible refine And.intro ?_ ?_)); (try any_goals (first | refine zm ?_ | exact CL | fail))))
  (refine xw_ifp (fun h2 => ?_) (fun h2 => ?_) <;> try exact h2.elim)
  · have hkn : k < t.maps.length := by omega
    have hcut := mps_cut t.maps k hkn
    generalize t.maps[k] = x at *
    have heq := @mp_eq c true x x
    rw [decide_eq_true rfl] at heq
    (have zf1 := @e2; have zf2 := @e3; have zf3 := @hel; have zf4 := @hcut; refine XG ?_; clear zf1 zf2 zf3 zf4; ((try (repeat' with_reducible refine And.intro ?_ ?_)); (try any_goals (first | refine zm ?_ | exact CL | fail))))
    ((first | apply pr_psv | apply prD_psv | apply pr_qrunv | apply prD_qrunv) <;> (first | exact heq | (have zf1 := @e2; have zf2 := @e3; have zf3 := @hel; have zf4 := @hcut; refine XG ?_; clear zf1 zf2 zf3 zf4; first | exact rfl | exact True.intro | ((try (repeat' with_reducible refine And.intro ?_ ?_)); (try any_goals (first | refine zm ?_ | exact CL | fail))))))
    (refine xw_ifp (fun h3 => ?_) (fun h3 => ?_) <;> try exact h3.elim)
    (refine XG ?_; ((try (repeat' with_reducible refine And.intro ?_ ?_)); (try any_goals (first | refine zm ?_ | exact CL | fail))))
    refine ⟨k + 1, by omega, ⟨[], ?_⟩, by omega⟩
    (refine XG ?_; ((try (repeat' with_reducible refine And.intro ?_ ?_)); (try any_goals (first | refine zm ?_ | exact CL | fail))))
  · have : k = t.maps.length := by omega
    subst this
    (refine XG ?_; ((try (repeat' with_reducible refine And.intro ?_ ?_)); (try any_goals (first | refine zm ?_ | exact CL | fail))))
/-! ### The table of nothing -/
def pool0 : Pool := ⟨List.replicate 18 0, List.replicate 3 false⟩
def tb0 : Tb := ⟨pool0, List.replicate 8 0, []⟩
theorem pool0_wf : pool0.wf := ⟨rfl, rfl⟩
theorem tb0_wf : tb0.wf := ⟨pool0_wf, rfl⟩
theorem zget (n i : Nat) : (List.replicate n (0 : Int)).getD i 0 = 0 := rep_getD n i
theorem GT.none {p : Pool} (h : p.good = true) (ho : ∀ i, p.own.getD i 0 = 0) {H : List Int} (hH : ∀ i, H.getD i 0 = 0) (hc : ∀ s, cntB p.own s = 0) : GT ⟨p, H, []⟩ := by
  refine ⟨h, fun m hm => (by cases hm), List.Pairwise.nil, fun i _ => ⟨fun h => (h (ho i)).elim, fun ⟨m, hm, _⟩ => (by cases hm)⟩, fun s _ => (by show cntB p.own s ≤ 2; rw [hc]; omega), fun s _ => Nat.zero_le _, fun s _ => ⟨fun h => (h (hH s)).elim, fun h => ?_⟩⟩
  have h : 0 < cntB p.own s := h
  rw [hc] at h; omega
theorem tb0_GT : GT tb0 := GT.none (by decide) (fun i => zget 18 i) (fun i => zget 8 i) fun s => by
  unfold cntB pool0
  rw [List.countP_eq_zero]
  intro o ho
  rw [(List.mem_replicate.1 ho).2]
  simp; omega
/-- The first map that is opened. -/
def mp1 : Mp := ⟨17, 3, 99, 0, 1024⟩
def tb1 : Tb := ⟨pool0.put 0 0 4, (List.replicate 8 0).set 3 1, [mp1]⟩
theorem opn0 : tb0.opn 17 3 99 0 = (tb1, mp1, true, 0) := by
  unfold Tb.opn
  rw [if_neg (by rw [(goodB_iff _).2 (goodT_GT.2 tb0_GT)]; decide)]
  have e1 : tb0.maps.find? (isFwd 17 3 99) = none := rfl
  have e2 : manyOf tb0.maps 3 = 0 := rfl
  have e3 : tb0.hom (3 : Int).toNat = 0 := rfl
  have e4 : ownL tb0 (3 : Int).toNat = [] := if_neg (by decide)
  have e5 : tb0.pool.pick 0 = (0, 0) := by decide
  have e6 : tb0.pool.take 3 0 0 = (pool0.put 0 0 4, 0, 0) := by
    unfold Pool.take
    rw [if_pos (by decide), if_pos (by decide), if_neg (by decide), if_neg (by decide)]
    rfl
  rw [e1]
  dsimp only
  rw [e2, if_neg (by decide), e4]
  have e7 : firstFree tb0 17 (tb0.hom (3 : Int).toNat - 1) [] = none := rfl
  rw [e7]
  dsimp only
  rw [if_neg (by decide), e3, if_neg (by decide), e5]
  dsimp only
  rw [if_neg (by decide)]
  unfold Tb.tk
  rw [e6]
  rfl
theorem tb1_GT : GT tb1 := by
  have h := (opened tb0_GT tb0_wf (proto := 17) (S := 3) (inn := 99) (by decide) 0).good tb0_GT tb0_wf (by decide)
  have e : tb0.opn 17 ((3 : Nat) : Int) 99 0 = (tb1, mp1, true, 0) := opn0
  rw [e] at h
  exact h
theorem tb1_wf : tb1.wf := ⟨Pool.put_wf _ pool0_wf _ _ _, rfl⟩
/-! ### A row that is nil is a row of nothing -/
theorem nils_isl {g : Nat → GM} {W : Nat → Prop} {w : World} {v : Value} (h : VR g W w .nils v) : VR g W w (.isl 0 []) v := by
  obtain ⟨ad, rfl⟩ := nils_inv h
  exact .isl (us := fun _ => undef) (Nat.zero_le _) (by unfold maxLen; omega) (fun j hj => by simp at hj) (fun j hj => by simp at hj)
theorem VR.agg_last {g : Nat → GM} {W : Nat → Prop} {w : World} {cs : List AV} {x y : AV} {v : Value} (h : VR g W w (.agg (cs ++ [x])) v) (hxy : ∀ u, VR g W w x u → VR g W w y u) : VR g W w (.agg (cs ++ [y])) v := by
  obtain ⟨us, rfl, h1, h2, h3⟩ := agg_inv h
  have hl : (cs ++ [y]).length = (cs ++ [x]).length := by simp
  refine .agg (by rw [h1, hl]) (fun j hj => h2 j (by rw [← hl]; exact hj)) fun j hj => ?_
  have h4 := h3 j (by rw [← hl]; exact hj)
  by_cases hj2 : j < cs.length
  · rw [List.getD_eq_getElem?_getD, List.getElem?_append_left hj2] at h4 ⊢; exact h4
  · have hje : j = cs.length := by simp at hj; omega
    subst hje
    rw [List.getD_eq_getElem?_getD, List.getElem?_append_right (Nat.le_refl _), Nat.sub_self] at h4 ⊢
    exact hxy _ h4
theorem PS.first {P : Program} {gl : Nat → AV} {f : FuncId} {x y r : AV} {rest : List AV} (h : PS P gl f (y :: rest) r) (hxy : ∀ (g : Nat → GM) (W : Nat → Prop) (w : World) (v : Value), VR g W w x v → VR g W w y v) : PS P gl f (x :: rest) r :=
  ⟨h.1, fun w vs X hX hg hv => h.2 w vs X hX hg (by
    match vs, hv with
    | v :: vs, hv => exact ⟨hxy _ _ _ _ hv.1, hv.2⟩)⟩
def zTab : List AV := [(.int .i64 0), (.int .i64 0), (.int .i64 0), (.int .i64 0), (.int .i64 0), (.int .i64 0), (.int .i64 0), (.int .i64 0), (.int .i64 0), (.int .i64 0), (.int .i64 0), (.int .i64 0), (.int .i64 0), (.int .i64 0), (.int .i64 0), (.int .i64 0), (.int .i64 0), (.int .i64 0), (.bool false), (.bool false), (.bool false), (.int .i64 0), (.int .i64 0), (.int .i64 0), (.int .i64 0), (.int .i64 0), (.int .i64 0), (.int .i64 0), (.int .i64 0), .nils]
theorem zTab_eq : tb0.hd ++ [.nils] = zTab := rfl
set_option maxHeartbeats 1000000 in
theorem kbinds_ps (gl : Nat → AV) : PS Try.prog gl 26 [] (.bool true) := by
  refine ft_kbinds.ps (of_decide_eq_true rfl) (by simp [nmOk]) fun c hN hg => ?_
  unfold T_kbinds
  have hO := bOpen_ps c.gl tb0 (tb0_GT.ok tb0_wf) 17 3 99 0
  rw [opn0] at hO
  have hO := hO.first (x := .agg (tb0.hd ++ [.nils])) fun g W w v h => VR.agg_last h fun u => nils_isl
  have hG := bGood_ps c.gl tb1 (tb1_GT.ok tb1_wf)
  rw [(goodB_iff _).2 (goodT_GT.2 tb1_GT)] at hG
  have e2 := Tb.enc_len tb1_wf
  have e3 := Tb.enc_home tb1_wf (s := 3) (by omega)
  rw [show tb1.hom 3 = 1 from rfl] at e3
  rw [zTab_eq] at hO
  unfold opnT putT zTab at hO
  dsimp only at hO
  generalize tb1 = t1 at *
  unfold mp1 Mp.enc at hO
  dsimp only at hO
  (refine XG ?_; ((try (repeat' with_reducible refine And.intro ?_ ?_)); (try any_goals (first | refine zm ?_ | exact CL | fail))))
  ((first | apply pr_psv | apply prD_psv | apply pr_qrunv | apply prD_qrunv) <;> (first | exact hO | (have zf1 := @e2; have zf2 := @e3; refine XG ?_; clear zf1 zf2; first | exact rfl | exact True.intro | ((try (repeat' with_reducible refine And.intro ?_ ?_)); (try any_goals (first | refine zm ?_ | exact CL | fail))))))
  ((first | apply pr_psv | apply prD_psv | apply pr_qrunv | apply prD_qrunv) <;> (first | exact hG | (have zf1 := @e2; refine XG ?_; clear zf1; first | exact rfl | exact True.intro | ((try (repeat' with_reducible refine And.intro ?_ ?_)); (try any_goals (first | refine zm ?_ | exact CL | fail))))))
end Go.Proofs.Ytphaicaobepimaa
