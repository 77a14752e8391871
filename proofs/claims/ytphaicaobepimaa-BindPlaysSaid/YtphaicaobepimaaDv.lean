/- The law of plays upon a table. No conditions but the ones that stand in each. -/
import Derived.Test.YtphaicaobepimaaDu
namespace Go.Proofs.Ytphaicaobepimaa
set_option linter.all false
set_option linter.unusedSimpArgs false
open Go.RowKit

section
variable {P : Program} {c : Cx} {s : St}
theorem R.last {g : Nat → GM} {s : FS} {a : Act} {w : World} (hR : R c g s a w) {b : Nat} {cs : List AV} {x y : AV} (hb : s.H b = .cells (cs ++ [x])) (hxy : ∀ (W : Nat → Prop) (v : Value), VR g W w x v → VR g W w y v) : R c g (s.putB b (.cells (cs ++ [y]))) a w := by
  have hBR := hR.h b
  rw [hb] at hBR
  have hlive : (s.H b).live := by rw [hb]; trivial
  generalize hgb : g b = m at hBR
  generalize hL : cs ++ [x] = L at hBR
  cases hBR with
  | ph => simp at hL
  | cells h1 h2 h3 h4 h5 =>
    subst hL
    rename_i k cur e fz
    refine hR.setBlock hgb hlive trivial (Fr.refl w _) (.cells h1 (by simpa using h2) (fun j hj => h3 j (by simpa using hj)) (fun j hj => ?_) h5)
    have h6 := h4 j (by simpa using hj)
    by_cases hj2 : j < cs.length
    · rw [List.getD_eq_getElem?_getD, List.getElem?_append_left hj2] at h6 ⊢; exact h6
    · have hje : j = cs.length := by simp at hj; omega
      subst hje
      rw [List.getD_eq_getElem?_getD, List.getElem?_append_right (Nat.le_refl _), Nat.sub_self] at h6 ⊢
      exact hxy _ _ h6
theorem loop_last {b : TC} {Q : EX → St → Prop} (i : Nat) (cs : List AV) (x y : AV) (hb : s.fs.H i = .cells (cs ++ [x])) (hxy : ∀ (g : Nat → GM) (W : Nat → Prop) (w : World) (v : Value), VR g W w x v → VR g W w y v) (h : LoopVC P c b Q (s.putB i (.cells (cs ++ [y])))) : LoopVC P c b Q s :=
  fun code he g a w hR => h code he g a w (by rw [St.fs_putB]; exact hR.last hb (hxy g · w))
end
theorem Opened.has {t : Tb} {proto : Int} {S : Nat} {inn : Int} {x : Tb × Mp × Bool × Int} (h : Opened t proto S inn x) (he : x.2.2.2 = 0) : x.2.1 ∈ x.1.maps ∧ x.2.1.proto = proto ∧ x.2.1.s = S ∧ x.2.1.inn = inn ∧ (x.2.2.1 = true → ∃ b, b < 3 ∧ x.2.1.a = (b : Nat) ∧ t.pool.dra b = false) := by
  cases h with
  | no e he' => exact (he' he).elim
  | old m hf =>
    have := List.find?_some hf
    unfold isFwd at this
    simp at this
    exact ⟨List.mem_of_find?_eq_some hf, this.1.1, this.1.2, this.2, fun h => by cases h⟩
  | own port hf hok hb hn => exact ⟨List.mem_append_right _ (List.mem_singleton.2 rfl), rfl, rfl, rfl, fun h => by cases h⟩
  | new b k hf hb hk hz hh hc hd hn => exact ⟨List.mem_append_right _ (List.mem_singleton.2 rfl), rfl, rfl, rfl, fun _ => ⟨b, hb, rfl, hd⟩⟩
theorem Opened.failed {t : Tb} {proto : Int} {S : Nat} {inn : Int} {x : Tb × Mp × Bool × Int} (h : Opened t proto S inn x) (he : x.2.2.2 ≠ 0) : x.1 = t ∧ x.2.1 = mp0 ∧ x.2.2.1 = false := by
  cases h with
  | no e he' => exact ⟨rfl, rfl, rfl⟩
  | old m hf => exact (he rfl).elim
  | own port hf hok hb hn => exact (he rfl).elim
  | new b k hf hb hk hz hh hc hd hn => exact (he rfl).elim
theorem opn_old {t : Tb} (h : GT t) {m : Mp} (hm : m ∈ t.maps) (draw : Int) : t.opn m.proto m.s m.inn draw = (t, m, false, 0) := by
  unfold Tb.opn
  rw [if_neg, h.fwd hm]
  rw [(goodB_iff t).2 (goodT_GT.2 h), (h.maps m hm).1.1]; simp
theorem gone {t : Tb} (h : GT t) {i : Nat} {m : Mp} (hi : t.maps[i]? = some m) : (t.maps.eraseIdx i).find? (isFwd m.proto m.s m.inn) = none := by
  rw [List.find?_eq_none]
  intro o ho hp
  obtain ⟨n, hn, hne, rfl⟩ := List.mem_eraseIdx_iff_getElem.1 ho
  obtain ⟨hi2, he⟩ := List.getElem?_eq_some_iff.1 hi
  have hk := klash_fwd hp
  have hp := List.pairwise_iff_getElem.1 h.apart
  rcases Nat.lt_or_gt_of_ne hne with h1 | h1
  · have := hp n i hn hi2 h1; rw [he] at this; rw [this] at hk; cases hk
  · have := hp i n hi2 hn h1; rw [he, klash_comm] at this; rw [this] at hk; cases hk
theorem GT.drain {t : Tb} (h : GT t) (a : Int) (to : Bool) : GT ⟨(t.pool.drain a to).1, t.home, t.maps⟩ := by
  have ho : (t.pool.drain a to).1.own = t.pool.own := by
    unfold Pool.drain
    split
    · split <;> rfl
    · rfl
  have how : ∀ a' k, (t.pool.drain a to).1.ow a' k = t.pool.ow a' k := fun a' k => by unfold Pool.ow; rw [ho]
  refine ⟨?_, fun m hm => ?_, h.apart, fun i hi => ?_, fun s hs => ?_, h.many, fun s hs => ?_⟩
  · unfold Pool.good; rw [ho]; exact h.pool
  · have := h.maps m hm
    exact ⟨this.1, this.2.1, by show (t.pool.drain a to).1.ow _ _ = _; rw [how]; exact this.2.2⟩
  · show (t.pool.drain a to).1.own.getD i 0 ≠ 0 ↔ _
    rw [ho]; exact h.used i hi
  · show cntB (t.pool.drain a to).1.own s ≤ 2
    rw [ho]; exact h.two s hs
  · show _ ↔ 0 < cntB (t.pool.drain a to).1.own s
    rw [ho]; exact h.home s hs
theorem Tb.enc_dra {t : Tb} (h : t.wf) {b : Nat} (hb : b < 3) : t.enc.getD (18 + b) .any = .bool (t.pool.dra b) := by
  have hl : b < t.pool.dr.length := by rw [h.pool.dr]; exact hb
  unfold Tb.enc Tb.hd Pool.enc Pool.dra
  rw [List.append_assoc, List.append_assoc, List.getD_eq_getElem?_getD, List.getElem?_append_right (by rw [ints_len, h.pool.own]; omega), ints_len, h.pool.own, show 18 + b - 18 = b by omega, List.getElem?_append_left (by simp [bools]; exact hl)]
  simp [bools, List.getD, hl]
def protoL : List AV := [.int .i64 1, .int .i64 6, .int .i64 17]
theorem protoL_nm (n : Nat) : nmAll n protoL = True := by simp [protoL, nmAll, nmOk]
theorem protoL_rens (ρ : Nat → Nat) : rens ρ protoL = protoL := by simp [protoL, rens, ren]
attribute [go_sem] protoL_nm protoL_rens
theorem proto_get {n : Nat} (h : n < 3) : ∃ p : Int, protoL.getD n .any = .int .i64 p ∧ (p = 1 ∨ p = 6 ∨ p = 17) := by
  rcases (by omega : n = 0 ∨ n = 1 ∨ n = 2) with rfl | rfl | rfl
  · exact ⟨1, rfl, by simp⟩
  · exact ⟨6, rfl, by simp⟩
  · exact ⟨17, rfl, by simp⟩
theorem pick_nat (x : Int) {n : Int} (h : 0 < n) : ∃ k : Nat, pickI x n = k ∧ (k : Int) < n := by
  obtain ⟨h1, h2⟩ := pick_bd x h
  obtain ⟨k, hk⟩ := Int.eq_ofNat_of_zero_le h1
  exact ⟨k, hk, by omega⟩
def PlI (l : List Mp) (x : Tb × Nat) : Prop := GT x.1 ∧ x.1.wf ∧ x.2 ≤ l.length
def plE (l : List Mp) (x : Tb × Nat) : St := ⟨[(0, .isl l.length (mps l)), (3, .ptr 0 0), (4, .ptr 1 0), (5, .int .i64 x.2)], [(0, .cells x.1.enc), (1, .cells protoL)], 2⟩
set_option maxHeartbeats 16000000 in
set_option maxRecDepth 20000 in
theorem BindPlays_ps (gl : Nat → AV) (l : List Mp) (hl : l.length ≤ 4611686018427387904) (hb : ∀ m ∈ l, MpB m) : PS Try.prog gl 8 [.isl l.length (mps l)] (.bool true) := by
  refine ft_kPlays.ps (of_decide_eq_true rfl) (by simp [nmOk]) fun c hN hg => ?_
  unfold T_kPlays
  have hK := kbinds_ps c.gl
  have hel := mps_len l
  (refine XG ?_; ((try (repeat' with_reducible refine And.intro ?_ ?_)); (try any_goals (first | refine zm ?_ | exact CL | fail))))
  ((first | apply pr_psv | apply prD_psv | apply pr_qrunv | apply prD_qrunv) <;> (first | exact hK | (refine XG ?_; first | exact rfl | exact True.intro | ((try (repeat' with_reducible refine And.intro ?_ ?_)); (try any_goals (first | refine zm ?_ | exact CL | fail))))))
  (refine xw_ifp (fun h1 => ?_) (fun h1 => ?_) <;> try exact h1.elim)
  (refine XG ?_; ((try (repeat' with_reducible refine And.intro ?_ ?_)); (try any_goals (first | refine zm ?_ | exact CL | fail))))
  refine loop_last 0 tb0.hd .nils (.isl 0 []) rfl (fun _ _ _ _ h => nils_isl h) ?_
  refine loop_rule (PlI l) (plE l) (fun x => l.length - x.2) ft_kPlays.mixed hN
    ⟨(tb0, 0), ⟨tb0_GT, tb0_wf, Nat.zero_le _⟩, [(1, 1)], ?_⟩ fun x hx => ?_
  · have : tb0.enc = tb0.hd ++ [.isl 0 []] := rfl
    (have zf1 := @plE.eq_1; have zf2 := @protoL.eq_1; have zf3 := @this; refine XG ?_; clear zf1 zf2 zf3; ((try (repeat' with_reducible refine And.intro ?_ ?_)); (try any_goals (first | refine zm ?_ | exact CL | fail))))
  obtain ⟨T, k⟩ := x
  obtain ⟨hT, hTw, hk⟩ := hx
  dsimp only at hT hTw hk
  have e2 := Tb.enc_len hTw
  have e3 := Tb.enc_maps hTw
  (have zf1 := @plE.eq_1; refine XG ?_; clear zf1; ((try (repeat' with_reducible refine And.intro ?_ ?_)); (try any_goals (first | refine zm ?_ | exact CL | fail))))
  (refine xw_ifp (fun h2 => ?_) (fun h2 => ?_) <;> try exact h2.elim)
  rotate_left
  · (refine XG ?_; ((try (repeat' with_reducible refine And.intro ?_ ?_)); (try any_goals (first | refine zm ?_ | exact CL | fail))))
  have hkn : k < l.length := by omega
  have hcut := mps_cut l k hkn
  have hmb := hb _ (List.getElem_mem hkn)
  generalize l[k] = m at *
  obtain ⟨kd, wp, ws, wi, wn⟩ := m
  obtain ⟨b1, b2, b3, b4, b5⟩ := hmb
  dsimp only at b1 b2 b3 b4 b5
  simp only [Mp.enc] at hcut
  obtain ⟨kk, hkk, hkk4⟩ := pick_nat kd (show (0 : Int) < 4 by decide)
  have hP := kpick_ps c.gl kd 4 b1 (by decide)
  rw [hkk] at hP
  (have zf1 := @hel; have zf2 := @hcut; have zf3 := @e2; refine XG ?_; clear zf1 zf2 zf3; ((try (repeat' with_reducible refine And.intro ?_ ?_)); (try any_goals (first | refine zm ?_ | exact CL | fail))))
  ((first | apply pr_psv | apply prD_psv | apply pr_qrunv | apply prD_qrunv) <;> (first | exact hP | (refine XG ?_; first | exact rfl | exact True.intro | ((try (repeat' with_reducible refine And.intro ?_ ?_)); (try any_goals (first | refine zm ?_ | exact CL | fail))))))
  (refine xw_ifp (fun h3 => ?_) (fun h3 => ?_) <;> try exact h3.elim)
  · obtain ⟨j, hj, hj3⟩ := pick_nat wp (show (0 : Int) < 3 by decide)
    obtain ⟨S, hS, hS8⟩ := pick_nat ws (show (0 : Int) < 8 by decide)
    obtain ⟨N, hN', hN30⟩ := pick_nat wi (show (0 : Int) < 30 by decide)
    have hP1 := kpick_ps c.gl wp 3 b2 (by decide)
    have hP2 := kpick_ps c.gl ws 8 b3 (by decide)
    have hP3 := kpick_ps c.gl wi 30 b4 (by decide)
    rw [hj] at hP1
    rw [hS] at hP2
    rw [hN'] at hP3
    obtain ⟨proto, hpr, hpk⟩ := proto_get (show j < 3 by omega)
    have hpl : protoL.length = 3 := rfl
    have hkn' : knownB proto S N = true := by unfold knownB; rcases hpk with rfl | rfl | rfl <;> simp <;> omega
    have hO := bOpen_ps c.gl T (hT.ok hTw) proto S N wn
    have hop := opened hT hTw hkn' wn
    generalize T.opn proto S N wn = x at *
    have hX := hop.good hT hTw hkn'
    have hXw := hop.wf hTw
    have hhas := hop.has
    have hfl := hop.failed
    obtain ⟨X, m, tk, e⟩ := x
    dsimp only at *
    have e5 := Tb.enc_len hXw
    unfold opnT putT at hO
    dsimp only at hO
    by_cases he : e = 0
    · subst he
      obtain ⟨hm, hm1, hm2, hm3, hm4⟩ := hhas rfl
      obtain ⟨mp, ms, mi, ma, mt⟩ := m
      dsimp only at hm1 hm2 hm3 hm4
      subst hm1 hm2 hm3
      have hf1 := hX.fwd hm
      have hf2 := hX.back hm
      dsimp only at hf1 hf2
      have hF := bFind_ps c.gl X hXw (hX.ok hXw).len mp S N
      have hB := bBack_ps c.gl X hXw (hX.ok hXw).len mp ma mt
      have hO2 := bOpen_ps c.gl X (hX.ok hXw) mp S N (IntKind.i64.wrap (wn.tdiv 2))
      have ho2 := opn_old hX hm (IntKind.i64.wrap (wn.tdiv 2))
      dsimp only at ho2
      rw [hf1] at hF
      rw [hf2] at hB
      rw [ho2] at hO2
      have heq := @mp_eq c true ⟨mp, S, N, ma, mt⟩ ⟨mp, S, N, ma, mt⟩
      rw [decide_eq_true rfl] at heq
      have hS' := ksame_ps c.gl X hXw (hX.ok hXw).len
      unfold mpT Mp.enc at hF hB
      unfold opnT putT Mp.enc at hO2
      unfold Mp.enc at hO heq
      dsimp only at hF hB hO2 hO heq
      cases tk with
      | false =>
        (have zf1 := @e2; refine XG ?_; clear zf1; ((try (repeat' with_reducible refine And.intro ?_ ?_)); (try any_goals (first | refine zm ?_ | exact CL | fail))))
        ((first | apply pr_psv | apply prD_psv | apply pr_qrunv | apply prD_qrunv) <;> (first | exact hP1 | (have zf1 := @hpl; have zf2 := @hpr; refine XG ?_; clear zf1 zf2; first | exact rfl | exact True.intro | ((try (repeat' with_reducible refine And.intro ?_ ?_)); (try any_goals (first | refine zm ?_ | exact CL | fail))))))
        ((first | apply pr_psv | apply prD_psv | apply pr_qrunv | apply prD_qrunv) <;> (first | exact hP2 | (refine XG ?_; first | exact rfl | exact True.intro | ((try (repeat' with_reducible refine And.intro ?_ ?_)); (try any_goals (first | refine zm ?_ | exact CL | fail))))))
        ((first | apply pr_psv | apply prD_psv | apply pr_qrunv | apply prD_qrunv) <;> (first | exact hP3 | (have zf1 := @e2; refine XG ?_; clear zf1; first | exact rfl | exact True.intro | ((try (repeat' with_reducible refine And.intro ?_ ?_)); (try any_goals (first | refine zm ?_ | exact CL | fail))))))
        ((first | apply pr_psv | apply prD_psv | apply pr_qrunv | apply prD_qrunv) <;> (first | exact hO | (have zf1 := @e2; have zf2 := @e5; refine XG ?_; clear zf1 zf2; first | exact rfl | exact True.intro | ((try (repeat' with_reducible refine And.intro ?_ ?_)); (try any_goals (first | refine zm ?_ | exact CL | fail))))))
        (refine xw_ifp (fun hz1 => ?_) (fun hz1 => ?_) <;> try exact hz1.elim)
        (have zf1 := @e5; refine XG ?_; clear zf1; ((try (repeat' with_reducible refine And.intro ?_ ?_)); (try any_goals (first | refine zm ?_ | exact CL | fail))))
        ((first | apply pr_psv | apply prD_psv | apply pr_qrunv | apply prD_qrunv) <;> (first | exact hF | (have zf1 := @e5; refine XG ?_; clear zf1; first | exact rfl | exact True.intro | ((try (repeat' with_reducible refine And.intro ?_ ?_)); (try any_goals (first | refine zm ?_ | exact CL | fail))))))
        ((first | apply pr_psv | apply prD_psv | apply pr_qrunv | apply prD_qrunv) <;> (first | exact hB | (have zf1 := @e5; refine XG ?_; clear zf1; first | exact rfl | exact True.intro | ((try (repeat' with_reducible refine And.intro ?_ ?_)); (try any_goals (first | refine zm ?_ | exact CL | fail))))))
        ((first | apply pr_psv | apply prD_psv | apply pr_qrunv | apply prD_qrunv) <;> (first | exact hO2 | (have zf1 := @e5; refine XG ?_; clear zf1; first | exact rfl | exact True.intro | ((try (repeat' with_reducible refine And.intro ?_ ?_)); (try any_goals (first | refine zm ?_ | exact CL | fail))))))
        ((first | apply pr_psv | apply prD_psv | apply pr_qrunv | apply prD_qrunv) <;> (first | exact heq | (refine XG ?_; first | exact rfl | exact True.intro | ((try (repeat' with_reducible refine And.intro ?_ ?_)); (try any_goals (first | refine zm ?_ | exact CL | fail))))))
        ((first | apply pr_psv | apply prD_psv | apply pr_qrunv | apply prD_qrunv) <;> (first | exact heq | (refine XG ?_; first | exact rfl | exact True.intro | ((try (repeat' with_reducible refine And.intro ?_ ?_)); (try any_goals (first | refine zm ?_ | exact CL | fail))))))
        ((first | apply pr_psv | apply prD_psv | apply pr_qrunv | apply prD_qrunv) <;> (first | exact heq | (have zf1 := @e5; refine XG ?_; clear zf1; first | exact rfl | exact True.intro | ((try (repeat' with_reducible refine And.intro ?_ ?_)); (try any_goals (first | refine zm ?_ | exact CL | fail))))))
        ((first | apply pr_psv | apply prD_psv | apply pr_qrunv | apply prD_qrunv) <;> (first | exact hS' | (refine XG ?_; first | exact rfl | exact True.intro | ((try (repeat' with_reducible refine And.intro ?_ ?_)); (try any_goals (first | refine zm ?_ | exact CL | fail))))))
        (refine xw_ifp (fun hz2 => ?_) (fun hz2 => ?_) <;> try exact hz2.elim)
        have hG' := bGood_ps c.gl X (hX.ok hXw)
        rw [(goodB_iff _).2 (goodT_GT.2 hX)] at hG'
        have eL := Tb.enc_len hXw
        (have zf1 := @eL; refine XG ?_; clear zf1; ((try (repeat' with_reducible refine And.intro ?_ ?_)); (try any_goals (first | refine zm ?_ | exact CL | fail))))
        ((first | apply pr_psv | apply prD_psv | apply pr_qrunv | apply prD_qrunv) <;> (first | exact hG' | (have zf1 := @eL; refine XG ?_; clear zf1; first | exact rfl | exact True.intro | ((try (repeat' with_reducible refine And.intro ?_ ?_)); (try any_goals (first | refine zm ?_ | exact CL | fail))))))
        (refine xw_ifp (fun hz => ?_) (fun hz => ?_) <;> try exact hz.elim)
        (refine XG ?_; ((try (repeat' with_reducible refine And.intro ?_ ?_)); (try any_goals (first | refine zm ?_ | exact CL | fail))))
        refine ⟨(X, k + 1), ⟨hX, hXw, by show k + 1 ≤ l.length; omega⟩, ⟨[], ?_⟩, by show l.length - (k + 1) < l.length - k; omega⟩
        (have zf1 := @plE.eq_1; refine XG ?_; clear zf1; ((try (repeat' with_reducible refine And.intro ?_ ?_)); (try any_goals (first | refine zm ?_ | exact CL | fail))))
      | true =>
        obtain ⟨b, hb3, ha, hd⟩ := hm4 rfl
        subst ha
        have edr := Tb.enc_dra hTw hb3
        rw [hd] at edr
        (have zf1 := @e2; refine XG ?_; clear zf1; ((try (repeat' with_reducible refine And.intro ?_ ?_)); (try any_goals (first | refine zm ?_ | exact CL | fail))))
        ((first | apply pr_psv | apply prD_psv | apply pr_qrunv | apply prD_qrunv) <;> (first | exact hP1 | (have zf1 := @hpl; have zf2 := @hpr; refine XG ?_; clear zf1 zf2; first | exact rfl | exact True.intro | ((try (repeat' with_reducible refine And.intro ?_ ?_)); (try any_goals (first | refine zm ?_ | exact CL | fail))))))
        ((first | apply pr_psv | apply prD_psv | apply pr_qrunv | apply prD_qrunv) <;> (first | exact hP2 | (refine XG ?_; first | exact rfl | exact True.intro | ((try (repeat' with_reducible refine And.intro ?_ ?_)); (try any_goals (first | refine zm ?_ | exact CL | fail))))))
        ((first | apply pr_psv | apply prD_psv | apply pr_qrunv | apply prD_qrunv) <;> (first | exact hP3 | (have zf1 := @e2; refine XG ?_; clear zf1; first | exact rfl | exact True.intro | ((try (repeat' with_reducible refine And.intro ?_ ?_)); (try any_goals (first | refine zm ?_ | exact CL | fail))))))
        ((first | apply pr_psv | apply prD_psv | apply pr_qrunv | apply prD_qrunv) <;> (first | exact hO | (have zf1 := @e2; have zf2 := @e5; refine XG ?_; clear zf1 zf2; first | exact rfl | exact True.intro | ((try (repeat' with_reducible refine And.intro ?_ ?_)); (try any_goals (first | refine zm ?_ | exact CL | fail))))))
        (refine xw_ifp (fun hz1 => ?_) (fun hz1 => ?_) <;> try exact hz1.elim)
        (have zf1 := @e5; refine XG ?_; clear zf1; ((try (repeat' with_reducible refine And.intro ?_ ?_)); (try any_goals (first | refine zm ?_ | exact CL | fail))))
        ((first | apply pr_psv | apply prD_psv | apply pr_qrunv | apply prD_qrunv) <;> (first | exact hF | (have zf1 := @e5; refine XG ?_; clear zf1; first | exact rfl | exact True.intro | ((try (repeat' with_reducible refine And.intro ?_ ?_)); (try any_goals (first | refine zm ?_ | exact CL | fail))))))
        ((first | apply pr_psv | apply prD_psv | apply pr_qrunv | apply prD_qrunv) <;> (first | exact hB | (have zf1 := @e5; refine XG ?_; clear zf1; first | exact rfl | exact True.intro | ((try (repeat' with_reducible refine And.intro ?_ ?_)); (try any_goals (first | refine zm ?_ | exact CL | fail))))))
        ((first | apply pr_psv | apply prD_psv | apply pr_qrunv | apply prD_qrunv) <;> (first | exact hO2 | (have zf1 := @e5; refine XG ?_; clear zf1; first | exact rfl | exact True.intro | ((try (repeat' with_reducible refine And.intro ?_ ?_)); (try any_goals (first | refine zm ?_ | exact CL | fail))))))
        ((first | apply pr_psv | apply prD_psv | apply pr_qrunv | apply prD_qrunv) <;> (first | exact heq | (refine XG ?_; first | exact rfl | exact True.intro | ((try (repeat' with_reducible refine And.intro ?_ ?_)); (try any_goals (first | refine zm ?_ | exact CL | fail))))))
        ((first | apply pr_psv | apply prD_psv | apply pr_qrunv | apply prD_qrunv) <;> (first | exact heq | (refine XG ?_; first | exact rfl | exact True.intro | ((try (repeat' with_reducible refine And.intro ?_ ?_)); (try any_goals (first | refine zm ?_ | exact CL | fail))))))
        ((first | apply pr_psv | apply prD_psv | apply pr_qrunv | apply prD_qrunv) <;> (first | exact heq | (have zf1 := @e5; refine XG ?_; clear zf1; first | exact rfl | exact True.intro | ((try (repeat' with_reducible refine And.intro ?_ ?_)); (try any_goals (first | refine zm ?_ | exact CL | fail))))))
        ((first | apply pr_psv | apply prD_psv | apply pr_qrunv | apply prD_qrunv) <;> (first | exact hS' | (have zf1 := @e2; have zf2 := @edr; refine XG ?_; clear zf1 zf2; first | exact rfl | exact True.intro | ((try (repeat' with_reducible refine And.intro ?_ ?_)); (try any_goals (first | refine zm ?_ | exact CL | fail))))))
        (refine xw_ifp (fun hz2 => ?_) (fun hz2 => ?_) <;> try exact hz2.elim)
        have hG' := bGood_ps c.gl X (hX.ok hXw)
        rw [(goodB_iff _).2 (goodT_GT.2 hX)] at hG'
        have eL := Tb.enc_len hXw
        (have zf1 := @eL; refine XG ?_; clear zf1; ((try (repeat' with_reducible refine And.intro ?_ ?_)); (try any_goals (first | refine zm ?_ | exact CL | fail))))
        ((first | apply pr_psv | apply prD_psv | apply pr_qrunv | apply prD_qrunv) <;> (first | exact hG' | (have zf1 := @eL; refine XG ?_; clear zf1; first | exact rfl | exact True.intro | ((try (repeat' with_reducible refine And.intro ?_ ?_)); (try any_goals (first | refine zm ?_ | exact CL | fail))))))
        (refine xw_ifp (fun hz => ?_) (fun hz => ?_) <;> try exact hz.elim)
        (refine XG ?_; ((try (repeat' with_reducible refine And.intro ?_ ?_)); (try any_goals (first | refine zm ?_ | exact CL | fail))))
        refine ⟨(X, k + 1), ⟨hX, hXw, by show k + 1 ≤ l.length; omega⟩, ⟨[], ?_⟩, by show l.length - (k + 1) < l.length - k; omega⟩
        (have zf1 := @plE.eq_1; refine XG ?_; clear zf1; ((try (repeat' with_reducible refine And.intro ?_ ?_)); (try any_goals (first | refine zm ?_ | exact CL | fail))))
    · obtain ⟨rfl, rfl, rfl⟩ := hfl he
      have hS' := ksame_ps c.gl X hXw (hX.ok hXw).len
      have heq := @mp_eq c true mp0 mp0
      rw [decide_eq_true rfl] at heq
      unfold mp0 Mp.enc at hO heq
      dsimp only at hO heq
      (have zf1 := @e2; refine XG ?_; clear zf1; ((try (repeat' with_reducible refine And.intro ?_ ?_)); (try any_goals (first | refine zm ?_ | exact CL | fail))))
      ((first | apply pr_psv | apply prD_psv | apply pr_qrunv | apply prD_qrunv) <;> (first | exact hP1 | (have zf1 := @hpl; have zf2 := @hpr; refine XG ?_; clear zf1 zf2; first | exact rfl | exact True.intro | ((try (repeat' with_reducible refine And.intro ?_ ?_)); (try any_goals (first | refine zm ?_ | exact CL | fail))))))
      ((first | apply pr_psv | apply prD_psv | apply pr_qrunv | apply prD_qrunv) <;> (first | exact hP2 | (refine XG ?_; first | exact rfl | exact True.intro | ((try (repeat' with_reducible refine And.intro ?_ ?_)); (try any_goals (first | refine zm ?_ | exact CL | fail))))))
      ((first | apply pr_psv | apply prD_psv | apply pr_qrunv | apply prD_qrunv) <;> (first | exact hP3 | (have zf1 := @e2; refine XG ?_; clear zf1; first | exact rfl | exact True.intro | ((try (repeat' with_reducible refine And.intro ?_ ?_)); (try any_goals (first | refine zm ?_ | exact CL | fail))))))
      ((first | apply pr_psv | apply prD_psv | apply pr_qrunv | apply prD_qrunv) <;> (first | exact hO | (have zf1 := @e2; have zf2 := @e5; refine XG ?_; clear zf1 zf2; first | exact rfl | exact True.intro | ((try (repeat' with_reducible refine And.intro ?_ ?_)); (try any_goals (first | refine zm ?_ | exact CL | fail))))))
      (refine xw_ifp (fun hz1 => ?_) (fun hz1 => ?_) <;> try exact hz1.elim)
      rotate_left
      · exact (he (by simpa using hz1)).elim
      (have zf1 := @e2; have zf2 := @e5; refine XG ?_; clear zf1 zf2; ((try (repeat' with_reducible refine And.intro ?_ ?_)); (try any_goals (first | refine zm ?_ | exact CL | fail))))
      ((first | apply pr_psv | apply prD_psv | apply pr_qrunv | apply prD_qrunv) <;> (first | exact hS' | (have zf1 := @e2; have zf2 := @e5; refine XG ?_; clear zf1 zf2; first | exact rfl | exact True.intro | ((try (repeat' with_reducible refine And.intro ?_ ?_)); (try any_goals (first | refine zm ?_ | exact CL | fail))))))
      ((first | apply pr_psv | apply prD_psv | apply pr_qrunv | apply prD_qrunv) <;> (first | exact heq | (refine XG ?_; first | exact rfl | exact True.intro | ((try (repeat' with_reducible refine And.intro ?_ ?_)); (try any_goals (first | refine zm ?_ | exact CL | fail))))))
      (refine xw_ifp (fun hz2 => ?_) (fun hz2 => ?_) <;> try exact hz2.elim)
      have hG' := bGood_ps c.gl X (hX.ok hXw)
      rw [(goodB_iff _).2 (goodT_GT.2 hX)] at hG'
      have eL := Tb.enc_len hXw
      (have zf1 := @eL; refine XG ?_; clear zf1; ((try (repeat' with_reducible refine And.intro ?_ ?_)); (try any_goals (first | refine zm ?_ | exact CL | fail))))
      ((first | apply pr_psv | apply prD_psv | apply pr_qrunv | apply prD_qrunv) <;> (first | exact hG' | (have zf1 := @eL; refine XG ?_; clear zf1; first | exact rfl | exact True.intro | ((try (repeat' with_reducible refine And.intro ?_ ?_)); (try any_goals (first | refine zm ?_ | exact CL | fail))))))
      (refine xw_ifp (fun hz => ?_) (fun hz => ?_) <;> try exact hz.elim)
      (refine XG ?_; ((try (repeat' with_reducible refine And.intro ?_ ?_)); (try any_goals (first | refine zm ?_ | exact CL | fail))))
      refine ⟨(X, k + 1), ⟨hX, hXw, by show k + 1 ≤ l.length; omega⟩, ⟨[], ?_⟩, by show l.length - (k + 1) < l.length - k; omega⟩
      (have zf1 := @plE.eq_1; refine XG ?_; clear zf1; ((try (repeat' with_reducible refine And.intro ?_ ?_)); (try any_goals (first | refine zm ?_ | exact CL | fail))))
  (refine XG ?_; ((try (repeat' with_reducible refine And.intro ?_ ?_)); (try any_goals (first | refine zm ?_ | exact CL | fail))))
  (refine xw_ifp (fun h4 => ?_) (fun h4 => ?_) <;> try exact h4.elim)
  · (have zf1 := @e2; have zf2 := @e3; refine XG ?_; clear zf1 zf2; ((try (repeat' with_reducible refine And.intro ?_ ?_)); (try any_goals (first | refine zm ?_ | exact CL | fail))))
    (refine xw_ifp (fun h5 => ?_) (fun h5 => ?_) <;> try exact h5.elim)
    · have hml := maps_le (goodT_GT.2 hT)
      have helT := mps_len T.maps
      obtain ⟨j, hj, hjn⟩ := pick_nat wn (show (0 : Int) < (T.maps.length : Int) by omega)
      have hP4 := kpick_ps c.gl wn T.maps.length b5 (by omega)
      rw [hj] at hP4
      have hjl : j < T.maps.length := by omega
      have hcutT := mps_cut T.maps j hjl
      have hmem := List.getElem_mem hjl
      generalize T.maps[j] = m at *
      have hC := bClose_ps c.gl T (hT.ok hTw) m
      obtain ⟨i, hi, hget, hY, hYw, hYm, hYe⟩ := hT.cls hTw hmem
      generalize T.cls m = y at *
      obtain ⟨Y, gv, e⟩ := y
      dsimp only at hY hYw hYm hYe
      subst hYe
      have hF := bFind_ps c.gl Y hYw (hY.ok hYw).len m.proto m.s m.inn
      rw [hYm, gone hT hget] at hF
      have hYl : Y.maps.length = T.maps.length - 1 := by rw [hYm, List.length_eraseIdx, if_pos hi]
      have hdf : ((T.maps.length : Int) - (Y.maps.length : Int) != 1) = false := by
        rw [hYl]
        have : (T.maps.length : Int) - ((T.maps.length - 1 : Nat) : Int) = 1 := by omega
        rw [this]; rfl
      have e5 := Tb.enc_len hYw
      have e6 := Tb.enc_maps hYw
      obtain ⟨mp, ms, mi, ma, mt⟩ := m
      unfold clsT at hC
      unfold mpT mp0 at hF
      simp only [Mp.enc] at hcutT hC hF
      (have zf1 := @e2; have zf2 := @e3; refine XG ?_; clear zf1 zf2; ((try (repeat' with_reducible refine And.intro ?_ ?_)); (try any_goals (first | refine zm ?_ | exact CL | fail))))
      ((first | apply pr_psv | apply prD_psv | apply pr_qrunv | apply prD_qrunv) <;> (first | exact hP4 | (have zf1 := @e3; have zf2 := @helT; have zf3 := @hcutT; refine XG ?_; clear zf1 zf2 zf3; first | exact rfl | exact True.intro | ((try (repeat' with_reducible refine And.intro ?_ ?_)); (try any_goals (first | refine zm ?_ | exact CL | fail))))))
      (have zf1 := @e2; refine XG ?_; clear zf1; ((try (repeat' with_reducible refine And.intro ?_ ?_)); (try any_goals (first | refine zm ?_ | exact CL | fail))))
      ((first | apply pr_psv | apply prD_psv | apply pr_qrunv | apply prD_qrunv) <;> (first | exact hC | (have zf1 := @e2; have zf2 := @e5; refine XG ?_; clear zf1 zf2; first | exact rfl | exact True.intro | ((try (repeat' with_reducible refine And.intro ?_ ?_)); (try any_goals (first | refine zm ?_ | exact CL | fail))))))
      ((first | apply pr_psv | apply prD_psv | apply pr_qrunv | apply prD_qrunv) <;> (first | exact hF | (have zf1 := @e5; have zf2 := @e2; have zf3 := @e3; have zf4 := @e6; have zf5 := @hdf; refine XG ?_; clear zf1 zf2 zf3 zf4 zf5; first | exact rfl | exact True.intro | ((try (repeat' with_reducible refine And.intro ?_ ?_)); (try any_goals (first | refine zm ?_ | exact CL | fail))))))
      (refine xw_ifp (fun h6 => ?_) (fun h6 => ?_) <;> try exact h6.elim)
      have hG' := bGood_ps c.gl Y (hY.ok hYw)
      rw [(goodB_iff _).2 (goodT_GT.2 hY)] at hG'
      have eL := Tb.enc_len hYw
      (have zf1 := @eL; refine XG ?_; clear zf1; ((try (repeat' with_reducible refine And.intro ?_ ?_)); (try any_goals (first | refine zm ?_ | exact CL | fail))))
      ((first | apply pr_psv | apply prD_psv | apply pr_qrunv | apply prD_qrunv) <;> (first | exact hG' | (have zf1 := @eL; refine XG ?_; clear zf1; first | exact rfl | exact True.intro | ((try (repeat' with_reducible refine And.intro ?_ ?_)); (try any_goals (first | refine zm ?_ | exact CL | fail))))))
      (refine xw_ifp (fun hz => ?_) (fun hz => ?_) <;> try exact hz.elim)
      (refine XG ?_; ((try (repeat' with_reducible refine And.intro ?_ ?_)); (try any_goals (first | refine zm ?_ | exact CL | fail))))
      refine ⟨(Y, k + 1), ⟨hY, hYw, by show k + 1 ≤ l.length; omega⟩, ⟨[], ?_⟩, by show l.length - (k + 1) < l.length - k; omega⟩
      (have zf1 := @plE.eq_1; refine XG ?_; clear zf1; ((try (repeat' with_reducible refine And.intro ?_ ?_)); (try any_goals (first | refine zm ?_ | exact CL | fail))))
    · have hG' := bGood_ps c.gl T (hT.ok hTw)
      rw [(goodB_iff _).2 (goodT_GT.2 hT)] at hG'
      have eL := Tb.enc_len hTw
      (have zf1 := @eL; refine XG ?_; clear zf1; ((try (repeat' with_reducible refine And.intro ?_ ?_)); (try any_goals (first | refine zm ?_ | exact CL | fail))))
      ((first | apply pr_psv | apply prD_psv | apply pr_qrunv | apply prD_qrunv) <;> (first | exact hG' | (have zf1 := @eL; refine XG ?_; clear zf1; first | exact rfl | exact True.intro | ((try (repeat' with_reducible refine And.intro ?_ ?_)); (try any_goals (first | refine zm ?_ | exact CL | fail))))))
      (refine xw_ifp (fun hz => ?_) (fun hz => ?_) <;> try exact hz.elim)
      (refine XG ?_; ((try (repeat' with_reducible refine And.intro ?_ ?_)); (try any_goals (first | refine zm ?_ | exact CL | fail))))
      refine ⟨(T, k + 1), ⟨hT, hTw, by show k + 1 ≤ l.length; omega⟩, ⟨[], ?_⟩, by show l.length - (k + 1) < l.length - k; omega⟩
      (have zf1 := @plE.eq_1; refine XG ?_; clear zf1; ((try (repeat' with_reducible refine And.intro ?_ ?_)); (try any_goals (first | refine zm ?_ | exact CL | fail))))
  · (refine XG ?_; ((try (repeat' with_reducible refine And.intro ?_ ?_)); (try any_goals (first | refine zm ?_ | exact CL | fail))))
    obtain ⟨j, hj, hjn⟩ := pick_nat wn (show (0 : Int) < 3 by decide)
    have hP5 := kpick_ps c.gl wn 3 b5 (by decide)
    rw [hj] at hP5
    have e4 := Tb.enc_pool hTw
    (refine xw_ifp (fun h5 => ?_) (fun h5 => ?_) <;> try exact h5.elim)
    · have hDr := pDrain_ps c.gl T.pool hTw.pool j
      have hpw := Pool.drain_wf T.pool hTw.pool j true
      have hY := hT.drain j true
      have es1 := Tb.enc_pool_set hTw hpw
      have hYw : (⟨(T.pool.drain j true).1, T.home, T.maps⟩ : Tb).wf := ⟨hpw, hTw.home⟩
      unfold pairT at hDr
      generalize T.pool.drain j true = d at *
      obtain ⟨q, qe⟩ := d
      dsimp only at *
      have e5 := Pool.enc_len hpw
      (have zf1 := @e2; have zf2 := @e4; refine XG ?_; clear zf1 zf2; ((try (repeat' with_reducible refine And.intro ?_ ?_)); (try any_goals (first | refine zm ?_ | exact CL | fail))))
      ((first | apply pr_psv | apply prD_psv | apply pr_qrunv | apply prD_qrunv) <;> (first | exact hP5 | (refine XG ?_; first | exact rfl | exact True.intro | ((try (repeat' with_reducible refine And.intro ?_ ?_)); (try any_goals (first | refine zm ?_ | exact CL | fail))))))
      have e7 := Tb.enc_len hYw
      ((first | apply pr_psv | apply prD_psv | apply pr_qrunv | apply prD_qrunv) <;> (first | exact hDr | (have zf1 := @e2; have zf2 := @e5; have zf3 := @es1; have zf4 := @e7; refine XG ?_; clear zf1 zf2 zf3 zf4; first | exact rfl | exact True.intro | ((try (repeat' with_reducible refine And.intro ?_ ?_)); (try any_goals (first | refine zm ?_ | exact CL | fail))))))
      have hG' := bGood_ps c.gl (⟨q, T.home, T.maps⟩ : Tb) (hY.ok hYw)
      rw [(goodB_iff _).2 (goodT_GT.2 hY)] at hG'
      have eL := Tb.enc_len hYw
      (have zf1 := @eL; refine XG ?_; clear zf1; ((try (repeat' with_reducible refine And.intro ?_ ?_)); (try any_goals (first | refine zm ?_ | exact CL | fail))))
      ((first | apply pr_psv | apply prD_psv | apply pr_qrunv | apply prD_qrunv) <;> (first | exact hG' | (have zf1 := @eL; refine XG ?_; clear zf1; first | exact rfl | exact True.intro | ((try (repeat' with_reducible refine And.intro ?_ ?_)); (try any_goals (first | refine zm ?_ | exact CL | fail))))))
      (refine xw_ifp (fun hz => ?_) (fun hz => ?_) <;> try exact hz.elim)
      (refine XG ?_; ((try (repeat' with_reducible refine And.intro ?_ ?_)); (try any_goals (first | refine zm ?_ | exact CL | fail))))
      refine ⟨((⟨q, T.home, T.maps⟩ : Tb), k + 1), ⟨hY, hYw, by show k + 1 ≤ l.length; omega⟩, ⟨[], ?_⟩, by show l.length - (k + 1) < l.length - k; omega⟩
      (have zf1 := @plE.eq_1; refine XG ?_; clear zf1; ((try (repeat' with_reducible refine And.intro ?_ ?_)); (try any_goals (first | refine zm ?_ | exact CL | fail))))
    · have hDr := pUndrain_ps c.gl T.pool hTw.pool j
      have hpw := Pool.drain_wf T.pool hTw.pool j false
      have hY := hT.drain j false
      have es1 := Tb.enc_pool_set hTw hpw
      have hYw : (⟨(T.pool.drain j false).1, T.home, T.maps⟩ : Tb).wf := ⟨hpw, hTw.home⟩
      unfold pairT at hDr
      generalize T.pool.drain j false = d at *
      obtain ⟨q, qe⟩ := d
      dsimp only at *
      have e5 := Pool.enc_len hpw
      (have zf1 := @e2; have zf2 := @e4; refine XG ?_; clear zf1 zf2; ((try (repeat' with_reducible refine And.intro ?_ ?_)); (try any_goals (first | refine zm ?_ | exact CL | fail))))
      ((first | apply pr_psv | apply prD_psv | apply pr_qrunv | apply prD_qrunv) <;> (first | exact hP5 | (refine XG ?_; first | exact rfl | exact True.intro | ((try (repeat' with_reducible refine And.intro ?_ ?_)); (try any_goals (first | refine zm ?_ | exact CL | fail))))))
      have e7 := Tb.enc_len hYw
      ((first | apply pr_psv | apply prD_psv | apply pr_qrunv | apply prD_qrunv) <;> (first | exact hDr | (have zf1 := @e2; have zf2 := @e5; have zf3 := @es1; have zf4 := @e7; refine XG ?_; clear zf1 zf2 zf3 zf4; first | exact rfl | exact True.intro | ((try (repeat' with_reducible refine And.intro ?_ ?_)); (try any_goals (first | refine zm ?_ | exact CL | fail))))))
      have hG' := bGood_ps c.gl (⟨q, T.home, T.maps⟩ : Tb) (hY.ok hYw)
      rw [(goodB_iff _).2 (goodT_GT.2 hY)] at hG'
      have eL := Tb.enc_len hYw
      (have zf1 := @eL; refine XG ?_; clear zf1; ((try (repeat' with_reducible refine And.intro ?_ ?_)); (try any_goals (first | refine zm ?_ | exact CL | fail))))
      ((first | apply pr_psv | apply prD_psv | apply pr_qrunv | apply prD_qrunv) <;> (first | exact hG' | (have zf1 := @eL; refine XG ?_; clear zf1; first | exact rfl | exact True.intro | ((try (repeat' with_reducible refine And.intro ?_ ?_)); (try any_goals (first | refine zm ?_ | exact CL | fail))))))
      (refine xw_ifp (fun hz => ?_) (fun hz => ?_) <;> try exact hz.elim)
      (refine XG ?_; ((try (repeat' with_reducible refine And.intro ?_ ?_)); (try any_goals (first | refine zm ?_ | exact CL | fail))))
      refine ⟨((⟨q, T.home, T.maps⟩ : Tb), k + 1), ⟨hY, hYw, by show k + 1 ≤ l.length; omega⟩, ⟨[], ?_⟩, by show l.length - (k + 1) < l.length - k; omega⟩
      (have zf1 := @plE.eq_1; refine XG ?_; clear zf1; ((try (repeat' with_reducible refine And.intro ?_ ?_)); (try any_goals (first | refine zm ?_ | exact CL | fail))))
end Go.Proofs.Ytphaicaobepimaa
