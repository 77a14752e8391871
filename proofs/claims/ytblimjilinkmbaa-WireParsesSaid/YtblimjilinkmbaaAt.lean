/- Calls that take named blocks and hand blocks back, as steps of a walk. No conditions but the ones that stand in each. -/
import Derived.Test.YtblimjilinkmbaaAs
namespace Go.Proofs.Ytblimjilinkmbaa
set_option linter.all false
set_option linter.unusedSimpArgs false
open Go.RowKit

def sg (ins : List Nat) (m n0 : Nat) (b : Nat) : Nat := if b < m then ins.getD b 0 else n0 + (b - m)
def fitL (σ : Nat → Nat) (s : FS) (m : Nat) : List (Nat × Bk) → Prop
  | [] => True
  | (b, x) :: r => b < m ∧ nmB m x ∧ s.H (σ b) = renB σ x ∧ fitL σ s m r
def distinct : List Nat → Bool
  | [] => true
  | x :: r => r.all (fun y => !(Nat.beq x y)) && distinct r
def insB (ins : List Nat) (m n0 : Nat) : Bool := (ins.length == m) && distinct ins && ins.all (fun j => decide (j < n0))
def freeL (s : FS) : List Nat → Prop
  | [] => True
  | j :: r => s.H j = .free ∧ freeL s r
def houtL (n : Nat) : List (Nat × Bk) → Prop
  | [] => True
  | (b, x) :: r => b < n ∧ nmB n x ∧ houtL n r
def newK (n0 : Nat) : Nat → List Nat
  | 0 => []
  | k + 1 => newK n0 k ++ [n0 + k]
def newN (n0 m n : Nat) : List Nat := newK n0 (n - m)
theorem newK_mem {n0 j : Nat} : ∀ {k : Nat}, j ∈ newK n0 k ↔ ∃ i, i < k ∧ n0 + i = j
  | 0 => by simp [newK]
  | k + 1 => by
    simp only [newK, List.mem_append, newK_mem (k := k), List.mem_singleton]
    constructor
    · rintro (⟨i, h, rfl⟩ | rfl)
      · exact ⟨i, by omega, rfl⟩
      · exact ⟨k, by omega, rfl⟩
    · rintro ⟨i, h, rfl⟩
      by_cases hk : i = k
      · subst hk; exact .inr rfl
      · exact .inl ⟨i, by omega, rfl⟩
def idx : List (Nat × Bk) → List Nat
  | [] => []
  | p :: r => p.1 :: idx r
def upto : Nat → List Nat
  | 0 => []
  | n + 1 => upto n ++ [n]
structure GsOk (s : FS) (n0 : Nat) (ins : List Nat) (args : List AV) (hin : List (Nat × Bk)) (m : Nat) (r : AV) (hout : List (Nat × Bk)) (n : Nat) : Prop where
  fit : fitL (sg ins m n0) s m hin
  cov : idx hin = upto m
  ins : insB ins m n0 = true
  free : freeL s (newN n0 m n)
  out : houtL n hout
  le : m ≤ n
  nr : nmOk n r
  na : nmAll m args

theorem fitL_mem {σ : Nat → Nat} {s : FS} {m : Nat} : ∀ {h : List (Nat × Bk)}, fitL σ s m h → ∀ p ∈ h, p.1 < m ∧ nmB m p.2 ∧ s.H (σ p.1) = renB σ p.2
  | [], _, p, hp => by cases hp
  | (b, x) :: r, h, p, hp => by
    rcases List.mem_cons.1 hp with rfl | hp
    · exact ⟨h.1, h.2.1, h.2.2.1⟩
    · exact fitL_mem h.2.2.2 p hp
theorem houtL_mem {n : Nat} : ∀ {h : List (Nat × Bk)}, houtL n h → ∀ p ∈ h, p.1 < n ∧ nmB n p.2
  | [], _, p, hp => by cases hp
  | (b, x) :: r, h, p, hp => by
    rcases List.mem_cons.1 hp with rfl | hp
    · exact ⟨h.1, h.2.1⟩
    · exact houtL_mem h.2.2 p hp
theorem freeL_mem {s : FS} : ∀ {l : List Nat}, freeL s l → ∀ j ∈ l, s.H j = .free
  | [], _, j, hj => by cases hj
  | x :: l, h, j, hj => by
    rcases List.mem_cons.1 hj with rfl | hj
    · exact h.1
    · exact freeL_mem h.2 j hj
theorem idx_eq : ∀ h : List (Nat × Bk), idx h = h.map (·.1)
  | [] => rfl
  | p :: r => by simp [idx, idx_eq r]
theorem upto_mem : ∀ {n b : Nat}, b ∈ upto n ↔ b < n
  | 0, b => by simp [upto]
  | n + 1, b => by simp [upto, upto_mem (n := n)]; omega
theorem distinct_get : ∀ {l : List Nat}, distinct l = true → ∀ i j, i < l.length → j < l.length → l.getD i 0 = l.getD j 0 → i = j
  | [], _, i, j, hi, _, _ => by simp at hi
  | x :: l, h, i, j, hi, hj, e => by
    simp only [distinct, Bool.and_eq_true] at h
    have hall : ∀ y ∈ l, x ≠ y := fun y hy exy => by
      have := List.all_eq_true.1 h.1 y hy
      subst exy; simp at this
    have hmem : ∀ k, k < l.length → l.getD k 0 ∈ l := fun k hk => by simp only [List.getD, List.getElem?_eq_getElem hk, Option.getD_some]; exact List.getElem_mem hk
    cases i with
    | zero =>
      cases j with
      | zero => rfl
      | succ j => simp only [List.getD_cons_zero, List.getD_cons_succ] at e; exact (hall _ (hmem j (by simpa using hj)) e).elim
    | succ i =>
      cases j with
      | zero => simp only [List.getD_cons_zero, List.getD_cons_succ] at e; exact (hall _ (hmem i (by simpa using hi)) e.symm).elim
      | succ j => simp only [List.getD_cons_succ] at e; rw [distinct_get h.2 i j (by simpa using hi) (by simpa using hj) e]
theorem sg_inj {ins : List Nat} {m n0 : Nat} (h : insB ins m n0 = true) {b b' : Nat} (e : sg ins m n0 b = sg ins m n0 b') : b = b' := by
  simp only [insB, Bool.and_eq_true, beq_iff_eq, List.all_eq_true, decide_eq_true_eq] at h
  obtain ⟨⟨h1, h2⟩, h3⟩ := h
  have hmem : ∀ k, k < m → ins.getD k 0 < n0 := fun k hk => h3 _ (by simp only [List.getD, List.getElem?_eq_getElem (show k < ins.length by omega), Option.getD_some]; exact List.getElem_mem _)
  unfold sg at e
  split at e <;> split at e
  · exact distinct_get h2 b b' (by omega) (by omega) e
  · rename_i x y; have := hmem b x; omega
  · rename_i x y; have := hmem b' y; omega
  · omega

section
variable {P : Program} {c : Cx}
/-- The blocks behind the call, as a list put ahead of those that were there. -/
def outH (σ : Nat → Nat) (hout : List (Nat × Bk)) (n : Nat) : Nat → List (Nat × Bk)
  | 0 => []
  | k + 1 => (σ k, renB' σ (lookb hout n k)) :: outH σ hout n k
def gsSt (s : St) (d : Option Nat) (ins : List Nat) (m : Nat) (r : AV) (hout : List (Nat × Bk)) (n : Nat) : St :=
  St.putO ⟨s.t, outH (sg ins m s.n) hout n n ++ s.h, s.n + (n - m)⟩ d (ren (sg ins m s.n) r)
def gsFoot (s : St) (d : Option Nat) (xs : List TV) (ins : List Nat) (m n : Nat) : Foot := ⟨tmpsOf xs, ins ++ newN s.n m n, d.toList, ins ++ newN s.n m n⟩
theorem lookb_app (h h2 : List (Nat × Bk)) (n j : Nat) : (∃ p ∈ h, p.1 = j) ∧ (∃ p ∈ h, p.1 = j ∧ lookb (h ++ h2) n j = p.2) ∨ (∀ p ∈ h, p.1 ≠ j) ∧ lookb (h ++ h2) n j = lookb h2 n j := by
  induction h with
  | nil => right; exact ⟨fun p hp => (by cases hp), rfl⟩
  | cons p r ih =>
    obtain ⟨i, x⟩ := p
    rw [List.cons_append, lookb_cons]
    by_cases hi : i = j
    · left
      rw [if_pos hi]
      exact ⟨⟨(i, x), by simp, hi⟩, (i, x), by simp, hi, rfl⟩
    · rw [if_neg hi]
      rcases ih with ⟨⟨p, hp, e⟩, q, hq, e1, e2⟩ | ⟨h1, h2⟩
      · exact .inl ⟨⟨p, by simp [hp], e⟩, q, by simp [hq], e1, e2⟩
      · refine .inr ⟨fun p hp => ?_, h2⟩
        rcases List.mem_cons.1 hp with rfl | hp
        · exact hi
        · exact h1 p hp
theorem outH_mem {σ : Nat → Nat} {hout : List (Nat × Bk)} {n : Nat} : ∀ {k : Nat} {p : Nat × Bk}, p ∈ outH σ hout n k ↔ ∃ b, b < k ∧ p = (σ b, renB' σ (lookb hout n b))
  | 0, p => by simp [outH]
  | k + 1, p => by
    simp only [outH, List.mem_cons, outH_mem (k := k)]
    constructor
    · rintro (rfl | ⟨b, hb, rfl⟩)
      · exact ⟨k, by omega, rfl⟩
      · exact ⟨b, by omega, rfl⟩
    · rintro ⟨b, hb, rfl⟩
      by_cases h : b = k
      · subst h; exact .inl rfl
      · exact .inr ⟨b, by omega, rfl⟩

theorem VRs_unren {σ : Nat → Nat} {m : Nat} {g g1 : Nat → GM} {W W' : Nat → Prop} {w : World} (hg : ∀ b, b < m → g (σ b) ≠ .un → g (σ b) = g1 b) (hW : ∀ k, W' k → W k) : ∀ {args : List AV} {vs : List Value}, nmAll m args → VRs g W w (rens σ args) vs → VRs g1 W' w args vs
  | [], [], _, _ => trivial
  | x :: xs, v :: vs, hn, h => by
    rw [rens_eq, List.map_cons, ← rens_eq] at h
    exact ⟨(h.1.unren hg x rfl hn.1).mono (Fr.refl _ _) (fun k _ => hW k) (fun _ _ => rfl), VRs_unren hg hW hn.2 h.2⟩
  | [], _ :: _, _, h => by rw [rens_eq] at h; exact h.elim
  | _ :: _, [], _, h => by rw [rens_eq] at h; exact h.elim
theorem gs_AOkT {s : St} {d : Option Nat} {f : FuncId} {xs : List TV} {ins : List Nat} {args : List AV} {hin : List (Nat × Bk)} {m : Nat} {r : AV} {hout : List (Nat × Bk)} {n : Nat} (hgs : GS P c.gl f args hin m r hout n) (hc : cokAll none (evs c.gl s.fs xs))
    (hargs : (evs c.gl s.fs xs).map strip = rens (sg ins m s.n) args) (ok : GsOk s.fs s.n ins args hin m r hout n) : AOkT P c (.pd d (.call f) xs none) s.fs (gsFoot s d xs ins m n) (gsSt s d ins m r hout n).fs := by
  intro ops io he
  obtain ⟨hgd, hdst, hd, ys, hel, rfl⟩ := elab_pd he
  obtain ⟨ts, hop⟩ := elab_call hel
  have hsg : ∀ b b', b < n → b' < n → sg ins m s.n b = sg ins m s.n b' → b = b' := fun b b' _ _ e => sg_inj ok.ins e
  have hlen : ins.length = m := by
    have := ok.ins; simp only [insB, Bool.and_eq_true, beq_iff_eq] at this; exact this.1.1
  -- the names that are touched
  have hnames : ∀ b, b < n → sg ins m s.n b ∈ ins ++ newN s.n m n := fun b hb => by
    unfold sg
    split
    · rename_i h
      refine List.mem_append_left _ ?_
      simp only [List.getD, List.getElem?_eq_getElem (show b < ins.length by omega), Option.getD_some]; exact List.getElem_mem _
    · refine List.mem_append_right _ ?_
      simp only [newN, newK_mem]; exact ⟨b - m, by omega, rfl⟩
  have hback : ∀ j, j ∈ ins ++ newN s.n m n → ∃ b, b < n ∧ sg ins m s.n b = j := fun j hj => by
    rcases List.mem_append.1 hj with h | h
    · obtain ⟨i, hi, rfl⟩ := List.getElem_of_mem h
      have := ok.le
      refine ⟨i, by omega, ?_⟩
      unfold sg; rw [if_pos (by omega)]; simp [List.getD, hi]
    · simp only [newN, newK_mem] at h
      obtain ⟨i, hi, rfl⟩ := h
      exact ⟨m + i, by omega, by unfold sg; rw [if_neg (by omega)]; omega⟩
  have hfsH : ∀ j, (gsSt s d ins m r hout n).fs.H j = lookb (outH (sg ins m s.n) hout n n ++ s.h) (s.n + (n - m)) j := fun j => by cases d <;> rfl
  have hfsT : ∀ i, (gsSt s d ins m r hout n).fs.T i = match d with | some d => (if d = i then ren (sg ins m s.n) r else s.fs.T i) | none => s.fs.T i := fun i => by
    cases d with
    | none => rfl
    | some d => show look ((d, _) :: s.t) i = _; rw [look_cons]; rfl
  have hin' : ∀ b, b < n → lookb (outH (sg ins m s.n) hout n n ++ s.h) (s.n + (n - m)) (sg ins m s.n b) = renB' (sg ins m s.n) (lookb hout n b) := fun b hb => by
    rcases lookb_app (outH (sg ins m s.n) hout n n) s.h (s.n + (n - m)) (sg ins m s.n b) with ⟨_, p, hp, e1, e2⟩ | ⟨h1, _⟩
    · obtain ⟨b', hb', rfl⟩ := outH_mem.1 hp
      have := hsg b' b hb' hb e1
      subst this; exact e2
    · exact (h1 _ (outH_mem.2 ⟨b, hb, rfl⟩) rfl).elim
  have hrest : ∀ j, j ∉ ins ++ newN s.n m n → lookb (outH (sg ins m s.n) hout n n ++ s.h) (s.n + (n - m)) j = s.fs.H j := fun j hj => by
    rcases lookb_app (outH (sg ins m s.n) hout n n) s.h (s.n + (n - m)) j with ⟨⟨p, hp, e⟩, _⟩ | ⟨_, h2⟩
    · obtain ⟨b, hb, rfl⟩ := outH_mem.1 hp
      exact (hj (e ▸ hnames b hb)).elim
    · rw [h2]
      show lookb s.h (s.n + (n - m)) j = lookb s.h s.n j
      have hno : ∀ k, k ≤ n - m → lookb s.h (s.n + k) j = lookb s.h s.n j := fun k hk => by
        induction k with
        | zero => rfl
        | succ k ih =>
          rw [← ih (by omega)]
          refine lookb_up s.h (s.n + k) j fun e => hj ?_
          refine List.mem_append_right _ ?_
          simp only [newN, newK_mem]; exact ⟨k, by omega, e.symm⟩
      exact hno _ (Nat.le_refl _)
  refine ⟨fun i hi => ?_, fun j hj => ?_, fun s2 hT hH g a w hR K Q' hK => exec_of_none (gd_none hgd) ?_⟩
  · rw [hfsT]
    cases d with
    | none => rfl
    | some d => simp only [gsFoot, Option.toList_some, List.mem_singleton] at hi; simp only; rw [if_neg fun e => hi e.symm]
  · rw [hfsH]; exact hrest j hj
  · have hevs : evs c.gl s2 (ys.map tvO) = evs c.gl s.fs (ys.map tvO) := evs_congr fun i hi => hT i hi
    have hv := VRs_strip (hR.evs ys) (by rw [hevs]; exact hc)
    rw [hevs, hargs] at hv
    have fit2 : Fit (sg ins m s.n) s2 hin m := by
      refine ⟨fun p hp => ?_, fun p hp q hq e => sg_inj ok.ins e⟩
      obtain ⟨q1, q2, q3⟩ := fitL_mem ok.fit p hp
      exact ⟨q1, q2, by rw [hH _ (hnames p.1 (Nat.lt_of_lt_of_le q1 ok.le))]; exact q3⟩
    have hcov : ∀ b, b < m → ∃ p ∈ hin, p.1 = b := fun b hb => by
      have := upto_mem.2 hb
      rw [← ok.cov, idx_eq] at this
      obtain ⟨p, hp, e⟩ := List.mem_map.1 this
      exact ⟨p, hp, e⟩
    have hnew : ∀ b, m ≤ b → b < n → s2.H (sg ins m s.n b) = .free := fun b h1 h2 => by
      rw [hH _ (hnames b h2)]
      refine freeL_mem ok.free _ ?_
      unfold sg; rw [if_neg (by omega)]
      simp only [newN, newK_mem]; exact ⟨b - m, by omega, rfl⟩
    obtain ⟨g1, hg1, hRl, hWl⟩ := lend hR fit2
    have hv1 := VRs_unren (g1 := g1) hg1 hWl ok.na hv
    have hcall := hgs.2 w _ _ _ g1 hRl hv1
    unfold Oper.wp
    rw [run_call hgs.1 hop]
    rw [Oper.upon_enter]
    refine hcall.mono fun e w' ⟨v, g2, e1, e2, e3, e4⟩ => ?_
    subst e1
    let s3 : FS := ⟨s2.T, fun j => if j ∈ ins ++ newN s.n m n then (gsSt s d ins m r hout n).fs.H j else s2.H j⟩
    have hb : Back (sg ins m s.n) s2 s3 hout n := by
      refine ⟨fun i => rfl, fun b hbn => ?_, fun j hj => ?_⟩
      · show (if _ then _ else _) = _
        rw [if_pos (hnames b hbn), hfsH, hin' b hbn]
      · show (if _ then _ else _) = _
        rw [if_neg fun h => ?_]
        obtain ⟨b, hbn, rfl⟩ := hback j h
        exact hj b hbn rfl
    obtain ⟨hR3, hval⟩ := take_back hR fit2 hcov ok.le hsg hnew (fun p hp => (houtL_mem ok.out p hp).2) (fun p hp => (houtL_mem ok.out p hp).1) hg1 e3 e2 hb
    have hv3 := hval ok.nr e4
    show K (a.put io.dst v) w'
    rw [hdst]
    cases d with
    | none =>
      refine hK (backG g g2 (sg ins m s.n) n) _ w' ?_
      have : ovr s2 (gsSt s none ins m r hout n).fs (gsFoot s none (ys.map tvO) ins m n) = s3 := by
        refine fs_ext (fun i => ?_) fun j => rfl
        show (if i ∈ ([] : List Nat) then (gsSt s none ins m r hout n).fs.T i else s2.T i) = s2.T i
        simp
      rw [this]; exact hR3
    | some d =>
      refine hK (backG g g2 (sg ins m s.n) n) _ w' ?_
      have : ovr s2 (gsSt s (some d) ins m r hout n).fs (gsFoot s (some d) (ys.map tvO) ins m n) = s3.put d (ren (sg ins m s.n) r) := by
        refine fs_ext (fun i => ?_) fun j => rfl
        show (if i ∈ [d] then (gsSt s (some d) ins m r hout n).fs.T i else s2.T i) = _
        rw [FS.T_put, hfsT]
        by_cases h : d = i
        · subst h; simp
        · rw [if_neg (by simpa using fun e : i = d => h e.symm), if_neg h]
      rw [this]; exact hR3.put (by simpa using hd) hv3
theorem pr_gs {r0 : List TOp} {K : St → Prop} {s : St} {d : Option Nat} {f : FuncId} {xs : List TV} {ins : List Nat} {args : List AV} {hin : List (Nat × Bk)} {m : Nat} {r : AV} {hout : List (Nat × Bk)} {n : Nat} (hgs : GS P c.gl f args hin m r hout n)
    (hargs : (evs c.gl s.fs xs).map strip = rens (sg ins m s.n) args) (h : cokAll none (evs c.gl s.fs xs) ∧ GsOk s.fs s.n ins args hin m r hout n ∧ XP P c r0 K (gsSt s d ins m r hout n)) : PendR P c (.pd d (.call f) xs none) r0 K s :=
  ⟨_, _, gs_AOkT hgs h.1 hargs h.2.1, h.2.2⟩
theorem prD_gs {anc : List Nat} {fs : List Foot} {r0 : List TOp} {K : St → Prop} {s : St} {d : Option Nat} {f : FuncId} {xs : List TV} {ins : List Nat} {args : List AV} {hin : List (Nat × Bk)} {m : Nat} {r : AV} {hout : List (Nat × Bk)} {n : Nat} (hgs : GS P c.gl f args hin m r hout n)
    (hargs : (evs c.gl s.fs xs).map strip = rens (sg ins m s.n) args) (h : cokAll none (evs c.gl s.fs xs) ∧ GsOk s.fs s.n ins args hin m r hout n ∧ XD P c anc r0 (gsFoot s d xs ins m n :: fs) K (gsSt s d ins m r hout n)) : PendDR P c anc (.pd d (.call f) xs none) r0 fs K s :=
  ⟨_, _, gs_AOkT hgs h.1 hargs h.2.1, h.2.2⟩
end

theorem FT.gs {P : Program} {gl : Nat → AV} {f : FuncId} {fn : Func} {t : TC} {rs : List RS} (hF : FT P f fn t rs) {args : List AV} {hin hout : List (Nat × Bk)} {m n : Nat} {r : AV} (hN : args.length ≤ fn.ntmps) (hlive : ∀ p ∈ hin, p.2.live)
    (h : ∀ c : Cx, (∀ p ∈ c.gh, p.1 < m) → c.gl = gl → xw P c t (genK m rs r hout n) ⟨argT 0 args, hin, m⟩) : GS P gl f args hin m r hout n := by
  have hc := hF.code
  cases hb : fn.body with
  | none => rw [hb] at hc; simp at hc
  | some code =>
    rw [hb] at hc
    exact gs_of_xw hF.mixed hF.func hb hF.name hc hF.res hN hlive h
theorem gsOk_eq (s : FS) (n0 : Nat) (ins : List Nat) (args : List AV) (hin : List (Nat × Bk)) (m : Nat) (r : AV) (hout : List (Nat × Bk)) (n : Nat) : GsOk s n0 ins args hin m r hout n =
    (fitL (sg ins m n0) s m hin ∧ idx hin = upto m ∧ insB ins m n0 = true ∧ freeL s (newN n0 m n) ∧ houtL n hout ∧ m ≤ n ∧ nmOk n r ∧ nmAll m args) :=
  propext ⟨fun h => ⟨h.fit, h.cov, h.ins, h.free, h.out, h.le, h.nr, h.na⟩, fun ⟨a, b, c, d, e, f, g, h⟩ => ⟨a, b, c, d, e, f, g, h⟩⟩
theorem g_genK_ret (m : Nat) (rs : List RS) (r : AV) (hout : List (Nat × Bk)) (n : Nat) (s : St) : genK m rs r hout n .ret s = (rvOk s.fs rs ∧ ∃ ρ, pinL m ρ n ∧ Sub (rl ρ) ⟨[(0, rvs s.fs rs)], s.h, s.n⟩ ⟨[(0, r)], hout, n⟩) := rfl
theorem g_genK_normal (m : Nat) (rs : List RS) (r : AV) (hout : List (Nat × Bk)) (n : Nat) (s : St) : genK m rs r hout n .normal s = (rvOk s.fs rs ∧ ∃ ρ, pinL m ρ n ∧ Sub (rl ρ) ⟨[(0, rvs s.fs rs)], s.h, s.n⟩ ⟨[(0, r)], hout, n⟩) := rfl
theorem g_loopKG_normal {σ : Type} (m : Nat) (I : σ → Prop) (emb : σ → St) (μ : σ → Nat) (x : σ) (Q : EX → St → Prop) (s : St) : loopKG m I emb μ x Q .normal s = ∃ y, I y ∧ (∃ ρ, pinL m ρ (emb y).n ∧ Sub (rl ρ) s (emb y)) ∧ μ y < μ x := rfl
theorem g_loopKG_ret {σ : Type} (m : Nat) (I : σ → Prop) (emb : σ → St) (μ : σ → Nat) (x : σ) (Q : EX → St → Prop) (s : St) : loopKG m I emb μ x Q .ret s = Q .ret s := rfl
theorem g_loopKG_exit {σ : Type} (m : Nat) (I : σ → Prop) (emb : σ → St) (μ : σ → Nat) (x : σ) (Q : EX → St → Prop) (i : Nat) (s : St) : loopKG m I emb μ x Q (.exit i) s = Q (.exit i) s := rfl
theorem g_pinL_nil (m n : Nat) : pinL m [] n = (m ≤ n) := propext ⟨fun h => h.2, fun h => ⟨fun p hp => (by cases hp), h⟩⟩
theorem g_pinL_cons (m i j n : Nat) (r : List (Nat × Nat)) : pinL m ((i, j) :: r) n = (m ≤ i ∧ pinL m r n) := propext ⟨fun h => ⟨h.1 (i, j) (by simp), fun p hp => h.1 p (by simp [hp]), h.2⟩, fun h => ⟨fun p hp => by
  rcases List.mem_cons.1 hp with rfl | hp
  · exact h.1
  · exact h.2.1 p hp, h.2.2⟩⟩
theorem g_renB'_cells (σ : Nat → Nat) (cs : List AV) : renB' σ (.cells cs) = renB σ (.cells cs) := rfl
theorem g_renB'_mapb (σ : Nat → Nat) (kvs : List (AV × AV)) : renB' σ (.mapb kvs) = renB σ (.mapb kvs) := rfl
theorem g_renB'_dead (σ : Nat → Nat) : renB' σ .dead = .dead := rfl
theorem g_ob_sub (a : Nat) : a - 0 = a := rfl
attribute [go_sem] gsOk_eq gsSt gsFoot sg fitL houtL freeL newN newK outH idx upto insB distinct g_genK_ret g_genK_normal g_loopKG_normal g_loopKG_ret g_loopKG_exit g_pinL_nil g_pinL_cons g_renB'_cells g_renB'_mapb g_renB'_dead List.all_cons List.all_nil
end Go.Proofs.Ytblimjilinkmbaa
