/- Rows that are shortened in place: a slice with a bound, an append that has room, a piece that is cleared. No conditions but the ones that stand in each. -/
import Derived.Test.YtphaicaobepimaaE6
namespace Go.Proofs.Ytphaicaobepimaa
set_option linter.all false
set_option linter.unusedSimpArgs false
open Go.RowKit

/-- A block of cells. -/
def isC : Bk → Prop
  | .cells _ => True
  | _ => False
theorem isC_live {x : Bk} (h : isC x) : x.live := by cases x <;> first | exact h.elim | trivial
theorem e_isC (cs : List AV) : isC (.cells cs) = True := rfl
attribute [go_sem] e_isC

section
variable {P : Program} {c : Cx} {ops : Array Oper} {io : Oper}

theorem elab_sl3 {o : Oper} {es : Nat} {lo hi : Bool} {xs : List Operand} (h : elabPK P o = some (.sl3 es lo hi, xs)) : ∃ t x l h' mx e, o.op = .slice t x l h' (some mx) ∧ P.underlying t = some (.slice e) ∧ sizeT P e = some es ∧ l.isSome = lo ∧ h'.isSome = hi ∧ xs = x :: (l.toList ++ h'.toList ++ [mx]) := by
  unfold elabPK at h
  repeat' split at h
  all_goals first
    | (simp only [Option.map_eq_some_iff, Prod.mk.injEq, PK.sl3.injEq] at h; obtain ⟨es', h1, ⟨rfl, rfl, rfl⟩, rfl⟩ := h; exact ⟨_, _, _, _, _, _, by assumption, by assumption, h1, rfl, rfl, rfl⟩)
    | (simp at h; done)
    | (cases h; done)
    | (simp [Option.map_eq_some_iff] at h; done)
theorem vint {g : Nat → GM} {W : Nat → Prop} {w : World} {k : IntKind} {n : Int} {v : Value} (h : VR g W w (.int k n) v) : v = .int k n := by cases h; rfl
/-- A slice with its bound: that it is taken; what it holds is not told. -/
theorem sl3_run {es b off n cc : Nat} {k1 k2 k3 : IntKind} {i j m : Int} (h0 : 0 ≤ i) (h1 : i ≤ j) (h2 : j ≤ m) (h3 : m ≤ cc) : QRun P c (.sl3 es true true) [.sl es b off n cc, .int k1 i, .int k2 j, .int k3 m] .any := by
  intro o ys hel g W a w _ _ hv K Q hK
  obtain ⟨t, x, l, h', mx, e, hop, hu, hes, hl, hh, rfl⟩ := elab_sl3 hel
  obtain ⟨lo, rfl⟩ := Option.isSome_iff_exists.1 hl
  obtain ⟨hi, rfl⟩ := Option.isSome_iff_exists.1 hh
  obtain ⟨hx, hv1, hv2, hv3, _⟩ := hv
  have he : P.elem t = e := by simp [Program.elem, hu]
  have hkey : ∀ (ad : Option Addr) (len cap : Nat), cc ≤ cap → a.eval x = .slice ad len cap → ∃ v, (execOp a.eval o).run P w = .ok (.value v) w := by
    intro ad len cap hcap hx
    have e1 : a.eval lo = .int k1 i := vint hv1
    have e2 : a.eval hi = .int k2 j := vint hv2
    have e3 : a.eval mx = .int k3 m := vint hv3
    refine ⟨sliced ad i.toNat j.toNat m.toNat es, ?_⟩
    simp only [execOp, hop]
    refine run_v ?_
    simp only [Option.map_some, hx, e1, e2, e3]
    rw [run_sliceAt_slice _ _ _ _ _ _ (by rw [he]; exact hu), run_slice_lhm _ _ _ _ _ (by rw [he]; exact hu) k1 k2 k3 i j m h0 h1 h2 (by omega), he, run_sizeT hes]
    rfl
  have hfin : ∃ v, (execOp a.eval o).run P w = .ok (.value v) w := by
    rcases sl_inv hx with ⟨k, cap, e', cur, fz, e1, _, _, q2, _, _, _⟩ | ⟨ad, e1, _, _, q⟩
    · exact hkey _ _ cap q2 e1
    · exact hkey _ _ 0 (by omega) e1
  obtain ⟨v, hr⟩ := hfin
  unfold Oper.wp
  rw [hr]
  exact hK _ _ (Fr.refl _ _) (.any _)

/-! ### An append that has room -/
variable {g : Nat → GM} {s : FS} {a : Act} {w : World}
theorem appI_core (hR : R c g s a w) {t u ty e : TypeId} {i : TypeInfo} {z : Value} {es : Nat} (ht : P.underlying t = some (.slice e)) (hu : u = t ∨ P.underlying u = some .string) (hi : P.info? e = some i) (hz : i.zero = some z) (hes : i.size = es) (hzs : z.cells.size = es)
    {b n cc : Nat} {vx : AV} {ub ux : Value} {str : Bool} (hb : VR g (wset c g s) w (.sl es b 0 n cc) ub) (hx : VR g (wset c g s) w vx ux) (hl : n * es ≤ (cellsB (s.H b)).length) (hisC : isC (s.H b)) (okx : srcOk s es str vx) (hroom : n + srcN vx ≤ cc) :
    ∃ v' w', (Builtin.append_ #[t, u] ty #[ub, ux]).run P w = .ok v' w' ∧ R c g (s.putB b (.cells (srcC s es (.sl es b 0 n cc) ++ srcC s es vx))) a w' ∧
      VR g (wset c g (s.putB b (.cells (srcC s es (.sl es b 0 n cc) ++ srcC s es vx)))) w' (.sl es b 0 (n + srcN vx) cc) v' := by
  have hlive := isC_live hisC
  obtain ⟨news, q1, q2, q3, q4, q5, q6⟩ := src_core (P := P) hR hx okx
  obtain ⟨olds, o1, o2, o3, o4, o5, o6⟩ := src_core (P := P) (str := false) hR hb (x := .sl es b 0 n cc) ⟨rfl, rfl, by simpa using hl⟩
  simp only [srcN_sl] at o1 o2 o3 o4 o6
  rcases sl_inv hb with ⟨k, cap, e', cur, fz, rfl, h1, h2, h3, h4, h5, h6⟩ | ⟨ad, rfl, h1, rfl, rfl⟩
  · have hlen : (olds ++ news).length = (n + srcN vx) * es := by rw [List.length_append, o3, q3, Nat.add_mul]
    have hclen : (srcC s es (.sl es b 0 n cc) ++ srcC s es vx).length = (n + srcN vx) * es := by rw [List.length_append, o4, q4, Nat.add_mul]
    have h1c : ∀ v ∈ olds ++ news, v.oneCell' = true := fun v hv => (List.mem_append.1 hv).elim (o5 v) (q5 v)
    have hvc : ∀ j, j < (n + srcN vx) * es → VR g (wset c g s) w ((srcC s es (.sl es b 0 n cc) ++ srcC s es vx).getD j .any) ((olds ++ news).getD j undef) := fun j hj => by
      by_cases hjn : j < n * es
      · have := o6 j hjn
        simp only [List.getD, List.getElem?_append_left (show j < (srcC s es (.sl es b 0 n cc)).length by omega), List.getElem?_append_left (show j < olds.length by omega)] at this ⊢
        exact this
      · have := q6 (j - n * es) (by rw [Nat.add_mul] at hj; omega)
        simp only [List.getD, List.getElem?_append_right (show (srcC s es (.sl es b 0 n cc)).length ≤ j by omega), List.getElem?_append_right (show olds.length ≤ j by omega), o3, o4] at this ⊢
        exact this
    have hroom' : n + srcN vx ≤ cap := by omega
    have hBR := hR.h b
    rw [h1] at hBR
    have hfz : fz = (0, 0) ∨ cur.size ≤ fz.1 := by
      cases hh : s.H b with
      | cells cs => rw [hh] at hBR; cases hBR with | cells hb' _ _ _ hf => rw [h5] at hb'; cases hb'; exact hf
      | mapb kvs dn => rw [hh] at hBR; cases hBR with | mapb hb' => rw [h5] at hb'; cases hb'
      | mapx kvs bs ck => rw [hh] at hBR; cases hBR with | mapx hb' => rw [h5] at hb'; cases hb'
      | iter b0 ck seen => rw [hh] at hBR; cases hBR with | iter hb' => rw [h5] at hb'; cases hb'
      | bag ls => rw [hh] at hisC; exact hisC.elim
      | free => rw [hh] at hlive; exact hlive.elim
      | dead => rw [hh] at hlive; exact hlive.elim
    have hmul : (n + srcN vx) * es ≤ cap * es := Nat.mul_le_mul_right _ hroom'
    have hfit : n * i.size + news.length ≤ cur.size := by rw [hes, q3, ← Nat.add_mul]; omega
    have hr := run_append_in (ty := ty) (P := P) ht hu hi k n cap ux (srcN vx) news cur e' fz w q1 h5 hfz (by rw [hes]; exact q2) q5 hroom' hfit
    rw [hes] at hr
    have hnc : n * es ≤ cap * es := Nat.mul_le_mul_right es (Nat.le_trans h2 h3)
    have holds : olds = cur.toList.take (n * es) := by
      have a1 := o2 w rfl
      have a2 := run_firstCells_some (P := P) w es n ⟨k, 0, none⟩ n cap (cur.toList.take (n * es)) (by simp; omega) (by have := row_cells h5 (o := 0) (n := n * es) (by omega) w rfl; simpa using this)
      rw [a1] at a2
      simpa using a2
    have hsz : (cur.toList.take (n * es) ++ news ++ cur.toList.drop (n * es + news.length)).toArray.size = cur.size := by
      rw [hes] at hfit
      simp; omega
    have hget : ∀ j, j < (n + srcN vx) * es → (cur.toList.take (n * es) ++ news ++ cur.toList.drop (n * es + news.length)).toArray.getD j undef = (olds ++ news).getD j undef := fun j hj => by
      rw [← holds]
      simp only [Array.getD_eq_getD_getElem?, List.getD, List.getElem?_toArray]
      rw [List.getElem?_append_left (by omega)]
    have hf := setRow_fr (new := (cur.toList.take (n * es) ++ news ++ cur.toList.drop (n * es + news.length)).toArray) h5 hsz
    have hkw : wset c g s k := .inr ⟨b, hlive, h1⟩
    have hset := hR.setBlock (x := .cells (srcC s es (.sl es b 0 n cc) ++ srcC s es vx)) h1 hlive trivial hf (by
      refine .cells (cur := (cur.toList.take (n * es) ++ news ++ cur.toList.drop (n * es + news.length)).toArray) (e := e') (fz := fz) (setRow_heap w k cur _ e' fz h5) (by omega) (fun j hj => ?_) (fun j hj => ?_) (by rw [hsz]; exact hfz)
      · rw [hget j (by omega)]
        have hj' : j < (olds ++ news).length := by omega
        simp only [List.getD, List.getElem?_eq_getElem hj', Option.getD_some]
        exact h1c _ (List.getElem_mem hj')
      · rw [hget j (by omega)]
        exact (hvc j (by omega)).mono (hf.weak fun i hi => hi ▸ hkw) (fun _ _ h => h) (fun _ _ => rfl))
    exact ⟨_, _, hr, hset, .sl (k := k) (e := e') (fz := fz) h1 hroom h3 h4 (setRow_heap w k cur _ e' fz h5) (by rw [hsz]; exact h6)⟩
  · have hm : srcN vx = 0 := by omega
    rw [hm] at q1 q2 q3 q4
    have hn : news = [] := List.eq_nil_of_length_eq_zero (by omega)
    have hc : srcC s es vx = [] := List.eq_nil_of_length_eq_zero (by omega)
    have hc2 : srcC s es (.sl es b 0 0 0) = [] := List.eq_nil_of_length_eq_zero (by omega)
    subst hn
    have hr := run_append_no (P := P) (ty := ty) ht hu hi ad 0 0 ux w q1 (by rw [hes]; exact q2) (Nat.le_refl _)
    have hb0 : s.H b = .cells [] := by
      have hBR := hR.h b
      rw [h1] at hBR
      cases hh : s.H b with
      | cells cs => rw [hh] at hBR; cases hBR; rfl
      | mapb kvs dn => rw [hh] at hBR; cases hBR
      | mapx kvs bs ck => rw [hh] at hBR; cases hBR
      | iter b0 ck seen => rw [hh] at hBR; cases hBR
      | bag ls => rw [hh] at hisC; exact hisC.elim
      | free => rw [hh] at hlive; exact hlive.elim
      | dead => rw [hh] at hlive; exact hlive.elim
    have hs : s.putB b (.cells (srcC s es (.sl es b 0 0 0) ++ srcC s es vx)) = s := by
      rw [hc, hc2]
      refine fs_ext (fun _ => rfl) fun j => ?_
      rw [FS.H_putB]; split
      · rename_i h; subst h; rw [hb0]; rfl
      · rfl
    rw [hs, hm]
    exact ⟨_, _, hr, hR, .slp h1 rfl⟩

def appIOk (s : FS) (es : Nat) (str : Bool) : List AV → Prop
  | [.sl es2 b o n cc, vx] => es2 = es ∧ o = 0 ∧ n * es ≤ (cellsB (s.H b)).length ∧ isC (s.H b) ∧ srcOk s es str vx ∧ n + srcN vx ≤ cc
  | _ => False
def appIV (es : Nat) : List AV → AV
  | [.sl _ b _ n cc, vx] => .sl es b 0 (n + srcN vx) cc
  | _ => .any
def appIB : List AV → Nat
  | .sl _ b _ _ _ :: _ => b
  | _ => 0
theorem e_appIOk (s : FS) (es es2 b o n cc : Nat) (str : Bool) (vx : AV) : appIOk s es str [.sl es2 b o n cc, vx] = (es2 = es ∧ o = 0 ∧ n * es ≤ (cellsB (s.H b)).length ∧ isC (s.H b) ∧ srcOk s es str vx ∧ n + srcN vx ≤ cc) := rfl
theorem e_appIV (es es2 b o n cc : Nat) (vx : AV) : appIV es [.sl es2 b o n cc, vx] = .sl es b 0 (n + srcN vx) cc := rfl
theorem e_appIB (es2 b o n cc : Nat) (r : List AV) : appIB (.sl es2 b o n cc :: r) = b := rfl
attribute [go_sem] e_appIOk e_appIV e_appIB
def appIFoot (s : St) (gl : Nat → AV) (d : Nat) (xs : List TV) : Foot := ⟨tmpsOf xs, appIB ((evs gl s.fs xs).map strip) :: appR ((evs gl s.fs xs).map strip), [d], [appIB ((evs gl s.fs xs).map strip)]⟩
def appISt (s : St) (gl : Nat → AV) (d es : Nat) (xs : List TV) : St := (s.putB (appIB ((evs gl s.fs xs).map strip)) (.cells (appC s.fs es ((evs gl s.fs xs).map strip)))).put d (appIV es ((evs gl s.fs xs).map strip))
theorem appI_AOkT {s : St} {d es by_ : Nat} {str : Bool} {xs : List TV} (hc : cokAll none (evs c.gl s.fs xs)) (hok : appIOk s.fs es str ((evs c.gl s.fs xs).map strip)) :
    AOkT P c (.pd (some d) (.app es by_ str) xs none) s.fs (appIFoot s c.gl d xs) (appISt s c.gl d es xs).fs := by
  intro ops io he
  obtain ⟨hgd, hdst, hd, ys, hel, rfl⟩ := elab_pd he
  obtain ⟨x, y, t, u, e, i, z, rfl, hop, hu, hi, hz, hzs, hes, hby, hut⟩ := elab_app hel
  have hv2 : (evs c.gl s.fs ([x, y].map tvO)).map strip = [strip (evT c.gl s.fs (tvO x)), strip (evT c.gl s.fs (tvO y))] := rfl
  unfold appIFoot appISt
  rw [hv2] at hok ⊢
  generalize hvb : strip (evT c.gl s.fs (tvO x)) = vb at *
  generalize hvx : strip (evT c.gl s.fs (tvO y)) = vx at *
  cases vb <;> simp only [appIOk] at hok
  rename_i es2 b o n cc
  obtain ⟨rfl, rfl, hl, hlive, okx, hroom⟩ := hok
  rw [St.fs_put, St.fs_putB]
  simp only [appIB, appIV, appR, appC]
  refine row_AOk (kb := none) (gd_none hgd) hdst (by simpa using hd) fun s2 hT hH g a w hR => ?_
  have hevs : evs c.gl s2 ([x, y].map tvO) = evs c.gl s.fs ([x, y].map tvO) := evs_congr hT
  have hvs := VRs_strip (hR.evs [x, y]) (by rw [hevs]; exact hc)
  rw [hevs, hv2] at hvs
  obtain ⟨v1, v2, _⟩ := hvs
  have hHb : s2.H b = s.fs.H b := hH b (by simp)
  have hHx : ∀ b', srcB vx = some b' → s2.H b' = s.fs.H b' := fun b' h => hH b' (by simp [h])
  obtain ⟨v', w', hr, h1, h2⟩ := appI_core (P := P) (ty := io.type) hR hu hut hi hz hes (hzs.trans hes) v1 v2 (by rw [hHb]; exact hl) (by rw [hHb]; exact hlive) (srcOk_congr hHx okx) hroom
  rw [srcC_congr (s := s.fs) (x := .sl es2 b 0 n cc) fun b' h => by cases h; exact hHb, srcC_congr hHx] at h1 h2
  refine ⟨g, v', w', ?_, h1, h2⟩
  unfold execOp
  simp only [hop, resolve, invoke, builtin, Sem.run_bind, Sem.run_pure, Result.andThen_ok, List.map_toArray, List.map_cons, List.map_nil, hr]
theorem pr_appI {r0 : List TOp} {K : St → Prop} {s : St} {d es by_ : Nat} {str : Bool} {xs : List TV} (h : cokAll none (evs c.gl s.fs xs) ∧ appIOk s.fs es str ((evs c.gl s.fs xs).map strip) ∧ XP P c r0 K (appISt s c.gl d es xs)) :
    PendR P c (.pd (some d) (.app es by_ str) xs none) r0 K s := .inl ⟨_, _, appI_AOkT h.1 h.2.1, h.2.2⟩
theorem prD_appI {anc : List Nat} {fs : List Foot} {r0 : List TOp} {K : St → Prop} {s : St} {d es by_ : Nat} {str : Bool} {xs : List TV} (h : cokAll none (evs c.gl s.fs xs) ∧ appIOk s.fs es str ((evs c.gl s.fs xs).map strip) ∧ XD P c anc r0 (appIFoot s c.gl d xs :: fs) K (appISt s c.gl d es xs)) :
    PendDR P c anc (.pd (some d) (.app es by_ str) xs none) r0 fs K s := ⟨_, _, appI_AOkT h.1 h.2.1, h.2.2⟩
attribute [go_sem] appISt appIFoot

/-! ### A piece that is cleared -/
theorem elab_clr {o : Oper} {t : TypeId} {xs : List Operand} (h : elabPK P o = some (.clr t, xs)) : ∃ x, o.op = .call ⟨.builtin .clear, ⟨[x]⟩, ⟨[t]⟩⟩ ∧ xs = [x] := by
  unfold elabPK at h
  repeat' split at h
  all_goals first
    | (cases h; exact ⟨_, by assumption, rfl⟩)
    | (simp at h; done)
    | (cases h; done)
    | (simp [Option.map_eq_some_iff] at h; done)
def clrT (P : Program) (t : TypeId) (es : Nat) : Prop := ∃ e i z, P.underlying t = some (.slice e) ∧ P.info? e = some i ∧ i.zero = some z ∧ z.cells.size = es ∧ z.cells.all (·.oneCell') = true
def clrChk (P : Program) (t : TypeId) (es : Nat) : Bool := match P.underlying t with
  | some (.slice e) => match P.info? e with
    | some i => match i.zero with
      | some z => decide (z.cells.size = es) && z.cells.all (·.oneCell')
      | none => false
    | none => false
  | _ => false
theorem clrT_of {t : TypeId} {es : Nat} (h : clrChk P t es = true) : clrT P t es := by
  unfold clrChk at h
  split at h
  · split at h
    · split at h
      · rw [Bool.and_eq_true, decide_eq_true_eq] at h
        exact ⟨_, _, _, by assumption, by assumption, by assumption, h.1, h.2⟩
      · cases h
    · cases h
  · cases h
def clrOk (s : FS) (es : Nat) : List AV → Prop
  | [.sl es2 b _ n cc] => es2 = es ∧ isC (s.H b) ∧ n ≤ cc
  | _ => False
def clrB : List AV → Nat
  | .sl _ b _ _ _ :: _ => b
  | _ => 0
def clrC (s : FS) : List AV → List AV
  | .sl _ b off _ _ :: _ => (cellsB (s.H b)).take off
  | _ => []
theorem e_clrOk (s : FS) (es es2 b o n cc : Nat) : clrOk s es [.sl es2 b o n cc] = (es2 = es ∧ isC (s.H b) ∧ n ≤ cc) := rfl
theorem e_clrB (es2 b o n cc : Nat) (r : List AV) : clrB (.sl es2 b o n cc :: r) = b := rfl
theorem e_clrC (s : FS) (es2 b o n cc : Nat) (r : List AV) : clrC s (.sl es2 b o n cc :: r) = (cellsB (s.H b)).take o := rfl
attribute [go_sem] e_clrOk e_clrB e_clrC
theorem zero_one {z : Array Value} (h : z.all (·.oneCell') = true) (n : Nat) : ∀ v ∈ (Builtin.zeroCells z n).toList, v.oneCell' = true := by
  intro v hv
  unfold Builtin.zeroCells at hv
  simp only [Array.toList_map, List.mem_map] at hv
  obtain ⟨i, hi, rfl⟩ := hv
  have hi' : i < n * z.size := by simpa using hi
  have hz : 0 < z.size := by
    rcases Nat.eq_zero_or_pos z.size with h0 | h0
    · rw [h0] at hi'; omega
    · exact h0
  have hm := Nat.mod_lt i hz
  rw [getElem!_pos z _ hm]
  exact Array.all_eq_true.1 h _ hm
theorem clr_AOkT {s : St} {t : TypeId} {es : Nat} {xs : List TV} (hz : clrT P t es) (hc : cokAll none (evs c.gl s.fs xs)) (hok : clrOk s.fs es ((evs c.gl s.fs xs).map strip)) :
    AOkT P c (.pd none (.clr t) xs none) s.fs ⟨tmpsOf xs, [clrB ((evs c.gl s.fs xs).map strip)], [], [clrB ((evs c.gl s.fs xs).map strip)]⟩ (s.putB (clrB ((evs c.gl s.fs xs).map strip)) (.cells (clrC s.fs ((evs c.gl s.fs xs).map strip)))).fs := by
  intro ops io he
  obtain ⟨hgd, hdst, hd, ys, hel, rfl⟩ := elab_pd he
  obtain ⟨x, hop, rfl⟩ := elab_clr hel
  obtain ⟨e, i, z, hu, hi, hzi, hzs, hz1⟩ := hz
  have hv1 : (evs c.gl s.fs ([x].map tvO)).map strip = [strip (evT c.gl s.fs (tvO x))] := rfl
  rw [hv1] at hok ⊢
  generalize hvx : strip (evT c.gl s.fs (tvO x)) = vx at *
  cases vx <;> simp only [clrOk] at hok
  rename_i es2 b off n cc
  obtain ⟨rfl, hisC, hn⟩ := hok
  rw [St.fs_putB]
  simp only [clrB, clrC]
  refine ⟨fun i _ => rfl, fun i hi => by rw [FS.H_putB, if_neg (fun e => hi (by simp [e]))], fun s2 hT hH g a w hR K Q' hK => exec_of_none (gd_none hgd) ?_⟩
  have hevs : evs c.gl s2 ([x].map tvO) = evs c.gl s.fs ([x].map tvO) := evs_congr hT
  have hvs := VRs_strip (hR.evs [x]) (by rw [hevs]; exact hc)
  rw [hevs, hv1] at hvs
  obtain ⟨hx, _⟩ := hvs
  have hHb : s2.H b = s.fs.H b := hH b (by simp)
  rw [← hHb] at hisC hK
  have hlive := isC_live hisC
  have hzv : (zeroValue e).run P w = .ok z w := by simp [zeroValue, typeInfo, hi, hzi]
  have hzsz : ∀ n, (Builtin.zeroCells z.cells n).toList.length = n * es2 := fun n => by rw [Array.length_toList, size_zeroCells, hzs]
  have hcore : ∃ w', (execOp a.eval io).run P w = .ok (.value (.tuple #[])) w' ∧ R c g (s2.putB b (.cells ((cellsB (s2.H b)).take off))) a w' := by
    have hBR := hR.h b
    rcases sl_inv hx with ⟨k, cap, e', cur, fz, e1, h1, h2, h3, h4, h5, h6⟩ | ⟨ad, e1, h1, rfl, rfl⟩
    · rw [h1] at hBR
      have hlv := hlive
      have hH0 := hHb
      clear hHb hH0 hK
      cases hh : s2.H b with
      | mapb kvs dn => rw [hh] at hBR; cases hBR with | mapb hb' => rw [h5] at hb'; cases hb'
      | mapx kvs bs ck => rw [hh] at hBR; cases hBR with | mapx hb' => rw [h5] at hb'; cases hb'
      | iter b0 ck seen => rw [hh] at hBR; cases hBR with | iter hb' => rw [h5] at hb'; cases hb'
      | bag ls => rw [hh] at hisC; exact hisC.elim
      | free => rw [hh] at hlive; exact hlive.elim
      | dead => rw [hh] at hlive; exact hlive.elim
      | cells cs =>
      rw [hh] at hBR
      cases hBR with
      | cells hb' hl' h1' hv' hf' =>
      rw [h5] at hb'; cases hb'
      have hmul : n * es2 ≤ cap * es2 := Nat.mul_le_mul_right _ (by omega)
      obtain ⟨w', cur', r1, r2, r3, r4, r5⟩ := run_storeRow (P := P) off (Builtin.zeroCells z.cells n).toList 0 w cur h5 (zero_one hz1 n) (by rw [hzsz]; omega) hf'
      have hrun : (execOp a.eval io).run P w = .ok (.value (.tuple #[])) w' := by
        unfold execOp
        simp only [hop, resolve, invoke, builtin, Sem.run_bind, Sem.run_pure, Result.andThen_ok, List.map_toArray, List.map_cons, List.map_nil, e1]
        cases n with
        | zero =>
          have : (Builtin.zeroCells z.cells 0).toList = [] := List.eq_nil_of_length_eq_zero (by rw [hzsz]; omega)
          rw [this] at r1
          have hw : w' = w := by
            have : (storeCells ⟨k, off, none⟩ [] 0).run P w = .ok () w := rfl
            rw [this] at r1; cases r1; rfl
          subst hw
          simp [Builtin.clear_, run_underlying hu]
        | succ n => simp [Builtin.clear_, run_underlying hu, hzv, r1]
      have hkw : wset c g s2 k := .inr ⟨b, hlv, h1⟩
      refine ⟨w', hrun, hR.setBlock h1 hlv trivial r5 (.cells r2 (by rw [r3]; simp [cellsB]; omega) (fun j hj => ?_) (fun j hj => ?_) (by rw [r3]; exact hf'))⟩
      · have hj' : j < cs.length ∧ j < off := by simp [cellsB] at hj; omega
        rw [r4 j, if_neg (by omega)]
        exact h1' j hj'.1
      · have hj' : j < cs.length ∧ j < off := by simp [cellsB] at hj; omega
        rw [r4 j, if_neg (by omega)]
        have : ((cellsB (Bk.cells cs)).take off).getD j .any = cs.getD j .any := by simp [cellsB, List.getD, List.getElem?_take, hj'.2]
        rw [this]
        exact (hv' j hj'.1).mono (r5.weak fun i hi => hi ▸ hkw) (fun _ _ h => h) (fun _ _ => rfl)
    · rw [h1] at hBR
      have hb0 : s2.H b = .cells [] := by
        cases hh : s2.H b with
        | cells cs => rw [hh] at hBR; cases hBR; rfl
        | mapb kvs dn => rw [hh] at hBR; cases hBR
        | mapx kvs bs ck => rw [hh] at hBR; cases hBR
        | iter b0 ck seen => rw [hh] at hBR; cases hBR
        | bag ls => rw [hh] at hisC; exact hisC.elim
        | free => rw [hh] at hlive; exact hlive.elim
        | dead => rw [hh] at hlive; exact hlive.elim
      have hs : s2.putB b (.cells ((cellsB (s2.H b)).take off)) = s2 := by
        refine fs_ext (fun _ => rfl) fun j => ?_
        rw [FS.H_putB]; split
        · rename_i h; subst h; rw [hb0]; simp [cellsB]
        · rfl
      rw [hs]
      refine ⟨w, ?_, hR⟩
      unfold execOp
      simp only [hop, resolve, invoke, builtin, Sem.run_bind, Sem.run_pure, Result.andThen_ok, List.map_toArray, List.map_cons, List.map_nil, e1]
      cases ad <;> simp [Builtin.clear_, run_underlying hu]
  obtain ⟨w', hr, hR'⟩ := hcore
  unfold Oper.wp
  rw [hr]
  show K (a.put io.dst (.tuple #[])) w'
  rw [hdst]
  refine hK g a w' ?_
  rw [ovr_putB]
  exact hR'
theorem pr_clr {r0 : List TOp} {K : St → Prop} {s : St} {t : TypeId} {es : Nat} {xs : List TV} (hz : clrT P t es) (h : cokAll none (evs c.gl s.fs xs) ∧ clrOk s.fs es ((evs c.gl s.fs xs).map strip) ∧ XP P c r0 K (s.putB (clrB ((evs c.gl s.fs xs).map strip)) (.cells (clrC s.fs ((evs c.gl s.fs xs).map strip))))) :
    PendR P c (.pd none (.clr t) xs none) r0 K s := .inl ⟨_, _, clr_AOkT hz h.1 h.2.1, h.2.2⟩
end
end Go.Proofs.Ytphaicaobepimaa
