/- Calls of functions that are values. No conditions but the ones that stand in each. -/
import Derived.Test.YtblimjilinkmbaaAv
namespace Go.Proofs.Ytblimjilinkmbaa
set_option linter.all false
set_option linter.unusedSimpArgs false
open Go.RowKit

section
variable {P : Program} {c : Cx}
theorem gs_core {s : St} {d : Option Nat} {k : PK} {f : FuncId} {xs : List TV} {ins : List Nat} {args : List AV} {hin : List (Nat × Bk)} {m : Nat} {r : AV} {hout : List (Nat × Bk)} {n : Nat} (hgs : GS P c.gl f args hin m r hout n)
    (hcallv : ∀ (o : Oper) (ys : List Operand), elabPK P o = some (k, ys) → xs = ys.map tvO → ∀ (s2 : FS) (g : Nat → GM) (a : Act) (w : World), (∀ i ∈ tmpsOf xs, s2.T i = s.fs.T i) → R c g s2 a w → ∃ vs : List Value, (execOp a.eval o).run P w = .ok (.enter f vs.toArray) w ∧ VRs g (wset c g s2) w (rens (sg ins m s.n) args) vs)
    (ok : GsOk s.fs s.n ins args hin m r hout n) : AOkT P c (.pd d k xs none) s.fs (gsFoot s d xs ins m n) (gsSt s d ins m r hout n).fs := by
  intro ops io he
  obtain ⟨hgd, hdst, hd, ys, hel, rfl⟩ := elab_pd he
  have hsg : ∀ b b', b < n → b' < n → sg ins m s.n b = sg ins m s.n b' → b = b' := fun b b' _ _ e => sg_inj ok.ins e
  have hlen : ins.length = m := by
    have := ok.ins; simp only [insB, Bool.and_eq_true, beq_iff_eq] at this; exact this.1.1
  -- the names that are touched
  have hnames : ∀ b, b < n → sg ins m s.n b ∈ ins ++ newN s.n m n := fun b hb => by
    unfold sg
    split
    · rename_i h
      refine List.mem_append_left _ ?_
      simp only [List.getD, List.getElem?_eq_getElem (show b < ins.length by omega), Option.getD_some]; exact List.getElem_mem _
    · refine List.mem_append_right _ ?_
      simp only [newN, newK_mem]; exact ⟨b - m, by omega, rfl⟩
  have hback : ∀ j, j ∈ ins ++ newN s.n m n → ∃ b, b < n ∧ sg ins m s.n b = j := fun j hj => by
    rcases List.mem_append.1 hj with h | h
    · obtain ⟨i, hi, rfl⟩ := List.getElem_of_mem h
      have := ok.le
      refine ⟨i, by omega, ?_⟩
      unfold sg; rw [if_pos (by omega)]; simp [List.getD, hi]
    · simp only [newN, newK_mem] at h
      obtain ⟨i, hi, rfl⟩ := h
      exact ⟨m + i, by omega, by unfold sg; rw [if_neg (by omega)]; omega⟩
  have hfsH : ∀ j, (gsSt s d ins m r hout n).fs.H j = lookb (outH (sg ins m s.n) hout n n ++ s.h) (s.n + (n - m)) j := fun j => by cases d <;> rfl
  have hfsT : ∀ i, (gsSt s d ins m r hout n).fs.T i = match d with | some d => (if d = i then ren (sg ins m s.n) r else s.fs.T i) | none => s.fs.T i := fun i => by
    cases d with
    | none => rfl
    | some d => show look ((d, _) :: s.t) i = _; rw [look_cons]; rfl
  have hin' : ∀ b, b < n → lookb (outH (sg ins m s.n) hout n n ++ s.h) (s.n + (n - m)) (sg ins m s.n b) = renB' (sg ins m s.n) (lookb hout n b) := fun b hb => by
    rcases lookb_app (outH (sg ins m s.n) hout n n) s.h (s.n + (n - m)) (sg ins m s.n b) with ⟨_, p, hp, e1, e2⟩ | ⟨h1, _⟩
    · obtain ⟨b', hb', rfl⟩ := outH_mem.1 hp
      have := hsg b' b hb' hb e1
      subst this; exact e2
    · exact (h1 _ (outH_mem.2 ⟨b, hb, rfl⟩) rfl).elim
  have hrest : ∀ j, j ∉ ins ++ newN s.n m n → lookb (outH (sg ins m s.n) hout n n ++ s.h) (s.n + (n - m)) j = s.fs.H j := fun j hj => by
    rcases lookb_app (outH (sg ins m s.n) hout n n) s.h (s.n + (n - m)) j with ⟨⟨p, hp, e⟩, _⟩ | ⟨_, h2⟩
    · obtain ⟨b, hb, rfl⟩ := outH_mem.1 hp
      exact (hj (e ▸ hnames b hb)).elim
    · rw [h2]
      show lookb s.h (s.n + (n - m)) j = lookb s.h s.n j
      have hno : ∀ k, k ≤ n - m → lookb s.h (s.n + k) j = lookb s.h s.n j := fun k hk => by
        induction k with
        | zero => rfl
        | succ k ih =>
          rw [← ih (by omega)]
          refine lookb_up s.h (s.n + k) j fun e => hj ?_
          refine List.mem_append_right _ ?_
          simp only [newN, newK_mem]; exact ⟨k, by omega, e.symm⟩
      exact hno _ (Nat.le_refl _)
  refine ⟨fun i hi => ?_, fun j hj => ?_, fun s2 hT hH g a w hR K Q' hK => exec_of_none (gd_none hgd) ?_⟩
  · rw [hfsT]
    cases d with
    | none => rfl
    | some d => simp only [gsFoot, Option.toList_some, List.mem_singleton] at hi; simp only; rw [if_neg fun e => hi e.symm]
  · rw [hfsH]; exact hrest j hj
  · obtain ⟨vs, hrun, hv⟩ := hcallv io ys hel rfl s2 g a w hT hR
    have fit2 : Fit (sg ins m s.n) s2 hin m := by
      refine ⟨fun p hp => ?_, fun p hp q hq e => sg_inj ok.ins e⟩
      obtain ⟨q1, q2, q3⟩ := fitL_mem ok.fit p hp
      exact ⟨q1, q2, by rw [hH _ (hnames p.1 (Nat.lt_of_lt_of_le q1 ok.le))]; exact q3⟩
    have hcov : ∀ b, b < m → ∃ p ∈ hin, p.1 = b := fun b hb => by
      have := upto_mem.2 hb
      rw [← ok.cov, idx_eq] at this
      obtain ⟨p, hp, e⟩ := List.mem_map.1 this
      exact ⟨p, hp, e⟩
    have hnew : ∀ b, m ≤ b → b < n → s2.H (sg ins m s.n b) = .free := fun b h1 h2 => by
      rw [hH _ (hnames b h2)]
      refine freeL_mem ok.free _ ?_
      unfold sg; rw [if_neg (by omega)]
      simp only [newN, newK_mem]; exact ⟨b - m, by omega, rfl⟩
    obtain ⟨g1, hg1, hRl, hWl⟩ := lend hR fit2
    have hv1 := VRs_unren (g1 := g1) hg1 hWl ok.na hv
    have hcall := hgs.2 w _ _ _ g1 hRl hv1
    unfold Oper.wp
    rw [hrun]
    rw [Oper.upon_enter]
    refine hcall.mono fun e w' ⟨v, g2, e1, e2, e3, e4⟩ => ?_
    subst e1
    let s3 : FS := ⟨s2.T, fun j => if j ∈ ins ++ newN s.n m n then (gsSt s d ins m r hout n).fs.H j else s2.H j⟩
    have hb : Back (sg ins m s.n) s2 s3 hout n := by
      refine ⟨fun i => rfl, fun b hbn => ?_, fun j hj => ?_⟩
      · show (if _ then _ else _) = _
        rw [if_pos (hnames b hbn), hfsH, hin' b hbn]
      · show (if _ then _ else _) = _
        rw [if_neg fun h => ?_]
        obtain ⟨b, hbn, rfl⟩ := hback j h
        exact hj b hbn rfl
    obtain ⟨hR3, hval⟩ := take_back hR fit2 hcov ok.le hsg hnew (fun p hp => (houtL_mem ok.out p hp).2) (fun p hp => (houtL_mem ok.out p hp).1) hg1 e3 e2 hb
    have hv3 := hval ok.nr e4
    show K (a.put io.dst v) w'
    rw [hdst]
    cases d with
    | none =>
      refine hK (backG g g2 (sg ins m s.n) n) _ w' ?_
      have : ovr s2 (gsSt s none ins m r hout n).fs (gsFoot s none (ys.map tvO) ins m n) = s3 := by
        refine fs_ext (fun i => ?_) fun j => rfl
        show (if i ∈ ([] : List Nat) then (gsSt s none ins m r hout n).fs.T i else s2.T i) = s2.T i
        simp
      rw [this]; exact hR3
    | some d =>
      refine hK (backG g g2 (sg ins m s.n) n) _ w' ?_
      have : ovr s2 (gsSt s (some d) ins m r hout n).fs (gsFoot s (some d) (ys.map tvO) ins m n) = s3.put d (ren (sg ins m s.n) r) := by
        refine fs_ext (fun i => ?_) fun j => rfl
        show (if i ∈ [d] then (gsSt s (some d) ins m r hout n).fs.T i else s2.T i) = _
        rw [FS.T_put, hfsT]
        by_cases h : d = i
        · subst h; simp
        · rw [if_neg (by simpa using fun e : i = d => h e.symm), if_neg h]
      rw [this]; exact hR3.put (by simpa using hd) hv3

theorem elab_callv {o : Oper} {xs : List Operand} (h : elabPK P o = some (.callv, xs)) : ∃ x ys ts, xs = x :: ys ∧ o.op = .call ⟨.value x, ys.toArray, ts⟩ := by
  unfold elabPK at h
  repeat' split at h
  all_goals first
    | (simp only [Option.some.injEq, Prod.mk.injEq, true_and] at h; subst h; rename_i hop; exact ⟨_, _, _, rfl, by rw [hop]⟩)
    | (simp at h; done)
    | (cases h; done)
    | (simp [Option.map_eq_some_iff] at h; done)
theorem run_callv {f : FuncId} (hc : Callable P f) {o : Oper} {x : Operand} {ys : List Operand} {ts : Array TypeId} (ho : o.op = .call ⟨.value x, ys.toArray, ts⟩) (a : Act) (w : World) (us : Array Value) (hx : a.eval x = .func (.func f) #[] us) :
    (execOp a.eval o).run P w = .ok (.enter f (ys.map a.eval ++ us.toList).toArray) w := by
  have e : (ys.map a.eval ++ us.toList).toArray = (ys.map a.eval).toArray ++ us := Array.ext' (by simp)
  rw [e]
  obtain ⟨fn, h1, h2, h3⟩ := hc
  have h2' : fn.body ≠ none := fun e => by rw [e] at h2; cases h2
  have h3' : fn.name ≠ "runtime.NumGoroutine" := fun e => by rw [e] at h3; cases h3
  simp [execOp, ho, resolve, hx, Deferred.ofValue, invoke, callFunc, program, Sem.run, h1, h2', h3']
theorem VRs_append {g : Nat → GM} {W : Nat → Prop} {w : World} : ∀ {xs ys : List AV} {us vs : List Value}, VRs g W w xs us → VRs g W w ys vs → VRs g W w (xs ++ ys) (us ++ vs)
  | [], _, [], _, _, h => h
  | _ :: _, _, _ :: _, _, h, k => ⟨h.1, VRs_append h.2 k⟩
  | [], _, _ :: _, _, h, _ => h.elim
  | _ :: _, _, [], _, h, _ => h.elim
theorem VRs_of {g : Nat → GM} {W : Nat → Prop} {w : World} : ∀ {xs : List AV} {us : List Value}, us.length = xs.length → (∀ j, j < xs.length → VR g W w (xs.getD j .any) (us.getD j undef)) → VRs g W w xs us
  | [], [], _, _ => trivial
  | x :: xs, u :: us, hl, h => ⟨by simpa using h 0 (by simp), VRs_of (by simpa using hl) fun j hj => by simpa using h (j + 1) (by simp; omega)⟩
  | [], _ :: _, hl, _ => by simp at hl
  | _ :: _, [], hl, _ => by simp at hl
/-- The arguments of a call of a value: those that are given, and those that it holds. -/
def vArgs : List AV → Option (FuncId × List AV)
  | .cl f caps :: r => some (f, r ++ caps)
  | _ => none
theorem gsv_AOkT {s : St} {d : Option Nat} {f : FuncId} {xs : List TV} {ins : List Nat} {args : List AV} {hin : List (Nat × Bk)} {m : Nat} {r : AV} {hout : List (Nat × Bk)} {n : Nat} (hgs : GS P c.gl f args hin m r hout n) (hc : cokAll none (evs c.gl s.fs xs))
    (hargs : vArgs ((evs c.gl s.fs xs).map strip) = some (f, rens (sg ins m s.n) args)) (ok : GsOk s.fs s.n ins args hin m r hout n) : AOkT P c (.pd d .callv xs none) s.fs (gsFoot s d xs ins m n) (gsSt s d ins m r hout n).fs := by
  refine gs_core hgs (fun o zs hel hxs s2 g a w hT hR => ?_) ok
  obtain ⟨x, ys, ts, rfl, hop⟩ := elab_callv hel
  subst hxs
  have hevs : evs c.gl s2 ((x :: ys).map tvO) = evs c.gl s.fs ((x :: ys).map tvO) := evs_congr fun i hi => hT i hi
  have hv := VRs_strip (hR.evs (x :: ys)) (by rw [hevs]; exact hc)
  rw [hevs] at hv
  generalize (evs c.gl s.fs ((x :: ys).map tvO)).map strip = zs at hargs hv
  cases zs with
  | nil => simp [vArgs] at hargs
  | cons z zs =>
    unfold vArgs at hargs
    split at hargs
    · rename_i f' caps' r' heq
      simp only [Option.some.injEq, Prod.mk.injEq] at hargs
      obtain ⟨rfl, hargs⟩ := hargs
      simp only [List.cons.injEq] at heq
      obtain ⟨rfl, rfl⟩ := heq
      rw [List.map_cons] at hv
      obtain ⟨h1, h2⟩ := hv
      generalize hx : a.eval x = vx at h1
      cases h1 with
      | cl hs h =>
        refine ⟨_, run_callv hgs.1 hop a w _ hx, ?_⟩
        rw [← hargs]
        have := VRs_append h2 (VRs_of (xs := caps') (us := Array.toList _) (by simpa using hs) fun j hj => by
          have := h j hj
          simpa [Array.getD_eq_getD_getElem?, List.getD] using this)
        exact this
    · cases hargs
theorem pr_gsv {r0 : List TOp} {K : St → Prop} {s : St} {d : Option Nat} {f : FuncId} {xs : List TV} {ins : List Nat} {args : List AV} {hin : List (Nat × Bk)} {m : Nat} {r : AV} {hout : List (Nat × Bk)} {n : Nat} (hgs : GS P c.gl f args hin m r hout n)
    (hargs : vArgs ((evs c.gl s.fs xs).map strip) = some (f, rens (sg ins m s.n) args)) (h : cokAll none (evs c.gl s.fs xs) ∧ GsOk s.fs s.n ins args hin m r hout n ∧ XP P c r0 K (gsSt s d ins m r hout n)) : PendR P c (.pd d .callv xs none) r0 K s :=
  ⟨_, _, gsv_AOkT hgs h.1 hargs h.2.1, h.2.2⟩
theorem prD_gsv {anc : List Nat} {fs : List Foot} {r0 : List TOp} {K : St → Prop} {s : St} {d : Option Nat} {f : FuncId} {xs : List TV} {ins : List Nat} {args : List AV} {hin : List (Nat × Bk)} {m : Nat} {r : AV} {hout : List (Nat × Bk)} {n : Nat} (hgs : GS P c.gl f args hin m r hout n)
    (hargs : vArgs ((evs c.gl s.fs xs).map strip) = some (f, rens (sg ins m s.n) args)) (h : cokAll none (evs c.gl s.fs xs) ∧ GsOk s.fs s.n ins args hin m r hout n ∧ XD P c anc r0 (gsFoot s d xs ins m n :: fs) K (gsSt s d ins m r hout n)) : PendDR P c anc (.pd d .callv xs none) r0 fs K s :=
  ⟨_, _, gsv_AOkT hgs h.1 hargs h.2.1, h.2.2⟩
theorem qcallv {f : FuncId} {caps as : List AV} {r : AV} (hps : PS P c.gl f (as ++ caps) r) (hnm : nmAll 0 (as ++ caps)) : QRun P c .callv (.cl f caps :: as) r := by
  intro o ys hel g W a w hX hgl hv K Q hK
  obtain ⟨x, zs, ts, rfl, hop⟩ := elab_callv hel
  rw [List.map_cons] at hv
  obtain ⟨h1, h2⟩ := hv
  generalize hx : a.eval x = vx at h1
  cases h1 with
  | cl hs h =>
    have h3 := VRs_append h2 (VRs_of (xs := caps) (us := Array.toList _) (by simpa using hs) fun j hj => by
      have := h j hj
      simpa [Array.getD_eq_getD_getElem?, List.getD] using this)
    have h4 : VRs (fun _ => .un) W w (as ++ caps) _ := VRs_nm (n := 0) (fun b hb => absurd hb (by omega)) h3 hnm
    unfold Oper.wp
    rw [run_callv hps.1 hop a w _ hx]
    rw [Oper.upon_enter]
    refine (hps.2 w _ _ hX hgl h4).mono fun e w' ⟨v, e1, e2, e3⟩ => ?_
    subst e1
    exact hK v w' e3 (e2.mono (Fr.refl _ _) (fun _ _ h => h) (fun _ h => absurd rfl h))
theorem elab_none {N : Nat} {ops : Array Oper} {io : Oper} {d : Option Nat} {k : PK} {xs : List TV} {gd : Option (Nat × Bool)} (h : elabOp P N ops io = some (.pd d k xs gd)) : elabOp P N ops { io with guard := none } = some (.pd d k xs none) := by
  have hg0 : gdOf ops { io with guard := none } = some none := rfl
  have hq : elabQ P { io with guard := none } = elabQ P io := rfl
  have hp : elabPK P { io with guard := none } = elabPK P io := rfl
  unfold elabOp at h ⊢
  rw [hg0, hq, hp]
  split at h
  · cases h
  · rename_i gd' hg
    dsimp only
    split at h
    · split at h
      · split at h <;> simp at h
      · cases h
    · split at h <;> simp at h
    · split at h <;> simp at h
    · rename_i n1 n2 n3
      have rest : ∀ {α : Type} (x : α), x = x := fun _ => rfl
      split at h
      · split at h <;> simp at h
      · rename_i n4
        split at h
        · rename_i k' ys hk
          split at h
          · rename_i hd
            simp only [Option.some.injEq, TOp.pd.injEq] at h
            obtain ⟨rfl, rfl, rfl, rfl⟩ := h
            split
            all_goals first
              | (exfalso; apply n1 <;> assumption)
              | (exfalso; apply n2 <;> assumption)
              | (exfalso; apply n3 <;> assumption)
              | (exfalso; apply n4 <;> assumption)
              | rfl
              | (exfalso; contradiction)
          · cases h
        · cases h
theorem on_AOkT {s : FS} {s' : FS} {d : Option Nat} {k : PK} {xs : List TV} {gd : Option (Nat × Bool)} {F : Foot} (hb : gB s gd = some true) (hok : gOk s gd) (h : AOkT P c (.pd d k xs none) s F s') : AOkT P c (.pd d k xs gd) s ⟨gdT gd ++ F.rt, F.rb, F.wt, F.wb⟩ s' := by
  intro ops io he
  obtain ⟨hgd, hdst, hd, ys, hel, rfl⟩ := elab_pd he
  obtain ⟨h1, h2, h3⟩ := h ops _ (elab_none he)
  refine ⟨h1, h2, fun s2 hT hH g a w hR K Q' hK => ?_⟩
  have hg : ∀ t b, gd = some (t, b) → s2.T t = s.T t := fun t b e => hT t (by simp [e, gdT])
  have hgB : gB s2 gd = gB s gd := by
    cases gd with
    | none => rfl
    | some p => obtain ⟨t, b⟩ := p; simp only [gB, hg t b rfl]
  have hgO : gOk s2 gd := by
    cases gd with
    | none => exact hok
    | some p => obtain ⟨t, b⟩ := p; simpa only [gOk, hg t b rfl] using hok
  have h4 := h3 s2 (fun i hi => hT i (by simp [hi])) hH g a w hR K Q' hK
  unfold Exec1 at h4 ⊢
  rw [guard_ok hgd hR hgO, hgB, hb]
  rw [wanted_none rfl, if_pos rfl] at h4
  rw [Option.getD_some, if_pos rfl]
  exact h4
theorem pr_on {r0 : List TOp} {K : St → Prop} {s : St} {d : Option Nat} {k : PK} {xs : List TV} {gd : Option (Nat × Bool)} (hb : gB s.fs gd = some true) (hok : gOk s.fs gd) (h : PendR P c (.pd d k xs none) r0 K s) : PendR P c (.pd d k xs gd) r0 K s := by
  obtain ⟨F, s', h1, h2⟩ := h
  exact ⟨_, s', on_AOkT hb hok h1, h2⟩
end
theorem g_vArgs_cl (f : FuncId) (caps r : List AV) : vArgs (.cl f caps :: r) = some (f, r ++ caps) := rfl
attribute [go_sem] g_vArgs_cl
end Go.Proofs.Ytblimjilinkmbaa
