/- Deletes from maps, and going through maps. No conditions but the ones that stand in each. -/
import Derived.Test.YtphaicaobepimaaEb
import Derived.Maps.RangeRun
namespace Go.Proofs.Ytphaicaobepimaa
set_option linter.all false
set_option linter.unusedSimpArgs false
open Go.RowKit

theorem getD_erase {α : Type} (l : List α) (i j : Nat) (d : α) : (l.eraseIdx i).getD j d = if j < i then l.getD j d else l.getD (j + 1) d := by
  simp only [List.getD, List.getElem?_eraseIdx]
  split <;> rfl
theorem getD_eraseA (es : Array MapEntry) (i j : Nat) : (es.eraseIdxIfInBounds i).getD j default = if j < i then es.getD j default else es.getD (j + 1) default := by
  rw [← es_list, ← es_list, ← es_list, ← getD_erase]
  congr 1
  unfold Array.eraseIdxIfInBounds
  split
  · simp
  · rename_i h
    rw [List.eraseIdx_of_length_le (by simpa using h)]
theorem size_eraseA {es : Array MapEntry} {i : Nat} (hi : i < es.size) : (es.eraseIdxIfInBounds i).size = es.size - 1 := by
  unfold Array.eraseIdxIfInBounds
  rw [dif_pos hi]; simp
section
variable {P : Program} {c : Cx} {g : Nat → GM} {s : FS} {a : Act} {w : World}
theorem del_run (hR : R c g s a w) {t t2 ty : TypeId} {wide : Bool} {ks : List SK} {z : AV} (hT : MapT P t wide ks z) {b : Nat} {kvs : List (AV × AV)} {dn : Bool} (hb : s.H b = .mapb kvs dn) {x : AV} {m v : Value} (hm : VR g (wset c g s) w (.mp b) m) (hx : VR g (wset c g s) w x v)
    (hkx : KeyOk wide ks x) (hks : KeysOk wide ks kvs) : ∃ w', (Builtin.delete_ #[t, t2] ty #[m, v]).run P w = .ok (.tuple #[]) w' ∧ R c g (s.putB b (.mapb (delA kvs x) false)) a w' := by
  obtain ⟨kt, et, zv, hu, hK, hz, rfl⟩ := hT.of
  obtain ⟨k, rfl, hg⟩ := mp_inv hm
  obtain ⟨es, clock, q1, q2, q3, q4, q5, q6, q7⟩ := mapb_of hR hb hg
  have hfk := findKey_run hK hkx hx (kvs := kvs) (es := es.toList) (by simpa using q2) hks (fun j hj => by rw [es_list]; exact q3 j hj) w
  have hck := key_check hK hkx hx es.isEmpty w
  have hgo : (getObj k).run P w = .ok (.map es clock) w := by simp [getObj, Sem.run, q1]
  have hkl := heap_lt q1
  unfold delA
  cases hf : fIx kvs x with
  | none =>
    rw [hf] at hfk
    refine ⟨_, ?_, hR.setMap (kvs' := kvs) (dn' := false) (es' := es) (clock' := clock) hb hg q1 q2 q3 q4 q5 q6 (fun h => by cases h)⟩
    simp only [Builtin.delete_, Sem.run_bind, run_underlying hu, Result.andThen_ok, hgo, hck, hfk, Option.map_none, setObj_run q1, Sem.run_pure, List.getElem?_toArray, List.getElem?_cons_zero, List.getElem?_cons_succ]
  | some i =>
    rw [hf] at hfk
    obtain ⟨hi, hke⟩ := fIx_some hf
    have hie : i < es.size := by omega
    have hset := hR.setMap (kvs' := kvs.eraseIdx i) (dn' := false) (es' := es.eraseIdxIfInBounds i) (clock' := clock) hb hg q1 (by rw [size_eraseA hie, List.length_eraseIdx, if_pos hi, q2])
      (fun j hj => by
        rw [List.length_eraseIdx, if_pos hi] at hj
        rw [getD_erase, getD_eraseA]; split
        · exact q3 j (by omega)
        · exact q3 (j + 1) (by omega))
      (fun j hj => by
        rw [List.length_eraseIdx, if_pos hi] at hj
        rw [getD_erase, getD_eraseA]; split
        · exact q4 j (by omega)
        · exact q4 (j + 1) (by omega))
      (fun j hj => by
        rw [size_eraseA hie] at hj
        rw [getD_eraseA]; split
        · exact q5 j (by omega)
        · exact q5 (j + 1) (by omega))
      (fun i' j hij hj => by
        rw [size_eraseA hie] at hj
        rw [getD_eraseA, getD_eraseA]
        split <;> split
        · exact q6 i' j hij (by omega)
        · exact q6 i' (j + 1) (by omega) (by omega)
        · omega
        · exact q6 (i' + 1) (j + 1) (by omega) (by omega)) (fun h => by cases h)
    refine ⟨_, ?_, hset⟩
    simp only [Builtin.delete_, Sem.run_bind, run_underlying hu, Result.andThen_ok, hgo, hck, hfk, Option.map_some, setObj_run q1, Sem.run_pure, List.getElem?_toArray, List.getElem?_cons_zero, List.getElem?_cons_succ]
end
section
variable {P : Program} {c : Cx} {ops : Array Oper} {io : Oper}
theorem elab_del {o : Oper} {t : TypeId} {xs : List Operand} (h : elabPK P o = some (.del t, xs)) : ∃ x y t2, o.op = .call ⟨.builtin .delete, ⟨[x, y]⟩, ⟨[t, t2]⟩⟩ ∧ xs = [x, y] := by
  unfold elabPK at h
  repeat' split at h
  all_goals first
    | (cases h; exact ⟨_, _, _, by assumption, rfl⟩)
    | (simp at h; done)
    | (cases h; done)
    | (simp [Option.map_eq_some_iff] at h; done)
theorem elab_rng {o : Oper} {t : TypeId} {xs : List Operand} (h : elabPK P o = some (.rng t, xs)) : ∃ x, o.op = .range t x ∧ xs = [x] := by
  unfold elabPK at h
  repeat' split at h
  all_goals first
    | (cases h; exact ⟨_, by assumption, rfl⟩)
    | (simp at h; done)
    | (cases h; done)
    | (simp [Option.map_eq_some_iff] at h; done)
theorem elab_nxt {o : Oper} {xs : List Operand} (h : elabPK P o = some (.nxt, xs)) : ∃ x, o.op = .next x false ∧ xs = [x] := by
  unfold elabPK at h
  repeat' split at h
  all_goals first
    | (cases h; exact ⟨_, by assumption, rfl⟩)
    | (simp at h; done)
    | (cases h; done)
    | (simp [Option.map_eq_some_iff] at h; done)
theorem elab_ent {o : Oper} {xs : List Operand} (h : elabPK P o = some (.ent, xs)) : ∃ x, o.op = .entry x ∧ xs = [x] := by
  unfold elabPK at h
  repeat' split at h
  all_goals first
    | (cases h; exact ⟨_, by assumption, rfl⟩)
    | (simp at h; done)
    | (cases h; done)
    | (simp [Option.map_eq_some_iff] at h; done)
theorem wn_AOk' {s : FS} {b : Nat} {X : Bk} {rt rb : List Nat} (hg : io.guard = none) (hdst : io.dst = none)
    (core : ∀ s2 : FS, (∀ i ∈ rt, s2.T i = s.T i) → (∀ b ∈ rb, s2.H b = s.H b) → ∀ g a w, R c g s2 a w → ∃ g' v' w', (execOp a.eval io).run P w = .ok (.value v') w' ∧ R c g' (s2.putB b X) a w') :
    AOk P c ops io s ⟨rt, rb, [], [b]⟩ (s.putB b X) := by
  refine ⟨fun i hi => rfl, fun j hj => ?_, fun s2 hT hH g a w hR K Q' hK => exec_of_none hg ?_⟩
  · rw [FS.H_putB, if_neg (fun e => hj (by simp [e]))]
  · obtain ⟨g', v', w', hr, hR'⟩ := core s2 hT hH g a w hR
    unfold Oper.wp
    rw [hr]
    show K (a.put io.dst v') w'
    rw [hdst]
    refine hK g' _ w' ?_
    rw [ovr_putB]
    exact hR'
noncomputable def delB (s : FS) (vs : List AV) : Bk := .mapb (delA (kvB (s.H (mpB vs))) (keyV vs)) false
theorem del_AOkT {s : St} {t : TypeId} {xs : List TV} {wide : Bool} {ks : List SK} {z : AV} (hT : MapT P t wide ks z) (hc : cokAll none (evs c.gl s.fs xs)) (hok : lkpOk s.fs wide ks ((evs c.gl s.fs xs).map strip)) :
    AOkT P c (.pd none (.del t) xs none) s.fs (mapFoot s.fs c.gl xs [] true) (s.putB (mpB ((evs c.gl s.fs xs).map strip)) (delB s.fs ((evs c.gl s.fs xs).map strip))).fs := by
  intro ops io he
  obtain ⟨hgd, hdst, hd, ys, hel, rfl⟩ := elab_pd he
  obtain ⟨m, k, t2, hop, rfl⟩ := elab_del hel
  have hv2 : (evs c.gl s.fs ([m, k].map tvO)).map strip = [strip (evT c.gl s.fs (tvO m)), strip (evT c.gl s.fs (tvO k))] := rfl
  unfold mapFoot
  rw [hv2] at hok ⊢
  generalize hvm : strip (evT c.gl s.fs (tvO m)) = vm at *
  generalize hvk : strip (evT c.gl s.fs (tvO k)) = vk at *
  obtain ⟨h1, h2, h3, h4⟩ := hok
  obtain ⟨b, r, hb⟩ := isMp_of h1
  injection hb with hb1 hb2
  subst hb1
  obtain ⟨kvs, dn, hH0⟩ := isMapb_of h2
  simp only [delB, mpB, keyV, cond_true] at h3 h4 hH0 ⊢
  rw [hH0] at h4 ⊢
  simp only [kvB] at h4 ⊢
  rw [St.fs_putB]
  refine wn_AOk' (gd_none hgd) hdst fun s2 hT2 hH2 g a w hR => ?_
  have hevs : evs c.gl s2 ([m, k].map tvO) = evs c.gl s.fs ([m, k].map tvO) := evs_congr hT2
  have hvs := VRs_strip (hR.evs [m, k]) (by rw [hevs]; exact hc)
  rw [hevs, hv2] at hvs
  obtain ⟨v1, v2, _⟩ := hvs
  obtain ⟨w', hr, hR'⟩ := del_run hR hT (t2 := t2) (ty := io.type) (b := b) (kvs := kvs) (dn := dn) (by rw [hH2 b (by simp), hH0]) v1 v2 h3 h4
  refine ⟨g, .tuple #[], w', ?_, hR'⟩
  unfold execOp
  simp only [hop, resolve, invoke, builtin, Sem.run_bind, Sem.run_pure, Result.andThen_ok, List.map_toArray, List.map_cons, List.map_nil]
  rw [show (Builtin.delete_ { toList := [t, t2] } io.type #[a.eval m, a.eval k]).run P w = _ from hr]
  rfl
theorem pr_del {r0 : List TOp} {K : St → Prop} {s : St} {t : TypeId} {xs : List TV} {wide : Bool} {ks : List SK} {z : AV} (hT : MapT P t wide ks z) (h : cokAll none (evs c.gl s.fs xs) ∧ lkpOk s.fs wide ks ((evs c.gl s.fs xs).map strip) ∧ XP P c r0 K (s.putB (mpB ((evs c.gl s.fs xs).map strip)) (delB s.fs ((evs c.gl s.fs xs).map strip)))) :
    PendR P c (.pd none (.del t) xs none) r0 K s := .inl ⟨_, _, del_AOkT hT h.1 h.2.1, h.2.2⟩
theorem prD_del {anc : List Nat} {fs : List Foot} {r0 : List TOp} {K : St → Prop} {s : St} {t : TypeId} {xs : List TV} {wide : Bool} {ks : List SK} {z : AV} (hT : MapT P t wide ks z) (h : cokAll none (evs c.gl s.fs xs) ∧ lkpOk s.fs wide ks ((evs c.gl s.fs xs).map strip) ∧ XD P c anc r0 (mapFoot s.fs c.gl xs [] true :: fs) K (s.putB (mpB ((evs c.gl s.fs xs).map strip)) (delB s.fs ((evs c.gl s.fs xs).map strip)))) :
    PendDR P c anc (.pd none (.del t) xs none) r0 fs K s := ⟨_, _, del_AOkT hT h.1 h.2.1, h.2.2⟩
attribute [go_sem] delB

/-! ### Going through -/
/-- A map's entries, with the times at which they came. -/
def stamps (bs : List Nat) (n ck : Nat) : Prop := bs.length = n ∧ (∀ i j, i < j → j < n → bs.getD i 0 < bs.getD j 0) ∧ ∀ i, i < n → bs.getD i 0 < ck
theorem born_list {es : Array MapEntry} (j : Nat) (hj : j < es.size) : (es.toList.map (·.born)).getD j 0 = (es.getD j default).born := by
  simp [List.getD, Array.getD_eq_getD_getElem?, hj]
theorem R.toX {g : Nat → GM} {s : FS} {a : Act} {w : World} (hR : R c g s a w) {b : Nat} {kvs : List (AV × AV)} {dn : Bool} (hb : s.H b = .mapb kvs dn) : ∃ bs ck, stamps bs kvs.length ck ∧ R c g (s.putB b (.mapx kvs bs ck)) a w := by
  have h := hR.h b
  rw [hb] at h
  generalize hg : g b = m at h
  cases h with
  | mapb h1 h2 h3 h4 h5 h6 h7 =>
    rename_i k es clock
    refine ⟨es.toList.map (·.born), clock, ⟨by simpa using h2, fun i j hij hj => ?_, fun i hi => ?_⟩, hR.setBlock hg (by rw [hb]; trivial) trivial (Fr.refl _ _) (.mapx h1 h2 h3 h4 h5 h6 rfl)⟩
    · rw [born_list i (by omega), born_list j (by omega)]; exact h6 i j hij (by omega)
    · rw [born_list i (by omega)]; exact h5 i (by omega)
theorem mapx_of {g : Nat → GM} {s : FS} {a : Act} {w : World} (hR : R c g s a w) {b k : Nat} {kvs : List (AV × AV)} {bs : List Nat} {ck : Nat} (hb : s.H b = .mapx kvs bs ck) (hg : g b = .re k) : ∃ es, w.heap[k]? = some (.map es ck) ∧ es.size = kvs.length ∧
    (∀ j, j < kvs.length → VR g (wset c g s) w (kvs.getD j (.any, .any)).1 (es.getD j default).key) ∧ (∀ j, j < kvs.length → VR g (wset c g s) w (kvs.getD j (.any, .any)).2 (es.getD j default).val) ∧
    (∀ j, j < es.size → (es.getD j default).born < ck) ∧ (∀ i j, i < j → j < es.size → (es.getD i default).born < (es.getD j default).born) ∧ (∀ j, j < es.size → (es.getD j default).born = bs.getD j 0) ∧ bs.length = kvs.length := by
  have := hR.h b
  rw [hb, hg] at this
  cases this with
  | mapx h1 h2 h3 h4 h5 h6 h7 => exact ⟨_, h1, h2, h3, h4, h5, h6, fun j hj => by rw [← h7, born_list j hj], by rw [← h7]; simpa using h2⟩
theorem iter_of {g : Nat → GM} {s : FS} {a : Act} {w : World} (hR : R c g s a w) {bi k b ck : Nat} {seen : List Nat} (hb : s.H bi = .iter b ck seen) (hg : g bi = .re k) : ∃ m, w.heap[k]? = some (.mapIter (some m) ck seen.toArray ck) ∧ g b = .re m := by
  have := hR.h bi
  rw [hb, hg] at this
  cases this with
  | iter h1 h2 => exact ⟨_, h1, h2⟩
theorem R.ofX {g : Nat → GM} {s : FS} {a : Act} {w : World} (hR : R c g s a w) {b : Nat} {kvs : List (AV × AV)} {bs : List Nat} {ck : Nat} (hb : s.H b = .mapx kvs bs ck) : R c g (s.putB b (.mapb kvs false)) a w := by
  have h := hR.h b
  rw [hb] at h
  generalize hg : g b = m at h
  cases h with
  | mapx h1 h2 h3 h4 h5 h6 h7 => exact hR.setBlock hg (by rw [hb]; trivial) trivial (Fr.refl _ _) (.mapb h1 h2 h3 h4 h5 h6 fun h => by cases h)
theorem To.ofX {p : List Nat} {b : Nat} {s : St} {kvs : List (AV × AV)} {bs : List Nat} {ck : Nat} (hb : s.fs.H b = .mapx kvs bs ck) : To p s (s.putB b (.mapb kvs false)) := fun c g a w _ hR => ⟨g, by rw [St.fs_putB]; exact hR.ofX hb⟩
theorem pr_rng {r0 : List TOp} {K : St → Prop} {s : St} {d : Nat} {t : TypeId} {x : TV} {b : Nat} {kvs : List (AV × AV)} {dn wide : Bool} {ks : List SK} {z : AV} (hT : MapT P t wide ks z) (hx : evT c.gl s.fs x = .mp b) (hb : s.fs.H b = .mapb kvs dn) (hf : s.fs.H s.n = .free)
    (h : ∀ bs ck, stamps bs kvs.length ck → XP P c r0 K (((s.putB b (.mapx kvs bs ck)).nw (.iter b ck [])).put d (.ptr s.n 0))) : PendR P c (.pd (some d) (.rng t) [x] none) r0 K s := by
  refine .inr fun ops io he g a w hR K' Q' hK => ?_
  obtain ⟨hgd, hdst, hd, ys, hel, hys⟩ := elab_pd he
  obtain ⟨y, hop, rfl⟩ := elab_rng hel
  obtain rfl : x = tvO y := by simpa using hys
  obtain ⟨kt, et, zv, hu, _, _, _⟩ := hT.of
  have hv := VRs_strip (hR.evs [y]) (by
    show cokAll none (evs c.gl s.fs [tvO y])
    simp only [evs, List.map_cons, List.map_nil, hx]
    simp [cokAll, cok])
  have hv : VR g (wset c g s.fs) w (.mp b) (a.eval y) := by
    have e : (evs c.gl s.fs ([y].map tvO)).map strip = [.mp b] := by
      show [strip (evT c.gl s.fs (tvO y))] = _
      rw [hx]; rfl
    rw [e] at hv; exact hv.1
  obtain ⟨k, e1, hg⟩ := mp_inv hv
  obtain ⟨bs, ck, hst, hR1⟩ := hR.toX hb
  obtain ⟨es, q1, q2, _⟩ := mapx_of hR1 (b := b) (k := k) (kvs := kvs) (bs := bs) (ck := ck) (by rw [FS.H_putB, if_pos rfl]) hg
  have hne : b ≠ s.n := by rintro rfl; rw [hb] at hf; cases hf
  have hfree : (s.fs.putB b (.mapx kvs bs ck)).H s.n = .free := by rw [FS.H_putB, if_neg hne]; exact hf
  have hR2 := hR1.new (.mapIter (some k) ck #[] ck) hfree (x := .iter b ck []) trivial fun g' hg' => .iter (heap_alloc_new w _) (by rw [hg' b (by rw [hg]; intro x; cases x)]; exact hg)
  refine exec_of_none (gd_none hgd) ?_
  have hrun : (execOp a.eval io).run P w = .ok (.value (.pointer (some ⟨w.heap.size, 0, none⟩))) (w.alloc (.mapIter (some k) ck #[] ck)) := by
    unfold execOp
    simp [hop, Instr.range, run_underlying hu, e1, getObj, newObj, Sem.run, Sem.run_bind, q1]
  unfold Oper.wp
  rw [hrun]
  show K' (a.put io.dst _) _
  rw [hdst]
  refine hK (updG g s.n (.re w.heap.size)) _ _ _ (h bs ck hst) ?_
  rw [St.fs_put, St.fs_nw, St.fs_putB]
  exact hR2.put (by simpa using hd) (.ptr (by simp [updG]))
theorem setIt_fr {w : World} {k : Nat} {m : Option Nat} {s0 c0 : Nat} {se : Array Nat} (o' : Obj) (hk : w.heap[k]? = some (.mapIter m s0 se c0)) : Fr w (ChangeMaps.setBlock w k o') (fun i => i = k) :=
  ⟨rfl, rfl, rfl, by simp [ChangeMaps.setBlock], fun i _ hne => by simp only [ChangeMaps.setBlock, Array.getElem?_setIfInBounds]; rw [if_neg fun e => hne e.symm], fun i cur e fz hi => by
    by_cases h : i = k
    · subst h; rw [hk] at hi; cases hi
    · exact ⟨cur, by simp only [ChangeMaps.setBlock, Array.getElem?_setIfInBounds]; rw [if_neg fun e => h e.symm]; exact hi, rfl⟩⟩
/-- The next entry, whichever, or the end. -/
theorem pr_nxt {r0 : List TOp} {K : St → Prop} {s : St} {d : Nat} {x : TV} {bi b ck : Nat} {seen bs : List Nat} {kvs : List (AV × AV)} (hx : evT c.gl s.fs x = .ptr bi 0) (hi : s.fs.H bi = .iter b ck seen) (hb : s.fs.H b = .mapx kvs bs ck)
    (h0 : (∀ i, i < kvs.length → bs.getD i 0 ∈ seen) → XP P c r0 K (s.put d (.tup [.bool false])))
    (h1 : ∀ i, i < kvs.length → bs.getD i 0 ∉ seen → XP P c r0 K ((s.putB bi (.iter b ck (seen ++ [bs.getD i 0]))).put d (.tup [.bool true, (kvs.getD i (.any, .any)).1, (kvs.getD i (.any, .any)).2]))) : PendR P c (.pd (some d) .nxt [x] none) r0 K s := by
  refine .inr fun ops io he g a w hR K' Q' hK => ?_
  obtain ⟨hgd, hdst, hd, ys, hel, hys⟩ := elab_pd he
  obtain ⟨y, hop, rfl⟩ := elab_nxt hel
  obtain rfl : x = tvO y := by simpa using hys
  have hv := VRs_strip (hR.evs [y]) (by
    show cokAll none (evs c.gl s.fs [tvO y])
    simp only [evs, List.map_cons, List.map_nil, hx]
    simp [cokAll, cok])
  have hv : VR g (wset c g s.fs) w (.ptr bi 0) (a.eval y) := by
    have e : (evs c.gl s.fs ([y].map tvO)).map strip = [.ptr bi 0] := by
      show [strip (evT c.gl s.fs (tvO y))] = _
      rw [hx]; rfl
    rw [e] at hv; exact hv.1
  obtain ⟨k, e1, hg⟩ : ∃ k, a.eval y = .pointer (some ⟨k, 0, none⟩) ∧ g bi = .re k := by
    generalize a.eval y = u at hv
    cases hv; exact ⟨_, rfl, by assumption⟩
  obtain ⟨m, q1, hgb⟩ := iter_of hR hi hg
  obtain ⟨es, p1, p2, p3, p4, p5, p6, p7, p8⟩ := mapx_of hR hb hgb
  refine exec_of_none (gd_none hgd) ?_
  have hrun := run_next_at (P := P) w io.type k m ck ck seen.toArray es ck q1 p1 (fun x hx => by
    obtain ⟨j, hj, rfl⟩ := List.getElem_of_mem hx
    have hj2 : j < es.size := by simpa using hj
    have := p5 j hj2
    simp only [Array.getD_eq_getD_getElem?, Array.getElem?_eq_getElem hj2, Option.getD_some] at this
    simpa using this) (Nat.le_refl _)
  have hexec : ∀ r w', (Instr.next (.pointer (some ⟨k, 0, none⟩)) false io.type).run P w = .ok r w' → (execOp a.eval io).run P w = .ok (.value r) w' := fun r w' h => by
    unfold execOp
    simp only [hop, e1]
    exact run_v h
  unfold Oper.wp
  rcases hrun with ⟨hz, hr⟩ | ⟨e, he', w1, hw1, hr⟩
  · rw [hexec _ _ hr]
    show K' (a.put io.dst _) _
    rw [hdst]
    refine hK g _ _ _ (h0 fun i hi => ?_) (by
      rw [St.fs_put]
      refine hR.put (by simpa using hd) (.tup rfl fun j hj => ?_)
      have : j = 0 := by simp at hj; omega
      subst this; exact .bool _)
    · have hl : leftOf es seen.toArray = #[] := Array.eq_empty_of_size_eq_zero hz
      have hie : i < es.size := by omega
      have := Array.filter_eq_empty_iff.1 hl es[i] (Array.getElem_mem hie)
      have hb' := p7 i hie
      simp only [Array.getD_eq_getD_getElem?, Array.getElem?_eq_getElem hie, Option.getD_some] at hb'
      rw [← hb']
      simpa using this
  · obtain ⟨he1, he2⟩ : e ∈ es.toList ∧ e.born ∉ seen := by
      unfold leftOf at he'
      simp at he'
      exact ⟨by simpa using he'.1, he'.2⟩
    obtain ⟨i, hi', rfl⟩ := List.getElem_of_mem he1
    have hie : i < es.size := by simpa using hi'
    have heq : es.toList[i] = es.getD i default := by simp [Array.getD_eq_getD_getElem?, hie]
    have hbi := p7 i hie
    rw [heq] at he2 hr
    rw [hbi] at he2
    rw [hexec _ _ hr]
    show K' (a.put io.dst _) _
    rw [hdst]
    have hRw : R c g s.fs a w1 := by
      rcases hw1 with rfl | rfl
      · exact hR
      · exact hR.grow (Fr.drew w _)
    have q1' : w1.heap[k]? = some (.mapIter (some m) ck seen.toArray ck) := by rcases hw1 with rfl | rfl <;> exact q1
    have hlive : (s.fs.H bi).live := by rw [hi]; trivial
    have hkl := heap_lt q1'
    have hkw : wset c g s.fs k := .inr ⟨bi, hlive, hg⟩
    have hf := setIt_fr (.mapIter (some m) ck (seen.toArray.push (es.getD i default).born) ck) q1'
    have hR3 := hRw.setBlock (x := .iter b ck (seen ++ [bs.getD i 0])) hg hlive trivial hf (.iter (m := m) (by
      rw [hbi, ← List.push_toArray]
      simp [ChangeMaps.setBlock, hkl]) hgb)
    refine hK g _ _ _ (h1 i (by omega) he2) (by
      rw [St.fs_put, St.fs_putB]
      refine hR3.put (by simpa using hd) (.tup rfl fun j hj => ?_)
      have hm : ∀ {x v}, VR g (wset c g s.fs) w x v → VR g (wset c g (s.fs.putB bi (.iter b ck (seen ++ [bs.getD i 0])))) (ChangeMaps.setBlock w1 k (.mapIter (some m) ck (seen.toArray.push (es.getD i default).born) ck)) x v := fun h =>
        (h.mono (w' := w1) (W' := wset c g s.fs) (by rcases hw1 with rfl | rfl; exact Fr.refl _ _; exact Fr.drew _ _) (fun _ _ h => h) (fun _ _ => rfl)).noBlk hlive trivial (hf.weak fun q hq => by rw [hq]; exact hg)
      have hj3 : j < 3 := hj
      rcases (by omega : j = 0 ∨ j = 1 ∨ j = 2) with rfl | rfl | rfl
      · exact .bool _
      · exact hm (p3 i (by omega))
      · exact hm (p4 i (by omega)))
/-- The entry of the last step. -/
theorem pr_ent {r0 : List TOp} {K : St → Prop} {s : St} {d : Nat} {x : TV} {bi b ck i : Nat} {seen bs : List Nat} {kvs : List (AV × AV)} (hx : evT c.gl s.fs x = .ptr bi 0) (hi : s.fs.H bi = .iter b ck (seen ++ [bs.getD i 0])) (hb : s.fs.H b = .mapx kvs bs ck) (hik : i < kvs.length)
    (h : XP P c r0 K (s.put d (.tup [(kvs.getD i (.any, .any)).1, (kvs.getD i (.any, .any)).2]))) : PendR P c (.pd (some d) .ent [x] none) r0 K s := by
  refine .inr fun ops io he g a w hR K' Q' hK => ?_
  obtain ⟨hgd, hdst, hd, ys, hel, hys⟩ := elab_pd he
  obtain ⟨y, hop, rfl⟩ := elab_ent hel
  obtain rfl : x = tvO y := by simpa using hys
  have hv := VRs_strip (hR.evs [y]) (by
    show cokAll none (evs c.gl s.fs [tvO y])
    simp only [evs, List.map_cons, List.map_nil, hx]
    simp [cokAll, cok])
  have hv : VR g (wset c g s.fs) w (.ptr bi 0) (a.eval y) := by
    have e : (evs c.gl s.fs ([y].map tvO)).map strip = [.ptr bi 0] := by
      show [strip (evT c.gl s.fs (tvO y))] = _
      rw [hx]; rfl
    rw [e] at hv; exact hv.1
  obtain ⟨k, e1, hg⟩ : ∃ k, a.eval y = .pointer (some ⟨k, 0, none⟩) ∧ g bi = .re k := by
    generalize a.eval y = u at hv
    cases hv; exact ⟨_, rfl, by assumption⟩
  obtain ⟨m, q1, hgb⟩ := iter_of hR hi hg
  obtain ⟨es, p1, p2, p3, p4, p5, p6, p7, p8⟩ := mapx_of hR hb hgb
  have hie : i < es.size := by omega
  refine exec_of_none (gd_none hgd) ?_
  have hrun := run_entry_at (P := P) w k m ck seen.toArray es ck (es.getD i default) (by rw [p7 i hie, List.push_toArray]; exact q1) p1 (by
    rw [← es_list]
    have : i < es.toList.length := by simpa using hie
    simp only [List.getD, List.getElem?_eq_getElem this, Option.getD_some]
    exact List.getElem_mem _) (by
    rw [List.nodup_iff_pairwise_ne, List.pairwise_iff_getElem]
    intro x y hx' hy' hxy
    simp only [List.length_map, Array.length_toList] at hx' hy'
    have := p6 x y hxy hy'
    simp only [List.getElem_map, Array.getElem_toList]
    simp only [Array.getD_eq_getD_getElem?, Array.getElem?_eq_getElem hx', Array.getElem?_eq_getElem hy', Option.getD_some] at this
    omega)
  have hexec : (execOp a.eval io).run P w = .ok (.value (.tuple #[(es.getD i default).key, (es.getD i default).val])) w := by
    unfold execOp
    simp only [hop, e1]
    exact run_v hrun
  unfold Oper.wp
  rw [hexec]
  show K' (a.put io.dst _) _
  rw [hdst]
  refine hK g _ _ _ h (by
    rw [St.fs_put]
    refine hR.put (by simpa using hd) (.tup rfl fun j hj => ?_)
    have hj2 : j < 2 := hj
    rcases (by omega : j = 0 ∨ j = 1) with rfl | rfl
    · exact p3 i hik
    · exact p4 i hik)
end
end Go.Proofs.Ytphaicaobepimaa
