/- Steps upon maps, as rules of the walk. No conditions but the ones that stand in each. -/
import Derived.Test.YtphaicaobepimaaE9
namespace Go.Proofs.Ytphaicaobepimaa
set_option linter.all false
set_option linter.unusedSimpArgs false
open Go.RowKit

def mpB : List AV → Nat
  | .mp b :: _ => b
  | _ => 0
def isMp : List AV → Prop
  | .mp _ :: _ => True
  | _ => False
def keyV : List AV → AV
  | _ :: x :: _ => x
  | _ => .any
def valV : List AV → AV
  | _ :: _ :: x :: _ => x
  | _ => .any
def intV : List AV → Int
  | _ :: .int _ n :: _ => n
  | _ => 0
def isI64 : List AV → Prop
  | _ :: .int .i64 _ :: _ => True
  | _ => False
def kvB : Bk → List (AV × AV)
  | .mapb kvs _ => kvs
  | _ => []
def dnB : Bk → Bool
  | .mapb _ dn => dn
  | _ => false
def isMapb : Bk → Prop
  | .mapb _ _ => True
  | _ => False
theorem e_mpB (b : Nat) (r : List AV) : mpB (.mp b :: r) = b := rfl
theorem e_isMp (b : Nat) (r : List AV) : isMp (.mp b :: r) = True := rfl
theorem e_keyV (x y : AV) (r : List AV) : keyV (x :: y :: r) = y := rfl
theorem e_valV (x y z : AV) (r : List AV) : valV (x :: y :: z :: r) = z := rfl
theorem e_intV (x : AV) (k : IntKind) (n : Int) (r : List AV) : intV (x :: .int k n :: r) = n := rfl
theorem e_isI64 (x : AV) (n : Int) (r : List AV) : isI64 (x :: .int .i64 n :: r) = True := rfl
theorem e_kvB (kvs : List (AV × AV)) (dn : Bool) : kvB (.mapb kvs dn) = kvs := rfl
theorem e_dnB (kvs : List (AV × AV)) (dn : Bool) : dnB (.mapb kvs dn) = dn := rfl
theorem e_isMapb (kvs : List (AV × AV)) (dn : Bool) : isMapb (.mapb kvs dn) = True := rfl
theorem e_KeyOk_agg (ks : List SK) (cs : List AV) : KeyOk true ks (.agg cs) = (cs.map kindA = ks.map some) := by simp [KeyOk, keyF]
theorem e_KeyOk_int (k : IntKind) (n : Int) : KeyOk false [.int k] (.int k n) = True := by simp [KeyOk, keyF, kindA]
theorem e_kindA_int (k : IntKind) (n : Int) : kindA (.int k n) = some (.int k) := rfl
theorem e_kindA_bool (b : Bool) : kindA (.bool b) = some .bool := rfl
attribute [go_sem] e_mpB e_isMp e_keyV e_valV e_intV e_isI64 e_kvB e_dnB e_isMapb e_KeyOk_agg e_KeyOk_int e_kindA_int e_kindA_bool
theorem isMp_of {vs : List AV} (h : isMp vs) : ∃ b r, vs = .mp b :: r := by
  match vs, h with
  | .mp b :: r, _ => exact ⟨b, r, rfl⟩
theorem isMapb_of {x : Bk} (h : isMapb x) : ∃ kvs dn, x = .mapb kvs dn := by
  cases x <;> first | exact h.elim | exact ⟨_, _, rfl⟩

section
variable {P : Program} {c : Cx} {ops : Array Oper} {io : Oper}
theorem elab_lkp {o : Oper} {t : TypeId} {ok : Bool} {xs : List Operand} (h : elabPK P o = some (.lkp t ok, xs)) : ∃ m k, o.op = .lookup t m k ok ∧ xs = [m, k] := by
  unfold elabPK at h
  repeat' split at h
  all_goals first
    | (cases h; exact ⟨_, _, by assumption, rfl⟩)
    | (simp at h; done)
    | (cases h; done)
    | (simp [Option.map_eq_some_iff] at h; done)
theorem elab_upd {o : Oper} {t : TypeId} {xs : List Operand} (h : elabPK P o = some (.upd t, xs)) : ∃ m k v, o.op = .mapUpdate t m k v ∧ xs = [m, k, v] := by
  unfold elabPK at h
  repeat' split at h
  all_goals first
    | (cases h; exact ⟨_, _, _, by assumption, rfl⟩)
    | (simp at h; done)
    | (cases h; done)
    | (simp [Option.map_eq_some_iff] at h; done)
theorem elab_men {o : Oper} {t : TypeId} {xs : List Operand} (h : elabPK P o = some (.men t, xs)) : ∃ m k, o.op = .mapEntry t m k ∧ xs = [m, k] := by
  unfold elabPK at h
  repeat' split at h
  all_goals first
    | (cases h; exact ⟨_, _, by assumption, rfl⟩)
    | (simp at h; done)
    | (cases h; done)
    | (simp [Option.map_eq_some_iff] at h; done)
theorem elab_mst {o : Oper} {t : TypeId} {xs : List Operand} (h : elabPK P o = some (.mst t, xs)) : ∃ m k v, o.op = .entryStore t m k v ∧ xs = [m, k, v] := by
  unfold elabPK at h
  repeat' split at h
  all_goals first
    | (cases h; exact ⟨_, _, _, by assumption, rfl⟩)
    | (simp at h; done)
    | (cases h; done)
    | (simp [Option.map_eq_some_iff] at h; done)
theorem elab_mkm {o : Oper} {t : TypeId} {xs : List Operand} (h : elabPK P o = some (.mkm t, xs)) : ∃ r, o.op = .makeMap t r ∧ (r = none ∨ ∃ k n, r = some (.const (.int k n))) ∧ xs = [] := by
  unfold elabPK at h
  repeat' split at h
  all_goals first
    | (rename_i hh; exact Bool.noConfusion hh)
    | (cases h; exact ⟨_, by assumption, .inl rfl, rfl⟩)
    | (cases h; exact ⟨_, by assumption, .inr ⟨_, _, rfl⟩, rfl⟩)
    | (simp at h; done)
    | (cases h; done)
    | (simp [Option.map_eq_some_iff] at h; done)

/-- A step that reads a block. -/
theorem rd_AOk {s : FS} {d : Nat} {V : AV} {rt rb : List Nat} (hg : io.guard = none) (hdst : io.dst = some d) (hd : d < c.N)
    (core : ∀ s2 : FS, (∀ i ∈ rt, s2.T i = s.T i) → (∀ b ∈ rb, s2.H b = s.H b) → ∀ g a w, R c g s2 a w → ∃ v', (execOp a.eval io).run P w = .ok (.value v') w ∧ VR g (wset c g s2) w V v') :
    AOk P c ops io s ⟨rt, rb, [d], []⟩ (s.put d V) := by
  refine ⟨fun i hi => ?_, fun j hj => rfl, fun s2 hT hH g a w hR K Q' hK => exec_of_none hg ?_⟩
  · rw [FS.T_put, if_neg (fun e => hi (by simp [e]))]
  · obtain ⟨v', hr, hv⟩ := core s2 hT hH g a w hR
    unfold Oper.wp
    rw [hr]
    show K (a.put io.dst v') w
    rw [hdst]
    refine hK g _ w ?_
    rw [ovr_put]
    exact hR.put hd hv
/-- A step that turns a block and tells something. -/
theorem wd_AOk {s : FS} {b d : Nat} {X : Bk} {V : AV} {rt rb : List Nat} (hg : io.guard = none) (hdst : io.dst = some d) (hd : d < c.N)
    (core : ∀ s2 : FS, (∀ i ∈ rt, s2.T i = s.T i) → (∀ b ∈ rb, s2.H b = s.H b) → ∀ g a w, R c g s2 a w → ∃ g' v' w', (execOp a.eval io).run P w = .ok (.value v') w' ∧ R c g' (s2.putB b X) a w' ∧ VR g' (wset c g' (s2.putB b X)) w' V v') :
    AOk P c ops io s ⟨rt, rb, [d], [b]⟩ ((s.putB b X).put d V) := by
  refine ⟨fun i hi => ?_, fun j hj => ?_, fun s2 hT hH g a w hR K Q' hK => exec_of_none hg ?_⟩
  · rw [FS.T_put, if_neg (fun e => hi (by simp [e]))]; rfl
  · rw [FS.H_put, FS.H_putB, if_neg (fun e => hj (by simp [e]))]
  · obtain ⟨g', v', w', hr, hR', hv⟩ := core s2 hT hH g a w hR
    unfold Oper.wp
    rw [hr]
    show K (a.put io.dst v') w'
    rw [hdst]
    refine hK g' _ w' ?_
    rw [ovr_nw]
    exact hR'.put hd hv
/-- A step that turns a block. -/
theorem wn_AOk {s : FS} {b : Nat} {X : Bk} {rt rb : List Nat} (hg : io.guard = none) (hdst : io.dst = none)
    (core : ∀ s2 : FS, (∀ i ∈ rt, s2.T i = s.T i) → (∀ b ∈ rb, s2.H b = s.H b) → ∀ g a w, R c g s2 a w → ∃ g' w', (execOp a.eval io).run P w = .ok .skip w' ∧ R c g' (s2.putB b X) a w') :
    AOk P c ops io s ⟨rt, rb, [], [b]⟩ (s.putB b X) := by
  refine ⟨fun i hi => rfl, fun j hj => ?_, fun s2 hT hH g a w hR K Q' hK => exec_of_none hg ?_⟩
  · rw [FS.H_putB, if_neg (fun e => hj (by simp [e]))]
  · obtain ⟨g', w', hr, hR'⟩ := core s2 hT hH g a w hR
    unfold Oper.wp
    rw [hr]
    show K (a.put io.dst undef) w'
    rw [hdst]
    refine hK g' _ w' ?_
    rw [ovr_putB]
    exact hR'

def lkpOk (s : FS) (wide : Bool) (ks : List SK) (vs : List AV) : Prop := isMp vs ∧ isMapb (s.H (mpB vs)) ∧ KeyOk wide ks (keyV vs) ∧ KeysOk wide ks (kvB (s.H (mpB vs)))
noncomputable def lkpV (s : FS) (z : AV) (ok : Bool) (vs : List AV) : AV := bif ok then .tup [getA (kvB (s.H (mpB vs))) (keyV vs) z, .bool (hasA (kvB (s.H (mpB vs))) (keyV vs))] else getA (kvB (s.H (mpB vs))) (keyV vs) z
def mapFoot (s : FS) (gl : Nat → AV) (xs : List TV) (wt : List Nat) (wr : Bool) : Foot := ⟨tmpsOf xs, [mpB ((evs gl s xs).map strip)], wt, bif wr then [mpB ((evs gl s xs).map strip)] else []⟩
theorem lkp_AOkT {s : St} {d : Nat} {t : TypeId} {ok : Bool} {xs : List TV} {wide : Bool} {ks : List SK} {z : AV} (hT : MapT P t wide ks z) (hc : cokAll none (evs c.gl s.fs xs)) (hok : lkpOk s.fs wide ks ((evs c.gl s.fs xs).map strip)) :
    AOkT P c (.pd (some d) (.lkp t ok) xs none) s.fs (mapFoot s.fs c.gl xs [d] false) (s.put d (lkpV s.fs z ok ((evs c.gl s.fs xs).map strip))).fs := by
  intro ops io he
  obtain ⟨hgd, hdst, hd, ys, hel, rfl⟩ := elab_pd he
  obtain ⟨m, k, hop, rfl⟩ := elab_lkp hel
  have hv2 : (evs c.gl s.fs ([m, k].map tvO)).map strip = [strip (evT c.gl s.fs (tvO m)), strip (evT c.gl s.fs (tvO k))] := rfl
  unfold mapFoot
  rw [hv2] at hok ⊢
  generalize hvm : strip (evT c.gl s.fs (tvO m)) = vm at *
  generalize hvk : strip (evT c.gl s.fs (tvO k)) = vk at *
  obtain ⟨h1, h2, h3, h4⟩ := hok
  obtain ⟨b, r, hb⟩ := isMp_of h1
  injection hb with hb1 hb2
  subst hb1
  obtain ⟨kvs, dn, hH0⟩ := isMapb_of h2
  simp only [lkpV, mpB, keyV, cond_false] at h3 h4 hH0 ⊢
  rw [hH0] at h4 ⊢
  simp only [kvB] at h4 ⊢
  rw [St.fs_put]
  refine rd_AOk (gd_none hgd) hdst (by simpa using hd) fun s2 hT2 hH2 g a w hR => ?_
  have hevs : evs c.gl s2 ([m, k].map tvO) = evs c.gl s.fs ([m, k].map tvO) := evs_congr hT2
  have hvs := VRs_strip (hR.evs [m, k]) (by rw [hevs]; exact hc)
  rw [hevs, hv2] at hvs
  obtain ⟨v1, v2, _⟩ := hvs
  obtain ⟨r0, hr, hv⟩ := lkp_run hR hT (b := b) (kvs := kvs) (dn := dn) (by rw [hH2 b (by simp), hH0]) v1 v2 h3 h4 ok
  refine ⟨r0, ?_, hv⟩
  unfold execOp
  simp only [hop]
  exact run_v hr
theorem pr_lkp {r0 : List TOp} {K : St → Prop} {s : St} {d : Nat} {t : TypeId} {ok : Bool} {xs : List TV} {wide : Bool} {ks : List SK} {z : AV} (hT : MapT P t wide ks z) (h : cokAll none (evs c.gl s.fs xs) ∧ lkpOk s.fs wide ks ((evs c.gl s.fs xs).map strip) ∧ XP P c r0 K (s.put d (lkpV s.fs z ok ((evs c.gl s.fs xs).map strip)))) :
    PendR P c (.pd (some d) (.lkp t ok) xs none) r0 K s := .inl ⟨_, _, lkp_AOkT hT h.1 h.2.1, h.2.2⟩
theorem prD_lkp {anc : List Nat} {fs : List Foot} {r0 : List TOp} {K : St → Prop} {s : St} {d : Nat} {t : TypeId} {ok : Bool} {xs : List TV} {wide : Bool} {ks : List SK} {z : AV} (hT : MapT P t wide ks z) (h : cokAll none (evs c.gl s.fs xs) ∧ lkpOk s.fs wide ks ((evs c.gl s.fs xs).map strip) ∧ XD P c anc r0 (mapFoot s.fs c.gl xs [d] false :: fs) K (s.put d (lkpV s.fs z ok ((evs c.gl s.fs xs).map strip)))) :
    PendDR P c anc (.pd (some d) (.lkp t ok) xs none) r0 fs K s := ⟨_, _, lkp_AOkT hT h.1 h.2.1, h.2.2⟩

def updB (s : FS) (vs : List AV) (kvs : List (AV × AV)) : Bk := .mapb kvs (dnB (s.H (mpB vs)))
theorem upd_AOkT {s : St} {t : TypeId} {xs : List TV} {wide : Bool} {ks : List SK} {z : AV} (hT : MapT P t wide ks z) (hc : cokAll none (evs c.gl s.fs xs)) (hok : lkpOk s.fs wide ks ((evs c.gl s.fs xs).map strip)) :
    AOkT P c (.pd none (.upd t) xs none) s.fs (mapFoot s.fs c.gl xs [] true) (s.putB (mpB ((evs c.gl s.fs xs).map strip)) (updB s.fs ((evs c.gl s.fs xs).map strip) (updA (kvB (s.fs.H (mpB ((evs c.gl s.fs xs).map strip)))) (keyV ((evs c.gl s.fs xs).map strip)) (valV ((evs c.gl s.fs xs).map strip))))).fs := by
  intro ops io he
  obtain ⟨hgd, hdst, hd, ys, hel, rfl⟩ := elab_pd he
  obtain ⟨m, k, v, hop, rfl⟩ := elab_upd hel
  have hv2 : (evs c.gl s.fs ([m, k, v].map tvO)).map strip = [strip (evT c.gl s.fs (tvO m)), strip (evT c.gl s.fs (tvO k)), strip (evT c.gl s.fs (tvO v))] := rfl
  unfold mapFoot
  rw [hv2] at hok ⊢
  generalize hvm : strip (evT c.gl s.fs (tvO m)) = vm at *
  generalize hvk : strip (evT c.gl s.fs (tvO k)) = vk at *
  generalize hvv : strip (evT c.gl s.fs (tvO v)) = vv at *
  obtain ⟨h1, h2, h3, h4⟩ := hok
  obtain ⟨b, r, hb⟩ := isMp_of h1
  injection hb with hb1 hb2
  subst hb1
  obtain ⟨kvs, dn, hH0⟩ := isMapb_of h2
  simp only [updB, mpB, keyV, valV, cond_true] at h3 h4 hH0 ⊢
  rw [hH0] at h4 ⊢
  simp only [kvB, dnB] at h4 ⊢
  rw [St.fs_putB]
  refine wn_AOk (gd_none hgd) hdst fun s2 hT2 hH2 g a w hR => ?_
  have hevs : evs c.gl s2 ([m, k, v].map tvO) = evs c.gl s.fs ([m, k, v].map tvO) := evs_congr hT2
  have hvs := VRs_strip (hR.evs [m, k, v]) (by rw [hevs]; exact hc)
  rw [hevs, hv2] at hvs
  obtain ⟨v1, v2, v3, _⟩ := hvs
  obtain ⟨w', hr, hR'⟩ := upd_run hR hT (b := b) (kvs := kvs) (dn := dn) (by rw [hH2 b (by simp), hH0]) v1 v2 v3 h3 h4
  refine ⟨g, w', ?_, hR'⟩
  unfold execOp
  simp only [hop, Sem.run_bind, hr, Result.andThen_ok, Sem.run_pure]
theorem pr_upd {r0 : List TOp} {K : St → Prop} {s : St} {t : TypeId} {xs : List TV} {wide : Bool} {ks : List SK} {z : AV} (hT : MapT P t wide ks z) (h : cokAll none (evs c.gl s.fs xs) ∧ lkpOk s.fs wide ks ((evs c.gl s.fs xs).map strip) ∧ XP P c r0 K (s.putB (mpB ((evs c.gl s.fs xs).map strip)) (updB s.fs ((evs c.gl s.fs xs).map strip) (updA (kvB (s.fs.H (mpB ((evs c.gl s.fs xs).map strip)))) (keyV ((evs c.gl s.fs xs).map strip)) (valV ((evs c.gl s.fs xs).map strip)))))) :
    PendR P c (.pd none (.upd t) xs none) r0 K s := .inl ⟨_, _, upd_AOkT hT h.1 h.2.1, h.2.2⟩
theorem prD_upd {anc : List Nat} {fs : List Foot} {r0 : List TOp} {K : St → Prop} {s : St} {t : TypeId} {xs : List TV} {wide : Bool} {ks : List SK} {z : AV} (hT : MapT P t wide ks z) (h : cokAll none (evs c.gl s.fs xs) ∧ lkpOk s.fs wide ks ((evs c.gl s.fs xs).map strip) ∧ XD P c anc r0 (mapFoot s.fs c.gl xs [] true :: fs) K (s.putB (mpB ((evs c.gl s.fs xs).map strip)) (updB s.fs ((evs c.gl s.fs xs).map strip) (updA (kvB (s.fs.H (mpB ((evs c.gl s.fs xs).map strip)))) (keyV ((evs c.gl s.fs xs).map strip)) (valV ((evs c.gl s.fs xs).map strip)))))) :
    PendDR P c anc (.pd none (.upd t) xs none) r0 fs K s := ⟨_, _, upd_AOkT hT h.1 h.2.1, h.2.2⟩

def menOk (s : FS) (wide : Bool) (ks : List SK) (vs : List AV) : Prop := lkpOk s wide ks vs ∧ dnB (s.H (mpB vs)) = true
noncomputable def menV (s : FS) (z : AV) (vs : List AV) : AV := .tup [getA (kvB (s.H (mpB vs))) (keyV vs) z, .int .i64 (ixA (kvB (s.H (mpB vs))) (keyV vs))]
noncomputable def menB (s : FS) (z : AV) (vs : List AV) : Bk := .mapb (menA (kvB (s.H (mpB vs))) (keyV vs) z) true
theorem VR.noBlk {g : Nat → GM} {s : FS} {b : Nat} {X : Bk} {w w' : World} {x : AV} {v : Value} (h : VR g (wset c g s) w x v) (hb : (s.H b).live) (hX : X.live) (hf : Fr w w' (fun i => g b = .re i)) : VR g (wset c g (s.putB b X)) w' x v :=
  h.mono (hf.weak fun i hi => .inr ⟨b, hb, hi⟩) (fun k _ hk => by
    rcases hk with h | ⟨b', h1, h2⟩
    · exact .inl h
    · rw [FS.H_putB] at h1
      split at h1
      · rename_i e; subst e; exact .inr ⟨_, hb, h2⟩
      · exact .inr ⟨b', h1, h2⟩) (fun _ _ => rfl)
theorem men_AOkT {s : St} {d : Nat} {t : TypeId} {xs : List TV} {wide : Bool} {ks : List SK} {z : AV} (hT : MapT P t wide ks z) (hc : cokAll none (evs c.gl s.fs xs)) (hok : menOk s.fs wide ks ((evs c.gl s.fs xs).map strip)) :
    AOkT P c (.pd (some d) (.men t) xs none) s.fs (mapFoot s.fs c.gl xs [d] true) ((s.putB (mpB ((evs c.gl s.fs xs).map strip)) (menB s.fs z ((evs c.gl s.fs xs).map strip))).put d (menV s.fs z ((evs c.gl s.fs xs).map strip))).fs := by
  intro ops io he
  obtain ⟨hgd, hdst, hd, ys, hel, rfl⟩ := elab_pd he
  obtain ⟨m, k, hop, rfl⟩ := elab_men hel
  have hv2 : (evs c.gl s.fs ([m, k].map tvO)).map strip = [strip (evT c.gl s.fs (tvO m)), strip (evT c.gl s.fs (tvO k))] := rfl
  unfold mapFoot
  rw [hv2] at hok ⊢
  generalize hvm : strip (evT c.gl s.fs (tvO m)) = vm at *
  generalize hvk : strip (evT c.gl s.fs (tvO k)) = vk at *
  obtain ⟨⟨h1, h2, h3, h4⟩, h5⟩ := hok
  obtain ⟨b, r, hb⟩ := isMp_of h1
  injection hb with hb1 hb2
  subst hb1
  obtain ⟨kvs, dn, hH0⟩ := isMapb_of h2
  simp only [menB, menV, mpB, keyV, cond_true] at h3 h4 h5 hH0 ⊢
  rw [hH0] at h4 h5 ⊢
  simp only [kvB, dnB] at h4 h5 ⊢
  subst h5
  rw [St.fs_put, St.fs_putB]
  refine wd_AOk (gd_none hgd) hdst (by simpa using hd) fun s2 hT2 hH2 g a w hR => ?_
  have hevs : evs c.gl s2 ([m, k].map tvO) = evs c.gl s.fs ([m, k].map tvO) := evs_congr hT2
  have hvs := VRs_strip (hR.evs [m, k]) (by rw [hevs]; exact hc)
  rw [hevs, hv2] at hvs
  obtain ⟨v1, v2, _⟩ := hvs
  have hb2 : s2.H b = .mapb kvs true := by rw [hH2 b (by simp), hH0]
  obtain ⟨r0, w', hr, hR', hv, hf⟩ := men_run hR hT (b := b) (kvs := kvs) hb2 v1 v2 h3 h4
  refine ⟨g, r0, w', ?_, hR', hv.noBlk (by rw [hb2]; trivial) trivial hf⟩
  unfold execOp
  simp only [hop, Sem.run_bind, hr, Result.andThen_ok, Sem.run_pure]
theorem pr_men {r0 : List TOp} {K : St → Prop} {s : St} {d : Nat} {t : TypeId} {xs : List TV} {wide : Bool} {ks : List SK} {z : AV} (hT : MapT P t wide ks z) (h : cokAll none (evs c.gl s.fs xs) ∧ menOk s.fs wide ks ((evs c.gl s.fs xs).map strip) ∧ XP P c r0 K ((s.putB (mpB ((evs c.gl s.fs xs).map strip)) (menB s.fs z ((evs c.gl s.fs xs).map strip))).put d (menV s.fs z ((evs c.gl s.fs xs).map strip)))) :
    PendR P c (.pd (some d) (.men t) xs none) r0 K s := .inl ⟨_, _, men_AOkT hT h.1 h.2.1, h.2.2⟩
theorem prD_men {anc : List Nat} {fs : List Foot} {r0 : List TOp} {K : St → Prop} {s : St} {d : Nat} {t : TypeId} {xs : List TV} {wide : Bool} {ks : List SK} {z : AV} (hT : MapT P t wide ks z) (h : cokAll none (evs c.gl s.fs xs) ∧ menOk s.fs wide ks ((evs c.gl s.fs xs).map strip) ∧ XD P c anc r0 (mapFoot s.fs c.gl xs [d] true :: fs) K ((s.putB (mpB ((evs c.gl s.fs xs).map strip)) (menB s.fs z ((evs c.gl s.fs xs).map strip))).put d (menV s.fs z ((evs c.gl s.fs xs).map strip)))) :
    PendDR P c anc (.pd (some d) (.men t) xs none) r0 fs K s := ⟨_, _, men_AOkT hT h.1 h.2.1, h.2.2⟩

def mstOk (s : FS) (vs : List AV) : Prop := isMp vs ∧ isMapb (s.H (mpB vs)) ∧ dnB (s.H (mpB vs)) = true ∧ isI64 vs ∧ 0 ≤ intV vs ∧ intV vs < (kvB (s.H (mpB vs))).length
def mstB (s : FS) (vs : List AV) : Bk := .mapb ((kvB (s.H (mpB vs))).set (intV vs).toNat (((kvB (s.H (mpB vs))).getD (intV vs).toNat (.any, .any)).1, valV vs)) true
theorem mst_AOkT {s : St} {t : TypeId} {xs : List TV} (hc : cokAll none (evs c.gl s.fs xs)) (hok : mstOk s.fs ((evs c.gl s.fs xs).map strip)) :
    AOkT P c (.pd none (.mst t) xs none) s.fs (mapFoot s.fs c.gl xs [] true) (s.putB (mpB ((evs c.gl s.fs xs).map strip)) (mstB s.fs ((evs c.gl s.fs xs).map strip))).fs := by
  intro ops io he
  obtain ⟨hgd, hdst, hd, ys, hel, rfl⟩ := elab_pd he
  obtain ⟨m, k, v, hop, rfl⟩ := elab_mst hel
  have hv2 : (evs c.gl s.fs ([m, k, v].map tvO)).map strip = [strip (evT c.gl s.fs (tvO m)), strip (evT c.gl s.fs (tvO k)), strip (evT c.gl s.fs (tvO v))] := rfl
  unfold mapFoot
  rw [hv2] at hok ⊢
  generalize hvm : strip (evT c.gl s.fs (tvO m)) = vm at *
  generalize hvk : strip (evT c.gl s.fs (tvO k)) = vk at *
  generalize hvv : strip (evT c.gl s.fs (tvO v)) = vv at *
  obtain ⟨h1, h2, h3, h4, h5, h6⟩ := hok
  obtain ⟨b, r, hb⟩ := isMp_of h1
  injection hb with hb1 hb2
  subst hb1
  cases vk <;> simp only [isI64] at h4
  rename_i kd n
  cases kd <;> simp only at h4
  obtain ⟨kvs, dn, hH0⟩ := isMapb_of h2
  simp only [mstB, mpB, valV, intV, cond_true] at h3 h5 h6 hH0 ⊢
  rw [hH0] at h3 h6 ⊢
  simp only [kvB, dnB] at h3 h6 ⊢
  subst h3
  obtain ⟨i, rfl⟩ := Int.eq_ofNat_of_zero_le h5
  rw [Int.toNat_natCast]
  rw [St.fs_putB]
  refine wn_AOk (gd_none hgd) hdst fun s2 hT2 hH2 g a w hR => ?_
  have hevs : evs c.gl s2 ([m, k, v].map tvO) = evs c.gl s.fs ([m, k, v].map tvO) := evs_congr hT2
  have hvs := VRs_strip (hR.evs [m, k, v]) (by rw [hevs]; exact hc)
  rw [hevs, hv2] at hvs
  obtain ⟨v1, v2, v3, _⟩ := hvs
  obtain ⟨w', hr, hR'⟩ := mst_run (P := P) hR (t := t) (b := b) (kvs := kvs) (i := i) (by rw [hH2 b (by simp), hH0]) (by omega) v1 v3
  rw [← vint v2] at hr
  refine ⟨g, w', ?_, hR'⟩
  unfold execOp
  simp only [hop, Sem.run_bind, hr, Result.andThen_ok, Sem.run_pure]
theorem prD_mst {anc : List Nat} {fs : List Foot} {r0 : List TOp} {K : St → Prop} {s : St} {t : TypeId} {xs : List TV} (h : cokAll none (evs c.gl s.fs xs) ∧ mstOk s.fs ((evs c.gl s.fs xs).map strip) ∧ XD P c anc r0 (mapFoot s.fs c.gl xs [] true :: fs) K (s.putB (mpB ((evs c.gl s.fs xs).map strip)) (mstB s.fs ((evs c.gl s.fs xs).map strip)))) :
    PendDR P c anc (.pd none (.mst t) xs none) r0 fs K s := ⟨_, _, mst_AOkT h.1 h.2.1, h.2.2⟩

theorem mkm_AOkT {s : St} {d : Nat} {t : TypeId} {wide : Bool} {ks : List SK} {z : AV} (hT : MapT P t wide ks z) (hf : s.fs.H s.n = .free) : AOkT P c (.pd (some d) (.mkm t) [] none) s.fs ⟨[], [s.n], [d], [s.n]⟩ ((s.nw (.mapb [] true)).put d (.mp s.n)).fs := by
  intro ops io he
  obtain ⟨hgd, hdst, hd, ys, hel, hys⟩ := elab_pd he
  obtain ⟨r, hop, hr, rfl⟩ := elab_mkm hel
  obtain ⟨kt, et, zv, hu, _, _, _⟩ := hT.of
  rw [St.fs_put, St.fs_nw]
  refine wd_AOk (gd_none hgd) hdst (by simpa using hd) fun s2 hT2 hH2 g a w hR => ?_
  have hfree : s2.H s.n = .free := by rw [hH2 _ (by simp)]; exact hf
  have hnew := heap_alloc_new w (.map #[] 0)
  have hrun : (execOp a.eval io).run P w = .ok (.value (.map (some w.heap.size))) (w.alloc (.map #[] 0)) := by
    rcases hr with rfl | ⟨k, n, rfl⟩
    · simp [execOp, hop, Instr.makeMap, newObj, Sem.run]
    · simp [execOp, hop, Instr.makeMap, newObj, Sem.run_bind, run_underlying hu, asInt, asIntOf, Act.eval]; simp [Sem.run]
  refine ⟨_, _, _, hrun, hR.new (.map #[] 0) hfree trivial fun g' hg' => ?_, .mp (by simp [updG])⟩
  exact .mapb hnew rfl (fun j hj => by simp at hj) (fun j hj => by simp at hj) (fun j hj => by simp at hj) (fun i j _ hj => by simp at hj) (fun _ => ⟨fun j hj => by simp at hj, rfl⟩)
theorem pr_mkm {r0 : List TOp} {K : St → Prop} {s : St} {d : Nat} {t : TypeId} {wide : Bool} {ks : List SK} {z : AV} (hT : MapT P t wide ks z) (h : s.fs.H s.n = .free ∧ XP P c r0 K ((s.nw (.mapb [] true)).put d (.mp s.n))) :
    PendR P c (.pd (some d) (.mkm t) [] none) r0 K s := .inl ⟨_, _, mkm_AOkT hT h.1, h.2⟩
attribute [go_sem] lkpOk lkpV mapFoot updB menOk menV menB mstOk mstB
end
end Go.Proofs.Ytphaicaobepimaa
