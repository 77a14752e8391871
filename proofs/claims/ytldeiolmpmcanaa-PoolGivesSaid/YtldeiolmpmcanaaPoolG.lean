/- The walk of the statement PoolGives. No conditions but the ones that stand in each. -/
import Derived.Test.YtldeiolmpmcanaaPoolR
namespace Go.Proofs.Ytldeiolmpmcanaa
open Go.RowKit

set_option maxHeartbeats 4000000 in
theorem LPoolGives (p : Pool) (s a b : Int) (w : World) (hok : p.ok) (hs : s ≤ 9223372036854775807) :
    Calls Try.prog 6 #[p.v, .int .i64 s, .int .i64 a, .int .i64 b] w fun e w' => e = .returned (.bool true) ∧ Ext w w' := by
  have hp := hok.wf
  have hqw := p.give_wf hp s a b
  have huw := p.drain_wf hp a true
  have hvw := p.drain_wf hp a false
  generalize hq : p.give s a b = q0 at hqw
  generalize hu : p.drain a true = u0 at huw
  generalize hv : p.drain a false = v0 at hvw
  obtain ⟨q, qe⟩ := q0
  obtain ⟨u, ue⟩ := u0
  obtain ⟨v, ve⟩ := v0
  have hqw : q.wf := hqw
  have huw : u.wf := huw
  have hvw : v.wf := hvw
  have HL := Lib.hid hp.len
  have HQL := Lib.hid hqw.len
  have HUL := Lib.hid huw.len
  have HVL := Lib.hid hvw.len
  have HQ := Lib.hid hq; have HU := Lib.hid hu; have HV := Lib.hid hv
  clear hq hu hv
  have M := Mm.nil w
  go_enter Try.func6, Try.ntmps6
  go_wp2_with (first
    | (refine M.box p.cells rfl 40 _ rfl rfl ?_; clear M; intro g0 w0 M hz0; clear hz0)
    | (refine M.al pool0.cells rfl 40 rfl pool0_info ?_; clear M; intro g1 w1 M hz1; clear hz1)
    | (refine M.ldAll 0 rfl rfl 40 _ rfl rfl _ Try.underlying40 rfl (pool_size p hp) ?_)
    | (go_at_call 15; refine (Give_any p hp _ _ _ _ hs).mono ?_; rw [HQ.out]; rintro e w3 ⟨rfl, he⟩; have M := M.to he; clear he)
    | (go_at_call 24; refine (GiveR_any p hp _ _ _ _ hs).mono ?_; rw [HQ.out]; rintro e w3 ⟨rfl, he⟩; have M := M.to he; clear he)
    | (refine M.stAll 1 rfl q.cells rfl 40 _ _ rfl rfl rfl (pool_size q hqw) q.cells_one (by rw [HQL.out]; rfl) ?_; clear M; intro w2 M hz2; clear hz2)
    | (refine M.stAll 2 rfl q.cells rfl 40 _ _ rfl rfl rfl (pool_size q hqw) q.cells_one (by rw [HQL.out]; rfl) ?_; clear M; intro w2 M hz2; clear hz2))
  refine wp_region_mix0 16 (by kernel_rfl) (by kernel_rfl) (by kernel_rfl) ?_
  simp only [List.take_succ_cons, List.take_zero, List.drop_succ_cons, List.drop_zero]
  repeat (first | refine wpG_stepA rfl ?_ | (refine wpG_want rfl rfl (fun K hK => ?_); (first | refine M.gldAll 0 rfl 40 _ rfl rfl _ Try.underlying40 rfl (pool_size p hp) ?_ | refine M.gldAll 1 rfl 40 _ rfl rfl _ Try.underlying40 rfl (pool_size q hqw) ?_ | refine M.gldAll 2 rfl 40 _ rfl rfl _ Try.underlying40 rfl (pool_size q hqw) ?_ | refine gOp_val (.bool false) (fun x => run_cmp .neq 40 _ _ _ rfl _ _ rfl rfl (by kernel_rfl) _ (neq_pool q hqw x.w)) ?_); refine hK _ ?_; clear hK K; go_simp) | (refine wpG_want rfl rfl (fun K hK => ?_); go_simp; (first | (refine hK _ ?_; clear hK K) | (apply Exists.intro; refine ⟨fun x => ?_, hK _ ?_⟩; (focus (first | (go_at_call 25; exact Empty_any _ (by assumption) _ _) | (go_at_call 26; exact EmptyR_any _ (by assumption) _ _))); clear hK K; try go_simp))) | (refine wpG_skip rfl rfl ?_; go_simp))
  refine wpG_nil ?_
  intro w7 hw7
  have M := M.to hw7
  clear hw7
  go_wp2_with (first
    | (refine M.al pool0.cells rfl 40 rfl pool0_info ?_; clear M; intro g1 w1 M hz1; clear hz1)
    | (refine M.ldAll 0 rfl rfl 40 _ rfl rfl _ Try.underlying40 rfl (pool_size p hp) ?_)
    | (refine M.ldAll 1 rfl rfl 40 _ rfl rfl _ Try.underlying40 rfl (pool_size u huw) ?_)
    | (refine M.ldAll 2 rfl rfl 40 _ rfl rfl _ Try.underlying40 rfl (pool_size u huw) ?_)
    | (refine M.ldAll 3 rfl rfl 40 _ rfl rfl _ Try.underlying40 rfl (pool_size v hvw) ?_)
    | (refine M.ldAll 4 rfl rfl 40 _ rfl rfl _ Try.underlying40 rfl (pool_size v hvw) ?_)
    | (go_at_call 27; refine (Drain_any p hp _ _).mono ?_; rw [HU.out]; rintro e w3 ⟨rfl, he⟩; have M := M.to he; clear he)
    | (go_at_call 29; refine (Undrain_any p hp _ _).mono ?_; rw [HV.out]; rintro e w3 ⟨rfl, he⟩; have M := M.to he; clear he)
    | (go_at_call 28; refine (DrainR_any p hp _ _ _).mono ?_; (first | rw [HU.out] | rw [HV.out]); rintro e w3 ⟨rfl, he⟩; have M := M.to he; clear he)
    | (refine M.stAll 1 rfl u.cells rfl 40 _ _ rfl rfl rfl (pool_size u huw) u.cells_one (by rw [HQL.out, HUL.out]) ?_; clear M; intro w2 M hz2; clear hz2)
    | (refine M.stAll 2 rfl u.cells rfl 40 _ _ rfl rfl rfl (pool_size u huw) u.cells_one (by rw [HQL.out, HUL.out]) ?_; clear M; intro w2 M hz2; clear hz2)
    | (refine M.stAll 3 rfl v.cells rfl 40 _ _ rfl rfl rfl (pool_size v hvw) v.cells_one (by rw [HVL.out]; rfl) ?_; clear M; intro w2 M hz2; clear hz2)
    | (refine M.stAll 4 rfl v.cells rfl 40 _ _ rfl rfl rfl (pool_size v hvw) v.cells_one (by rw [HVL.out]; rfl) ?_; clear M; intro w2 M hz2; clear hz2)
    | (refine wpList_val (.bool true) rfl (run_cmp .eql 40 _ _ _ rfl _ _ rfl rfl (by kernel_rfl) _ (eql_pool _ (by assumption) _)) ?_)
    | (go_at_call 23; refine (poolsL_any _).mono ?_; rintro e w5 ⟨rfl, he⟩; have M := M.to he; clear he))
  go_ret
  exact ⟨rfl, M.ext⟩
end Go.Proofs.Ytldeiolmpmcanaa
