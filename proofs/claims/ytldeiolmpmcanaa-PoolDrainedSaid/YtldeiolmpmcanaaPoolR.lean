/- The walk of the statement PoolRound. No conditions but the ones that stand in each. -/
import Derived.Test.YtldeiolmpmcanaaPool11
import Derived.Test.YtldeiolmpmcanaaPoolL
import Derived.Test.YtldeiolmpmcanaaMm
import Derived.Test.YtldeiolmpmcanaaMixL
import Derived.Test.YtldeiolmpmcanaaArgsP
import Derived.Test.YtldeiolmpmcanaaPick
namespace Go.Proofs.Ytldeiolmpmcanaa
open Go.RowKit

theorem pool0_info : (Try.prog.info? 40).map (·.zero) = some (some (.agg pool0.cells.toArray)) := by kernel_rfl
theorem pool_size (p : Pool) (h : p.wf) : (Try.prog.info? 40).map (·.size) = some p.cells.length := by rw [h.len]; kernel_rfl

set_option maxHeartbeats 4000000 in
theorem LPoolRound (p : Pool) (s a draw : Int) (w : World) (hok : p.ok) :
    Calls Try.prog 4 #[p.v, .int .i64 s, .int .i64 a, .int .i64 draw] w fun e w' => e = .returned (.bool true) ∧ Ext w w' := by
  have hp := hok.wf
  have HL := Lib.hid hp.len
  have hT := taken p hp s a draw
  generalize hq : p.take s a draw = x at hT
  have HQ := Lib.hid hq; clear hq
  have M := Mm.nil w
  cases hT with
  | no e he =>
    have d1 : (e != 0) = true := by simpa using he
    go_enter Try.func4, Try.ntmps4
    go_wp2_with (first
      | (refine M.box p.cells rfl 40 _ rfl rfl ?_; clear M; intro g0 w0 M hz0; clear hz0)
      | (refine M.al pool0.cells rfl 40 rfl pool0_info ?_; clear M; intro g1 w1 M hz1; clear hz1)
      | (refine M.ldAll 0 rfl rfl 40 _ rfl rfl _ Try.underlying40 rfl (pool_size p hp) ?_)
      | (refine M.ldAll 1 rfl rfl 40 _ rfl rfl _ Try.underlying40 rfl (pool_size p hp) ?_)
      | (go_at_call 13; refine (Take_any p hp _ _ _ _).mono ?_; rw [HQ.out]; rintro e w3 ⟨rfl, he⟩; have M := M.to he; clear he)
      | (refine M.stAll 1 rfl p.cells rfl 40 _ _ rfl rfl rfl (pool_size p hp) p.cells_one (by rw [HL.out]; rfl) ?_; clear M; intro w2 M hz2; clear hz2)
      | (refine wpList_val (.bool true) rfl (run_cmp .eql 40 _ _ _ rfl _ _ rfl rfl (by kernel_rfl) _ (eql_pool p hp _)) ?_)
      | (go_at_call 14; refine (poolsK_any _).mono ?_; rintro e w5 ⟨rfl, he⟩; have M := M.to he; clear he))
    go_ret
    exact ⟨rfl, M.ext⟩
  | yes b k ha hb hk h0 h8 hg hd hl ho =>
    subst ha
    have hqw := p.put_wf hp b k (s + 1)
    have G1 := Lib.hid (give_taken p hp s b k hb hk h0 h8 hg ho)
    have G2 := Lib.hid (give_other p hp s b k hb hk h0 h8 hg)
    have hlp := left_put p hp b k (s + 1) hb hk ho (by omega)
    have hc0 := p.ow_cell hp b k hb hk
    rw [ho] at hc0
    have hc1 := Pool.ow_cell _ hqw b k hb hk
    rw [ow_put p hp b k (s + 1) hb hk] at hc1
    have hcd := dra_cell p hp b hb
    rw [hd] at hcd
    generalize hqq : p.put b k (s + 1) = q at *
    clear hqq
    have HQL := Lib.hid hqw.len
    have HC0 := Lib.hid hc0; have HC1 := Lib.hid hc1; have HCD := Lib.hid hcd
    have HLP : Hid (IntKind.i64.wrap ((p.left b : Int) - (q.left b : Int)) = 1) := by
      have : (p.left b : Int) - (q.left b : Int) = 1 := by omega
      unfold Hid; rw [this]; rfl
    have s0 : 0 ≤ s := h0
    have s1 : s < 8 := h8
    clear hc0 hc1 hcd hd hg ho hlp h0 h8
    have b0 : (0 : Int) ≤ b := by omega
    have b3 : (b : Int) < 3 := by omega
    have k0 : (0 : Int) ≤ k := by omega
    have k6 : (k : Int) < 6 := by omega
    go_enter Try.func4, Try.ntmps4
    go_wp2_with (first
      | (refine M.box p.cells rfl 40 _ rfl rfl ?_; clear M; intro g0 w0 M hz0; clear hz0)
      | (refine M.al pool0.cells rfl 40 rfl pool0_info ?_; clear M; intro g1 w1 M hz1; clear hz1)
      | (refine M.ldAll 0 rfl rfl 40 _ rfl rfl _ Try.underlying40 rfl (pool_size p hp) ?_)
      | (refine M.ldAll 1 rfl rfl 40 _ rfl rfl _ Try.underlying40 rfl (pool_size q hqw) ?_)
      | (go_at_call 13; refine (Take_any p hp _ _ _ _).mono ?_; rw [HQ.out]; rintro e w3 ⟨rfl, he⟩; have M := M.to he; clear he)
      | (go_at_call 15; refine (Give_any q hqw _ _ _ _ (by omega)).mono ?_; rw [G1.out]; rintro e w3 ⟨rfl, he⟩; have M := M.to he; clear he)
      | (refine M.stAll 1 rfl q.cells rfl 40 _ _ rfl rfl rfl (pool_size q hqw) q.cells_one (by rw [HQL.out]; rfl) ?_; clear M; intro w2 M hz2; clear hz2)
      | (refine M.stAll 2 rfl p.cells rfl 40 _ _ rfl rfl rfl (pool_size p hp) p.cells_one (by rw [HL.out]; rfl) ?_; clear M; intro w2 M hz2; clear hz2)
      | (go_at_call 14; refine (poolsK_any _).mono ?_; rintro e w5 ⟨rfl, he⟩; have M := M.to he; clear he))
    have e1 : IntKind.i64.wrap (s + 1) = s + 1 := i64_in _ (by omega) (by omega)
    refine wp_region_mixL1 11 (fun i => i == 9) 10 14 40 pool0.cells (fun _ _ _ _ _ h => h) (by kernel_rfl) (by kernel_rfl) (by kernel_rfl) (by kernel_rfl) pool0_info ?_
    simp only [List.take_succ_cons, List.take_zero, List.drop_succ_cons, List.drop_zero]
    repeat (first | refine wpG_stepA rfl ?_ | (refine wpG_want rfl rfl (fun K hK => ?_); first | ((first | refine M.gldAll 1 rfl 40 _ rfl rfl _ Try.underlying40 rfl (pool_size q hqw) ?_); refine hK _ ?_; clear hK K; go_simp) | (go_simp; (first | (refine hK _ ?_; clear hK K) | (apply Exists.intro; refine ⟨fun x => ?_, hK _ ?_⟩; (focus (first | (go_at_call 11; exact Calls.ext_same (pickK2_any _ _ _ (by omega) (by omega))) | (go_at_call 15; have hh := Give_any q hqw ((s + 1) % 8) b k; rw [G2.out] at hh; exact hh _ (by omega)))); clear hK K; try go_simp)))) | (refine wpG_skip rfl rfl ?_; go_simp))
    refine wpG_nil ?_
    intro g3 w3 hw3 hg3 hb3
    have M := M.add hw3 hg3 hb3
    clear hw3 hg3 hb3 e1
    go_wp2_with (first
      | (refine M.stAll 3 rfl q.cells rfl 40 _ _ rfl rfl rfl (pool_size q hqw) q.cells_one (by rw [HQL.out]; rfl) ?_; clear M; intro w2 M hz2; clear hz2))
    have i1 : (b : Int).toNat = b := by omega
    have i2 : (k : Int).toNat = k := by omega
    have e1 : IntKind.i64.wrap (s + 1) = s + 1 := i64_in _ (by omega) (by omega)
    have e2 := HLP.out
    refine wp_region_mix0 48 (by kernel_rfl) (by kernel_rfl) (by kernel_rfl) ?_
    simp only [List.take_succ_cons, List.take_zero, List.drop_succ_cons, List.drop_zero]
    repeat (first | refine wpG_stepA rfl ?_ | (refine wpG_want rfl rfl (fun K hK => ?_); first | ((first | refine M.gldAll 0 rfl 40 _ rfl rfl _ Try.underlying40 rfl (pool_size p hp) ?_ | refine M.gldAll 1 rfl 40 _ rfl rfl _ Try.underlying40 rfl (pool_size q hqw) ?_ | refine M.gldAll 2 rfl 40 _ rfl rfl _ Try.underlying40 rfl (pool_size p hp) ?_ | refine M.gld1 0 rfl (b * 6 + k) _ HC0.out 3 _ rfl rfl _ Try.underlying3 rfl ?_ | refine M.gld1 1 rfl (b * 6 + k) _ HC1.out 3 _ rfl rfl _ Try.underlying3 rfl ?_ | refine M.gld1 0 rfl (18 + b) _ HCD.out 4 _ rfl rfl _ Try.underlying4 rfl ?_ | refine gOp_val (.bool true) (fun x => run_cmp .eql 40 _ _ _ rfl _ _ rfl rfl (by kernel_rfl) _ (eql_pool p hp x.w)) ?_); refine hK _ ?_; clear hK K; go_simp) | (go_simp; (first | (refine hK _ ?_; clear hK K) | (apply Exists.intro; refine ⟨fun x => ?_, hK _ ?_⟩; (focus (first | (go_at_call 16; exact Left_any _ (by assumption) _ _))); clear hK K; try go_simp)))) | (refine wpG_skip rfl rfl ?_; go_simp))
    refine wpG_nil ?_
    intro w7 hw7
    go_wp2
    go_ret
    exact ⟨rfl, M.ext.trans hw7⟩
end Go.Proofs.Ytldeiolmpmcanaa
