/- The walk of the statement PoolTakes. No conditions but the ones that stand in each. -/
import Derived.Test.YtldeiolmpmcanaaPool11
import Derived.Test.YtldeiolmpmcanaaArgsP
namespace Go.Proofs.Ytldeiolmpmcanaa
open Go.RowKit

set_option maxHeartbeats 4000000 in
theorem LPoolTakes (p : Pool) (s a draw : Int) (w : World) (hok : p.ok) :
    Calls Try.prog 5 #[p.v, .int .i64 s, .int .i64 a, .int .i64 draw] w fun e w' => e = .returned (.bool true) ∧ Ext w w' := by
  have hp := hok.wf
  obtain ⟨⟨q, k, er⟩, hq⟩ : ∃ x, p.take s a draw = x := ⟨_, rfl⟩
  have hqw : q.wf := by have := p.take_wf hp s a draw; rw [hq] at this; exact this
  have HQ := Lib.hid hq; clear hq
  have HQL := Lib.hid hqw.len
  have hb0 := Blk.new w 40 p.cells
  have hw := Ext.alloc w (.cells p.cells.toArray 40)
  have HL := Lib.hid hp.len
  go_enter Try.func5, Try.ntmps5
  go_wp2_with (first
    | (refine wpList_ld hb0 0 p.cells rfl 40 _ rfl rfl _ Try.underlying40 rfl (by rw [HL.out]; kernel_rfl) (fun j v h => by simpa using h) ?_)
    | (go_at_call 13; refine (Take_any p hp _ _ _ _).mono ?_; rw [HQ.out]; rintro e w1 ⟨rfl, he⟩; have hb0 := hb0.ext he; have hw := hw.trans he)
    | (go_at_call 17; refine (TakeR_any p hp _ _ _ _).mono ?_; rw [HQ.out]; rintro e w3 ⟨rfl, he⟩; have hb0 := hb0.ext he; have hbx := x2b.ext he; have hw := hw.trans he)
    | (refine wpList_st (Blk.new w1 40 [.int .i64 0, .int .i64 0, .int .i64 0, .int .i64 0, .int .i64 0, .int .i64 0, .int .i64 0, .int .i64 0, .int .i64 0, .int .i64 0, .int .i64 0, .int .i64 0, .int .i64 0, .int .i64 0, .int .i64 0, .int .i64 0, .int .i64 0, .int .i64 0, .bool false, .bool false, .bool false]) 0 q.cells rfl 40 _ _ rfl rfl rfl (by rw [HQL.out]; kernel_rfl) q.cells_one (by rw [HQL.out]; decide) ?_; intro x2 x2b x2g x2z; rw [splice_all _ _ (by rw [HQL.out]; rfl)] at x2b; have hb0 := (hb0.alloc _).grown x2g (by simp; have := hb0.lt; omega); have hw := (hw.alloc' _).grown' x2g (by simp; have := hw.size; omega))
    | (refine wpList_st (Blk.new w3 40 [.int .i64 0, .int .i64 0, .int .i64 0, .int .i64 0, .int .i64 0, .int .i64 0, .int .i64 0, .int .i64 0, .int .i64 0, .int .i64 0, .int .i64 0, .int .i64 0, .int .i64 0, .int .i64 0, .int .i64 0, .int .i64 0, .int .i64 0, .int .i64 0, .bool false, .bool false, .bool false]) 0 q.cells rfl 40 _ _ rfl rfl rfl (by rw [HQL.out]; kernel_rfl) q.cells_one (by rw [HQL.out]; decide) ?_; intro x4 x4b x4g x4z; rw [splice_all _ _ (by rw [HQL.out]; rfl)] at x4b; have hb0 := (hb0.alloc _).grown x4g (by simp; have := hb0.lt; omega); have hbx := (hbx.alloc _).grown x4g (by simp; have := hbx.lt; omega); have hw := (hw.alloc' _).grown' x4g (by simp; have := hw.size; omega))
    | (go_at_call 18; refine (Pick_any p hp _ _).mono ?_; rintro e w5 ⟨rfl, he⟩; have hb0 := hb0.ext he; have hbx := hbx.ext he; have hby := x4b.ext he; have hw := hw.trans he)
    | (go_at_call 19; refine (PickR_any p hp _ _).mono ?_; rintro e w6 ⟨rfl, he⟩; have hb0 := hb0.ext he; have hbx := hbx.ext he; have hby := hby.ext he; have hw := hw.trans he))
  refine wp_region_mix0 42 (by kernel_rfl) (by kernel_rfl) (by kernel_rfl) ?_
  simp only [List.take_succ_cons, List.take_zero, List.drop_succ_cons, List.drop_zero]
  repeat (first | refine wpG_stepA rfl ?_ | (refine wpG_want rfl rfl (fun K hK => ?_); (first | refine gOp_ld hbx 0 q.cells 40 _ rfl rfl _ Try.underlying40 rfl (by rw [HQL.out]; kernel_rfl) (fun j v h => by simpa using h) ?_ | refine gOp_ld hby 0 q.cells 40 _ rfl rfl _ Try.underlying40 rfl (by rw [HQL.out]; kernel_rfl) (fun j v h => by simpa using h) ?_ | refine gOp_ld hb0 0 p.cells 40 _ rfl rfl _ Try.underlying40 rfl (by rw [HL.out]; kernel_rfl) (fun j v h => by simpa using h) ?_ | refine gOp_val (.bool true) (fun x => run_cmp .eql 40 _ _ _ rfl _ _ rfl rfl (by kernel_rfl) _ (eql_pool q hqw x.w)) ?_); refine hK _ ?_; clear hK K; go_simp) | (refine wpG_want rfl rfl (fun K hK => ?_); go_simp; (first | (refine hK _ ?_; clear hK K) | (apply Exists.intro; refine ⟨fun x => ?_, hK _ ?_⟩; (focus (first | (go_at_call 20; exact Good_any p hp _) | (go_at_call 21; exact GoodPool_any p hp _) | (go_at_call 16; exact Left_any p hp _ _) | (go_at_call 22; exact LeftR_any p hp _ _) | (go_at_call 23; exact poolsL_any _))); clear hK K; try go_simp))) | (refine wpG_skip rfl rfl ?_; go_simp))
  refine wpG_nil ?_
  intro w7 hw7
  go_wp2
  go_ret
  exact ⟨rfl, hw.trans hw7⟩
end Go.Proofs.Ytldeiolmpmcanaa
