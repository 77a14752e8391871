/- The laws' own look at pools. No conditions but the ones that stand in each. -/
import Derived.Test.YtldeiolmpmcanaaPool10
namespace Go.Proofs.Ytldeiolmpmcanaa
open Go.RowKit

theorem run_cmp {P : Program} {o : Oper} {a : Act} {w : World} (op : BinOp) (t u : TypeId) (x y : Operand) (ho : o.op = .binOp op t x y u) (xs ys : Array Value) (hx : a.eval x = .agg xs) (hy : a.eval y = .agg ys) (hm : P.eqGuardType P.depth t = false) (v : Value)
    (h : (binOp op t (.agg xs) (.agg ys)).run P w = .ok v w) : (execOp a.eval o).run P w = .ok (.value v) w := by
  unfold execOp
  simp only [ho, hx, hy, Sem.run_bind, run_eqGuard_agg w op t x y xs ys hm, h, Result.andThen_ok, Sem.run_pure]

def pool0 : Pool := ⟨[0,0,0,0,0,0,0,0,0,0,0,0,0,0,0,0,0,0], [false, false, false]⟩
theorem pool0_wf : pool0.wf := ⟨rfl, rfl⟩
theorem pool0_take : pool0.take 2 1 5 = (pool0.put 1 5 3, 5, 0) := by kernel_rfl
set_option maxHeartbeats 1000000 in
theorem poolsL_any (w : World) : Calls Try.prog 23 #[] w fun e w' => e = .returned (.bool true) ∧ Ext w w' := by
  have H1 := Lib.hid pool0_take
  go_enter Try.func23, Try.ntmps23
  go_wp2_with (first
    | (go_at_call 13; refine (Take_any pool0 pool0_wf _ _ _ _).mono ?_; rw [H1.out]; rintro e w' ⟨rfl, hb⟩)
    | (refine wpList_st (Blk.new w' 40 [.int .i64 0, .int .i64 0, .int .i64 0, .int .i64 0, .int .i64 0, .int .i64 0, .int .i64 0, .int .i64 0, .int .i64 0, .int .i64 0, .int .i64 0, .int .i64 0, .int .i64 0, .int .i64 0, .int .i64 0, .int .i64 0, .int .i64 0, .int .i64 0, .bool false, .bool false, .bool false]) 0 (pool0.put 1 5 3).cells rfl 40 _ _ rfl rfl rfl (by kernel_rfl) (Pool.cells_one _) (by decide) ?_; intro w2 hb2 hg2 hz2; have hc : w2.cell? ⟨w'.heap.size, 11, none⟩ = some (.int .i64 3) := (by rw [hb2.cell]; rfl)))
  go_ret
  exact ⟨rfl, hb.trans ((Ext.alloc w' _).grown' hg2 (by simp))⟩
set_option maxHeartbeats 1000000 in
theorem poolsK_any (w : World) : Calls Try.prog 14 #[] w fun e w' => e = .returned (.bool true) ∧ Ext w w' := by
  have H1 := Lib.hid pool0_take
  go_enter Try.func14, Try.ntmps14
  go_wp2_with (first
    | (go_at_call 13; refine (Take_any pool0 pool0_wf _ _ _ _).mono ?_; rw [H1.out]; rintro e w' ⟨rfl, hb⟩)
    | (refine wpList_st (Blk.new w' 40 [.int .i64 0, .int .i64 0, .int .i64 0, .int .i64 0, .int .i64 0, .int .i64 0, .int .i64 0, .int .i64 0, .int .i64 0, .int .i64 0, .int .i64 0, .int .i64 0, .int .i64 0, .int .i64 0, .int .i64 0, .int .i64 0, .int .i64 0, .int .i64 0, .bool false, .bool false, .bool false]) 0 (pool0.put 1 5 3).cells rfl 40 _ _ rfl rfl rfl (by kernel_rfl) (Pool.cells_one _) (by decide) ?_; intro w2 hb2 hg2 hz2; have hc : w2.cell? ⟨w'.heap.size, 11, none⟩ = some (.int .i64 3) := (by rw [hb2.cell]; rfl)))
  go_ret
  exact ⟨rfl, hb.trans ((Ext.alloc w' _).grown' hg2 (by simp))⟩
end Go.Proofs.Ytldeiolmpmcanaa
