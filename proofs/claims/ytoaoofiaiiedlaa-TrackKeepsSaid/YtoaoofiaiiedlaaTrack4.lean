/- The walk of the statement TrackNexts. No conditions but the ones that stand in each. -/
import Derived.Test.YtoaoofiaiiedlaaTrack3
import Derived.Test.YtoaoofiaiiedlaaTrackLaws
import Derived.Test.YtoaoofiaiiedlaaSums2
import Derived.Test.YtoaoofiaiiedlaaPick
import Derived.Test.YtoaoofiaiiedlaaArgs2
import Derived.Deep.RegionHeld3
namespace Go.Proofs.Ytoaoofiaiiedlaa
open Go.RowKit

set_option maxHeartbeats 1000000 in
theorem LTrackNexts_core (f : Flw) (p : Pkt) (inward : Bool) (now : Int) (w : World) :
    Calls Try.prog 10 #[f.v, p.v, .bool inward, .int .i64 now] w fun e w' => e = .returned (.bool true) ∧ Ext w w' := by
  by_cases hlo : now < 0
  · have hd : decide (now < 0) = true := by simp [hlo]
    go_enter Try.func10, Try.ntmps10
    go_wp2_with (go_at_call 27; refine (tracksL_any _).mono ?_; rintro e w' ⟨rfl, hb⟩)
    go_ret
    exact ⟨rfl, ((Ext.alloc _ _).alloc' _).trans hb⟩
  · have hd : decide (now < 0) = false := by simp; omega
    by_cases hhi : 1099511627776 < now
    · have hd2 : decide (1099511627776 < now) = true := by simp [hhi]
      go_enter Try.func10, Try.ntmps10
      go_wp2_with (go_at_call 27; refine (tracksL_any _).mono ?_; rintro e w' ⟨rfl, hb⟩)
      go_ret
      exact ⟨rfl, ((Ext.alloc _ _).alloc' _).trans hb⟩
    · have hd2 : decide (1099511627776 < now) = false := by simp; omega
      have h0 : 0 ≤ now := by omega
      have h1 : now ≤ 4398046511104 := by omega
      clear hlo hhi
      go_enter Try.func10, Try.ntmps10
      go_wp2_with fail
      refine wp_region_ext_lit (by kernel_rfl) (by kernel_rfl) ?_
      have hx := fun (x : ExtW ((w.alloc (.cells #[.int .i64 f.proto, .int .i64 f.s, .int .i64 f.inn, .int .i64 f.a, .int .i64 f.port, .int .i64 f.remote, .int .i64 f.rport, .int .i64 f.state, .int .i64 f.side, .int .i64 f.due] 39)).alloc (.cells #[.int .i64 p.proto, .int .i64 p.frm, .int .i64 p.sport, .int .i64 p.to_, .int .i64 p.dport, .int .i64 p.ttl, .int .i64 p.id, .int .i64 p.flags, .int .i64 p.seq, .int .i64 p.ack, .int .i64 p.win, .string p.body] 33))) (o : Nat) => x.cell (b := w.heap.size) (by simp; omega) o
      have hy := fun (x : ExtW ((w.alloc (.cells #[.int .i64 f.proto, .int .i64 f.s, .int .i64 f.inn, .int .i64 f.a, .int .i64 f.port, .int .i64 f.remote, .int .i64 f.rport, .int .i64 f.state, .int .i64 f.side, .int .i64 f.due] 39)).alloc (.cells #[.int .i64 p.proto, .int .i64 p.frm, .int .i64 p.sport, .int .i64 p.to_, .int .i64 p.dport, .int .i64 p.ttl, .int .i64 p.id, .int .i64 p.flags, .int .i64 p.seq, .int .i64 p.ack, .int .i64 p.win, .string p.body] 33))) (o : Nat) => x.cell (b := w.heap.size + 1) (by simp) o
      repeat (go_big_quiet_step ((first
        | (go_at_call 32; exact Calls.ext_of (Next_any f p inward now _ h0 h1))
        | (go_at_call 33; exact Calls.ext_of (NextR_any f p inward now _ h0 h1))
        | (go_at_call 34; exact Calls.ext_of_same (Life_any _ _ _))
        | (go_at_call 35; exact Calls.ext_of_same (LifeR_any _ _ _))
        | (go_at_call 27; exact Calls.ext_of (tracksL_any _)))))
      refine wpQuiet_nil ?_
      rintro _ ⟨⟨wX, hX⟩, rfl⟩
      go_wp2
      go_ret
      exact ⟨rfl, ((Ext.alloc _ _).alloc' _).trans hX⟩
theorem LTrackNexts (f : Flw) (p : Pkt) (inward : Bool) (now : Int) (w : World) (_ : f.ok) (_ : p.ok) :
    Calls Try.prog 10 #[f.v, p.v, .bool inward, .int .i64 now] w fun e w' => e = .returned (.bool true) ∧ Ext w w' := LTrackNexts_core f p inward now w
end Go.Proofs.Ytoaoofiaiiedlaa
