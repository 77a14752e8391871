/- The walks of the statements on tracks. No conditions but the ones that stand in each. -/
import Derived.Test.YtoaoofiaiiedlaaTrack
import Derived.Test.YtoaoofiaiiedlaaArgs
namespace Go.Proofs.Ytoaoofiaiiedlaa
open Go.RowKit

def pktUdp : Pkt := ⟨17, 0, 0, 0, 0, 0, 0, 0, 0, 0, 0, ⟨#[]⟩⟩
theorem life_udp : lifeN 17 2 = 20 := by decide
theorem begB_udp : begB 17 0 = true := by decide
set_option maxHeartbeats 400000 in
theorem tracksL_any (w : World) : Calls Try.prog 27 #[] w fun e w' => e = .returned (.bool true) ∧ Ext w w' := by
  have H1 := Lib.hid life_udp; have H2 := Lib.hid begB_udp
  go_enter Try.func27, Try.ntmps27
  go_wp2_with (first
    | (go_at_call 34; refine (Life_any _ _ _).mono ?_; rw [H1.out]; rintro e w' ⟨rfl, rfl⟩)
    | (go_at_call 28; refine (Begins_any pktUdp _ (by decide) (by decide)).mono ?_; rw [show begB pktUdp.proto pktUdp.flags = true from H2.out]; rintro e w' ⟨rfl, hb⟩))
  go_ret
  exact ⟨rfl, hb⟩

set_option maxHeartbeats 1000000 in
theorem LTrackBegins_core (p : Pkt) (w : World) :
    Calls Try.prog 9 #[p.v] w fun e w' => e = .returned (.bool true) ∧ Ext w w' := by
  by_cases hlo : p.flags < 0
  · have hd : decide (p.flags < 0) = true := by simp [hlo]
    go_enter Try.func9, Try.ntmps9
    go_wp2_with (go_at_call 27; refine (tracksL_any _).mono ?_; rintro e w' ⟨rfl, hb⟩)
    go_ret
    exact ⟨rfl, (Ext.alloc _ _).trans hb⟩
  · have hd : decide (p.flags < 0) = false := by simp; omega
    by_cases hhi : 63 < p.flags
    · have hd2 : decide (63 < p.flags) = true := by simp [hhi]
      go_enter Try.func9, Try.ntmps9
      go_wp2_with (go_at_call 27; refine (tracksL_any _).mono ?_; rintro e w' ⟨rfl, hb⟩)
      go_ret
      exact ⟨rfl, (Ext.alloc _ _).trans hb⟩
    · have hd2 : decide (63 < p.flags) = false := by simp; omega
      have h0 : 0 ≤ p.flags := by omega
      have h1 : p.flags ≤ 63 := by omega
      clear hlo hhi
      go_enter Try.func9, Try.ntmps9
      go_wp2_with fail
      refine wp_region_ext_lit (by kernel_rfl) (by kernel_rfl) ?_
      have hx := fun (x : ExtW (w.alloc (.cells #[.int .i64 p.proto, .int .i64 p.frm, .int .i64 p.sport, .int .i64 p.to_, .int .i64 p.dport, .int .i64 p.ttl, .int .i64 p.id, .int .i64 p.flags, .int .i64 p.seq, .int .i64 p.ack, .int .i64 p.win, .string p.body] 33))) (o : Nat) => x.cell (b := w.heap.size) (by simp) o
      repeat (go_big_quiet_step ((first
        | (go_at_call 28; exact Calls.ext_of (Begins_any p _ h0 h1))
        | (go_at_call 29; exact Calls.ext_of (BeginsR_any p _ h0 h1))
        | (go_at_call 30; exact Calls.ext_of (First_any p _))
        | (go_at_call 31; exact Calls.ext_of (FirstR_any p _))
        | (go_at_call 27; exact Calls.ext_of (tracksL_any _)))))
      refine wpQuiet_nil ?_
      rintro _ ⟨⟨wX, hX⟩, rfl⟩
      go_wp2
      go_ret
      exact ⟨rfl, (Ext.alloc _ _).trans hX⟩
theorem LTrackBegins (p : Pkt) (w : World) (_ : p.ok) :
    Calls Try.prog 9 #[p.v] w fun e w' => e = .returned (.bool true) ∧ Ext w w' := LTrackBegins_core p w
end Go.Proofs.Ytoaoofiaiiedlaa
