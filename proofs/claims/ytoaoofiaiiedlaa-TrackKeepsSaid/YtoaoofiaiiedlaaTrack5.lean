/- The walk of the statement TrackKeeps. No conditions but the ones that stand in each. -/
import Derived.Test.YtoaoofiaiiedlaaTrack4
import Derived.Test.YtoaoofiaiiedlaaMix
namespace Go.Proofs.Ytoaoofiaiiedlaa
open Go.RowKit

theorem next_udp_out (f : Flw) (fl now : Int) (h : f.proto = 17) : nextF f fl false now = { f with due := now + 20 } := by
  unfold nextF; simp [h]; rfl
theorem next_udp_in (f : Flw) (fl now : Int) (h : f.proto = 17) : nextF f fl true now = f := by
  unfold nextF; simp [h]

set_option maxHeartbeats 400000 in
theorem tracksK_any (w : World) : Calls Try.prog 36 #[] w fun e w' => e = .returned (.bool true) ∧ Ext w w' := by
  have H1 := Lib.hid life_udp; have H2 := Lib.hid begB_udp
  go_enter Try.func36, Try.ntmps36
  go_wp2_with (first
    | (go_at_call 34; refine (Life_any _ _ _).mono ?_; rw [H1.out]; rintro e w' ⟨rfl, rfl⟩)
    | (go_at_call 28; refine (Begins_any pktUdp _ (by decide) (by decide)).mono ?_; rw [show begB pktUdp.proto pktUdp.flags = true from H2.out]; rintro e w' ⟨rfl, hb⟩))
  go_ret
  exact ⟨rfl, hb⟩

theorem eql_flow (x0 x1 x2 x3 x4 x5 x6 x7 x8 x9 : Int) (w : World) : (binOp .eql 39 (.agg #[.int .i64 x0, .int .i64 x1, .int .i64 x2, .int .i64 x3, .int .i64 x4, .int .i64 x5, .int .i64 x6, .int .i64 x7, .int .i64 x8, .int .i64 x9]) (.agg #[.int .i64 x0, .int .i64 x1, .int .i64 x2, .int .i64 x3, .int .i64 x4, .int .i64 x5, .int .i64 x6, .int .i64 x7, .int .i64 x8, .int .i64 x9])).run Try.prog w = .ok (.bool true) w := by
  rw [run_eql_struct]
  simp [go_sem]

set_option maxHeartbeats 1000000 in
theorem LTrackKeeps (f : Flw) (p : Pkt) (now : Int) (w : World) (_ : f.ok) (_ : p.ok) :
    Calls Try.prog 11 #[f.v, p.v, .int .i64 now] w fun e w' => e = .returned (.bool true) ∧ Ext w w' := by
  obtain ⟨n, hn⟩ : ∃ n : Nat, now % 1073741824 = n := ⟨(now % 1073741824).toNat, by omega⟩
  have hn1 : n < 1073741824 := by omega
  have HN := Lib.hid hn; clear hn
  have HI := Lib.hid (next_udp_in { f with proto := 17 } p.flags n rfl)
  have HO := Lib.hid (next_udp_out { f with proto := 17 } p.flags n rfl)
  have hb0 := (Blk.new w 39 [.int .i64 17, .int .i64 f.s, .int .i64 f.inn, .int .i64 f.a, .int .i64 f.port, .int .i64 f.remote, .int .i64 f.rport, .int .i64 f.state, .int .i64 f.side, .int .i64 f.due]).alloc (.cells #[.int .i64 p.proto, .int .i64 p.frm, .int .i64 p.sport, .int .i64 p.to_, .int .i64 p.dport, .int .i64 p.ttl, .int .i64 p.id, .int .i64 p.flags, .int .i64 p.seq, .int .i64 p.ack, .int .i64 p.win, .string p.body] 33)
  have hb1 := Blk.new (w.alloc (.cells #[.int .i64 17, .int .i64 f.s, .int .i64 f.inn, .int .i64 f.a, .int .i64 f.port, .int .i64 f.remote, .int .i64 f.rport, .int .i64 f.state, .int .i64 f.side, .int .i64 f.due] 39)) 33 [.int .i64 p.proto, .int .i64 p.frm, .int .i64 p.sport, .int .i64 p.to_, .int .i64 p.dport, .int .i64 p.ttl, .int .i64 p.id, .int .i64 p.flags, .int .i64 p.seq, .int .i64 p.ack, .int .i64 p.win, .string p.body]
  simp only [World.size_alloc] at hb1
  have hw0 := (Ext.alloc w (.cells #[.int .i64 17, .int .i64 f.s, .int .i64 f.inn, .int .i64 f.a, .int .i64 f.port, .int .i64 f.remote, .int .i64 f.rport, .int .i64 f.state, .int .i64 f.side, .int .i64 f.due] 39)).alloc' (.cells #[.int .i64 p.proto, .int .i64 p.frm, .int .i64 p.sport, .int .i64 p.to_, .int .i64 p.dport, .int .i64 p.ttl, .int .i64 p.id, .int .i64 p.flags, .int .i64 p.seq, .int .i64 p.ack, .int .i64 p.win, .string p.body] 33)
  go_enter Try.func11, Try.ntmps11
  go_wp2_with (go_at_call 26; refine (pickK2_any _ _ _ (by omega) (by omega)).mono ?_; rw [HN.out]; rintro e w' ⟨rfl, rfl⟩)
  generalize hWd : World.alloc (World.alloc w _) _ = W at *
  refine wp_region_mix2 10 8 7 39 [.int .i64 0, .int .i64 0, .int .i64 0, .int .i64 0, .int .i64 0, .int .i64 0, .int .i64 0, .int .i64 0, .int .i64 0, .int .i64 0] 9 8 39 [.int .i64 0, .int .i64 0, .int .i64 0, .int .i64 0, .int .i64 0, .int .i64 0, .int .i64 0, .int .i64 0, .int .i64 0, .int .i64 0] (by kernel_rfl) (by kernel_rfl) (by kernel_rfl) (by decide) (by kernel_rfl) (by kernel_rfl) (by kernel_rfl) (by kernel_rfl) ?_
  simp only [List.take_succ_cons, List.take_zero, List.drop_succ_cons, List.drop_zero]
  repeat (first | refine wpG_stepA rfl ?_ | (refine wpG_want rfl rfl (fun K hK => ?_); (first | refine gOp_ld hb0 0 _ 39 _ rfl rfl _ Try.underlying39 rfl (by kernel_rfl) (fun j v h => by simpa using h) ?_ | refine gOp_ld hb1 0 _ 33 _ rfl rfl _ Try.underlying33 rfl (by kernel_rfl) (fun j v h => by simpa using h) ?_); refine hK _ ?_; clear hK K; go_simp) | (refine wpG_want rfl rfl (fun K hK => ?_); go_simp; (first | (refine hK _ ?_; clear hK K) | (apply Exists.intro; refine ⟨fun x => ?_, hK _ ?_⟩; (focus (go_at_call 32; refine (Next_any { f with proto := 17 } p _ n _ (by omega) (by omega)).mono ?_; intro e w'' hh; first | (rw [HO.out] at hh; exact hh) | (rw [HI.out] at hh; exact hh))); clear hK K; try go_simp))) | (refine wpG_skip rfl rfl ?_; go_simp))
  refine wpG_nil ?_
  intro g g' W2 hW2 hg hg' hne hbg hbg'
  have hsz := hw0.size
  go_wp2_with (first
    | (refine wpList_st hbg 0 [.int .i64 17, .int .i64 f.s, .int .i64 f.inn, .int .i64 f.a, .int .i64 f.port, .int .i64 f.remote, .int .i64 f.rport, .int .i64 f.state, .int .i64 f.side, .int .i64 (n + 20)] rfl 39 _ _ rfl rfl rfl (by kernel_rfl) (by simp [Value.oneCell']) (by simp) ?_; intro W3 hb3 hg3 hz3; rw [splice_all _ _ (by rfl)] at hb3)
    | (refine wpList_st (hbg'.grown hg3 (by simp; omega)) 0 [.int .i64 17, .int .i64 f.s, .int .i64 f.inn, .int .i64 f.a, .int .i64 f.port, .int .i64 f.remote, .int .i64 f.rport, .int .i64 f.state, .int .i64 f.side, .int .i64 f.due] rfl 39 _ _ rfl rfl rfl (by kernel_rfl) (by simp [Value.oneCell']) (by simp) ?_; intro W4 hb4 hg4 hz4; rw [splice_all _ _ (by rfl)] at hb4
       have hw3 := (hW2.grown' hg3 (by simp; omega)).grown' hg4 (by simp; omega)
       have c3 := (hb3.grown hg4 (by simp; omega)).cell; have c4 := hb4.cell; have c0 := (hb0.ext hw3).cell
       rw [← hWd] at hsz; clear hb3 hg3 hg4 hbg hbg')
    | (refine wpList_val (.bool true) rfl ?_ ?_; · (show (binOp .eql _ _ _).run _ _ = _; exact eql_flow _ _ _ _ _ _ _ _ _ _ _))
    | (go_at_call 36; refine (tracksK_any _).mono ?_; rintro e W5 ⟨rfl, hw5⟩))
  go_ret
  exact ⟨rfl, (hw0.trans hw3).trans hw5⟩
end Go.Proofs.Ytoaoofiaiiedlaa
