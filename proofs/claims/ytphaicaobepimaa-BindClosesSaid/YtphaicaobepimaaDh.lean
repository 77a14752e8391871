/- What bind.put answers. No conditions but the ones that stand in each. -/
import Derived.Test.YtphaicaobepimaaDg
namespace Go.Proofs.Ytphaicaobepimaa
set_option linter.all false
set_option linter.unusedSimpArgs false
open Go.RowKit

theorem Tb.enc_set {t : Tb} (h : t.wf) (x : AV) : t.enc.set 29 x = t.hd ++ [x] := by
  unfold Tb.enc
  rw [List.set_append_right _ _ (by rw [Tb.hd_len h]; exact Nat.le_refl _), Tb.hd_len h]; rfl
theorem Tb.hd_get (t : Tb) (h : t.wf) (x : AV) : (t.hd ++ [x]).length = 30 := by simp [Tb.hd_len h]
def Tb.add (t : Tb) (m : Mp) : Tb := { t with maps := t.maps ++ [m] }
def putT (t : Tb) (m : Mp) (b : Bool) (e : Int) : AV := .tup [.agg t.enc, .agg m.enc, .bool b, .int .i64 e]
set_option maxHeartbeats 2000000 in
theorem bput_ps (gl : Nat → AV) (t : Tb) (ht : t.wf) (hl : t.maps.length ≤ 100000) (m : Mp) (b : Bool) : PS Try.prog gl 52 [.agg t.enc, .agg m.enc, .bool b] (putT (t.add m) m b 0) := by
  refine ft_bput.ps (of_decide_eq_true rfl) (by simp [nmOk, nmAll, putT, Tb.enc_nm, Mp.enc]) fun c hN hg => ?_
  unfold T_bput
  have e2 := Tb.enc_len ht
  have e3 := Tb.enc_maps ht
  have hel := mps_len t.maps
  have hs := Tb.enc_set ht
  have hsl := Tb.hd_get t ht
  unfold Mp.enc
  (have zf1 := @e2; have zf2 := @e3; refine XG ?_; clear zf1 zf2; ((try (repeat' with_reducible refine And.intro ?_ ?_)); (try any_goals (first | refine zm ?_ | exact CL | fail))))
  ((first | refine pr_gs (ins := []) (clone_gs c.gl t.maps (by omega)) ?_ ?_ | refine prD_gs (ins := []) (clone_gs c.gl t.maps (by omega)) ?_ ?_ | refine pr_gsv (ins := []) (clone_gs c.gl t.maps (by omega)) ?_ ?_ | refine prD_gsv (ins := []) (clone_gs c.gl t.maps (by omega)) ?_ ?_) <;> (have zf1 := @e2; have zf2 := @e3; refine XG ?_; clear zf1 zf2; (try first | exact rfl | exact True.intro); ((try (repeat' with_reducible refine And.intro ?_ ?_)); (try any_goals (first | refine zm ?_ | exact CL | fail)))))
  ((first | apply pr_app | apply prD_app | apply pr_bsl | apply prD_bsl | apply pr_s2b | apply prD_s2b); (refine XG ?_; ((try (repeat' with_reducible refine And.intro ?_ ?_)); (try any_goals (first | refine zm ?_ | exact CL | fail)))))
  ((first | apply pr_app | apply prD_app | apply pr_bsl | apply prD_bsl | apply pr_s2b | apply prD_s2b); (have zf1 := @hel; refine XG ?_; clear zf1; ((try (repeat' with_reducible refine And.intro ?_ ?_)); (try any_goals (first | refine zm ?_ | exact CL | fail)))))
  (have zf1 := @hs; have zf2 := @e2; have zf3 := @hsl; refine XG ?_; clear zf1 zf2 zf3; ((try (repeat' with_reducible refine And.intro ?_ ?_)); (try any_goals (first | refine zm ?_ | exact CL | fail))))
  have hq : putT (t.add m) m b 0 = .tup [.agg (t.hd ++ [.isl (t.maps.length + 1) (mps t.maps ++ [.int .i64 m.proto, .int .i64 m.s, .int .i64 m.inn, .int .i64 m.a, .int .i64 m.port])]), .agg [.int .i64 m.proto, .int .i64 m.s, .int .i64 m.inn, .int .i64 m.a, .int .i64 m.port], .bool b, .int .i64 0] := by
    rw [mps_snoc]
    simp [putT, Tb.add, Tb.enc, Tb.hd, Mp.enc]
  have htk : (mps t.maps ++ [AV.int .i64 m.proto, .int .i64 m.s, .int .i64 m.inn, .int .i64 m.a, .int .i64 m.port]).take ((t.maps.length + 1) * 5) = mps t.maps ++ [.int .i64 m.proto, .int .i64 m.s, .int .i64 m.inn, .int .i64 m.a, .int .i64 m.port] := List.take_of_length_le (by simp [mps_len]; omega)
  rw [hq, List.map_append]
  (have zf1 := @htk; refine XG ?_; clear zf1; ((try (repeat' with_reducible refine And.intro ?_ ?_)); (try any_goals (first | refine zm ?_ | exact CL | fail))))
end Go.Proofs.Ytphaicaobepimaa
