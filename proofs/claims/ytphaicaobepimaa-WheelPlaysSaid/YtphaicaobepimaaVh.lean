/- Timers go off. No conditions but the ones that stand in each. -/
import Derived.Test.YtphaicaobepimaaVg
import Derived.Test.YtphaicaobepimaaSo
namespace Go.Proofs.Ytphaicaobepimaa
set_option linter.all false
set_option linter.unusedSimpArgs false
open Go.RowKit

theorem To.noDense {p : List Nat} {s : St} {b : Nat} {kvs : List (AV × AV)} {dn : Bool} (hb : s.fs.H b = .mapb kvs dn) : To p s (s.putB b (.mapb kvs false)) := fun c g a w _ hR => ⟨g, by rw [St.fs_putB]; exact hR.noDense hb⟩
/-- Those whose numbers are not among some. -/
def offL (l D : List Tm) : List Tm := l.foldl (fun D t => offT t.id D) D
theorem offL_snoc (l : List Tm) (t : Tm) (D : List Tm) : offL (l ++ [t]) D = offT t.id (offL l D) := by simp [offL]
theorem offT_sub {x : Int} {D : List Tm} : (offT x D).Sublist D := List.filter_sublist
theorem offL_sub : ∀ {l D : List Tm}, (offL l D).Sublist D
  | [], D => List.Sublist.refl _
  | t :: l, D => (offL_sub (l := l) (D := offT t.id D)).trans offT_sub
theorem offL_pair {l D : List Tm} (h : D.Pairwise fun a b => a.id ≠ b.id) : (offL l D).Pairwise fun a b => a.id ≠ b.id := h.sublist offL_sub
def ids (l : List Tm) : List Int := l.map (·.id)
set_option maxHeartbeats 4000000 in
set_option maxRecDepth 20000 in
theorem wFire_gq (gl : Nat → AV) (T : WT) (D l : List Tm) (dn : Bool) (hlen : T.rows.length = 65) (hmb : T.mb = .mapb (kvT D) dn) (hd : D.Pairwise fun a b => a.id ≠ b.id) (hl : l.length ≤ 1000000) :
    GQ Try.prog gl 63 [.ptr 0 0, .isl l.length (tms l)] T.h 67 [0, 1] (fun _ : Unit => True) (fun _ => .isl l.length (ints (isort (ids l)))) (fun _ => { T with mb := .mapb (kvT (offL l D)) false }.h) := by
  have hT := kvT_mapb hlen hmb
  refine ft_wFire.gq (of_decide_eq_true rfl) (fun q hq => live_of_nmB (((WT.HL hT).mem q hq).2)) (by simp) fun c hgh hg => ?_
  unfold T_wFire
  have hHi := fun n b hb => WT.rowHi hT n (b := b) hb
  have h66 := WT.get66 hT
  have hcl := WT.len hT
  have htl := tms_len l
  have hTh : T.h = (0, .cells T.cells) :: (1, .mapb (kvT D) dn) :: rowH T.rows 0 := by rw [← hmb]; rfl
  have hT2 : ∀ k, WT.wf { T with mb := .mapb (kvT (offL (l.take k) D)) false } := fun k => ⟨hlen, kvT_nm 2 _⟩
  rw [hTh]
  (refine XG ?_; ((try (repeat' with_reducible refine And.intro ?_ ?_)); (try any_goals (first | refine zm ?_ | exact CL | fail))))
  refine loop_nil 5 1 rfl (by (have zf1 := @hHi; refine XG ?_; clear zf1; ((try (repeat' with_reducible refine And.intro ?_ ?_)); (try any_goals (first | refine zm ?_ | exact CL | fail))))) ?_
  unfold St.named
  refine loop_ruleS (fun k : Nat => k ≤ l.length) (fun k => ⟨[(0, .ptr 0 0), (5, .sl 1 67 0 k k), (8, .isl l.length (tms l)), (9, .int .i64 l.length), (10, .int .i64 k)], (67, .cells (ints (ids (l.take k)))) :: { T with mb := .mapb (kvT (offL (l.take k) D)) false }.h, 68⟩) (fun k => l.length - k) ft_wFire.mixed [0, 1] hgh
    ⟨0, by omega, ?_⟩ fun k hk => ?_
  · refine To.trans (To.noDense (b := 1) (kvs := kvT D) (dn := dn) rfl) (To.sel (by (refine XG ?_; ((try (repeat' with_reducible refine And.intro ?_ ?_)); (try any_goals (first | refine zm ?_ | exact CL | fail))))) fun b => ?_)
    show lookb ((67, .cells []) :: (0, .cells T.cells) :: (1, .mapb (kvT D) false) :: rowH T.rows 0) 68 b = lookb ((1, .mapb (kvT D) false) :: (67, .cells []) :: (0, .cells T.cells) :: (1, .mapb (kvT D) dn) :: rowH T.rows 0) 68 b
    simp only [lookb_cons]
    (repeat' split) <;> first | rfl | omega
  have hHk := fun n b hb => WT.rowHi (hT2 k) n (b := b) hb
  have hc2 : WT.cells { T with mb := .mapb (kvT (offL (l.take k) D)) false } = T.cells := rfl
  have hTk : WT.h { T with mb := .mapb (kvT (offL (l.take k) D)) false } = (0, .cells T.cells) :: (1, .mapb (kvT (offL (l.take k) D)) false) :: rowH T.rows 0 := rfl
  rw [hTk]
  (refine XG ?_; ((try (repeat' with_reducible refine And.intro ?_ ?_)); (try any_goals (first | refine zm ?_ | exact CL | fail))))
  (refine xw_ifp (fun h1 => ?_) (fun h1 => ?_) <;> try exact h1.elim)
  · have hkn : k < l.length := by omega
    have hcut := tms_cut l k hkn
    have htk : l.take (k + 1) = l.take k ++ [l[k]] := by rw [List.take_succ]; simp [hkn]
    have hks := kvT_keys (offL (l.take k) D)
    have hki := keyI_ok l[k].id
    have hde := delA_kvT (offL (l.take k) D) l[k].id (offL_pair hd)
    rw [← offL_snoc, ← htk] at hde
    have hids : ints (ids (l.take k)) ++ [.int .i64 l[k].id] = ints (ids (l.take (k + 1))) := by unfold ints ids; rw [htk, List.map_append, List.map_append]; rfl
    have hil : (ints (ids (l.take k))).length = k := by simp [ints, ids]; omega
    generalize l[k] = t at *
    (have zf1 := @htl; have zf2 := @hcut; have zf3 := @hHi; refine XG ?_; clear zf1 zf2 zf3; ((try (repeat' with_reducible refine And.intro ?_ ?_)); (try any_goals (first | refine zm ?_ | exact CL | fail))))
    ((first | apply pr_app | apply prD_app | apply pr_bsl | apply prD_bsl | apply pr_s2b | apply prD_s2b); (have zf1 := @hHi; refine XG ?_; clear zf1; ((try (repeat' with_reducible refine And.intro ?_ ?_)); (try any_goals (first | refine zm ?_ | exact CL | fail)))))
    ((first | apply pr_app | apply prD_app | apply pr_bsl | apply prD_bsl | apply pr_s2b | apply prD_s2b); (have zf1 := @hHi; have zf2 := @hil; have zf3 := @hids; refine XG ?_; clear zf1 zf2 zf3; ((try (repeat' with_reducible refine And.intro ?_ ?_)); (try any_goals (first | refine zm ?_ | exact CL | fail)))))
    (have zf1 := @hHi; have zf2 := @h66; refine XG ?_; clear zf1 zf2; ((try (repeat' with_reducible refine And.intro ?_ ?_)); (try any_goals (first | refine zm ?_ | exact CL | fail))))
    ((first | refine pr_del mtD ?_ | refine prD_del mtD ?_); (have zf1 := @hHi; have zf2 := @hks; have zf3 := @hki; have zf4 := @hde; refine XG ?_; clear zf1 zf2 zf3 zf4; ((try (repeat' with_reducible refine And.intro ?_ ?_)); (try any_goals (first | refine zm ?_ | exact CL | fail)))))
    refine ⟨k + 1, by omega, To.wre (ex := [(67, .cells (ints (ids (l.take (k + 1)))))]) [(67, 70)] (hT2 (k + 1)) (by simp) (by omega) rfl rfl (fun b hb => ?_) ?_ ?_ (by simp), by omega⟩
    · show _ = lookb ((0, .cells T.cells) :: (1, .mapb (kvT (offL (l.take (k + 1)) D)) false) :: rowH T.rows 0) 67 b
      simp only [lookb_cons]
      (repeat' split) <;> first | rfl | omega | (rw [rowH_look, rowH_look, hlen]; (repeat' split) <;> first | rfl | omega)
    · have := tms_rens (rl [(67, 70)]) l
      (refine XG ?_; ((try (repeat' with_reducible refine And.intro ?_ ?_)); (try any_goals (first | refine zm ?_ | exact CL | fail))))
    · have : ∀ n q, nmAll n (ints q) = True := fun n q => by simp [nmAll_iff, ints, nmOk]
      (have zf1 := @this; refine XG ?_; clear zf1; ((try (repeat' with_reducible refine And.intro ?_ ?_)); (try any_goals (first | refine zm ?_ | exact CL | fail))))
  · obtain rfl : k = l.length := by omega
    have hil : ids (l.take l.length) = ids l := by rw [List.take_length]
    have hlen2 : (ids l).length = l.length := by simp [ids]
    have hso := sort_gs c.gl (ids l) (by simpa [ids] using hl)
    rw [hlen2] at hso
    rw [hil]
    (have zf1 := @hHi; refine XG ?_; clear zf1; ((try (repeat' with_reducible refine And.intro ?_ ?_)); (try any_goals (first | refine zm ?_ | exact CL | fail))))
    ((first | refine pr_gs (ins := [67]) hso ?_ ?_ | refine prD_gs (ins := [67]) hso ?_ ?_ | refine pr_gsv (ins := [67]) hso ?_ ?_ | refine prD_gsv (ins := [67]) hso ?_ ?_) <;> (have zf1 := @hHi; refine XG ?_; clear zf1; (try first | exact rfl | exact True.intro); ((try (repeat' with_reducible refine And.intro ?_ ?_)); (try any_goals (first | refine zm ?_ | exact CL | fail)))))
    refine ⟨(), (To.frz (b := 67) (i := 0) rfl rfl).trans (To.wdrop (T := { T with mb := .mapb (kvT (offL l D)) false }) (ex := [(67, .dead), (67, _), (67, _)]) ⟨hlen, kvT_nm 2 _⟩ (by simp) (by simp) ?_)⟩
    have hcut : ((ints ((ids l).mergeSort fun x y => decide (x ≤ y))).drop 0).take (l.length * 1) = ints (isort (ids l)) := by
      rw [List.drop_zero, List.take_of_length_le (by rw [Nat.mul_one]; simp [ints, ids])]; rfl
    rw [hcut]
    have h1 : ∀ n q, nmAll n (ints q) = True := fun n q => by simp [nmAll_iff, ints, nmOk]
    have h2 : ∀ q, rens id (ints q) = ints q := fun q => rens_id _
    (have zf1 := @h1; have zf2 := @h2; refine XG ?_; clear zf1 zf2; ((try (repeat' with_reducible refine And.intro ?_ ?_)); (try any_goals (first | refine zm ?_ | exact CL | fail))))
end Go.Proofs.Ytphaicaobepimaa
