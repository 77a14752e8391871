/- Operations that are not wanted. No conditions but the ones that stand in each. -/
import Derived.Test.YtblimjilinkmbaaAu
namespace Go.Proofs.Ytblimjilinkmbaa
set_option linter.all false
set_option linter.unusedSimpArgs false
open Go.RowKit

section
variable {P : Program} {c : Cx}
def skipFoot (d : Option Nat) (gd : Option (Nat × Bool)) : Foot := ⟨gdT gd, [], d.toList, []⟩
theorem skip_AOkT {s : St} {d : Option Nat} {k : PK} {xs : List TV} {gd : Option (Nat × Bool)} (hb : gB s.fs gd = some false) (hok : gOk s.fs gd) : AOkT P c (.pd d k xs gd) s.fs (skipFoot d gd) (s.putO d (.cnd false .any)).fs := by
  intro ops io he
  obtain ⟨hgd, hdst, hd, ys, hel, rfl⟩ := elab_pd he
  have hput : (s.putO d (.cnd false .any)).fs = match d with | some d => s.fs.put d (.cnd false .any) | none => s.fs := by
    cases d with
    | none => rfl
    | some d => exact St.fs_put _ _ _
  rw [hput]
  refine ⟨fun i hi => ?_, fun b _ => by cases d <;> rfl, ?_⟩
  · cases d with
    | none => rfl
    | some d => show (s.fs.put d _).T i = _; rw [FS.T_put, if_neg (fun e => hi (by simp [skipFoot, e]))]
  · intro s2 hT hH g a w hR K Q' hK
    have hg : ∀ t b, gd = some (t, b) → s2.T t = s.fs.T t := fun t b e => hT t (by simp [skipFoot, e, gdT])
    have hgB : gB s2 gd = gB s.fs gd := by
      cases gd with
      | none => rfl
      | some p => obtain ⟨t, b⟩ := p; simp only [gB, hg t b rfl]
    have hgO : gOk s2 gd := by
      cases gd with
      | none => exact hok
      | some p => obtain ⟨t, b⟩ := p; simpa only [gOk, hg t b rfl] using hok
    have hK' : K (a.put io.dst undef) w := by
      rw [hdst]
      cases d with
      | none =>
        refine hK g _ w ?_
        have : ovr s2 s.fs (skipFoot none gd) = s2 := by unfold ovr skipFoot; simp
        simp only [this]; exact hR
      | some d =>
        refine hK g _ w ?_
        show R c g (ovr s2 (s.fs.put d _) ⟨gdT gd, [], [d], []⟩) _ _
        rw [ovr_put]
        exact hR.put (by simpa using hd) (.cnd (fun h => by cases h) fun _ => rfl)
    unfold Exec1
    rw [guard_ok hgd hR hgO, hgB, hb]
    simp only [Option.getD_some, Bool.false_eq_true, if_false]
    exact hK'
theorem pr_skip {r0 : List TOp} {K : St → Prop} {s : St} {d : Option Nat} {k : PK} {xs : List TV} {gd : Option (Nat × Bool)} (hb : gB s.fs gd = some false) (hok : gOk s.fs gd ∧ XP P c r0 K (s.putO d (.cnd false .any))) : PendR P c (.pd d k xs gd) r0 K s :=
  ⟨_, _, skip_AOkT hb hok.1, hok.2⟩
theorem prD_skip {anc : List Nat} {fs : List Foot} {r0 : List TOp} {K : St → Prop} {s : St} {d : Option Nat} {k : PK} {xs : List TV} {gd : Option (Nat × Bool)} (hb : gB s.fs gd = some false) (hok : gOk s.fs gd ∧ XD P c anc r0 (skipFoot d gd :: fs) K (s.putO d (.cnd false .any))) : PendDR P c anc (.pd d k xs gd) r0 fs K s :=
  ⟨_, _, skip_AOkT hb hok.1, hok.2⟩
end
attribute [go_sem] skipFoot
end Go.Proofs.Ytblimjilinkmbaa
