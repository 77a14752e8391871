import Derived.Test.YtogckmommodmhaaGreatDoorZt5
import Derived.Test.YtogckmommodmhaaGreatDoorZt16
import Derived.Test.YtogckmommodmhaaGreatDoorZtMa
import Derived.Test.YtogckmommodmhaaGreatDoorZtMe
import Derived.Test.YtogckmommodmhaaGreatDoorZtMf
import Derived.Test.YtogckmommodmhaaGreatDoorZtMh
import Derived.Test.YtogckmommodmhaaGreatDoorZtMp
import Derived.Test.YtogckmommodmhaaGreatDoorCards
import Derived.Test.YtogckmommodmhaaGreatDoorTie
import Derived.SevenTiedAt
set_option maxHeartbeats 16000000
namespace Go.Proofs.YtogckmommodmhaaGreatDoor
open Go.ChangeShapes Go.WideShapes Go.ChangeAt Go.RowKit
open Go.RowKit
set_option linter.all false
set_option linter.unusedSimpArgs false
set_option maxRecDepth 100000
set_option maxRecDepth 100000 in
theorem Qn6 (os:Os) (started:os.Started) (H:Type) (enc:TypeId × Value→H) :
  ReturnsInHanded {} Tryz.checked os 14 .any (fun w args=>(Rows.topDrainedSpec.pre enc Tryz.prog Tryz.f14 [] false w args∧laidMetH Tryz.prog Uk w)∧sizedMet enc Tryz.prog Tryz.f14 (OpenSpec.ofChange Rows.topDrainedSpec) false w args) (Rows.topDrainedSpec.post enc Tryz.prog Tryz.f14 false true false false):=by
 refine xu (by kernel_rfl) Tryz.func14 ?_ (by kernel_rfl) _ rfl ?_ os started H enc
  (ChangeSpec.witness_shaped (enc:=enc) (C:=Tryz.checked) (os:=os) (X:=fun w _=>laidMetH Tryz.prog Uk w) false (World.doorLaid Tryz.prog 400 os) #[.bool false,.slice none 0 0] 8 rfl (World.shaped_of_RefB (by kernel_rfl) (by kernel_rfl)) (by kernel_rfl) (by kernel_rfl) (by kernel_rfl) (xr os _)) ?_
 ·rw[Tryz.params14]
  intro t ht
  simp at ht
  repeat' (rcases ht with rfl|ht)
  all_goals (try subst ht)
  all_goals exact ⟨by kernel_rfl,of_decide_eq_true (by kernel_rfl)⟩
 ·intro H ds hl
  rw[Tryz.params14]at hl
  match ds,hl with
  | [d0,d1],_=>rfl
 ·intro W base args ds aI fD
  obtain ⟨aU,⟨p,hA⟩,cd⟩:=aI
  rw[Tryz.params14]at hA aU cd
  obtain ⟨v0,BJ,d0,BK,p0,q0,aM,rfl,rfl,h0,r0⟩:=trodAll_cons hA
  obtain ⟨v1,BL,d1,BM,p1,q1,rfl,rfl,rfl,h1,r1⟩:=trodAll_cons r0
  obtain ⟨rfl,rfl,rfl⟩:=trodAll_nil r1
  obtain rfl:args=#[v0,v1]:=by cases args;simp_all
  obtain ⟨b0,rfl⟩:=wK Tryz.underlying4 (aU 0 4 v0 rfl rfl) h0
  obtain ⟨n1,y1,s1⟩:=yZ (aU 1 44 v1 rfl rfl) h1
  obtain ⟨l1,rfl,pg,z1,x1⟩:=s1.aF y1 cd (j:=1) rfl rfl
  exact (Qss oy xt b0 l1 pg z1).law fD ⟨.bool _,x1,trivial⟩
end Go.Proofs.YtogckmommodmhaaGreatDoor
