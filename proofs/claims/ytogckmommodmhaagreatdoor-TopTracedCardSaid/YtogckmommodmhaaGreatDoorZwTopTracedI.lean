import Derived.Test.YtogckmommodmhaaGreatDoorZw5
import Derived.Test.YtogckmommodmhaaGreatDoorZw18
import Derived.Test.YtogckmommodmhaaGreatDoorZw17
import Derived.Test.YtogckmommodmhaaGreatDoorZwMa
import Derived.Test.YtogckmommodmhaaGreatDoorCards
import Derived.Test.YtogckmommodmhaaGreatDoorTie
import Derived.SevenTiedAt
namespace Go.Proofs.YtogckmommodmhaaGreatDoor
open Go.ChangeShapes Go.WideShapes Go.ChangeAt Go.RowKit
open Go.RowKit
set_option linter.all false
set_option linter.unusedSimpArgs false
set_option maxRecDepth 100000
set_option maxRecDepth 100000 in
theorem Qob (os:Os) (started:os.Started) (H:Type) (enc:TypeId × Value→H) :
  ReturnsInHanded {} Tryz.checked os 18 .any (fun w args=>(Rows.topTracedSpec.pre enc Tryz.prog Tryz.f18 [] false w args∧laidMetH Tryz.prog tU w)∧sizedMet enc Tryz.prog Tryz.f18 (OpenSpec.ofChange Rows.topTracedSpec) false w args) (Rows.topTracedSpec.post enc Tryz.prog Tryz.f18 false true false false):=by
 refine RG (by kernel_rfl) Tryz.func18 ?_ (by kernel_rfl) _ rfl ?_ os started H enc
  (ChangeSpec.witness_shaped (enc:=enc) (C:=Tryz.checked) (os:=os) (X:=fun w _=>laidMetH Tryz.prog tU w) false (World.doorLaid Tryz.prog 400 os) #[.bool false,.slice none 0 0] 8 rfl (World.shaped_of_RefB (by kernel_rfl) (by kernel_rfl)) (by kernel_rfl) (by kernel_rfl) (by kernel_rfl) (RC os _)) ?_
 ·rw[Tryz.params18]
  intro t ht
  simp at ht
  repeat' (rcases ht with rfl|ht)
  all_goals (try subst ht)
  all_goals exact ⟨by kernel_rfl,of_decide_eq_true (by kernel_rfl)⟩
 ·intro H ds hl
  rw[Tryz.params18]at hl
  match ds,hl with
  | [d0,d1],_=>rfl
 ·intro W base args ds aG ka
  obtain ⟨aX,⟨p,hA⟩,cJ⟩:=aG
  rw[Tryz.params18]at hA aX cJ
  obtain ⟨v0,vs0,d0,ds0,p0,q0,aN,rfl,rfl,h0,r0⟩:=trodAll_cons hA
  obtain ⟨v1,vs1,d1,ds1,p1,q1,rfl,rfl,rfl,h1,r1⟩:=trodAll_cons r0
  obtain ⟨rfl,rfl,rfl⟩:=trodAll_nil r1
  obtain rfl:args=#[v0,v1]:=by cases args;simp_all
  obtain ⟨b0,rfl⟩:=Pg Tryz.underlying4 (aX 0 4 v0 rfl rfl) h0
  obtain ⟨n1,y1,s1⟩:=WU (aX 1 44 v1 rfl rfl) h1
  obtain ⟨l1,rfl,O8,z1,x1⟩:=s1.aE y1 cJ (j:=1) rfl rfl
  exact (Qx2 vE RF b0 l1 O8 z1).law ka ⟨.bool _,x1,trivial⟩
end Go.Proofs.YtogckmommodmhaaGreatDoor
