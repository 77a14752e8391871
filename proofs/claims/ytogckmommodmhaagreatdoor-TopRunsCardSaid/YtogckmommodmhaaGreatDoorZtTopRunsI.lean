import Derived.Test.YtogckmommodmhaaGreatDoorZt5
import Derived.Test.YtogckmommodmhaaGreatDoorZt16
import Derived.Test.YtogckmommodmhaaGreatDoorZtMi
import Derived.Test.YtogckmommodmhaaGreatDoorZtMo
import Derived.Test.YtogckmommodmhaaGreatDoorCards
import Derived.Test.YtogckmommodmhaaGreatDoorTie
import Derived.SevenTiedAt
set_option maxHeartbeats 16000000
namespace Go.Proofs.YtogckmommodmhaaGreatDoor
open Go.ChangeShapes Go.WideShapes Go.ChangeAt Go.RowKit
open Go.RowKit
set_option linter.all false
set_option linter.unusedSimpArgs false
set_option maxRecDepth 100000
set_option maxRecDepth 100000 in
theorem Qqc (os:Os) (started:os.Started) (H:Type) (enc:TypeId × Value→H) :
  ReturnsInHanded {} Tryz.checked os 15 .any (fun w args=>(Rows.topRunsSpec.pre enc Tryz.prog Tryz.f15 [] false w args∧laidMetH Tryz.prog Uk w)∧sizedMet enc Tryz.prog Tryz.f15 (OpenSpec.ofChange Rows.topRunsSpec) false w args) (Rows.topRunsSpec.post enc Tryz.prog Tryz.f15 false true false false):=by
 refine xu (by kernel_rfl) Tryz.func15 ?_ (by kernel_rfl) _ rfl ?_ os started H enc
  (ChangeSpec.witness_shaped (enc:=enc) (C:=Tryz.checked) (os:=os) (X:=fun w _=>laidMetH Tryz.prog Uk w) false (World.doorLaid Tryz.prog 400 os) #[.bool false,.slice none 0 0,.int .i64 0] 8 rfl (World.shaped_of_RefB (by kernel_rfl) (by kernel_rfl)) (by kernel_rfl) (by kernel_rfl) (by kernel_rfl) (xr os _)) ?_
 ·rw[Tryz.params15]
  intro t ht
  simp at ht
  repeat' (rcases ht with rfl|ht)
  all_goals (try subst ht)
  all_goals exact ⟨by kernel_rfl,of_decide_eq_true (by kernel_rfl)⟩
 ·intro H ds hl
  rw[Tryz.params15]at hl
  match ds,hl with
  | [d0,d1,d2],_=>rfl
 ·intro W base args ds aI fD
  obtain ⟨aU,⟨p,hA⟩,cd⟩:=aI
  rw[Tryz.params15]at hA aU cd
  obtain ⟨v0,BJ,d0,BK,p0,q0,aM,rfl,rfl,h0,r0⟩:=trodAll_cons hA
  obtain ⟨v1,BL,d1,BM,p1,q1,rfl,rfl,rfl,h1,r1⟩:=trodAll_cons r0
  obtain ⟨v2,BW,d2,ds2,p2,q2,rfl,rfl,rfl,h2,r2⟩:=trodAll_cons r1
  obtain ⟨rfl,rfl,rfl⟩:=trodAll_nil r2
  obtain rfl:args=#[v0,v1,v2]:=by cases args;simp_all
  obtain ⟨b0,rfl⟩:=wK Tryz.underlying4 (aU 0 4 v0 rfl rfl) h0
  obtain ⟨n1,y1,s1⟩:=yZ (aU 1 44 v1 rfl rfl) h1
  obtain ⟨l1,rfl,pg,z1,x1⟩:=s1.aF y1 cd (j:=1) rfl rfl
  obtain ⟨n2,rfl,O7,A8⟩:=BF Tryz.underlying3 (aU 2 3 v2 rfl rfl) h2
  exact (Xi6 oy xt b0 l1 n2 ⟨O7,A8⟩ pg z1).law fD ⟨.bool _,x1,.int _ _,trivial⟩
end Go.Proofs.YtogckmommodmhaaGreatDoor
