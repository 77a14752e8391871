import Derived.Test.YtogckmommodmhaaGreatDoorZv5
import Derived.Test.YtogckmommodmhaaGreatDoorZv18
import Derived.Test.YtogckmommodmhaaGreatDoorZv17
import Derived.Test.YtogckmommodmhaaGreatDoorZvMa
import Derived.Test.YtogckmommodmhaaGreatDoorZvMc
import Derived.Test.YtogckmommodmhaaGreatDoorCards
import Derived.Test.YtogckmommodmhaaGreatDoorTie
import Derived.SevenTiedAt
namespace Go.Proofs.YtogckmommodmhaaGreatDoor
open Go.ChangeShapes Go.WideShapes Go.ChangeAt Go.RowKit
open Go.RowKit
set_option linter.all false
set_option linter.unusedSimpArgs false
set_option maxRecDepth 100000
set_option maxRecDepth 100000 in
theorem Qom (os:Os) (started:os.Started) (H:Type) (enc:TypeId × Value→H) :
  ReturnsInHanded {} Tryz.checked os 19 .any (fun w args=>(Rows.topQuietSpec.pre enc Tryz.prog Tryz.f19 [] false w args∧laidMetH Tryz.prog qI w)∧sizedMet enc Tryz.prog Tryz.f19 (OpenSpec.ofChange Rows.topQuietSpec) false w args) (Rows.topQuietSpec.post enc Tryz.prog Tryz.f19 false true false false):=by
 refine KA (by kernel_rfl) Tryz.func19 ?_ (by kernel_rfl) _ rfl ?_ os started H enc
  (ChangeSpec.witness_shaped (enc:=enc) (C:=Tryz.checked) (os:=os) (X:=fun w _=>laidMetH Tryz.prog qI w) false (World.doorLaid Tryz.prog 400 os) #[.bool false,.slice none 0 0] 8 rfl (World.shaped_of_RefB (by kernel_rfl) (by kernel_rfl)) (by kernel_rfl) (by kernel_rfl) (by kernel_rfl) (J6 os _)) ?_
 ·rw[Tryz.params19]
  intro t ht
  simp at ht
  repeat' (rcases ht with rfl|ht)
  all_goals (try subst ht)
  all_goals exact ⟨by kernel_rfl,of_decide_eq_true (by kernel_rfl)⟩
 ·intro H ds hl
  rw[Tryz.params19]at hl
  match ds,hl with
  | [d0,d1],_=>rfl
 ·intro W base args ds aI jt
  obtain ⟨aY,⟨p,hA⟩,cE⟩:=aI
  rw[Tryz.params19]at hA aY cE
  obtain ⟨v0,YK,d0,YL,p0,q0,aN,rfl,rfl,h0,r0⟩:=trodAll_cons hA
  obtain ⟨v1,YM,d1,YN,p1,q1,rfl,rfl,rfl,h1,r1⟩:=trodAll_cons r0
  obtain ⟨rfl,rfl,rfl⟩:=trodAll_nil r1
  obtain rfl:args=#[v0,v1]:=by cases args;simp_all
  obtain ⟨b0,rfl⟩:=Il Tryz.underlying4 (aY 0 4 v0 rfl rfl) h0
  obtain ⟨n1,y1,s1⟩:=Oe (aY 1 44 v1 rfl rfl) h1
  obtain ⟨l1,rfl,EN,z1,x1⟩:=s1.aF y1 cE (j:=1) rfl rfl
  exact (Xb0 ua J9 b0 l1 EN z1).law jt ⟨.bool _,x1,trivial⟩
end Go.Proofs.YtogckmommodmhaaGreatDoor
