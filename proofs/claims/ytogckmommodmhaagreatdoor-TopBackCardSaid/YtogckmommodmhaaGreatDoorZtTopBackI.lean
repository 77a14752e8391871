import Derived.Test.YtogckmommodmhaaGreatDoorZt5
import Derived.Test.YtogckmommodmhaaGreatDoorZt16
import Derived.Test.YtogckmommodmhaaGreatDoorZtMa
import Derived.Test.YtogckmommodmhaaGreatDoorZtMb
import Derived.Test.YtogckmommodmhaaGreatDoorZtMd
import Derived.Test.YtogckmommodmhaaGreatDoorZtMi
import Derived.Test.YtogckmommodmhaaGreatDoorZtMn
import Derived.Test.YtogckmommodmhaaGreatDoorCards
import Derived.Test.YtogckmommodmhaaGreatDoorTie
import Derived.SevenTiedAt
set_option maxHeartbeats 16000000
namespace Go.Proofs.YtogckmommodmhaaGreatDoor
open Go.ChangeShapes Go.WideShapes Go.ChangeAt Go.RowKit
open Go.RowKit
set_option linter.all false
set_option linter.unusedSimpArgs false
set_option maxRecDepth 100000
set_option maxRecDepth 100000 in
theorem Qq6 (os:Os) (started:os.Started) (H:Type) (enc:TypeId × Value→H) :
  ReturnsInHanded {} Tryz.checked os 6 .any (fun w args=>(Rows.topBackSpec.pre enc Tryz.prog Tryz.f6 [] false w args∧laidMetH Tryz.prog Uk w)∧sizedMet enc Tryz.prog Tryz.f6 (OpenSpec.ofChange Rows.topBackSpec) false w args) (Rows.topBackSpec.post enc Tryz.prog Tryz.f6 false true false false):=by
 refine xu (by kernel_rfl) Tryz.func6 ?_ (by kernel_rfl) _ rfl ?_ os started H enc
  (ChangeSpec.witness_shaped (enc:=enc) (C:=Tryz.checked) (os:=os) (X:=fun w _=>laidMetH Tryz.prog Uk w) false (World.doorLaid Tryz.prog 400 os) #[.bool false,.slice none 0 0,.int .i64 0,.int .i64 0,.int .i64 0,.int .i64 0,.int .i64 0] 8 rfl (World.shaped_of_RefB (by kernel_rfl) (by kernel_rfl)) (by kernel_rfl) (by kernel_rfl) (by kernel_rfl) (xr os _)) ?_
 ·rw[Tryz.params6]
  intro t ht
  simp at ht
  repeat' (rcases ht with rfl|ht)
  all_goals (try subst ht)
  all_goals exact ⟨by kernel_rfl,of_decide_eq_true (by kernel_rfl)⟩
 ·intro H ds hl
  rw[Tryz.params6]at hl
  match ds,hl with
  | [d0,d1,d2,d3,d4,d5,d6],_=>rfl
 ·intro W base args ds aI fD
  obtain ⟨aU,⟨p,hA⟩,cd⟩:=aI
  rw[Tryz.params6]at hA aU cd
  obtain ⟨v0,BJ,d0,BK,p0,q0,aM,rfl,rfl,h0,r0⟩:=trodAll_cons hA
  obtain ⟨v1,BL,d1,BM,p1,q1,rfl,rfl,rfl,h1,r1⟩:=trodAll_cons r0
  obtain ⟨v2,BW,d2,ds2,p2,q2,rfl,rfl,rfl,h2,r2⟩:=trodAll_cons r1
  obtain ⟨v3,vs3,d3,ds3,p3,q3,rfl,rfl,rfl,h3,r3⟩:=trodAll_cons r2
  obtain ⟨v4,vs4,d4,ds4,p4,q4,rfl,rfl,rfl,h4,r4⟩:=trodAll_cons r3
  obtain ⟨v5,vs5,d5,ds5,p5,q5,rfl,rfl,rfl,h5,r5⟩:=trodAll_cons r4
  obtain ⟨v6,vs6,d6,ds6,p6,q6,rfl,rfl,rfl,h6,r6⟩:=trodAll_cons r5
  obtain ⟨rfl,rfl,rfl⟩:=trodAll_nil r6
  obtain rfl:args=#[v0,v1,v2,v3,v4,v5,v6]:=by cases args;simp_all
  obtain ⟨b0,rfl⟩:=wK Tryz.underlying4 (aU 0 4 v0 rfl rfl) h0
  obtain ⟨n1,y1,s1⟩:=yZ (aU 1 44 v1 rfl rfl) h1
  obtain ⟨l1,rfl,pg,z1,x1⟩:=s1.aF y1 cd (j:=1) rfl rfl
  obtain ⟨n2,rfl,O7,A8⟩:=BF Tryz.underlying3 (aU 2 3 v2 rfl rfl) h2
  obtain ⟨n3,rfl,lo3,hi3⟩:=BF Tryz.underlying3 (aU 3 3 v3 rfl rfl) h3
  obtain ⟨n4,rfl,lo4,hi4⟩:=BF Tryz.underlying3 (aU 4 3 v4 rfl rfl) h4
  obtain ⟨n5,rfl,lo5,hi5⟩:=BF Tryz.underlying3 (aU 5 3 v5 rfl rfl) h5
  obtain ⟨n6,rfl,lo6,AX⟩:=BF Tryz.underlying3 (aU 6 3 v6 rfl rfl) h6
  exact (Xeg oy xt b0 l1 n2 n3 n4 n5 n6 ⟨O7,A8⟩ ⟨lo3,hi3⟩ ⟨lo4,hi4⟩ ⟨lo5,hi5⟩ ⟨lo6,AX⟩ pg z1).law fD ⟨.bool _,x1,.int _ _,.int _ _,.int _ _,.int _ _,.int _ _,trivial⟩
end Go.Proofs.YtogckmommodmhaaGreatDoor
