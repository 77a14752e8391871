import Derived.Test.YtogckmommodmhaaGreatDoorZr7
import Derived.Test.YtogckmommodmhaaGreatDoorCards
import Derived.Test.YtogckmommodmhaaGreatDoorTie
import Derived.SevenTiedAt
namespace Go.Proofs.YtogckmommodmhaaGreatDoor
open Go.ChangeShapes Go.WideShapes Go.ChangeAt Go.RowKit
open Go.RowKit
set_option linter.all false
set_option linter.unusedSimpArgs false
set_option maxRecDepth 100000
set_option maxRecDepth 100000 in
theorem Qis (os:Os) (started:os.Started) (H:Type) (enc:TypeId × Value→H) :
  ReturnsInHanded {} Tryz.checked os 11 .any (fun w args=>(Rows.topStrangersSpec.pre enc Tryz.prog Tryz.f11 [] false w args∧laidMetH Tryz.prog Qdb w)∧sizedMet enc Tryz.prog Tryz.f11 (OpenSpec.ofChange Rows.topStrangersSpec) false w args) (Rows.topStrangersSpec.post enc Tryz.prog Tryz.f11 false true false false):=by
 refine Qgp (by kernel_rfl) Tryz.func11 ?_ (by kernel_rfl) _ rfl ?_ os started H enc
  (ChangeSpec.witness_shaped (enc:=enc) (C:=Tryz.checked) (os:=os) (X:=fun w _=>laidMetH Tryz.prog Qdb w) false (World.doorLaid Tryz.prog 400 os) #[.slice none 0 0,.int .i64 0,.int .i64 0,.int .i64 0,.int .i64 0] 8 rfl (World.shaped_of_RefB (by kernel_rfl) (by kernel_rfl)) (by kernel_rfl) (by kernel_rfl) (by kernel_rfl) (Qls os _)) ?_
 ·rw[Tryz.params11]
  intro t ht
  simp at ht
  repeat' (rcases ht with rfl|ht)
  all_goals (try subst ht)
  all_goals exact ⟨by kernel_rfl,of_decide_eq_true (by kernel_rfl)⟩
 ·intro H ds hl
  rw[Tryz.params11]at hl
  match ds,hl with
  | [d0,d1,d2,d3,d4],_=>rfl
 ·intro W base args ds hin hgl
  obtain ⟨hok,⟨p,hA⟩,hsz⟩:=hin
  rw[Tryz.params11]at hA hok hsz
  obtain ⟨v0,vs0,d0,ds0,p0,q0,hargs,rfl,rfl,h0,r0⟩:=trodAll_cons hA
  obtain ⟨v1,vs1,d1,ds1,p1,q1,rfl,rfl,rfl,h1,r1⟩:=trodAll_cons r0
  obtain ⟨v2,vs2,d2,ds2,p2,q2,rfl,rfl,rfl,h2,r2⟩:=trodAll_cons r1
  obtain ⟨v3,vs3,d3,ds3,p3,q3,rfl,rfl,rfl,h3,r3⟩:=trodAll_cons r2
  obtain ⟨v4,vs4,d4,ds4,p4,q4,rfl,rfl,rfl,h4,r4⟩:=trodAll_cons r3
  obtain ⟨rfl,rfl,rfl⟩:=trodAll_nil r4
  obtain rfl:args=#[v0,v1,v2,v3,v4]:=by cases args;simp_all
  obtain ⟨n0,y0,s0⟩:=Qj4 (hok 0 44 v0 rfl rfl) h0
  obtain ⟨l0,rfl,ok0,z0,x0⟩:=s0.acts y0 hsz (j:=0) rfl rfl
  obtain ⟨n1,rfl,lo1,hi1⟩:=Qko Tryz.underlying3 (hok 1 3 v1 rfl rfl) h1
  obtain ⟨n2,rfl,lo2,hi2⟩:=Qko Tryz.underlying3 (hok 2 3 v2 rfl rfl) h2
  obtain ⟨n3,rfl,lo3,hi3⟩:=Qko Tryz.underlying3 (hok 3 3 v3 rfl rfl) h3
  obtain ⟨n4,rfl,lo4,hi4⟩:=Qko Tryz.underlying3 (hok 4 3 v4 rfl rfl) h4
  exact (Qmw glF Xdo l0 n1 n2 n3 n4 ⟨lo1,hi1⟩ ⟨lo2,hi2⟩ ⟨lo3,hi3⟩ ⟨lo4,hi4⟩ ok0 z0).law hgl ⟨x0,.int _ _,.int _ _,.int _ _,.int _ _,trivial⟩
end Go.Proofs.YtogckmommodmhaaGreatDoor
