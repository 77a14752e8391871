import Derived.Test.YtogckmommodmhaaGreatDoorZy21
namespace Go.Proofs.YtogckmommodmhaaGreatDoor
open Go.ChangeShapes Go.WideShapes Go.ChangeAt Go.RowKit
open Go.RowKit
set_option linter.all false
set_option maxRecDepth 100000
set_option maxRecDepth 100000 in
def Tj (os:Os)(started:os.Started)(H:Type)(enc:TypeId×Value->H) :
  ReturnsInHanded {} Tryz.checked os 4 .any (fun w args=>(Rows.natRunsSpec.pre enc Tryz.prog Tryz.f4 [] false w args/\laidMetH Tryz.prog vj w)/\sizedMet enc Tryz.prog Tryz.f4 (OpenSpec.ofChange Rows.natRunsSpec) false w args) (Rows.natRunsSpec.post enc Tryz.prog Tryz.f4 false true false false):=by
 refine WC (by kernel_rfl) Tryz.func4 ?_ (by kernel_rfl) _ rfl ?_ os started H enc
  (ChangeSpec.witness_shaped (enc:=enc) (C:=Tryz.checked) (os:=os) (X:=fun w _=>laidMetH Tryz.prog vj w) false (World.doorLaid Tryz.prog 400 os) #[.bool false,.slice none 0 0] 8 rfl (World.shaped_of_RefB (by kernel_rfl) (by kernel_rfl)) (by kernel_rfl) (by kernel_rfl) (by kernel_rfl) (V8 os _)) ?_
 ·rw[Tryz.params4];intro t ht;simp at ht
  repeat' (rcases ht with rfl|ht)
  all_goals (try subst ht)
  all_goals exact ⟨by kernel_rfl,ap (by kernel_rfl)⟩
 ·intro H ds hl;rw[Tryz.params4]at hl
  match ds,hl with
  | [d0,d1],_=>rfl
 ·intro W base args ds aK me;obtain ⟨aS,⟨p,hA⟩,cC⟩:=aK;rw[Tryz.params4]at hA aS cC;obtain ⟨v0,vs0,d0,ds0,p0,q0,aM,rfl,rfl,h0,r0⟩:=trodAll_cons hA;obtain ⟨v1,vs1,d1,ds1,p1,q1,rfl,rfl,rfl,h1,r1⟩:=trodAll_cons r0;obtain ⟨rfl,rfl,rfl⟩:=trodAll_nil r1;obtain rfl:args=#[v0,v1]:=by cases args;simp_all
  obtain ⟨b0,rfl⟩:=TO Tryz.underlying4 (aS 0 4 v0 rfl rfl) h0;obtain ⟨n1,y1,s1⟩:=Qt8 (aS 1 44 v1 rfl rfl) h1;obtain ⟨l1,rfl,Tl,z1,x1⟩:=s1.bm y1 cC (j:=1) rfl rfl;exact (Qqu xe WB b0 l1 Tl z1).law me ⟨.bool _,x1,trivial⟩
end Go.Proofs.YtogckmommodmhaaGreatDoor
