import Derived.Test.YtogckmommodmhaaGreatDoorZx21
namespace Go.Proofs.YtogckmommodmhaaGreatDoor
open Go.ChangeShapes Go.WideShapes Go.ChangeAt Go.RowKit
open Go.RowKit
set_option linter.all false
set_option maxRecDepth 100000
set_option maxRecDepth 100000 in
def TA (os:Os)(started:os.Started)(H:Type)(enc:TypeId×Value->H) :
  ReturnsInHanded {} Tryz.checked os 5 .any (fun w args=>(Rows.natPlaysSpec.pre enc Tryz.prog Tryz.f5 [] false w args/\laidMetH Tryz.prog vz w)/\sizedMet enc Tryz.prog Tryz.f5 (OpenSpec.ofChange Rows.natPlaysSpec) false w args) (Rows.natPlaysSpec.post enc Tryz.prog Tryz.f5 false true false false):=by
 refine WR (by kernel_rfl) Tryz.func5 ?_ (by kernel_rfl) _ rfl ?_ os started H enc
  (ChangeSpec.witness_shaped (enc:=enc) (C:=Tryz.checked) (os:=os) (X:=fun w _=>laidMetH Tryz.prog vz w) false (World.doorLaid Tryz.prog 400 os) #[.bool false,.slice none 0 0] 8 rfl (World.shaped_of_RefB (by kernel_rfl) (by kernel_rfl)) (by kernel_rfl) (by kernel_rfl) (by kernel_rfl) (WM os _)) ?_
 ·rw[Tryz.params5];intro t ht;simp at ht
  repeat' (rcases ht with rfl|ht)
  all_goals (try subst ht)
  all_goals exact ⟨by kernel_rfl,ap (by kernel_rfl)⟩
 ·intro H ds hl;rw[Tryz.params5]at hl
  match ds,hl with
  | [d0,d1],_=>rfl
 ·intro W base args ds aL jS;obtain ⟨aS,⟨p,hA⟩,cE⟩:=aL;rw[Tryz.params5]at hA aS cE;obtain ⟨v0,vs0,d0,ds0,p0,q0,aM,rfl,rfl,h0,r0⟩:=trodAll_cons hA;obtain ⟨v1,vs1,d1,ds1,p1,q1,rfl,rfl,rfl,h1,r1⟩:=trodAll_cons r0;obtain ⟨rfl,rfl,rfl⟩:=trodAll_nil r1;obtain rfl:args=#[v0,v1]:=by cases args;simp_all
  obtain ⟨b0,rfl⟩:=T8 Tryz.underlying4 (aS 0 4 v0 rfl rfl) h0;obtain ⟨n1,y1,s1⟩:=Qti (aS 1 44 v1 rfl rfl) h1;obtain ⟨l1,rfl,TD,z1,x1⟩:=s1.bm y1 cE (j:=1) rfl rfl;exact (Qnx xk WQ b0 l1 TD af).law jS ⟨.bool _,x1,trivial⟩
end Go.Proofs.YtogckmommodmhaaGreatDoor
