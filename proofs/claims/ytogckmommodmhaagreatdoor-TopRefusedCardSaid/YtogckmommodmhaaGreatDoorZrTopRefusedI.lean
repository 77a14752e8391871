import Derived.Test.YtogckmommodmhaaGreatDoorZr7
import Derived.Test.YtogckmommodmhaaGreatDoorCards
import Derived.Test.YtogckmommodmhaaGreatDoorTie
import Derived.SevenTiedAt
namespace Go.Proofs.YtogckmommodmhaaGreatDoor
open Go.ChangeShapes Go.WideShapes Go.ChangeAt Go.RowKit
open Go.RowKit
set_option linter.all false
set_option linter.unusedSimpArgs false
set_option maxRecDepth 100000
set_option maxRecDepth 100000 in
theorem Ql0 (os:Os) (started:os.Started) (H:Type) (enc:TypeId × Value→H) :
  ReturnsInHanded {} Tryz.checked os 17 .any (fun w args=>(Rows.topRefusedSpec.pre enc Tryz.prog Tryz.f17 [] false w args∧laidMetH Tryz.prog Qdb w)∧sizedMet enc Tryz.prog Tryz.f17 (OpenSpec.ofChange Rows.topRefusedSpec) false w args) (Rows.topRefusedSpec.post enc Tryz.prog Tryz.f17 false true false false):=by
 refine Qgp (by kernel_rfl) Tryz.func17 ?_ (by kernel_rfl) _ rfl ?_ os started H enc
  (ChangeSpec.witness_shaped (enc:=enc) (C:=Tryz.checked) (os:=os) (X:=fun w _=>laidMetH Tryz.prog Qdb w) false (World.doorLaid Tryz.prog 400 os) #[.bool false,.slice none 0 0,.agg #[.int .i64 0,.int .i64 0,.int .i64 0,.string ⟨#[]⟩]] 8 rfl (World.shaped_of_RefB (by kernel_rfl) (by kernel_rfl)) (by kernel_rfl) (by kernel_rfl) (by kernel_rfl) (Qls os _)) ?_
 ·rw[Tryz.params17]
  intro t ht
  simp at ht
  repeat' (rcases ht with rfl|ht)
  all_goals (try subst ht)
  all_goals exact ⟨by kernel_rfl,of_decide_eq_true (by kernel_rfl)⟩
 ·intro H ds hl
  rw[Tryz.params17]at hl
  match ds,hl with
  | [d0,d1,d2],_=>rfl
 ·intro W base args ds hin hgl
  obtain ⟨hok,⟨p,hA⟩,hsz⟩:=hin
  rw[Tryz.params17]at hA hok hsz
  obtain ⟨v0,vs0,d0,ds0,p0,q0,hargs,rfl,rfl,h0,r0⟩:=trodAll_cons hA
  obtain ⟨v1,vs1,d1,ds1,p1,q1,rfl,rfl,rfl,h1,r1⟩:=trodAll_cons r0
  obtain ⟨v2,vs2,d2,ds2,p2,q2,rfl,rfl,rfl,h2,r2⟩:=trodAll_cons r1
  obtain ⟨rfl,rfl,rfl⟩:=trodAll_nil r2
  obtain rfl:args=#[v0,v1,v2]:=by cases args;simp_all
  obtain ⟨b0,rfl⟩:=Quv Tryz.underlying4 (hok 0 4 v0 rfl rfl) h0
  obtain ⟨n1,y1,s1⟩:=Qj4 (hok 1 44 v1 rfl rfl) h1
  obtain ⟨l1,rfl,ok1,z1,x1⟩:=s1.acts y1 hsz (j:=1) rfl rfl
  obtain ⟨a2,ad2,x2⟩:=Qua (hok 2 23 v2 rfl rfl) h2
  have z2:a2.frame.length≤140737488351232:=by
   have:=List.all_eq_true.1 hsz _ (DataW.weights_mem_each (j:=2) rfl rfl _ ad2.weight)
   simp only[reachBytes]at this
   exact of_decide_eq_true this
  exact (Qqp glF Xdo b0 l1 a2 ok1 z1 z2).law hgl ⟨.bool _,x1,x2,trivial⟩
end Go.Proofs.YtogckmommodmhaaGreatDoor
