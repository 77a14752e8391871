import Derived.Test.YtogckmommodmhaaGreatDoorZx1
import Derived.ProofKit
import Derived.OpenShut
import Derived.ShutString
namespace Go.Proofs.YtogckmommodmhaaGreatDoor
open Go.ChangeMaps (open_string shut_string)
open Go.ChangeShapes Go.WideShapes Go.ChangeAt Go.RowKit
open Go.RowKit
set_option linter.all false
set_option maxRecDepth 100000
def Tryz.own:ownKnob Tryz.prog.godebug=none:=by kernel_rfl
def Tryz.laidOut:laidOutB Tryz.prog=true:=by kernel_rfl
def T6 {H:Type}{enc:TypeId×Value->H}{P:Program}(hL:laidOutB P=true){W W':World}(DC:Below W.heap.size W W') :
  ∀ {ts:List TypeId} {vs:List Value} {ds:List (DataW H)} {p:List MemPlace},(∀ t ∈ ts,P.readableRec t=true∧t < P.types.size) →
   DataW.TrodAll enc P W 0 (fun _=>true) true ts vs ds p->DataW.TrodAll enc P W' 0 (fun b=>decide (b<W.heap.size)) true ts vs ds p
 | [],[],[],p,_,h=>h
 | t::ts,v::vs,d::ds,p,hr,h=>by
  obtain ⟨p1,q1,h1,h2,rfl⟩:=h;refine ⟨p1,q1,?_,T6 hL DC (fun t ht=>hr t (List.mem_cons_of_mem _ ht)) h2,rfl⟩;have k:=hr t (List.mem_cons_self ..);refine Below.trod hL k.1 k.2 h1 DC ?_;obtain ⟨m,hm⟩:=h1;exact DataW.trod_lt m _ _ _ hm
 | [],_::_,_,_,_,h=>by simp[DataW.TrodAll]at h
 | [],[],_::_,_,_,h=>by simp[DataW.TrodAll]at h
 | _::_,[],_,_,_,h=>by simp[DataW.TrodAll]at h
 | _::_,_::_,[],_,_,h=>by simp[DataW.TrodAll]at h
def T7 {H:Type}{enc:TypeId×Value->H}{P:Program}{W:World}{sp:Nat->Bool}{b:Nat}{held:Bool} :
  ∀ {ts:List TypeId} {vs:List Value} {ds:List (DataW H)} {p:List MemPlace},DataW.TrodAll enc P W b sp held ts vs ds p->ds.length=ts.length
 | [],[],[],_,_=>rfl
 | t::ts,v::vs,d::ds,p,h=>by
  obtain ⟨p1,q1,h1,h2,rfl⟩:=h;simp[T7 h2]
 | [],_::_,_,_,h=>by simp[DataW.TrodAll]at h
 | [],[],_::_,_,h=>by simp[DataW.TrodAll]at h
 | _::_,[],_,_,h=>by simp[DataW.TrodAll]at h
 | _::_,_::_,[],_,h=>by simp[DataW.TrodAll]at h
structure yJ (H:Type)(enc:TypeId×Value->H)(P:Program)(fn:Func)(W:World)(base:Nat)(args:Array Value)(ds:List (DataW H)):Prop where
 ok:∀ (j:Nat) t v,fn.params[j]?=some t->args[j]?=some v->Value.okWide P W .any base t v
 trod:∃ p,DataW.TrodAll enc P W 0 (fun _=>true) true fn.params.toList args.toList ds p
 sized:(DataW.weightsEach P fn.params.toList ds).all (·<=reachBytes)=true
section
variable {H:Type}{enc:TypeId×Value->H}{P:Program}{W:World}{b0 b:Nat}{sp:Nat->Bool}{held:Bool}
def T8 {t:TypeId}{v:Value}{d:DataW H}(ht:P.underlying t=some .bool)(fZ:Value.okWide P W .any b0 t v){p}(hd:DataW.Trod enc P W b sp held t v d p) :
  ∃ x:Bool,v=.bool x:=by
 obtain ⟨n,h1,h2,_⟩:=open_bool ht fZ hd;exact ⟨n,h1⟩
end
end Go.Proofs.YtogckmommodmhaaGreatDoor
namespace Go.Proofs.YtogckmommodmhaaGreatDoor
open Go.RowKit
set_option linter.all false
set_option maxRecDepth 100000
end Go.Proofs.YtogckmommodmhaaGreatDoor
