import Derived.Test.YtogckmommodmhaaGreatDoorZw14
import Derived.Test.YtogckmommodmhaaGreatDoorZw1
import Derived.Test.YtogckmommodmhaaGreatDoorZw5
import Derived.Lib.Hide
namespace Go.Proofs.YtogckmommodmhaaGreatDoor
open Go.RowKit
set_option linter.all false
set_option linter.unusedSimpArgs false
set_option maxRecDepth 100000
def n2 (s:List UInt8) (k:Nat):Int:=cp ((s.drop k).take 2)
def n4 (s:List UInt8) (k:Nat):Int:=cp ((s.drop k).take 4)
def Ycp (t:Int) (e:Ev):Bool:=Zk t e.s e.a e.b
def part (t:Int):List Ev→List Ev→List Ev
 | p,[]=>p
 | p,e::l=>if Ycp t e=true∧p.length < 20 then part t (p++[⟨t,e.s,e.a,e.b,e.f⟩]) l else part t p l
end Go.Proofs.YtogckmommodmhaaGreatDoor
