import Derived.Test.YtogckmommodmhaaGreatDoorZt5
import Derived.Test.YtogckmommodmhaaGreatDoorZt4
import Derived.Test.YtogckmommodmhaaGreatDoorZt14
import Derived.Test.YtogckmommodmhaaGreatDoorZt16
import Derived.Test.YtogckmommodmhaaGreatDoorZtMa
import Derived.KernelRfl
import Derived.Test.YtogckmommodmhaaGreatDoorRows
set_option maxHeartbeats 16000000
namespace Go.Proofs.YtogckmommodmhaaGreatDoor
open Go.RowKit
set_option linter.all false
set_option linter.unusedSimpArgs false
set_option maxRecDepth 100000
theorem Ygc {p:Prop} (h:p:=by (((first|apply z7|apply z8|apply Aa|apply Ab|apply Ad|apply Ae);refine XG ?_;(try (repeat' with_reducible refine And.intro ?_ ?_));(try any_goals (first|refine zm ?_|exact CL|fail))))):p:=h
theorem Yfz {F:Prop} {p:Prop} (f:F) (h:F→p:=by (intro aB;exact Ygc )):p:=h f
theorem Xnk:FT Tryz.prog 23 Tryz.f23 (aO Tryz.prog Tryz.f23) [.cell 2 (.ag 30)]:=.of Tryz.func23
section
variable {P:Program}
theorem PS.wk {gl:Nat→AV} {f:FuncId} {args:List AV} {r r':AV} (h:PS P gl f args r) (hr:Wk r r'):PS P gl f args r' :=
 ⟨h.1,fun w vs X hX fD hv=>(h.2 w vs X hX fD hv).mono fun e w' ⟨v,q1,q2,q3⟩=>⟨v,q1,hr _ _ _ _ q2,q3⟩⟩
theorem PS.empty {gl:Nat→AV} {f:FuncId} {cs:List AV} {r:AV} (h1:∀ cap,PS P gl f [.lit (.slice none 0 cap)] r) (h2:∀ a cap,PS P gl f [.lit (.slice (some a) 0 cap)] r):PS P gl f [.isl 0 cs] r:=by
 refine ⟨(h1 0).1,fun w vs X hX fD hv=>?_⟩
 cases vs with
 | nil=>exact hv.elim
 | cons v vs =>
 cases vs with
 | cons _ _=>exact hv.2.elim
 | nil =>
 obtain ⟨hv,_⟩:=hv
 obtain ⟨a,cap,us,rfl,_⟩:=rZ hv
 cases a with
 | some a=>exact (h2 a cap).2 w [.slice (some a) 0 cap] X hX fD ⟨.lit _,trivial⟩
 | none=>exact (h1 cap).2 w [.slice none 0 cap] X hX fD ⟨.lit _,trivial⟩
end
theorem Xn7 (gl:Nat→AV) (l:List Mp) (hn:l.length≤1000000):PS Tryz.prog gl 64 [.isl l.length (cp l)] (.isl l.length (cp l)):=by
 have hl:=Jo l
 cases l with
 | nil =>
  refine PS.empty (fun cap=>PS.wk (r:=.nils) ?_ Wk.nils) fun a cap=>?_
  ·refine AR.ps (of_decide_eq_true rfl) (by simp[Qe]) fun c hN hg=>?_
   conv in aO _ _=>cbv
   refine Qf ?_
   refine Al ?_ (A1 (b:=true) (show sC (.lit (.slice none 0 cap))=some true from rfl)) ?_
   ·exact Qs
   refine Qf ?_
   (refine Qa (fun h1=>?_) (fun h1=>?_)<;>try exact h1.elim)
   exact Qs
  ·refine AR.ps (of_decide_eq_true rfl) (by simp[Qe,ai,cp]) fun c hN hg=>?_
   conv in aO _ _=>cbv
   refine Qf ?_
   refine Al ?_ (A1 (b:=false) (show sC (.lit (.slice (some a) 0 cap))=some false from rfl)) ?_
   ·exact Qs
   refine Qf ?_
   (refine Qa (fun h1=>?_) (fun h1=>?_)<;>try exact h1.elim)
   refine Qf ?_
   refine Qy Gi @List.length_nil.{0} ?_
   refine Jw ?_
   rfl
 | cons x l =>
 have Mh:sC (.isl (x::l).length (cp (x::l)))=some false:=rfl
 generalize x::l=l at *
 refine AR.ps (of_decide_eq_true rfl) (by simp[Qe,LU]) fun c hN hg=>?_
 conv in aO _ _=>cbv
 refine Qf ?_
 refine Al ?_ (A1 (b:=false) Mh) ?_
 ·exact Qs
 refine Qf ?_
 (refine Qa (fun h1=>?_) (fun h1=>?_)<;>try exact h1.elim)
 refine Qf ?_
 refine Zg Gi ?_
 exact Yfz @hl
theorem OS (gl:Nat→AV) (S:NS) (T:WT) (hS:NJ S) (hT:T.wf):GD Tryz.prog gl 23 [.ptr 67 0] (Qm S T) 70 (List.range 70) (.agg S.tb.enc) (Qm S T):=by
 refine Xnk.gq (of_decide_eq_true rfl) (Zs hT) (fun b hb=>List.mem_range.1 hb) fun c aY hg=>?_
 subst hg
 conv in aO _ _=>cbv
 have aH:=fun n b hb=>Ya (S:=S) hT n b hb
 have bI:=Kx S T
 have aV:=NS.aS hS.wf
 have eW:=NS.eY hS.wf
 have aJ:=Tb.aC hS.wf
 have WZ:=Tb.cO hS.wf
 have wU:S.tb.enc.take 30=S.tb.enc:=List.take_of_length_le (by rw[aJ];decide)
 have bu:S.tb.enc.set 29 (.isl S.tb.maps.length (cp S.tb.maps))=S.tb.enc:=by
  rw[← WZ]
  refine List.ext_getElem au fun j h1 h2=>?_
  rw[List.getElem_set]
  split
  ·rename_i e;subst e;rw[BU (by rw[aJ];decide)]
  ·rfl
 have r3a:=vK (Wc.2 hS.gt)
 have oQ:=Xn7 c.gl S.tb.maps af
 refine Qh @aH ?_
 (refine Qa (fun h1=>?_) (fun h1=>?_)<;>try exact h1.elim)
 refine Qh (An @aH (An @bI (An @aV (An @eW (An @aJ @WZ))))) ?_
 refine Qy oQ (An @aH (An @aJ (An @bu @wU))) ?_
 have Oo:=Jp S.tb.enc
 exact ⟨(),To.drop (ex:=[(70,_),(71,_),(71,_),(71,_),(70,_)]) (Qj hT) au aR (by simp[Qu,Qe,look,aD,Tb.bw,Oo])⟩
end Go.Proofs.YtogckmommodmhaaGreatDoor
