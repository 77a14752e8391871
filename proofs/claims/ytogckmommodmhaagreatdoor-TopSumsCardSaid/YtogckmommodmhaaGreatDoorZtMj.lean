import Derived.Test.YtogckmommodmhaaGreatDoorZt16
import Derived.Test.YtogckmommodmhaaGreatDoorZtMa
import Derived.Test.YtogckmommodmhaaGreatDoorZtMb
import Derived.Test.YtogckmommodmhaaGreatDoorZtMc
import Derived.Test.YtogckmommodmhaaGreatDoorZtMd
set_option maxHeartbeats 16000000
namespace Go.Proofs.YtogckmommodmhaaGreatDoor
open Go.RowKit
set_option linter.all false
set_option linter.unusedSimpArgs false
set_option maxRecDepth 100000
theorem Xiy (gl:Nat→AV) (S:NS) (T:WT) (hT:T.wf) (a:Ac) (r:Rp) (h:rT r):GD Tryz.prog gl 36 [.ptr 67 0,.agg a.enc,.agg r.enc] (Qm S T) 70 (List.range 70) (.bool true) (Qm S T):=by
 have iu:FT Tryz.prog 36 Tryz.f36 (aO Tryz.prog Tryz.f36) [.t 6]:=.of Tryz.func36
 refine iu.gq (of_decide_eq_true rfl) (Zs hT) (fun b hb=>List.mem_range.1 hb) fun c aY hg=>?_
 subst hg
 conv in aO _ _=>cbv
 have aH:=fun n b hb=>Ya (S:=S) hT n b hb
 obtain ⟨hl,hi⟩:=h
 obtain ⟨a1,a2,a3,a4⟩:=a
 obtain ⟨r1,r2,r3,r4⟩:=r
 unfold Ac.enc Rp.enc
 dsimp only at hl hi ⊢
 refine Qh @aH ?_
 (refine Qa (fun h1=>?_) (fun h1=>?_)<;>try exact h1.elim)
 ·refine Qh @aH ?_
  exact ⟨(),To.drop (ex:=[(71,_),(70,_)]) (Qj hT) au au (by simp[Qu,Qe,ai,look,aD,ay])⟩
 rcases hi with h2|⟨_,h2,h3⟩|⟨_,h2,h3,h4,h5⟩
 ·exact absurd h2 h1
 ·have hP:=Wu c.gl r2 hl
  unfold Kt at hP
  rw[if_pos h3]at hP
  have hG:=tU c.gl (az r2)
  rw[(BD h3).e]at hG
  generalize az r2=K at *
  obtain ⟨K1,K2,K3,K4,K5,K6,K7,K8,K9,Ou,Ov,Ow⟩:=K
  unfold Pk.enc at hP hG
  dsimp only at hP hG
  subst h2
  refine Qh @aH ?_
  (refine Qa (fun h6=>?_) (fun h6=>?_)<;>try exact h6.elim)
  refine Qh @aH ?_
  refine Qy hP @aH ?_
  refine Qy hG @aH ?_
  exact ⟨(),To.drop (ex:=[(72,_),(72,_),(71,_),(70,_)]) (Qj hT) au au (by simp[Qu,Qe,ai,look,aD,ay])⟩
 ·have XB:=pF c.gl (r2.take 20) (by rw[List.length_take];omega)
  have ED:=pF c.gl (r2.drop 20) (by rw[List.length_drop];omega)
  rw[h4]at XB
  rw[h5]at ED
  refine Qh @aH ?_
  (refine Qa (fun h6=>?_) (fun h6=>?_)<;>try exact h6.elim)
  ·exact absurd h6 h2
  have f28:decide ((28:Int) < (r2.length:Int))=true:=decide_eq_true af
  refine Qh (An @aH @f28) ?_
  refine Qy XB (An @aH @f28) ?_
  refine Qy ED (An @aH @f28) ?_
  exact ⟨(),To.drop (ex:=[(71,_),(70,_)]) (Qj hT) au au (by simp[Qu,Qe,ai,look,aD,ay])⟩
theorem Xi3 (gl:Nat→AV) (h0:gl 0=.xp (Qp Xi) 0) (b:Bool) (l:List Ac) (hl:mh l) (hlen:l.length≤140737488351232):PS Tryz.prog gl 8 [.bool b,.isl l.length (cT l)] (.bool true):=by
 obtain ⟨T,D,hW,hP,eQ⟩:=OR gl h0 b l hl hlen 36 fun i hi T hT=>Xiy gl _ T hT _ _ (Iu b l hl i)
 have hT:=hW.wf
 have iu:FT Tryz.prog 8 Tryz.f8 (aO Tryz.prog Tryz.f8) [.t 4]:=.of Tryz.func8
 refine iu.ps (of_decide_eq_true rfl) (by simp[Qe]) fun c hN hg=>?_
 subst hg
 conv in aO _ _=>cbv
 have fH:=Wl 0 l
 refine Qf ?_
 refine uE eQ (Qj hT) ?_ au ?_
 ·exact Qs
 exact Qs
end Go.Proofs.YtogckmommodmhaaGreatDoor
