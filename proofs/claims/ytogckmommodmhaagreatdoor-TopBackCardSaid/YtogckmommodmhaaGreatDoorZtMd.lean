import Derived.Test.YtogckmommodmhaaGreatDoorZt14
import Derived.Test.YtogckmommodmhaaGreatDoorZt13
import Derived.Test.YtogckmommodmhaaGreatDoorZt16
import Derived.Test.YtogckmommodmhaaGreatDoorZtMa
import Derived.Test.YtogckmommodmhaaGreatDoorZtMb
set_option maxHeartbeats 16000000
namespace Go.Proofs.YtogckmommodmhaaGreatDoor
open Go.RowKit
set_option linter.all false
set_option linter.unusedSimpArgs false
set_option maxRecDepth 100000
section
variable {P:Program} {c:Cx} {h h1 ex:List (Nat × Bk)} {m n:Nat} {v:Bool} {d:Option Nat} {kk:PK} {f:FuncId} {xs:List TV} {args:List AV} {r:AV} {t:List (Nat × AV)} {r0:List bF} {K:St→Prop}
theorem WY {anc:List Nat} {fs:List bq} (hq:GD P c.gl f args h m (List.range m) r h1) (H:HL h m) (H1:HL h1 m) (hr:Qe m r) (hn:m≤n) (hex:∀ q ∈ ex,m≤q.1∧q.1 < n) (hk:kk=(bif v then .cu else .call f))
  (hc:Qv none (aG c.gl (⟨t,ex++h,n⟩:St).fs xs)∧mK v f ((aG c.gl (⟨t,ex++h,n⟩:St).fs xs).map Qk)=some (f,args)∧ai m args) (hx:XD P c anc r0 (⟨Xp xs,ib id m n,d.toList,ib id m n⟩::fs) K (St.bQ ⟨t,ex++h1,n + m⟩ d r)):Zr P c anc (.pd d kk xs none) r0 fs K ⟨t,ex++h,n⟩:=by
 have:=Df (d:=d) (anc:=anc) (fs:=fs) (r0:=r0) (K:=K) hq (Bm (v:=v) H hn (fun b hb=>List.mem_range.1 hb) hex hc) hk H1 hr (by rw[HF H1 hr];exact hx)
 rw[Kj]at this;exact this
end
theorem OR (gl:Nat→AV) (h0:gl 0=.xp (Qp Xi) 0) (b:Bool) (l:List Ac) (hl:mh l) (hlen:l.length≤140737488351232) (lk:FuncId)
  (kH:∀ i,i < Yb l→∀ T:WT,T.wf→GD Tryz.prog gl lk [.ptr 67 0,.agg (l.getD i fU).enc,.agg (Wa b l i).enc] (Qm (Xq b l (i + 1)) T) 70 (List.range 70) (.bool true) (Qm (Xq b l (i + 1)) T)) :
  ∃ T D,WI T (Xq b l (Yb l)).now D∧D.Perm (Xq b l (Yb l)).a6∧GS Tryz.prog gl 30 [.bool b,.isl l.length (cT l),.cl lk []] [] 0 (.aX [.ptr 67 0,.bool true]) (Qm (Xq b l (Yb l)) T) 70:=by
 obtain ⟨Ts,sA,wz,rP⟩:=Ib gl h0 b l hl
 obtain ⟨D,hD⟩:=wz (Yb l)
 refine ⟨Ts (Yb l),D,hD.1,hD.2,?_⟩
 have eN:∀ i,(Ts i).wf:=fun i=>by
  obtain ⟨D,hD⟩:=wz i
  exact hD.1.wf
 have wA:=Ia gl h0
 have bN:=ER gl b
 rw[← sA]at bN
 refine By.On (of_decide_eq_true rfl) fun c aY hg=>?_
 subst hg
 conv in aO _ _=>cbv
 refine Qf ?_
 refine Zg wA ?_
 (refine Qa (fun h1=>?_) (fun h1=>?_)<;>try exact h1.elim)
 refine Qf ?_
 refine uE bN (Qj (eN 0)) ?_ au ?_
 ·exact Qs
 dsimp only[List.nil_append]
 rw[H9]
 refine Qf ?_
 have aV:=Bw l
 have fH:=fun n=>Wl n l
 have wB:=fun ρ:Nat→Nat=>Jp (cT l)
 have eQ:Yb l≤l.length∧Yb l≤100:=⟨Nat.min_le_left _ _,Nat.min_le_right _ _⟩
 refine Yi (fun i:Nat=>i≤Yb l) (fun i=>⟨[(1,.isl l.length (cT l)),(2,.cl lk []),(8,.ptr 67 0),(9,.int .i64 i)],Qm (Xq b l i) (Ts i),70⟩) (fun i=>Yb l - i) By.mixed (List.range 0) aY
  ⟨0,Nat.zero_le _,To.c6 (by exact Qs) fun b=>rfl⟩ fun i hi=>?_
 refine Qf ?_
 (refine Qa (fun h2=>?_) (fun h2=>?_)<;>try exact h2.elim)
 ·have mS:i < l.length:=by omega
  have vN:i < Yb l:=by unfold Yb;omega
  have fy:=Ic l mS
  have hd:=rP i
  have jf:=kH i vN (Ts (i + 1)) (eN (i + 1))
  have hT:=eN i
  have bj:=eN (i + 1)
  generalize l.getD i fU=a at *
  obtain ⟨a1,a2,a3,a4⟩:=a
  have mY:∃ r1 r2 r3 r4,Wa b l i=⟨r1,r2,r3,r4⟩:=⟨_,_,_,_,rfl⟩
  obtain ⟨r1,r2,r3,r4,mY⟩:=mY
  rw[mY]at hd jf
  dsimp only[Ac.enc,Rp.enc]at fy hd jf
  refine Qh (An @aV @fy) ?_
  have wC:=fH 70
  have rU:=fun ρ:Nat→Nat=>show ay ρ (cT l)=cT l by rw[Yf];exact (List.map_congr_left fun v hv=>Ks (Xj.1 (Wl 0 l) v hv)).trans (List.map_id _)
  refine Uu (v:=false) (pp:=List.range 0) (ex:=[]) (s3:=⟨[(1,.isl l.length (cT l)),(2,.cl lk []),(8,.ptr 67 0),(9,.int .i64 i),(30,.agg [.int .i64 r1,.str r2,.bool r3,.str r4])],Qm (Xq b l (i + 1)) (Ts (i + 1)),70⟩) aY hd (Qj hT) (Qj bj) (by simp[Qe,ai]) aR au au rfl ?_ ?_ ?_
  ·exact Qr @Xw
  ·refine To.wu bj aR au au ?_
   simp[wq,Qu,Qe,ai,look,aD,ay,rL,wC,rU]
  have aH:=fun n j hj=>Ya (S:=Xq b l (i + 1)) bj n j hj
  refine Qh (An @aH (An @aV @fy)) ?_
  refine WY (v:=true) (ex:=[(70,_),(70,_)]) jf (Qj bj) (Qj bj) (by simp[Qe]) aR au rfl ?_ ?_
  ·refine Qf ?_
   exact rfl
  refine Qh @aH ?_
  (refine Qa (fun h3=>?_) (fun h3=>?_)<;>try exact h3.elim)
  refine Qf ?_
  exact ⟨i + 1,by omega,To.drop (ex:=[(70,_),(70,_)]) (Qj bj) au au (by simp[Qu,Qe,ai,look,aD,ay,wC,rU]),by omega⟩
 ·have e:i=Yb l:=by unfold Yb at hi ⊢;omega
  subst e
  refine Qf ?_
  exact To.drop (ex:=[]) (Qj (eN _)) au au (by simp[Qu,Qe,ai,look,aD,ay])
end Go.Proofs.YtogckmommodmhaaGreatDoor
