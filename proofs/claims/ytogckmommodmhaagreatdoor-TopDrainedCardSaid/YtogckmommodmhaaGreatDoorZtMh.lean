import Derived.Test.YtogckmommodmhaaGreatDoorZt16
import Derived.Test.YtogckmommodmhaaGreatDoorZtMa
import Derived.Test.YtogckmommodmhaaGreatDoorZtMe
import Derived.Test.YtogckmommodmhaaGreatDoorZtMf
set_option maxHeartbeats 16000000
namespace Go.Proofs.YtogckmommodmhaaGreatDoor
open Go.RowKit
set_option linter.all false
set_option linter.unusedSimpArgs false
set_option maxRecDepth 100000
theorem XA (gl:Nat→AV) (h0:gl 0=.xp (Qp Xi) 0) (b:Bool) (l:List Ac) (hl:mh l) (hlen:l.length≤140737488351232) (lk:FuncId) (caps:List AV) (X:Nat→List (Nat × Bk)) (hB:∀ i,Bx (X i) 1) (fx:ai 71 caps) (mD:ai 1 (ay (sw 1) caps))
  (kH:∀ i,i < Yb l→∀ T:WT,T.wf→GD Tryz.prog gl lk (.ptr 67 0::.agg (l.getD i fU).enc::.agg (Wa b l i).enc::caps) (up (X i)++Qm (Xq b l (i + 1)) T) 71 (List.range 71) (.bool true) (up (X (i + 1))++Qm (Xq b l (i + 1)) T)) :
  ∃ T:WT,T.wf∧GS Tryz.prog gl 30 [.bool b,.isl l.length (cT l),.cl lk (ay (sw 1) caps)] (X 0) 1 (.aX [.ptr 68 0,.bool true]) (X (Yb l)++Xc (fun b=>1 + b) (Qm (Xq b l (Yb l)) T)) 71:=by
 obtain ⟨Ts,sA,wz,rP⟩:=Ib gl h0 b l hl
 have eN:∀ i,(Ts i).wf:=fun i=>by
  obtain ⟨D,hD⟩:=wz i
  exact hD.1.wf
 refine ⟨Ts (Yb l),eN _,?_⟩
 have wA:=Ia gl h0
 have bN:=ER gl b
 rw[← sA]at bN
 refine By.W0 (of_decide_eq_true rfl) (hB 0).lives fun c aY hg=>?_
 subst hg
 conv in aO _ _=>cbv
 have aV:=Bw l
 have fH:=Wl 71 l
 have wB:=fun ρ:Nat→Nat=>show ay ρ (cT l)=cT l by rw[Yf];exact (List.map_congr_left fun v hv=>Ks (Xj.1 (Wl 0 l) v hv)).trans (List.map_id _)
 have eQ:Yb l≤l.length∧Yb l≤100:=⟨Nat.min_le_left _ _,Nat.min_le_right _ _⟩
 refine Qf ?_
 refine Zg wA ?_
 (refine Qa (fun h1=>?_) (fun h1=>?_)<;>try exact h1.elim)
 refine Qf ?_
 refine uE bN (Qj (eN 0)) ?_ (fun q hq=>((hB 0).mem q hq).1) ?_
 ·exact Qs
 have uI:Xc (fun b=>1 + b) (Qm (Xq b l 0) (Ts 0))=Xc (fun b=>1 + b) (Qm (NS.new b) (Ts 0)):=rfl
 refine Qf ?_
 refine Yi (fun i:Nat=>i≤Yb l) (fun i=>⟨[(1,.isl l.length (cT l)),(2,.cl lk (ay (sw 1) caps)),(8,.ptr 68 0),(9,.int .i64 i)],X i++Xc (fun b=>1 + b) (Qm (Xq b l i) (Ts i)),71⟩) (fun i=>Yb l - i) By.mixed (List.range 1) aY
  ⟨0,Nat.zero_le _,To.c6 (by exact Qs) fun b=>rfl⟩ fun i hi=>?_
 refine Qf ?_
 (refine Qa (fun h2=>?_) (fun h2=>?_)<;>try exact h2.elim)
 ·have mS:i < l.length:=by omega
  have vN:i < Yb l:=by unfold Yb;omega
  have fy:=Ic l mS
  have hd:=rP i
  have jf:=kH i vN (Ts (i + 1)) (eN (i + 1))
  have hT:=eN i
  have bj:=eN (i + 1)
  generalize l.getD i fU=a at *
  obtain ⟨a1,a2,a3,a4⟩:=a
  have mY:∃ r1 r2 r3 r4,Wa b l i=⟨r1,r2,r3,r4⟩:=⟨_,_,_,_,rfl⟩
  obtain ⟨r1,r2,r3,r4,mY⟩:=mY
  rw[mY]at hd jf
  dsimp only[Ac.enc,Rp.enc]at fy hd jf
  refine Qh (An @aV @fy) ?_
  have qg:=ct (m:=71) (fun b hb=>wD (k:=1) hb) caps fx
  have OV:=Jp (ay (sw 1) caps)
  have zg:∀ q ∈ X i,jB (fun b=>1 + b) 70 q.1∧q.1 < 71:=fun q hq=>⟨fun b hb e=>by have:=((hB i).mem q hq).1;have e:1 + b=q.1:=e;omega,by have:=((hB i).mem q hq).1;omega⟩
  refine W4 (v:=false) (σ:=fun b=>1 + b) (ex:=X i) (s3:=⟨[(1,.isl l.length (cT l)),(2,.cl lk (ay (sw 1) caps)),(8,.ptr 68 0),(9,.int .i64 i),(30,.agg [.int .i64 r1,.str r2,.bool r3,.str r4])],X i++Xc (fun b=>1 + b) (Qm (Xq b l (i + 1)) (Ts (i + 1))),71⟩) aY hd ⟨fun b b' _ _ e=>by omega,fun b hb=>by omega,Qj hT,by simp,zg,?_,?_,?_⟩ rfl (Qj bj) (by simp[Qe,ai]) (To.pk (hB i) bj (Nat.le_refl _) ?_) ?_
  ·exact Qs
  ·exact Qr @Xw
  ·exact Qs
  ·simp[wq,Qu,Qe,ai,look,aD,ay,fH,wB]
   have e:=Be (x:=.cells (ay (sw 1) caps)) (ρ:=fun j=>if j=0 then j else cC (fun b=>1 + b) [67] 71 (j - 1)) (n:=1) (fun b hb=>by rw[if_pos af]) mD
   exact ⟨⟨qg,(Bk.cells.inj e).symm⟩,rfl⟩
  have aH:=fun n j (hj:71≤j)=>((hB i).hk (S:=Xq b l (i + 1)) bj).hi n j hj
  refine Qh (An @aH (An @aV @fy)) ?_
  rw[← E0 (hB i) bj]
  refine Df (σ:=sw 1) (ex:=[(71,_),(71,_)]) (v:=true) jf ⟨fun b b' h1 h2 e=>OU (k:=1) h1 h2 e,fun b hb=>by have:=wD (k:=1) hb;omega,(hB i).hl bj,fun b hb=>List.mem_range.1 hb,fun q hq=>?_,?_,?_,?_⟩ rfl ((hB (i + 1)).hl bj) (by simp[Qe]) ?_
  ·have e:q.1=71:=by simp at hq;rcases hq with rfl|rfl<;>rfl
   rw[e]
   exact ⟨fun b hb e=>by have:=wD (k:=1) hb;omega,by decide⟩
  ·exact Qs
  ·refine Qf ?_
   exact rfl
  ·simp[ai,Qe,fx]
  rw[W5 ((hB (i + 1)).hl bj) (by simp[Qe])]
  refine Qf ?_
  (refine Qa (fun h3=>?_) (fun h3=>?_)<;>try exact h3.elim)
  refine Qf ?_
  rw[E0 (hB (i + 1)) bj]
  exact ⟨i + 1,by omega,To.drop (ex:=[(71,_),(71,_)]) ((hB (i + 1)).hk bj) au au (by simp[Qu,Qe,ai,look,aD,ay,fH,wB,qg,OV]),by omega⟩
 ·have e:i=Yb l:=by unfold Yb at hi ⊢;omega
  subst e
  refine Qf ?_
  exact To.drop (ex:=[]) ((hB _).hk (eN _)) au au (by simp[Qu,Qe,ai,look,aD,ay])
theorem Bx.one {cs:List AV} (h:ai 0 cs):Bx [(0,.cells cs)] 1 where
 mem q hq:=by
  obtain rfl:=List.mem_singleton.1 hq
  exact ⟨Nat.zero_lt_one,nH (Nat.zero_le _) h⟩
 fN b hb:=⟨_,List.mem_singleton.2 rfl,by show 0=b;omega⟩
 self q hq:=by
  obtain rfl:=List.mem_singleton.1 hq
  rfl
 no q hq:=by
  obtain rfl:=List.mem_singleton.1 hq
  exact h
end Go.Proofs.YtogckmommodmhaaGreatDoor
