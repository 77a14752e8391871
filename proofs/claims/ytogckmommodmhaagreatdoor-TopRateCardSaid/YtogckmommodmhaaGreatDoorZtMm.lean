import Derived.Test.YtogckmommodmhaaGreatDoorZt16
import Derived.Test.YtogckmommodmhaaGreatDoorZtMa
import Derived.Test.YtogckmommodmhaaGreatDoorZtMb
import Derived.Test.YtogckmommodmhaaGreatDoorZtMc
import Derived.Test.YtogckmommodmhaaGreatDoorZtMf
set_option maxHeartbeats 16000000
namespace Go.Proofs.YtogckmommodmhaaGreatDoor
open Go.RowKit
set_option linter.all false
set_option linter.unusedSimpArgs false
set_option maxRecDepth 100000
theorem Xso (gl:Nat→AV) (h0:gl 0=.xp (Qp Xi) 0) (b:Bool) (l:List Ac) (hl:mh l) (hlen:l.length≤140737488351232) (lk:FuncId) (caps:List AV) (X:Nat→List (Nat × Bk)) (hB:∀ i,Bx (X i) 2) (fx:ai 72 caps) (mD:ai 2 (ay (sw 2) caps))
  (kH:∀ i,i < Yb l→∀ T:WT,T.wf→GD Tryz.prog gl lk (.ptr 67 0::.agg (l.getD i fU).enc::.agg (Wa b l i).enc::caps) (up (X i)++Qm (Xq b l (i + 1)) T) 72 (List.range 72) (.bool true) (up (X (i + 1))++Qm (Xq b l (i + 1)) T)) :
  ∃ T:WT,T.wf∧GS Tryz.prog gl 30 [.bool b,.isl l.length (cT l),.cl lk (ay (sw 2) caps)] (X 0) 2 (.aX [.ptr 69 0,.bool true]) (X (Yb l)++Xc (fun b=>2 + b) (Qm (Xq b l (Yb l)) T)) 72:=by
 obtain ⟨Ts,sA,wz,rP⟩:=Ib gl h0 b l hl
 have eN:∀ i,(Ts i).wf:=fun i=>by
  obtain ⟨D,hD⟩:=wz i
  exact hD.1.wf
 refine ⟨Ts (Yb l),eN _,?_⟩
 have wA:=Ia gl h0
 have bN:=ER gl b
 rw[← sA]at bN
 refine By.W0 (of_decide_eq_true rfl) (hB 0).lives fun c aY hg=>?_
 subst hg
 conv in aO _ _=>cbv
 have aV:=Bw l
 have fH:=Wl 72 l
 have wB:=fun ρ:Nat→Nat=>show ay ρ (cT l)=cT l by rw[Yf];exact (List.map_congr_left fun v hv=>Ks (Xj.1 (Wl 0 l) v hv)).trans (List.map_id _)
 have eQ:Yb l≤l.length∧Yb l≤100:=⟨Nat.min_le_left _ _,Nat.min_le_right _ _⟩
 refine Qf ?_
 refine Zg wA ?_
 (refine Qa (fun h1=>?_) (fun h1=>?_)<;>try exact h1.elim)
 refine Qf ?_
 refine uE bN (Qj (eN 0)) ?_ (fun q hq=>((hB 0).mem q hq).1) ?_
 ·exact Qs
 have uI:Xc (fun b=>2 + b) (Qm (Xq b l 0) (Ts 0))=Xc (fun b=>2 + b) (Qm (NS.new b) (Ts 0)):=rfl
 refine Qf ?_
 refine Yi (fun i:Nat=>i≤Yb l) (fun i=>⟨[(1,.isl l.length (cT l)),(2,.cl lk (ay (sw 2) caps)),(8,.ptr 69 0),(9,.int .i64 i)],X i++Xc (fun b=>2 + b) (Qm (Xq b l i) (Ts i)),72⟩) (fun i=>Yb l - i) By.mixed (List.range 2) aY
  ⟨0,Nat.zero_le _,To.c6 (by exact Qs) fun b=>rfl⟩ fun i hi=>?_
 refine Qf ?_
 (refine Qa (fun h2=>?_) (fun h2=>?_)<;>try exact h2.elim)
 ·have mS:i < l.length:=by omega
  have vN:i < Yb l:=by unfold Yb;omega
  have fy:=Ic l mS
  have hd:=rP i
  have jf:=kH i vN (Ts (i + 1)) (eN (i + 1))
  have hT:=eN i
  have bj:=eN (i + 1)
  generalize l.getD i fU=a at *
  obtain ⟨a1,a2,a3,a4⟩:=a
  have mY:∃ r1 r2 r3 r4,Wa b l i=⟨r1,r2,r3,r4⟩:=⟨_,_,_,_,rfl⟩
  obtain ⟨r1,r2,r3,r4,mY⟩:=mY
  rw[mY]at hd jf
  dsimp only[Ac.enc,Rp.enc]at fy hd jf
  refine Qh (An @aV @fy) ?_
  have qg:=ct (m:=72) (fun b hb=>wD (k:=2) hb) caps fx
  have OV:=Jp (ay (sw 2) caps)
  have zg:∀ q ∈ X i,jB (fun b=>2 + b) 70 q.1∧q.1 < 72:=fun q hq=>⟨fun b hb e=>by have:=((hB i).mem q hq).1;have e:2 + b=q.1:=e;omega,by have:=((hB i).mem q hq).1;omega⟩
  refine W4 (v:=false) (σ:=fun b=>2 + b) (ex:=X i) (s3:=⟨[(1,.isl l.length (cT l)),(2,.cl lk (ay (sw 2) caps)),(8,.ptr 69 0),(9,.int .i64 i),(30,.agg [.int .i64 r1,.str r2,.bool r3,.str r4])],X i++Xc (fun b=>2 + b) (Qm (Xq b l (i + 1)) (Ts (i + 1))),72⟩) aY hd ⟨fun b b' _ _ e=>by omega,fun b hb=>by omega,Qj hT,by simp,zg,?_,?_,?_⟩ rfl (Qj bj) (by simp[Qe,ai]) (To.pk (hB i) bj (Nat.le_refl _) ?_) ?_
  ·exact Qs
  ·exact Qr @Xw
  ·exact Qs
  ·simp[wq,Qu,Qe,ai,look,aD,ay,fH,wB]
   have e:=Be (x:=.cells (ay (sw 2) caps)) (ρ:=fun j=>if j < 2 then j else cC (fun b=>2 + b) [67] 72 (j - 2)) (n:=2) (fun b hb=>by rw[if_pos af]) mD
   exact ⟨⟨qg,(Bk.cells.inj e).symm⟩,rfl⟩
  have aH:=fun n j (hj:72≤j)=>((hB i).hk (S:=Xq b l (i + 1)) bj).hi n j hj
  refine Qh (An @aH (An @aV @fy)) ?_
  rw[← E0 (hB i) bj]
  refine Df (σ:=sw 2) (ex:=[(72,_),(72,_)]) (v:=true) jf ⟨fun b b' h1 h2 e=>OU (k:=2) h1 h2 e,fun b hb=>by have:=wD (k:=2) hb;omega,(hB i).hl bj,fun b hb=>List.mem_range.1 hb,fun q hq=>?_,?_,?_,?_⟩ rfl ((hB (i + 1)).hl bj) (by simp[Qe]) ?_
  ·have e:q.1=72:=by simp at hq;rcases hq with rfl|rfl<;>rfl
   rw[e]
   exact ⟨fun b hb e=>by have:=wD (k:=2) hb;omega,by decide⟩
  ·exact Qs
  ·refine Qf ?_
   exact rfl
  ·simp[ai,Qe,fx]
  rw[W5 ((hB (i + 1)).hl bj) (by simp[Qe])]
  refine Qf ?_
  (refine Qa (fun h3=>?_) (fun h3=>?_)<;>try exact h3.elim)
  refine Qf ?_
  rw[E0 (hB (i + 1)) bj]
  exact ⟨i + 1,by omega,To.drop (ex:=[(72,_),(72,_)]) ((hB (i + 1)).hk bj) au au (by simp[Qu,Qe,ai,look,aD,ay,fH,wB,qg,OV]),by omega⟩
 ·have e:i=Yb l:=by unfold Yb at hi ⊢;omega
  subst e
  refine Qf ?_
  exact To.drop (ex:=[]) ((hB _).hk (eN _)) au au (by simp[Qu,Qe,ai,look,aD,ay])
structure wE (S S':NS) (a:Ac) (r:Rp):Prop where
 tick:sU a r→1≤a.n∧(S'.ref:Int)≤S.ref + (if a.n < 4 then a.n else 4)
 ref:sV r→S'.ref + 1≤S.ref∧r.inner=true∧a.kind=1∧r.frame.length=56∧28≤a.frame.length∧r.frame.drop 28=a.frame.take 28
 no:¬ sU a r→S'.ref≤S.ref
theorem Xrv (f:List UInt8) (aA id:Int) (h:28≤f.length):(kC f aA id).drop 28=f.take 28:=by
 have e:kC f aA id=(Uo 1 167772414 aA 64 id 36++([3,13]++be (Zd ([3,13]++[0,0]++([0,0,0,0]++f.take 28))) 2++[0,0,0,0]))++f.take 28:=by
  unfold kC xL;simp
 rw[e]
 exact List.drop_left' (by simp[Jb,Qi])
theorem Iw (S:NS) (f:List UInt8):(S.aN f).2.ref=S.ref:=by
 rw[Ew]
 (repeat' split)<;>rfl
theorem XH {S:NS} (hS:NK S) (a:Ac):wE S (S.step a).2 a (S.step a).1:=by
 have hE:∀ (S':NS) (e:Int),S'.ref=S.ref→a.kind≠3∨e≠0→wE S S' a (bR e):=fun S' e h h3=>⟨fun ⟨k,c⟩=>(h3.elim (fun g=>g k) (fun g=>g c)).elim,fun ⟨_,k⟩=>(k rfl).elim,fun _=>Nat.le_of_eq h⟩
 unfold NS.step
 split
 ·exact hE S 6 rfl (.inr aR)
 have h1:=hS.toNI.cP (S.aF + 1)
 dsimp only
 split
 ·rename_i hk
  have k3:a.kind≠3:=fun e=>by rw[hk]at e;cases e
  rcases Ir h1 a.frame a.draw with ⟨e,h,_⟩|⟨e,he,h0,h⟩|⟨m,es,S1,h⟩
  ·rw[h];exact hE _ e rfl (.inl k3)
  ·rw[h]
   unfold NS.refuse
   split
   ·exact hE _ e rfl (.inl k3)
   ·rename_i hx
    have hl:=(xR h0).1
    have WK:S.ref≠0:=fun e=>hx (.inl e)
    exact ⟨fun ⟨k,_⟩=>(k3 k).elim,fun _=>⟨by show S.ref - 1 + 1≤S.ref;omega,rfl,hk,V9 _ _ _ hl,hl,Xrv _ _ _ hl⟩,fun _=>by show S.ref - 1≤S.ref;omega⟩
  ·have E3:S1.ref=S.ref:=h.ref
   rw[h.is,wm]
   split
   ·rcases Bz (S1.log es) (Yq a.frame 0 (3405803777 + m.a) m.port) with ⟨e,k1,_,k2⟩|⟨m2,k⟩
    ·rw[k1]
     exact ⟨fun ⟨k,_⟩=>(k3 k).elim,fun ⟨_,k⟩=>(k rfl).elim,fun _=>by rw[Iw];exact Nat.le_of_eq E3⟩
    ·rw[k.is]
     exact ⟨fun ⟨k,_⟩=>(k3 k).elim,fun ⟨k,_⟩=>(k rfl).elim,fun _=>by rw[Iw];exact Nat.le_of_eq E3⟩
   ·exact ⟨fun ⟨k,_⟩=>(k3 k).elim,fun ⟨k,_⟩=>(k rfl).elim,fun _=>Nat.le_of_eq E3⟩
 split
 ·rename_i hk
  have k3:a.kind≠3:=fun e=>by rw[hk]at e;cases e
  rcases Bz { S with aF:=S.aF + 1 } a.frame with ⟨e,k1,_,k2⟩|⟨m2,k⟩
  ·rw[k1]
   exact ⟨fun ⟨k,_⟩=>(k3 k).elim,fun ⟨_,k⟩=>(k rfl).elim,fun _=>by rw[Iw];exact Nat.le_refl _⟩
  ·rw[k.is]
   exact ⟨fun ⟨k,_⟩=>(k3 k).elim,fun ⟨k,_⟩=>(k rfl).elim,fun _=>by rw[Iw];exact Nat.le_refl _⟩
 split
 ·rename_i hk
  rw[Bs]
  split
  ·exact hE _ 2 rfl (.inr aR)
  ·rename_i hd
   obtain ⟨es,e,hEs,_⟩:=h1.rJ hd
   refine ⟨fun _=>⟨by omega,?_⟩,fun ⟨k,_⟩=>(k rfl).elim,fun k=>(k ⟨hk,rfl⟩).elim⟩
   have e1:(NS.log (List.foldl cr (NS.later { S with aF:=S.aF + 1 } a.n,[]) (NS.ended { S with aF:=S.aF + 1 } a.n)).1 (List.foldl cr (NS.later { S with aF:=S.aF + 1 } a.n,[]) (NS.ended { S with aF:=S.aF + 1 } a.n)).2).ref=min 4 (S.ref + min a.n.toNat 4):=hEs.ref
   rw[e1]
   split<;>omega
 split
 ·rename_i h3 _
  split
  ·exact ⟨fun ⟨k,_⟩=>(h3 k).elim,fun ⟨_,k⟩=>(k rfl).elim,fun _=>Nat.le_refl _⟩
  ·exact ⟨fun ⟨k,_⟩=>(h3 k).elim,fun ⟨_,k⟩=>(k rfl).elim,fun _=>Nat.le_refl _⟩
 ·exact hE _ 4 rfl (.inr aR)
noncomputable def rV (b:Bool) (l:List Ac):Nat→Int
 | 0=>4
 | i + 1=>if sU (l.getD i fU) (Wa b l i) then rV b l i + (if (l.getD i fU).n < 4 then (l.getD i fU).n else 4) else rV b l i
noncomputable def rW (b:Bool) (l:List Ac):Nat→Int
 | 0=>0
 | i + 1=>if sV (Wa b l i) then rW b l i + 1 else rW b l i
theorem OX (b:Bool) (l:List Ac):∀ i,rW b l i + (Xq b l i).ref≤rV b l i∧0≤rW b l i∧rW b l i≤i∧4≤rV b l i∧rV b l i≤4 + 4 * i
 | 0=>⟨by show (0:Int) + (4:Nat)≤4;omega,Int.le_refl _,Int.le_refl _,Int.le_refl _,by show (4:Int)≤4 + 4 * (0:Nat);omega⟩
 | i + 1=>by
  obtain ⟨h1,h2,h3,h4,h5⟩:=OX b l i
  obtain ⟨g1,g2,g3⟩:=XH (We b l i) (l.getD i fU)
  have e1:(Xq b l (i + 1)).ref=((Xq b l i).step (l.getD i fU)).2.ref:=rfl
  have e2:Wa b l i=((Xq b l i).step (l.getD i fU)).1:=rfl
  rw[← e2]at g1 g2 g3
  rw[← e1]at g1 g2 g3
  unfold rV rW
  by_cases c1:sU (l.getD i fU) (Wa b l i)
  ·have c2:¬ sV (Wa b l i):=fun h=>h.1 c1.2
   obtain ⟨k1,k2⟩:=g1 c1
   rw[if_pos c1,if_neg c2]
   split at k2<;>rename_i hx
   ·rw[if_pos hx];omega
   ·rw[if_neg hx];omega
  ·have k1:=g3 c1
   rw[if_neg c1]
   by_cases c2:sV (Wa b l i)
   ·have:=(g2 c2).1
    rw[if_pos c2];omega
   ·rw[if_neg c2];omega
theorem Bx.two {x y:List AV} (hx:ai 0 x) (hy:ai 0 y):Bx [(1,.cells x),(0,.cells y)] 2 where
 mem q hq:=by
  rcases List.mem_cons.1 hq with rfl|hq
  ·exact ⟨Nat.lt_succ_self _,nH (Nat.zero_le _) hx⟩
  ·obtain rfl:=List.mem_singleton.1 hq
   exact ⟨Nat.zero_lt_two,nH (Nat.zero_le _) hy⟩
 fN b hb:=by
  rcases (by omega:b=0∨b=1) with rfl|rfl
  ·exact ⟨(0,.cells y),by simp,rfl⟩
  ·exact ⟨(1,.cells x),by simp,rfl⟩
 self q hq:=by
  rcases List.mem_cons.1 hq with rfl|hq
  ·rfl
  ·obtain rfl:=List.mem_singleton.1 hq
   rfl
 no q hq:=by
  rcases List.mem_cons.1 hq with rfl|hq
  ·exact hx
  ·obtain rfl:=List.mem_singleton.1 hq
   exact hy
theorem Xo1 (gl:Nat→AV) (S:NS) (T:WT) (hT:T.wf) (a:Ac) (r:Rp) (may told rX l5:Int) (Ml:0≤may∧may≤1000) (sA:0≤told∧told≤1000) (zh:a.frame.length≤140737488351232) (rM:r.frame.length≤140737488351232)
  (hm:sU a r→rX=may + (if a.n < 4 then a.n else 4)) (zl:¬ sU a r→rX=may) (ht:sV r→l5=told + 1) (uY:¬ sV r→l5=told) (hn:sU a r→1≤a.n)
  (hr:sV r→r.inner=true∧a.kind=1∧r.frame.length=56∧28≤a.frame.length∧r.frame.drop 28=a.frame.take 28) (hle:l5≤rX) :
  GD Tryz.prog gl 35 [.ptr 67 0,.agg a.enc,.agg r.enc,.ptr 71 0,.ptr 70 0] ([(71,.cells [.int .i64 may]),(70,.cells [.int .i64 told])]++Qm S T) 72 (List.range 72) (.bool true) ([(71,.cells [.int .i64 rX]),(70,.cells [.int .i64 l5])]++Qm S T):=by
 have iu:FT Tryz.prog 35 Tryz.f35 (aO Tryz.prog Tryz.f35) [.t 8]:=.of Tryz.func35
 have H1:HL ([(71,.cells [.int .i64 may]),(70,.cells [.int .i64 told])]++Qm S T) 72:=((Qj hT).more (by simp[bG,ai,Qe])).more (by simp[bG,ai,Qe])
 have OY:HL ([(71,.cells [.int .i64 rX]),(70,.cells [.int .i64 l5])]++Qm S T) 72:=((Qj hT).more (by simp[bG,ai,Qe])).more (by simp[bG,ai,Qe])
 refine iu.gq (of_decide_eq_true rfl) (fun q hq=>Xf (H1.mem q hq).2) (fun b hb=>List.mem_range.1 hb) fun c aY hg=>?_
 subst hg
 conv in aO _ _=>cbv
 have aH:=fun n b hb=>Ya (S:=S) hT n b hb
 obtain ⟨a1,a2,a3,a4⟩:=a
 obtain ⟨r1,r2,r3,r4⟩:=r
 unfold sU at hm zl hn
 unfold sV at ht uY hr
 unfold Ac.enc Rp.enc
 dsimp only at zh rM hm zl ht uY hn hr ⊢
 obtain ⟨mm,sI,eJ⟩:∃ mm,(if a2 < 4 then a2 else 4)=mm∧mm≤4∧(1≤a2→1≤mm):=⟨_,rfl,by split<;>omega,by split<;>omega⟩
 rw[sI]at hm
 have OZ:(if 4 < a2 then 4 else a2)=mm:=by rw[← sI];split<;>split<;>omega
 refine Qh @aH ?_
 (refine Qa (fun h1=>?_) (fun h1=>?_)<;>try exact h1.elim)
 ·have hn:=hn h1
  obtain rfl:=hm h1
  obtain rfl:=uY (fun h=>h.1 h1.2)
  obtain ⟨h1a,h1b⟩:=h1
  subst h1a h1b
  refine Qh @aH ?_
  erw [OZ]
  (refine Qa (fun h2=>?_) (fun h2=>?_)<;>try exact h2.elim)
  refine Qh @aH ?_
  refine ⟨(),To.eC (p:=List.range 72) (ex0:=[(71,_),(73,_),(72,_),(71,_),(70,_)]) OY hT (fun b hb=>List.mem_range.1 hb) au au (fun b h1 h2=>?_) (by simp[Qu,Qe,ai,look,aD,ay,hle])⟩
  rcases (by omega:b=70∨b=71) with rfl|rfl<;>rfl
 obtain rfl:=zl (fun h=>h1.elim (fun k=>k h.1) (fun k=>k h.2))
 refine Qh @aH ?_
 (refine Qa (fun h2=>?_) (fun h2=>?_)<;>try exact h2.elim)
 ·obtain rfl:=ht (by simpa using h2)
  obtain ⟨k1,k2,k3,k4,k5⟩:=hr (by simpa using h2)
  subst k1 k2
  have k3':(r2.length:Int)=56:=by omega
  refine Qh (An @aH (An @k3' @k5)) ?_
  (refine Qa (fun h3=>?_) (fun h3=>?_)<;>try exact h3.elim)
  refine Qh @aH ?_
  refine ⟨(),To.eC (p:=List.range 72) (ex0:=[(70,_),(73,_),(72,_),(71,_),(70,_)]) OY hT (fun b hb=>List.mem_range.1 hb) au au (fun b h1 h2=>?_) (by simp[Qu,Qe,ai,look,aD,ay,hle])⟩
  rcases (by omega:b=70∨b=71) with rfl|rfl<;>rfl
 ·obtain rfl:=uY (fun h=>h2.elim h.1 h.2)
  refine Qh @aH ?_
  refine ⟨(),To.eC (p:=List.range 72) (ex0:=[(73,_),(72,_),(71,_),(70,_)]) OY hT (fun b hb=>List.mem_range.1 hb) au au (fun b h1 h2=>?_) (by simp[Qu,Qe,ai,look,aD,ay,hle])⟩
  rcases (by omega:b=70∨b=71) with rfl|rfl<;>rfl
theorem Xdg (gl:Nat→AV) (h0:gl 0=.xp (Qp Xi) 0) (b:Bool) (l:List Ac) (hl:mh l) (hlen:l.length≤140737488351232):PS Tryz.prog gl 7 [.bool b,.isl l.length (cT l)] (.bool true):=by
 have hB:∀ i,Bx [(1,.cells [.int .i64 (rV b l i)]),(0,.cells [.int .i64 (rW b l i)])] 2:=fun i=>Bx.two (by simp[ai,Qe]) (by simp[ai,Qe])
 have sEa:Yb l≤100:=Nat.min_le_right _ _
 obtain ⟨T,hT,eQ⟩:=Xso gl h0 b l hl hlen 35 [.ptr 71 0,.ptr 70 0] (fun i=>[(1,.cells [.int .i64 (rV b l i)]),(0,.cells [.int .i64 (rW b l i)])]) hB (by simp[ai,Qe]) (by show ai 2 [.ptr 1 0,.ptr 0 0];simp[ai,Qe]) fun i hi T hT=>by
  obtain ⟨g1,g2,g3,g4,g5⟩:=OX b l i
  obtain ⟨g6,g7,g8,g9,g10⟩:=OX b l (i + 1)
  have dN:=XH (We b l i) (l.getD i fU)
  exact Xo1 gl _ T hT _ _ (rV b l i) (rW b l i) (rV b l (i + 1)) (rW b l (i + 1)) af af (ET hl i) (Iu b l hl i).len (fun h=>if_pos h) (fun h=>if_neg h) (fun h=>if_pos h) (fun h=>if_neg h) (fun h=>(dN.tick h).1) (fun h=>(dN.ref h).2) af
 rw[show ay (sw 2) [.ptr 71 0,.ptr 70 0]=[.ptr 1 0,.ptr 0 0] from rfl]at eQ
 have H1:=(hB (Yb l)).hk (S:=Xq b l (Yb l)) hT
 have iu:FT Tryz.prog 7 Tryz.f7 (aO Tryz.prog Tryz.f7) [.t 4]:=.of Tryz.func7
 refine iu.ps (of_decide_eq_true rfl) (by simp[Qe]) fun c hN hg=>?_
 subst hg
 conv in aO _ _=>cbv
 have fH:=fun n=>Wl n l
 refine Qf ?_
 refine nn (p:=[]) (s':=⟨[(10,.bool b),(11,.isl l.length (cT l)),(12,.cl 35 [.ptr 1 0,.ptr 0 0])],[(1,.cells [.int .i64 (rV b l 0)]),(0,.cells [.int .i64 (rW b l 0)])],2⟩) (by rw[hN];simp) (To.c6 (by exact Qs) fun j=>?_) ?_
 ·by_cases h:j=0
  ·subst h;rfl
  ·by_cases h2:j=1
   ·subst h2;rfl
   ·(repeat rw[Qd,if_neg af])
 refine OT eQ (hB 0).toHL H1 aR (by simp[Qe,ai]) ?_ ?_
 ·exact Qr @fH
 exact Qs
end Go.Proofs.YtogckmommodmhaaGreatDoor
