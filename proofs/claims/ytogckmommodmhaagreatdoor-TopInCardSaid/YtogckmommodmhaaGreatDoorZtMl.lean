import Derived.Test.YtogckmommodmhaaGreatDoorZt10
import Derived.Test.YtogckmommodmhaaGreatDoorZt5
import Derived.Test.YtogckmommodmhaaGreatDoorZt1
import Derived.Test.YtogckmommodmhaaGreatDoorZt11
import Derived.Test.YtogckmommodmhaaGreatDoorZt16
import Derived.Test.YtogckmommodmhaaGreatDoorZtMa
import Derived.Test.YtogckmommodmhaaGreatDoorZtMb
import Derived.Test.YtogckmommodmhaaGreatDoorZtMc
import Derived.Test.YtogckmommodmhaaGreatDoorZtMe
import Derived.Test.YtogckmommodmhaaGreatDoorZtMf
import Derived.Test.YtogckmommodmhaaGreatDoorZtMg
import Derived.Test.YtogckmommodmhaaGreatDoorZtMh
import Derived.Test.YtogckmommodmhaaGreatDoorRows
import Derived.KernelRfl
set_option maxHeartbeats 16000000
namespace Go.Proofs.YtogckmommodmhaaGreatDoor
open Go.RowKit
set_option linter.all false
set_option linter.unusedSimpArgs false
set_option maxRecDepth 100000
def aw.ks:List SK:=List.replicate 18 (.int .i64)++List.replicate 3 .bool
theorem aw.j3 {p:aw} (h:p.wf):p.enc.map Zi=aw.ks.map some:=by
 have e1:(Qp p.own).map Zi=(List.replicate 18 (SK.int .i64)).map some:=by
  rw[← h.own];apply List.ext_getElem<;>simp[Qp,Zi]
 have e2:(Zh p.dr).map Zi=(List.replicate 3 SK.bool).map some:=by
  rw[← h.dr];apply List.ext_getElem<;>simp[Zh,Zi]
 rw[aw.enc,aw.ks,List.map_append,List.map_append,e1,e2]
theorem Xqg:jh Tryz.prog 100 35=some aw.ks:=by kernel_rfl
theorem Xop {c:Cx} {ne:Bool} (p:aw) (h:p.wf):jN Tryz.prog c (.cA ne 35) [.agg p.enc,.agg p.enc] (.bool (ne != true)) :=
 Cr Xqg (by kernel_rfl) (by kernel_rfl) (aw.j3 h) (aw.j3 h) au
theorem Xqq:jh Tryz.prog 100 36=some (List.replicate 8 (.int .i64)):=by kernel_rfl
theorem XC {l:List Int} (h:l.length=8):(Qp l).map Zi=(List.replicate 8 (SK.int .i64)).map some:=by
 rw[← h];apply List.ext_getElem<;>simp[Qp,Zi]
theorem Xn5 {c:Cx} {ne:Bool} (l:List Int) (h:l.length=8):jN Tryz.prog c (.cA ne 36) [.agg (Qp l),.agg (Qp l)] (.bool (ne != true)) :=
 Cr Xqq (by kernel_rfl) (by kernel_rfl) (XC h) (XC h) au
theorem Tb.pf {t:Tb} (h:t.wf):(t.enc.drop 21).take 8=Qp t.home:=by
 unfold Tb.enc Tb.hd
 rw[List.append_assoc,← aw.aC h.aq,List.drop_left,List.take_append_of_le_length (by rw[Ye,h.home];decide),List.take_of_length_le (by rw[Ye,h.home];decide)]
theorem XE:FT Tryz.prog 43 Tryz.f43 (aO Tryz.prog Tryz.f43) [.t 4]:=.of Tryz.func43
theorem Xs0 (gl:Nat→AV) (t:Tb) (ht:t.wf) (hl:t.maps.length≤4611686018427387904):PS Tryz.prog gl 43 [.agg t.enc,.agg t.enc] (.bool true):=by
 refine XE.ps (of_decide_eq_true rfl) (by simp[Qe]) fun c hN hg=>?_
 conv in aO _ _=>cbv
 have e2:=Tb.aC ht
 have e3:=Tb.cO ht
 have e4:=Tb.dU ht
 have e5:=Tb.pf ht
 have aJ:=Jo t.maps
 have hp:=@Xop c true t.aq ht.aq
 have hh:=@Xn5 c true t.home ht.home
 refine Qh (An @e2 @e4) ?_
 refine Qy hp (An @e2 (An @e4 @e5)) ?_
 refine Qy hh (An @e2 @e3) ?_
 (refine Qa (fun h1=>?_) (fun h1=>?_)<;>try exact h1.elim)
 refine Qf ?_
 refine Xr (fun k:Nat=>k≤t.maps.length) (fun k=>⟨[(2,.ptr 0 0),(3,.ptr 1 0),(5,.int .i64 k)],[(0,.cells t.enc),(1,.cells t.enc)],2⟩) (fun k=>t.maps.length - k) XE.mixed hN
  ⟨0,by omega,[],by exact Qs⟩ fun k hk=>?_
 refine Qh (An @e2 @e3) ?_
 (refine Qa (fun h2=>?_) (fun h2=>?_)<;>try exact h2.elim)
 ·have bB:k < t.maps.length:=by omega
  have bg:=vC t.maps k bB
  generalize t.maps[k]=x at *
  have heq:=@DN c true x x
  rw[decide_eq_true rfl]at heq
  refine Qh (An @e2 (An @e3 (An @aJ @bg))) ?_
  refine Qy heq (An @e2 (An @e3 (An @aJ @bg))) ?_
  (refine Qa (fun h3=>?_) (fun h3=>?_)<;>try exact h3.elim)
  refine Qf ?_
  refine ⟨k + 1,by omega,⟨[],?_⟩,by omega⟩
  exact Qs
 ·have:k=t.maps.length:=by omega
  subst this
  exact Qs
structure RIn (S S':NS) (f:List UInt8) (r:Rp):Prop where
 no:r.frame=[]→r.code≠0
 is:r.frame≠[]→∃ m,lX S f m∧r=⟨0,Yq f 1 (167772161 + m.s) m.aN,true,[]⟩∧S'.tb=S.tb
theorem Yde {S:NS} (hS:NJ S) (f:List UInt8):RIn S (S.aN f).2 f (S.aN f).1:=by
 rcases Bz S f with ⟨e,h,he,_⟩|⟨m,h⟩
 ·rw[h]
  exact ⟨fun _=>he,fun h=>(h rfl).elim⟩
 ·refine ⟨fun e=>?_,fun _=>⟨m,h,h.is,h.tb⟩⟩
  exact absurd e (Is (h.read hS).1)
structure zj (S S':NS) (a:Ac) (r:Rp):Prop where
 no:a.kind=2→r.frame=[]→r.code≠0
 is:a.kind=2→r.frame≠[]→∃ m,r=⟨0,Yq a.frame 1 (167772161 + m.s) m.aN,true,[]⟩∧S'.tb=S.tb∧bP a.frame=0∧bP r.frame=0∧az r.frame=Uj (az a.frame) 1 (167772161 + m.s) m.aN ∧
  S.tb.maps.find? (Je (az a.frame).ae ((az a.frame).dst - 3405803777) (az a.frame).aj)=some m∧rS m∧(0≤(az a.frame).dst - 3405803777∧(az a.frame).dst - 3405803777 < 3)
theorem Qz1 {S:NS} (hS:NK S) (a:Ac):zj S (S.step a).2 a (S.step a).1:=by
 unfold NS.step
 split
 ·exact ⟨fun _ _=>by simp[bR],fun _ h=>(h rfl).elim⟩
 dsimp only
 split
 ·rename_i h1;exact ⟨fun h=>absurd (h1.symm.trans h) aR,fun h=>absurd (h1.symm.trans h) aR⟩
 split
 ·have hJ:=(hS.toNI.cP (S.aF + 1)).toNJ
  obtain ⟨g1,g2⟩:=Yde hJ a.frame
  refine ⟨fun _=>g1,fun _ bX=>?_⟩
  obtain ⟨m,hm,e,ht⟩:=g2 bX
  obtain ⟨k1,k2⟩:=hm.read hJ
  exact ⟨m,e,ht,hm.e,k1,k2,hm.back,hJ.gt.oY hm.mem,hm.dst⟩
 ·rename_i h2
  exact ⟨fun h=>absurd h h2,fun h=>absurd h h2⟩
theorem Yan (gl:Nat→AV) (S S':NS) (T:WT) (hw:S.tb.wf) (XF:S.tb.maps.length≤4611686018427387904) (hS:NJ S') (hT:T.wf) (a:Ac) (r:Rp) (zh:a.frame.length≤140737488351232) (rM:r.frame.length≤140737488351232) (h:zj S S' a r):GD Tryz.prog gl 41 [.ptr 67 0,.agg a.enc,.agg r.enc,.ptr 70 0] ([(70,.cells S.tb.enc)]++Qm S' T) 71 (List.range 71) (.bool true) ([(70,.cells S'.tb.enc)]++Qm S' T):=by
 have iu:FT Tryz.prog 41 Tryz.f41 (aO Tryz.prog Tryz.f41) [.t 7]:=.of Tryz.func41
 have yU:=fun n=>Tb.bw (t:=S.tb) n
 have htm:=fun n=>Tb.bw (t:=S'.tb) n
 have H1:∀ {S0:NS},HL ([(70,.cells S0.tb.enc)]++Qm S' T) 71:=fun {S0}=>(Qj hT).more (of_eq_true (Tb.bw S0.tb 71))
 refine iu.gq (of_decide_eq_true rfl) (fun q hq=>Xf ((H1 (S0:=S)).mem q hq).2) (fun b hb=>List.mem_range.1 hb) fun c aY hg=>?_
 subst hg
 conv in aO _ _=>cbv
 have aH:=fun n b hb=>Ya (S:=S') hT n b hb
 obtain ⟨b9,tt⟩:=h
 obtain ⟨a1,a2,a3,a4⟩:=a
 obtain ⟨r1,r2,r3,r4⟩:=r
 unfold Ac.enc Rp.enc
 dsimp only at zh rM b9 tt ⊢
 obtain ⟨Z1,qc,so⟩:∃ Z:Int,(3405803776:Int)=Z∧0≤Z∧Z≤4294967296:=⟨_,rfl,by decide,by decide⟩
 obtain ⟨Z2,uO,N2⟩:∃ Z:Int,(167772161:Int)=Z∧0≤Z∧Z≤4294967296:=⟨_,rfl,by decide,by decide⟩
 rw[qc,uO]
 have e2:=Tb.aC hw
 have e3:=Tb.aC hS.wf
 have wo:S.tb.enc.take 30=S.tb.enc:=List.take_of_length_le (by rw[e2];decide)
 have BG:S'.tb.enc.take 30=S'.tb.enc:=List.take_of_length_le (by rw[e3];decide)
 have Bo:=OS c.gl S' T hS hT
 refine Qh (An @aH (An @e2 @wo)) ?_
 refine oT (v:=false) (ex:=[(73,_),(73,_),(72,_),(71,_),(70,_)]) Bo (Qj hT) (Qj hT) (by simpa [Qe] using htm 70) aR au rfl ?_ ?_
 ·exact Qr @Xw
 refine Qh (An @aH (An @e2 (An @e3 @BG))) ?_
 by_cases hk:a1=2
 case neg =>
  (refine Qa (fun h1=>?_) (fun h1=>?_)<;>try exact h1.elim)
  ·refine Qh @aH ?_
   refine ⟨(),To.eC (p:=List.range 71) (ex0:=[(70,_),(73,_),(73,_),(72,_),(71,_),(70,_)]) (H1 (S0:=S')) hT (fun b hb=>List.mem_range.1 hb) au au (fun b h1 h2=>?_) (by simp[Qu,Qe,ai,look,aD,ay,hk])⟩
   obtain rfl:b=70:=by omega
   rfl
  ·exact absurd h1.1 hk
 by_cases hf:r2=[]
 ·have hr:=b9 hk hf
  subst hk hf
  (refine Qa (fun h1=>?_) (fun h1=>?_)<;>try exact h1.elim)
  refine Qh @aH ?_
  refine ⟨(),To.eC (p:=List.range 71) (ex0:=[(70,_),(73,_),(73,_),(72,_),(71,_),(70,_)]) (H1 (S0:=S')) hT (fun b hb=>List.mem_range.1 hb) au au (fun b h1 h2=>?_) (by simp[Qu,Qe,ai,look,aD,ay,hr])⟩
  obtain rfl:b=70:=by omega
  rfl
 obtain ⟨m,hr,htq,h2,h3,h4,h5,h6,h7⟩:=tt hk hf
 simp only[Rp.mk.injEq]at hr
 obtain ⟨E3,Bi,hr3,NO⟩:=hr
 clear Bi
 subst hk E3 hr3 NO
 rw[htq]
 have hP:=Wu c.gl a4 zh
 have hQ:=Wu c.gl r2 rM
 unfold Kt at hP hQ
 rw[if_pos h2]at hP
 rw[if_pos h3,h4]at hQ
 have hr:=(W9 h2).1
 have kc:=L4 c.gl S.tb hw XF (az a4).ae ((az a4).dst - Z1 - 1) (az a4).aj
 rw[show (az a4).dst - Z1 - 1=(az a4).dst - 3405803777 by omega,h5]at kc
 rw[show (az a4).dst - 3405803777=(az a4).dst - Z1 - 1 by omega]at kc
 have heq:=@W8 c false (az a4)
 have Mz:=Xs0 c.gl S.tb hw XF
 unfold Uj at hQ
 rw[if_neg aR,uO]at hQ
 have qR:=h6.s
 generalize az a4=K at *
 obtain ⟨K1,K2,K3,K4,K5,K6,K7,K8,K9,Ou,Ov,Ow⟩:=K
 obtain ⟨m1,m2,m3,m4,m5⟩:=m
 unfold Ji at hr
 unfold lH Mp.enc at kc
 unfold Pk.enc at hP hQ heq
 dsimp only at hP hQ heq hr kc qR
 (refine Qa (fun h1=>?_) (fun h1=>?_)<;>try exact h1.elim)
 ·exact absurd h1 hf
 refine Qh @aH ?_
 refine Qy hP @aH ?_
 refine Qy hQ (An @aH (An @e2 @wo)) ?_
 refine Qy kc (An @aH (An @e2 @wo)) ?_
 refine Qy Mz (An @aH (An @e2 @wo)) ?_
 (refine Qa (fun h8=>?_) (fun h8=>?_)<;>try exact h8.elim)
 have e6:K6 - 1 + 1=K6:=by omega
 refine Qh (An @aH @e6) ?_
 refine Qy heq @aH ?_
 refine ⟨(),To.eC (p:=List.range 71) (ex0:=[(145,_),(145,_),(145,_),(146,_),(146,_),(145,_),(145,_),(144,_),(144,_),(70,_),(73,_),(73,_),(72,_),(71,_),(70,_)]) (H1 (S0:=S)) hT (fun b hb=>List.mem_range.1 hb) au au (fun b h1 h2=>?_) (by simp[Qu,Qe,ai,look,aD,ay])⟩
 obtain rfl:b=70:=by omega
 rfl
theorem Xts (b:Bool) (l:List Ac) (i:Nat):zj (Xq b l i) (Xq b l (i + 1)) (l.getD i fU) (Wa b l i):=Qz1 (We b l i) _
theorem Xsm (gl:Nat→AV) (h0:gl 0=.xp (Qp Xi) 0) (b:Bool) (l:List Ac) (hl:mh l) (hlen:l.length≤140737488351232):PS Tryz.prog gl 10 [.bool b,.isl l.length (cT l)] (.bool true):=by
 have hB:∀ i,Bx [(0,.cells (Xq b l i).tb.enc)] 1:=fun i=>Bx.one (of_eq_true (Tb.bw _ 0))
 obtain ⟨T,hT,eQ⟩:=XA gl h0 b l hl hlen 41 [.ptr 70 0] (fun i=>[(0,.cells (Xq b l i).tb.enc)]) hB (by simp[ai,Qe]) (by show ai 1 [.ptr 0 0];simp[ai,Qe]) fun i hi T hT =>
  Yan gl _ _ T (We b l i).wf (by have:=vK (Wc.2 (We b l i).gt);omega) (We b l (i + 1)).toNI.toNJ hT _ _ (ET hl i) (Iu b l hl i).len (Xts b l i)
 rw[show ay (sw 1) [.ptr 70 0]=[.ptr 0 0] from rfl]at eQ
 have H1:=(hB (Yb l)).hk (S:=Xq b l (Yb l)) hT
 have iu:FT Tryz.prog 10 Tryz.f10 (aO Tryz.prog Tryz.f10) [.t 4]:=.of Tryz.func10
 refine iu.ps (of_decide_eq_true rfl) (by simp[Qe]) fun c hN hg=>?_
 subst hg
 conv in aO _ _=>cbv
 have fH:=fun n=>Wl n l
 refine Qf ?_
 refine nn (p:=[]) (s':=⟨[(9,.bool b),(10,.isl l.length (cT l)),(11,.cl 41 [.ptr 0 0])],[(0,.cells (Xq b l 0).tb.enc)],1⟩) (by rw[hN];simp) ((To.VW (b:=0) (A:=MQ.hd) (x:=.nils) (y:=.isl 0 []) (B:=[]) rfl Wk.nils).trans (To.c6 (by exact Qs) fun j=>?_)) ?_
 ·by_cases h:j=0
  ·subst h;rfl
  ·show Qc [(0,_)] 1 j=Qc ((0,_)::[(0,_)]) 1 j
   rw[Qd,if_neg (fun e=>h e.symm),Qd,if_neg (fun e=>h e.symm),Qd,if_neg (fun e=>h e.symm)]
 refine OT eQ (hB 0).toHL H1 aR (by simp[Qe,ai]) ?_ ?_
 ·exact Qr @fH
 exact Qs
end Go.Proofs.YtogckmommodmhaaGreatDoor
