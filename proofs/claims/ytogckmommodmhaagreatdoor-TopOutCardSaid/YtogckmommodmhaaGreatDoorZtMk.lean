import Derived.Test.YtogckmommodmhaaGreatDoorZt16
import Derived.Test.YtogckmommodmhaaGreatDoorZt8
import Derived.Test.YtogckmommodmhaaGreatDoorZtMa
import Derived.Test.YtogckmommodmhaaGreatDoorZtMb
import Derived.Test.YtogckmommodmhaaGreatDoorZtMc
import Derived.Test.YtogckmommodmhaaGreatDoorZtMd
import Derived.Test.YtogckmommodmhaaGreatDoorZtMe
import Derived.Test.YtogckmommodmhaaGreatDoorZtMg
set_option maxHeartbeats 16000000
namespace Go.Proofs.YtogckmommodmhaaGreatDoor
open Go.RowKit
set_option linter.all false
set_option linter.unusedSimpArgs false
set_option maxRecDepth 100000
structure uX (S':NS) (f:List UInt8) (r:Rp) (m:Mp):Prop where
 e:bP f=0
 e2:bP r.frame=0
 fwd:S'.tb.maps.find? (Ze (az f).ae ((az f).aA - 167772161) (az f).ah)=some m
 a:0≤m.a∧m.a < 3
 is:az r.frame=Uj (az f) 0 (3405803777 + m.a) m.port
theorem Xyb {S:NS} (hS:NI S) (f:List UInt8) (d:Int) (h0:(S.out f d).1.code=0) (h1:(S.out f d).1.inner=false):∃ m,uX (S.out f d).2 f (S.out f d).1 m:=by
 rcases Ir hS f d with ⟨e,h,he⟩|⟨e,he,h,h2⟩|⟨m,es,S1,h⟩
 ·rw[h]at h0;exact absurd h0 he
 ·rw[h2]at h0
  unfold NS.refuse at h0
  split at h0<;>exact absurd h0 he
 ·obtain ⟨g1,g2⟩:=h.read
  have uM:=h.ni.gt.fwd h.mem
  rw[h.fwd.1,h.fwd.2.1,h.fwd.2.2]at uM
  have hm:=(h.ni.gt.oY h.mem).a
  rw[h.is,wm]at h0 h1 ⊢
  split
  ·rename_i il
   rw[if_pos il]at h0 h1
   dsimp only at h0 h1
   rcases Bz (S1.log es) (Yq f 0 (3405803777 + m.a) m.port) with ⟨e,k1,k2,_⟩|⟨m2,k⟩
   ·rw[k1]at h0;exact absurd h0 k2
   ·rw[k.is]at h1;cases h1
  ·exact ⟨m,h.e,g1,uM,hm,g2⟩
theorem Qy3 {S:NS} (hS:NK S) (a:Ac) (hk:a.kind=1) (h0:(S.step a).1.code=0) (h1:(S.step a).1.inner=false):∃ m,uX (S.step a).2 a.frame (S.step a).1 m:=by
 unfold NS.step at h0 h1 ⊢
 split
 ·rename_i h;rw[if_pos h]at h0;exact absurd h0 (by simp[bR])
 ·rename_i h
  rw[if_neg h]at h0 h1
  dsimp only at h0 h1 ⊢
  rw[if_pos hk]at h0 h1
  try rw[if_pos hk]
  exact Xyb (hS.toNI.cP (S.aF + 1)) a.frame a.draw h0 h1
theorem Xt3 (gl:Nat→AV) (S:NS) (T:WT) (hS:NJ S) (hT:T.wf) (a:Ac) (r:Rp) (zh:a.frame.length≤140737488351232) (rM:r.frame.length≤140737488351232) (h:a.kind=1→r.code=0→r.inner=false→∃ m,uX S a.frame r m):GD Tryz.prog gl 39 [.ptr 67 0,.agg a.enc,.agg r.enc] (Qm S T) 70 (List.range 70) (.bool true) (Qm S T):=by
 have iu:FT Tryz.prog 39 Tryz.f39 (aO Tryz.prog Tryz.f39) [.t 6]:=.of Tryz.func39
 refine iu.gq (of_decide_eq_true rfl) (Zs hT) (fun b hb=>List.mem_range.1 hb) fun c aY hg=>?_
 subst hg
 conv in aO _ _=>cbv
 have aH:=fun n b hb=>Ya (S:=S) hT n b hb
 obtain ⟨a1,a2,a3,a4⟩:=a
 obtain ⟨r1,r2,r3,r4⟩:=r
 unfold Ac.enc Rp.enc
 dsimp only at zh rM h ⊢
 obtain ⟨Z1,qc,so⟩:∃ Z:Int,(3405803777:Int)=Z∧0≤Z∧Z≤4294967296:=⟨_,rfl,by decide,by decide⟩
 obtain ⟨Z2,uO,N2⟩:∃ Z:Int,(167772160:Int)=Z∧0≤Z∧Z≤4294967296:=⟨_,rfl,by decide,by decide⟩
 rw[qc,uO]
 refine Qh @aH ?_
 (refine Qa (fun h1=>?_) (fun h1=>?_)<;>try exact h1.elim)
 ·refine Qh @aH ?_
  exact ⟨(),To.drop (ex:=[(71,_),(70,_)]) (Qj hT) au au (by simp[Qu,Qe,ai,look,aD,ay])⟩
 obtain ⟨m,h2,h3,h4,h5,h6⟩:=h (by simp_all) (by simp_all) (by simp_all)
 dsimp only at h3 h6
 have hP:=Wu c.gl a4 zh
 have hQ:=Wu c.gl r2 rM
 unfold Kt at hP hQ
 rw[if_pos h2]at hP
 rw[if_pos h3,h6]at hQ
 have hr:=(W9 h2).1
 have Bo:=OS c.gl S T hS hT
 have iG:=L3 c.gl S.tb hS.wf (by have:=vK (Wc.2 hS.gt);omega) (az a4).ae ((az a4).aA - Z2 - 1) (az a4).ah
 rw[show (az a4).aA - Z2 - 1=(az a4).aA - 167772161 by omega,h4]at iG
 rw[show (az a4).aA - 167772161=(az a4).aA - Z2 - 1 by omega]at iG
 have heq:=@W8 c false (az a4)
 unfold Uj at hQ
 rw[if_pos rfl,qc]at hQ
 generalize az a4=K at *
 obtain ⟨K1,K2,K3,K4,K5,K6,K7,K8,K9,Ou,Ov,Ow⟩:=K
 obtain ⟨m1,m2,m3,m4,m5⟩:=m
 unfold Ji at hr
 unfold lH Mp.enc at iG
 unfold Pk.enc at hP hQ heq
 dsimp only at hP hQ heq hr iG h5
 have yU:=fun n=>Tb.bw (t:=S.tb) n
 refine Qh @aH ?_
 refine Qy hP @aH ?_
 refine Qy hQ @aH ?_
 refine WY (v:=false) (ex:=[(73,_),(73,_),(72,_),(72,_),(71,_),(70,_)]) Bo (Qj hT) (Qj hT) (by simpa [Qe] using yU 70) aR au rfl ?_ ?_
 ·exact Qr @Xw
 refine Qh @aH ?_
 refine Qy iG @aH ?_
 (refine Qa (fun h7=>?_) (fun h7=>?_)<;>try exact h7.elim)
 have e6:K6 - 1 + 1=K6:=by omega
 refine Qh (An @aH @e6) ?_
 refine Qy heq @aH ?_
 exact ⟨(),To.drop (ex:=[(73,_),(73,_),(73,_),(144,_),(144,_),(73,_),(73,_),(72,_),(72,_),(71,_),(70,_)]) (Qj hT) au au (by simp[Qu,Qe,ai,look,aD,ay])⟩
theorem Xub (b:Bool) (l:List Ac) (i:Nat) (hk:(l.getD i fU).kind=1) (h0:(Wa b l i).code=0) (h1:(Wa b l i).inner=false):∃ m,uX (Xq b l (i + 1)) (l.getD i fU).frame (Wa b l i) m:=Qy3 (We b l i) _ hk h0 h1
theorem Xlx (gl:Nat→AV) (h0:gl 0=.xp (Qp Xi) 0) (b:Bool) (l:List Ac) (hl:mh l) (hlen:l.length≤140737488351232):PS Tryz.prog gl 9 [.bool b,.isl l.length (cT l)] (.bool true):=by
 obtain ⟨T,D,hW,hP,eQ⟩:=OR gl h0 b l hl hlen 39 fun i hi T hT=>Xt3 gl _ T (We b l (i + 1)).toNI.toNJ hT _ _ (ET hl i) (Iu b l hl i).len (Xub b l i)
 have hT:=hW.wf
 have iu:FT Tryz.prog 9 Tryz.f9 (aO Tryz.prog Tryz.f9) [.t 4]:=.of Tryz.func9
 refine iu.ps (of_decide_eq_true rfl) (by simp[Qe]) fun c hN hg=>?_
 subst hg
 conv in aO _ _=>cbv
 have fH:=Wl 0 l
 refine Qf ?_
 refine uE eQ (Qj hT) ?_ au ?_
 ·exact Qs
 exact Qs
end Go.Proofs.YtogckmommodmhaaGreatDoor
