import Derived.Test.YtogckmommodmhaaGreatDoorZx8
namespace Go.Proofs.YtogckmommodmhaaGreatDoor
open List (length_take length_drop length_append)
open Go.RowKit
set_option linter.all false
set_option maxHeartbeats 16000000
set_option maxRecDepth 100000
variable {f:List UInt8}(a b c:List UInt8)(gl:Nat->AV)(l:List UInt8)(k:Nat)(id:Int)(last:Bool)
def Fe (h:k+2<=l.length):w2 l k=256*b1 l k+b1 l (k+1):=by
 have e:(l.drop k).take 2=[l.getD k 0,l.getD (k+1) 0]:=by
  have a0:l.getD k 0=l[k]:=by simp[List.getD,show k<l.length by omega]
  have a1:l.getD (k+1) 0=l[k+1]:=by simp[List.getD,show k+1<l.length by omega]
  have a2:l.drop k=l[k]::l[k+1]::l.drop (k+2):=by rw[List.drop_eq_getElem_cons (show k<l.length by omega),List.drop_eq_getElem_cons (show k+1<l.length by omega)]
  rw[a0,a1,a2];rfl
 unfold w2 b1;rw[e,uS _ av];simp only[oU];omega
set_option maxRecDepth 20000 in
def J9 (hl:l.length<=140737488351232):PS Tryz.prog gl 107 [.str l] (py l):=by
 refine Xp9.ps (ap rfl) (ZB l) fun c hN hg=>?_
 conv in aG _ _=>cbv
 have c0:=We l 0;have c1:=We l 1;have c6:=We l 6;have c7:=We l 7;have c8:=We l 8;have c9:=We l 9;by_cases h1:l.length<20
 ·have d1:decide ((l.length:Int) < 20)=true:=by simp;omega
  refine Qd @d1 ?_;refine jz @d1 ?_;refine Yc ?_;rw[Qz (xA (.inl h1)) aJ];exact Qi (An @cY.eq_1 (An @Pk.enc.eq_1 @Qg))
 have d1:decide ((l.length:Int)<20)=false:=by simp;omega
 have w6:w2 l 6=256*b1 l 6+b1 l 7:=Fe l 6 af;by_cases h2:b1 l 0=69;rotate_left
 ·have Pg:(b1 l 0 != 69)=true:=by simp[h2]
  refine Qd (An @Qg (An @Pg @d1)) ?_;refine jz @d1 ?_;refine Yc ?_;rw[Qz (xA (.inr (.inl h2))) aJ];exact Qi (An @cY.eq_1 (An @Pk.enc.eq_1 @Qg))
 refine Qd (An @Qg (An @h2 @d1)) ?_
 (have zC:=(sB c.gl l 2);refine Qj zC (An @Qg @h2) ?_;clear zC)
 refine Qc ?_ ?_<;>intro h3
 ·rw[Qz (xA (.inr (.inr h3))) aJ];exact Qi (An @cY.eq_1 (An @Pk.enc.eq_1 @Qg))
 have k1:¬ G1 l:=by unfold G1;omega
 refine Qa ?_
 (have zC:=(JM c.gl (l.take 20) (by rw[length_take];omega));refine Xc zC ?_;clear zC)
 refine Qc ?_ ?_<;>intro h4
 ·rw[Qz (J2 k1 (by unfold G2;omega)) aJ];exact Qi (An @cY.eq_1 (An @Pk.enc.eq_1 @Qg))
 have k2:¬ G2 l:=by unfold G2;omega
 refine Qd @Qg ?_;refine Qc ?_ ?_<;>intro h6
 ·rw[Qz (Fb k1 k2 (by unfold G3;omega)) aJ];exact Qi (An @cY.eq_1 (An @Pk.enc.eq_1 @Qg))
 have k3:¬ G3 l:=by unfold G3;omega
 refine Qd @Qg ?_;refine Qc ?_ ?_<;>intro h7
 ·rw[Qz (J3 k1 k2 k3 h7) aJ];exact Qi (An @cY.eq_1 (An @Pk.enc.eq_1 @Qg))
 have K:H4 l:=⟨k1,k2,k3,h7⟩
 clear k1 k2 k3;have e4:0<=w4 l 12/\w4 l 12<=4294967295:=CJ _ _ af;have e5:0<=w4 l 16/\w4 l 16<=4294967295:=CJ _ _ af;have hw3:w2 l 2<=65535:=(CI l 2 af).2;refine Qd @Qg ?_
 (have zC:=(sB c.gl l 4);refine Qj zC @Qg ?_;clear zC)
 (have zC:=(J7 c.gl l 12);refine Qj zC @Qg ?_;clear zC)
 (have zC:=(J7 c.gl l 16);refine Qj zC @Qg ?_;clear zC)
 by_cases h8:b1 l 9=1\/b1 l 9=6\/b1 l 9=17;rotate_left
 ·refine Qc ?_ ?_<;>intro g1
  ·omega
  refine Qa ?_;refine Qc ?_ ?_<;>intro g2
  ·omega
  refine Qa ?_;refine Qc ?_ ?_<;>intro g3
  ·omega
  rw[Qz (J4 K h8) aJ];exact Qi (An @cY.eq_1 (An @Pk.enc.eq_1 @Qg))
 have k5:¬ G5 l:=fun h=>h h8;generalize hs:l.drop 20=s;have jb:s.length=l.length-20:=by rw[<- hs,length_drop]
 have f0:=We s 0;have f1:=We s 1;have f6:=We s 6;have f7:=We s 7;have f12:=We s 12;have f13:=We s 13;have f18:=We s 18;have f19:=We s 19;rcases h8 with h9|h9|h9
 ·have sA:=CF c.gl (w4 l 12) (w4 l 16) 1 s.length af af af af;have kg:(Xk 1 (w4 l 12) (w4 l 16) s.length).length≤12:=by unfold Xk;split<;>simp[Qk]
  have hO:=JM c.gl (Xk 1 (w4 l 12) (w4 l 16) s.length++s) (by rw[length_append];omega);have la:G7 l ↔ dE (Xk 1 (w4 l 12) (w4 l 16) s.length++s)≠65535:=by unfold G7;rw[hs,h9];simp
  generalize dE (Xk 1 (w4 l 12) (w4 l 16) s.length++s)=O at *
  generalize Xk 1 (w4 l 12) (w4 l 16) s.length=pre at *
  rw[h9];refine Yc ?_;refine Qd @hs ?_;refine Yc ?_;refine Qd @hs ?_;refine Yc ?_;refine Qd @hs ?_;refine Qc ?_ ?_<;>intro fR
  ·rw[Qz (xB K k5 (by unfold G6;rw[hs,h9];simp;omega)) aJ];exact Qi (An @cY.eq_1 (An @Pk.enc.eq_1 @Qg))
  have K6:H6 l:=⟨K,k5,by unfold G6;rw[hs,h9];simp;omega⟩
  clear K k5;refine Qa ?_;refine Qj sA @hs ?_;refine Qj hO @Qg ?_;refine Qc ?_ ?_<;>intro iJ
  ·rw[Qz (vL K6 (la.2 af)) aJ];exact Qi (An @cY.eq_1 (An @Pk.enc.eq_1 @Qg))
  have k7:¬ G7 l:=fun h=>by have:=la.1 h;omega
  have k9:¬ G9 l:=fun h=>by have:=h.1;omega
  have jF:¬ nF l:=fun h=>by have:=h.1;omega
  have ZE:G8 l ↔ (b1 s 0≠8/\b1 s 0≠0)\/b1 s 1≠0:=by unfold G8;rw[hs,h9];simp
  refine Qd @Qg ?_;refine Yc ?_;refine Qd @Qg ?_;refine Qc ?_ ?_<;>intro fu
  ·rw[Qz (CG K6 k7 (ZE.2 af)) aJ];exact Qi (An @cY.eq_1 (An @Pk.enc.eq_1 @Qg))
  have k8:¬ G8 l:=fun h=>by have:=ZE.1 h;omega
  refine Qd @Qg ?_
  (have zC:=(sB c.gl s 6);refine Qj zC @Qg ?_;clear zC)
  refine Qc ?_ ?_<;>intro f8
  ·rw[f8];refine Qd (An @Qg @f8) ?_
   (have zC:=(sB c.gl s 4);refine Qj zC @Qg ?_;clear zC)
   have hP:aC l=(⟨1,w4 l 12,w2 s 4,w4 l 16,0,b1 l 8,w2 l 4,8,w2 s 6,0,0,s.drop 8⟩:Pk):=by unfold aC kY;simp only[hs,h9,reduceCtorEq,Int.reduceEq,if_true,if_false,↓reduceIte,f8]
   have hG:=Af c.gl (⟨1,w4 l 12,w2 s 4,w4 l 16,0,b1 l 8,w2 l 4,8,w2 s 6,0,0,s.drop 8⟩:Pk) ⟨by dsimp only;omega,by dsimp only;omega⟩;have hE:=vM K6 k7 k8 k9 jF;rw[hP]at hE;unfold Pk.enc at hG;dsimp only at hG;rw[xC _ hE hP];generalize Zl (⟨1,w4 l 12,w2 s 4,w4 l 16,0,b1 l 8,w2 l 4,8,w2 s 6,0,0,s.drop 8⟩:Pk)=E at *
   clear hP hE;unfold Pk.enc cY;refine Qd @Qg ?_;refine Qj hG @Qg ?_;refine Qc ?_ ?_<;>intro g9
   ·rw[aa g9];exact Qi @Qg
   ·rw[am g9];subst g9;exact Qi @Qg
  ·refine Qd @Qg ?_
   (have zC:=(sB c.gl s 4);refine Qj zC @Qg ?_;clear zC)
   have hP:aC l=(⟨1,w4 l 12,0,w4 l 16,w2 s 4,b1 l 8,w2 l 4,b1 s 0,w2 s 6,0,0,s.drop 8⟩:Pk):=by unfold aC kY;simp only[hs,h9,reduceCtorEq,Int.reduceEq,if_true,if_false,↓reduceIte,f8]
   have hG:=Af c.gl (⟨1,w4 l 12,0,w4 l 16,w2 s 4,b1 l 8,w2 l 4,b1 s 0,w2 s 6,0,0,s.drop 8⟩:Pk) ⟨by dsimp only;omega,by dsimp only;omega⟩;have hE:=vM K6 k7 k8 k9 jF;rw[hP]at hE;unfold Pk.enc at hG;dsimp only at hG;rw[xC _ hE hP];generalize Zl (⟨1,w4 l 12,0,w4 l 16,w2 s 4,b1 l 8,w2 l 4,b1 s 0,w2 s 6,0,0,s.drop 8⟩:Pk)=E at *
   clear hP hE;unfold Pk.enc cY;refine Qd @Qg ?_;refine Qj hG @Qg ?_;refine Qc ?_ ?_<;>intro g9
   ·rw[aa g9];exact Qi @Qg
   ·rw[am g9];subst g9;exact Qi @Qg
 ·have sA:=CF c.gl (w4 l 12) (w4 l 16) 6 s.length af af af af;have kg:(Xk 6 (w4 l 12) (w4 l 16) s.length).length≤12:=by unfold Xk;split<;>simp[Qk]
  have hO:=JM c.gl (Xk 6 (w4 l 12) (w4 l 16) s.length++s) (by rw[length_append];omega);have la:G7 l ↔ dE (Xk 6 (w4 l 12) (w4 l 16) s.length++s)≠65535:=by unfold G7;rw[hs,h9];simp
  generalize dE (Xk 6 (w4 l 12) (w4 l 16) s.length++s)=O at *
  generalize Xk 6 (w4 l 12) (w4 l 16) s.length=pre at *
  rw[h9];refine Yc ?_;refine Qd @hs ?_;refine Qc ?_ ?_<;>intro fR
  ·rw[Qz (xB K k5 (by unfold G6;rw[hs,h9];simp;omega)) aJ];exact Qi (An @cY.eq_1 (An @Pk.enc.eq_1 @Qg))
  have K6:H6 l:=⟨K,k5,by unfold G6;rw[hs,h9];simp;omega⟩
  clear K k5;refine Qa ?_;refine Qj sA @hs ?_;refine Qj hO @Qg ?_;refine Qc ?_ ?_<;>intro iJ
  ·rw[Qz (vL K6 (la.2 af)) aJ];exact Qi (An @cY.eq_1 (An @Pk.enc.eq_1 @Qg))
  have k7:¬ G7 l:=fun h=>by have:=la.1 h;omega
  have k8:¬ G8 l:=fun h=>by have:=h.1;omega
  have k9:¬ G9 l:=fun h=>by have:=h.1;omega
  have w18:w2 s 18=256*b1 s 18+b1 s 19:=Fe s 18 af;have oA:nF l ↔ b1 s 12≠80\/63<b1 s 13\/w2 s 18≠0:=by unfold nF;rw[hs,h9];simp
  refine Qd @Qg ?_;refine Yc ?_;refine Qd @Qg ?_;refine Yc ?_;refine Qd @Qg ?_;refine Qc ?_ ?_<;>intro oB
  ·rw[Qz (CH K6 k7 k8 k9 (oA.2 af)) aJ];exact Qi (An @cY.eq_1 (An @Pk.enc.eq_1 @Qg))
  have jF:¬ nF l:=fun h=>by have:=oA.1 h;omega
  refine Qd @Qg ?_
  (have zC:=(sB c.gl s 0);refine Qj zC (An @Qg @List.drop_zero.{0}) ?_;clear zC)
  (have zC:=(sB c.gl s 2);refine Qj zC @Qg ?_;clear zC)
  (have zC:=(J7 c.gl s 4);refine Qj zC @Qg ?_;clear zC)
  (have zC:=(J7 c.gl s 8);refine Qj zC @Qg ?_;clear zC)
  (have zC:=(sB c.gl s 14);refine Qj zC @Qg ?_;clear zC)
  have hP:aC l=(⟨6,w4 l 12,w2 s 0,w4 l 16,w2 s 2,b1 l 8,w2 l 4,b1 s 13,w4 s 4,w4 s 8,w2 s 14,s.drop 20⟩:Pk):=by unfold aC kY;simp only[hs,h9,reduceCtorEq,Int.reduceEq,if_true,if_false,↓reduceIte]
  have hG:=Af c.gl (⟨6,w4 l 12,w2 s 0,w4 l 16,w2 s 2,b1 l 8,w2 l 4,b1 s 13,w4 s 4,w4 s 8,w2 s 14,s.drop 20⟩:Pk) ⟨by dsimp only;omega,by dsimp only;omega⟩;have hE:=vM K6 k7 k8 k9 jF;rw[hP]at hE;unfold Pk.enc at hG;dsimp only at hG;rw[xC _ hE hP];generalize Zl (⟨6,w4 l 12,w2 s 0,w4 l 16,w2 s 2,b1 l 8,w2 l 4,b1 s 13,w4 s 4,w4 s 8,w2 s 14,s.drop 20⟩:Pk)=E at *
  clear hP hE;unfold Pk.enc cY;refine Qd @Qg ?_;refine Qj hG @Qg ?_;refine Qc ?_ ?_<;>intro g9
  ·rw[aa g9];exact Qi @Qg
  ·rw[am g9];subst g9;exact Qi @Qg
 ·have sA:=CF c.gl (w4 l 12) (w4 l 16) 17 s.length af af af af;have kg:(Xk 17 (w4 l 12) (w4 l 16) s.length).length≤12:=by unfold Xk;split<;>simp[Qk]
  have hO:=JM c.gl (Xk 17 (w4 l 12) (w4 l 16) s.length++s) (by rw[length_append];omega);have la:G7 l ↔ dE (Xk 17 (w4 l 12) (w4 l 16) s.length++s)≠65535\/w2 s 6=0:=by unfold G7;rw[hs,h9];simp
  generalize dE (Xk 17 (w4 l 12) (w4 l 16) s.length++s)=O at *
  generalize Xk 17 (w4 l 12) (w4 l 16) s.length=pre at *
  rw[h9];refine Yc ?_;refine Qd @hs ?_;refine Yc ?_;refine Qd @hs ?_;refine Yc ?_;refine Qd @hs ?_;refine Qc ?_ ?_<;>intro fR
  ·rw[Qz (xB K k5 (by unfold G6;rw[hs,h9];simp;omega)) aJ];exact Qi (An @cY.eq_1 (An @Pk.enc.eq_1 @Qg))
  have K6:H6 l:=⟨K,k5,by unfold G6;rw[hs,h9];simp;omega⟩
  clear K k5;refine Qa ?_;refine Qj sA @hs ?_;refine Qj hO @Qg ?_;refine Qc ?_ ?_<;>intro iJ
  ·have w6s:w2 s 6=256*b1 s 6+b1 s 7:=Fe s 6 af;rw[Qz (vL K6 (la.2 af)) aJ];exact Qi (An @cY.eq_1 (An @Pk.enc.eq_1 @Qg))
  have w6s:w2 s 6=256*b1 s 6+b1 s 7:=Fe s 6 af;have k7:¬ G7 l:=fun h=>by have:=la.1 h;omega
  have k8:¬ G8 l:=fun h=>by have:=h.1;omega
  have jF:¬ nF l:=fun h=>by have:=h.1;omega
  have Fc:G9 l ↔ w2 s 4≠s.length:=by unfold G9;rw[hs,h9];simp
  refine Qd @Qg ?_;refine Yc ?_;refine Qd @Qg ?_;refine Yc ?_;refine Qd @Qg ?_
  (have zC:=(sB c.gl s 4);refine Qj zC @Qg ?_;clear zC)
  refine Qc ?_ ?_<;>intro oB
  ·rw[Qz (J5 K6 k7 k8 (Fc.2 oB)) aJ];exact Qi (An @cY.eq_1 (An @Pk.enc.eq_1 @Qg))
  have k9:¬ G9 l:=fun h=>Fc.1 h oB;refine Qd @Qg ?_
  (have zC:=(sB c.gl s 0);refine Qj zC (An @Qg @List.drop_zero.{0}) ?_;clear zC)
  (have zC:=(sB c.gl s 2);refine Qj zC @Qg ?_;clear zC)
  have hP:aC l=(⟨17,w4 l 12,w2 s 0,w4 l 16,w2 s 2,b1 l 8,w2 l 4,0,0,0,0,s.drop 8⟩:Pk):=by unfold aC kY;simp only[hs,h9,reduceCtorEq,Int.reduceEq,if_true,if_false,↓reduceIte]
  have hG:=Af c.gl (⟨17,w4 l 12,w2 s 0,w4 l 16,w2 s 2,b1 l 8,w2 l 4,0,0,0,0,s.drop 8⟩:Pk) ⟨by dsimp only;omega,by dsimp only;omega⟩;have hE:=vM K6 k7 k8 k9 jF;rw[hP]at hE;unfold Pk.enc at hG;dsimp only at hG;rw[xC _ hE hP];generalize Zl (⟨17,w4 l 12,w2 s 0,w4 l 16,w2 s 2,b1 l 8,w2 l 4,0,0,0,0,s.drop 8⟩:Pk)=E at *
  clear hP hE;unfold Pk.enc cY;refine Qd @Qg ?_;refine Qj hG @Qg ?_;refine Qc ?_ ?_<;>intro g9
  ·rw[aa g9];exact Qi @Qg
  ·rw[am g9];subst g9;exact Qi @Qg
def Xri {p:Pk}(h:Zl p=0):PS Tryz.prog gl 162 [.agg p.enc] (.aR [.str (Zw p),.int .i64 0]):=by
 have hp:=(Wj h).1;rcases p with ⟨ae,aF,aj,dst,aw,aN,id,flags,seq,bC,win,body⟩
 dsimp only at hp;rcases hp with rfl|rfl|rfl
 ·exact Xc9 gl aF aj dst aw aN id flags seq bC win body h
 ·exact Xhc gl aF aj dst aw aN id flags seq bC win body h
 ·exact Xl5 gl aF aj dst aw aN id flags seq bC win body h
def Ff (h:cH f=0):28<=f.length/\f.length<=65535:=by
 have h1:¬ G1 f:=fun h1=>by rw[xA h1]at h;cases h
 have h2:¬ G2 f:=fun h2=>by rw[J2 h1 h2]at h;cases h
 have h3:¬ G3 f:=fun h3=>by rw[Fb h1 h2 h3]at h;cases h
 have h4:¬ G4 f:=fun h4=>by rw[J3 h1 h2 h3 h4]at h;cases h
 have k:H4 f:=⟨h1,h2,h3,h4⟩
 have h5:¬ G5 f:=fun h5=>by rw[J4 k h5]at h;cases h
 have h6:¬ G6 f:=fun h6=>by rw[xB k h5 h6]at h;cases h
 unfold G1 at h1;unfold G6 at h6;rw[length_drop]at h6;have:=CI f 2 af;split at h6<;>omega
def ZF (f:List UInt8):(aC f).aF=w4 f 12:=by
 unfold aC;dsimp only;split
 ·rfl
 ·split<;>rfl
def Wb (l:List UInt8)(id:Int):AV:=if cH l≠0 then .aR [.str [],.int .i64 (cH l)] else if ¬ (0<=id/\id<=65535) then .aR [.str [],.int .i64 2] else .aR [.str (xu l (w4 l 12) id),.int .i64 0]
def ZG:Qe 0 (Wb l id):=by
 unfold Wb;split
 ·simp[Qe,ah]
 ·split<;>simp[Qe,ah]
def Xqn (hl:l.length<=140737488351232):PS Tryz.prog gl 124 [.str l,.int .i64 id] (Wb l id):=by
 refine Xir.ps (ap rfl) (ZG l id) fun c hN hg=>?_
 conv in aG _ _=>cbv
 have hP:=J8 c.gl l hl;by_cases he:cH l=0;rotate_left
 ·rw[Qz rfl he]at hP;have hr:Wb l id=.aR [.str [],.int .i64 (cH l)]:=am he;rw[hr];clear hr;generalize cH l=E at *
  unfold cY Pk.enc at hP;dsimp only at hP;refine Qa ?_;refine Xc hP ?_;refine Qc ?_ ?_<;>intro g1
  ·exact Qp
  ·exact (he g1).elim
 obtain ⟨ZH,ZI⟩:=Ff he;rw[Pf he]at hP;have hf:=ZF l;have hw:=Pb c.gl [id] av;have h4:=CJ l 12 af;unfold Pk.enc at hP;rw[hf]at hP;generalize aC l=q at *
 clear hf;by_cases hid:0<=id/\id<=65535;rotate_left
 ·have hr:Wb l id=.aR [.str [],.int .i64 2]:=by unfold Wb;rw[aa af,am hid]
  have hb:[id].all (dG 65535)=false:=by simp[dG];omega
  rw[hr];rw[hb]at hw;refine Qa ?_;refine Xc hP ?_;refine Yc ?_;refine Qa ?_;refine Ke ?_
  ((first|apply Wc|apply Jw)<;>(first|exact hw|(with_reducible (exact Ji.bool _))|(refine XG ?_;first|exact rfl|exact True.intro|((try with_reducible and_intros);all_goals try first|refine zm ?_|exact CL))))
  refine Yc ?_;exact Qp
 have hr:Wb l id=.aR [.str (xu l (w4 l 12) id),.int .i64 0]:=by unfold Wb;rw[aa af,aa af]
 have hb:[id].all (dG 65535)=true:=by simp[dG];omega
 rw[hr];rw[hb]at hw;clear hr hb;obtain ⟨p8,Fg⟩:∃ p8:List UInt8,p8=[3,13,0,0,0,0,0,0]:=⟨_,rfl⟩
 have hl8:p8.length=8:=by rw[Fg];rfl
 have lit:[.int .u8 3,.int .u8 13,.int .u8 0,.int .u8 0,.int .u8 0,.int .u8 0,.int .u8 0,.int .u8 0]=Xi p8:=by rw[Fg];rfl
 have bw:∀ v,((p8++l.take 28).set 2 (Qy v 1)).set 3 (Qy v 0)=[3,13]++be v 2++([0,0,0,0]++l.take 28):=fun v=>by rw[Fg];rfl
 have hck:Yj ([3,13]++[0,0]++([0,0,0,0]++l.take 28))=Yj (p8++l.take 28):=by rw[Fg];rfl
 have b9:xu l (w4 l 12) id=Wi 1 167772414 (w4 l 12) 64 id 36++((p8++l.take 28).set 2 (Qy (Yj (p8++l.take 28)) 1)).set 3 (Qy (Yj (p8++l.take 28)) 0):=by
  unfold xu OV;rw[bw,hck]
 rw[b9];clear b9 hck bw Fg;have BV:(p8++l.take 28).length=36:=by rw[length_append,length_take];omega
 have vK:=X4 c.gl (p8++l.take 28) af;have J1:=yI (p8++l.take 28);generalize Yj (p8++l.take 28)=K at *
 have t8:p8.take 8=p8:=List.take_of_length_le af;refine Qa ?_;refine Xc hP ?_;refine Yc ?_;refine Qa ?_;refine Ke ?_
 ((first|apply Wc|apply Jw)<;>(first|exact hw|(with_reducible (exact Ji.bool _))|(refine XG ?_;first|exact rfl|exact True.intro|((try with_reducible and_intros);all_goals try first|refine zm ?_|exact CL))))
 refine Yc ?_;refine Qa ?_;refine Ke ?_;simp only[lit];refine Yp (An @hl8 @t8) ?_;generalize hR:p8++l.take 28=R at *
 have tR:R.take 36=R:=List.take_of_length_le af;refine Qj vK (An @BV @tR) ?_;have bw:((R.set 2 (Qy K 1)).set 3 (Qy K 0)).length=36:=by simp[BV]
 refine Qd (An @BV @JZ) ?_;generalize hS:(R.set 2 (Qy K 1)).set 3 (Qy K 0)=S at *
 have Ag:((8+min 28 l.length:Nat):Int)=36:=by omega
 (have zC:=(Yb7 c.gl 1 167772414 (w4 l 12) 64 id 36 af);refine Jo (ip []) zC (An @BV @Ag) ?_;clear zC)
 refine Yp (An @bw @Cz) ?_;rw[List.take_of_length_le (by simp[Cz,bw])]
def Xik (hl:l.length<=140737488351232):PS Tryz.prog gl 106 [.str l,.int .i64 id] (Wb l id):=by
 refine Xje.ps (ap rfl) (ZG l id) fun c hN hg=>?_
 conv in aG _ _=>cbv
 have hP:=J9 c.gl l hl;by_cases he:cH l=0;rotate_left
 ·rw[Qz rfl he]at hP;have hr:Wb l id=.aR [.str [],.int .i64 (cH l)]:=am he;rw[hr];clear hr;generalize cH l=E at *
  unfold cY Pk.enc at hP;dsimp only at hP;refine Qa ?_;refine Xc hP ?_;refine Qc ?_ ?_<;>intro g1
  ·exact Qp
  ·exact (he g1).elim
 obtain ⟨ZH,ZI⟩:=Ff he;rw[Pf he]at hP;have hf:=ZF l;have h4:=CJ l 12 af;unfold Pk.enc at hP;rw[hf]at hP;generalize aC l=q at *
 clear hf;by_cases hid:0<=id/\id<=65535;rotate_left
 ·have hr:Wb l id=.aR [.str [],.int .i64 2]:=by unfold Wb;rw[aa af,am hid]
  rw[hr];refine Qa ?_;refine Xc hP ?_;refine Yc ?_;refine Qa ?_;refine Qc ?_ ?_<;>intro g2
  ·exact Qp
  ·omega
 have hr:Wb l id=.aR [.str (xu l (w4 l 12) id),.int .i64 0]:=by unfold Wb;rw[aa af,aa af]
 rw[hr];clear hr;obtain ⟨z4,KA⟩:∃ z4:List UInt8,[0,0,0,0]=z4:=⟨_,rfl⟩
 obtain ⟨p4,Fh⟩:∃ p4:List UInt8,[3,13,0,0]=p4:=⟨_,rfl⟩
 obtain ⟨p2,fk⟩:∃ p2:List UInt8,[3,13]=p2:=⟨_,rfl⟩
 have l4:z4.length=4:=by rw[<- KA];rfl
 have m4:p4.length=4:=by rw[<- Fh];rfl
 have m2:p2.length=2:=by rw[<- fk];rfl
 have hck:Yj ([3,13]++[0,0]++([0,0,0,0]++l.take 28))=Yj (p4++(z4++l.take 28)):=by rw[<- Fh,<- KA];rfl
 have b9:xu l (w4 l 12) id=Wi 1 167772414 (w4 l 12) 64 id 36++(p2++be (Yj (p4++(z4++l.take 28))) 2++(z4++l.take 28)):=by
  unfold xu OV;rw[hck,fk,KA]
 rw[b9];clear b9 hck;have hbl:(z4++l.take 28).length=32:=by rw[length_append,length_take];omega
 have vK:=E4 c.gl (p4++(z4++l.take 28)) (by rw[length_append];omega);have J1:=yI (p4++(z4++l.take 28));generalize Yj (p4++(z4++l.take 28))=K at *
 have xy:=J0 c.gl 1 167772414 (w4 l 12) 64 id 36 af af af af af af;have fX:(Wi 1 167772414 (w4 l 12) 64 id 36).length=20:=Cz _ _ _ _ _ _;generalize Wi 1 167772414 (w4 l 12) 64 id 36=H at *
 have hBK:=Xh c.gl K 2 af af aJ;generalize hB:z4++l.take 28=B at *
 refine Qa ?_;refine Xc hP ?_;refine Yc ?_;refine Qa ?_;refine Qc ?_ ?_<;>intro g2
 ·omega
 refine Qd (An @KA (An @hB @l4)) ?_;refine Qj xy (An @fk (An @Fh (An @fX (An @m2 (An @m4 @hbl))))) ?_;refine Qj vK (An @fk (An @Fh (An @fX (An @m2 (An @m4 @hbl))))) ?_;refine Qj hBK (An @fk (An @Fh (An @fX (An @m2 (An @m4 (An @hbl @Qk)))))) ?_;simp only[List.append_assoc]
def Yhk (c m n:Int):PS Tryz.prog gl 166 [.int .i64 c,.int .i64 m,.int .i64 n] (.int .i64 (Qt c m n)):=Xrd gl c m n
def Ph (n:Int):(qq l k n).length=l.length:=by simp[qq]
def KB (m n:Int):(qs l k m n).length=l.length:=by simp[qs,Ph]
def Uu (k c:Nat)(n:Int):(jW l k c n).length=l.length:=by simp[jW,Ph,KB]
theorem Pj (s:FS):iE s []=.aR []:=rfl
def CM:((k:Int)+1).toNat=k+1:=by omega
def CN:((k:Int)+2).toNat=k+2:=by omega
def ZJ:k+2-k=2:=by omega
def Pm (ck:Nat)(m n:Int)(hc:ck+2<=l.length)(hl:l.length<=65535) :
  GS Tryz.prog gl 134 [.ptr 0 0,.int .i64 ck,.int .i64 m,.int .i64 n] [(0,.cells [.sl 1 1 0 l.length l.length,.bool last]),(1,.cells (Xi l))] 2 (.aR [])
   [(0,.cells [.sl 1 1 0 l.length l.length,.bool last]),(1,.cells (Xi (qs l ck m n)))] 2:=by
 refine Xwl.gs (ap rfl) (by simp[Bk.live]) fun c bf hg=>?_
 conv in aG _ _=>cbv
 have hb:=E7 (w2 l ck) m n;have b9:qs l ck m n=(l.set ck (Qy (Qt (w2 l ck) m n) 1)).set (ck+1) (Qy (Qt (w2 l ck) m n) 0):=rfl;have hn:=lS c.gl l ck;have hu:=Yhk c.gl (w2 l ck) m n;rw[b9];generalize Qt (w2 l ck) m n=x at *
 generalize w2 l ck=y at *
 clear b9;refine Qd (An @CM (An @CN @ZJ)) ?_;refine Qj hn (An @CM @CN) ?_;refine Qj hu (An @CM @CN) ?_;refine ⟨[],?_⟩;exact Qi (An @Pj @JZ)
theorem Yby (k c:Nat)(n:Int):jW l k c n=((qs l c (w2 l k) n).set k (Qy n 1)).set (k+1) (Qy n 0):=rfl
def KC (k ck:Nat)(n:Int)(hk:k+2<=l.length)(hc:ck+2<=l.length)(hl:l.length<=65535) :
  GS Tryz.prog gl 133 [.ptr 0 0,.int .i64 k,.int .i64 ck,.int .i64 n] [(0,.cells [.sl 1 1 0 l.length l.length,.bool last]),(1,.cells (Xi l))] 2 (.aR [])
   [(0,.cells [.sl 1 1 0 l.length l.length,.bool last]),(1,.cells (Xi (jW l k ck n)))] 2:=by
 refine Ybk.gs (ap rfl) (by simp[Bk.live]) fun c bf hg=>?_
 conv in aG _ _=>cbv
 have hn:=lS c.gl l k;have ht:=Pm c.gl l last ck (w2 l k) n hc hl;rw[Yby];have dH:=KB l ck (w2 l k) n;generalize qs l ck (w2 l k) n=T at *
 generalize w2 l k=y at *
 refine Qd (An @CM (An @CN @ZJ)) ?_;refine Qj hn (An @CM @CN) ?_
 ((first|refine Kn (ins:=[0,1]) ht ?_ ?_|refine Jb (ins:=[0,1]) ht ?_ ?_|refine Ja (ins:=[0,1]) ht ?_ ?_|refine Zg (ins:=[0,1]) ht ?_ ?_)<;>(have aQ:=@CM;have bu:=@CN;have bO:=@dH;have cy:=@Pj;refine XG ?_;clear aQ bu bO cy;(try first|exact rfl|exact True.intro);((try with_reducible and_intros);all_goals try first|refine zm ?_|exact CL)))
 ·rfl
 refine ⟨[],?_⟩;exact Qi (An @Pj @JZ)
def Pn (h:cH f=0):H6 f/\Zl (aC f)=0:=by
 have h1:¬ G1 f:=fun h1=>by rw[xA h1]at h;cases h
 have h2:¬ G2 f:=fun h2=>by rw[J2 h1 h2]at h;cases h
 have h3:¬ G3 f:=fun h3=>by rw[Fb h1 h2 h3]at h;cases h
 have h4:¬ G4 f:=fun h4=>by rw[J3 h1 h2 h3 h4]at h;cases h
 have k:H4 f:=⟨h1,h2,h3,h4⟩
 have h5:¬ G5 f:=fun h5=>by rw[J4 k h5]at h;cases h
 have h6:¬ G6 f:=fun h6=>by rw[xB k h5 h6]at h;cases h
 have k6:H6 f:=⟨k,h5,h6⟩
 have h7:¬ G7 f:=fun h7=>by rw[vL k6 h7]at h;cases h
 have h8:¬ G8 f:=fun h8=>by rw[CG k6 h7 h8]at h;cases h
 have h9:¬ G9 f:=fun h9=>by rw[J5 k6 h7 h8 h9]at h;cases h
 have fR:¬ nF f:=fun fR=>by rw[CH k6 h7 h8 h9 fR]at h;cases h
 exact ⟨k6,by rw[<- vM k6 h7 h8 h9 fR];exact h⟩
def CO (f:List UInt8):(aC f).ae=b1 f 9:=by
 unfold aC;dsimp only;split
 ·rfl
 ·split<;>rfl
def Yaw {f:List UInt8}(h:cH f=0)(h9:b1 f 9=6):40<=f.length:=by
 have:=(Pn h).1.g6;have h2:=Ff h;unfold G6 at this;rw[h9,length_drop]at this;simp only[if_true]at this;omega
def Yjk (a:Int)(h:0<=a):a.fdiv (2 ^ min 16 64)=a/65536:=by
 rw[Int.fdiv_eq_ediv_of_nonneg _ aJ];rfl
def Yjn (a:Int)(h:0<=a/\a<=4294967295):bits .and .i64 a 65535=a%65536:=by
 obtain ⟨x,rfl⟩:=Int.eq_ofNat_of_zero_le h.1;show IntKind.i64.wrap (((BitVec.ofInt 64 (x:Int)) &&& (BitVec.ofInt 64 65535)).toNat:Int)=_;rw[BitVec.toNat_and,BitVec.toNat_ofInt,BitVec.toNat_ofInt];have e1:((x:Int)%((2 ^ 64:Nat):Int)).toNat=x:=by omega
 have e2:((65535:Int)%((2 ^ 64:Nat):Int)).toNat=2 ^ 16-1:=by decide
 rw[e1,e2,Nat.and_two_pow_sub_one_eq_mod,IntKind.wrap_i64];omega
def Yj2 (t p:Int)(ht:0<=t/\t<=255)(hp:0<=p/\p<=255):bits .or .i64 (t*256) p=t*256+p:=by
 have h:=TM t p hp.1 af;rw[IntKind.wrap_i64,IntKind.wrap_i64]at h;have e1:(t*256+9223372036854775808)%18446744073709551616-9223372036854775808=t*256:=by omega
 have e2:(256*t+p+9223372036854775808)%18446744073709551616-9223372036854775808=t*256+p:=by omega
 rw[e1,e2]at h;exact h
def ZK:(2:Int) ^ min 8 64=256:=by decide
def ZL (i:Nat):(Xi l).set i (.int .u8 255)=Xi (l.set i 255):=by
 have e:(.int .u8 255:AV)=.int .u8 ((255:UInt8).toNat:Int):=rfl;rw[e,Xi,Xi,List.map_set]
def Ya7:qq l k 65535=(l.set k 255).set (k+1) 255:=by
 unfold qq;rw[show Qy 65535 1=255 by decide,show Qy 65535 0=255 by decide]
def Yk4 (h:k+2<=l.length):w2 l k=0 ↔ b1 l k=0/\b1 l (k+1)=0:=by
 have:=Fe l k h;have:=We l k;have:=We l (k+1);omega
def kI (k:Nat):Int:=k
theorem Po:kI 0=0:=rfl
theorem Pp:kI 1=1:=rfl
theorem Pq:kI 2=2:=rfl
def KD (k:Nat)(a b c:List UInt8):List UInt8:=match k with|0=>a|1=>b|_=>c
theorem Pr:KD 0 a b c=a:=rfl
theorem Ps:KD 1 a b c=b:=rfl
theorem Pt:KD 2 a b c=c:=rfl
def sC (l:List UInt8)(side addr port:Int):AV :=
 if cH l≠0 then .aR [.str [],.int .i64 (cH l)]
 else if Wf (aC l) side addr port≠0 then .aR [.str [],.int .i64 (Wf (aC l) side addr port)]
 else .aR [.str (Uj l (aC l).ae (aC l).aN (vF side) (vG (aC l).ae side) addr port),.int .i64 0]
def Ycz (side addr port:Int):Qe 0 (sC l side addr port):=by
 unfold sC;split
 ·simp[Qe,ah]
 ·split<;>simp[Qe,ah]
def Xui {l:List UInt8}{side addr port e:Int}(h:cH l=0)(ht:Wf (aC l) side addr port=e)(he:e≠0):sC l side addr port=.aR [.str [],.int .i64 e]:=by
 unfold sC;rw[aa af,ht,am he]
def te2 {p:Pk}{side addr port:Int}(h:side<0\/side>1\/¬ (0<=addr/\addr<=4294967295)\/¬ (0<=port/\port<=65535)):Wf p side addr port=2:=am h
def Yjq {p:Pk}{side addr port:Int}(h:¬ (side<0\/side>1\/¬ (0<=addr/\addr<=4294967295)\/¬ (0<=port/\port<=65535)))(h2:p.aN=1):Wf p side addr port=12:=(aa h).trans (am h2)
def te4 {p:Pk}{side addr port:Int}(h:¬ (side<0\/side>1\/¬ (0<=addr/\addr<=4294967295)\/¬ (0<=port/\port<=65535)))(h2:¬ p.aN=1)(h3:p.ae=1/\¬ (side=0 ↔ p.flags=8)):Wf p side addr port=4:=(aa h).trans ((aa h2).trans (am h3))
def te0 {p:Pk}{side addr port:Int}(h:¬ (side<0\/side>1\/¬ (0<=addr/\addr<=4294967295)\/¬ (0<=port/\port<=65535)))(h2:¬ p.aN=1)(h3:¬ (p.ae=1/\¬ (side=0 ↔ p.flags=8))):Wf p side addr port=0:=(aa h).trans ((aa h2).trans (aa h3))
set_option maxRecDepth 20000 in
def ZM (side addr port:Int)(hl:l.length<=140737488351232):PS Tryz.prog gl 94 [.str l,.int .i64 side,.int .i64 addr,.int .i64 port] (sC l side addr port):=by
 refine YR.ps (ap rfl) (Ycz l side addr port) fun c hN hg=>?_
 conv in aG _ _=>cbv
 have hP:=J8 c.gl l hl;by_cases he:cH l=0;rotate_left
 ·rw[Qz rfl he]at hP;have hr:sC l side addr port=.aR [.str [],.int .i64 (cH l)]:=am he;rw[hr];clear hr;generalize cH l=E at *
  unfold cY Pk.enc at hP;dsimp only at hP;refine Qa ?_;refine Xc hP ?_;refine Qc ?_ ?_<;>intro g1
  ·exact Qp
  ·exact (he g1).elim
 obtain ⟨ZH,ZI⟩:=Ff he;have Fi:=@Yaw l he;have sD:=CO l;obtain ⟨KE,mg⟩:=Pn he;obtain ⟨hp,hr,hbl,ko⟩:=Wj mg;rw[Pf he]at hP;have fH:=YW c.gl [addr] av;have KF:=Pb c.gl [port] av;have eE:=fun e=>@Xui l side addr port e he;have Fj:=@te2 (aC l) side addr port;have xD:=@Yjq (aC l) side addr port;have Fk:=@te4 (aC l) side addr port;have Fo:=@te0 (aC l) side addr port;have xE:Wf (aC l) side addr port=0->sC l side addr port=.aR [.str (Uj l (aC l).ae (aC l).aN (vF side) (vG (aC l).ae side) addr port),.int .i64 0]:=fun h=>by
  unfold sC;rw[aa af,aa af]
 generalize sC l side addr port=TT at *
 generalize Wf (aC l) side addr port=TE at *
 obtain ⟨r1,r2,r3,r4,r5,r6,r7,r8,r9,iF⟩:=hr;clear ko hbl mg KE;generalize aC l=q at *
 obtain ⟨ae,aF,aj,dst,aw,aN,id,flags,seq,bC,win,body⟩:=q;unfold Pk.enc at hP;dsimp only at *
 clear r1 r2 r3 r4 r5 r6 r7 r8;have HB:=Lib.hid eE;have KG:=Lib.hid Fj;have Fp:=Lib.hid xD;have ZN:=Lib.hid Fk;have ZO:=Lib.hid Fo;have HG:=Lib.hid xE;have Fq:=Lib.hid Fi;clear eE Fj xD Fk Fo xE Fi;by_cases ZP:side<0\/side>1
 ·rw[HB.out _ (KG.out af) aJ];have d1:(decide (side < 0) || decide (1 < side))=true:=by simp;omega
  refine Qa ?_;refine Xc hP ?_;refine Yc ?_;refine Qd @d1 ?_;refine jz @d1 ?_;refine jz @d1 ?_;refine jz @d1 ?_;refine jz @d1 ?_;refine Yc ?_;exact Qp
 have d1:(decide (side<0)||decide (1<side))=false:=by simp;omega
 by_cases xF:0<=addr/\addr<=4294967295;rotate_left
 ·rw[HB.out _ (KG.out af) aJ];have hb:[addr].all (dG 4294967295)=false:=by simp[dG];omega
  rw[hb]at fH;refine Qa ?_;refine Xc hP ?_;refine Yc ?_;refine Qd @d1 ?_;refine zI @d1 ?_;refine Yp @d1 ?_
  ((first|apply Wc|apply Jw)<;>(first|exact fH|(with_reducible (exact Ji.bool _))|(have aQ:=@d1;refine XG ?_;clear aQ;first|exact rfl|exact True.intro|((try with_reducible and_intros);all_goals try first|refine zm ?_|exact CL))))
  refine jz @d1 ?_;refine jz @d1 ?_;refine Yc ?_;exact Qp
 have hb:[addr].all (dG 4294967295)=true:=by simp[dG];omega
 rw[hb]at fH;by_cases pA:0<=port/\port<=65535;rotate_left
 ·rw[HB.out _ (KG.out af) aJ];have hb2:[port].all (dG 65535)=false:=by simp[dG];omega
  rw[hb2]at KF;refine Qa ?_;refine Xc hP ?_;refine Yc ?_;refine Qd @d1 ?_;refine zI @d1 ?_;refine Yp @d1 ?_
  ((first|apply Wc|apply Jw)<;>(first|exact fH|(with_reducible (exact Ji.bool _))|(have aQ:=@d1;refine XG ?_;clear aQ;first|exact rfl|exact True.intro|((try with_reducible and_intros);all_goals try first|refine zm ?_|exact CL))))
  refine zI @d1 ?_;refine Yp @d1 ?_
  ((first|apply Wc|apply Jw)<;>(first|exact KF|(with_reducible (exact Ji.bool _))|(have aQ:=@d1;refine XG ?_;clear aQ;first|exact rfl|exact True.intro|((try with_reducible and_intros);all_goals try first|refine zm ?_|exact CL))))
  refine Yc ?_;exact Qp
 have hb2:[port].all (dG 65535)=true:=by simp[dG];omega
 rw[hb2]at KF;have aS:¬ (side<0\/side>1\/¬ (0<=addr/\addr<=4294967295)\/¬ (0<=port/\port<=65535)):=by omega
 clear hb hb2;refine Qa ?_;refine Xc hP ?_;refine Yc ?_;refine Qd @d1 ?_;refine zI @d1 ?_;refine Yp @d1 ?_
 ((first|apply Wc|apply Jw)<;>(first|exact fH|(with_reducible (exact Ji.bool _))|(have aQ:=@d1;refine XG ?_;clear aQ;first|exact rfl|exact True.intro|((try with_reducible and_intros);all_goals try first|refine zm ?_|exact CL))))
 refine zI @d1 ?_;refine Yp @d1 ?_
 ((first|apply Wc|apply Jw)<;>(first|exact KF|(with_reducible (exact Ji.bool _))|(have aQ:=@d1;refine XG ?_;clear aQ;first|exact rfl|exact True.intro|((try with_reducible and_intros);all_goals try first|refine zm ?_|exact CL))))
 refine Yc ?_;refine Qa ?_;refine Qc ?_ ?_<;>intro fu
 ·rw[HB.out _ (Fp.out aS fu) aJ];exact Qp
 have h01:side=0\/side=1:=by omega
 obtain ⟨ck,hck⟩:∃ k,k=CA ae:=⟨_,rfl⟩
 obtain ⟨A,hA⟩:∃ k,k=vF side:=⟨_,rfl⟩
 obtain ⟨W,hW⟩:∃ k,k=vG ae side:=⟨_,rfl⟩
 obtain ⟨U,hU⟩:∃ u,u=(ae==17):=⟨_,rfl⟩
 obtain ⟨A2,nv⟩:∃ k,k=A+2:=⟨_,rfl⟩
 obtain ⟨c1,iD⟩:∃ k,k=ck+1:=⟨_,rfl⟩
 have hAb:side=0/\A=12/\A2=14\/side=1/\A=16/\A2=18:=h01.imp (fun h=>⟨h,by rw[hA,h];rfl,by rw[nv,hA,h];rfl⟩) fun h=>⟨h,by rw[hA,h];rfl,by rw[nv,hA,h];rfl⟩
 have hCb:ae=1/\ck=22/\c1=23/\U=false\/(ae=6/\ck=36/\c1=37/\U=false)/\40<=l.length\/ae=17/\ck=26/\c1=27/\U=true:=by
  rcases hp with h|h|h
  ·exact .inl ⟨h,by rw[hck,h];rfl,by rw[iD,hck,h];rfl,by rw[hU,h];rfl⟩
  ·exact .inr (.inl ⟨⟨h,by rw[hck,h];rfl,by rw[iD,hck,h];rfl,by rw[hU,h];rfl⟩,Fq.out af⟩)
  ·exact .inr (.inr ⟨h,by rw[hck,h];rfl,by rw[iD,hck,h];rfl,by rw[hU,h];rfl⟩)
 have Pu:W=if ae=1 then 24 else if side=0 then 20 else 22:=hW;have Pv:W<=24:=by rw[Pu];(repeat' split)<;>decide
 have e1:=Yjk addr xF.1;have e2:=Yjn addr xF;have e3:=Yj2 (aN-1) ae af af;obtain ⟨hi,CP⟩:∃ x,x=addr/65536:=⟨_,rfl⟩
 obtain ⟨lo,KH⟩:∃ x,x=addr%65536:=⟨_,rfl⟩
 rw[<- CP]at e1;rw[<- KH]at e2;have r8a:0<=hi/\hi<=65535:=by omega
 have r9a:0<=lo/\lo<=65535:=by omega
 obtain ⟨B1,KI⟩:∃ x,x=tl (jW l A 10 hi) ae (w2 l A) hi:=⟨_,rfl⟩
 obtain ⟨B2,Fs⟩:∃ x,x=tl (jW B1 A2 10 lo) ae (w2 B1 A2) lo:=⟨_,rfl⟩
 obtain ⟨B3,KJ⟩:∃ x,x=jW B2 8 10 ((aN-1)*256+ae):=⟨_,rfl⟩
 obtain ⟨B4,KK⟩:∃ x,x=jW B3 W ck port:=⟨_,rfl⟩
 obtain ⟨RR,KL⟩:∃ x,x=(if w2 B4 ck=0/\(ae=17\/dE (B4.drop 20)=0) then qq B4 ck 65535 else B4):=⟨_,rfl⟩
 have t3:Uj l ae aN (vF side) (vG ae side) addr port=RR:=by
  rw[KL,KK,KJ,Fs,KI,CP,KH,nv,hA,hW,hck];rfl
 have Ah:B1=if ae=1 then jW l A 10 hi else qs (jW l A 10 hi) ck (w2 l A) hi:=by rw[KI,tl,<- hck]
 have Ai:B2=if ae=1 then jW B1 A2 10 lo else qs (jW B1 A2 10 lo) ck (w2 B1 A2) lo:=by rw[Fs,tl,<- hck]
 have dH:∀ b m n,(tl b ae m n).length=b.length:=fun b m n=>by unfold tl;split<;>simp[KB]
 have mN:B1.length=l.length:=by rw[KI,dH,Uu]
 have Pw:B2.length=l.length:=by rw[Fs,dH,Uu,mN]
 have Px:B3.length=l.length:=by rw[KJ,Uu,Pw]
 have KM:B4.length=l.length:=by rw[KK,Uu,Px]
 have s1:=KC c.gl l U A 10 hi af af af;have s2:=KC c.gl B1 U A2 10 lo af af af;have s3:=KC c.gl B2 U 8 10 ((aN-1)*256+ae) af af af;have s4:=KC c.gl B3 U W ck port af af af;have t1:=Pm c.gl (jW l A 10 hi) U ck (w2 l A) hi (by rw[Uu];omega) (by rw[Uu];omega);have t2:=Pm c.gl (jW B1 A2 10 lo) U ck (w2 B1 A2) lo (by rw[Uu];omega) (by rw[Uu];omega);have n1:=lS c.gl l A;have n2:=lS c.gl B1 A2;have hz:=Yk4 B4 ck af;rw[<- iD]at hz;have CQ:qq B4 ck 65535=(B4.set ck 255).set c1 255:=by rw[iD];exact Ya7 _ _
 have hOf:=E3 c.gl (B4.drop 20) (by rw[length_drop];omega);rw[CQ]at KL;rw[<- KJ]at s3;rw[<- KK]at s4;rw[mN]at s2;rw[Pw]at s3;rw[Px]at s4;rw[Uu]at t1;rw[Uu,mN]at t2;have KN:=Lib.hid KL;have hbz:w2 B4 ck≠0->(b1 B4 ck==0&&b1 B4 c1==0)=false:=fun z=>by
  have hn:¬ (b1 B4 ck=0/\b1 B4 c1=0):=fun h=>z (hz.2 h);rw[Bool.and_eq_false_iff,beq_eq_false_iff_ne,beq_eq_false_iff_ne];omega
 have hzz:=Decidable.em (w2 B4 ck=0);have Py:addr%65536=lo:=KH.symm;have aY:∀ (l:List UInt8) k n,(jW l k 10 n).length=l.length:=fun l k n=>Uu l k 10 n;have hlm:28<=l.length:=by omega
 have Ft:ae=1/\¬ (side=0 ↔ flags=8)\/¬ (ae=1/\¬ (side=0 ↔ flags=8)):=Decidable.em _;have cE:=YX c.gl ae;clear CP KH KL KK KJ hck hW hA dH CQ Fq KI Fs Pv iD nv hU hp;rcases Ft with hk|hk
 ·rw[HB.out _ (ZN.out aS fu hk) aJ];obtain ⟨rfl,Pz⟩:=hk;have hx:((side==0)==(flags==8))=false:=by
   rw[beq_eq_false_iff_ne];intro h;refine Pz ?_;rw[<- beq_iff_eq,h,beq_iff_eq]
  refine Qd (An @hx (An @Bool.not_true @Bool.not_false)) ?_;refine Yc ?_;exact Qp
 rw[HG.out (ZO.out aS fu hk),t3];clear HB KG Fp ZN ZO HG t3;have hx:ae=1->((side==0)==(flags==8))=true:=fun h=>by
  have Pz:side=0 ↔ flags=8:=Decidable.not_not.1 fun q=>hk ⟨h,q⟩;rw[beq_iff_eq,Bool.eq_iff_iff,beq_iff_eq,beq_iff_eq];exact Pz
 obtain ⟨df,Aj⟩:∃ e:Nat->St,e=fun k=>⟨[(1,.int .i64 side),(3,.int .i64 port),(10,.ptr 0 0),(12,.ptr 2 0),(14,.int .i64 ck),(15,.int .i64 A),(86,.agg [.int .i64 hi,.int .i64 lo]),(87,.int .i64 (kI k))],[(0,.cells [.int .i64 ae,.int .i64 aF,.int .i64 aj,.int .i64 dst,.int .i64 aw,.int .i64 aN,.int .i64 id,.int .i64 flags,.int .i64 seq,.int .i64 bC,.int .i64 win,.str body]),(1,.cells (Xi (KD k l B1 B2))),(2,.cells [.sl 1 1 0 l.length l.length,.bool U])],3⟩:=⟨_,rfl⟩
 clear hk;rcases hCb with ⟨h9,v1,v2,v3⟩|⟨⟨h9,v1,v2,v3⟩,h40⟩|⟨h9,v1,v2,v3⟩
 all_goals
  subst h9 v1 v2 v3;try replace hx:=hx rfl
  refine Qd (An @hx (An @Bool.not_true @Bool.not_false)) ?_;clear hx;rcases hAb with ⟨h0,v4,v5⟩|⟨h0,v4,v5⟩
  all_goals
   subst h0 v4 v5;simp at Pu;subst Pu;first|rw[show pz 1=.aR [.int .i64 8,.int .i64 2] from rfl]at cE|rw[show pz 6=.aR [.int .i64 20,.int .i64 16] from rfl]at cE|rw[show pz 17=.aR [.int .i64 8,.int .i64 6] from rfl]at cE
   first|(rw[am rfl]at Ah Ai)|(rw[aa (by decide)]at Ah Ai)
   refine Yc ?_;refine Qa ?_;refine Ke ?_;refine Yjx cE (An @e1 @Py) ?_;refine Qv (fun k:Nat=>k<=2) df (fun k=>2-k) YR.mixed hN ⟨0,by omega,[(1,3),(2,4)],?_⟩ fun k hk=>?_<;>subst Aj
   ·exact Qi (An @Pr @Po)
   obtain rfl|rfl|rfl:k=0\/k=1\/k=2:=by omega
   ·refine tV (An @Pr @Po) ?_;refine Yc ?_;refine tV (An @Pr @Po) ?_;refine Oe n1 ?_;refine zH (ip [2,1]) s1 @mN ?_ ?_
    ·rfl
    refine Yc ?_;refine Ey ?_;try refine zH (ip [2,1]) t1 @aY ?_ ?_
    all_goals try rfl
    refine ⟨1,by omega,⟨[],?_⟩,by omega⟩;exact IX (An @Ps (An @Pp @Ah))
   ·refine tV (An @Ps @Pp) ?_;refine Yc ?_;refine tV (An @Ps @Pp) ?_;refine Oe n2 ?_;refine zH (ip [2,1]) s2 @mN ?_ ?_
    ·rfl
    refine Yc ?_;refine Ey ?_;try refine zH (ip [2,1]) t2 (An @aY @mN) ?_ ?_
    all_goals try rfl
    refine ⟨2,by omega,⟨[],?_⟩,by omega⟩;exact IX (An @Pt (An @Pq @Ai))
   refine tV (An @Pt @Pq) ?_;refine Yc ?_;refine tV (An @Pt (An @Pq (An @ZK @e3))) ?_;refine zH (ip [2,1]) s3 (An @ZK (An @e3 @Px)) ?_ ?_
   ·rfl
   refine Yc ?_;refine Ey ?_;rcases hzz with z|z
   ·have bz:=And.intro (beq_iff_eq.2 (hz.1 z).1) (beq_iff_eq.2 (hz.1 z).2);refine zH (ip [2,1]) s4 (An @KM (An @Qg @bz)) ?_ ?_
    ·rfl
    first
     | have gE:=KN.out.trans (am ⟨z,.inl rfl⟩)
       rw[gE];clear gE;refine jz (An @Qg @bz) ?_;refine Yc ?_;exact IX (An @ZL @KM)
     | refine Qj hOf (An @Qg @bz) ?_
       by_cases zz:dE (B4.drop 20)=0
       ·have bo:(dE (B4.drop 20) == 0)=true:=beq_iff_eq.2 zz;have gE:=KN.out.trans (am ⟨z,.inr zz⟩);rw[gE];clear gE;refine Qc ?_ ?_<;>intro q3
        ·exact IX (An @ZL @KM)
        ·omega
       ·have gE:RR=B4:=KN.out.trans (aa fun h=>h.2.elim af zz);rw[gE];clear gE;refine Qc ?_ ?_<;>intro q3
        ·omega
        ·exact Qp
   ·have bz:=hbz z;have gE:RR=B4:=KN.out.trans (aa fun h=>z h.1);rw[gE];clear gE;refine zH (ip [2,1]) s4 (An @KM (An @Qg @bz)) ?_ ?_
    ·rfl
    refine jz (An @Qg @bz) ?_;refine Yc ?_;exact Qi (An @Qg @bz)
end Go.Proofs.YtogckmommodmhaaGreatDoor
