import Derived.Test.YtogckmommodmhaaGreatDoorZy8
namespace Go.Proofs.YtogckmommodmhaaGreatDoor
open List (length_take length_drop length_append)
open Go.RowKit
set_option linter.all false
set_option maxHeartbeats 16000000
set_option maxRecDepth 100000
variable {f:List UInt8}(a b c:List UInt8)(gl:Nat->AV)(l:List UInt8)(k:Nat)(id:Int)(last:Bool)
def E0 (h:k+2<=l.length):w2 l k=256*b1 l k+b1 l (k+1):=by
 have e:(l.drop k).take 2=[l.getD k 0,l.getD (k+1) 0]:=by
  have a0:l.getD k 0=l[k]:=by simp[List.getD,show k<l.length by omega]
  have a1:l.getD (k+1) 0=l[k+1]:=by simp[List.getD,show k+1<l.length by omega]
  have a2:l.drop k=l[k]::l[k+1]::l.drop (k+2):=by rw[List.drop_eq_getElem_cons (show k<l.length by omega),List.drop_eq_getElem_cons (show k+1<l.length by omega)]
  rw[a0,a1,a2];rfl
 unfold w2 b1;rw[e,uH _ aw];simp only[oQ];omega
set_option maxRecDepth 20000 in
def JW (hl:l.length<=140737488351232):PS Tryz.prog gl 107 [.str l] (pn l):=by
 refine Xtf.ps (ap rfl) (Y1 l) fun c hN hg=>?_
 conv in aG _ _=>cbv
 have c0:=Wa l 0;have c1:=Wa l 1;have c6:=Wa l 6;have c7:=Wa l 7;have c8:=Wa l 8;have c9:=Wa l 9;by_cases h1:l.length<20
 ·have d1:decide ((l.length:Int) < 20)=true:=by simp;omega
  refine Qd @d1 ?_;refine jw @d1 ?_;refine Yc ?_;rw[Qy (xr (.inl h1)) aJ];exact Qi (An @cX.eq_1 (An @Pk.enc.eq_1 @Qg))
 have d1:decide ((l.length:Int)<20)=false:=by simp;omega
 have w6:w2 l 6=256*b1 l 6+b1 l 7:=E0 l 6 af;by_cases h2:b1 l 0=69;rotate_left
 ·have O8:(b1 l 0 != 69)=true:=by simp[h2]
  refine Qd (An @Qg (An @O8 @d1)) ?_;refine jw @d1 ?_;refine Yc ?_;rw[Qy (xr (.inr (.inl h2))) aJ];exact Qi (An @cX.eq_1 (An @Pk.enc.eq_1 @Qg))
 refine Qd (An @Qg (An @h2 @d1)) ?_
 (have zC:=(sv c.gl l 2);refine Qk zC (An @Qg @h2) ?_;clear zC)
 refine Qb ?_ ?_<;>intro h3
 ·rw[Qy (xr (.inr (.inr h3))) aJ];exact Qi (An @cX.eq_1 (An @Pk.enc.eq_1 @Qg))
 have k1:¬ G1 l:=by unfold G1;omega
 refine Qa ?_
 (have zC:=(I9 c.gl (l.take 20) (by rw[length_take];omega));refine Xd zC ?_;clear zC)
 refine Qb ?_ ?_<;>intro h4
 ·rw[Qy (JP k1 (by unfold G2;omega)) aJ];exact Qi (An @cX.eq_1 (An @Pk.enc.eq_1 @Qg))
 have k2:¬ G2 l:=by unfold G2;omega
 refine Qd @Qg ?_;refine Qb ?_ ?_<;>intro h6
 ·rw[Qy (EY k1 k2 (by unfold G3;omega)) aJ];exact Qi (An @cX.eq_1 (An @Pk.enc.eq_1 @Qg))
 have k3:¬ G3 l:=by unfold G3;omega
 refine Qd @Qg ?_;refine Qb ?_ ?_<;>intro h7
 ·rw[Qy (JQ k1 k2 k3 h7) aJ];exact Qi (An @cX.eq_1 (An @Pk.enc.eq_1 @Qg))
 have K:H4 l:=⟨k1,k2,k3,h7⟩
 clear k1 k2 k3;have e4:0<=w4 l 12/\w4 l 12<=4294967295:=Cz _ _ af;have e5:0<=w4 l 16/\w4 l 16<=4294967295:=Cz _ _ af;have hw3:w2 l 2<=65535:=(Cy l 2 af).2;refine Qd @Qg ?_
 (have zC:=(sv c.gl l 4);refine Qk zC @Qg ?_;clear zC)
 (have zC:=(JU c.gl l 12);refine Qk zC @Qg ?_;clear zC)
 (have zC:=(JU c.gl l 16);refine Qk zC @Qg ?_;clear zC)
 by_cases h8:b1 l 9=1\/b1 l 9=6\/b1 l 9=17;rotate_left
 ·refine Qb ?_ ?_<;>intro g1
  ·omega
  refine Qa ?_;refine Qb ?_ ?_<;>intro g2
  ·omega
  refine Qa ?_;refine Qb ?_ ?_<;>intro g3
  ·omega
  rw[Qy (JR K h8) aJ];exact Qi (An @cX.eq_1 (An @Pk.enc.eq_1 @Qg))
 have k5:¬ G5 l:=fun h=>h h8;generalize hs:l.drop 20=s;have iW:s.length=l.length-20:=by rw[<- hs,length_drop]
 have f0:=Wa s 0;have f1:=Wa s 1;have f6:=Wa s 6;have f7:=Wa s 7;have f12:=Wa s 12;have f13:=Wa s 13;have f18:=Wa s 18;have f19:=Wa s 19;rcases h8 with h9|h9|h9
 ·have su:=Cu c.gl (w4 l 12) (w4 l 16) 1 s.length af af af af;have kC:(Xl 1 (w4 l 12) (w4 l 16) s.length).length≤12:=by unfold Xl;split<;>simp[Qj]
  have hO:=I9 c.gl (Xl 1 (w4 l 12) (w4 l 16) s.length++s) (by rw[length_append];omega);have kV:G7 l ↔ dD (Xl 1 (w4 l 12) (w4 l 16) s.length++s)≠65535:=by unfold G7;rw[hs,h9];simp
  generalize dD (Xl 1 (w4 l 12) (w4 l 16) s.length++s)=O at *
  generalize Xl 1 (w4 l 12) (w4 l 16) s.length=pre at *
  rw[h9];refine Yc ?_;refine Qd @hs ?_;refine Yc ?_;refine Qd @hs ?_;refine Yc ?_;refine Qd @hs ?_;refine Qb ?_ ?_<;>intro fI
  ·rw[Qy (xt K k5 (by unfold G6;rw[hs,h9];simp;omega)) aJ];exact Qi (An @cX.eq_1 (An @Pk.enc.eq_1 @Qg))
  have K6:H6 l:=⟨K,k5,by unfold G6;rw[hs,h9];simp;omega⟩
  clear K k5;refine Qa ?_;refine Qk su @hs ?_;refine Qk hO @Qg ?_;refine Qb ?_ ?_<;>intro iD
  ·rw[Qy (vB K6 (kV.2 af)) aJ];exact Qi (An @cX.eq_1 (An @Pk.enc.eq_1 @Qg))
  have k7:¬ G7 l:=fun h=>by have:=kV.1 h;omega
  have k9:¬ G9 l:=fun h=>by have:=h.1;omega
  have jC:¬ nu l:=fun h=>by have:=h.1;omega
  have Y4:G8 l ↔ (b1 s 0≠8/\b1 s 0≠0)\/b1 s 1≠0:=by unfold G8;rw[hs,h9];simp
  refine Qd @Qg ?_;refine Yc ?_;refine Qd @Qg ?_;refine Qb ?_ ?_<;>intro fk
  ·rw[Qy (Cv K6 k7 (Y4.2 af)) aJ];exact Qi (An @cX.eq_1 (An @Pk.enc.eq_1 @Qg))
  have k8:¬ G8 l:=fun h=>by have:=Y4.1 h;omega
  refine Qd @Qg ?_
  (have zC:=(sv c.gl s 6);refine Qk zC @Qg ?_;clear zC)
  refine Qb ?_ ?_<;>intro f8
  ·rw[f8];refine Qd (An @Qg @f8) ?_
   (have zC:=(sv c.gl s 4);refine Qk zC @Qg ?_;clear zC)
   have hP:aB l=(⟨1,w4 l 12,w2 s 4,w4 l 16,0,b1 l 8,w2 l 4,8,w2 s 6,0,0,s.drop 8⟩:Pk):=by unfold aB kT;simp only[hs,h9,reduceCtorEq,Int.reduceEq,if_true,if_false,↓reduceIte,f8]
   have hG:=zV c.gl (⟨1,w4 l 12,w2 s 4,w4 l 16,0,b1 l 8,w2 l 4,8,w2 s 6,0,0,s.drop 8⟩:Pk) ⟨by dsimp only;omega,by dsimp only;omega⟩;have hE:=vC K6 k7 k8 k9 jC;rw[hP]at hE;unfold Pk.enc at hG;dsimp only at hG;rw[xu _ hE hP];generalize Zh (⟨1,w4 l 12,w2 s 4,w4 l 16,0,b1 l 8,w2 l 4,8,w2 s 6,0,0,s.drop 8⟩:Pk)=E at *
   clear hP hE;unfold Pk.enc cX;refine Qd @Qg ?_;refine Qk hG @Qg ?_;refine Qb ?_ ?_<;>intro g9
   ·rw[aa g9];exact Qi @Qg
   ·rw[am g9];subst g9;exact Qi @Qg
  ·refine Qd @Qg ?_
   (have zC:=(sv c.gl s 4);refine Qk zC @Qg ?_;clear zC)
   have hP:aB l=(⟨1,w4 l 12,0,w4 l 16,w2 s 4,b1 l 8,w2 l 4,b1 s 0,w2 s 6,0,0,s.drop 8⟩:Pk):=by unfold aB kT;simp only[hs,h9,reduceCtorEq,Int.reduceEq,if_true,if_false,↓reduceIte,f8]
   have hG:=zV c.gl (⟨1,w4 l 12,0,w4 l 16,w2 s 4,b1 l 8,w2 l 4,b1 s 0,w2 s 6,0,0,s.drop 8⟩:Pk) ⟨by dsimp only;omega,by dsimp only;omega⟩;have hE:=vC K6 k7 k8 k9 jC;rw[hP]at hE;unfold Pk.enc at hG;dsimp only at hG;rw[xu _ hE hP];generalize Zh (⟨1,w4 l 12,0,w4 l 16,w2 s 4,b1 l 8,w2 l 4,b1 s 0,w2 s 6,0,0,s.drop 8⟩:Pk)=E at *
   clear hP hE;unfold Pk.enc cX;refine Qd @Qg ?_;refine Qk hG @Qg ?_;refine Qb ?_ ?_<;>intro g9
   ·rw[aa g9];exact Qi @Qg
   ·rw[am g9];subst g9;exact Qi @Qg
 ·have su:=Cu c.gl (w4 l 12) (w4 l 16) 6 s.length af af af af;have kC:(Xl 6 (w4 l 12) (w4 l 16) s.length).length≤12:=by unfold Xl;split<;>simp[Qj]
  have hO:=I9 c.gl (Xl 6 (w4 l 12) (w4 l 16) s.length++s) (by rw[length_append];omega);have kV:G7 l ↔ dD (Xl 6 (w4 l 12) (w4 l 16) s.length++s)≠65535:=by unfold G7;rw[hs,h9];simp
  generalize dD (Xl 6 (w4 l 12) (w4 l 16) s.length++s)=O at *
  generalize Xl 6 (w4 l 12) (w4 l 16) s.length=pre at *
  rw[h9];refine Yc ?_;refine Qd @hs ?_;refine Qb ?_ ?_<;>intro fI
  ·rw[Qy (xt K k5 (by unfold G6;rw[hs,h9];simp;omega)) aJ];exact Qi (An @cX.eq_1 (An @Pk.enc.eq_1 @Qg))
  have K6:H6 l:=⟨K,k5,by unfold G6;rw[hs,h9];simp;omega⟩
  clear K k5;refine Qa ?_;refine Qk su @hs ?_;refine Qk hO @Qg ?_;refine Qb ?_ ?_<;>intro iD
  ·rw[Qy (vB K6 (kV.2 af)) aJ];exact Qi (An @cX.eq_1 (An @Pk.enc.eq_1 @Qg))
  have k7:¬ G7 l:=fun h=>by have:=kV.1 h;omega
  have k8:¬ G8 l:=fun h=>by have:=h.1;omega
  have k9:¬ G9 l:=fun h=>by have:=h.1;omega
  have w18:w2 s 18=256*b1 s 18+b1 s 19:=E0 s 18 af;have od:nu l ↔ b1 s 12≠80\/63<b1 s 13\/w2 s 18≠0:=by unfold nu;rw[hs,h9];simp
  refine Qd @Qg ?_;refine Yc ?_;refine Qd @Qg ?_;refine Yc ?_;refine Qd @Qg ?_;refine Qb ?_ ?_<;>intro og
  ·rw[Qy (Cw K6 k7 k8 k9 (od.2 af)) aJ];exact Qi (An @cX.eq_1 (An @Pk.enc.eq_1 @Qg))
  have jC:¬ nu l:=fun h=>by have:=od.1 h;omega
  refine Qd @Qg ?_
  (have zC:=(sv c.gl s 0);refine Qk zC (An @Qg @List.drop_zero.{0}) ?_;clear zC)
  (have zC:=(sv c.gl s 2);refine Qk zC @Qg ?_;clear zC)
  (have zC:=(JU c.gl s 4);refine Qk zC @Qg ?_;clear zC)
  (have zC:=(JU c.gl s 8);refine Qk zC @Qg ?_;clear zC)
  (have zC:=(sv c.gl s 14);refine Qk zC @Qg ?_;clear zC)
  have hP:aB l=(⟨6,w4 l 12,w2 s 0,w4 l 16,w2 s 2,b1 l 8,w2 l 4,b1 s 13,w4 s 4,w4 s 8,w2 s 14,s.drop 20⟩:Pk):=by unfold aB kT;simp only[hs,h9,reduceCtorEq,Int.reduceEq,if_true,if_false,↓reduceIte]
  have hG:=zV c.gl (⟨6,w4 l 12,w2 s 0,w4 l 16,w2 s 2,b1 l 8,w2 l 4,b1 s 13,w4 s 4,w4 s 8,w2 s 14,s.drop 20⟩:Pk) ⟨by dsimp only;omega,by dsimp only;omega⟩;have hE:=vC K6 k7 k8 k9 jC;rw[hP]at hE;unfold Pk.enc at hG;dsimp only at hG;rw[xu _ hE hP];generalize Zh (⟨6,w4 l 12,w2 s 0,w4 l 16,w2 s 2,b1 l 8,w2 l 4,b1 s 13,w4 s 4,w4 s 8,w2 s 14,s.drop 20⟩:Pk)=E at *
  clear hP hE;unfold Pk.enc cX;refine Qd @Qg ?_;refine Qk hG @Qg ?_;refine Qb ?_ ?_<;>intro g9
  ·rw[aa g9];exact Qi @Qg
  ·rw[am g9];subst g9;exact Qi @Qg
 ·have su:=Cu c.gl (w4 l 12) (w4 l 16) 17 s.length af af af af;have kC:(Xl 17 (w4 l 12) (w4 l 16) s.length).length≤12:=by unfold Xl;split<;>simp[Qj]
  have hO:=I9 c.gl (Xl 17 (w4 l 12) (w4 l 16) s.length++s) (by rw[length_append];omega);have kV:G7 l ↔ dD (Xl 17 (w4 l 12) (w4 l 16) s.length++s)≠65535\/w2 s 6=0:=by unfold G7;rw[hs,h9];simp
  generalize dD (Xl 17 (w4 l 12) (w4 l 16) s.length++s)=O at *
  generalize Xl 17 (w4 l 12) (w4 l 16) s.length=pre at *
  rw[h9];refine Yc ?_;refine Qd @hs ?_;refine Yc ?_;refine Qd @hs ?_;refine Yc ?_;refine Qd @hs ?_;refine Qb ?_ ?_<;>intro fI
  ·rw[Qy (xt K k5 (by unfold G6;rw[hs,h9];simp;omega)) aJ];exact Qi (An @cX.eq_1 (An @Pk.enc.eq_1 @Qg))
  have K6:H6 l:=⟨K,k5,by unfold G6;rw[hs,h9];simp;omega⟩
  clear K k5;refine Qa ?_;refine Qk su @hs ?_;refine Qk hO @Qg ?_;refine Qb ?_ ?_<;>intro iD
  ·have w6s:w2 s 6=256*b1 s 6+b1 s 7:=E0 s 6 af;rw[Qy (vB K6 (kV.2 af)) aJ];exact Qi (An @cX.eq_1 (An @Pk.enc.eq_1 @Qg))
  have w6s:w2 s 6=256*b1 s 6+b1 s 7:=E0 s 6 af;have k7:¬ G7 l:=fun h=>by have:=kV.1 h;omega
  have k8:¬ G8 l:=fun h=>by have:=h.1;omega
  have jC:¬ nu l:=fun h=>by have:=h.1;omega
  have EZ:G9 l ↔ w2 s 4≠s.length:=by unfold G9;rw[hs,h9];simp
  refine Qd @Qg ?_;refine Yc ?_;refine Qd @Qg ?_;refine Yc ?_;refine Qd @Qg ?_
  (have zC:=(sv c.gl s 4);refine Qk zC @Qg ?_;clear zC)
  refine Qb ?_ ?_<;>intro og
  ·rw[Qy (JS K6 k7 k8 (EZ.2 og)) aJ];exact Qi (An @cX.eq_1 (An @Pk.enc.eq_1 @Qg))
  have k9:¬ G9 l:=fun h=>EZ.1 h og;refine Qd @Qg ?_
  (have zC:=(sv c.gl s 0);refine Qk zC (An @Qg @List.drop_zero.{0}) ?_;clear zC)
  (have zC:=(sv c.gl s 2);refine Qk zC @Qg ?_;clear zC)
  have hP:aB l=(⟨17,w4 l 12,w2 s 0,w4 l 16,w2 s 2,b1 l 8,w2 l 4,0,0,0,0,s.drop 8⟩:Pk):=by unfold aB kT;simp only[hs,h9,reduceCtorEq,Int.reduceEq,if_true,if_false,↓reduceIte]
  have hG:=zV c.gl (⟨17,w4 l 12,w2 s 0,w4 l 16,w2 s 2,b1 l 8,w2 l 4,0,0,0,0,s.drop 8⟩:Pk) ⟨by dsimp only;omega,by dsimp only;omega⟩;have hE:=vC K6 k7 k8 k9 jC;rw[hP]at hE;unfold Pk.enc at hG;dsimp only at hG;rw[xu _ hE hP];generalize Zh (⟨17,w4 l 12,w2 s 0,w4 l 16,w2 s 2,b1 l 8,w2 l 4,0,0,0,0,s.drop 8⟩:Pk)=E at *
  clear hP hE;unfold Pk.enc cX;refine Qd @Qg ?_;refine Qk hG @Qg ?_;refine Qb ?_ ?_<;>intro g9
  ·rw[aa g9];exact Qi @Qg
  ·rw[am g9];subst g9;exact Qi @Qg
def Xrp {p:Pk}(h:Zh p=0):PS Tryz.prog gl 162 [.agg p.enc] (.aR [.str (Zs p),.int .i64 0]):=by
 have hp:=(We h).1;rcases p with ⟨ae,aE,aj,dst,av,aN,id,flags,seq,bB,win,body⟩
 dsimp only at hp;rcases hp with rfl|rfl|rfl
 ·exact Xcb gl aE aj dst av aN id flags seq bB win body h
 ·exact Xk5 gl aE aj dst av aN id flags seq bB win body h
 ·exact Xha gl aE aj dst av aN id flags seq bB win body h
def E1 (h:cD f=0):28<=f.length/\f.length<=65535:=by
 have h1:¬ G1 f:=fun h1=>by rw[xr h1]at h;cases h
 have h2:¬ G2 f:=fun h2=>by rw[JP h1 h2]at h;cases h
 have h3:¬ G3 f:=fun h3=>by rw[EY h1 h2 h3]at h;cases h
 have h4:¬ G4 f:=fun h4=>by rw[JQ h1 h2 h3 h4]at h;cases h
 have k:H4 f:=⟨h1,h2,h3,h4⟩
 have h5:¬ G5 f:=fun h5=>by rw[JR k h5]at h;cases h
 have h6:¬ G6 f:=fun h6=>by rw[xt k h5 h6]at h;cases h
 unfold G1 at h1;unfold G6 at h6;rw[length_drop]at h6;have:=Cy f 2 af;split at h6<;>omega
def Y5 (f:List UInt8):(aB f).aE=w4 f 12:=by
 unfold aB;dsimp only;split
 ·rfl
 ·split<;>rfl
def Kw (l:List UInt8)(id:Int):AV:=if cD l≠0 then .aR [.str [],.int .i64 (cD l)] else if ¬ (0<=id/\id<=65535) then .aR [.str [],.int .i64 2] else .aR [.str (xn l (w4 l 12) id),.int .i64 0]
def Y6:Qe 0 (Kw l id):=by
 unfold Kw;split
 ·simp[Qe,ah]
 ·split<;>simp[Qe,ah]
def Xs4 (hl:l.length<=140737488351232):PS Tryz.prog gl 124 [.str l,.int .i64 id] (Kw l id):=by
 refine Xhv.ps (ap rfl) (Y6 l id) fun c hN hg=>?_
 conv in aG _ _=>cbv
 have hP:=JV c.gl l hl;by_cases he:cD l=0;rotate_left
 ·rw[Qy rfl he]at hP;have hr:Kw l id=.aR [.str [],.int .i64 (cD l)]:=am he;rw[hr];clear hr;generalize cD l=E at *
  unfold cX Pk.enc at hP;dsimp only at hP;refine Qa ?_;refine Xd hP ?_;refine Qb ?_ ?_<;>intro g1
  ·exact Qp
  ·exact (he g1).elim
 obtain ⟨Y7,Y8⟩:=E1 he;rw[O7 he]at hP;have hf:=Y5 l;have hw:=O3 c.gl [id] aw;have h4:=Cz l 12 af;unfold Pk.enc at hP;rw[hf]at hP;generalize aB l=q at *
 clear hf;by_cases hid:0<=id/\id<=65535;rotate_left
 ·have hr:Kw l id=.aR [.str [],.int .i64 2]:=by unfold Kw;rw[aa af,am hid]
  have hb:[id].all (dF 65535)=false:=by simp[dF];omega
  rw[hr];rw[hb]at hw;refine Qa ?_;refine Xd hP ?_;refine Yc ?_;refine Qa ?_;refine Jx ?_
  ((first|apply Wi|apply Kd)<;>(first|exact hw|(with_reducible (exact Jn.bool _))|(refine XG ?_;first|exact rfl|exact True.intro|((try with_reducible and_intros);all_goals try first|refine zm ?_|exact CL))))
  refine Yc ?_;exact Qp
 have hr:Kw l id=.aR [.str (xn l (w4 l 12) id),.int .i64 0]:=by unfold Kw;rw[aa af,aa af]
 have hb:[id].all (dF 65535)=true:=by simp[dF];omega
 rw[hr];rw[hb]at hw;clear hr hb;obtain ⟨p8,E3⟩:∃ p8:List UInt8,p8=[3,13,0,0,0,0,0,0]:=⟨_,rfl⟩
 have hl8:p8.length=8:=by rw[E3];rfl
 have lit:[.int .u8 3,.int .u8 13,.int .u8 0,.int .u8 0,.int .u8 0,.int .u8 0,.int .u8 0,.int .u8 0]=Xj p8:=by rw[E3];rfl
 have bA:∀ v,((p8++l.take 28).set 2 (Qx v 1)).set 3 (Qx v 0)=[3,13]++be v 2++([0,0,0,0]++l.take 28):=fun v=>by rw[E3];rfl
 have hck:Yh ([3,13]++[0,0]++([0,0,0,0]++l.take 28))=Yh (p8++l.take 28):=by rw[E3];rfl
 have bY:xn l (w4 l 12) id=Wd 1 167772414 (w4 l 12) 64 id 36++((p8++l.take 28).set 2 (Qx (Yh (p8++l.take 28)) 1)).set 3 (Qx (Yh (p8++l.take 28)) 0):=by
  unfold xn ON;rw[bA,hck]
 rw[bY];clear bY hck bA E3;have BN:(p8++l.take 28).length=36:=by rw[length_append,length_take];omega
 have vA:=XS c.gl (p8++l.take 28) af;have JO:=yw (p8++l.take 28);generalize Yh (p8++l.take 28)=K at *
 have t8:p8.take 8=p8:=List.take_of_length_le af;refine Qa ?_;refine Xd hP ?_;refine Yc ?_;refine Qa ?_;refine Jx ?_
 ((first|apply Wi|apply Kd)<;>(first|exact hw|(with_reducible (exact Jn.bool _))|(refine XG ?_;first|exact rfl|exact True.intro|((try with_reducible and_intros);all_goals try first|refine zm ?_|exact CL))))
 refine Yc ?_;refine Qa ?_;refine Jx ?_;simp only[lit];refine Ym (An @hl8 @t8) ?_;generalize hR:p8++l.take 28=R at *
 have tR:R.take 36=R:=List.take_of_length_le af;refine Qk vA (An @BN @tR) ?_;have bA:((R.set 2 (Qx K 1)).set 3 (Qx K 0)).length=36:=by simp[BN]
 refine Qd (An @BN @JM) ?_;generalize hS:(R.set 2 (Qx K 1)).set 3 (Qx K 0)=S at *
 have zW:((8+min 28 l.length:Nat):Int)=36:=by omega
 (have zC:=(Xzx c.gl 1 167772414 (w4 l 12) 64 id 36 af);refine Zv (ip []) zC (An @BN @zW) ?_;clear zC)
 refine Ym (An @bA @Co) ?_;rw[List.take_of_length_le (by simp[Co,bA])]
def Xgo (hl:l.length<=140737488351232):PS Tryz.prog gl 106 [.str l,.int .i64 id] (Kw l id):=by
 refine Xhm.ps (ap rfl) (Y6 l id) fun c hN hg=>?_
 conv in aG _ _=>cbv
 have hP:=JW c.gl l hl;by_cases he:cD l=0;rotate_left
 ·rw[Qy rfl he]at hP;have hr:Kw l id=.aR [.str [],.int .i64 (cD l)]:=am he;rw[hr];clear hr;generalize cD l=E at *
  unfold cX Pk.enc at hP;dsimp only at hP;refine Qa ?_;refine Xd hP ?_;refine Qb ?_ ?_<;>intro g1
  ·exact Qp
  ·exact (he g1).elim
 obtain ⟨Y7,Y8⟩:=E1 he;rw[O7 he]at hP;have hf:=Y5 l;have h4:=Cz l 12 af;unfold Pk.enc at hP;rw[hf]at hP;generalize aB l=q at *
 clear hf;by_cases hid:0<=id/\id<=65535;rotate_left
 ·have hr:Kw l id=.aR [.str [],.int .i64 2]:=by unfold Kw;rw[aa af,am hid]
  rw[hr];refine Qa ?_;refine Xd hP ?_;refine Yc ?_;refine Qa ?_;refine Qb ?_ ?_<;>intro g2
  ·exact Qp
  ·omega
 have hr:Kw l id=.aR [.str (xn l (w4 l 12) id),.int .i64 0]:=by unfold Kw;rw[aa af,aa af]
 rw[hr];clear hr;obtain ⟨z4,JX⟩:∃ z4:List UInt8,[0,0,0,0]=z4:=⟨_,rfl⟩
 obtain ⟨p4,E4⟩:∃ p4:List UInt8,[3,13,0,0]=p4:=⟨_,rfl⟩
 obtain ⟨p2,fe⟩:∃ p2:List UInt8,[3,13]=p2:=⟨_,rfl⟩
 have l4:z4.length=4:=by rw[<- JX];rfl
 have m4:p4.length=4:=by rw[<- E4];rfl
 have m2:p2.length=2:=by rw[<- fe];rfl
 have hck:Yh ([3,13]++[0,0]++([0,0,0,0]++l.take 28))=Yh (p4++(z4++l.take 28)):=by rw[<- E4,<- JX];rfl
 have bY:xn l (w4 l 12) id=Wd 1 167772414 (w4 l 12) 64 id 36++(p2++be (Yh (p4++(z4++l.take 28))) 2++(z4++l.take 28)):=by
  unfold xn ON;rw[hck,fe,JX]
 rw[bY];clear bY hck;have hbl:(z4++l.take 28).length=32:=by rw[length_append,length_take];omega
 have vA:=EP c.gl (p4++(z4++l.take 28)) (by rw[length_append];omega);have JO:=yw (p4++(z4++l.take 28));generalize Yh (p4++(z4++l.take 28))=K at *
 have xq:=JN c.gl 1 167772414 (w4 l 12) 64 id 36 af af af af af af;have fP:(Wd 1 167772414 (w4 l 12) 64 id 36).length=20:=Co _ _ _ _ _ _;generalize Wd 1 167772414 (w4 l 12) 64 id 36=H at *
 have hBK:=Xi c.gl K 2 af af aJ;generalize hB:z4++l.take 28=B at *
 refine Qa ?_;refine Xd hP ?_;refine Yc ?_;refine Qa ?_;refine Qb ?_ ?_<;>intro g2
 ·omega
 refine Qd (An @JX (An @hB @l4)) ?_;refine Qk xq (An @fe (An @E4 (An @fP (An @m2 (An @m4 @hbl))))) ?_;refine Qk vA (An @fe (An @E4 (An @fP (An @m2 (An @m4 @hbl))))) ?_;refine Qk hBK (An @fe (An @E4 (An @fP (An @m2 (An @m4 (An @hbl @Qj)))))) ?_;simp only[List.append_assoc]
def Ygk (c m n:Int):PS Tryz.prog gl 166 [.int .i64 c,.int .i64 m,.int .i64 n] (.int .i64 (Qs c m n)):=Xoy gl c m n
def O9 (n:Int):(qk l k n).length=l.length:=by simp[qk]
def JY (m n:Int):(ql l k m n).length=l.length:=by simp[ql,O9]
def Uq (k c:Nat)(n:Int):(jQ l k c n).length=l.length:=by simp[jQ,O9,JY]
theorem Pa (s:FS):iy s []=.aR []:=rfl
def CB:((k:Int)+1).toNat=k+1:=by omega
def CC:((k:Int)+2).toNat=k+2:=by omega
def Y9:k+2-k=2:=by omega
def Pb (ck:Nat)(m n:Int)(hc:ck+2<=l.length)(hl:l.length<=65535) :
  GS Tryz.prog gl 134 [.ptr 0 0,.int .i64 ck,.int .i64 m,.int .i64 n] [(0,.cells [.sl 1 1 0 l.length l.length,.bool last]),(1,.cells (Xj l))] 2 (.aR [])
   [(0,.cells [.sl 1 1 0 l.length l.length,.bool last]),(1,.cells (Xj (ql l ck m n)))] 2:=by
 refine Xvg.gs (ap rfl) (by simp[Bk.live]) fun c bf hg=>?_
 conv in aG _ _=>cbv
 have hb:=ET (w2 l ck) m n;have bY:ql l ck m n=(l.set ck (Qx (Qs (w2 l ck) m n) 1)).set (ck+1) (Qx (Qs (w2 l ck) m n) 0):=rfl;have hn:=lI c.gl l ck;have hu:=Ygk c.gl (w2 l ck) m n;rw[bY];generalize Qs (w2 l ck) m n=x at *
 generalize w2 l ck=y at *
 clear bY;refine Qd (An @CB (An @CC @Y9)) ?_;refine Qk hn (An @CB @CC) ?_;refine Qk hu (An @CB @CC) ?_;refine ⟨[],?_⟩;exact Qi (An @Pa @JM)
theorem Yad (k c:Nat)(n:Int):jQ l k c n=((ql l c (w2 l k) n).set k (Qx n 1)).set (k+1) (Qx n 0):=rfl
def JZ (k ck:Nat)(n:Int)(hk:k+2<=l.length)(hc:ck+2<=l.length)(hl:l.length<=65535) :
  GS Tryz.prog gl 133 [.ptr 0 0,.int .i64 k,.int .i64 ck,.int .i64 n] [(0,.cells [.sl 1 1 0 l.length l.length,.bool last]),(1,.cells (Xj l))] 2 (.aR [])
   [(0,.cells [.sl 1 1 0 l.length l.length,.bool last]),(1,.cells (Xj (jQ l k ck n)))] 2:=by
 refine Yab.gs (ap rfl) (by simp[Bk.live]) fun c bf hg=>?_
 conv in aG _ _=>cbv
 have hn:=lI c.gl l k;have ht:=Pb c.gl l last ck (w2 l k) n hc hl;rw[Yad];have dN:=JY l ck (w2 l k) n;generalize ql l ck (w2 l k) n=T at *
 generalize w2 l k=y at *
 refine Qd (An @CB (An @CC @Y9)) ?_;refine Qk hn (An @CB @CC) ?_
 ((first|refine Kk (ins:=[0,1]) ht ?_ ?_|refine Jc (ins:=[0,1]) ht ?_ ?_|refine Jb (ins:=[0,1]) ht ?_ ?_|refine Zc (ins:=[0,1]) ht ?_ ?_)<;>(have aQ:=@CB;have bw:=@CC;have bQ:=@dN;have cy:=@Pa;refine XG ?_;clear aQ bw bQ cy;(try first|exact rfl|exact True.intro);((try with_reducible and_intros);all_goals try first|refine zm ?_|exact CL)))
 ·rfl
 refine ⟨[],?_⟩;exact Qi (An @Pa @JM)
def Pc (h:cD f=0):H6 f/\Zh (aB f)=0:=by
 have h1:¬ G1 f:=fun h1=>by rw[xr h1]at h;cases h
 have h2:¬ G2 f:=fun h2=>by rw[JP h1 h2]at h;cases h
 have h3:¬ G3 f:=fun h3=>by rw[EY h1 h2 h3]at h;cases h
 have h4:¬ G4 f:=fun h4=>by rw[JQ h1 h2 h3 h4]at h;cases h
 have k:H4 f:=⟨h1,h2,h3,h4⟩
 have h5:¬ G5 f:=fun h5=>by rw[JR k h5]at h;cases h
 have h6:¬ G6 f:=fun h6=>by rw[xt k h5 h6]at h;cases h
 have k6:H6 f:=⟨k,h5,h6⟩
 have h7:¬ G7 f:=fun h7=>by rw[vB k6 h7]at h;cases h
 have h8:¬ G8 f:=fun h8=>by rw[Cv k6 h7 h8]at h;cases h
 have h9:¬ G9 f:=fun h9=>by rw[JS k6 h7 h8 h9]at h;cases h
 have fI:¬ nu f:=fun fI=>by rw[Cw k6 h7 h8 h9 fI]at h;cases h
 exact ⟨k6,by rw[<- vC k6 h7 h8 h9 fI];exact h⟩
def CD (f:List UInt8):(aB f).ae=b1 f 9:=by
 unfold aB;dsimp only;split
 ·rfl
 ·split<;>rfl
def Ycb {f:List UInt8}(h:cD f=0)(h9:b1 f 9=6):40<=f.length:=by
 have:=(Pc h).1.g6;have h2:=E1 h;unfold G6 at this;rw[h9,length_drop]at this;simp only[if_true]at this;omega
def Yi7 (a:Int)(h:0<=a):a.fdiv (2 ^ min 16 64)=a/65536:=by
 rw[Int.fdiv_eq_ediv_of_nonneg _ aJ];rfl
def Yj3 (a:Int)(h:0<=a/\a<=4294967295):bits .and .i64 a 65535=a%65536:=by
 obtain ⟨x,rfl⟩:=Int.eq_ofNat_of_zero_le h.1;show IntKind.i64.wrap (((BitVec.ofInt 64 (x:Int)) &&& (BitVec.ofInt 64 65535)).toNat:Int)=_;rw[BitVec.toNat_and,BitVec.toNat_ofInt,BitVec.toNat_ofInt];have e1:((x:Int)%((2 ^ 64:Nat):Int)).toNat=x:=by omega
 have e2:((65535:Int)%((2 ^ 64:Nat):Int)).toNat=2 ^ 16-1:=by decide
 rw[e1,e2,Nat.and_two_pow_sub_one_eq_mod,IntKind.wrap_i64];omega
def Yhs (t p:Int)(ht:0<=t/\t<=255)(hp:0<=p/\p<=255):bits .or .i64 (t*256) p=t*256+p:=by
 have h:=Tx t p hp.1 af;rw[IntKind.wrap_i64,IntKind.wrap_i64]at h;have e1:(t*256+9223372036854775808)%18446744073709551616-9223372036854775808=t*256:=by omega
 have e2:(256*t+p+9223372036854775808)%18446744073709551616-9223372036854775808=t*256+p:=by omega
 rw[e1,e2]at h;exact h
def ZA:(2:Int) ^ min 8 64=256:=by decide
def ZB (i:Nat):(Xj l).set i (.int .u8 255)=Xj (l.set i 255):=by
 have e:(.int .u8 255:AV)=.int .u8 ((255:UInt8).toNat:Int):=rfl;rw[e,Xj,Xj,List.map_set]
def Ydq:qk l k 65535=(l.set k 255).set (k+1) 255:=by
 unfold qk;rw[show Qx 65535 1=255 by decide,show Qx 65535 0=255 by decide]
def Yja (h:k+2<=l.length):w2 l k=0 ↔ b1 l k=0/\b1 l (k+1)=0:=by
 have:=E0 l k h;have:=Wa l k;have:=Wa l (k+1);omega
def kI (k:Nat):Int:=k
theorem Pd:kI 0=0:=rfl
theorem Pe:kI 1=1:=rfl
theorem Pf:kI 2=2:=rfl
def J0 (k:Nat)(a b c:List UInt8):List UInt8:=match k with|0=>a|1=>b|_=>c
theorem Pg:J0 0 a b c=a:=rfl
theorem Ph:J0 1 a b c=b:=rfl
theorem Pj:J0 2 a b c=c:=rfl
def sw (l:List UInt8)(side addr port:Int):AV :=
 if cD l≠0 then .aR [.str [],.int .i64 (cD l)]
 else if Ky (aB l) side addr port≠0 then .aR [.str [],.int .i64 (Ky (aB l) side addr port)]
 else .aR [.str (Ub l (aB l).ae (aB l).aN (vt side) (vu (aB l).ae side) addr port),.int .i64 0]
def Xzy (side addr port:Int):Qe 0 (sw l side addr port):=by
 unfold sw;split
 ·simp[Qe,ah]
 ·split<;>simp[Qe,ah]
def Xx3 {l:List UInt8}{side addr port e:Int}(h:cD l=0)(ht:Ky (aB l) side addr port=e)(he:e≠0):sw l side addr port=.aR [.str [],.int .i64 e]:=by
 unfold sw;rw[aa af,ht,am he]
def te2 {p:Pk}{side addr port:Int}(h:side<0\/side>1\/¬ (0<=addr/\addr<=4294967295)\/¬ (0<=port/\port<=65535)):Ky p side addr port=2:=am h
def Yjb {p:Pk}{side addr port:Int}(h:¬ (side<0\/side>1\/¬ (0<=addr/\addr<=4294967295)\/¬ (0<=port/\port<=65535)))(h2:p.aN=1):Ky p side addr port=12:=(aa h).trans (am h2)
def te4 {p:Pk}{side addr port:Int}(h:¬ (side<0\/side>1\/¬ (0<=addr/\addr<=4294967295)\/¬ (0<=port/\port<=65535)))(h2:¬ p.aN=1)(h3:p.ae=1/\¬ (side=0 ↔ p.flags=8)):Ky p side addr port=4:=(aa h).trans ((aa h2).trans (am h3))
def te0 {p:Pk}{side addr port:Int}(h:¬ (side<0\/side>1\/¬ (0<=addr/\addr<=4294967295)\/¬ (0<=port/\port<=65535)))(h2:¬ p.aN=1)(h3:¬ (p.ae=1/\¬ (side=0 ↔ p.flags=8))):Ky p side addr port=0:=(aa h).trans ((aa h2).trans (aa h3))
set_option maxRecDepth 20000 in
def ZC (side addr port:Int)(hl:l.length<=140737488351232):PS Tryz.prog gl 94 [.str l,.int .i64 side,.int .i64 addr,.int .i64 port] (sw l side addr port):=by
 refine YH.ps (ap rfl) (Xzy l side addr port) fun c hN hg=>?_
 conv in aG _ _=>cbv
 have hP:=JV c.gl l hl;by_cases he:cD l=0;rotate_left
 ·rw[Qy rfl he]at hP;have hr:sw l side addr port=.aR [.str [],.int .i64 (cD l)]:=am he;rw[hr];clear hr;generalize cD l=E at *
  unfold cX Pk.enc at hP;dsimp only at hP;refine Qa ?_;refine Xd hP ?_;refine Qb ?_ ?_<;>intro g1
  ·exact Qp
  ·exact (he g1).elim
 obtain ⟨Y7,Y8⟩:=E1 he;have E5:=@Ycb l he;have sx:=CD l;obtain ⟨J1,lY⟩:=Pc he;obtain ⟨hp,hr,hbl,ke⟩:=We lY;rw[O7 he]at hP;have fA:=YM c.gl [addr] aw;have J2:=O3 c.gl [port] aw;have eE:=fun e=>@Xx3 l side addr port e he;have E6:=@te2 (aB l) side addr port;have xx:=@Yjb (aB l) side addr port;have E7:=@te4 (aB l) side addr port;have E8:=@te0 (aB l) side addr port;have xy:Ky (aB l) side addr port=0->sw l side addr port=.aR [.str (Ub l (aB l).ae (aB l).aN (vt side) (vu (aB l).ae side) addr port),.int .i64 0]:=fun h=>by
  unfold sw;rw[aa af,aa af]
 generalize sw l side addr port=TT at *
 generalize Ky (aB l) side addr port=TE at *
 obtain ⟨r1,r2,r3,r4,r5,r6,r7,r8,r9,iz⟩:=hr;clear ke hbl lY J1;generalize aB l=q at *
 obtain ⟨ae,aE,aj,dst,av,aN,id,flags,seq,bB,win,body⟩:=q;unfold Pk.enc at hP;dsimp only at *
 clear r1 r2 r3 r4 r5 r6 r7 r8;have HB:=Lib.hid eE;have J3:=Lib.hid E6;have E9:=Lib.hid xx;have ZD:=Lib.hid E7;have ZE:=Lib.hid E8;have HG:=Lib.hid xy;have Fa:=Lib.hid E5;clear eE E6 xx E7 E8 xy E5;by_cases ZF:side<0\/side>1
 ·rw[HB.out _ (J3.out af) aJ];have d1:(decide (side < 0) || decide (1 < side))=true:=by simp;omega
  refine Qa ?_;refine Xd hP ?_;refine Yc ?_;refine Qd @d1 ?_;refine jw @d1 ?_;refine jw @d1 ?_;refine jw @d1 ?_;refine jw @d1 ?_;refine Yc ?_;exact Qp
 have d1:(decide (side<0)||decide (1<side))=false:=by simp;omega
 by_cases xA:0<=addr/\addr<=4294967295;rotate_left
 ·rw[HB.out _ (J3.out af) aJ];have hb:[addr].all (dF 4294967295)=false:=by simp[dF];omega
  rw[hb]at fA;refine Qa ?_;refine Xd hP ?_;refine Yc ?_;refine Qd @d1 ?_;refine zt @d1 ?_;refine Ym @d1 ?_
  ((first|apply Wi|apply Kd)<;>(first|exact fA|(with_reducible (exact Jn.bool _))|(have aQ:=@d1;refine XG ?_;clear aQ;first|exact rfl|exact True.intro|((try with_reducible and_intros);all_goals try first|refine zm ?_|exact CL))))
  refine jw @d1 ?_;refine jw @d1 ?_;refine Yc ?_;exact Qp
 have hb:[addr].all (dF 4294967295)=true:=by simp[dF];omega
 rw[hb]at fA;by_cases pq:0<=port/\port<=65535;rotate_left
 ·rw[HB.out _ (J3.out af) aJ];have hb2:[port].all (dF 65535)=false:=by simp[dF];omega
  rw[hb2]at J2;refine Qa ?_;refine Xd hP ?_;refine Yc ?_;refine Qd @d1 ?_;refine zt @d1 ?_;refine Ym @d1 ?_
  ((first|apply Wi|apply Kd)<;>(first|exact fA|(with_reducible (exact Jn.bool _))|(have aQ:=@d1;refine XG ?_;clear aQ;first|exact rfl|exact True.intro|((try with_reducible and_intros);all_goals try first|refine zm ?_|exact CL))))
  refine zt @d1 ?_;refine Ym @d1 ?_
  ((first|apply Wi|apply Kd)<;>(first|exact J2|(with_reducible (exact Jn.bool _))|(have aQ:=@d1;refine XG ?_;clear aQ;first|exact rfl|exact True.intro|((try with_reducible and_intros);all_goals try first|refine zm ?_|exact CL))))
  refine Yc ?_;exact Qp
 have hb2:[port].all (dF 65535)=true:=by simp[dF];omega
 rw[hb2]at J2;have aS:¬ (side<0\/side>1\/¬ (0<=addr/\addr<=4294967295)\/¬ (0<=port/\port<=65535)):=by omega
 clear hb hb2;refine Qa ?_;refine Xd hP ?_;refine Yc ?_;refine Qd @d1 ?_;refine zt @d1 ?_;refine Ym @d1 ?_
 ((first|apply Wi|apply Kd)<;>(first|exact fA|(with_reducible (exact Jn.bool _))|(have aQ:=@d1;refine XG ?_;clear aQ;first|exact rfl|exact True.intro|((try with_reducible and_intros);all_goals try first|refine zm ?_|exact CL))))
 refine zt @d1 ?_;refine Ym @d1 ?_
 ((first|apply Wi|apply Kd)<;>(first|exact J2|(with_reducible (exact Jn.bool _))|(have aQ:=@d1;refine XG ?_;clear aQ;first|exact rfl|exact True.intro|((try with_reducible and_intros);all_goals try first|refine zm ?_|exact CL))))
 refine Yc ?_;refine Qa ?_;refine Qb ?_ ?_<;>intro fk
 ·rw[HB.out _ (E9.out aS fk) aJ];exact Qp
 have h01:side=0\/side=1:=by omega
 obtain ⟨ck,hck⟩:∃ k,k=Cp ae:=⟨_,rfl⟩
 obtain ⟨A,hA⟩:∃ k,k=vt side:=⟨_,rfl⟩
 obtain ⟨W,hW⟩:∃ k,k=vu ae side:=⟨_,rfl⟩
 obtain ⟨U,hU⟩:∃ u,u=(ae==17):=⟨_,rfl⟩
 obtain ⟨A2,nd⟩:∃ k,k=A+2:=⟨_,rfl⟩
 obtain ⟨c1,gX⟩:∃ k,k=ck+1:=⟨_,rfl⟩
 have hAb:side=0/\A=12/\A2=14\/side=1/\A=16/\A2=18:=h01.imp (fun h=>⟨h,by rw[hA,h];rfl,by rw[nd,hA,h];rfl⟩) fun h=>⟨h,by rw[hA,h];rfl,by rw[nd,hA,h];rfl⟩
 have hCb:ae=1/\ck=22/\c1=23/\U=false\/(ae=6/\ck=36/\c1=37/\U=false)/\40<=l.length\/ae=17/\ck=26/\c1=27/\U=true:=by
  rcases hp with h|h|h
  ·exact .inl ⟨h,by rw[hck,h];rfl,by rw[gX,hck,h];rfl,by rw[hU,h];rfl⟩
  ·exact .inr (.inl ⟨⟨h,by rw[hck,h];rfl,by rw[gX,hck,h];rfl,by rw[hU,h];rfl⟩,Fa.out af⟩)
  ·exact .inr (.inr ⟨h,by rw[hck,h];rfl,by rw[gX,hck,h];rfl,by rw[hU,h];rfl⟩)
 have Pm:W=if ae=1 then 24 else if side=0 then 20 else 22:=hW;have Pn:W<=24:=by rw[Pm];(repeat' split)<;>decide
 have e1:=Yi7 addr xA.1;have e2:=Yj3 addr xA;have e3:=Yhs (aN-1) ae af af;obtain ⟨hi,CE⟩:∃ x,x=addr/65536:=⟨_,rfl⟩
 obtain ⟨lo,J4⟩:∃ x,x=addr%65536:=⟨_,rfl⟩
 rw[<- CE]at e1;rw[<- J4]at e2;have rVa:0<=hi/\hi<=65535:=by omega
 have rWa:0<=lo/\lo<=65535:=by omega
 obtain ⟨B1,J5⟩:∃ x,x=tl (jQ l A 10 hi) ae (w2 l A) hi:=⟨_,rfl⟩
 obtain ⟨B2,Fb⟩:∃ x,x=tl (jQ B1 A2 10 lo) ae (w2 B1 A2) lo:=⟨_,rfl⟩
 obtain ⟨B3,J6⟩:∃ x,x=jQ B2 8 10 ((aN-1)*256+ae):=⟨_,rfl⟩
 obtain ⟨B4,J7⟩:∃ x,x=jQ B3 W ck port:=⟨_,rfl⟩
 obtain ⟨RR,J8⟩:∃ x,x=(if w2 B4 ck=0/\(ae=17\/dD (B4.drop 20)=0) then qk B4 ck 65535 else B4):=⟨_,rfl⟩
 have t3:Ub l ae aN (vt side) (vu ae side) addr port=RR:=by
  rw[J8,J7,J6,Fb,J5,CE,J4,nd,hA,hW,hck];rfl
 have zX:B1=if ae=1 then jQ l A 10 hi else ql (jQ l A 10 hi) ck (w2 l A) hi:=by rw[J5,tl,<- hck]
 have zY:B2=if ae=1 then jQ B1 A2 10 lo else ql (jQ B1 A2 10 lo) ck (w2 B1 A2) lo:=by rw[Fb,tl,<- hck]
 have dN:∀ b m n,(tl b ae m n).length=b.length:=fun b m n=>by unfold tl;split<;>simp[JY]
 have mG:B1.length=l.length:=by rw[J5,dN,Uq]
 have Po:B2.length=l.length:=by rw[Fb,dN,Uq,mG]
 have Pp:B3.length=l.length:=by rw[J6,Uq,Po]
 have J9:B4.length=l.length:=by rw[J7,Uq,Pp]
 have s1:=JZ c.gl l U A 10 hi af af af;have s2:=JZ c.gl B1 U A2 10 lo af af af;have s3:=JZ c.gl B2 U 8 10 ((aN-1)*256+ae) af af af;have s4:=JZ c.gl B3 U W ck port af af af;have t1:=Pb c.gl (jQ l A 10 hi) U ck (w2 l A) hi (by rw[Uq];omega) (by rw[Uq];omega);have t2:=Pb c.gl (jQ B1 A2 10 lo) U ck (w2 B1 A2) lo (by rw[Uq];omega) (by rw[Uq];omega);have n1:=lI c.gl l A;have n2:=lI c.gl B1 A2;have hz:=Yja B4 ck af;rw[<- gX]at hz;have CF:qk B4 ck 65535=(B4.set ck 255).set c1 255:=by rw[gX];exact Ydq _ _
 have hOf:=EO c.gl (B4.drop 20) (by rw[length_drop];omega);rw[CF]at J8;rw[<- J6]at s3;rw[<- J7]at s4;rw[mG]at s2;rw[Po]at s3;rw[Pp]at s4;rw[Uq]at t1;rw[Uq,mG]at t2;have KA:=Lib.hid J8;have hbz:w2 B4 ck≠0->(b1 B4 ck==0&&b1 B4 c1==0)=false:=fun z=>by
  have hn:¬ (b1 B4 ck=0/\b1 B4 c1=0):=fun h=>z (hz.2 h);rw[Bool.and_eq_false_iff,beq_eq_false_iff_ne,beq_eq_false_iff_ne];omega
 have hzz:=Decidable.em (w2 B4 ck=0);have Pq:addr%65536=lo:=J4.symm;have aW:∀ (l:List UInt8) k n,(jQ l k 10 n).length=l.length:=fun l k n=>Uq l k 10 n;have hlm:28<=l.length:=by omega
 have Fc:ae=1/\¬ (side=0 ↔ flags=8)\/¬ (ae=1/\¬ (side=0 ↔ flags=8)):=Decidable.em _;have cC:=YN c.gl ae;clear CE J4 J8 J7 J6 hck hW hA dN CF Fa J5 Fb Pn gX nd hU hp;rcases Fc with hk|hk
 ·rw[HB.out _ (ZD.out aS fk hk) aJ];obtain ⟨rfl,Pr⟩:=hk;have hx:((side==0)==(flags==8))=false:=by
   rw[beq_eq_false_iff_ne];intro h;refine Pr ?_;rw[<- beq_iff_eq,h,beq_iff_eq]
  refine Qd (An @hx (An @Bool.not_true @Bool.not_false)) ?_;refine Yc ?_;exact Qp
 rw[HG.out (ZE.out aS fk hk),t3];clear HB J3 E9 ZD ZE HG t3;have hx:ae=1->((side==0)==(flags==8))=true:=fun h=>by
  have Pr:side=0 ↔ flags=8:=Decidable.not_not.1 fun q=>hk ⟨h,q⟩;rw[beq_iff_eq,Bool.eq_iff_iff,beq_iff_eq,beq_iff_eq];exact Pr
 obtain ⟨c5,zZ⟩:∃ e:Nat->St,e=fun k=>⟨[(1,.int .i64 side),(3,.int .i64 port),(10,.ptr 0 0),(12,.ptr 2 0),(14,.int .i64 ck),(15,.int .i64 A),(86,.agg [.int .i64 hi,.int .i64 lo]),(87,.int .i64 (kI k))],[(0,.cells [.int .i64 ae,.int .i64 aE,.int .i64 aj,.int .i64 dst,.int .i64 av,.int .i64 aN,.int .i64 id,.int .i64 flags,.int .i64 seq,.int .i64 bB,.int .i64 win,.str body]),(1,.cells (Xj (J0 k l B1 B2))),(2,.cells [.sl 1 1 0 l.length l.length,.bool U])],3⟩:=⟨_,rfl⟩
 clear hk;rcases hCb with ⟨h9,v1,v2,v3⟩|⟨⟨h9,v1,v2,v3⟩,h40⟩|⟨h9,v1,v2,v3⟩
 all_goals
  subst h9 v1 v2 v3;try replace hx:=hx rfl
  refine Qd (An @hx (An @Bool.not_true @Bool.not_false)) ?_;clear hx;rcases hAb with ⟨h0,v4,v5⟩|⟨h0,v4,v5⟩
  all_goals
   subst h0 v4 v5;simp at Pm;subst Pm;first|rw[show po 1=.aR [.int .i64 8,.int .i64 2] from rfl]at cC|rw[show po 6=.aR [.int .i64 20,.int .i64 16] from rfl]at cC|rw[show po 17=.aR [.int .i64 8,.int .i64 6] from rfl]at cC
   first|(rw[am rfl]at zX zY)|(rw[aa (by decide)]at zX zY)
   refine Yc ?_;refine Qa ?_;refine Jx ?_;refine Yjs cC (An @e1 @Pq) ?_;refine Qu (fun k:Nat=>k<=2) c5 (fun k=>2-k) YH.mixed hN ⟨0,by omega,[(1,3),(2,4)],?_⟩ fun k hk=>?_<;>subst zZ
   ·exact Qi (An @Pg @Pd)
   obtain rfl|rfl|rfl:k=0\/k=1\/k=2:=by omega
   ·refine tO (An @Pg @Pd) ?_;refine Yc ?_;refine tO (An @Pg @Pd) ?_;refine N5 n1 ?_;refine zr (ip [2,1]) s1 @mG ?_ ?_
    ·rfl
    refine Yc ?_;refine El ?_;try refine zr (ip [2,1]) t1 @aW ?_ ?_
    all_goals try rfl
    refine ⟨1,by omega,⟨[],?_⟩,by omega⟩;exact IJ (An @Ph (An @Pe @zX))
   ·refine tO (An @Ph @Pe) ?_;refine Yc ?_;refine tO (An @Ph @Pe) ?_;refine N5 n2 ?_;refine zr (ip [2,1]) s2 @mG ?_ ?_
    ·rfl
    refine Yc ?_;refine El ?_;try refine zr (ip [2,1]) t2 (An @aW @mG) ?_ ?_
    all_goals try rfl
    refine ⟨2,by omega,⟨[],?_⟩,by omega⟩;exact IJ (An @Pj (An @Pf @zY))
   refine tO (An @Pj @Pf) ?_;refine Yc ?_;refine tO (An @Pj (An @Pf (An @ZA @e3))) ?_;refine zr (ip [2,1]) s3 (An @ZA (An @e3 @Pp)) ?_ ?_
   ·rfl
   refine Yc ?_;refine El ?_;rcases hzz with z|z
   ·have bz:=And.intro (beq_iff_eq.2 (hz.1 z).1) (beq_iff_eq.2 (hz.1 z).2);refine zr (ip [2,1]) s4 (An @J9 (An @Qg @bz)) ?_ ?_
    ·rfl
    first
     | have gp:=KA.out.trans (am ⟨z,.inl rfl⟩);rw[gp];clear gp;refine jw (An @Qg @bz) ?_;refine Yc ?_;exact IJ (An @ZB @J9)
     | refine Qk hOf (An @Qg @bz) ?_;by_cases zz:dD (B4.drop 20)=0
       ·have bo:(dD (B4.drop 20) == 0)=true:=beq_iff_eq.2 zz;have gp:=KA.out.trans (am ⟨z,.inr zz⟩);rw[gp];clear gp;refine Qb ?_ ?_<;>intro q3
        ·exact IJ (An @ZB @J9)
        ·omega
       ·have gp:RR=B4:=KA.out.trans (aa fun h=>h.2.elim af zz);rw[gp];clear gp;refine Qb ?_ ?_<;>intro q3
        ·omega
        ·exact Qp
   ·have bz:=hbz z;have gp:RR=B4:=KA.out.trans (aa fun h=>z h.1);rw[gp];clear gp;refine zr (ip [2,1]) s4 (An @J9 (An @Qg @bz)) ?_ ?_
    ·rfl
    refine jw (An @Qg @bz) ?_;refine Yc ?_;exact Qi (An @Qg @bz)
end Go.Proofs.YtogckmommodmhaaGreatDoor
