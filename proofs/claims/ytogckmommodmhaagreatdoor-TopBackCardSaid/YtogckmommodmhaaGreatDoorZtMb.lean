import Derived.Test.YtogckmommodmhaaGreatDoorZt1
import Derived.Test.YtogckmommodmhaaGreatDoorZt8
import Derived.Test.YtogckmommodmhaaGreatDoorZt5
import Derived.Test.YtogckmommodmhaaGreatDoorZt14
import Derived.Test.YtogckmommodmhaaGreatDoorZt9
import Derived.Test.YtogckmommodmhaaGreatDoorZt16
import Derived.Test.YtogckmommodmhaaGreatDoorZtMa
import Derived.Test.YtogckmommodmhaaGreatDoorZtN
import Derived.WalkKit
import Derived.WalkSpells
import Derived.WalkLawsBesides
import Derived.BigQuiet
import Derived.Lib.Hide
set_option maxHeartbeats 16000000
namespace Go.Proofs.YtogckmommodmhaaGreatDoor
open Go.RowKit
set_option linter.all false
set_option linter.unusedSimpArgs false
set_option maxRecDepth 100000
theorem Ye9 (a b:UInt8) (t:List UInt8):a::b::t=fr [w2 (a::b::t) 0] t:=by
 have e:w2 (a::b::t) 0=(a.toNat:Int) * 256 + b.toNat:=by
  show gQ [a,b]=_
  rw[tg _ au]
  simp only[iF]
  omega
 have ha:=UInt8.toNat_lt a
 have hb:=UInt8.toNat_lt b
 rw[e]
 show a::b::t=Qg _ 1::Qg _ 0::t
 rw[wH _ _ af,wH _ _ af]
 have e1:(((a.toNat:Int) * 256 + b.toNat) / 256 ^ 1 % 256).toNat=a.toNat:=by omega
 have e2:(((a.toNat:Int) * 256 + b.toNat) / 256 ^ 0 % 256).toNat=b.toNat:=by
  simp only[Int.pow_zero,Int.ediv_one];omega
 rw[e1,e2,UInt8.ofNat_toNat,UInt8.ofNat_toNat]
theorem Il (l:List UInt8) (i j:Nat):w2 (l.drop i) j=w2 l (i + j):=by
 unfold w2;rw[List.drop_drop]
theorem EW:∀ (n:Nat) (l:List UInt8),2 * n≤l.length→l=fr ((List.range n).map fun i=>w2 l (2 * i)) (l.drop (2 * n))
 | 0,l,_=>rfl
 | n + 1,l,h=>by
  match l,h with
  | [],h=>exact absurd h au
  | [_],h=>exact absurd h (by simp;omega)
  | a::b::t,h =>
   have ih:=EW n t (by simp at h;omega)
   rw[List.range_succ_eq_map,List.map_cons,List.map_map]
   have e1:((fun i=>w2 (a::b::t) (2 * i)) ∘ Nat.succ)=fun i=>w2 t (2 * i):=by
    funext i
    show w2 (a::b::t) (2 * (i + 1))=_
    have:=Il (a::b::t) 2 (2 * i)
    rw[show 2 * (i + 1)=2 + 2 * i by omega,← this];rfl
   have e2:(a::b::t).drop (2 * (n + 1))=t.drop (2 * n):=rfl
   rw[e1,e2]
   have e3:=Ye9 a b t
   have e4:∀ w ws,fr (w::ws) (t.drop (2 * n))=fr [w] (fr ws (t.drop (2 * n))):=fun _ _=>rfl
   rw[Nat.mul_zero,e4,← ih]
   exact e3
theorem Im (l:List UInt8) (k:Nat) (h:k + 4≤l.length):w4 l k / 65536=w2 l k∧w4 l k % 65536=w2 l (k + 2):=by
 obtain ⟨a,b,c,d,t,e⟩:∃ a b c d t,l.drop k=a::b::c::d::t:=by
  have hl:4≤(l.drop k).length:=by rw[List.length_drop];omega
  match l.drop k,hl with
  | a::b::c::d::t,_=>exact ⟨a,b,c,d,t,rfl⟩
 have e2:w2 l (k + 2)=w2 (l.drop k) 2:=(Il l k 2).symm
 have e3:w2 l k=w2 (l.drop k) 0:=(Il l k 0).symm
 have e4:w4 l k=gQ ((l.drop k).take 4):=rfl
 rw[e2,e3,e4,e]
 have g1:w2 (a::b::c::d::t) 0=(a.toNat:Int) * 256 + b.toNat:=by
  show gQ [a,b]=_
  rw[tg _ au];simp only[iF];omega
 have g2:w2 (a::b::c::d::t) 2=(c.toNat:Int) * 256 + d.toNat:=by
  show gQ [c,d]=_
  rw[tg _ au];simp only[iF];omega
 have g3:gQ ((a::b::c::d::t).take 4)=(a.toNat:Int) * 16777216 + b.toNat * 65536 + c.toNat * 256 + d.toNat:=by
  show gQ [a,b,c,d]=_
  rw[tg _ au];simp only[iF];omega
 rw[g1,g2,g3]
 have:=UInt8.toNat_lt a
 have:=UInt8.toNat_lt b
 have:=UInt8.toNat_lt c
 have:=UInt8.toNat_lt d
 omega
theorem Io (l:List UInt8) (k:Nat) (h:k + 2≤l.length):w2 l k=b1 l k * 256 + b1 l (k + 1):=by
 obtain ⟨a,b,t,e⟩:∃ a b t,l.drop k=a::b::t:=by
  have hl:2≤(l.drop k).length:=by rw[List.length_drop];omega
  match l.drop k,hl with
  | a::b::t,_=>exact ⟨a,b,t,rfl⟩
 have e3:w2 l k=w2 (l.drop k) 0:=(Il l k 0).symm
 have g1:w2 (a::b::t) 0=(a.toNat:Int) * 256 + b.toNat:=by
  show gQ [a,b]=_
  rw[tg _ au];simp only[iF];omega
 have f1:b1 l k=a.toNat:=by
  have:l.getD k 0=(l.drop k).getD 0 0:=by simp[List.getD,List.getElem?_drop]
  unfold b1;rw[this,e];rfl
 have f2:b1 l (k + 1)=b.toNat:=by
  have:l.getD (k + 1) 0=(l.drop k).getD 1 0:=by simp[List.getD,List.getElem?_drop]
  unfold b1;rw[this,e];rfl
 rw[e3,e,g1,f1,f2]
theorem ON (c c' m n:Int) (hc:0≤c∧c≤65535) (zG:0≤c'∧c'≤65535) (hm:0≤m∧m≤65535) (hn:0≤n∧n≤65535) (h:(c - c') % 65535=0) (xk:m≠65535∨n≠0):Qb c m n=Qb c' m n:=by
 rw[EU c m n hc hm hn,EU c' m n zG hm hn]
 exact Ii _ _ af af af
theorem WO {l:List UInt8} (h:cj l=65535):0 < Xn l∧Xn l % 65535=0:=by
 unfold cj Jg at h
 split at h
 ·cases h
 ·omega
structure G8n (f:List UInt8):Prop where
 p:H6 f
 g7:¬ G7 f
 g8:¬ G8 f
 g9:¬ G9 f
 g10:¬ qK f
 e:Yr (az f)=0
theorem BD {f:List UInt8} (h:bP f=0):G8n f:=by
 obtain ⟨k6,he⟩:=LN h
 have h7:¬ G7 f:=fun h7=>by rw[Ay k6 h7]at h;cases h
 have h8:¬ G8 f:=fun h8=>by rw[Dn k6 h7 h8]at h;cases h
 have h9:¬ G9 f:=fun h9=>by rw[LI k6 h7 h8 h9]at h;cases h
 have ed:¬ qK f:=fun ed=>by rw[Dp k6 h7 h8 h9 ed]at h;cases h
 exact ⟨k6,h7,h8,h9,ed,he⟩
theorem WQ (l:List UInt8):((List.range 4).map fun i=>w2 l (2 * i))=[w2 l 0,w2 l 2,w2 l 4,w2 l 6]:=rfl
theorem WR (l:List UInt8):((List.range 10).map fun i=>w2 l (2 * i))=[w2 l 0,w2 l 2,w2 l 4,w2 l 6,w2 l 8,w2 l 10,w2 l 12,w2 l 14,w2 l 16,w2 l 18]:=rfl
theorem Yfg (p:Pk) (k:Int) (hk:0≤k∧k≤65535):Xd (jd p k)=k + Xd (jd p 0):=by
 unfold jd
 (repeat' split)<;>simp only[Xd]<;>omega
theorem Yct {p:Pk} {s:List UInt8} {k:Int} (hs:s=fr (jd p k) p.body) (hk:0≤k∧k≤65535) (hn:Xt p=s.length) (o:cj (Yy p.ae p.aA p.dst s.length++s)=65535):lZ k (j2 p):=by
 obtain ⟨p1,p2⟩:=WO o
 have e:=wv s (rR p s.length)
 rw[← WE]at e
 have e2:=wv p.body (jd p k)
 rw[← hs,Yfg p k hk]at e2
 unfold j2
 rw[hn]
 exact ⟨hk.1,hk.2,by omega⟩
theorem Xz6 {f:List UInt8} (h:bP f=0):∃ c k:Int,f=fr (gI (az f) (Xt (az f)) c++jd (az f) k) (az f).body∧lZ c (Xd (gI (az f) (Xt (az f)) 0))∧lZ k (j2 (az f))∧((az f).ae=17→k≠0):=by
 obtain ⟨⟨⟨g1,g2,g3,g4⟩,g5,g6⟩,g7,g8,g9,g10,he⟩:=BD h
 obtain ⟨T5,hl2⟩:=xR h
 obtain ⟨o1,o2⟩:=Yek h
 unfold G1 at g1
 unfold G3 at g3
 unfold G7 at g7
 have a0:b1 f 0=69:=by omega
 have a1:w2 f 2=f.length:=by omega
 have a2:b1 f 1=0:=by omega
 have a3:w2 f 6=0:=by omega
 have vX:=Io f 0 af
 have hw8:=Io f 8 af
 obtain ⟨q1,q2⟩:=Im f 12 af
 obtain ⟨q3,q4⟩:=Im f 16 af
 have bg:=EW 10 f af
 rw[WR]at bg
 have hN:=Jj (az f) (Wb he).1
 have c0:=Dr f 10 af
 have wx:∀ n:Nat,(n:Int) + 20=f.length→gI (az f) n (w2 f 10)=[w2 f 0,w2 f 2,w2 f 4,w2 f 6,w2 f 8,w2 f 10,w2 f 12,w2 f 14,w2 f 16,w2 f 18]:=fun n hn=>by
  have e1:(az f).id=w2 f 4:=by unfold az mc;dsimp only;(repeat' split)<;>rfl
  have e2:(az f).av=b1 f 8:=by unfold az mc;dsimp only;(repeat' split)<;>rfl
  have e3:(az f).aA=w4 f 12:=by unfold az mc;dsimp only;(repeat' split)<;>rfl
  have e4:(az f).dst=w4 f 16:=by unfold az mc;dsimp only;(repeat' split)<;>rfl
  unfold gI
  rw[e1,e2,e3,e4,AD,q1,q2,q3,q4,a3,a1,vX,hw8,a0,a2]
  congr 2
  omega
 have EY:∀ n:Nat,(n:Int) + 20=f.length→lZ (w2 f 10) (Xd (gI (az f) n 0)):=fun n hn=>by
  have e1:(Xd (gI (az f) n (w2 f 10)):Int)=w2 f 10 + Xd (gI (az f) n 0):=by
   unfold gI;simp only[Xd];omega
  have e2:f.take 20=fr (gI (az f) n (w2 f 10)) []:=by
   rw[wx n hn]
   conv=>lhs;rw[bg]
   rfl
  have e3:=wv [] (gI (az f) n (w2 f 10))
  rw[← e2]at e3
  obtain ⟨p1,p2⟩:=WO o1
  have:Xn []=0:=rfl
  refine ⟨c0.1,c0.2,?_⟩
  omega
 have uj:(f.drop 20).length=f.length - 20:=List.length_drop
 have fin:∀ k:Int,0≤k∧k≤65535→f.drop 20=fr (jd (az f) k) (az f).body→Xt (az f)=(f.drop 20).length→((az f).ae=17→k≠0)→∃ c k:Int,f=fr (gI (az f) (Xt (az f)) c++jd (az f) k) (az f).body∧lZ c (Xd (gI (az f) (Xt (az f)) 0))∧lZ k (j2 (az f))∧((az f).ae=17→k≠0):=fun k hk hs hn Ip=>by
  have WS:((Xt (az f):Nat):Int) + 20=f.length:=by rw[hn,uj];omega
  refine ⟨w2 f 10,k,?_,EY _ WS,Yct hs hk hn ?_,Ip⟩
  ·rw[wx _ WS,← zc,← hs];exact bg
  ·have e3:(az f).aA=w4 f 12:=by unfold az mc;dsimp only;(repeat' split)<;>rfl
   have e4:(az f).dst=w4 f 16:=by unfold az mc;dsimp only;(repeat' split)<;>rfl
   rw[AD,e3,e4];exact o2
 unfold G8 at g8
 unfold G9 at g9
 unfold qK at g10
 unfold G6 at g6
 rcases (Wb he).1 with h1|h1|h1
 ·rw[h1]at hN
  have ze:b1 f 9=1:=by rw[← AD];exact h1
  have jD:8≤(f.drop 20).length:=by rw[ze]at g6;simpa using g6
  have wy:=EW 4 (f.drop 20) af
  rw[WQ]at wy
  have hw:w2 (f.drop 20) 0=b1 (f.drop 20) 0 * 256 + b1 (f.drop 20) 1:=Io (f.drop 20) 0 af
  have b2:=Dr (f.drop 20) 2 af
  have hK:(az f).body=(f.drop 20).drop 8∧(az f).flags=b1 (f.drop 20) 0∧(az f).seq=w2 (f.drop 20) 6∧(az f).ah + (az f).aj=w2 (f.drop 20) 4:=by
   unfold az
   rw[if_pos ze]
   refine ⟨rfl,rfl,rfl,?_⟩
   dsimp only
   split<;>omega
  obtain ⟨k1,k2,k3,k4⟩:=hK
  refine fin (w2 (f.drop 20) 2) b2 ?_ ?_ (fun h=>by omega)
  ·unfold jd
   rw[if_pos h1,k1,k2,k3,k4]
   rw[show b1 (f.drop 20) 0 * 256=w2 (f.drop 20) 0 by omega]
   exact wy
  ·rw[hN,k1,List.length_drop];simp;omega
 ·rw[h1]at hN
  have ze:b1 f 9=6:=by rw[← AD];exact h1
  have jD:20≤(f.drop 20).length:=by rw[ze]at g6;simpa using g6
  have wy:=EW 10 (f.drop 20) af
  rw[WR]at wy
  have hw:w2 (f.drop 20) 12=b1 (f.drop 20) 12 * 256 + b1 (f.drop 20) 13:=Io (f.drop 20) 12 af
  have b2:=Dr (f.drop 20) 16 af
  obtain ⟨r1,r2⟩:=Im (f.drop 20) 4 af
  obtain ⟨r3,r4⟩:=Im (f.drop 20) 8 af
  have hK:az f={ mc f with ah:=w2 (f.drop 20) 0,aj:=w2 (f.drop 20) 2,seq:=w4 (f.drop 20) 4,aL:=w4 (f.drop 20) 8,win:=w2 (f.drop 20) 14,flags:=b1 (f.drop 20) 13,body:=(f.drop 20).drop 20 }:=by
   unfold az
   rw[if_neg af,if_neg af]
  refine fin (w2 (f.drop 20) 16) b2 ?_ ?_ (fun h=>by omega)
  ·unfold jd
   rw[if_neg af,if_neg af,hK]
   dsimp only
   rw[r1,r2,r3,r4,show 80 * 256 + b1 (f.drop 20) 13=w2 (f.drop 20) 12 by omega,show (0:Int)=w2 (f.drop 20) 18 by omega]
   exact wy
  ·rw[hN,hK];simp;omega
 ·rw[h1]at hN
  have ze:b1 f 9=17:=by rw[← AD];exact h1
  have jD:8≤(f.drop 20).length:=by rw[ze]at g6;simpa using g6
  have wy:=EW 4 (f.drop 20) af
  rw[WQ]at wy
  have b2:=Dr (f.drop 20) 6 af
  have hK:az f={ mc f with ah:=w2 (f.drop 20) 0,aj:=w2 (f.drop 20) 2,body:=(f.drop 20).drop 8 }:=by
   unfold az
   rw[if_neg af,if_pos ze]
  refine fin (w2 (f.drop 20) 6) b2 ?_ ?_ (fun h=>by omega)
  ·unfold jd
   rw[if_neg af,if_pos h1,hK]
   dsimp only
   rw[show (8:Int) + (((f.drop 20).drop 8).length:Nat)=w2 (f.drop 20) 4 by rw[List.length_drop];omega]
   exact wy
  ·rw[hN,hK];simp;omega
theorem WU (T:Int) (h:0≤T):lZ (cH T) T:=by
 by_cases h0:T=0
 ·subst h0;exact ⟨by decide,by decide,by decide⟩
 ·have:=sX T af
  have:=sW T
  exact ⟨this.1,this.2,by omega⟩
theorem OO {c c0 T m1 n1 m2 n2 m3 n3:Int} (hc:lZ c T) (jw:lZ c0 T) (nD:0≤m1∧m1≤65535) (sS:0≤n1∧n1≤65535) (iE:0≤m2∧m2≤65535) (oE:0≤n2∧n2≤65535) (EV:0≤m3∧m3≤65535) (sY:0≤n3∧n3≤65535) (h:m3≠65535∨n3≠0) :
  Qb (Qb (Qb c m1 n1) m2 n2) m3 n3=Qb (Qb (Qb c0 m1 n1) m2 n2) m3 n3:=by
 obtain ⟨x1,x2,x3⟩:=zb _ _ _ _ (zb _ _ _ _ hc nD sS) iE oE
 obtain ⟨y1,y2,y3⟩:=zb _ _ _ _ (zb _ _ _ _ jw nD sS) iE oE
 exact ON _ _ _ _ ⟨x1,x2⟩ ⟨y1,y2⟩ EV sY af h
def Iq (p:Pk) (side:Int):Int:=if side=0 then p.ah else p.aj
theorem Xma {f:List UInt8} (h:bP f=0) {side addr port:Int} (ht:Un (az f) side addr port=0) (hq:port≠0∨Iq (az f) side≠65535):Yn f (az f).ae (az f).av (oC side) (oD (az f).ae side) addr port=Xl (Uj (az f) side addr port):=by
 have kX:=(BD h).e
 rw[← Xhc _ kX side addr port ht]
 obtain ⟨c,k,hf,hc,hk,Ip⟩:=Xz6 h
 generalize az f=p at *
 obtain ⟨hp,hr,hl,pL⟩:=Wb kX
 have V8:=hr
 obtain ⟨r1,r2,r3,r4,r5,r6,r7,r8,r9,ic⟩:=V8
 have hN:=Jj p hp
 have jK:=oX p hp af
 have hb:=Wt p hp af
 have jw:=WU (Xd (gI p (Xt p) 0)) (Ig _)
 have lU:0≤j2 p:=by
  have a:=Ig (rR p (Xt p))
  have b:=Ig (jd p 0)
  unfold j2
  omega
 have gT:lZ (gK p) (j2 p):=by
  obtain ⟨a1,a2,a3⟩:=WU (j2 p) lU
  rw[jK]
  split
  ·exact ⟨by decide,by decide,by omega⟩
  ·exact ⟨a1,a2,a3⟩
 have EZ:p.ae=17→k=gK p:=fun e=>by
  obtain ⟨a1,a2,a3⟩:=hk
  obtain ⟨b1,b2,b3⟩:=gT
  have c1:=Ip e
  have c2:(gK p:Int)≠0:=by
   rw[jK]
   split
   ·decide
   ·rename_i hx
    exact fun e2=>hx ⟨e,e2⟩
  omega
 rw[hf,hb]
 clear hf hb Ip jK lU
 generalize cH (Xd (gI p (Xt p) 0))=c0 at *
 generalize Xd (gI p (Xt p) 0)=T1 at *
 generalize j2 p=T2 at *
 generalize (gK p:Int)=k0 at *
 unfold Un at ht
 split at ht
 ·cases ht
 split at ht
 ·cases ht
 split at ht
 ·cases ht
 rename_i t1 t2 t3
 obtain ⟨ae,aA,ah,dst,aj,av,id,flags,seq,aL,win,body⟩:=p
 unfold Iq at hq
 dsimp only at *
 have key:∀ m1 n1 m2 n2 m3:Int,0≤m1∧m1≤65535→0≤n1∧n1≤65535→0≤m2∧m2≤65535→0≤n2∧n2≤65535→(m3=av * 256 + ae)→Qb (Qb (Qb c m1 n1) m2 n2) m3 ((av - 1) * 256 + ae)=Qb (Qb (Qb c0 m1 n1) m2 n2) m3 ((av - 1) * 256 + ae):=fun m1 n1 m2 n2 m3 b1 b2 b3 b4 e=>OO hc jw b1 b2 b3 b4 af af af
 unfold oC oD gI jd
 by_cases hs:side=0
 ·rw[if_pos hs]at hq ⊢
  rcases hp with rfl|rfl|rfl
  ·simp only[hs,reduceCtorEq,Int.reduceEq,if_true,if_false,↓reduceIte,List.cons_append,List.nil_append]
   rw[OD,OD,key _ _ _ _ _ af af af af rfl,ON k k0 (ah + aj) port ⟨hk.1,hk.2.1⟩ ⟨gT.1,gT.2.1⟩ (by unfold Wd at pL;dsimp only at pL;omega) af (by have:=hk.2.2;have:=gT.2.2;omega) (by unfold Wd at pL;dsimp only at pL;omega)]
  ·simp only[hs,reduceCtorEq,Int.reduceEq,if_true,if_false,↓reduceIte,List.cons_append,List.nil_append]
   rw[OH,OH,key _ _ _ _ _ af af af af rfl]
   rw[show aA / 65536 % 65536=aA / 65536 by omega,show aA % 65536 % 65536=aA % 65536 by omega]
   rw[OO (m1:=aA / 65536) (n1:=addr / 65536) (m2:=aA % 65536) (n2:=addr % 65536) (m3:=ah) (n3:=port) hk gT af af af af af af af]
  ·simp only[hs,reduceCtorEq,Int.reduceEq,if_true,if_false,↓reduceIte,List.cons_append,List.nil_append]
   rw[OF,OF,key _ _ _ _ _ af af af af rfl,EZ rfl]
 ·rw[if_neg hs]at hq ⊢
  rcases hp with rfl|rfl|rfl
  ·simp only[hs,reduceCtorEq,Int.reduceEq,if_true,if_false,↓reduceIte,List.cons_append,List.nil_append]
   rw[OE,OE,key _ _ _ _ _ af af af af rfl,ON k k0 (ah + aj) port ⟨hk.1,hk.2.1⟩ ⟨gT.1,gT.2.1⟩ (by unfold Wd at pL;dsimp only at pL;omega) af (by have:=hk.2.2;have:=gT.2.2;omega) (by unfold Wd at pL;dsimp only at pL;omega)]
  ·simp only[hs,reduceCtorEq,Int.reduceEq,if_true,if_false,↓reduceIte,List.cons_append,List.nil_append]
   rw[OI,OI,key _ _ _ _ _ af af af af rfl]
   rw[show dst / 65536 % 65536=dst / 65536 by omega,show dst % 65536 % 65536=dst % 65536 by omega]
   rw[OO (m1:=dst / 65536) (n1:=addr / 65536) (m2:=dst % 65536) (n2:=addr % 65536) (m3:=aj) (n3:=port) hk gT af af af af af af af]
  ·simp only[hs,reduceCtorEq,Int.reduceEq,if_true,if_false,↓reduceIte,List.cons_append,List.nil_append]
   rw[OG,OG,key _ _ _ _ _ af af af af rfl,EZ rfl]
theorem WV {f:List UInt8} (h:bP f=0) {side addr port:Int} (ht:Un (az f) side addr port=0) (hq:port≠0∨Iq (az f) side≠65535):bP (Yq f side addr port)=0∧az (Yq f side addr port)=Uj (az f) side addr port:=by
 unfold Yq
 rw[if_neg (by rw[h];simp),if_neg (by rw[ht];simp),Xma h ht hq]
 exact OA _ (Qyq _ (BD h).e side addr port ht)
structure rS (m:Mp):Prop where
 ae:m.ae=1∨m.ae=6∨m.ae=17
 s:0≤m.s∧m.s < 8
 aN:0≤m.aN∧m.aN≤65535
 a:0≤m.a∧m.a < 3
 port:1024≤m.port∧m.port < 1072
theorem GT.oY {t:Tb} (h:GT t) {m:Mp} (hm:m ∈ t.maps):rS m:=by
 have OP:=h.maps m hm
 obtain ⟨h1,h2,h3⟩:=Kp OP.1.1
 exact ⟨h1,h2,h3,OP.1.2.2,(S4 OP.1.2.1).2.2⟩
theorem Xst {f:List UInt8} {m:Mp} (hm:rS m) (he:bP f=0) (hk:¬ ((az f).ae=1∧(az f).flags≠8)) (ht:(az f).av≠1) :
  bP (Yq f 0 (3405803777 + m.a) m.port)=0∧az (Yq f 0 (3405803777 + m.a) m.port)=Uj (az f) 0 (3405803777 + m.a) m.port:=by
 have h1:=hm.a
 have h2:=hm.port
 refine WV he ?_ (.inl af)
 unfold Un
 rw[if_neg af,if_neg ht,if_neg af]
theorem WW {f:List UInt8} {m:Mp} (hm:rS m) (he:bP f=0) (hk:¬ ((az f).ae=1∧(az f).flags≠0)) (ht:(az f).av≠1) (hd:(az f).aj=m.port) :
  bP (Yq f 1 (167772161 + m.s) m.aN)=0∧az (Yq f 1 (167772161 + m.s) m.aN)=Uj (az f) 1 (167772161 + m.s) m.aN:=by
 have h1:=hm.s
 have h2:=hm.aN
 have h3:=hm.port
 refine WV he ?_ (.inr ?_)
 ·unfold Un
  rw[if_neg af,if_neg ht,if_neg af]
 ·unfold Iq
  rw[if_neg aR,hd]
  omega
theorem lX.port {S:NS} {f:List UInt8} {m:Mp} (h:lX S f m):m.ae=(az f).ae∧m.a=(az f).dst - 3405803777∧m.port=(az f).aj:=by
 have:=List.find?_some h.back
 simp only[Je,Bool.and_eq_true,beq_iff_eq]at this
 exact ⟨this.1.1,this.1.2,this.2⟩
theorem lX.read {S:NS} {f:List UInt8} {m:Mp} (h:lX S f m) (hS:NJ S):bP (S.aN f).1.frame=0∧az (S.aN f).1.frame=Uj (az f) 1 (167772161 + m.s) m.aN:=by
 rw[h.is]
 exact WW (hS.gt.oY h.mem) h.e h.y9 h.av h.port.2.2.symm
theorem cf.lL {t:Tb} {ae:Int} {S:Nat} {aN:Int} {x:Tb × Mp × Bool × Int} (h:cf t ae S aN x):∀ o ∈ t.maps,o ∈ x.1.maps:=by
 cases h with
 | no e lD=>exact fun m hm=>hm
 | old m hf=>exact fun m hm=>hm
 | own port=>exact fun m hm=>List.mem_append_left _ hm
 | new b k=>exact fun m hm=>List.mem_append_left _ hm
structure uW (S:NS) (f:List UInt8) (x:Rp × NS) (m:Mp) (es:List Ev) (S1:NS):Prop where
 ni:NI S1
 mem:m ∈ S1.tb.maps
 e:bP f=0
 aA:0≤(az f).aA - 167772161∧(az f).aA - 167772161 < 8
 fwd:m.ae=(az f).ae∧m.s=(az f).aA - 167772161∧m.aN=(az f).ah
 y9:¬ ((az f).ae=1∧(az f).flags≠8)
 av:(az f).av≠1
 is:x=S1.en f m es
 OQ:∃ q ∈ S1.fl,q.2.map=m∧q.2.rem=(az f).dst∧q.2.rport=(az f).aj
 ref:S1.ref=S.ref
 told:S1.told=S.told
 now:S1.now=S.now
 sub:∀ o ∈ S.tb.maps,o ∈ S1.tb.maps
theorem Ir {S:NS} (hS:NI S) (f:List UInt8) (d:Int):(∃ e,S.out f d=(bR e,S)∧e≠0)∨(∃ e,e≠0∧bP f=0∧S.out f d=S.refuse f e)∨∃ m es S1,uW S f (S.out f d) m es S1:=by
 obtain ⟨x,hx⟩:∃ x,x=S.out f d:=⟨_,rfl⟩
 rw[← hx]
 rw[Br]at hx
 split at hx
 ·rename_i h;exact .inl ⟨_,hx,h⟩
 rename_i h1
 have he:bP f=0:=Decidable.not_not.1 h1
 split at hx
 ·exact .inl ⟨7,hx,by decide⟩
 rename_i h2
 split at hx
 ·exact .inl ⟨4,hx,by decide⟩
 rename_i h3
 split at hx
 ·exact .inl ⟨12,hx,by decide⟩
 rename_i h4
 split at hx
 ·rename_i hk
  split at hx
  ·rename_i m hm
   refine .inr (.inr ⟨m,[],_,hS.goes (S.cR (az f)) (az f) false,List.mem_of_find?_eq_some hm,he,by omega,?_,h3,h4,hx,?_,rfl,rfl,rfl,fun o ho=>ho⟩)
   ·have:=List.find?_some hm
    simp only[Ze,Bool.and_eq_true,beq_iff_eq]at this
    exact ⟨this.1.1,this.1.2,this.2⟩
   ·have hk2:S.findF m (az f).dst (az f).aj≠0:=by unfold NS.cR at hk;rw[hm]at hk;exact hk
    obtain ⟨q,hq,e,q1,q2,q3⟩:=Ex hk2
    refine ⟨_,List.mem_map.2 ⟨q,hq,rfl⟩,?_⟩
    split<;>exact ⟨q1,q2,q3⟩
  ·rename_i hm
   unfold NS.cR at hk
   rw[hm]at hk
   exact absurd rfl hk
 rename_i hk
 have gT:S.cR (az f)=0:=Decidable.not_not.1 hk
 split at hx
 ·exact .inl ⟨11,hx,by decide⟩
 split at hx
 ·exact .inr (.inl ⟨6,by decide,he,hx⟩)
 rename_i hl
 split at hx
 ·rename_i ho;exact .inr (.inl ⟨_,ho,he,hx⟩)
 rename_i ho
 have ho:=Decidable.not_not.1 ho
 obtain ⟨S0,lU,_,bB,bh,b9,hb⟩:=hS.opened he h2 gT af ho
 have hb:=hb (rz (az f).ae)
 obtain ⟨aI,q1,q2,q3,_⟩:=bh.has (by rw[← lU];exact ho)
 have cq:=bh.lL
 clear bh b9
 rw[← lU]at hb aI q1 q2 q3 cq
 generalize S.tb.cx (az f).ae ((az f).aA - 167772161) (az f).ah d=o at *
 exact .inr (.inr ⟨o.2.1,_,_,hb,aI,he,by omega,⟨q1,q2,q3⟩,h3,h4,hx,⟨_,List.mem_append_right _ (List.mem_singleton.2 rfl),rfl,rfl,rfl⟩,rfl,rfl,rfl,cq⟩)
theorem uW.read {S:NS} {f:List UInt8} {x:Rp × NS} {m:Mp} {es:List Ev} {S1:NS} (h:uW S f x m es S1):bP (Yq f 0 (3405803777 + m.a) m.port)=0∧az (Yq f 0 (3405803777 + m.a) m.port)=Uj (az f) 0 (3405803777 + m.a) m.port :=
 Xst (h.ni.gt.oY h.mem) h.e h.y9 h.av
structure rT (r:Rp):Prop where
 len:r.frame.length≤140737488351232
 is:r.frame=[]∨r.frame≠[]∧r.code=0∧bP r.frame=0∨r.frame≠[]∧r.code≠0∧28 < r.frame.length∧cj (r.frame.take 20)=65535∧cj (r.frame.drop 20)=65535
theorem Xl0 (f:List UInt8) (aA id:Int) (h:28≤f.length):(kC f aA id).length=56∧cj ((kC f aA id).take 20)=65535∧cj ((kC f aA id).drop 20)=65535:=by
 refine ⟨V9 f aA id h,?_,?_⟩
 ·rw[show (kC f aA id).take 20=Uo 1 167772414 aA 64 id 36 from List.take_left' (Jb ..)];exact V6 ..
 ·rw[show (kC f aA id).drop 20=xL f from List.drop_left' (Jb ..)];exact Yaw f
theorem zf (e:Int):rT (bR e):=⟨by show 0≤_;omega,.inl rfl⟩
theorem Is {g:List UInt8} (h:bP g=0):g≠[]:=fun e=>by
 subst e
 have:=(xR h).1
 simp at this
theorem WX {S:NS} (hS:NJ S) (f:List UInt8) (hf:f.length≤140737488351232):(S.aN f).1.frame.length≤140737488351232∧((∃ e,(S.aN f).1=bR e)∨(S.aN f).1.code=0∧bP (S.aN f).1.frame=0):=by
 rcases Bz S f with ⟨e,h,_⟩|⟨m,h⟩
 ·rw[h];exact ⟨by show 0≤_;omega,.inl ⟨e,rfl⟩⟩
 ·have hr:=(h.read hS).1
  rw[h.is]at hr ⊢
  exact ⟨Nat.le_trans (EC ..) hf,.inr ⟨rfl,hr⟩⟩
theorem Xvz {S:NS} (hS:NI S) (f:List UInt8) (d:Int) (hf:f.length≤140737488351232):rT (S.out f d).1:=by
 rcases Ir hS f d with ⟨e,h,_⟩|⟨e,he,h0,h⟩|⟨m,es,S1,h⟩
 ·rw[h];exact zf e
 ·rw[h]
  unfold NS.refuse
  split
  ·exact zf e
  ·obtain ⟨h1,h2,h3⟩:=Xl0 f (w4 f 12) S.ref (xR h0).1
   have bX:kC f (w4 f 12) S.ref≠[]:=fun e=>by rw[e]at h1;simp at h1
   exact ⟨by show (kC f (w4 f 12) S.ref).length≤_;omega,.inr (.inr ⟨bX,he,by show 28 < (kC f (w4 f 12) S.ref).length;omega,h2,h3⟩)⟩
 ·rw[h.is,wm]
  have hr:=h.read.1
  split
  ·obtain ⟨h1,h2⟩:=WX (VJ h.ni es).toNJ (Yq f 0 (3405803777 + m.a) m.port) (Nat.le_trans (EC ..) hf)
   rcases h2 with ⟨e,h2⟩|⟨h2,h3⟩
   ·rw[h2];exact ⟨by show 0≤_;omega,.inl rfl⟩
   ·exact ⟨h1,.inr (.inl ⟨Is h3,h2,h3⟩)⟩
  ·exact ⟨Nat.le_trans (EC ..) hf,.inr (.inl ⟨Is hr,rfl,hr⟩)⟩
theorem It {S:NS} (hS:NK S) (a:Ac) (hf:a.frame.length≤140737488351232):rT (S.step a).1:=by
 unfold NS.step
 split
 ·exact zf 6
 have h1:=hS.toNI.cP (S.aF + 1)
 dsimp only
 split
 ·exact Xvz h1 a.frame a.draw hf
 split
 ·obtain ⟨g1,g2⟩:=WX h1.toNJ a.frame hf
  rcases g2 with ⟨e,g2⟩|⟨g2,g3⟩
  ·rw[g2];exact zf e
  ·exact ⟨g1,.inr (.inl ⟨Is g3,g2,g3⟩)⟩
 split
 ·rw[Bs]
  split
  ·exact zf 2
  ·exact ⟨by show 0≤_;omega,.inl rfl⟩
 split
 ·exact zf _
 ·exact zf 4
end Go.Proofs.YtogckmommodmhaaGreatDoor
