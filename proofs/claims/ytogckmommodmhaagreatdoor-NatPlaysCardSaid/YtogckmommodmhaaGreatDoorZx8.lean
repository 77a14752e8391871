import Derived.Test.YtogckmommodmhaaGreatDoorZx7
namespace Go.Proofs.YtogckmommodmhaaGreatDoor
open List (cons_append append_assoc drop_zero append_nil nil_append map_cons map_nil length_append length_take)
open Go.RowKit
set_option linter.all false
set_option maxHeartbeats 16000000
set_option maxRecDepth 100000
structure Pk where
 ae:Int
 aF:Int
 aj:Int
 dst:Int
 aw:Int
 aN:Int
 id:Int
 flags:Int
 seq:Int
 bC:Int
 win:Int
 body:List UInt8
def Pk.enc (p:Pk):List AV:=[.int .i64 p.ae,.int .i64 p.aF,.int .i64 p.aj,.int .i64 p.dst,.int .i64 p.aw,.int .i64 p.aN,.int .i64 p.id,.int .i64 p.flags,.int .i64 p.seq,.int .i64 p.bC,.int .i64 p.win,.str p.body]
def cY:Pk:=⟨0,0,0,0,0,0,0,0,0,0,0,[]⟩
def Jl (p:Pk):Prop:=(0<=p.aF/\p.aF<=4294967295)/\(0<=p.dst/\p.dst<=4294967295)/\(0<=p.seq/\p.seq<=4294967295)/\(0<=p.bC/\p.bC<=4294967295) /\
 (0<=p.aj/\p.aj<=65535)/\(0<=p.aw/\p.aw<=65535)/\(0<=p.id/\p.id<=65535)/\(0<=p.win/\p.win<=65535)/\(1<=p.aN/\p.aN<=255)/\(0<=p.flags/\p.flags<=63)
instance (p:Pk):Decidable (Jl p):=by unfold Jl;infer_instance
def Wo (p:Pk):Prop:=(p.ae≠6/\(p.bC≠0\/p.win≠0))\/(p.ae=17/\(p.seq≠0\/p.flags≠0)) \/
 (p.ae=1/\((p.flags≠8/\p.flags≠0)\/(p.flags=8/\p.aw≠0)\/(p.flags=0/\p.aj≠0)\/65535<p.seq))
instance (p:Pk):Decidable (Wo p):=by unfold Wo;infer_instance
def Zl (p:Pk):Int :=
 if ¬ (p.ae=1\/p.ae=6\/p.ae=17) then 4
 else if ¬ Jl p then 2
 else if 64<p.body.length then 5
 else if Wo p then 1
 else 0
def Xk (ae aF dst n:Int):List UInt8:=if ae=1 then [] else be aF 4++be dst 4++be ae 2++be n 2
def mH (ae aN id n:Int):List UInt8:=[69,0]++be (20+n) 2++be id 2++[0,0]++be aN 1++be ae 1
def mI (aF dst:Int):List UInt8:=be aF 4++be dst 4
def Wi (ae aF dst aN id n:Int):List UInt8:=mH ae aN id n++be (Yj (mH ae aN id n++[0,0]++mI aF dst)) 2++mI aF dst
def Wh (p:Pk):List UInt8 :=
 if p.ae=1 then be p.flags 1++[0]
 else if p.ae=17 then be p.aj 2++be p.aw 2++be (8+p.body.length) 2
 else be p.aj 2++be p.aw 2++be p.seq 4++be p.bC 4++[80]++be p.flags 1++be p.win 2
def Wq (p:Pk):List UInt8 :=
 if p.ae=1 then be (p.aj+p.aw) 2++be p.seq 2++p.body
 else if p.ae=17 then p.body
 else [0,0]++p.body
def Xm (p:Pk):Nat:=(Wh p).length+2+(Wq p).length
def mJ (p:Pk):Nat :=
 if p.ae=17/\Yj (Xk p.ae p.aF p.dst (Xm p)++Wh p++[0,0]++Wq p)=0 then 65535
 else Yj (Xk p.ae p.aF p.dst (Xm p)++Wh p++[0,0]++Wq p)
def YA (p:Pk):List UInt8:=Wh p++be (mJ p) 2++Wq p
def Zw (p:Pk):List UInt8:=Wi p.ae p.aF p.dst p.aN p.id (Xm p)++YA p
def b1 (l:List UInt8)(k:Nat):Int:=((l.getD k 0).toNat:Int)
def w2 (l:List UInt8)(k:Nat):Int:=iT ((l.drop k).take 2)
def w4 (l:List UInt8)(k:Nat):Int:=iT ((l.drop k).take 4)
def kY (f:List UInt8):Pk:=⟨b1 f 9,w4 f 12,0,w4 f 16,0,b1 f 8,w2 f 4,0,0,0,0,[]⟩
def aC (f:List UInt8):Pk :=
 let s:=f.drop 20
 if b1 f 9=1 then { kY f with flags:=b1 s 0,seq:=w2 s 6,aj:=if b1 s 0=8 then w2 s 4 else 0,aw:=if b1 s 0=8 then 0 else w2 s 4,body:=s.drop 8 }
 else if b1 f 9=17 then { kY f with aj:=w2 s 0,aw:=w2 s 2,body:=s.drop 8 }
 else { kY f with aj:=w2 s 0,aw:=w2 s 2,seq:=w4 s 4,bC:=w4 s 8,win:=w2 s 14,flags:=b1 s 13,body:=s.drop 20 }
def cH (f:List UInt8):Int :=
 let s:=f.drop 20
 if f.length<20\/b1 f 0≠69\/w2 f 2≠f.length then 1
 else if dE (f.take 20)≠65535 then 3
 else if b1 f 1≠0\/w2 f 6≠0 then 4
 else if b1 f 8=0 then 12
 else if ¬ (b1 f 9=1\/b1 f 9=6\/b1 f 9=17) then 4
 else if s.length<(if b1 f 9=6 then 20 else 8) then 1
 else if dE (Xk (b1 f 9) (w4 f 12) (w4 f 16) s.length++s)≠65535\/(b1 f 9=17/\w2 s 6=0) then 3
 else if b1 f 9=1/\((b1 s 0≠8/\b1 s 0≠0)\/b1 s 1≠0) then 4
 else if b1 f 9=17/\w2 s 4≠s.length then 1
 else if b1 f 9=6/\(b1 s 12≠80\/63<b1 s 13\/w2 s 18≠0) then 4
 else Zl (aC f)
def py (f:List UInt8):AV:=if cH f=0 then .aR [.agg (aC f).enc,.int .i64 0] else .aR [.agg cY.enc,.int .i64 (cH f)]
def qq (l:List UInt8)(k:Nat)(n:Int):List UInt8:=(l.set k (Qy n 1)).set (k+1) (Qy n 0)
def Qt (c m n:Int):Int:=65535-qV (qV (65535-c%65536) (65535-m%65536)) n
def qs (l:List UInt8)(ck:Nat)(m n:Int):List UInt8:=qq l ck (Qt (w2 l ck) m n)
def jW (l:List UInt8)(k ck:Nat)(n:Int):List UInt8:=qq (qs l ck (w2 l k) n) k n
variable {f:List UInt8}{e:Int}{ws:List Int}{a:Nat}(gl:Nat->AV)(h0 h1 h2 h3 h4 h5 h6 h7 h8 h9 s0 s1 s2 s3 aN:Int)(p:Pk)(addr port v:Int)(l:List UInt8)(n:Int)(t:List UInt8)(k:Nat)
def Wj {p:Pk}(h:Zl p=0):(p.ae=1\/p.ae=6\/p.ae=17)/\Jl p/\p.body.length<=64/\¬ Wo p:=by
 unfold Zl at h;split at h
 ·cases h
 ·split at h
  ·cases h
  ·split at h
   ·cases h
   ·split at h
    ·cases h
    ·rename_i h1 h2 h3 h4;exact ⟨Decidable.not_not.1 h1,Decidable.not_not.1 h2,by omega,h4⟩
def JP {p:Pk}(h1:p.ae=1\/p.ae=6\/p.ae=17)(h2:Jl p)(h3:p.body.length<=64)(h4:¬ Wo p):Zl p=0:=by
 unfold Zl;rw[aa (fun h=>h h1),aa (fun h=>h h2),aa af,aa h4]
def OU (ae aN id n:Int):(mH ae aN id n).length=10:=by simp[mH,Qk]
def YB (aF dst:Int):(mI aF dst).length=8:=by simp[mI,Qk]
def Cz (ae aF dst aN id n:Int):(Wi ae aF dst aN id n).length=20:=by simp[Wi,OU,YB,Qk]
def Wn (h:p.ae=1\/p.ae=6\/p.ae=17):Xm p=(if p.ae=6 then 20 else 8)+p.body.length:=by
 unfold Xm Wh Wq;rcases h with h|h|h<;>simp[h,Qk]<;>omega
def Yfe (h:cH f=0):dE (f.take 20)=65535/\dE (Xk (b1 f 9) (w4 f 12) (w4 f 16) (f.drop 20).length++f.drop 20)=65535:=by
 unfold cH at h;dsimp only at h;generalize (if b1 f 9=6 then 20 else 8)=kk at h;split at h
 ·cases h
 split at h
 ·cases h
 split at h
 ·cases h
 split at h
 ·cases h
 split at h
 ·cases h
 split at h
 ·cases h
 split at h
 ·cases h
 rename_i h1 h2 h3 h4 h5 h6 h7;exact ⟨Decidable.not_not.1 h2,Decidable.not_not.1 fun hh=>h7 (Or.inl hh)⟩
def OV (f:List UInt8):List UInt8:=[3,13]++be (Yj ([3,13]++[0,0]++([0,0,0,0]++f.take 28))) 2++([0,0,0,0]++f.take 28)
def xu (f:List UInt8)(aF id:Int):List UInt8:=Wi 1 167772414 aF 64 id 36++OV f
def fr:List Int->List UInt8->List UInt8
 | [],t=>t
 | w::ws,t=>Qy w 1::Qy w 0::fr ws t
def YC:iT [Qy v 1,Qy v 0]=v%65536:=by
 have e1:(Qy v 1).toNat=((v/256)%256).toNat:=by
  rw[By _ _ af];simp only[UInt8.toNat_ofNat',Nat.reducePow,Int.pow_one];omega
 have e0:(Qy v 0).toNat=(v%256).toNat:=by
  rw[By _ _ af];simp only[UInt8.toNat_ofNat',Nat.reducePow,Int.pow_zero,Int.ediv_one];omega
 rw[uS _ av];simp only[oU];omega
def JQ (t:List UInt8):∀ (ws:List Int) (k:Nat),k<ws.length->w2 (fr ws t) (2*k)=ws.getD k 0%65536
 | [],_,h=>by simp at h
 | w::ws,0,_=>YC w
 | w::ws,k+1,h=>by
  have e:w2 (fr (w::ws) t) (2*(k+1))=w2 (fr ws t) (2*k):=rfl;rw[e,JQ t ws k (by simpa using h)];simp
def JR (t:List UInt8)(n:Int):∀ (ws:List Int) (k:Nat),k<ws.length->qq (fr ws t) (2*k) n=fr (ws.set k n) t
 | [],_,h=>by simp at h
 | w::ws,0,_=>rfl
 | w::ws,k+1,h=>by
  have:=JR t n ws k (by simpa using h);have e:qq (fr (w::ws) t) (2*(k+1)) n=Qy w 1::Qy w 0::qq (fr ws t) (2*k) n:=rfl;rw[e,this];rfl
def Xt2 (c m n:Int):Qt (c%65536) m n=Qt c m n:=by
 unfold Qt;rw[Int.emod_emod_of_dvd _ (Int.dvd_refl _)]
def Xlr (c m n:Int):Qt c (m%65536) n=Qt c m n:=by
 unfold Qt;rw[Int.emod_emod_of_dvd _ (Int.dvd_refl _)]
def YD (ws:List Int)(t:List UInt8)(k:Nat)(m n:Int)(h:k<ws.length):qs (fr ws t) (2*k) m n=fr (ws.set k (Qt (ws.getD k 0) m n)) t:=by
 unfold qs;rw[JQ t ws k h,Xt2,JR _ _ _ _ h]
def Yaz (ws:List Int)(t:List UInt8)(k c:Nat)(n:Int)(hk:k<ws.length)(hc:c<ws.length):jW (fr ws t) (2*k) (2*c) n=fr ((ws.set c (Qt (ws.getD c 0) (ws.getD k 0) n)).set k n) t:=by
 unfold jW;rw[JQ t ws k hk,YD _ _ _ _ _ hc,Xlr,JR _ _ _ _ (by simpa using hk)]
def YE (t:List UInt8):∀ (ws:List Int) (k:Nat),k<=ws.length->(fr ws t).drop (2*k)=fr (ws.drop k) t
 | _,0,_=>rfl
 | [],k+1,h=>by simp at h
 | w::ws,k+1,h=>by
  have:=YE t ws k (by simpa using h);show (fr ws t).drop (2*k)=_;rw[this];rfl
def Qx:List Int->Int
 | []=>0
 | w::ws=>w%65536+Qx ws
def JS:∀ ws,0<=Qx ws
 | []=>Int.le_refl _
 | w::ws=>by have:=JS ws;simp only[Qx];omega
def xx (t:List UInt8):∀ ws:List Int,(Yf (fr ws t):Int)=Qx ws+Yf t
 | []=>by simp[fr,Qx]
 | w::ws=>by
  have ih:=xx t ws;have hw:=YC w;rw[uS _ av]at hw;simp only[oU]at hw;simp only[fr,Yf,Qx];omega
def cN (T:Int):Int:=65535-(Kq T.toNat:Nat)
def ug (T:Int):0<=cN T/\cN T<=65535:=by
 unfold cN;have:=Bx T.toNat;omega
def uh (T:Int)(h:0<T):cN T<=65534/\(cN T+T)%65535=0:=by
 unfold cN Kq;rw[aa af];omega
theorem JT:cN 0=65535:=rfl
def E7 (c m n:Int):0<=Qt c m n/\Qt c m n<=65535:=by
 unfold Qt;have:=TQ (qV (65535-c%65536) (65535-m%65536)) n;omega
def E8 (c m n:Int)(hc:0<=c/\c<=65535)(hm:0<=m/\m<=65535)(hn:0<=n/\n<=65535):Qt c m n=cN (131070-c-m+n):=by
 unfold Qt cN qV;have h1:(((65535-c%65536)%65536).toNat+((65535-m%65536)%65536).toNat)=(131070-c-m).toNat:=by omega
 have h2:((Kq (131070-c-m).toNat:Nat):Int)%65536=(Kq (131070-c-m).toNat:Nat):=by
  have:=Bx (131070-c-m).toNat;omega
 have h3:(n%65536).toNat=n.toNat:=by omega
 rw[h1,h2,h3,Int.toNat_natCast,Mw,<- Int.toNat_add af af]
def JU (S T:Int)(hS:0<S)(hT:0<T)(h:(S-T)%65535=0):cN S=cN T:=by
 have:=uh S hS;have:=uh T hT;have:=ug S;have:=ug T;omega
def OX (T m n:Int)(h0:0<T)(hm:0<=m/\m<=65535)(hn:0<=n/\n<=65535)(hp:0<T-m+n):Qt (cN T) m n=cN (T-m+n):=by
 have h1:=uh T h0;have h2:=ug T;rw[E8 _ _ _ h2 hm hn];exact JU _ _ af hp af
def mK (c T:Int):Prop:=0<=c/\c<=65535/\(c+T)%65535=0
def Ab (c T m n:Int)(h:mK c T)(hm:0<=m/\m<=65535)(hn:0<=n/\n<=65535):mK (Qt c m n) (T-m+n):=by
 obtain ⟨h1,h2,h3⟩:=h;have hb:=E7 c m n;refine ⟨hb.1,hb.2,?_⟩;rw[E8 _ _ _ ⟨h1,h2⟩ hm hn];by_cases h0:131070-c-m+n=0
 ·rw[h0,JT];omega
 ·have:=uh (131070-c-m+n) af;omega
def CA (ae:Int):Nat:=if ae=1 then 22 else if ae=17 then 26 else 36
def tl (b:List UInt8)(ae:Int)(m n:Int):List UInt8:=if ae=1 then b else qs b (CA ae) m n
def Uj (f:List UInt8)(ae aN:Int)(at' wh:Nat)(addr port:Int):List UInt8 :=
 let b1:=tl (jW f at' 10 (addr/65536)) ae (w2 f at') (addr/65536)
 let b2:=tl (jW b1 (at'+2) 10 (addr%65536)) ae (w2 b1 (at'+2)) (addr%65536)
 let b3:=jW b2 8 10 ((aN-1)*256+ae)
 let b4:=jW b3 wh (CA ae) port
 if (w2 b4 (CA ae)=0)/\(ae=17\/dE (b4.drop 20)=0) then qq b4 (CA ae) 65535 else b4
def vF (side:Int):Nat:=if side=0 then 12 else 16
def vG (ae side:Int):Nat:=if ae=1 then 24 else if side=0 then 20 else 22
def ui (p:Pk)(side addr port:Int):Pk:=if side=0 then { p with aN:=p.aN-1,aF:=addr,aj:=port } else { p with aN:=p.aN-1,dst:=addr,aw:=port }
def Wf (p:Pk)(side addr port:Int):Int :=
 if side<0\/side>1\/¬ (0<=addr/\addr<=4294967295)\/¬ (0<=port/\port<=65535) then 2
 else if p.aN=1 then 12
 else if p.ae=1/\¬ (side=0 ↔ p.flags=8) then 4
 else 0
def ic (p:Pk)(n c:Int):List Int:=[17664,20+n,p.id,0,p.aN*256+p.ae,c,p.aF/65536,p.aF%65536,p.dst/65536,p.dst%65536]
def jC (p:Pk)(c:Int):List Int :=
 if p.ae=1 then [p.flags*256,c,p.aj+p.aw,p.seq]
 else if p.ae=17 then [p.aj,p.aw,8+p.body.length,c]
 else [p.aj,p.aw,p.seq/65536,p.seq%65536,p.bC/65536,p.bC%65536,80*256+p.flags,p.win,c,0]
theorem nE:be v 2++t=fr [v] t:=rfl
def CB (v w:Int)(k j:Nat)(hk:k<=8)(hj:j<=8)(h:v/256 ^ k%256=w/256 ^ j%256):Qy v k=Qy w j:=by
 rw[By _ _ hk,By _ _ hj,h]
def CC:be v 4++t=fr [v/65536,v%65536] t:=by
 show Qy v 3::Qy v 2::Qy v 1::Qy v 0::t=Qy (v/65536) 1::Qy (v/65536) 0::Qy (v%65536) 1::Qy (v%65536) 0::t;rw[CB v (v/65536) 3 1 af af af,CB v (v/65536) 2 0 af af af,CB v (v%65536) 1 1 af af af,CB v (v%65536) 0 0 af af af]
def OY (v w:Int)(hw:0<=w/\w<256)(t:List UInt8):be v 1++(be w 1++t)=fr [v*256+w] t:=by
 show Qy v 0::Qy w 0::t=Qy (v*256+w) 1::Qy (v*256+w) 0::t;rw[CB v (v*256+w) 0 1 af af af,CB w (v*256+w) 0 0 af af af]
def Ad (a b:List Int)(t:List UInt8):fr a (fr b t)=fr (a++b) t:=by
 induction a with
 | nil=>rfl
 | cons w a ih=>simp only[cons_append,fr,ih]
def YF (n c:Int)(hp:0<=p.ae/\p.ae<256)(t:List UInt8):mH p.ae p.aN p.id n++be c 2++mI p.aF p.dst++t=fr (ic p n c) t:=by
 unfold mH mI;have e0:∀ t,[(69:UInt8),0]++t=fr [17664] t:=fun t=>by
  show (69:UInt8)::0::t=Qy 17664 1::Qy 17664 0::t;rw[show Qy 17664 1=69 by decide,show Qy 17664 0=0 by decide]
 have e1:∀ t,[(0:UInt8),0]++t=fr [0] t:=fun t=>by
  show (0:UInt8)::0::t=Qy 0 1::Qy 0 0::t;rw[show Qy 0 1=0 by decide,show Qy 0 0=0 by decide]
 simp only[append_assoc];rw[CC p.dst,CC p.aF,nE c,OY _ _ hp,e1,nE p.id,nE (20+n),e0];simp only[Ad];rfl
def YG (hp:p.ae=1\/p.ae=6\/p.ae=17)(hf:0<=p.flags/\p.flags<256)(c:Int):Wh p++be c 2++Wq p=fr (jC p c) p.body:=by
 unfold Wh Wq jC;rcases hp with h|h|h
 ·simp only[h,if_true];have e:∀ t,be p.flags 1++([0]++t)=fr [p.flags*256] t:=fun t=>by
   have:=OY p.flags 0 af t;rw[Int.add_zero]at this;rw[<- this];rfl
  simp only[append_assoc];rw[nE p.seq,nE (p.aj+p.aw),nE c,e];simp only[Ad];rfl
 ·have h1:¬ p.ae=1:=by omega
  have h2:¬ p.ae=17:=by omega
  simp only[h1,h2,if_false];have e:∀ t,[80]++(be p.flags 1++t)=fr [80*256+p.flags] t:=fun t=>by
   rw[<- OY 80 p.flags hf t];rfl
  have e1:∀ t,[(0:UInt8),0]++t=fr [0] t:=fun t=>by
   show (0:UInt8)::0::t=Qy 0 1::Qy 0 0::t;rw[show Qy 0 1=0 by decide,show Qy 0 0=0 by decide]
  simp only[append_assoc];rw[e1,nE c,nE p.win,e,CC p.bC,CC p.seq,nE p.aw,nE p.aj];simp only[Ad];rfl
 ·have h1:¬ (17:Int)=1:=by omega
  simp only[h1,h,if_false,if_true];simp only[append_assoc];rw[nE c,nE (8+(p.body.length:Int)),nE p.aw,nE p.aj];simp only[Ad];rfl
def Yf9 {t:List UInt8}   (h:a%2=0/\a/2<ws.length):w2 (fr ws t) a=ws.getD (a/2) 0%65536:=by
 have:=JQ t ws _ h.2
 rwa [show 2*(a/2)=a by omega]at this
def Xv0 {t:List UInt8}   {n:Int}(h:a%2=0/\a/2<ws.length):qq (fr ws t) a n=fr (ws.set (a/2) n) t:=by
 have:=JR t n ws _ h.2
 rwa [show 2*(a/2)=a by omega]at this
def Xv9 {t:List UInt8}   {m n:Int}(h:a%2=0/\a/2<ws.length):qs (fr ws t) a m n=fr (ws.set (a/2) (Qt (ws.getD (a/2) 0) m n)) t:=by
 have:=YD ws t _ m n h.2
 rwa [show 2*(a/2)=a by omega]at this
def Xxv {t:List UInt8}  {a b:Nat}{n:Int}(h:a%2=0/\a/2<ws.length)(h2:b%2=0/\b/2<ws.length):jW (fr ws t) a b n=fr ((ws.set (b/2) (Qt (ws.getD (b/2) 0) (ws.getD (a/2) 0) n)).set (a/2) n) t:=by
 have:=Yaz ws t _ _ n h.2 h2.2
 rwa [show 2*(a/2)=a by omega,show 2*(b/2)=b by omega]at this
def Xwf {t:List UInt8}   (h:a%2=0/\a/2<=ws.length):(fr ws t).drop a=fr (ws.drop (a/2)) t:=by
 have:=YE t ws _ h.2
 rwa [show 2*(a/2)=a by omega]at this
structure OZ (p:Prop):Prop where
 o:p
def CD {p q:Prop}(k:q)(h:OZ q->p:=by intro h;(try unfold Uj);(try unfold tl CA);simp only[Yf9,Xv0,Xv9,Xxv,Xwf,reduceCtorEq,Int.reduceEq,if_true,if_false,↓reduceIte,false_or,true_or,and_true,true_and,and_self,Nat.reduceAdd,Nat.reduceDiv,Nat.reduceMod,Nat.reduceLT,Nat.reduceLeDiff,List.set_cons_succ,List.set_cons_zero,List.getD_cons_succ,List.getD_cons_zero,List.length_cons,List.length_nil,List.length_set,List.drop_succ_cons,drop_zero];exact h.o):p:=h ⟨k⟩
def O0:Uj (fr [h0,h1,h2,h3,h4,h5,h6,h7,h8,h9,s0,s1,s2,s3] t) 1 aN 12 24 addr port=fr [h0,h1,h2,h3,((aN-1)*256+1),(Qt (Qt (Qt h5 h6 (addr/65536)) h7 (addr%65536)) h4 ((aN-1)*256+1)),(addr/65536),(addr%65536),h8,h9,s0,(if (Qt s1 s2 port)%65536=0/\dE (fr [s0,(Qt s1 s2 port),port,s3] t)=0 then 65535 else (Qt s1 s2 port)),port,s3] t:=by
 refine CD ?_;split<;>rfl
def O1:Uj (fr [h0,h1,h2,h3,h4,h5,h6,h7,h8,h9,s0,s1,s2,s3] t) 1 aN 16 24 addr port=fr [h0,h1,h2,h3,((aN-1)*256+1),(Qt (Qt (Qt h5 h8 (addr/65536)) h9 (addr%65536)) h4 ((aN-1)*256+1)),h6,h7,(addr/65536),(addr%65536),s0,(if (Qt s1 s2 port)%65536=0/\dE (fr [s0,(Qt s1 s2 port),port,s3] t)=0 then 65535 else (Qt s1 s2 port)),port,s3] t:=by
 refine CD ?_;split<;>rfl
def O2:Uj (fr [h0,h1,h2,h3,h4,h5,h6,h7,h8,h9,s0,s1,s2,s3] t) 17 aN 12 20 addr port=fr [h0,h1,h2,h3,((aN-1)*256+17),(Qt (Qt (Qt h5 h6 (addr/65536)) h7 (addr%65536)) h4 ((aN-1)*256+17)),(addr/65536),(addr%65536),h8,h9,port,s1,s2,(if (Qt (Qt (Qt s3 (h6%65536) (addr/65536)) (h7%65536) (addr%65536)) s0 port)%65536=0 then 65535 else (Qt (Qt (Qt s3 (h6%65536) (addr/65536)) (h7%65536) (addr%65536)) s0 port))] t:=by
 refine CD ?_;split<;>rfl
def O3:Uj (fr [h0,h1,h2,h3,h4,h5,h6,h7,h8,h9,s0,s1,s2,s3] t) 17 aN 16 22 addr port=fr [h0,h1,h2,h3,((aN-1)*256+17),(Qt (Qt (Qt h5 h8 (addr/65536)) h9 (addr%65536)) h4 ((aN-1)*256+17)),h6,h7,(addr/65536),(addr%65536),s0,port,s2,(if (Qt (Qt (Qt s3 (h8%65536) (addr/65536)) (h9%65536) (addr%65536)) s1 port)%65536=0 then 65535 else (Qt (Qt (Qt s3 (h8%65536) (addr/65536)) (h9%65536) (addr%65536)) s1 port))] t:=by
 refine CD ?_;split<;>rfl
def O4 (h0 h1 h2 h3 h4 h5 h6 h7 h8 h9 s0 s1 s2 s3 s4 s5 s6 s7 s8 s9 aN addr port:Int)(t:List UInt8):Uj (fr [h0,h1,h2,h3,h4,h5,h6,h7,h8,h9,s0,s1,s2,s3,s4,s5,s6,s7,s8,s9] t) 6 aN 12 20 addr port=fr [h0,h1,h2,h3,((aN-1)*256+6),(Qt (Qt (Qt h5 h6 (addr/65536)) h7 (addr%65536)) h4 ((aN-1)*256+6)),(addr/65536),(addr%65536),h8,h9,port,s1,s2,s3,s4,s5,s6,s7,(if (Qt (Qt (Qt s8 (h6%65536) (addr/65536)) (h7%65536) (addr%65536)) s0 port)%65536=0/\dE (fr [port,s1,s2,s3,s4,s5,s6,s7,(Qt (Qt (Qt s8 (h6%65536) (addr/65536)) (h7%65536) (addr%65536)) s0 port),s9] t)=0 then 65535 else (Qt (Qt (Qt s8 (h6%65536) (addr/65536)) (h7%65536) (addr%65536)) s0 port)),s9] t:=by
 refine CD ?_;split<;>rfl
def O5 (h0 h1 h2 h3 h4 h5 h6 h7 h8 h9 s0 s1 s2 s3 s4 s5 s6 s7 s8 s9 aN addr port:Int)(t:List UInt8):Uj (fr [h0,h1,h2,h3,h4,h5,h6,h7,h8,h9,s0,s1,s2,s3,s4,s5,s6,s7,s8,s9] t) 6 aN 16 22 addr port=fr [h0,h1,h2,h3,((aN-1)*256+6),(Qt (Qt (Qt h5 h8 (addr/65536)) h9 (addr%65536)) h4 ((aN-1)*256+6)),h6,h7,(addr/65536),(addr%65536),s0,port,s2,s3,s4,s5,s6,s7,(if (Qt (Qt (Qt s8 (h8%65536) (addr/65536)) (h9%65536) (addr%65536)) s1 port)%65536=0/\dE (fr [s0,port,s2,s3,s4,s5,s6,s7,(Qt (Qt (Qt s8 (h8%65536) (addr/65536)) (h9%65536) (addr%65536)) s1 port),s9] t)=0 then 65535 else (Qt (Qt (Qt s8 (h8%65536) (addr/65536)) (h9%65536) (addr%65536)) s1 port)),s9] t:=by
 refine CD ?_;split<;>rfl
def E9:be 0 2=[0,0]:=by decide
def YH (T:Int)(h:(Yf l:Int)=T):(Yj l:Int)=cN T:=by
 subst h;have:=DB l;unfold Yj cN dE at *
 rw[Int.toNat_natCast];omega
def Yaq (hp:0<=p.ae/\p.ae<256)(t:List UInt8):Wi p.ae p.aF p.dst p.aN p.id n++t=fr (ic p n (cN (Qx (ic p n 0)))) t:=by
 unfold Wi;rw[YH _ (Qx (ic p n 0)),YF p n _ hp];have:=YF p n 0 hp [];rw[E9,append_nil]at this;rw[this,xx];simp[Yf]
def sy (p:Pk)(n:Int):List Int:=if p.ae=1 then [] else [p.aF/65536,p.aF%65536,p.dst/65536,p.dst%65536,p.ae,n]
def YI:Xk p.ae p.aF p.dst n++t=fr (sy p n) t:=by
 unfold Xk sy;split
 ·rfl
 ·simp only[append_assoc];rw[nE n,nE p.ae,CC p.dst,CC p.aF];simp only[Ad];rfl
def kn (p:Pk):Int:=Qx (sy p (Xm p))+Qx (jC p 0)+Yf p.body
def qt (hp:p.ae=1\/p.ae=6\/p.ae=17)(hf:0<=p.flags/\p.flags<256):(mJ p:Int)=if p.ae=17/\cN (kn p)=0 then 65535 else cN (kn p):=by
 have e:(Yj (Xk p.ae p.aF p.dst (Xm p)++Wh p++[0,0]++Wq p):Int)=cN (kn p):=by
  apply YH;have h:=YG p hp hf 0;rw[E9]at h;rw[append_assoc,append_assoc,<- append_assoc (Wh p),h,YI,xx,Int.add_comm,xx];unfold kn;omega
 unfold mJ;by_cases h:p.ae=17/\cN (kn p)=0
 ·rw[am ⟨h.1,by omega⟩,am h];rfl
 ·rw[aa (fun hh=>h ⟨hh.1,by omega⟩),aa h,e]
def Ua (hp:p.ae=1\/p.ae=6\/p.ae=17)(hf:0<=p.flags/\p.flags<256):Zw p=fr (ic p (Xm p) (cN (Qx (ic p (Xm p) 0)))++jC p (mJ p)) p.body:=by
 unfold Zw YA;rw[YG p hp hf,Yaq p _ af,Ad]
def JV (T m1 n1 m2 n2 m3 n3:Int)(lQ:0<=m1/\m1<=65535)(mL:0<=n1/\n1<=65535)(lR:0<=m2/\m2<=65535)(kZ:0<=n2/\n2<=65535)(Ae:0<=m3/\m3<=65535)(vH:0<=n3/\n3<=65535)(h:0<T-m1-m2-m3) :
  Qt (Qt (Qt (cN T) m1 n1) m2 n2) m3 n3=cN (T-m1+n1-m2+n2-m3+n3):=by
 rw[OX T m1 n1 af lQ mL af,OX _ m2 n2 af lR kZ af,OX _ m3 n3 af Ae vH af]
def YJ (c T m1 n1 m2 n2 m3 n3:Int)(hc:mK c T)(lQ:0<=m1/\m1<=65535)(mL:0<=n1/\n1<=65535)(lR:0<=m2/\m2<=65535)(kZ:0<=n2/\n2<=65535)(Ae:0<=m3/\m3<=65535)(vH:0<=n3/\n3<=65535) :
  mK (Qt (Qt (Qt c m1 n1) m2 n2) m3 n3) (T-m1+n1-m2+n2-m3+n3) :=
 Ab _ _ _ _ (Ab _ _ _ _ (Ab _ _ _ _ hc lQ mL) lR kZ) Ae vH
def CE {S T:Int}(h:S=T):cN S=cN T:=by rw[h]
def JW (ws:List Int)(t:List UInt8):dE (fr ws t)=0 ↔ Qx ws+Yf t=0:=by
 have:=xx t ws;unfold dE Kq;split<;>omega
def YK (T m n r:Int)(hm:0<=m/\m<=65535)(hn:0<=n/\n<=65535)(hr:0<=r)(hT:T=m+r)(P:Prop)[Decidable P](hP:P ↔ Qt (cN T) m n+n+r=0):(if Qt (cN T) m n%65536=0/\P then 65535 else Qt (cN T) m n)=cN (n+r):=by
 have hb:=E7 (cN T) m n;have hs:=ug T;have he:=E8 (cN T) m n hs hm hn;by_cases h0:n+r=0
 ·have O6:n=0:=by omega
  have hr0:r=0:=by omega
  rw[h0,JT];have e:Qt (cN T) m n=0:=by
   rw[he];by_cases O7:T=0
   ·have Fa:m=0:=by omega
    have h9:(131070:Int)-cN T-m+n=65535:=by rw[O7,JT];omega
    rw[h9];decide
   ·have h1:=uh T af;have h2:=uh (131070-cN T-m+n) af;have h3:=ug (131070-cN T-m+n);omega
  rw[am ⟨by rw[e];rfl,hP.2 (by rw[e];omega)⟩]
 ·rw[aa (fun hh=>by have:=hP.1 hh.2;omega),he];by_cases O7:T=0
  ·have Fa:m=0:=by omega
   have hr0:r=0:=by omega
   have h9:cN T=65535:=by rw[O7,JT]
   exact JU _ _ af af af
  ·have h1:=uh T af;exact JU _ _ af af af
def Xbu (h:Zl p=0)(side addr port:Int)(ht:Wf p side addr port=0):Zl (ui p side addr port)=0:=by
 obtain ⟨hp,hr,hl,hf⟩:=Wj h;unfold Wf at ht;split at ht
 ·cases ht
 split at ht
 ·cases ht
 split at ht
 ·cases ht
 rename_i t1 t2 t3;obtain ⟨r1,r2,r3,r4,r5,r6,r7,r8,r9,iF⟩:=hr;rcases p with ⟨ae,aF,aj,dst,aw,aN,id,flags,seq,bC,win,body⟩
 dsimp only at *
 unfold Wo at hf;dsimp only at hf;have ha:0<=addr/\addr<=4294967295:=by omega
 have hq:0<=port/\port<=65535:=by omega
 unfold ui;split
 ·refine JP hp ⟨ha,r2,r3,r4,hq,r6,r7,r8,⟨?_,?_⟩,iF⟩ hl ?_
  ·dsimp only;omega
  ·dsimp only;omega
  ·unfold Wo;dsimp only;omega
 ·refine JP hp ⟨r1,ha,r3,r4,r5,hq,r7,r8,⟨?_,?_⟩,iF⟩ hl ?_
  ·dsimp only;omega
  ·dsimp only;omega
  ·unfold Wo;dsimp only;omega
def O8 (n id aN pr f1 f2 d1 d2 a1 a2:Int)(h1:0<=n/\n<=200)(h2:0<=id/\id<=65535)(h3:2<=aN/\aN<=255)(h4:0<=pr/\pr<=255)(h5:0<=f1/\f1<=65535)(h6:0<=f2/\f2<=65535)(h7:0<=d1/\d1<=65535)(h8:0<=d2/\d2<=65535)(h9:0<=a1/\a1<=65535)(fR:0<=a2/\a2<=65535) :
  Qt (Qt (Qt (cN (Qx [17664,20+n,id,0,aN*256+pr,0,f1,f2,d1,d2])) f1 a1) f2 a2) (aN*256+pr) ((aN-1)*256+pr)=cN (Qx [17664,20+n,id,0,(aN-1)*256+pr,0,a1,a2,d1,d2]):=by
 rw[JV _ _ _ _ _ _ _ h5 h9 h6 fR af af (by simp only[Qx];omega)];apply CE;simp only[Qx];omega
def O9 (n id aN pr f1 f2 d1 d2 a1 a2:Int)(h1:0<=n/\n<=200)(h2:0<=id/\id<=65535)(h3:2<=aN/\aN<=255)(h4:0<=pr/\pr<=255)(h5:0<=f1/\f1<=65535)(h6:0<=f2/\f2<=65535)(h7:0<=d1/\d1<=65535)(h8:0<=d2/\d2<=65535)(h9:0<=a1/\a1<=65535)(fR:0<=a2/\a2<=65535) :
  Qt (Qt (Qt (cN (Qx [17664,20+n,id,0,aN*256+pr,0,f1,f2,d1,d2])) d1 a1) d2 a2) (aN*256+pr) ((aN-1)*256+pr)=cN (Qx [17664,20+n,id,0,(aN-1)*256+pr,0,f1,f2,a1,a2]):=by
 rw[JV _ _ _ _ _ _ _ h7 h9 h8 fR af af (by simp only[Qx];omega)];apply CE;simp only[Qx];omega
def YL {k:Int}{P:Prop}[Decidable P](h:¬ P):(if P then 65535 else k)=k:=aa h
def YM (k T:Int)(h:mK k T)(hT:0<T):(if k%65536=0 then 65535 else k)=if cN T=0 then 65535 else cN T:=by
 obtain ⟨h1,h2,h3⟩:=h;have h4:=uh T hT;have h5:=ug T;split
 ·rename_i hh;split
  ·rfl
  ·omega
 ·rename_i hh;have:k≠0:=fun e=>hh af;split<;>omega
def YN (T:Int)(h:0<T):mK (if cN T=0 then 65535 else cN T) T:=by
 have h4:=uh T h;have h5:=ug T;unfold mK;split<;>omega
def Xky (aF aj dst aw aN id flags seq bC win addr port:Int)(body:List UInt8)(r1:0<=aF/\aF<=4294967295)(r2:0<=dst/\dst<=4294967295)(r3:0<=seq/\seq<=4294967295)(r4:0<=bC/\bC<=4294967295)(r5:0<=aj/\aj<=65535)(r6:0<=aw/\aw<=65535)(r7:0<=id/\id<=65535)(r8:0<=win/\win<=65535)(r9:2<=aN/\aN<=255)(iF:0<=flags/\flags<=63)(hl:body.length<=64)(ha:0<=addr/\addr<=4294967295)(hq:0<=port/\port<=65535)(r11:seq<=65535):Uj (Zw (⟨1,aF,aj,dst,0,aN,id,flags,seq,bC,win,body⟩:Pk)) 1 aN 12 24 addr port=Zw (⟨1,addr,port,dst,0,aN-1,id,flags,seq,bC,win,body⟩:Pk):=by
 generalize hP:(⟨1,aF,aj,dst,0,aN,id,flags,seq,bC,win,body⟩:Pk)=P;generalize hQ:(⟨1,addr,port,dst,0,aN-1,id,flags,seq,bC,win,body⟩:Pk)=Q;have hN:=Wn P (by subst hP hQ;simp);have hM:=Wn Q (by subst hP hQ;simp);have jD:Xm Q=Xm P:=by rw[hM,hN];subst hP hQ;rfl
 have dO:Xm P<=84:=by rw[hN];subst hP;simp;omega
 have jE:=qt P (by subst hP hQ;simp) (by subst hP hQ;dsimp only;omega);have mM:=qt Q (by subst hP hQ;simp) (by subst hP hQ;dsimp only;omega);rw[Ua P (by subst hP hQ;simp) (by subst hP hQ;dsimp only;omega),Ua Q (by subst hP hQ;simp) (by subst hP hQ;dsimp only;omega),jE,mM,jD];unfold kn sy;rw[jD];clear jE mM hM hN jD;generalize Xm P=n at *
 subst hP hQ;unfold ic jC;dsimp only;simp only[reduceCtorEq,Int.reduceEq,if_true,if_false,↓reduceIte,false_and,true_and,cons_append,nil_append];rw[O0];refine congrArg (fun l=>fr l body) ?_;rw[O8 _ _ _ _ _ _ _ _ _ _ af af af af af af af af af af];have hS:=Int.natCast_nonneg (Yf body);have hck:=YK (Qx []+Qx [flags*256,0,aj+0,seq]+Yf body) (aj+0) port (flags*256+seq+Yf body) af af af (by simp only[Qx];omega) (dE (fr [flags*256,Qt (cN (Qx []+Qx [flags*256,0,aj+0,seq]+Yf body)) (aj+0) port,port,seq] body)=0) (by
  have hb:=E7 (cN (Qx []+Qx [flags*256,0,aj+0,seq]+Yf body)) (aj+0) port;rw[JW];generalize Qt (cN (Qx []+Qx [flags*256,0,aj+0,seq]+Yf body)) (aj+0) port=u at *;simp only[Qx];omega)
 rw[hck];have e2:cN (port+(flags*256+seq+Yf body))=cN (Qx []+Qx [flags*256,0,port+0,seq]+Yf body):=by apply CE;simp only[Qx];omega
 rw[e2];simp
def Xkz (aF aj dst aw aN id flags seq bC win addr port:Int)(body:List UInt8)(r1:0<=aF/\aF<=4294967295)(r2:0<=dst/\dst<=4294967295)(r3:0<=seq/\seq<=4294967295)(r4:0<=bC/\bC<=4294967295)(r5:0<=aj/\aj<=65535)(r6:0<=aw/\aw<=65535)(r7:0<=id/\id<=65535)(r8:0<=win/\win<=65535)(r9:2<=aN/\aN<=255)(iF:0<=flags/\flags<=63)(hl:body.length<=64)(ha:0<=addr/\addr<=4294967295)(hq:0<=port/\port<=65535)(r11:seq<=65535):Uj (Zw (⟨1,aF,0,dst,aw,aN,id,flags,seq,bC,win,body⟩:Pk)) 1 aN 16 24 addr port=Zw (⟨1,aF,0,addr,port,aN-1,id,flags,seq,bC,win,body⟩:Pk):=by
 generalize hP:(⟨1,aF,0,dst,aw,aN,id,flags,seq,bC,win,body⟩:Pk)=P;generalize hQ:(⟨1,aF,0,addr,port,aN-1,id,flags,seq,bC,win,body⟩:Pk)=Q;have hN:=Wn P (by subst hP hQ;simp);have hM:=Wn Q (by subst hP hQ;simp);have jD:Xm Q=Xm P:=by rw[hM,hN];subst hP hQ;rfl
 have dO:Xm P<=84:=by rw[hN];subst hP;simp;omega
 have jE:=qt P (by subst hP hQ;simp) (by subst hP hQ;dsimp only;omega);have mM:=qt Q (by subst hP hQ;simp) (by subst hP hQ;dsimp only;omega);rw[Ua P (by subst hP hQ;simp) (by subst hP hQ;dsimp only;omega),Ua Q (by subst hP hQ;simp) (by subst hP hQ;dsimp only;omega),jE,mM,jD];unfold kn sy;rw[jD];clear jE mM hM hN jD;generalize Xm P=n at *
 subst hP hQ;unfold ic jC;dsimp only;simp only[reduceCtorEq,Int.reduceEq,if_true,if_false,↓reduceIte,false_and,true_and,cons_append,nil_append];rw[O1];refine congrArg (fun l=>fr l body) ?_;rw[O9 _ _ _ _ _ _ _ _ _ _ af af af af af af af af af af];have hS:=Int.natCast_nonneg (Yf body);have hck:=YK (Qx []+Qx [flags*256,0,0+aw,seq]+Yf body) (0+aw) port (flags*256+seq+Yf body) af af af (by simp only[Qx];omega) (dE (fr [flags*256,Qt (cN (Qx []+Qx [flags*256,0,0+aw,seq]+Yf body)) (0+aw) port,port,seq] body)=0) (by
  have hb:=E7 (cN (Qx []+Qx [flags*256,0,0+aw,seq]+Yf body)) (0+aw) port;rw[JW];generalize Qt (cN (Qx []+Qx [flags*256,0,0+aw,seq]+Yf body)) (0+aw) port=u at *;simp only[Qx];omega)
 rw[hck];have e2:cN (port+(flags*256+seq+Yf body))=cN (Qx []+Qx [flags*256,0,0+port,seq]+Yf body):=by apply CE;simp only[Qx];omega
 rw[e2];simp
def Xo2 (aF aj dst aw aN id flags seq bC win addr port:Int)(body:List UInt8)(r1:0<=aF/\aF<=4294967295)(r2:0<=dst/\dst<=4294967295)(r3:0<=seq/\seq<=4294967295)(r4:0<=bC/\bC<=4294967295)(r5:0<=aj/\aj<=65535)(r6:0<=aw/\aw<=65535)(r7:0<=id/\id<=65535)(r8:0<=win/\win<=65535)(r9:2<=aN/\aN<=255)(iF:0<=flags/\flags<=63)(hl:body.length<=64)(ha:0<=addr/\addr<=4294967295)(hq:0<=port/\port<=65535):Uj (Zw (⟨17,aF,aj,dst,aw,aN,id,flags,seq,bC,win,body⟩:Pk)) 17 aN 12 20 addr port=Zw (⟨17,addr,port,dst,aw,aN-1,id,flags,seq,bC,win,body⟩:Pk):=by
 generalize hP:(⟨17,aF,aj,dst,aw,aN,id,flags,seq,bC,win,body⟩:Pk)=P;generalize hQ:(⟨17,addr,port,dst,aw,aN-1,id,flags,seq,bC,win,body⟩:Pk)=Q;have hN:=Wn P (by subst hP hQ;simp);have hM:=Wn Q (by subst hP hQ;simp);have jD:Xm Q=Xm P:=by rw[hM,hN];subst hP hQ;rfl
 have dO:Xm P<=84:=by rw[hN];subst hP;simp;omega
 have jE:=qt P (by subst hP hQ;simp) (by subst hP hQ;dsimp only;omega);have mM:=qt Q (by subst hP hQ;simp) (by subst hP hQ;dsimp only;omega);rw[Ua P (by subst hP hQ;simp) (by subst hP hQ;dsimp only;omega),Ua Q (by subst hP hQ;simp) (by subst hP hQ;dsimp only;omega),jE,mM,jD];unfold kn sy;rw[jD];clear jE mM hM hN jD;generalize Xm P=n at *
 subst hP hQ;unfold ic jC;dsimp only;simp only[reduceCtorEq,Int.reduceEq,if_true,if_false,↓reduceIte,false_and,true_and,cons_append,nil_append];rw[O2];refine congrArg (fun l=>fr l body) ?_;rw[O8 _ _ _ _ _ _ _ _ _ _ af af af af af af af af af af];have e1:aF/65536%65536=aF/65536:=by omega
 have e2:aF%65536%65536=aF%65536:=by omega
 rw[e1,e2];have hS:=Int.natCast_nonneg (Yf body);have gO:=YN (Qx [aF/65536,aF%65536,dst/65536,dst%65536,17,↑n]+Qx [aj,aw,8 + ↑body.length,0]+Yf body) (by simp only[Qx];omega);have hk:=YJ _ _ (aF/65536) (addr/65536) (aF%65536) (addr%65536) aj port gO af af af af af af;have hT:Qx [aF/65536,aF%65536,dst/65536,dst%65536,17,↑n]+Qx [aj,aw,8 + ↑body.length,0]+Yf body-(aF/65536)+addr/65536-(aF%65536)+addr%65536-aj+port=Qx [addr/65536,addr%65536,dst/65536,dst%65536,17,↑n]+Qx [port,aw,8 + ↑body.length,0]+Yf body:=by simp only[Qx];omega
 rw[hT]at hk;have hck:=YM _ _ hk (by simp only[Qx];omega);rw[hck]
def Xm7 (aF aj dst aw aN id flags seq bC win addr port:Int)(body:List UInt8)(r1:0<=aF/\aF<=4294967295)(r2:0<=dst/\dst<=4294967295)(r3:0<=seq/\seq<=4294967295)(r4:0<=bC/\bC<=4294967295)(r5:0<=aj/\aj<=65535)(r6:0<=aw/\aw<=65535)(r7:0<=id/\id<=65535)(r8:0<=win/\win<=65535)(r9:2<=aN/\aN<=255)(iF:0<=flags/\flags<=63)(hl:body.length<=64)(ha:0<=addr/\addr<=4294967295)(hq:0<=port/\port<=65535):Uj (Zw (⟨17,aF,aj,dst,aw,aN,id,flags,seq,bC,win,body⟩:Pk)) 17 aN 16 22 addr port=Zw (⟨17,aF,aj,addr,port,aN-1,id,flags,seq,bC,win,body⟩:Pk):=by
 generalize hP:(⟨17,aF,aj,dst,aw,aN,id,flags,seq,bC,win,body⟩:Pk)=P;generalize hQ:(⟨17,aF,aj,addr,port,aN-1,id,flags,seq,bC,win,body⟩:Pk)=Q;have hN:=Wn P (by subst hP hQ;simp);have hM:=Wn Q (by subst hP hQ;simp);have jD:Xm Q=Xm P:=by rw[hM,hN];subst hP hQ;rfl
 have dO:Xm P<=84:=by rw[hN];subst hP;simp;omega
 have jE:=qt P (by subst hP hQ;simp) (by subst hP hQ;dsimp only;omega);have mM:=qt Q (by subst hP hQ;simp) (by subst hP hQ;dsimp only;omega);rw[Ua P (by subst hP hQ;simp) (by subst hP hQ;dsimp only;omega),Ua Q (by subst hP hQ;simp) (by subst hP hQ;dsimp only;omega),jE,mM,jD];unfold kn sy;rw[jD];clear jE mM hM hN jD;generalize Xm P=n at *
 subst hP hQ;unfold ic jC;dsimp only;simp only[reduceCtorEq,Int.reduceEq,if_true,if_false,↓reduceIte,false_and,true_and,cons_append,nil_append];rw[O3];refine congrArg (fun l=>fr l body) ?_;rw[O9 _ _ _ _ _ _ _ _ _ _ af af af af af af af af af af];have e1:dst/65536%65536=dst/65536:=by omega
 have e2:dst%65536%65536=dst%65536:=by omega
 rw[e1,e2];have hS:=Int.natCast_nonneg (Yf body);have gO:=YN (Qx [aF/65536,aF%65536,dst/65536,dst%65536,17,↑n]+Qx [aj,aw,8 + ↑body.length,0]+Yf body) (by simp only[Qx];omega);have hk:=YJ _ _ (dst/65536) (addr/65536) (dst%65536) (addr%65536) aw port gO af af af af af af;have hT:Qx [aF/65536,aF%65536,dst/65536,dst%65536,17,↑n]+Qx [aj,aw,8 + ↑body.length,0]+Yf body-(dst/65536)+addr/65536-(dst%65536)+addr%65536-aw+port=Qx [aF/65536,aF%65536,addr/65536,addr%65536,17,↑n]+Qx [aj,port,8 + ↑body.length,0]+Yf body:=by simp only[Qx];omega
 rw[hT]at hk;have hck:=YM _ _ hk (by simp only[Qx];omega);rw[hck]
def Xsn (aF aj dst aw aN id flags seq bC win addr port:Int)(body:List UInt8)(r1:0<=aF/\aF<=4294967295)(r2:0<=dst/\dst<=4294967295)(r3:0<=seq/\seq<=4294967295)(r4:0<=bC/\bC<=4294967295)(r5:0<=aj/\aj<=65535)(r6:0<=aw/\aw<=65535)(r7:0<=id/\id<=65535)(r8:0<=win/\win<=65535)(r9:2<=aN/\aN<=255)(iF:0<=flags/\flags<=63)(hl:body.length<=64)(ha:0<=addr/\addr<=4294967295)(hq:0<=port/\port<=65535):Uj (Zw (⟨6,aF,aj,dst,aw,aN,id,flags,seq,bC,win,body⟩:Pk)) 6 aN 12 20 addr port=Zw (⟨6,addr,port,dst,aw,aN-1,id,flags,seq,bC,win,body⟩:Pk):=by
 generalize hP:(⟨6,aF,aj,dst,aw,aN,id,flags,seq,bC,win,body⟩:Pk)=P;generalize hQ:(⟨6,addr,port,dst,aw,aN-1,id,flags,seq,bC,win,body⟩:Pk)=Q;have hN:=Wn P (by subst hP hQ;simp);have hM:=Wn Q (by subst hP hQ;simp);have jD:Xm Q=Xm P:=by rw[hM,hN];subst hP hQ;rfl
 have dO:Xm P<=84:=by rw[hN];subst hP;simp;omega
 have jE:=qt P (by subst hP hQ;simp) (by subst hP hQ;dsimp only;omega);have mM:=qt Q (by subst hP hQ;simp) (by subst hP hQ;dsimp only;omega);rw[Ua P (by subst hP hQ;simp) (by subst hP hQ;dsimp only;omega),Ua Q (by subst hP hQ;simp) (by subst hP hQ;dsimp only;omega),jE,mM,jD];unfold kn sy;rw[jD];clear jE mM hM hN jD;generalize Xm P=n at *
 subst hP hQ;unfold ic jC;dsimp only;simp only[reduceCtorEq,Int.reduceEq,if_true,if_false,↓reduceIte,false_and,true_and,cons_append,nil_append];rw[O4];refine congrArg (fun l=>fr l body) ?_;rw[O8 _ _ _ _ _ _ _ _ _ _ af af af af af af af af af af];have e1:aF/65536%65536=aF/65536:=by omega
 have e2:aF%65536%65536=aF%65536:=by omega
 rw[e1,e2];have hS:=Int.natCast_nonneg (Yf body);have hck:Qt (Qt (Qt (cN (Qx [aF/65536,aF%65536,dst/65536,dst%65536,6,↑n]+Qx [aj,aw,seq/65536,seq%65536,bC/65536,bC%65536,80*256+flags,win,0,0]+Yf body)) (aF/65536) (addr/65536)) (aF%65536) (addr%65536)) aj port=cN (Qx [addr/65536,addr%65536,dst/65536,dst%65536,6,↑n]+Qx [port,aw,seq/65536,seq%65536,bC/65536,bC%65536,80*256+flags,win,0,0]+Yf body):=by
  rw[JV _ _ _ _ _ _ _ af af af af af af (by simp only[Qx];omega)];apply CE;simp only[Qx];omega
 rw[hck];rw[YL];rintro ⟨_,hh⟩;rw[JW]at hh;have:=ug (Qx [addr/65536,addr%65536,dst/65536,dst%65536,6,↑n]+Qx [port,aw,seq/65536,seq%65536,bC/65536,bC%65536,80*256+flags,win,0,0]+Yf body);generalize cN (Qx [addr/65536,addr%65536,dst/65536,dst%65536,6,↑n]+Qx [port,aw,seq/65536,seq%65536,bC/65536,bC%65536,80*256+flags,win,0,0]+Yf body)=u at *;simp only[Qx]at hh;omega
def Xqf (aF aj dst aw aN id flags seq bC win addr port:Int)(body:List UInt8)(r1:0<=aF/\aF<=4294967295)(r2:0<=dst/\dst<=4294967295)(r3:0<=seq/\seq<=4294967295)(r4:0<=bC/\bC<=4294967295)(r5:0<=aj/\aj<=65535)(r6:0<=aw/\aw<=65535)(r7:0<=id/\id<=65535)(r8:0<=win/\win<=65535)(r9:2<=aN/\aN<=255)(iF:0<=flags/\flags<=63)(hl:body.length<=64)(ha:0<=addr/\addr<=4294967295)(hq:0<=port/\port<=65535):Uj (Zw (⟨6,aF,aj,dst,aw,aN,id,flags,seq,bC,win,body⟩:Pk)) 6 aN 16 22 addr port=Zw (⟨6,aF,aj,addr,port,aN-1,id,flags,seq,bC,win,body⟩:Pk):=by
 generalize hP:(⟨6,aF,aj,dst,aw,aN,id,flags,seq,bC,win,body⟩:Pk)=P;generalize hQ:(⟨6,aF,aj,addr,port,aN-1,id,flags,seq,bC,win,body⟩:Pk)=Q;have hN:=Wn P (by subst hP hQ;simp);have hM:=Wn Q (by subst hP hQ;simp);have jD:Xm Q=Xm P:=by rw[hM,hN];subst hP hQ;rfl
 have dO:Xm P<=84:=by rw[hN];subst hP;simp;omega
 have jE:=qt P (by subst hP hQ;simp) (by subst hP hQ;dsimp only;omega);have mM:=qt Q (by subst hP hQ;simp) (by subst hP hQ;dsimp only;omega);rw[Ua P (by subst hP hQ;simp) (by subst hP hQ;dsimp only;omega),Ua Q (by subst hP hQ;simp) (by subst hP hQ;dsimp only;omega),jE,mM,jD];unfold kn sy;rw[jD];clear jE mM hM hN jD;generalize Xm P=n at *
 subst hP hQ;unfold ic jC;dsimp only;simp only[reduceCtorEq,Int.reduceEq,if_true,if_false,↓reduceIte,false_and,true_and,cons_append,nil_append];rw[O5];refine congrArg (fun l=>fr l body) ?_;rw[O9 _ _ _ _ _ _ _ _ _ _ af af af af af af af af af af];have e1:dst/65536%65536=dst/65536:=by omega
 have e2:dst%65536%65536=dst%65536:=by omega
 rw[e1,e2];have hS:=Int.natCast_nonneg (Yf body);have hck:Qt (Qt (Qt (cN (Qx [aF/65536,aF%65536,dst/65536,dst%65536,6,↑n]+Qx [aj,aw,seq/65536,seq%65536,bC/65536,bC%65536,80*256+flags,win,0,0]+Yf body)) (dst/65536) (addr/65536)) (dst%65536) (addr%65536)) aw port=cN (Qx [aF/65536,aF%65536,addr/65536,addr%65536,6,↑n]+Qx [aj,port,seq/65536,seq%65536,bC/65536,bC%65536,80*256+flags,win,0,0]+Yf body):=by
  rw[JV _ _ _ _ _ _ _ af af af af af af (by simp only[Qx];omega)];apply CE;simp only[Qx];omega
 rw[hck];rw[YL];rintro ⟨_,hh⟩;rw[JW]at hh;have:=ug (Qx [aF/65536,aF%65536,addr/65536,addr%65536,6,↑n]+Qx [aj,port,seq/65536,seq%65536,bC/65536,bC%65536,80*256+flags,win,0,0]+Yf body);generalize cN (Qx [aF/65536,aF%65536,addr/65536,addr%65536,6,↑n]+Qx [aj,port,seq/65536,seq%65536,bC/65536,bC%65536,80*256+flags,win,0,0]+Yf body)=u at *;simp only[Qx]at hh;omega
def Xiz (h:Zl p=0)(side addr port:Int)(ht:Wf p side addr port=0):Uj (Zw p) p.ae p.aN (vF side) (vG p.ae side) addr port=Zw (ui p side addr port):=by
 obtain ⟨hp,hr,hl,hf⟩:=Wj h;unfold Wf at ht;split at ht
 ·cases ht
 split at ht
 ·cases ht
 split at ht
 ·cases ht
 rename_i t1 t2 t3;obtain ⟨r1,r2,r3,r4,r5,r6,r7,r8,r9,iF⟩:=hr;rcases p with ⟨ae,aF,aj,dst,aw,aN,id,flags,seq,bC,win,body⟩
 dsimp only at *
 unfold Wo at hf;dsimp only at hf;have ha:0<=addr/\addr<=4294967295:=by omega
 have hq:0<=port/\port<=65535:=by omega
 unfold ui vF vG;by_cases hs:side=0
 ·rw[am hs,am hs,am hs];rcases hp with rfl|rfl|rfl
  ·have hd:aw=0:=by omega
   subst hd;exact Xky aF aj dst 0 aN id flags seq bC win addr port body r1 r2 r3 r4 r5 r6 r7 r8 af iF hl ha hq af
  ·exact Xsn aF aj dst aw aN id flags seq bC win addr port body r1 r2 r3 r4 r5 r6 r7 r8 af iF hl ha hq
  ·exact Xo2 aF aj dst aw aN id flags seq bC win addr port body r1 r2 r3 r4 r5 r6 r7 r8 af iF hl ha hq
 ·rw[aa hs,aa hs,aa hs];rcases hp with rfl|rfl|rfl
  ·have hd:aj=0:=by omega
   subst hd;exact Xkz aF 0 dst aw aN id flags seq bC win addr port body r1 r2 r3 r4 r5 r6 r7 r8 af iF hl ha hq af
  ·exact Xqf aF aj dst aw aN id flags seq bC win addr port body r1 r2 r3 r4 r5 r6 r7 r8 af iF hl ha hq
  ·exact Xm7 aF aj dst aw aN id flags seq bC win addr port body r1 r2 r3 r4 r5 r6 r7 r8 af iF hl ha hq
def YO:FT Tryz.prog 77 Tryz.f77 (aG Tryz.prog Tryz.f77) [.t 2]:=.of Tryz.func77
def YP:FT Tryz.prog 76 Tryz.f76 (aG Tryz.prog Tryz.f76) [.t 2]:=.of Tryz.func76
def Xur:FT Tryz.prog 37 Tryz.f37 (aG Tryz.prog Tryz.f37) [.t 2]:=.of Tryz.func37
def JX:FT Tryz.prog 119 Tryz.f119 (aG Tryz.prog Tryz.f119) [.t 6]:=.of Tryz.func119
def Xy5:FT Tryz.prog 121 Tryz.f121 (aG Tryz.prog Tryz.f121) [.t 12]:=.of Tryz.func121
def Xjj:FT Tryz.prog 75 Tryz.f75 (aG Tryz.prog Tryz.f75) [.t 8]:=.of Tryz.func75
def Xrn:FT Tryz.prog 74 Tryz.f74 (aG Tryz.prog Tryz.f74) [.t 2,.t 3]:=.of Tryz.func74
def YQ:FT Tryz.prog 73 Tryz.f73 (aG Tryz.prog Tryz.f73) [.t 2]:=.of Tryz.func73
def Xql:FT Tryz.prog 34 Tryz.f34 (aG Tryz.prog Tryz.f34) [.cell 2 (.ag 12),.t 3]:=.of Tryz.func34
def Ygm:FT Tryz.prog 72 Tryz.f72 (aG Tryz.prog Tryz.f72) [.cell 2 (.ag 12),.t 3]:=.of Tryz.func72
def Ybk:FT Tryz.prog 133 Tryz.f133 (aG Tryz.prog Tryz.f133) []:=.of Tryz.func133
def Xwl:FT Tryz.prog 134 Tryz.f134 (aG Tryz.prog Tryz.f134) []:=.of Tryz.func134
def YR:FT Tryz.prog 94 Tryz.f94 (aG Tryz.prog Tryz.f94) [.t 8,.t 9]:=.of Tryz.func94
def Xir:FT Tryz.prog 124 Tryz.f124 (aG Tryz.prog Tryz.f124) [.t 4,.t 5]:=.of Tryz.func124
def Xva:FT Tryz.prog 149 Tryz.f149 (aG Tryz.prog Tryz.f149) [.t 2]:=.of Tryz.func149
def Ygf:FT Tryz.prog 169 Tryz.f169 (aG Tryz.prog Tryz.f169) [.t 4]:=.of Tryz.func169
def YS:FT Tryz.prog 144 Tryz.f144 (aG Tryz.prog Tryz.f144) [.t 4]:=.of Tryz.func144
def YT:FT Tryz.prog 146 Tryz.f146 (aG Tryz.prog Tryz.f146) [.t 2]:=.of Tryz.func146
def Xus:FT Tryz.prog 143 Tryz.f143 (aG Tryz.prog Tryz.f143) [.t 12]:=.of Tryz.func143
def Xny:FT Tryz.prog 148 Tryz.f148 (aG Tryz.prog Tryz.f148) [.t 8]:=.of Tryz.func148
def Pa:FT Tryz.prog 162 Tryz.f162 (aG Tryz.prog Tryz.f162) [.t 2,.t 3]:=.of Tryz.func162
def Xp9:FT Tryz.prog 107 Tryz.f107 (aG Tryz.prog Tryz.f107) [.cell 2 (.ag 12),.t 3]:=.of Tryz.func107
def Xje:FT Tryz.prog 106 Tryz.f106 (aG Tryz.prog Tryz.f106) [.t 4,.t 5]:=.of Tryz.func106
def YU {α:Type}(p:α->Bool)(l:List α)(d:α)(k:Nat)(h:k<l.length):(l.take (k+1)).all p=((l.take k).all p&&p (l.getD k d)):=by
 have e:l.take (k+1)=l.take k++[l.getD k d]:=by
  rw[List.take_add_one,List.getElem?_eq_getElem h];simp[List.getD,h]
 rw[e,List.all_append];simp
def YV {α:Type}(p:α->Bool)(l:List α)(d:α)(k:Nat)(h:k<l.length)(hn:p (l.getD k d)=false):l.all p=false:=by
 rw[List.all_eq_false];refine ⟨l.getD k d,?_,by rw[hn];decide⟩;simp only[List.getD,List.getElem?_eq_getElem h,Option.getD_some];exact List.getElem_mem h
def dG (hi n:Int):Bool:=decide (0<=n)&&decide (n<=hi)
def Pb (l:List Int)(hl:l.length<=100):PS Tryz.prog gl 77 [.isl l.length (Ql l)] (.bool (l.all (dG 65535))):=by
 refine YO.ps (ap rfl) (by simp[Qe]) fun c hN hg=>?_
 conv in aG _ _=>cbv
 refine Qa ?_
 refine Qv (fun k:Nat=>k≤l.length∧(l.take k).all (dG 65535)=true) (fun k=>⟨[(5,.isl l.length (Ql l)),(6,.int .i64 l.length),(7,.int .i64 k)],[],0⟩) (fun k=>l.length - k) YO.mixed hN
  ⟨0,by simp,[],by exact Qp⟩ fun k hk=>?_
 obtain ⟨hk,ha⟩:=hk;refine Qa ?_;refine Qc ?_ ?_<;>intro h1
 ·have hs:=YU (dG 65535) l 0 k af;have aK:=YV (dG 65535) l 0 k af;refine Qa ?_;generalize l.getD k 0=x at *
  refine Qc ?_ ?_<;>intro h2
  ·refine Qa ?_;refine (aK ?_).symm;unfold dG;simp;omega
  ·refine Qa ?_;refine ⟨k + 1,⟨by omega,?_⟩,⟨[],?_⟩,by omega⟩
   ·rw[hs,ha];unfold dG;simp;omega
   ·omega
 ·have:k=l.length:=by omega
  subst this;refine Qa ?_;rw[List.take_length]at ha;exact ha.symm
def YW (l:List Int)(hl:l.length<=100):PS Tryz.prog gl 76 [.isl l.length (Ql l)] (.bool (l.all (dG 4294967295))):=by
 refine YP.ps (ap rfl) (by simp[Qe]) fun c hN hg=>?_
 conv in aG _ _=>cbv
 refine Qa ?_
 refine Qv (fun k:Nat=>k≤l.length∧(l.take k).all (dG 4294967295)=true) (fun k=>⟨[(5,.isl l.length (Ql l)),(6,.int .i64 l.length),(7,.int .i64 k)],[],0⟩) (fun k=>l.length - k) YP.mixed hN
  ⟨0,by simp,[],by exact Qp⟩ fun k hk=>?_
 obtain ⟨hk,ha⟩:=hk;refine Qa ?_;refine Qc ?_ ?_<;>intro h1
 ·have hs:=YU (dG 4294967295) l 0 k af;have aK:=YV (dG 4294967295) l 0 k af;refine Qa ?_;generalize l.getD k 0=x at *
  refine Qc ?_ ?_<;>intro h2
  ·refine Qa ?_;refine (aK ?_).symm;unfold dG;simp;omega
  ·refine Qa ?_;refine ⟨k + 1,⟨by omega,?_⟩,⟨[],?_⟩,by omega⟩
   ·rw[hs,ha];unfold dG;simp;omega
   ·omega
 ·have:k=l.length:=by omega
  subst this;refine Qa ?_;rw[List.take_length]at ha;exact ha.symm
def pz (p:Int):AV:=if p=1 then .aR [.int .i64 8,.int .i64 2] else if p=17 then .aR [.int .i64 8,.int .i64 6] else if p=6 then .aR [.int .i64 20,.int .i64 16] else .aR [.int .i64 0,.int .i64 0]
def YX (p:Int):PS Tryz.prog gl 74 [.int .i64 p] (pz p):=by
 refine Xrn.ps (ap rfl) (by unfold pz;split<;>(try split)<;>(try split)<;>simp[Qe,ah]) fun c hN hg=>?_
 conv in aG _ _=>cbv
 refine Qa ?_;refine Qc ?_ ?_<;>intro h1
 ·refine Qa ?_;unfold pz;rw[am h1]
 ·refine Qa ?_;refine Qc ?_ ?_<;>intro h2
  ·refine Qa ?_;unfold pz;rw[aa h1,am h2]
  ·refine Qa ?_;refine Qc ?_ ?_<;>intro h3
   ·refine Qa ?_;unfold pz;rw[aa h1,aa h2,am h3]
   ·refine Qa ?_;unfold pz;rw[aa h1,aa h2,aa h3]
def ie (e:Int):AV:=.aR [.agg cY.enc,.int .i64 e]
def Kp (e:Int):GS Tryz.prog gl 72 [.int .i64 e] [] 0 (ie e) [] 0:=by
 refine Ygm.gs (ap rfl) av fun c bf hg=>?_
 conv in aG _ _=>cbv
 unfold ie cY Pk.enc;refine Qa ?_;refine ⟨[],?_⟩;exact Qp
def YY (hl:l.length<=100000000):PS Tryz.prog gl 73 [.str l] (.int .i64 (iT l)):=by
 refine YQ.ps (ap rfl) (by simp[Qe]) fun c hN hg=>?_
 conv in aG _ _=>cbv
 refine Qa ?_;refine Ke ?_
 refine Qv (fun k:Nat=>k≤l.length) (fun k=>⟨[(3,.int .i64 (iT (l.take k))),(7,.sl 1 0 0 l.length l.length),(8,.int .i64 l.length),(9,.int .i64 k)],[(0,.cells (Xi l))],1⟩) (fun k=>l.length - k) YQ.mixed hN
  ⟨0,by omega,[],by refine Qa ?_<;>rfl⟩ fun k hk=>?_
 refine Qa ?_;refine Qc ?_ ?_<;>intro h1
 ·have hs:=TN l k af;have ho:=TM (iT (l.take k)) (l.getD k 0).toNat af (by have:=UInt8.toNat_lt (l.getD k 0);omega);have hb:=UInt8.toNat_lt (l.getD k 0);refine Qa ?_;refine ⟨k + 1,by omega,⟨[],?_⟩,by omega⟩;refine Qd @hs ?_;have m3:(2:Int) ^ min 8 64=256:=by decide
  rw[m3,ho]
 ·have:k=l.length:=by omega
  subst this;exact Qp
def YZ (hl:l.length<=100000000):PS Tryz.prog gl 146 [.str l] (.int .i64 (iT l)):=by
 refine YT.ps (ap rfl) (by simp[Qe]) fun c hN hg=>?_
 conv in aG _ _=>cbv
 refine Qa ?_;refine Ke ?_
 refine Qv (fun k:Nat=>k≤l.length) (fun k=>⟨[(3,.int .i64 (iT (l.take k))),(7,.sl 1 0 0 l.length l.length),(8,.int .i64 l.length),(9,.int .i64 k)],[(0,.cells (Xi l))],1⟩) (fun k=>l.length - k) YT.mixed hN
  ⟨0,by omega,[],by refine Qa ?_<;>rfl⟩ fun k hk=>?_
 refine Qa ?_;refine Qc ?_ ?_<;>intro h1
 ·have hs:=TN l k af;refine Qa ?_;refine ⟨k+1,by omega,⟨[],?_⟩,by omega⟩;refine Qd @hs ?_;rw[IntKind.wrap_i64,IntKind.wrap_i64,IntKind.wrap_i64,IntKind.wrap_i64];omega
 ·have:k=l.length:=by omega
  subst this;exact Qp
structure Pc where
 k:Nat
 l:List UInt8
def vI (v:Int)(n:Nat)(hn:n<=8)(hl:l.length<=100000000) :
  GS Tryz.prog gl 119 [.sl 1 0 0 l.length l.length,.int .i64 v,.int .i64 n] [(0,.cells (Xi l))] 1 (.sl 1 1 0 (l.length+n) (l.length+n)) [(1,.cells (Xi (l++be v n)))] 2:=by
 refine JX.gs (ap rfl) (by simp[Bk.live]) fun c bf hg=>?_
 conv in aG _ _=>cbv
 refine Qa ?_
 refine wY (fun x:Pc=>x.k≤n∧x.l++be v x.k=l++be v n) (fun x=>⟨[(0,.sl 1 1 0 x.l.length x.l.length),(1,.int .i64 v),(7,.int .i64 ((x.k:Int) - 1))],[(1,.cells (Xi x.l))],2⟩) (fun x=>x.k) JX.mixed 1 bf
  ⟨⟨n,l⟩,⟨Nat.le_refl _,rfl⟩,[(1,0)],by exact Qp⟩ fun ⟨k,l'⟩ ⟨hk,he⟩=>?_
 dsimp only at hk he;refine Qa ?_;have kN:l'.length+k=l.length+n:=by
  have:=congrArg List.length he;simpa [Qk] using this
 refine Qc ?_ ?_<;>intro h1
 ·obtain ⟨k,rfl⟩:∃ j,k=j + 1:=⟨k - 1,by omega⟩
  have e1:(((k+1:Nat):Int)-1)=k:=by omega
  rw[e1]at h1 ⊢;refine Qa ?_;refine Ke ?_;refine Ke ?_;refine ⟨⟨k,l'++[Qy v k]⟩,⟨by dsimp only;omega,?_⟩,⟨[(1,3)],?_⟩,by dsimp only;omega⟩
  ·simpa [be] using he
  ·refine Qa ?_;rfl
 ·have gO:k=0:=by omega
  subst gO;simp only[be,append_nil]at he;subst he;refine Qa ?_;refine ⟨[],?_⟩;exact Qi @Qk
structure Pd where
 k:Nat
 l:Option (List UInt8)
def Xio (n:Nat)(hn:n<=8)(h0:0<n) :
  GS Tryz.prog gl 119 [.nils,.int .i64 v,.int .i64 n] [] 0 (.sl 1 0 0 n n) [(0,.cells (Xi (be v n)))] 1:=by
 refine JX.gs (ap rfl) av fun c bf hg=>?_
 conv in aG _ _=>cbv
 refine Qa ?_
 refine wY (fun x:Pd=>x.k≤n∧(x.l.getD [])++be v x.k=be v n∧(x.l=none→x.k=n)) (fun x=>match x.l with|none=>⟨[(0,.nils),(1,.int .i64 v),(7,.int .i64 ((x.k:Int) - 1))],[],0⟩|some l=>⟨[(0,.sl 1 0 0 l.length l.length),(1,.int .i64 v),(7,.int .i64 ((x.k:Int) - 1))],[(0,.cells (Xi l))],1⟩) (fun x=>x.k) JX.mixed 0 bf
  ⟨⟨n,none⟩,⟨Nat.le_refl _,rfl,fun _=>rfl⟩,[],by exact Qp⟩ fun ⟨k,o⟩ ⟨hk,he,br⟩=>?_
 cases o with
 | none =>
  dsimp only at hk he br;obtain rfl:=br rfl;refine Qa ?_;refine Qc ?_ ?_<;>intro h1
  ·obtain ⟨k,rfl⟩:∃ j,k=j + 1:=⟨k - 1,by omega⟩
   have e1:(((k+1:Nat):Int)-1)=k:=by omega
   rw[e1]at h1 ⊢;refine Qa ?_;refine Ke ?_;refine Ke ?_;refine ⟨⟨k,some [Qy v k]⟩,⟨by dsimp only;omega,?_,fun h=>by cases h⟩,⟨[(0,1)],?_⟩,by dsimp only;omega⟩
   ·simp[be]
   ·refine Qa ?_;exact NY [] _ []
  ·omega
 | some l' =>
  dsimp only[Option.getD_some]at hk he br;have kN:l'.length+k=n:=by
   have:=congrArg List.length he;simpa [Qk] using this
  refine Qa ?_;refine Qc ?_ ?_<;>intro h1
  ·obtain ⟨k,rfl⟩:∃ j,k=j + 1:=⟨k - 1,by omega⟩
   have e1:(((k+1:Nat):Int)-1)=k:=by omega
   rw[e1]at h1 ⊢;refine Qa ?_;refine Ke ?_;refine Ke ?_;refine ⟨⟨k,some (l'++[Qy v k])⟩,⟨by dsimp only;omega,?_,fun h=>by cases h⟩,⟨[(0,2)],?_⟩,by dsimp only;omega⟩
   ·simpa [be] using he
   ·refine Qa ?_;rfl
  ·have gO:k=0:=by omega
   subst gO;simp only[be,append_nil]at he;subst he;refine Qa ?_;refine ⟨[],?_⟩;exact Qi @Qk
def Xun (hk:k<=8):Qy v k=UInt8.ofNat ((v/256 ^ k)%256).toNat:=by
 unfold Qy;rw[IntKind.wrap_u8];have e:min (8*(k:Int)).toNat 64=8*k:=by omega
 rw[e,Int.fdiv_eq_ediv_of_nonneg _ (Int.pow_nonneg aJ)];have e2:(2:Int) ^ (8*k)=256 ^ k:=by rw[Int.pow_mul];rfl
 rw[e2]
def Xm1 (j:Nat):v/256 ^ j/256=v/256 ^ (j+1):=by
 rw[Int.ediv_ediv_of_nonneg (Int.pow_nonneg aJ),Int.pow_succ]
def Y0 (h0:0<=v)(j:Nat):0<=v/256 ^ j/\v/256 ^ j<=v:=by
 have hp:(0:Int)<256 ^ j:=Int.pow_pos aJ;exact ⟨Int.ediv_nonneg h0 af,Int.ediv_le_self _ h0⟩
def Xh (gl:Nat->AV)(v:Int)(n:Nat)(h0:0<=v:=by omega)(h1:v<=9223372036854775807:=by omega)(hn:n<=8:=by decide) :
  PS Tryz.prog gl 144 [.int .i64 v,.int .i64 n] (.str (be v n)):=by
 refine YS.ps (ap rfl) (by simp[Qe]) fun c hN hg=>?_
 conv in aG _ _=>cbv
 refine Qa ?_
 refine Qv (fun j:Nat=>j≤n) (fun j=>⟨[(0,.int .i64 (v / 256 ^ j)),(1,.int .i64 ((n - j:Nat):Int)),(5,.str (be v j))],[],0⟩) (fun j=>n - j) YS.mixed hN
  ⟨0,by omega,[],by refine Qa ?_;simp[be]⟩ fun j hj=>?_
 refine Qa ?_;obtain ⟨b0,b1⟩:=Y0 v h0 j;refine Qc ?_ ?_<;>intro h2
 ·refine Qa ?_
  ((first|apply w8|apply w9|apply xc|apply xd|apply xe|apply xf);(have aQ:=@Qk;refine XG ?_;clear aQ;((try with_reducible and_intros);all_goals try first|refine zm ?_|exact CL)))
  ·intro x hx;rw[List.mem_singleton]at hx;subst hx;exact rfl
  ·simp only[toB,map_cons,map_nil,List.length_cons,List.length_nil];omega
  have e1:(v/256 ^ j).tdiv 256=v/256 ^ (j+1):=by rw[Int.tdiv_eq_ediv_of_nonneg b0,Xm1]
  have e2:(v/256 ^ j).tmod 256=(v/256 ^ j)%256:=Int.tmod_eq_emod_of_nonneg b0;obtain ⟨c0,c1⟩:=Y0 v h0 (j+1);refine ⟨j+1,by omega,⟨[],?_⟩,by omega⟩;rw[e1,e2];refine ⟨by rw[IntKind.wrap_i64];omega,by omega,?_⟩;simp only[be,Xun v j af];simp only[toB,bD,IntKind.wrap_u8,map_cons,map_nil,cons_append,nil_append,Int.emod_emod]
 ·have:j=n:=by omega
  subst this;exact Qp
def Y1 (n hi:Int):PS Tryz.prog gl 169 [.int .i64 n,.int .i64 hi] (.bool (dG hi n)):=by
 refine Ygf.ps (ap rfl) (by simp[Qe]) fun c hN hg=>?_
 conv in aG _ _=>cbv
 refine Qa ?_;unfold dG;simp
def Xyx:[p.aF,p.dst,p.seq,p.bC].all (dG 4294967295)=true ↔ (0<=p.aF/\p.aF<=4294967295)/\(0<=p.dst/\p.dst<=4294967295)/\(0<=p.seq/\p.seq<=4294967295)/\(0<=p.bC/\p.bC<=4294967295):=by
 simp[dG]
def Xxp:[p.aj,p.aw,p.id,p.win].all (dG 65535)=true ↔ (0<=p.aj/\p.aj<=65535)/\(0<=p.aw/\p.aw<=65535)/\(0<=p.id/\p.id<=65535)/\(0<=p.win/\p.win<=65535):=by
 simp[dG]
def Xok:Jl p ↔ [p.aF,p.dst,p.seq,p.bC].all (dG 4294967295)=true/\[p.aj,p.aw,p.id,p.win].all (dG 65535)=true/\(1<=p.aN/\p.aN<=255)/\(0<=p.flags/\p.flags<=63):=by
 rw[Xyx,Xxp];unfold Jl;constructor
 ·rintro ⟨a,b,c,d,e,f,g,h,i,j⟩;exact ⟨⟨a,b,c,d⟩,⟨e,f,g,h⟩,i,j⟩
 ·rintro ⟨⟨a,b,c,d⟩,⟨e,f,g,h⟩,i,j⟩;exact ⟨a,b,c,d,e,f,g,h,i,j⟩
def Y2 {p:Pk}(h:¬ (p.ae=1\/p.ae=6\/p.ae=17)):Zl p=4:=by unfold Zl;rw[am h]
def Y3 {p:Pk}(h:p.ae=1\/p.ae=6\/p.ae=17)(h2:¬ Jl p):Zl p=2:=by unfold Zl;rw[aa (fun x=>x h),am h2]
def Y4 {p:Pk}(h:p.ae=1\/p.ae=6\/p.ae=17)(h2:Jl p)(h3:64<p.body.length):Zl p=5:=by unfold Zl;rw[aa (fun x=>x h),aa (fun x=>x h2),am h3]
def Y5 {p:Pk}(h:p.ae=1\/p.ae=6\/p.ae=17)(h2:Jl p)(h3:¬ 64<p.body.length)(h4:Wo p):Zl p=1:=by unfold Zl;rw[aa (fun x=>x h),aa (fun x=>x h2),aa h3,am h4]
set_option maxRecDepth 20000 in
def JY:PS Tryz.prog gl 37 [.agg p.enc] (.int .i64 (Zl p)):=by
 refine Xur.ps (ap rfl) (by simp[Qe]) fun c hN hg=>?_
 conv in aG _ _=>cbv
 unfold Pk.enc;have hR:=Xok p;have hl:=YW c.gl [p.aF,p.dst,p.seq,p.bC] av;have hw:=Pb c.gl [p.aj,p.aw,p.id,p.win] av;generalize hL:[p.aF,p.dst,p.seq,p.bC].all (dG 4294967295)=L at *
 generalize hW:[p.aj,p.aw,p.id,p.win].all (dG 65535)=W at *
 have k1:=@Y2 p;have k2:=@Y3 p;have k3:=@Y4 p;have k4:=@Y5 p;have k5:=@JP p;generalize Zl p=E at *
 generalize hRp:Jl p=RP at *
 unfold Wo at k4 k5;obtain ⟨ae,aF,aj,dst,aw,aN,id,flags,seq,bC,win,body⟩:=p;dsimp only at *
 refine Qa ?_;refine Qc ?_ ?_<;>intro h1
 ·exact Qp
 have hp:ae=1\/ae=6\/ae=17:=by omega
 have bad:¬ RP->E=2:=fun h=>k2 hp h;cases L with
 | false =>
  refine Qa ?_;refine Ke ?_
  ((first|apply Wc|apply Jw)<;>(first|exact hl|(with_reducible (exact Ji.bool _))|(refine XG ?_;first|exact rfl|exact True.intro|((try with_reducible and_intros);all_goals try first|refine zm ?_|exact CL))))
  refine Yb ?_;refine Yb ?_;refine Yc ?_;refine Qa ?_;exact (bad (fun h=>by simp[hR]at h)).symm
 | true =>
  cases W with
  | false =>
   refine Qa ?_;refine Ke ?_
   ((first|apply Wc|apply Jw)<;>(first|exact hl|(with_reducible (exact Ji.bool _))|(refine XG ?_;first|exact rfl|exact True.intro|((try with_reducible and_intros);all_goals try first|refine zm ?_|exact CL))))
   refine tW ?_;refine Ke ?_
   ((first|apply Wc|apply Jw)<;>(first|exact hw|(with_reducible (exact Ji.bool _))|(refine XG ?_;first|exact rfl|exact True.intro|((try with_reducible and_intros);all_goals try first|refine zm ?_|exact CL))))
   refine Yc ?_;refine Qa ?_;exact (bad (fun h=>by simp[hR]at h)).symm
  | true =>
   refine Qa ?_;refine Ke ?_
   ((first|apply Wc|apply Jw)<;>(first|exact hl|(with_reducible (exact Ji.bool _))|(refine XG ?_;first|exact rfl|exact True.intro|((try with_reducible and_intros);all_goals try first|refine zm ?_|exact CL))))
   refine tW ?_;refine Ke ?_
   ((first|apply Wc|apply Jw)<;>(first|exact hw|(with_reducible (exact Ji.bool _))|(refine XG ?_;first|exact rfl|exact True.intro|((try with_reducible and_intros);all_goals try first|refine zm ?_|exact CL))))
   refine Qc ?_ ?_<;>intro h2
   ·refine Qa ?_;exact (bad (fun h=>by have:=hR.1 h;omega)).symm
   have j8:RP:=hR.2 ⟨rfl,rfl,by omega,by omega⟩;refine Qa ?_;refine Qc ?_ ?_<;>intro h3
   ·refine Qa ?_;exact (k3 hp j8 af).symm
   rcases hp with rfl|rfl|rfl
   ·refine Qa ?_;refine Qc ?_ ?_<;>intro h4
    ·refine Qa ?_;exact (k4 (.inl rfl) j8 af af).symm
    by_cases h6:flags=8
    ·subst h6;refine Qa ?_;refine Qc ?_ ?_<;>intro h7
     ·refine Qa ?_;exact (k4 (.inl rfl) j8 af af).symm
     ·refine Qa ?_;exact (k5 (.inl rfl) j8 af af).symm
    ·by_cases h8:flags=0
     ·subst h8;refine Qa ?_;refine Qc ?_ ?_<;>intro h7
      ·refine Qa ?_;exact (k4 (.inl rfl) j8 af af).symm
      ·refine Qa ?_;exact (k5 (.inl rfl) j8 af af).symm
     ·have g6:(flags != 8)=true:=by simp[h6]
      have g8:(flags != 0)=true:=by simp[h8]
      refine Qd (An @g6 @g8) ?_;refine Yc ?_;refine Qa ?_;exact (k4 (.inl rfl) j8 af af).symm
   ·refine Qa ?_;refine Yc ?_;refine Qa ?_;refine Yc ?_;refine Qa ?_;exact (k5 (.inr (.inl rfl)) j8 af af).symm
   ·refine Qa ?_;refine Qc ?_ ?_<;>intro h4
    ·refine Qa ?_;exact (k4 (.inr (.inr rfl)) j8 af af).symm
    ·refine Qa ?_;refine Yc ?_;refine Qa ?_;exact (k5 (.inr (.inr rfl)) j8 af af).symm
def uj {gl:Nat->AV}{n hi:Int}(h:dG hi n=true):PS Tryz.prog gl 169 ([.int .i64 n,.int .i64 hi]++[]) (.bool true):=h ▸ Y1 gl n hi
def um {gl:Nat->AV}{n hi:Int}(h:¬ dG hi n=true):PS Tryz.prog gl 169 ([.int .i64 n,.int .i64 hi]++[]) (.bool false):=by
 have e:dG hi n=false:=by simpa using h
 exact e ▸ Y1 gl n hi
def Us (n hi:Int):ah 0 ([.int .i64 n,.int .i64 hi]++[]):=by simp[ah,Qe]
def qu (hi n:Int):dG hi n=true ↔ 0<=n/\n<=hi:=by simp[dG]
def Y6 (p:Pk):Prop:=-9223372036854775808<=p.aN/\p.aN<=9223372036854775807
set_option maxRecDepth 20000 in
def Af (aS:Y6 p):PS Tryz.prog gl 149 [.agg p.enc] (.int .i64 (Zl p)):=by
 refine Xva.ps (ap rfl) (by simp[Qe]) fun c hN hg=>?_
 conv in aG _ _=>cbv
 unfold Pk.enc;have k1:=@Y2 p;have k2:=@Y3 p;have k3:=@Y4 p;have k4:=@Y5 p;have k5:=@JP p;generalize Zl p=E at *
 have hR:Jl p ↔ _:=Iff.rfl
 conv at hR=>rhs;unfold Jl
 generalize Jl p=RP at *
 unfold Wo at k4 k5;unfold Y6 at aS;obtain ⟨ae,aF,aj,dst,aw,aN,id,flags,seq,bC,win,body⟩:=p;dsimp only at *
 refine Qa ?_;refine Qc ?_ ?_<;>intro h1
 ·exact Qp
 have hp:ae=1\/ae=6\/ae=17:=by omega
 have bad:¬ RP->E=2:=fun h=>k2 hp h;clear k1 k2;have K3:=Lib.hid k3;have K4:=Lib.hid k4;have K5:=Lib.hid k5;have HR:=Lib.hid hR;clear k3 k4 k5 hR;refine Qa ?_;by_cases q0:dG 4294967295 aF=true;rotate_left
 ·((first|apply Yy|apply Yh|apply Xo|apply Xg)<;>(first|exact (Jr (caps:=[]) (um q0) (Us _ _))|(refine XG ?_;first|exact rfl|exact True.intro|((try with_reducible and_intros);all_goals try first|refine zm ?_|exact CL))))
  refine Yb ?_;refine Yb ?_;refine Yb ?_;refine Yb ?_;refine Yb ?_;refine Yb ?_;refine Yb ?_;refine Yb ?_;refine Yb ?_;refine Yc ?_;refine Qa ?_;refine (bad fun h=>q0 ?_).symm;rw[qu];have:=HR.out.1 h;omega
 ((first|apply Yy|apply Yh|apply Xo|apply Xg)<;>(first|exact (Jr (caps:=[]) (uj q0) (Us _ _))|(refine XG ?_;first|exact rfl|exact True.intro|((try with_reducible and_intros);all_goals try first|refine zm ?_|exact CL))))
 by_cases q1:dG 4294967295 dst=true;rotate_left
 ·((first|apply Yy|apply Yh|apply Xo|apply Xg)<;>(first|exact (Jr (caps:=[]) (um q1) (Us _ _))|(refine XG ?_;first|exact rfl|exact True.intro|((try with_reducible and_intros);all_goals try first|refine zm ?_|exact CL))))
  refine Yb ?_;refine Yb ?_;refine Yb ?_;refine Yb ?_;refine Yb ?_;refine Yb ?_;refine Yb ?_;refine Yb ?_;refine Yc ?_;refine Qa ?_;refine (bad fun h=>q1 ?_).symm;rw[qu];have:=HR.out.1 h;omega
 ((first|apply Yy|apply Yh|apply Xo|apply Xg)<;>(first|exact (Jr (caps:=[]) (uj q1) (Us _ _))|(refine XG ?_;first|exact rfl|exact True.intro|((try with_reducible and_intros);all_goals try first|refine zm ?_|exact CL))))
 by_cases q2:dG 4294967295 seq=true;rotate_left
 ·((first|apply Yy|apply Yh|apply Xo|apply Xg)<;>(first|exact (Jr (caps:=[]) (um q2) (Us _ _))|(refine XG ?_;first|exact rfl|exact True.intro|((try with_reducible and_intros);all_goals try first|refine zm ?_|exact CL))))
  refine Yb ?_;refine Yb ?_;refine Yb ?_;refine Yb ?_;refine Yb ?_;refine Yb ?_;refine Yb ?_;refine Yc ?_;refine Qa ?_;refine (bad fun h=>q2 ?_).symm;rw[qu];have:=HR.out.1 h;omega
 ((first|apply Yy|apply Yh|apply Xo|apply Xg)<;>(first|exact (Jr (caps:=[]) (uj q2) (Us _ _))|(refine XG ?_;first|exact rfl|exact True.intro|((try with_reducible and_intros);all_goals try first|refine zm ?_|exact CL))))
 by_cases q3:dG 4294967295 bC=true;rotate_left
 ·((first|apply Yy|apply Yh|apply Xo|apply Xg)<;>(first|exact (Jr (caps:=[]) (um q3) (Us _ _))|(refine XG ?_;first|exact rfl|exact True.intro|((try with_reducible and_intros);all_goals try first|refine zm ?_|exact CL))))
  refine Yb ?_;refine Yb ?_;refine Yb ?_;refine Yb ?_;refine Yb ?_;refine Yb ?_;refine Yc ?_;refine Qa ?_;refine (bad fun h=>q3 ?_).symm;rw[qu];have:=HR.out.1 h;omega
 ((first|apply Yy|apply Yh|apply Xo|apply Xg)<;>(first|exact (Jr (caps:=[]) (uj q3) (Us _ _))|(refine XG ?_;first|exact rfl|exact True.intro|((try with_reducible and_intros);all_goals try first|refine zm ?_|exact CL))))
 by_cases q4:dG 65535 aj=true;rotate_left
 ·((first|apply Yy|apply Yh|apply Xo|apply Xg)<;>(first|exact (Jr (caps:=[]) (um q4) (Us _ _))|(refine XG ?_;first|exact rfl|exact True.intro|((try with_reducible and_intros);all_goals try first|refine zm ?_|exact CL))))
  refine Yb ?_;refine Yb ?_;refine Yb ?_;refine Yb ?_;refine Yb ?_;refine Yc ?_;refine Qa ?_;refine (bad fun h=>q4 ?_).symm;rw[qu];have:=HR.out.1 h;omega
 ((first|apply Yy|apply Yh|apply Xo|apply Xg)<;>(first|exact (Jr (caps:=[]) (uj q4) (Us _ _))|(refine XG ?_;first|exact rfl|exact True.intro|((try with_reducible and_intros);all_goals try first|refine zm ?_|exact CL))))
 by_cases q5:dG 65535 aw=true;rotate_left
 ·((first|apply Yy|apply Yh|apply Xo|apply Xg)<;>(first|exact (Jr (caps:=[]) (um q5) (Us _ _))|(refine XG ?_;first|exact rfl|exact True.intro|((try with_reducible and_intros);all_goals try first|refine zm ?_|exact CL))))
  refine Yb ?_;refine Yb ?_;refine Yb ?_;refine Yb ?_;refine Yc ?_;refine Qa ?_;refine (bad fun h=>q5 ?_).symm;rw[qu];have:=HR.out.1 h;omega
 ((first|apply Yy|apply Yh|apply Xo|apply Xg)<;>(first|exact (Jr (caps:=[]) (uj q5) (Us _ _))|(refine XG ?_;first|exact rfl|exact True.intro|((try with_reducible and_intros);all_goals try first|refine zm ?_|exact CL))))
 by_cases q6:dG 65535 id=true;rotate_left
 ·((first|apply Yy|apply Yh|apply Xo|apply Xg)<;>(first|exact (Jr (caps:=[]) (um q6) (Us _ _))|(refine XG ?_;first|exact rfl|exact True.intro|((try with_reducible and_intros);all_goals try first|refine zm ?_|exact CL))))
  refine Yb ?_;refine Yb ?_;refine Yb ?_;refine Yc ?_;refine Qa ?_;refine (bad fun h=>q6 ?_).symm;rw[qu];have:=HR.out.1 h;omega
 ((first|apply Yy|apply Yh|apply Xo|apply Xg)<;>(first|exact (Jr (caps:=[]) (uj q6) (Us _ _))|(refine XG ?_;first|exact rfl|exact True.intro|((try with_reducible and_intros);all_goals try first|refine zm ?_|exact CL))))
 by_cases q7:dG 65535 win=true;rotate_left
 ·((first|apply Yy|apply Yh|apply Xo|apply Xg)<;>(first|exact (Jr (caps:=[]) (um q7) (Us _ _))|(refine XG ?_;first|exact rfl|exact True.intro|((try with_reducible and_intros);all_goals try first|refine zm ?_|exact CL))))
  refine Yb ?_;refine Yb ?_;refine Yc ?_;refine Qa ?_;refine (bad fun h=>q7 ?_).symm;rw[qu];have:=HR.out.1 h;omega
 ((first|apply Yy|apply Yh|apply Xo|apply Xg)<;>(first|exact (Jr (caps:=[]) (uj q7) (Us _ _))|(refine XG ?_;first|exact rfl|exact True.intro|((try with_reducible and_intros);all_goals try first|refine zm ?_|exact CL))))
 have hw:IntKind.i64.wrap (aN-1)=aN-1\/(¬ dG 254 (IntKind.i64.wrap (aN-1))=true/\¬ (1<=aN/\aN<=255)):=by
  rw[IntKind.wrap_i64,qu];omega
 by_cases q8:dG 254 (IntKind.i64.wrap (aN-1))=true;rotate_left
 ·((first|apply Yy|apply Yh|apply Xo|apply Xg)<;>(first|exact (Jr (caps:=[]) (um q8) (Us _ _))|(refine XG ?_;first|exact rfl|exact True.intro|((try with_reducible and_intros);all_goals try first|refine zm ?_|exact CL))))
  refine Yb ?_;refine Yc ?_;refine Qa ?_;refine (bad fun h=>q8 ?_).symm;rw[qu];have:=HR.out.1 h;rcases hw with hw|⟨_,hw⟩<;>omega
 ((first|apply Yy|apply Yh|apply Xo|apply Xg)<;>(first|exact (Jr (caps:=[]) (uj q8) (Us _ _))|(refine XG ?_;first|exact rfl|exact True.intro|((try with_reducible and_intros);all_goals try first|refine zm ?_|exact CL))))
 by_cases q9:dG 63 flags=true;rotate_left
 ·((first|apply Yy|apply Yh|apply Xo|apply Xg)<;>(first|exact (Jr (caps:=[]) (um q9) (Us _ _))|(refine XG ?_;first|exact rfl|exact True.intro|((try with_reducible and_intros);all_goals try first|refine zm ?_|exact CL))))
  refine Yc ?_;refine Qa ?_;refine (bad fun h=>q9 ?_).symm;rw[qu];have:=HR.out.1 h;omega
 ((first|apply Yy|apply Yh|apply Xo|apply Xg)<;>(first|exact (Jr (caps:=[]) (uj q9) (Us _ _))|(refine XG ?_;first|exact rfl|exact True.intro|((try with_reducible and_intros);all_goals try first|refine zm ?_|exact CL))))
 refine Yc ?_;rw[qu]at q0 q1 q2 q3 q4 q5 q6 q7 q8 q9;have ht:1<=aN/\aN<=255:=by
  rcases hw with hw|⟨hw,_⟩
  ·omega
  ·rw[qu]at hw;omega
 have j8:RP:=HR.out.2 ⟨q0,q1,q2,q3,q4,q5,q6,q7,ht,q9⟩;refine Qa ?_;refine Qc ?_ ?_<;>intro h3
 ·refine Qa ?_;exact (K3.out hp j8 af).symm
 have k4:=K4.out;have k5:=K5.out;rcases hp with rfl|rfl|rfl
 ·refine Qa ?_;refine Qc ?_ ?_<;>intro h4
  ·refine Qa ?_;exact (k4 (.inl rfl) j8 af af).symm
  refine Qa ?_;refine Yc ?_;by_cases h6:flags=8
  ·subst h6;refine Qa ?_;refine Qc ?_ ?_<;>intro h7
   ·refine Qa ?_;exact (k4 (.inl rfl) j8 af af).symm
   ·refine Qa ?_;exact (k5 (.inl rfl) j8 af af).symm
  ·by_cases h8:flags=0
   ·subst h8;refine Qa ?_;refine Qc ?_ ?_<;>intro h7
    ·refine Qa ?_;exact (k4 (.inl rfl) j8 af af).symm
    ·refine Qa ?_;exact (k5 (.inl rfl) j8 af af).symm
   ·have g6:(flags == 8)=false:=by simp[h6]
    have g8:(flags==0)=false:=by simp[h8]
    refine Qd (An @g6 @g8) ?_;refine Yc ?_;refine Qa ?_;exact (k4 (.inl rfl) j8 af af).symm
 ·refine Qa ?_;refine Yc ?_;refine Qa ?_;refine Yc ?_;refine Qa ?_;exact (k5 (.inr (.inl rfl)) j8 af af).symm
 ·refine Qa ?_;refine Qc ?_ ?_<;>intro h4
  ·refine Qa ?_;exact (k4 (.inr (.inr rfl)) j8 af af).symm
  ·refine Qa ?_;refine Yc ?_;refine Qa ?_;exact (k5 (.inr (.inr rfl)) j8 af af).symm
def Y7:[UInt8.ofNat (IntKind.u8.wrap v).toNat]=be v 1:=by
 show _=[Qy v 0]
 unfold Qy;have:v.fdiv (2 ^ min (8*((0:Nat):Int)).toNat 64)=v:=Int.fdiv_one v;rw[this]
theorem Xmo (i:Nat)(n:Int):(Xi l).set i (.int .u8 (IntKind.u8.wrap n))=Xi (l.set i (UInt8.ofNat (IntKind.u8.wrap n).toNat)):=by
 have h0:0<=IntKind.u8.wrap n/\IntKind.u8.wrap n<256:=by rw[IntKind.wrap_u8];omega
 generalize IntKind.u8.wrap n=k at h0 ⊢;have e:(.int .u8 k:AV)=.int .u8 (UInt8.ofNat k.toNat).toNat:=by simp;omega
 rw[e,Xi,Xi,List.map_set]
theorem Yfj:UInt8.ofNat (IntKind.u8.wrap (v.fdiv (2 ^ min 8 64))).toNat=Qy v 1:=rfl
def JZ:UInt8.ofNat (IntKind.u8.wrap v).toNat=Qy v 0:=by
 have:=Y7 v;simp only[be,List.cons.injEq,and_true]at this;exact this
attribute [go_sem] Xmo Yfj
def Yd5 (A Z:List UInt8)(a b x y:UInt8):((A++[a,b]++Z).set A.length x).set (A.length+1) y=A++[x,y]++Z:=by
 rw[append_assoc,List.set_append_right _ _ (Nat.le_refl _),List.set_append_right _ _ af];simp
def Xw2 (A Z:List UInt8)(hA:A.length=10)(v:Int):((A++be 0 2++Z).set 10 (Qy v 1)).set 11 (Qy v 0)=A++be v 2++Z:=by
 rw[E9];have:=Yd5 A Z 0 0 (Qy v 1) (Qy v 0);rw[hA]at this;exact this
def Yb7 (ae aF dst aN id n:Int)(hn:0<=n/\n<=1000) :
  GS Tryz.prog gl 121 [.int .i64 ae,.int .i64 aF,.int .i64 dst,.int .i64 aN,.int .i64 id,.int .i64 n] [] 0 (.sl 1 0 0 20 20) [(0,.cells (Xi (Wi ae aF dst aN id n)))] 1:=by
 refine Xy5.gs (ap rfl) av fun c bf hg=>?_
 conv in aG _ _=>cbv
 obtain ⟨p2,fk⟩:∃ p2:List UInt8,p2=[69,0]:=⟨_,rfl⟩
 have hl2:p2.length=2:=by rw[fk];rfl
 have lit:[.int .u8 69,.int .u8 0]=Xi p2:=by rw[fk];rfl
 have bw:∀ v,((p2++be (20+n) 2++be id 2++be 0 2++be aN 1++be ae 1++be 0 2++be aF 4++be dst 4).set 10 (Qy v 1)).set 11 (Qy v 0)=mH ae aN id n++be v 2++mI aF dst:=fun v=>by
  have:=Xw2 (mH ae aN id n) (mI aF dst) (OU _ _ _ _) v;rw[<- this,fk];unfold mH mI;rw[E9];simp only[append_assoc]
 have hck:Yj (p2++be (20+n) 2++be id 2++be 0 2++be aN 1++be ae 1++be 0 2++be aF 4++be dst 4)=Yj (mH ae aN id n++[0,0]++mI aF dst):=by
  unfold mH mI;rw[E9,fk];simp only[append_assoc]
 have hlen:(p2++be (20+n) 2++be id 2++be 0 2++be aN 1++be ae 1++be 0 2++be aF 4++be dst 4).length=20:=by simp[Qk,hl2]
 have t8:(p2++be (20+n) 2++be id 2++be 0 2).take 8=p2++be (20+n) 2++be id 2++be 0 2:=List.take_of_length_le (by simp[Qk,hl2]);have hC:=X4 c.gl (p2++be (20+n) 2++be id 2++be 0 2++be aN 1++be ae 1++be 0 2++be aF 4++be dst 4) (by rw[hlen];decide);have hL:=yI (p2++be (20+n) 2++be id 2++be 0 2++be aN 1++be ae 1++be 0 2++be aF 4++be dst 4);refine Qa ?_;refine Ke ?_
 (have zC:=(vI c.gl p2 (20+n) 2 aJ af);refine Jo (ip [0]) zC (An @Qk (An @lit @hl2)) ?_;clear zC)
 (have zC:=(vI c.gl (p2++be (20+n) 2) id 2 aJ (by simp[Qk,hl2]));refine Jo (ip [1]) zC (An @Qk @hl2) ?_;clear zC)
 (have zC:=(vI c.gl (p2++be (20+n) 2++be id 2) 0 2 aJ (by simp[Qk,hl2]));refine Jo (ip [2]) zC (An @Qk @hl2) ?_;clear zC)
 refine Yp (An @Qk @hl2) ?_;refine Yp (An @Qk (An @Y7 (An @hl2 @t8))) ?_
 (have zC:=(vI c.gl (p2++be (20+n) 2++be id 2++be 0 2++be aN 1++be ae 1) 0 2 aJ (by simp[Qk,hl2]));refine Jo (ip [5]) zC (An @Qk @hl2) ?_;clear zC)
 (have zC:=(vI c.gl (p2++be (20+n) 2++be id 2++be 0 2++be aN 1++be ae 1++be 0 2) aF 4 aJ (by simp[Qk,hl2]));refine Jo (ip [6]) zC (An @Qk @hl2) ?_;clear zC)
 (have zC:=(vI c.gl (p2++be (20+n) 2++be id 2++be 0 2++be aN 1++be ae 1++be 0 2++be aF 4) dst 4 aJ (by simp[Qk,hl2]));refine Jo (ip [7]) zC (An @Qk @hl2) ?_;clear zC)
 generalize dg:p2++be (20+n) 2++be id 2++be 0 2++be aN 1++be ae 1++be 0 2++be aF 4++be dst 4=row at *
 have t20:row.take 20=row:=List.take_of_length_le af;refine Qj hC (An @t20 @hlen) ?_;refine Qd (An @t20 (An @hlen @JZ)) ?_;rw[bw];refine ⟨[(0,8)],?_⟩;refine Qa ?_;unfold Wi;rw[hck]
def Y8 (aF dst ae n:Int):PS Tryz.prog gl 75 [.int .i64 aF,.int .i64 dst,.int .i64 ae,.int .i64 n] (.str (be aF 4++be dst 4++be ae 2++be n 2)):=by
 refine Xjj.ps (ap rfl) (by simp[Qe]) fun c hN hg=>?_
 conv in aG _ _=>cbv
 refine Qa ?_
 (have zC:=(Xio c.gl aF 4 aJ aJ);refine Jo (ip []) zC @Qk ?_;clear zC)
 (have zC:=(vI c.gl (be aF 4) dst 4 aJ (by simp[Qk]));refine Jo (ip [0]) zC @Qk ?_;clear zC)
 (have zC:=(vI c.gl (be aF 4++be dst 4) ae 2 aJ (by simp[Qk]));refine Jo (ip [1]) zC @Qk ?_;clear zC)
 (have zC:=(vI c.gl (be aF 4++be dst 4++be ae 2) n 2 aJ (by simp[Qk]));exact Kd (ip [2]) zC @Qk)
def CF (aF dst ae n:Int)(h1:0<=aF/\aF<=4294967295)(h2:0<=dst/\dst<=4294967295)(h3:0<=ae/\ae<=255)(h4:0<=n/\n<=1000000):PS Tryz.prog gl 148 [.int .i64 aF,.int .i64 dst,.int .i64 ae,.int .i64 n] (.str (Xk ae aF dst n)):=by
 refine Xny.ps (ap rfl) (by simp[Qe]) fun c hN hg=>?_
 conv in aG _ _=>cbv
 refine Qa ?_
 (refine Qc (fun hp=>?_) (fun hp=>?_)<;>try exact hp.elim)
 ·refine Qa ?_;unfold Xk;rw[am hp]
 ·refine Qa ?_
  (have zC:=(Xh c.gl aF 4);refine Qj zC @Qk ?_;clear zC)
  (have zC:=(Xh c.gl dst 4);refine Qj zC @Qk ?_;clear zC)
  (have zC:=(Xh c.gl ae 2);refine Qj zC @Qk ?_;clear zC)
  (have zC:=(Xh c.gl n 2);refine Qj zC @Qk ?_;clear zC)
  unfold Xk;rw[aa hp]
def J0 (ae aF dst aN id n:Int)(h1:0<=aF/\aF<=4294967295)(h2:0<=dst/\dst<=4294967295)(h3:0<=ae/\ae<=255)(h4:0<=n/\n<=1000000)(h5:0<=aN/\aN<=255)(h6:0<=id/\id<=65535) :
  PS Tryz.prog gl 143 [.int .i64 ae,.int .i64 aF,.int .i64 dst,.int .i64 aN,.int .i64 id,.int .i64 n] (.str (Wi ae aF dst aN id n)):=by
 refine Xus.ps (ap rfl) (by simp[Qe]) fun c hN hg=>?_
 conv in aG _ _=>cbv
 have hL:=yI (mH ae aN id n++[0,0]++mI aF dst);have hC:=E4 c.gl (mH ae aN id n++[0,0]++mI aF dst) (by simp[OU,YB]);have hB:=Xh c.gl (Yj (mH ae aN id n++[0,0]++mI aF dst)) 2 af af aJ;unfold Wi;generalize Yj (mH ae aN id n++[0,0]++mI aF dst)=k at *
 have vJ:([69,0]:List UInt8)=[69,0]:=rfl;generalize hA:mH ae aN id n=A at *
 generalize hZ:mI aF dst=Z at *
 unfold mH at hA;unfold mI at hZ;obtain ⟨p2,fk⟩:∃ p2:List UInt8,[69,0]=p2:=⟨_,rfl⟩
 obtain ⟨z2,cI⟩:∃ z2:List UInt8,[0,0]=z2:=⟨_,rfl⟩
 rw[fk,cI]at hA;rw[cI]at hC;clear vJ;have l2:p2.length=2:=by rw[<- fk];rfl
 have l0:z2.length=2:=by rw[<- cI];rfl
 have lA:A.length=10:=by rw[<- hA];simp[Qk,l2,l0]
 have lZ:Z.length=8:=by rw[<- hZ];simp[Qk]
 refine Qd (An @fk (An @cI (An @Qk (An @l2 (An @l0 (An @lA @lZ)))))) ?_
 (have zC:=(Xh c.gl (20+n) 2);refine Qj zC (An @fk (An @cI (An @Qk (An @l2 (An @l0 (An @lA @lZ)))))) ?_;clear zC)
 (have zC:=(Xh c.gl id 2);refine Qj zC (An @fk (An @cI (An @Qk (An @l2 (An @l0 (An @lA @lZ)))))) ?_;clear zC)
 (have zC:=(Xh c.gl aN 1);refine Qj zC (An @fk (An @cI (An @Qk (An @l2 (An @l0 (An @lA @lZ)))))) ?_;clear zC)
 (have zC:=(Xh c.gl ae 1);refine Qj zC (An @hA (An @fk (An @cI (An @Qk (An @l2 (An @l0 (An @lA @lZ))))))) ?_;clear zC)
 (have zC:=(Xh c.gl aF 4);refine Qj zC (An @fk (An @cI (An @Qk (An @l2 (An @l0 (An @lA @lZ)))))) ?_;clear zC)
 (have zC:=(Xh c.gl dst 4);refine Qj zC (An @hZ (An @fk (An @cI (An @Qk (An @l2 (An @l0 (An @lA @lZ))))))) ?_;clear zC)
 refine Qj hC (An @fk (An @cI (An @Qk (An @l2 (An @l0 (An @lA @lZ)))))) ?_;exact vw hB (An @fk (An @cI (An @Qk (An @l2 (An @l0 (An @lA @lZ))))))
set_option maxRecDepth 20000 in
def Xc9 (aF aj dst aw aN id flags seq bC win:Int)(body:List UInt8)(h:Zl (⟨1,aF,aj,dst,aw,aN,id,flags,seq,bC,win,body⟩:Pk)=0):PS Tryz.prog gl 162 [.agg (⟨1,aF,aj,dst,aw,aN,id,flags,seq,bC,win,body⟩:Pk).enc] (.aR [.str (Zw (⟨1,aF,aj,dst,aw,aN,id,flags,seq,bC,win,body⟩:Pk)),.int .i64 0]):=by
 generalize hP:(⟨1,aF,aj,dst,aw,aN,id,flags,seq,bC,win,body⟩:Pk)=P at h ⊢;refine Pa.ps (ap rfl) (by simp[Qe,ah]) fun c hN hg=>?_
 conv in aG _ _=>cbv
 obtain ⟨_,⟨r1,r2,r3,r4,r5,r6,r7,r8,r9,iF⟩,hbl,_⟩:=Wj h;rw[<- hP]at r1 r2 r3 r4 r5 r6 r7 r8 r9 iF hbl;dsimp only at r1 r2 r3 r4 r5 r6 r7 r8 r9 iF hbl;have hG:=Af c.gl P (by subst hP;exact ⟨by dsimp only;omega,by dsimp only;omega⟩);rw[h]at hG;clear h;obtain ⟨z2,cI⟩:∃ z:List UInt8,[0,0]=z:=⟨_,rfl⟩
 have l2:z2.length=2:=by rw[<- cI];rfl
 have hA:be flags 1++[0]=Wh P:=by subst hP;unfold Wh;simp
 have hZ:be (aj+aw) 2++be seq 2++body=Wq P:=by subst hP;unfold Wq;simp[<- cI]
 have fb:(Wh P).length=2:=by rw[<- hA];simp[Qk]
 have ja:(Wq P).length=4+body.length:=by rw[<- hZ]<;>first|rfl|(simp[Qk,l2];done)|(simp[Qk,l2];omega)
 have b9:Zw P=Wi 1 aF dst aN id (Xm P)++(Wh P++be (mJ P) 2++Wq P):=by subst hP;rfl
 have hck:mJ P=if (1:Int)=17/\Yj (Xk 1 aF dst (Xm P)++Wh P++[0,0]++Wq P)=0 then 65535 else Yj (Xk 1 aF dst (Xm P)++Wh P++[0,0]++Wq P):=by subst hP;rfl
 have hN:((Xm P:Nat):Int)=2+2+((4+body.length:Nat):Int):=by subst hP;unfold Xm;omega
 have Y9:Xm P<=90:=by subst hP;unfold Xm;omega
 rw[cI]at hck;rw[b9];clear b9;generalize Wh P=A at *
 generalize Wq P=Z at *
 generalize mJ P=ck at *
 generalize Xm P=N at *
 have vK:=E4 c.gl (Xk 1 aF dst N++A++z2++Z) (by unfold Xk;simp only[length_append];split<;>(try simp[Qk])<;>(try omega));have J1:=yI (Xk 1 aF dst N++A++z2++Z);generalize Yj (Xk 1 aF dst N++A++z2++Z)=K at *
 have kg:(Xk 1 aF dst N).length<=12:=by unfold Xk;split<;>simp[Qk]
 have sA:=CF c.gl aF dst 1 N af af af af;have fX:(Wi 1 aF dst aN id N).length=20:=Cz _ _ _ _ _ _;have xy:=J0 c.gl 1 aF dst aN id N af af af af af af;generalize Xk 1 aF dst N=X at *
 generalize Wi 1 aF dst aN id N=H at *
 have dO:((2:Int)+2)+(((4+body.length:Nat)):Int)=N:=by omega
 subst hP;unfold Pk.enc at hG ⊢;dsimp only at hG ⊢;refine Qa ?_;refine Xc hG ?_;refine Yc ?_;refine Qa ?_;refine Yc ?_;refine Qd (An @cI (An @Qk (An @l2 (An @hA (An @fb (An @dO (An @hZ @ja))))))) ?_
 (have zC:=(Xh c.gl flags 1);refine Qj zC (An @cI (An @Qk (An @l2 (An @hA (An @fb (An @dO (An @hZ @ja))))))) ?_;clear zC)
 (have zC:=(Xh c.gl (aj+aw) 2);refine Qj zC (An @cI (An @Qk (An @l2 (An @hA (An @fb (An @dO (An @hZ @ja))))))) ?_;clear zC)
 (have zC:=(Xh c.gl seq 2);refine Qj zC (An @cI (An @Qk (An @l2 (An @hA (An @fb (An @dO (An @hZ @ja))))))) ?_;clear zC)
 refine Qj sA (An @cI (An @Qk (An @l2 (An @hA (An @fb (An @dO (An @hZ @ja))))))) ?_;refine Qj vK (An @cI (An @Qk (An @l2 (An @hA (An @fb (An @dO (An @hZ @ja))))))) ?_;rw[aa af]at hck;subst hck;refine Yc ?_;refine Qd (An @cI (An @Qk (An @l2 (An @hA (An @fb (An @dO (An @hZ @ja))))))) ?_;refine Qj xy (An @cI (An @Qk (An @l2 (An @hA (An @fb (An @dO (An @hZ @ja))))))) ?_
 (have zC:=(Xh c.gl ck 2);refine Qj zC (An @cI (An @Qk (An @l2 (An @hA (An @fb (An @dO (An @hZ @ja))))))) ?_;clear zC)
 simp only[append_assoc]
set_option maxRecDepth 20000 in
def Xl5 (aF aj dst aw aN id flags seq bC win:Int)(body:List UInt8)(h:Zl (⟨17,aF,aj,dst,aw,aN,id,flags,seq,bC,win,body⟩:Pk)=0):PS Tryz.prog gl 162 [.agg (⟨17,aF,aj,dst,aw,aN,id,flags,seq,bC,win,body⟩:Pk).enc] (.aR [.str (Zw (⟨17,aF,aj,dst,aw,aN,id,flags,seq,bC,win,body⟩:Pk)),.int .i64 0]):=by
 generalize hP:(⟨17,aF,aj,dst,aw,aN,id,flags,seq,bC,win,body⟩:Pk)=P at h ⊢;refine Pa.ps (ap rfl) (by simp[Qe,ah]) fun c hN hg=>?_
 conv in aG _ _=>cbv
 obtain ⟨_,⟨r1,r2,r3,r4,r5,r6,r7,r8,r9,iF⟩,hbl,_⟩:=Wj h;rw[<- hP]at r1 r2 r3 r4 r5 r6 r7 r8 r9 iF hbl;dsimp only at r1 r2 r3 r4 r5 r6 r7 r8 r9 iF hbl;have hG:=Af c.gl P (by subst hP;exact ⟨by dsimp only;omega,by dsimp only;omega⟩);rw[h]at hG;clear h;obtain ⟨z2,cI⟩:∃ z:List UInt8,[0,0]=z:=⟨_,rfl⟩
 have l2:z2.length=2:=by rw[<- cI];rfl
 have hA:be aj 2++be aw 2++be (8+(body.length:Int)) 2=Wh P:=by subst hP;unfold Wh;simp
 have hZ:body=Wq P:=by subst hP;unfold Wq;simp[<- cI]
 have fb:(Wh P).length=6:=by rw[<- hA];simp[Qk]
 have ja:(Wq P).length=body.length:=by rw[<- hZ]<;>first|rfl|(simp[Qk,l2];done)|(simp[Qk,l2];omega)
 have b9:Zw P=Wi 17 aF dst aN id (Xm P)++(Wh P++be (mJ P) 2++Wq P):=by subst hP;rfl
 have hck:mJ P=if (17:Int)=17/\Yj (Xk 17 aF dst (Xm P)++Wh P++[0,0]++Wq P)=0 then 65535 else Yj (Xk 17 aF dst (Xm P)++Wh P++[0,0]++Wq P):=by subst hP;rfl
 have hN:((Xm P:Nat):Int)=6+2+((body.length:Nat):Int):=by subst hP;unfold Xm;omega
 have Y9:Xm P<=90:=by subst hP;unfold Xm;omega
 rw[cI]at hck;rw[b9];clear b9;generalize Wh P=A at *
 generalize Wq P=Z at *
 generalize mJ P=ck at *
 generalize Xm P=N at *
 have vK:=E4 c.gl (Xk 17 aF dst N++A++z2++Z) (by unfold Xk;simp only[length_append];split<;>(try simp[Qk])<;>(try omega));have J1:=yI (Xk 17 aF dst N++A++z2++Z);generalize Yj (Xk 17 aF dst N++A++z2++Z)=K at *
 have kg:(Xk 17 aF dst N).length<=12:=by unfold Xk;split<;>simp[Qk]
 have sA:=CF c.gl aF dst 17 N af af af af;have fX:(Wi 17 aF dst aN id N).length=20:=Cz _ _ _ _ _ _;have xy:=J0 c.gl 17 aF dst aN id N af af af af af af;generalize Xk 17 aF dst N=X at *
 generalize Wi 17 aF dst aN id N=H at *
 have dO:((6:Int)+2)+(((body.length:Nat)):Int)=N:=by omega
 subst hZ;subst hP;unfold Pk.enc at hG ⊢;dsimp only at hG ⊢;refine Qa ?_;refine Xc hG ?_;refine Yc ?_;refine Qa ?_;refine Yc ?_;refine Qd (An @cI (An @Qk (An @l2 (An @hA (An @fb @dO))))) ?_;refine Yc ?_;refine Qd (An @cI (An @Qk (An @l2 (An @hA (An @fb @dO))))) ?_
 (have zC:=(Xh c.gl aj 2);refine Qj zC (An @cI (An @Qk (An @l2 (An @hA (An @fb @dO))))) ?_;clear zC)
 (have zC:=(Xh c.gl aw 2);refine Qj zC (An @cI (An @Qk (An @l2 (An @hA (An @fb @dO))))) ?_;clear zC)
 (have zC:=(Xh c.gl (8+(body.length:Int)) 2);refine Qj zC (An @cI (An @Qk (An @l2 (An @hA (An @fb @dO))))) ?_;clear zC)
 refine Qj sA (An @cI (An @Qk (An @l2 (An @hA (An @fb @dO))))) ?_;refine Qj vK (An @cI (An @Qk (An @l2 (An @hA (An @fb @dO))))) ?_;by_cases Pe:K=0
 ·rw[am ⟨rfl,Pe⟩]at hck;have ZA:(ck:Int)=65535:=by omega
  rw[ZA];clear hck ZA ck;subst Pe;refine Yc ?_;refine Qd (An @cI (An @Qk (An @l2 (An @hA (An @fb @dO))))) ?_;refine Qj xy (An @cI (An @Qk (An @l2 (An @hA (An @fb @dO))))) ?_
  (have zC:=(Xh c.gl 65535 2);refine Qj zC (An @cI (An @Qk (An @l2 (An @hA (An @fb @dO))))) ?_;clear zC)
  simp only[append_assoc]
 ·rw[aa fun h=>Pe h.2]at hck;subst hck;have hKb:((ck:Int) == 0)=false:=by simp;omega
  refine Qd @hKb ?_;refine Yc ?_;refine Qd (An @cI (An @Qk (An @l2 (An @hA (An @fb @dO))))) ?_;refine Qj xy (An @cI (An @Qk (An @l2 (An @hA (An @fb @dO))))) ?_
  (have zC:=(Xh c.gl ck 2);refine Qj zC (An @cI (An @Qk (An @l2 (An @hA (An @fb @dO))))) ?_;clear zC)
  simp only[append_assoc]
set_option maxRecDepth 20000 in
def Xhc (aF aj dst aw aN id flags seq bC win:Int)(body:List UInt8)(h:Zl (⟨6,aF,aj,dst,aw,aN,id,flags,seq,bC,win,body⟩:Pk)=0):PS Tryz.prog gl 162 [.agg (⟨6,aF,aj,dst,aw,aN,id,flags,seq,bC,win,body⟩:Pk).enc] (.aR [.str (Zw (⟨6,aF,aj,dst,aw,aN,id,flags,seq,bC,win,body⟩:Pk)),.int .i64 0]):=by
 generalize hP:(⟨6,aF,aj,dst,aw,aN,id,flags,seq,bC,win,body⟩:Pk)=P at h ⊢;refine Pa.ps (ap rfl) (by simp[Qe,ah]) fun c hN hg=>?_
 conv in aG _ _=>cbv
 obtain ⟨_,⟨r1,r2,r3,r4,r5,r6,r7,r8,r9,iF⟩,hbl,_⟩:=Wj h;rw[<- hP]at r1 r2 r3 r4 r5 r6 r7 r8 r9 iF hbl;dsimp only at r1 r2 r3 r4 r5 r6 r7 r8 r9 iF hbl;have hG:=Af c.gl P (by subst hP;exact ⟨by dsimp only;omega,by dsimp only;omega⟩);rw[h]at hG;clear h;obtain ⟨z2,cI⟩:∃ z:List UInt8,[0,0]=z:=⟨_,rfl⟩
 have l2:z2.length=2:=by rw[<- cI];rfl
 have hA:be aj 2++be aw 2++be seq 4++be bC 4++[80]++be flags 1++be win 2=Wh P:=by subst hP;unfold Wh;simp
 have hZ:z2++body=Wq P:=by subst hP;unfold Wq;simp[<- cI]
 have fb:(Wh P).length=16:=by rw[<- hA];simp[Qk]
 have ja:(Wq P).length=2+body.length:=by rw[<- hZ]<;>first|rfl|(simp[Qk,l2];done)|(simp[Qk,l2];omega)
 have b9:Zw P=Wi 6 aF dst aN id (Xm P)++(Wh P++be (mJ P) 2++Wq P):=by subst hP;rfl
 have hck:mJ P=if (6:Int)=17/\Yj (Xk 6 aF dst (Xm P)++Wh P++[0,0]++Wq P)=0 then 65535 else Yj (Xk 6 aF dst (Xm P)++Wh P++[0,0]++Wq P):=by subst hP;rfl
 have hN:((Xm P:Nat):Int)=16+2+((2+body.length:Nat):Int):=by subst hP;unfold Xm;omega
 have Y9:Xm P<=90:=by subst hP;unfold Xm;omega
 rw[cI]at hck;rw[b9];clear b9;generalize Wh P=A at *
 generalize Wq P=Z at *
 generalize mJ P=ck at *
 generalize Xm P=N at *
 have vK:=E4 c.gl (Xk 6 aF dst N++A++z2++Z) (by unfold Xk;simp only[length_append];split<;>(try simp[Qk])<;>(try omega));have J1:=yI (Xk 6 aF dst N++A++z2++Z);generalize Yj (Xk 6 aF dst N++A++z2++Z)=K at *
 have kg:(Xk 6 aF dst N).length<=12:=by unfold Xk;split<;>simp[Qk]
 have sA:=CF c.gl aF dst 6 N af af af af;have fX:(Wi 6 aF dst aN id N).length=20:=Cz _ _ _ _ _ _;have xy:=J0 c.gl 6 aF dst aN id N af af af af af af;generalize Xk 6 aF dst N=X at *
 generalize Wi 6 aF dst aN id N=H at *
 have dO:((16:Int)+2)+(((2+body.length:Nat)):Int)=N:=by omega
 subst hP;unfold Pk.enc at hG ⊢;dsimp only at hG ⊢;refine Qa ?_;refine Xc hG ?_;refine Yc ?_;refine Qa ?_;refine Yc ?_;refine Qd (An @cI (An @Qk (An @l2 (An @hA (An @fb (An @dO (An @hZ @ja))))))) ?_;refine Yc ?_;refine Qd (An @cI (An @Qk (An @l2 (An @hA (An @fb (An @dO (An @hZ @ja))))))) ?_
 (have zC:=(Xh c.gl aj 2);refine Qj zC (An @cI (An @Qk (An @l2 (An @hA (An @fb (An @dO (An @hZ @ja))))))) ?_;clear zC)
 (have zC:=(Xh c.gl aw 2);refine Qj zC (An @cI (An @Qk (An @l2 (An @hA (An @fb (An @dO (An @hZ @ja))))))) ?_;clear zC)
 (have zC:=(Xh c.gl seq 4);refine Qj zC (An @cI (An @Qk (An @l2 (An @hA (An @fb (An @dO (An @hZ @ja))))))) ?_;clear zC)
 (have zC:=(Xh c.gl bC 4);refine Qj zC (An @cI (An @Qk (An @l2 (An @hA (An @fb (An @dO (An @hZ @ja))))))) ?_;clear zC)
 (have zC:=(Xh c.gl flags 1);refine Qj zC (An @cI (An @Qk (An @l2 (An @hA (An @fb (An @dO (An @hZ @ja))))))) ?_;clear zC)
 (have zC:=(Xh c.gl win 2);refine Qj zC (An @cI (An @Qk (An @l2 (An @hA (An @fb (An @dO (An @hZ @ja))))))) ?_;clear zC)
 refine Qj sA (An @cI (An @Qk (An @l2 (An @hA (An @fb (An @dO (An @hZ @ja))))))) ?_;refine Qj vK (An @cI (An @Qk (An @l2 (An @hA (An @fb (An @dO (An @hZ @ja))))))) ?_;rw[aa af]at hck;subst hck;refine Yc ?_;refine Qd (An @cI (An @Qk (An @l2 (An @hA (An @fb (An @dO (An @hZ @ja))))))) ?_;refine Qj xy (An @cI (An @Qk (An @l2 (An @hA (An @fb (An @dO (An @hZ @ja))))))) ?_
 (have zC:=(Xh c.gl ck 2);refine Qj zC (An @cI (An @Qk (An @l2 (An @hA (An @fb (An @dO (An @hZ @ja))))))) ?_;clear zC)
 simp only[append_assoc]
def G1 (f:List UInt8):Prop:=f.length<20\/b1 f 0≠69\/w2 f 2≠f.length
def G2 (f:List UInt8):Prop:=dE (f.take 20)≠65535
def G3 (f:List UInt8):Prop:=b1 f 1≠0\/w2 f 6≠0
def G4 (f:List UInt8):Prop:=b1 f 8=0
def G5 (f:List UInt8):Prop:=¬ (b1 f 9=1\/b1 f 9=6\/b1 f 9=17)
def G6 (f:List UInt8):Prop:=(f.drop 20).length<(if b1 f 9=6 then 20 else 8)
def G7 (f:List UInt8):Prop:=dE (Xk (b1 f 9) (w4 f 12) (w4 f 16) (f.drop 20).length++f.drop 20)≠65535\/(b1 f 9=17/\w2 (f.drop 20) 6=0)
def G8 (f:List UInt8):Prop:=b1 f 9=1/\((b1 (f.drop 20) 0≠8/\b1 (f.drop 20) 0≠0)\/b1 (f.drop 20) 1≠0)
def G9 (f:List UInt8):Prop:=b1 f 9=17/\w2 (f.drop 20) 4≠(f.drop 20).length
def nF (f:List UInt8):Prop:=b1 f 9=6/\(b1 (f.drop 20) 12≠80\/63<b1 (f.drop 20) 13\/w2 (f.drop 20) 18≠0)
def xA (h:G1 f):cH f=1:=am h
def J2 (h1:¬ G1 f)(h:G2 f):cH f=3:=(aa h1).trans (am h)
def Fb (h1:¬ G1 f)(h2:¬ G2 f)(h:G3 f):cH f=4:=(aa h1).trans ((aa h2).trans (am h))
def J3 (h1:¬ G1 f)(h2:¬ G2 f)(h3:¬ G3 f)(h:G4 f):cH f=12:=(aa h1).trans ((aa h2).trans ((aa h3).trans (am h)))
structure H4 (f:List UInt8):Prop where
 g1:¬ G1 f
 g2:¬ G2 f
 g3:¬ G3 f
 g4:¬ G4 f
def J4 (k:H4 f)(h:G5 f):cH f=4:=(aa k.g1).trans ((aa k.g2).trans ((aa k.g3).trans ((aa k.g4).trans (am h))))
def xB (k:H4 f)(h5:¬ G5 f)(h:G6 f):cH f=1:=(aa k.g1).trans ((aa k.g2).trans ((aa k.g3).trans ((aa k.g4).trans ((aa h5).trans (am h)))))
structure H6 (f:List UInt8):Prop where
 g:H4 f
 g5:¬ G5 f
 g6:¬ G6 f
def vL (k:H6 f)(h:G7 f):cH f=3:=(aa k.g.g1).trans ((aa k.g.g2).trans ((aa k.g.g3).trans ((aa k.g.g4).trans ((aa k.g5).trans ((aa k.g6).trans (am h))))))
def CG (k:H6 f)(h7:¬ G7 f)(h:G8 f):cH f=4:=(aa k.g.g1).trans ((aa k.g.g2).trans ((aa k.g.g3).trans ((aa k.g.g4).trans ((aa k.g5).trans ((aa k.g6).trans ((aa h7).trans (am h)))))))
def J5 (k:H6 f)(h7:¬ G7 f)(h8:¬ G8 f)(h:G9 f):cH f=1:=(aa k.g.g1).trans ((aa k.g.g2).trans ((aa k.g.g3).trans ((aa k.g.g4).trans ((aa k.g5).trans ((aa k.g6).trans ((aa h7).trans ((aa h8).trans (am h))))))))
def CH (k:H6 f)(h7:¬ G7 f)(h8:¬ G8 f)(h9:¬ G9 f)(h:nF f):cH f=4:=(aa k.g.g1).trans ((aa k.g.g2).trans ((aa k.g.g3).trans ((aa k.g.g4).trans ((aa k.g5).trans ((aa k.g6).trans ((aa h7).trans ((aa h8).trans ((aa h9).trans (am h)))))))))
def vM (k:H6 f)(h7:¬ G7 f)(h8:¬ G8 f)(h9:¬ G9 f)(fR:¬ nF f):cH f=Zl (aC f):=(aa k.g.g1).trans ((aa k.g.g2).trans ((aa k.g.g3).trans ((aa k.g.g4).trans ((aa k.g5).trans ((aa k.g6).trans ((aa h7).trans ((aa h8).trans ((aa h9).trans (aa fR)))))))))
theorem Qg:((l.getD k 0).toNat:Int)=b1 l k:=rfl
def We:0<=b1 l k/\b1 l k<=255:=by unfold b1;have:=UInt8.toNat_lt (l.getD k 0);omega
def CI (h:k+2<=l.length):0<=w2 l k/\w2 l k<=65535:=by unfold w2;have:=Yft _ (TP l k 2 h);omega
def CJ (h:k+4<=l.length):0<=w4 l k/\w4 l k<=4294967295:=by unfold w4;have:=Yeo _ (TP l k 4 h);omega
def lS:PS Tryz.prog gl 73 [.str ((l.drop k).take 2)] (.int .i64 (w2 l k)):=YY gl _ (by rw[length_take];omega)
def J6:PS Tryz.prog gl 73 [.str ((l.drop k).take 4)] (.int .i64 (w4 l k)):=YY gl _ (by rw[length_take];omega)
def sB:PS Tryz.prog gl 146 [.str ((l.drop k).take 2)] (.int .i64 (w2 l k)):=YZ gl _ (by rw[length_take];omega)
def J7:PS Tryz.prog gl 146 [.str ((l.drop k).take 4)] (.int .i64 (w4 l k)):=YZ gl _ (by rw[length_take];omega)
def Qz {l:List UInt8}  (h:cH l=e)(he:e≠0):py l=.aR [.agg cY.enc,.int .i64 e]:=by
 unfold py;rw[aa af,h]
def Pf {l:List UInt8}(h:cH l=0):py l=.aR [.agg (aC l).enc,.int .i64 0]:=by
 unfold py;rw[am h]
def ZB:Qe 0 (py l):=by
 unfold py;split<;>simp[Qe,ah,Pk.enc]
def xC {l:List UInt8}   (h:cH l=e)(hp:aC l=p):py l=if e=0 then .aR [.agg p.enc,.int .i64 0] else .aR [.agg cY.enc,.int .i64 e]:=by
 unfold py;rw[h,hp]
set_option maxRecDepth 20000 in
def J8 (hl:l.length<=140737488351232):PS Tryz.prog gl 34 [.str l] (py l):=by
 refine Xql.ps (ap rfl) (ZB l) fun c hN hg=>?_
 conv in aG _ _=>cbv
 have c0:=We l 0;have c1:=We l 1;have c8:=We l 8;have c9:=We l 9;by_cases h1:l.length<20
 ·have d1:decide ((l.length:Int) < 20)=true:=by simp;omega
  refine Qd @d1 ?_;refine jz @d1 ?_;refine Yc ?_;rw[Qz (xA (.inl h1)) aJ];refine Qd @Qg ?_;exact Kd (ip []) (Kp c.gl 1) (An @ie.eq_1 (An @cY.eq_1 (An @Pk.enc.eq_1 @Qg)))
 have d1:decide ((l.length:Int)<20)=false:=by simp;omega
 by_cases h2:b1 l 0=69;rotate_left
 ·have Pg:(b1 l 0 != 69)=true:=by simp[h2]
  refine Qd (An @Qg (An @Pg @d1)) ?_;refine jz @d1 ?_;refine Yc ?_;rw[Qz (xA (.inr (.inl h2))) aJ];refine Qd @Qg ?_;exact Kd (ip []) (Kp c.gl 1) (An @ie.eq_1 (An @cY.eq_1 (An @Pk.enc.eq_1 @Qg)))
 refine Qd (An @Qg (An @h2 @d1)) ?_
 (have zC:=(lS c.gl l 2);refine Qj zC (An @Qg @h2) ?_;clear zC)
 refine Qc ?_ ?_<;>intro h3
 ·rw[Qz (xA (.inr (.inr h3))) aJ];refine Qd @Qg ?_;exact Kd (ip []) (Kp c.gl 1) (An @ie.eq_1 (An @cY.eq_1 (An @Pk.enc.eq_1 @Qg)))
 have k1:¬ G1 l:=by unfold G1;omega
 refine Qa ?_
 (have zC:=(E3 c.gl (l.take 20) (by rw[length_take];omega));refine Xc zC ?_;clear zC)
 refine Qc ?_ ?_<;>intro h4
 ·rw[Qz (J2 k1 (by unfold G2;omega)) aJ];refine Qd @Qg ?_;exact Kd (ip []) (Kp c.gl 3) (An @ie.eq_1 (An @cY.eq_1 (An @Pk.enc.eq_1 @Qg)))
 have k2:¬ G2 l:=by unfold G2;omega
 by_cases h5:b1 l 1=0;rotate_left
 ·have h5b:(b1 l 1 != 0)=true:=by simp[h5]
  refine Qd (An @Qg @h5b) ?_;refine Yb ?_;refine Yc ?_;rw[Qz (Fb k1 k2 (.inl h5)) aJ];refine Qd @Qg ?_;exact Kd (ip []) (Kp c.gl 4) (An @ie.eq_1 (An @cY.eq_1 (An @Pk.enc.eq_1 @Qg)))
 refine Qd (An @Qg @h5) ?_
 (have zC:=(lS c.gl l 6);refine Qj zC (An @Qg @h5) ?_;clear zC)
 refine Qc ?_ ?_<;>intro h6
 ·rw[Qz (Fb k1 k2 (.inr h6)) aJ];refine Qd @Qg ?_;exact Kd (ip []) (Kp c.gl 4) (An @ie.eq_1 (An @cY.eq_1 (An @Pk.enc.eq_1 @Qg)))
 have k3:¬ G3 l:=by unfold G3;omega
 refine Qd @Qg ?_
 (have zC:=(J6 c.gl l 12);refine Qj zC @Qg ?_;clear zC)
 (have zC:=(J6 c.gl l 16);refine Qj zC @Qg ?_;clear zC)
 (have zC:=(lS c.gl l 4);refine Qj zC @Qg ?_;clear zC)
 refine Qc ?_ ?_<;>intro h7
 ·rw[Qz (J3 k1 k2 k3 h7) aJ];refine Qd @Qg ?_;exact Kd (ip []) (Kp c.gl 12) (An @ie.eq_1 (An @cY.eq_1 (An @Pk.enc.eq_1 @Qg)))
 have K:H4 l:=⟨k1,k2,k3,h7⟩
 clear k1 k2 k3;have e4:0<=w4 l 12/\w4 l 12<=4294967295:=CJ _ _ af;have e5:0<=w4 l 16/\w4 l 16<=4294967295:=CJ _ _ af;have cE:=YX c.gl (b1 l 9);by_cases h8:b1 l 9=1\/b1 l 9=6\/b1 l 9=17;rotate_left
 ·have hz:pz (b1 l 9)=.aR [.int .i64 0,.int .i64 0]:=by unfold pz;rw[aa af,aa af,aa af]
  rw[hz]at cE;refine Qa ?_;refine Xc cE ?_;refine Yc ?_;rw[Qz (J4 K h8) aJ];refine Qd @Qg ?_;exact Kd (ip []) (Kp c.gl 4) (An @ie.eq_1 (An @cY.eq_1 (An @Pk.enc.eq_1 @Qg)))
 have k5:¬ G5 l:=fun h=>h h8;generalize hs:l.drop 20=s;have jb:s.length=l.length-20:=by rw[<- hs,List.length_drop]
 have f0:=We s 0;have f1:=We s 1;have f12:=We s 12;have f13:=We s 13;rcases h8 with h9|h9|h9
 ·have hz:pz (b1 l 9)=.aR [.int .i64 8,.int .i64 2]:=by rw[h9];rfl
  rw[hz,h9]at cE;rw[h9];clear hz;refine Qd @hs ?_;refine Xc cE ?_;refine Yc ?_;refine Qa ?_;refine Qc ?_ ?_<;>intro fR
  ·rw[Qz (xB K k5 (by unfold G6;rw[hs,h9];simp;omega)) aJ];refine Qd @Qg ?_;exact Kd (ip []) (Kp c.gl 1) (An @ie.eq_1 (An @cY.eq_1 (An @Pk.enc.eq_1 @Qg)))
  have K6:H6 l:=⟨K,k5,by unfold G6;rw[hs,h9];simp;omega⟩
  clear K k5;have hO:=E3 c.gl s af;have la:G7 l ↔ dE s≠65535:=by unfold G7;rw[hs,h9];simp[Xk]
  generalize dE s=O at *
  refine Qa ?_;refine Yc ?_;refine Qa ?_;have k7:¬ G7 l\/(G7 l/\O≠65535):=by by_cases h:O=65535<;>simp[la,h]
  refine Xc hO ?_;by_cases iJ:O=65535;rotate_left
  ·have d2:((O:Int) != 65535)=true:=by simp;omega
   refine Qd @d2 ?_;refine jz @d2 ?_;refine Yc ?_;rw[Qz (vL K6 (la.2 iJ)) aJ];refine Qd @Qg ?_;exact Kd (ip []) (Kp c.gl 3) (An @ie.eq_1 (An @cY.eq_1 (An @Pk.enc.eq_1 @Qg)))
  have d2:((O:Int) != 65535)=false:=by simp;omega
  have k7:¬ G7 l:=fun h=>la.1 h iJ;refine Qd @d2 ?_;refine jz @d2 ?_;refine Yc ?_;refine Qd @Qg ?_;have k9:¬ G9 l:=fun h=>by have:=h.1;omega
  have jF:¬ nF l:=fun h=>by have:=h.1;omega
  refine Yc ?_;refine Qd @Qg ?_
  (have zC:=(lS c.gl s 6);refine Qj zC @Qg ?_;clear zC)
  by_cases f8:b1 s 0=8
  ·have k8:G8 l ↔ b1 s 1≠0:=by unfold G8;rw[hs,h9];simp[f8]
   rw[f8];refine Qd (An @Qg @f8) ?_;refine Qc ?_ ?_<;>intro fu
   ·rw[Qz (CG K6 k7 (k8.2 fu)) aJ];refine Qd @Qg ?_;exact Kd (ip []) (Kp c.gl 4) (An @ie.eq_1 (An @cY.eq_1 (An @Pk.enc.eq_1 @Qg)))
   have k8:¬ G8 l:=fun h=>k8.1 h fu;refine Qd @Qg ?_;refine Yc ?_;refine Qd @Qg ?_
   (have zC:=(lS c.gl s 4);refine Qj zC @Qg ?_;clear zC)
   have hP:aC l=(⟨1,w4 l 12,w2 s 4,w4 l 16,0,b1 l 8,w2 l 4,8,w2 s 6,0,0,s.drop 8⟩:Pk):=by unfold aC kY;simp only[hs,h9,reduceCtorEq,Int.reduceEq,if_true,if_false,↓reduceIte,f8]
   have hG:=JY c.gl (⟨1,w4 l 12,w2 s 4,w4 l 16,0,b1 l 8,w2 l 4,8,w2 s 6,0,0,s.drop 8⟩:Pk);have hE:=vM K6 k7 k8 k9 jF;rw[hP]at hE;unfold Pk.enc at hG;dsimp only at hG;rw[xC _ hE hP];generalize Zl (⟨1,w4 l 12,w2 s 4,w4 l 16,0,b1 l 8,w2 l 4,8,w2 s 6,0,0,s.drop 8⟩:Pk)=E at *
   clear hP hE;unfold Pk.enc cY;refine Qd @Qg ?_;refine Qj hG @Qg ?_;refine Qc ?_ ?_<;>intro g9
   ·rw[aa g9];refine Qd @Qg ?_;exact Kd (ip []) (Kp c.gl E) (An @ie.eq_1 (An @cY.eq_1 (An @Pk.enc.eq_1 @Qg)))
   ·rw[am g9];subst g9;exact Qi @Qg
  ·have f8b:(b1 s 0 != 8)=true:=by simp[f8]
   have f8c:(b1 s 0==8)=false:=by simp[f8]
   by_cases CK:b1 s 0=0
   ·have k8:G8 l ↔ b1 s 1≠0:=by unfold G8;rw[hs,h9];simp[CK]
    rw[CK];refine Qd (An @Qg @CK) ?_;refine Qc ?_ ?_<;>intro fu
    ·rw[Qz (CG K6 k7 (k8.2 fu)) aJ];refine Qd @Qg ?_;exact Kd (ip []) (Kp c.gl 4) (An @ie.eq_1 (An @cY.eq_1 (An @Pk.enc.eq_1 @Qg)))
    have k8:¬ G8 l:=fun h=>k8.1 h fu;refine Qd @Qg ?_;refine Yc ?_;refine Qd @Qg ?_
    (have zC:=(lS c.gl s 4);refine Qj zC @Qg ?_;clear zC)
    have hP:aC l=(⟨1,w4 l 12,0,w4 l 16,w2 s 4,b1 l 8,w2 l 4,0,w2 s 6,0,0,s.drop 8⟩:Pk):=by unfold aC kY;simp only[hs,h9,reduceCtorEq,Int.reduceEq,if_true,if_false,↓reduceIte,CK]
    have hG:=JY c.gl (⟨1,w4 l 12,0,w4 l 16,w2 s 4,b1 l 8,w2 l 4,0,w2 s 6,0,0,s.drop 8⟩:Pk);have hE:=vM K6 k7 k8 k9 jF;rw[hP]at hE;unfold Pk.enc at hG;dsimp only at hG;rw[xC _ hE hP];generalize Zl (⟨1,w4 l 12,0,w4 l 16,w2 s 4,b1 l 8,w2 l 4,0,w2 s 6,0,0,s.drop 8⟩:Pk)=E at *
    clear hP hE;unfold Pk.enc cY;refine Qd @Qg ?_;refine Qj hG @Qg ?_;refine Qc ?_ ?_<;>intro g9
    ·rw[aa g9];refine Qd @Qg ?_;exact Kd (ip []) (Kp c.gl E) (An @ie.eq_1 (An @cY.eq_1 (An @Pk.enc.eq_1 @Qg)))
    ·rw[am g9];subst g9;exact Qi @Qg
   ·have f0b:(b1 s 0 != 0)=true:=by simp[CK]
    refine Qd (An @Qg (An @f8b @f0b)) ?_;refine Yc ?_;rw[Qz (CG K6 k7 (show G8 l by unfold G8;rw[hs];exact ⟨h9,.inl ⟨f8,CK⟩⟩)) aJ];refine Qd @Qg ?_;exact Kd (ip []) (Kp c.gl 4) (An @ie.eq_1 (An @cY.eq_1 (An @Pk.enc.eq_1 @Qg)))
 ·have hz:pz (b1 l 9)=.aR [.int .i64 20,.int .i64 16]:=by rw[h9];rfl
  rw[hz,h9]at cE;rw[h9];clear hz;refine Qd @hs ?_;refine Xc cE ?_;refine Yc ?_;refine Qa ?_;refine Qc ?_ ?_<;>intro fR
  ·rw[Qz (xB K k5 (by unfold G6;rw[hs,h9];simp;omega)) aJ];refine Qd @Qg ?_;exact Kd (ip []) (Kp c.gl 1) (An @ie.eq_1 (An @cY.eq_1 (An @Pk.enc.eq_1 @Qg)))
  have K6:H6 l:=⟨K,k5,by unfold G6;rw[hs,h9];simp;omega⟩
  clear K k5;have b6:be (w4 l 12) 4++be (w4 l 16) 4++be 6 2++be (s.length:Int) 2=Xk 6 (w4 l 12) (w4 l 16) s.length:=rfl;have kg:(Xk 6 (w4 l 12) (w4 l 16) s.length).length=12:=by rw[<- b6];simp[Qk]
  have hO:=E3 c.gl (Xk 6 (w4 l 12) (w4 l 16) s.length++s) (by rw[length_append];omega);have eg:=Y8 c.gl (w4 l 12) (w4 l 16) 6 (s.length:Int);rw[b6]at eg;have la:G7 l ↔ dE (Xk 6 (w4 l 12) (w4 l 16) s.length++s)≠65535:=by unfold G7;rw[hs,h9];simp
  clear b6;generalize dE (Xk 6 (w4 l 12) (w4 l 16) s.length++s)=O at *
  generalize Xk 6 (w4 l 12) (w4 l 16) s.length=pre at *
  refine Qa ?_;refine Yc ?_;refine Qa ?_;refine Qj eg @kg ?_;refine Xc hO ?_;by_cases iJ:O=65535;rotate_left
  ·have d2:((O:Int) != 65535)=true:=by simp;omega
   refine Qd @d2 ?_;refine jz @d2 ?_;refine Yc ?_;rw[Qz (vL K6 (la.2 iJ)) aJ];refine Qd @Qg ?_;exact Kd (ip []) (Kp c.gl 3) (An @ie.eq_1 (An @cY.eq_1 (An @Pk.enc.eq_1 @Qg)))
  have d2:((O:Int) != 65535)=false:=by simp;omega
  refine Qd @d2 ?_;refine jz @d2 ?_;refine Yc ?_;have k7:¬ G7 l:=fun h=>la.1 h iJ;have k8:¬ G8 l:=fun h=>by have:=h.1;omega
  have k9:¬ G9 l:=fun h=>by have:=h.1;omega
  have oA:nF l ↔ b1 s 12≠80\/63<b1 s 13\/w2 s 18≠0:=by unfold nF;rw[hs,h9];simp
  refine Qd @Qg ?_;refine Yc ?_;refine Qd @Qg ?_;refine Yc ?_;refine Qd @Qg ?_;refine Yc ?_;refine Qd @Qg ?_
  (have zC:=(lS c.gl s 0);refine Qj zC (An @Qg @drop_zero.{0}) ?_;clear zC)
  (have zC:=(lS c.gl s 2);refine Qj zC @Qg ?_;clear zC)
  (have zC:=(J6 c.gl s 4);refine Qj zC @Qg ?_;clear zC)
  (have zC:=(J6 c.gl s 8);refine Qj zC @Qg ?_;clear zC)
  (have zC:=(lS c.gl s 14);refine Qj zC @Qg ?_;clear zC)
  by_cases oB:b1 s 12=80;rotate_left
  ·have d3:(b1 s 12 != 80)=true:=by simp[oB]
   refine Qd (An @Qg @d3) ?_;refine jz @d3 ?_;refine Yc ?_;rw[Qz (CH K6 k7 k8 k9 (oA.2 (.inl oB))) aJ];refine Qd @Qg ?_;exact Kd (ip []) (Kp c.gl 4) (An @ie.eq_1 (An @cY.eq_1 (An @Pk.enc.eq_1 @Qg)))
  by_cases ZC:63<b1 s 13
  ·have d3:decide (63 < b1 s 13)=true:=by simp[ZC]
   refine Qd (An @Qg (An @oB @d3)) ?_;refine jz @d3 ?_;refine Yc ?_;rw[Qz (CH K6 k7 k8 k9 (oA.2 (.inr (.inl ZC)))) aJ];refine Qd @Qg ?_;exact Kd (ip []) (Kp c.gl 4) (An @ie.eq_1 (An @cY.eq_1 (An @Pk.enc.eq_1 @Qg)))
  have d3:decide (63<b1 s 13)=false:=by simp;omega
  refine Qd (An @Qg (An @oB @d3)) ?_
  (have zC:=(lS c.gl s 18);refine Qj zC (An @Qg (An @oB @d3)) ?_;clear zC)
  refine Qc ?_ ?_<;>intro ZD
  ·rw[Qz (CH K6 k7 k8 k9 (oA.2 (.inr (.inr ZD)))) aJ];refine Qd @Qg ?_;exact Kd (ip []) (Kp c.gl 4) (An @ie.eq_1 (An @cY.eq_1 (An @Pk.enc.eq_1 @Qg)))
  have jF:¬ nF l:=fun h=>by have:=oA.1 h;omega
  have hP:aC l=(⟨6,w4 l 12,w2 s 0,w4 l 16,w2 s 2,b1 l 8,w2 l 4,b1 s 13,w4 s 4,w4 s 8,w2 s 14,s.drop 20⟩:Pk):=by unfold aC kY;simp only[hs,h9,reduceCtorEq,Int.reduceEq,if_true,if_false,↓reduceIte]
  have hG:=JY c.gl (⟨6,w4 l 12,w2 s 0,w4 l 16,w2 s 2,b1 l 8,w2 l 4,b1 s 13,w4 s 4,w4 s 8,w2 s 14,s.drop 20⟩:Pk);have hE:=vM K6 k7 k8 k9 jF;rw[hP]at hE;unfold Pk.enc at hG;dsimp only at hG;rw[xC _ hE hP];generalize Zl (⟨6,w4 l 12,w2 s 0,w4 l 16,w2 s 2,b1 l 8,w2 l 4,b1 s 13,w4 s 4,w4 s 8,w2 s 14,s.drop 20⟩:Pk)=E at *
  clear hP hE;unfold Pk.enc cY;refine Qd @Qg ?_;refine Qj hG @Qg ?_;refine Qc ?_ ?_<;>intro g9
  ·rw[aa g9];refine Qd @Qg ?_;exact Kd (ip []) (Kp c.gl E) (An @ie.eq_1 (An @cY.eq_1 (An @Pk.enc.eq_1 @Qg)))
  ·rw[am g9];subst g9;exact Qi @Qg
 ·have hz:pz (b1 l 9)=.aR [.int .i64 8,.int .i64 6]:=by rw[h9];rfl
  rw[hz,h9]at cE;rw[h9];clear hz;refine Qd @hs ?_;refine Xc cE ?_;refine Yc ?_;refine Qa ?_;refine Qc ?_ ?_<;>intro fR
  ·rw[Qz (xB K k5 (by unfold G6;rw[hs,h9];simp;omega)) aJ];refine Qd @Qg ?_;exact Kd (ip []) (Kp c.gl 1) (An @ie.eq_1 (An @cY.eq_1 (An @Pk.enc.eq_1 @Qg)))
  have K6:H6 l:=⟨K,k5,by unfold G6;rw[hs,h9];simp;omega⟩
  clear K k5;have b6:be (w4 l 12) 4++be (w4 l 16) 4++be 17 2++be (s.length:Int) 2=Xk 17 (w4 l 12) (w4 l 16) s.length:=rfl;have kg:(Xk 17 (w4 l 12) (w4 l 16) s.length).length=12:=by rw[<- b6];simp[Qk]
  have hO:=E3 c.gl (Xk 17 (w4 l 12) (w4 l 16) s.length++s) (by rw[length_append];omega);have eg:=Y8 c.gl (w4 l 12) (w4 l 16) 17 (s.length:Int);rw[b6]at eg;have la:G7 l ↔ dE (Xk 17 (w4 l 12) (w4 l 16) s.length++s)≠65535\/w2 s 6=0:=by unfold G7;rw[hs,h9];simp
  clear b6;generalize dE (Xk 17 (w4 l 12) (w4 l 16) s.length++s)=O at *
  generalize Xk 17 (w4 l 12) (w4 l 16) s.length=pre at *
  refine Qa ?_;refine Yc ?_;refine Qa ?_;refine Qj eg @kg ?_;refine Xc hO ?_;by_cases iJ:O=65535;rotate_left
  ·have d2:((O:Int) != 65535)=true:=by simp;omega
   refine Qd @d2 ?_;refine jz @d2 ?_;refine Yc ?_;rw[Qz (vL K6 (la.2 (.inl iJ))) aJ];refine Qd @Qg ?_;exact Kd (ip []) (Kp c.gl 3) (An @ie.eq_1 (An @cY.eq_1 (An @Pk.enc.eq_1 @Qg)))
  have d2:((O:Int) != 65535)=false:=by simp;omega
  refine Qd @d2 ?_
  (have zC:=(lS c.gl s 6);refine Qj zC @d2 ?_;clear zC)
  refine Qc ?_ ?_<;>intro fu
  ·rw[Qz (vL K6 (la.2 (.inr fu))) aJ];refine Qd @Qg ?_;exact Kd (ip []) (Kp c.gl 3) (An @ie.eq_1 (An @cY.eq_1 (An @Pk.enc.eq_1 @Qg)))
  have k7:¬ G7 l:=fun h=>by have:=la.1 h;omega
  have k8:¬ G8 l:=fun h=>by have:=h.1;omega
  have jF:¬ nF l:=fun h=>by have:=h.1;omega
  have Fc:G9 l ↔ w2 s 4≠s.length:=by unfold G9;rw[hs,h9];simp
  refine Qd @Qg ?_;refine Yc ?_;refine Qd @Qg ?_;refine Yc ?_;refine Qd @Qg ?_
  (have zC:=(lS c.gl s 0);refine Qj zC (An @Qg @drop_zero.{0}) ?_;clear zC)
  (have zC:=(lS c.gl s 2);refine Qj zC @Qg ?_;clear zC)
  (have zC:=(lS c.gl s 4);refine Qj zC @Qg ?_;clear zC)
  refine Qc ?_ ?_<;>intro oB
  ·rw[Qz (J5 K6 k7 k8 (Fc.2 oB)) aJ];refine Qd @Qg ?_;exact Kd (ip []) (Kp c.gl 1) (An @ie.eq_1 (An @cY.eq_1 (An @Pk.enc.eq_1 @Qg)))
  have k9:¬ G9 l:=fun h=>Fc.1 h oB;have hP:aC l=(⟨17,w4 l 12,w2 s 0,w4 l 16,w2 s 2,b1 l 8,w2 l 4,0,0,0,0,s.drop 8⟩:Pk):=by unfold aC kY;simp only[hs,h9,reduceCtorEq,Int.reduceEq,if_true,if_false,↓reduceIte]
  have hG:=JY c.gl (⟨17,w4 l 12,w2 s 0,w4 l 16,w2 s 2,b1 l 8,w2 l 4,0,0,0,0,s.drop 8⟩:Pk);have hE:=vM K6 k7 k8 k9 jF;rw[hP]at hE;unfold Pk.enc at hG;dsimp only at hG;rw[xC _ hE hP];generalize Zl (⟨17,w4 l 12,w2 s 0,w4 l 16,w2 s 2,b1 l 8,w2 l 4,0,0,0,0,s.drop 8⟩:Pk)=E at *
  clear hP hE;unfold Pk.enc cY;refine Qd @Qg ?_;refine Qj hG @Qg ?_;refine Qc ?_ ?_<;>intro g9
  ·rw[aa g9];refine Qd @Qg ?_;exact Kd (ip []) (Kp c.gl E) (An @ie.eq_1 (An @cY.eq_1 (An @Pk.enc.eq_1 @Qg)))
  ·rw[am g9];subst g9;exact Qi @Qg
end Go.Proofs.YtogckmommodmhaaGreatDoor
