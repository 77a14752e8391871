import Derived.Test.YtogckmommodmhaaGreatDoorZy7
namespace Go.Proofs.YtogckmommodmhaaGreatDoor
open List (cons_append append_assoc drop_zero append_nil nil_append map_cons map_nil length_append length_take)
open Go.RowKit
set_option linter.all false
set_option maxHeartbeats 16000000
set_option maxRecDepth 100000
structure Pk where
 ae:Int
 aE:Int
 aj:Int
 dst:Int
 av:Int
 aN:Int
 id:Int
 flags:Int
 seq:Int
 bB:Int
 win:Int
 body:List UInt8
def Pk.enc (p:Pk):List AV:=[.int .i64 p.ae,.int .i64 p.aE,.int .i64 p.aj,.int .i64 p.dst,.int .i64 p.av,.int .i64 p.aN,.int .i64 p.id,.int .i64 p.flags,.int .i64 p.seq,.int .i64 p.bB,.int .i64 p.win,.str p.body]
def cX:Pk:=⟨0,0,0,0,0,0,0,0,0,0,0,[]⟩
def Jj (p:Pk):Prop:=(0<=p.aE/\p.aE<=4294967295)/\(0<=p.dst/\p.dst<=4294967295)/\(0<=p.seq/\p.seq<=4294967295)/\(0<=p.bB/\p.bB<=4294967295) /\
 (0<=p.aj/\p.aj<=65535)/\(0<=p.av/\p.av<=65535)/\(0<=p.id/\p.id<=65535)/\(0<=p.win/\p.win<=65535)/\(1<=p.aN/\p.aN<=255)/\(0<=p.flags/\p.flags<=63)
instance (p:Pk):Decidable (Jj p):=by unfold Jj;infer_instance
def Wj (p:Pk):Prop:=(p.ae≠6/\(p.bB≠0\/p.win≠0))\/(p.ae=17/\(p.seq≠0\/p.flags≠0)) \/
 (p.ae=1/\((p.flags≠8/\p.flags≠0)\/(p.flags=8/\p.av≠0)\/(p.flags=0/\p.aj≠0)\/65535<p.seq))
instance (p:Pk):Decidable (Wj p):=by unfold Wj;infer_instance
def Zh (p:Pk):Int :=
 if ¬ (p.ae=1\/p.ae=6\/p.ae=17) then 4
 else if ¬ Jj p then 2
 else if 64<p.body.length then 5
 else if Wj p then 1
 else 0
def Xl (ae aE dst n:Int):List UInt8:=if ae=1 then [] else be aE 4++be dst 4++be ae 2++be n 2
def mA (ae aN id n:Int):List UInt8:=[69,0]++be (20+n) 2++be id 2++[0,0]++be aN 1++be ae 1
def mB (aE dst:Int):List UInt8:=be aE 4++be dst 4
def Wd (ae aE dst aN id n:Int):List UInt8:=mA ae aN id n++be (Yh (mA ae aN id n++[0,0]++mB aE dst)) 2++mB aE dst
def Wb (p:Pk):List UInt8 :=
 if p.ae=1 then be p.flags 1++[0]
 else if p.ae=17 then be p.aj 2++be p.av 2++be (8+p.body.length) 2
 else be p.aj 2++be p.av 2++be p.seq 4++be p.bB 4++[80]++be p.flags 1++be p.win 2
def Wg (p:Pk):List UInt8 :=
 if p.ae=1 then be (p.aj+p.av) 2++be p.seq 2++p.body
 else if p.ae=17 then p.body
 else [0,0]++p.body
def Xm (p:Pk):Nat:=(Wb p).length+2+(Wg p).length
def mC (p:Pk):Nat :=
 if p.ae=17/\Yh (Xl p.ae p.aE p.dst (Xm p)++Wb p++[0,0]++Wg p)=0 then 65535
 else Yh (Xl p.ae p.aE p.dst (Xm p)++Wb p++[0,0]++Wg p)
def XX (p:Pk):List UInt8:=Wb p++be (mC p) 2++Wg p
def Zs (p:Pk):List UInt8:=Wd p.ae p.aE p.dst p.aN p.id (Xm p)++XX p
def b1 (l:List UInt8)(k:Nat):Int:=((l.getD k 0).toNat:Int)
def w2 (l:List UInt8)(k:Nat):Int:=iO ((l.drop k).take 2)
def w4 (l:List UInt8)(k:Nat):Int:=iO ((l.drop k).take 4)
def kT (f:List UInt8):Pk:=⟨b1 f 9,w4 f 12,0,w4 f 16,0,b1 f 8,w2 f 4,0,0,0,0,[]⟩
def aB (f:List UInt8):Pk :=
 let s:=f.drop 20
 if b1 f 9=1 then { kT f with flags:=b1 s 0,seq:=w2 s 6,aj:=if b1 s 0=8 then w2 s 4 else 0,av:=if b1 s 0=8 then 0 else w2 s 4,body:=s.drop 8 }
 else if b1 f 9=17 then { kT f with aj:=w2 s 0,av:=w2 s 2,body:=s.drop 8 }
 else { kT f with aj:=w2 s 0,av:=w2 s 2,seq:=w4 s 4,bB:=w4 s 8,win:=w2 s 14,flags:=b1 s 13,body:=s.drop 20 }
def cD (f:List UInt8):Int :=
 let s:=f.drop 20
 if f.length<20\/b1 f 0≠69\/w2 f 2≠f.length then 1
 else if dD (f.take 20)≠65535 then 3
 else if b1 f 1≠0\/w2 f 6≠0 then 4
 else if b1 f 8=0 then 12
 else if ¬ (b1 f 9=1\/b1 f 9=6\/b1 f 9=17) then 4
 else if s.length<(if b1 f 9=6 then 20 else 8) then 1
 else if dD (Xl (b1 f 9) (w4 f 12) (w4 f 16) s.length++s)≠65535\/(b1 f 9=17/\w2 s 6=0) then 3
 else if b1 f 9=1/\((b1 s 0≠8/\b1 s 0≠0)\/b1 s 1≠0) then 4
 else if b1 f 9=17/\w2 s 4≠s.length then 1
 else if b1 f 9=6/\(b1 s 12≠80\/63<b1 s 13\/w2 s 18≠0) then 4
 else Zh (aB f)
def pn (f:List UInt8):AV:=if cD f=0 then .aR [.agg (aB f).enc,.int .i64 0] else .aR [.agg cX.enc,.int .i64 (cD f)]
def qk (l:List UInt8)(k:Nat)(n:Int):List UInt8:=(l.set k (Qx n 1)).set (k+1) (Qx n 0)
def Qs (c m n:Int):Int:=65535-qL (qL (65535-c%65536) (65535-m%65536)) n
def ql (l:List UInt8)(ck:Nat)(m n:Int):List UInt8:=qk l ck (Qs (w2 l ck) m n)
def jQ (l:List UInt8)(k ck:Nat)(n:Int):List UInt8:=qk (ql l ck (w2 l k) n) k n
variable {f:List UInt8}{e:Int}{ws:List Int}{a:Nat}(gl:Nat->AV)(h0 h1 h2 h3 h4 h5 h6 h7 h8 h9 s0 s1 s2 s3 aN:Int)(p:Pk)(addr port v:Int)(l:List UInt8)(n:Int)(t:List UInt8)(k:Nat)
def We {p:Pk}(h:Zh p=0):(p.ae=1\/p.ae=6\/p.ae=17)/\Jj p/\p.body.length<=64/\¬ Wj p:=by
 unfold Zh at h;split at h
 ·cases h
 ·split at h
  ·cases h
  ·split at h
   ·cases h
   ·split at h
    ·cases h
    ·rename_i h1 h2 h3 h4;exact ⟨Decidable.not_not.1 h1,Decidable.not_not.1 h2,by omega,h4⟩
def JC {p:Pk}(h1:p.ae=1\/p.ae=6\/p.ae=17)(h2:Jj p)(h3:p.body.length<=64)(h4:¬ Wj p):Zh p=0:=by
 unfold Zh;rw[aa (fun h=>h h1),aa (fun h=>h h2),aa af,aa h4]
def OM (ae aN id n:Int):(mA ae aN id n).length=10:=by simp[mA,Qj]
def XY (aE dst:Int):(mB aE dst).length=8:=by simp[mB,Qj]
def Co (ae aE dst aN id n:Int):(Wd ae aE dst aN id n).length=20:=by simp[Wd,OM,XY,Qj]
def Wf (h:p.ae=1\/p.ae=6\/p.ae=17):Xm p=(if p.ae=6 then 20 else 8)+p.body.length:=by
 unfold Xm Wb Wg;rcases h with h|h|h<;>simp[h,Qj]<;>omega
def Yfu (h:cD f=0):dD (f.take 20)=65535/\dD (Xl (b1 f 9) (w4 f 12) (w4 f 16) (f.drop 20).length++f.drop 20)=65535:=by
 unfold cD at h;dsimp only at h;generalize (if b1 f 9=6 then 20 else 8)=kk at h;split at h
 ·cases h
 split at h
 ·cases h
 split at h
 ·cases h
 split at h
 ·cases h
 split at h
 ·cases h
 split at h
 ·cases h
 split at h
 ·cases h
 rename_i h1 h2 h3 h4 h5 h6 h7;exact ⟨Decidable.not_not.1 h2,Decidable.not_not.1 fun hh=>h7 (Or.inl hh)⟩
def ON (f:List UInt8):List UInt8:=[3,13]++be (Yh ([3,13]++[0,0]++([0,0,0,0]++f.take 28))) 2++([0,0,0,0]++f.take 28)
def xn (f:List UInt8)(aE id:Int):List UInt8:=Wd 1 167772414 aE 64 id 36++ON f
def fr:List Int->List UInt8->List UInt8
 | [],t=>t
 | w::ws,t=>Qx w 1::Qx w 0::fr ws t
def XZ:iO [Qx v 1,Qx v 0]=v%65536:=by
 have e1:(Qx v 1).toNat=((v/256)%256).toNat:=by
  rw[Br _ _ af];simp only[UInt8.toNat_ofNat',Nat.reducePow,Int.pow_one];omega
 have e0:(Qx v 0).toNat=(v%256).toNat:=by
  rw[Br _ _ af];simp only[UInt8.toNat_ofNat',Nat.reducePow,Int.pow_zero,Int.ediv_one];omega
 rw[uH _ aw];simp only[oQ];omega
def JD (t:List UInt8):∀ (ws:List Int) (k:Nat),k<ws.length->w2 (fr ws t) (2*k)=ws.getD k 0%65536
 | [],_,h=>by simp at h
 | w::ws,0,_=>XZ w
 | w::ws,k+1,h=>by
  have e:w2 (fr (w::ws) t) (2*(k+1))=w2 (fr ws t) (2*k):=rfl;rw[e,JD t ws k (by simpa using h)];simp
def JE (t:List UInt8)(n:Int):∀ (ws:List Int) (k:Nat),k<ws.length->qk (fr ws t) (2*k) n=fr (ws.set k n) t
 | [],_,h=>by simp at h
 | w::ws,0,_=>rfl
 | w::ws,k+1,h=>by
  have:=JE t n ws k (by simpa using h);have e:qk (fr (w::ws) t) (2*(k+1)) n=Qx w 1::Qx w 0::qk (fr ws t) (2*k) n:=rfl;rw[e,this];rfl
def Xo7 (c m n:Int):Qs (c%65536) m n=Qs c m n:=by
 unfold Qs;rw[Int.emod_emod_of_dvd _ (Int.dvd_refl _)]
def Xrd (c m n:Int):Qs c (m%65536) n=Qs c m n:=by
 unfold Qs;rw[Int.emod_emod_of_dvd _ (Int.dvd_refl _)]
def X0 (ws:List Int)(t:List UInt8)(k:Nat)(m n:Int)(h:k<ws.length):ql (fr ws t) (2*k) m n=fr (ws.set k (Qs (ws.getD k 0) m n)) t:=by
 unfold ql;rw[JD t ws k h,Xo7,JE _ _ _ _ h]
def Yaw (ws:List Int)(t:List UInt8)(k c:Nat)(n:Int)(hk:k<ws.length)(hc:c<ws.length):jQ (fr ws t) (2*k) (2*c) n=fr ((ws.set c (Qs (ws.getD c 0) (ws.getD k 0) n)).set k n) t:=by
 unfold jQ;rw[JD t ws k hk,X0 _ _ _ _ _ hc,Xrd,JE _ _ _ _ (by simpa using hk)]
def X4 (t:List UInt8):∀ (ws:List Int) (k:Nat),k<=ws.length->(fr ws t).drop (2*k)=fr (ws.drop k) t
 | _,0,_=>rfl
 | [],k+1,h=>by simp at h
 | w::ws,k+1,h=>by
  have:=X4 t ws k (by simpa using h);show (fr ws t).drop (2*k)=_;rw[this];rfl
def Qv:List Int->Int
 | []=>0
 | w::ws=>w%65536+Qv ws
def JF:∀ ws,0<=Qv ws
 | []=>Int.le_refl _
 | w::ws=>by have:=JF ws;simp only[Qv];omega
def xo (t:List UInt8):∀ ws:List Int,(Yd (fr ws t):Int)=Qv ws+Yd t
 | []=>by simp[fr,Qv]
 | w::ws=>by
  have ih:=xo t ws;have hw:=XZ w;rw[uH _ aw]at hw;simp only[oQ]at hw;simp only[fr,Yd,Qv];omega
def cK (T:Int):Int:=65535-(Kl T.toNat:Nat)
def tW (T:Int):0<=cK T/\cK T<=65535:=by
 unfold cK;have:=Bq T.toNat;omega
def tX (T:Int)(h:0<T):cK T<=65534/\(cK T+T)%65535=0:=by
 unfold cK Kl;rw[aa af];omega
theorem JG:cK 0=65535:=rfl
def ET (c m n:Int):0<=Qs c m n/\Qs c m n<=65535:=by
 unfold Qs;have:=TD (qL (65535-c%65536) (65535-m%65536)) n;omega
def EU (c m n:Int)(hc:0<=c/\c<=65535)(hm:0<=m/\m<=65535)(hn:0<=n/\n<=65535):Qs c m n=cK (131070-c-m+n):=by
 unfold Qs cK qL;have h1:(((65535-c%65536)%65536).toNat+((65535-m%65536)%65536).toNat)=(131070-c-m).toNat:=by omega
 have h2:((Kl (131070-c-m).toNat:Nat):Int)%65536=(Kl (131070-c-m).toNat:Nat):=by
  have:=Bq (131070-c-m).toNat;omega
 have h3:(n%65536).toNat=n.toNat:=by omega
 rw[h1,h2,h3,Int.toNat_natCast,Mk,<- Int.toNat_add af af]
def JH (S T:Int)(hS:0<S)(hT:0<T)(h:(S-T)%65535=0):cK S=cK T:=by
 have:=tX S hS;have:=tX T hT;have:=tW S;have:=tW T;omega
def OO (T m n:Int)(h0:0<T)(hm:0<=m/\m<=65535)(hn:0<=n/\n<=65535)(hp:0<T-m+n):Qs (cK T) m n=cK (T-m+n):=by
 have h1:=tX T h0;have h2:=tW T;rw[EU _ _ _ h2 hm hn];exact JH _ _ af hp af
def mD (c T:Int):Prop:=0<=c/\c<=65535/\(c+T)%65535=0
def zR (c T m n:Int)(h:mD c T)(hm:0<=m/\m<=65535)(hn:0<=n/\n<=65535):mD (Qs c m n) (T-m+n):=by
 obtain ⟨h1,h2,h3⟩:=h;have hb:=ET c m n;refine ⟨hb.1,hb.2,?_⟩;rw[EU _ _ _ ⟨h1,h2⟩ hm hn];by_cases h0:131070-c-m+n=0
 ·rw[h0,JG];omega
 ·have:=tX (131070-c-m+n) af;omega
def Cp (ae:Int):Nat:=if ae=1 then 22 else if ae=17 then 26 else 36
def tl (b:List UInt8)(ae:Int)(m n:Int):List UInt8:=if ae=1 then b else ql b (Cp ae) m n
def Ub (f:List UInt8)(ae aN:Int)(at' wh:Nat)(addr port:Int):List UInt8 :=
 let b1:=tl (jQ f at' 10 (addr/65536)) ae (w2 f at') (addr/65536)
 let b2:=tl (jQ b1 (at'+2) 10 (addr%65536)) ae (w2 b1 (at'+2)) (addr%65536)
 let b3:=jQ b2 8 10 ((aN-1)*256+ae)
 let b4:=jQ b3 wh (Cp ae) port
 if (w2 b4 (Cp ae)=0)/\(ae=17\/dD (b4.drop 20)=0) then qk b4 (Cp ae) 65535 else b4
def vt (side:Int):Nat:=if side=0 then 12 else 16
def vu (ae side:Int):Nat:=if ae=1 then 24 else if side=0 then 20 else 22
def tY (p:Pk)(side addr port:Int):Pk:=if side=0 then { p with aN:=p.aN-1,aE:=addr,aj:=port } else { p with aN:=p.aN-1,dst:=addr,av:=port }
def Ky (p:Pk)(side addr port:Int):Int :=
 if side<0\/side>1\/¬ (0<=addr/\addr<=4294967295)\/¬ (0<=port/\port<=65535) then 2
 else if p.aN=1 then 12
 else if p.ae=1/\¬ (side=0 ↔ p.flags=8) then 4
 else 0
def gY (p:Pk)(n c:Int):List Int:=[17664,20+n,p.id,0,p.aN*256+p.ae,c,p.aE/65536,p.aE%65536,p.dst/65536,p.dst%65536]
def jz (p:Pk)(c:Int):List Int :=
 if p.ae=1 then [p.flags*256,c,p.aj+p.av,p.seq]
 else if p.ae=17 then [p.aj,p.av,8+p.body.length,c]
 else [p.aj,p.av,p.seq/65536,p.seq%65536,p.bB/65536,p.bB%65536,80*256+p.flags,p.win,c,0]
theorem nt:be v 2++t=fr [v] t:=rfl
def Cq (v w:Int)(k j:Nat)(hk:k<=8)(hj:j<=8)(h:v/256 ^ k%256=w/256 ^ j%256):Qx v k=Qx w j:=by
 rw[Br _ _ hk,Br _ _ hj,h]
def Cr:be v 4++t=fr [v/65536,v%65536] t:=by
 show Qx v 3::Qx v 2::Qx v 1::Qx v 0::t=Qx (v/65536) 1::Qx (v/65536) 0::Qx (v%65536) 1::Qx (v%65536) 0::t;rw[Cq v (v/65536) 3 1 af af af,Cq v (v/65536) 2 0 af af af,Cq v (v%65536) 1 1 af af af,Cq v (v%65536) 0 0 af af af]
def OP (v w:Int)(hw:0<=w/\w<256)(t:List UInt8):be v 1++(be w 1++t)=fr [v*256+w] t:=by
 show Qx v 0::Qx w 0::t=Qx (v*256+w) 1::Qx (v*256+w) 0::t;rw[Cq v (v*256+w) 0 1 af af af,Cq w (v*256+w) 0 0 af af af]
def zS (a b:List Int)(t:List UInt8):fr a (fr b t)=fr (a++b) t:=by
 induction a with
 | nil=>rfl
 | cons w a ih=>simp only[cons_append,fr,ih]
def X5 (n c:Int)(hp:0<=p.ae/\p.ae<256)(t:List UInt8):mA p.ae p.aN p.id n++be c 2++mB p.aE p.dst++t=fr (gY p n c) t:=by
 unfold mA mB;have e0:∀ t,[(69:UInt8),0]++t=fr [17664] t:=fun t=>by
  show (69:UInt8)::0::t=Qx 17664 1::Qx 17664 0::t;rw[show Qx 17664 1=69 by decide,show Qx 17664 0=0 by decide]
 have e1:∀ t,[(0:UInt8),0]++t=fr [0] t:=fun t=>by
  show (0:UInt8)::0::t=Qx 0 1::Qx 0 0::t;rw[show Qx 0 1=0 by decide,show Qx 0 0=0 by decide]
 simp only[append_assoc];rw[Cr p.dst,Cr p.aE,nt c,OP _ _ hp,e1,nt p.id,nt (20+n),e0];simp only[zS];rfl
def X6 (hp:p.ae=1\/p.ae=6\/p.ae=17)(hf:0<=p.flags/\p.flags<256)(c:Int):Wb p++be c 2++Wg p=fr (jz p c) p.body:=by
 unfold Wb Wg jz;rcases hp with h|h|h
 ·simp only[h,if_true];have e:∀ t,be p.flags 1++([0]++t)=fr [p.flags*256] t:=fun t=>by
   have:=OP p.flags 0 af t;rw[Int.add_zero]at this;rw[<- this];rfl
  simp only[append_assoc];rw[nt p.seq,nt (p.aj+p.av),nt c,e];simp only[zS];rfl
 ·have h1:¬ p.ae=1:=by omega
  have h2:¬ p.ae=17:=by omega
  simp only[h1,h2,if_false];have e:∀ t,[80]++(be p.flags 1++t)=fr [80*256+p.flags] t:=fun t=>by
   rw[<- OP 80 p.flags hf t];rfl
  have e1:∀ t,[(0:UInt8),0]++t=fr [0] t:=fun t=>by
   show (0:UInt8)::0::t=Qx 0 1::Qx 0 0::t;rw[show Qx 0 1=0 by decide,show Qx 0 0=0 by decide]
  simp only[append_assoc];rw[e1,nt c,nt p.win,e,Cr p.bB,Cr p.seq,nt p.av,nt p.aj];simp only[zS];rfl
 ·have h1:¬ (17:Int)=1:=by omega
  simp only[h1,h,if_false,if_true];simp only[append_assoc];rw[nt c,nt (8+(p.body.length:Int)),nt p.av,nt p.aj];simp only[zS];rfl
def Yf2 {t:List UInt8}   (h:a%2=0/\a/2<ws.length):w2 (fr ws t) a=ws.getD (a/2) 0%65536:=by
 have:=JD t ws _ h.2
 rwa [show 2*(a/2)=a by omega]at this
def Xz8 {t:List UInt8}   {n:Int}(h:a%2=0/\a/2<ws.length):qk (fr ws t) a n=fr (ws.set (a/2) n) t:=by
 have:=JE t n ws _ h.2
 rwa [show 2*(a/2)=a by omega]at this
def Xyp {t:List UInt8}   {m n:Int}(h:a%2=0/\a/2<ws.length):ql (fr ws t) a m n=fr (ws.set (a/2) (Qs (ws.getD (a/2) 0) m n)) t:=by
 have:=X0 ws t _ m n h.2
 rwa [show 2*(a/2)=a by omega]at this
def Xz9 {t:List UInt8}  {a b:Nat}{n:Int}(h:a%2=0/\a/2<ws.length)(h2:b%2=0/\b/2<ws.length):jQ (fr ws t) a b n=fr ((ws.set (b/2) (Qs (ws.getD (b/2) 0) (ws.getD (a/2) 0) n)).set (a/2) n) t:=by
 have:=Yaw ws t _ _ n h.2 h2.2
 rwa [show 2*(a/2)=a by omega,show 2*(b/2)=b by omega]at this
def Xvs {t:List UInt8}   (h:a%2=0/\a/2<=ws.length):(fr ws t).drop a=fr (ws.drop (a/2)) t:=by
 have:=X4 t ws _ h.2
 rwa [show 2*(a/2)=a by omega]at this
structure OQ (p:Prop):Prop where
 o:p
def Cs {p q:Prop}(k:q)(h:OQ q->p:=by intro h;(try unfold Ub);(try unfold tl Cp);simp only[Yf2,Xz8,Xyp,Xz9,Xvs,reduceCtorEq,Int.reduceEq,if_true,if_false,↓reduceIte,false_or,true_or,and_true,true_and,and_self,Nat.reduceAdd,Nat.reduceDiv,Nat.reduceMod,Nat.reduceLT,Nat.reduceLeDiff,List.set_cons_succ,List.set_cons_zero,List.getD_cons_succ,List.getD_cons_zero,List.length_cons,List.length_nil,List.length_set,List.drop_succ_cons,drop_zero];exact h.o):p:=h ⟨k⟩
def OR:Ub (fr [h0,h1,h2,h3,h4,h5,h6,h7,h8,h9,s0,s1,s2,s3] t) 1 aN 12 24 addr port=fr [h0,h1,h2,h3,((aN-1)*256+1),(Qs (Qs (Qs h5 h6 (addr/65536)) h7 (addr%65536)) h4 ((aN-1)*256+1)),(addr/65536),(addr%65536),h8,h9,s0,(if (Qs s1 s2 port)%65536=0/\dD (fr [s0,(Qs s1 s2 port),port,s3] t)=0 then 65535 else (Qs s1 s2 port)),port,s3] t:=by
 refine Cs ?_;split<;>rfl
def OS:Ub (fr [h0,h1,h2,h3,h4,h5,h6,h7,h8,h9,s0,s1,s2,s3] t) 1 aN 16 24 addr port=fr [h0,h1,h2,h3,((aN-1)*256+1),(Qs (Qs (Qs h5 h8 (addr/65536)) h9 (addr%65536)) h4 ((aN-1)*256+1)),h6,h7,(addr/65536),(addr%65536),s0,(if (Qs s1 s2 port)%65536=0/\dD (fr [s0,(Qs s1 s2 port),port,s3] t)=0 then 65535 else (Qs s1 s2 port)),port,s3] t:=by
 refine Cs ?_;split<;>rfl
def OT:Ub (fr [h0,h1,h2,h3,h4,h5,h6,h7,h8,h9,s0,s1,s2,s3] t) 17 aN 12 20 addr port=fr [h0,h1,h2,h3,((aN-1)*256+17),(Qs (Qs (Qs h5 h6 (addr/65536)) h7 (addr%65536)) h4 ((aN-1)*256+17)),(addr/65536),(addr%65536),h8,h9,port,s1,s2,(if (Qs (Qs (Qs s3 (h6%65536) (addr/65536)) (h7%65536) (addr%65536)) s0 port)%65536=0 then 65535 else (Qs (Qs (Qs s3 (h6%65536) (addr/65536)) (h7%65536) (addr%65536)) s0 port))] t:=by
 refine Cs ?_;split<;>rfl
def OU:Ub (fr [h0,h1,h2,h3,h4,h5,h6,h7,h8,h9,s0,s1,s2,s3] t) 17 aN 16 22 addr port=fr [h0,h1,h2,h3,((aN-1)*256+17),(Qs (Qs (Qs h5 h8 (addr/65536)) h9 (addr%65536)) h4 ((aN-1)*256+17)),h6,h7,(addr/65536),(addr%65536),s0,port,s2,(if (Qs (Qs (Qs s3 (h8%65536) (addr/65536)) (h9%65536) (addr%65536)) s1 port)%65536=0 then 65535 else (Qs (Qs (Qs s3 (h8%65536) (addr/65536)) (h9%65536) (addr%65536)) s1 port))] t:=by
 refine Cs ?_;split<;>rfl
def OV (h0 h1 h2 h3 h4 h5 h6 h7 h8 h9 s0 s1 s2 s3 s4 s5 s6 s7 s8 s9 aN addr port:Int)(t:List UInt8):Ub (fr [h0,h1,h2,h3,h4,h5,h6,h7,h8,h9,s0,s1,s2,s3,s4,s5,s6,s7,s8,s9] t) 6 aN 12 20 addr port=fr [h0,h1,h2,h3,((aN-1)*256+6),(Qs (Qs (Qs h5 h6 (addr/65536)) h7 (addr%65536)) h4 ((aN-1)*256+6)),(addr/65536),(addr%65536),h8,h9,port,s1,s2,s3,s4,s5,s6,s7,(if (Qs (Qs (Qs s8 (h6%65536) (addr/65536)) (h7%65536) (addr%65536)) s0 port)%65536=0/\dD (fr [port,s1,s2,s3,s4,s5,s6,s7,(Qs (Qs (Qs s8 (h6%65536) (addr/65536)) (h7%65536) (addr%65536)) s0 port),s9] t)=0 then 65535 else (Qs (Qs (Qs s8 (h6%65536) (addr/65536)) (h7%65536) (addr%65536)) s0 port)),s9] t:=by
 refine Cs ?_;split<;>rfl
def OX (h0 h1 h2 h3 h4 h5 h6 h7 h8 h9 s0 s1 s2 s3 s4 s5 s6 s7 s8 s9 aN addr port:Int)(t:List UInt8):Ub (fr [h0,h1,h2,h3,h4,h5,h6,h7,h8,h9,s0,s1,s2,s3,s4,s5,s6,s7,s8,s9] t) 6 aN 16 22 addr port=fr [h0,h1,h2,h3,((aN-1)*256+6),(Qs (Qs (Qs h5 h8 (addr/65536)) h9 (addr%65536)) h4 ((aN-1)*256+6)),h6,h7,(addr/65536),(addr%65536),s0,port,s2,s3,s4,s5,s6,s7,(if (Qs (Qs (Qs s8 (h8%65536) (addr/65536)) (h9%65536) (addr%65536)) s1 port)%65536=0/\dD (fr [s0,port,s2,s3,s4,s5,s6,s7,(Qs (Qs (Qs s8 (h8%65536) (addr/65536)) (h9%65536) (addr%65536)) s1 port),s9] t)=0 then 65535 else (Qs (Qs (Qs s8 (h8%65536) (addr/65536)) (h9%65536) (addr%65536)) s1 port)),s9] t:=by
 refine Cs ?_;split<;>rfl
def EV:be 0 2=[0,0]:=by decide
def X7 (T:Int)(h:(Yd l:Int)=T):(Yh l:Int)=cK T:=by
 subst h;have:=Ds l;unfold Yh cK dD at *
 rw[Int.toNat_natCast];omega
def Yd4 (hp:0<=p.ae/\p.ae<256)(t:List UInt8):Wd p.ae p.aE p.dst p.aN p.id n++t=fr (gY p n (cK (Qv (gY p n 0)))) t:=by
 unfold Wd;rw[X7 _ (Qv (gY p n 0)),X5 p n _ hp];have:=X5 p n 0 hp [];rw[EV,append_nil]at this;rw[this,xo];simp[Yd]
def sr (p:Pk)(n:Int):List Int:=if p.ae=1 then [] else [p.aE/65536,p.aE%65536,p.dst/65536,p.dst%65536,p.ae,n]
def X8:Xl p.ae p.aE p.dst n++t=fr (sr p n) t:=by
 unfold Xl sr;split
 ·rfl
 ·simp only[append_assoc];rw[nt n,nt p.ae,Cr p.dst,Cr p.aE];simp only[zS];rfl
def kc (p:Pk):Int:=Qv (sr p (Xm p))+Qv (jz p 0)+Yd p.body
def qm (hp:p.ae=1\/p.ae=6\/p.ae=17)(hf:0<=p.flags/\p.flags<256):(mC p:Int)=if p.ae=17/\cK (kc p)=0 then 65535 else cK (kc p):=by
 have e:(Yh (Xl p.ae p.aE p.dst (Xm p)++Wb p++[0,0]++Wg p):Int)=cK (kc p):=by
  apply X7;have h:=X6 p hp hf 0;rw[EV]at h;rw[append_assoc,append_assoc,<- append_assoc (Wb p),h,X8,xo,Int.add_comm,xo];unfold kc;omega
 unfold mC;by_cases h:p.ae=17/\cK (kc p)=0
 ·rw[am ⟨h.1,by omega⟩,am h];rfl
 ·rw[aa (fun hh=>h ⟨hh.1,by omega⟩),aa h,e]
def Wy (hp:p.ae=1\/p.ae=6\/p.ae=17)(hf:0<=p.flags/\p.flags<256):Zs p=fr (gY p (Xm p) (cK (Qv (gY p (Xm p) 0)))++jz p (mC p)) p.body:=by
 unfold Zs XX;rw[X6 p hp hf,Yd4 p _ af,zS]
def JI (T m1 n1 m2 n2 m3 n3:Int)(lG:0<=m1/\m1<=65535)(mE:0<=n1/\n1<=65535)(lH:0<=m2/\m2<=65535)(kU:0<=n2/\n2<=65535)(zU:0<=m3/\m3<=65535)(ss:0<=n3/\n3<=65535)(h:0<T-m1-m2-m3) :
  Qs (Qs (Qs (cK T) m1 n1) m2 n2) m3 n3=cK (T-m1+n1-m2+n2-m3+n3):=by
 rw[OO T m1 n1 af lG mE af,OO _ m2 n2 af lH kU af,OO _ m3 n3 af zU ss af]
def X9 (c T m1 n1 m2 n2 m3 n3:Int)(hc:mD c T)(lG:0<=m1/\m1<=65535)(mE:0<=n1/\n1<=65535)(lH:0<=m2/\m2<=65535)(kU:0<=n2/\n2<=65535)(zU:0<=m3/\m3<=65535)(ss:0<=n3/\n3<=65535) :
  mD (Qs (Qs (Qs c m1 n1) m2 n2) m3 n3) (T-m1+n1-m2+n2-m3+n3) :=
 zR _ _ _ _ (zR _ _ _ _ (zR _ _ _ _ hc lG mE) lH kU) zU ss
def Ct {S T:Int}(h:S=T):cK S=cK T:=by rw[h]
def JJ (ws:List Int)(t:List UInt8):dD (fr ws t)=0 ↔ Qv ws+Yd t=0:=by
 have:=xo t ws;unfold dD Kl;split<;>omega
def YA (T m n r:Int)(hm:0<=m/\m<=65535)(hn:0<=n/\n<=65535)(hr:0<=r)(hT:T=m+r)(P:Prop)[Decidable P](hP:P ↔ Qs (cK T) m n+n+r=0):(if Qs (cK T) m n%65536=0/\P then 65535 else Qs (cK T) m n)=cK (n+r):=by
 have hb:=ET (cK T) m n;have hs:=tW T;have he:=EU (cK T) m n hs hm hn;by_cases h0:n+r=0
 ·have OY:n=0:=by omega
  have hr0:r=0:=by omega
  rw[h0,JG];have e:Qs (cK T) m n=0:=by
   rw[he];by_cases OZ:T=0
   ·have EW:m=0:=by omega
    have h9:(131070:Int)-cK T-m+n=65535:=by rw[OZ,JG];omega
    rw[h9];decide
   ·have h1:=tX T af;have h2:=tX (131070-cK T-m+n) af;have h3:=tW (131070-cK T-m+n);omega
  rw[am ⟨by rw[e];rfl,hP.2 (by rw[e];omega)⟩]
 ·rw[aa (fun hh=>by have:=hP.1 hh.2;omega),he];by_cases OZ:T=0
  ·have EW:m=0:=by omega
   have hr0:r=0:=by omega
   have h9:cK T=65535:=by rw[OZ,JG]
   exact JH _ _ af af af
  ·have h1:=tX T af;exact JH _ _ af af af
def Xbt (h:Zh p=0)(side addr port:Int)(ht:Ky p side addr port=0):Zh (tY p side addr port)=0:=by
 obtain ⟨hp,hr,hl,hf⟩:=We h;unfold Ky at ht;split at ht
 ·cases ht
 split at ht
 ·cases ht
 split at ht
 ·cases ht
 rename_i t1 t2 t3;obtain ⟨r1,r2,r3,r4,r5,r6,r7,r8,r9,iz⟩:=hr;rcases p with ⟨ae,aE,aj,dst,av,aN,id,flags,seq,bB,win,body⟩
 dsimp only at *
 unfold Wj at hf;dsimp only at hf;have ha:0<=addr/\addr<=4294967295:=by omega
 have hq:0<=port/\port<=65535:=by omega
 unfold tY;split
 ·refine JC hp ⟨ha,r2,r3,r4,hq,r6,r7,r8,⟨?_,?_⟩,iz⟩ hl ?_
  ·dsimp only;omega
  ·dsimp only;omega
  ·unfold Wj;dsimp only;omega
 ·refine JC hp ⟨r1,ha,r3,r4,r5,hq,r7,r8,⟨?_,?_⟩,iz⟩ hl ?_
  ·dsimp only;omega
  ·dsimp only;omega
  ·unfold Wj;dsimp only;omega
def O0 (n id aN pr f1 f2 d1 d2 a1 a2:Int)(h1:0<=n/\n<=200)(h2:0<=id/\id<=65535)(h3:2<=aN/\aN<=255)(h4:0<=pr/\pr<=255)(h5:0<=f1/\f1<=65535)(h6:0<=f2/\f2<=65535)(h7:0<=d1/\d1<=65535)(h8:0<=d2/\d2<=65535)(h9:0<=a1/\a1<=65535)(fI:0<=a2/\a2<=65535) :
  Qs (Qs (Qs (cK (Qv [17664,20+n,id,0,aN*256+pr,0,f1,f2,d1,d2])) f1 a1) f2 a2) (aN*256+pr) ((aN-1)*256+pr)=cK (Qv [17664,20+n,id,0,(aN-1)*256+pr,0,a1,a2,d1,d2]):=by
 rw[JI _ _ _ _ _ _ _ h5 h9 h6 fI af af (by simp only[Qv];omega)];apply Ct;simp only[Qv];omega
def O1 (n id aN pr f1 f2 d1 d2 a1 a2:Int)(h1:0<=n/\n<=200)(h2:0<=id/\id<=65535)(h3:2<=aN/\aN<=255)(h4:0<=pr/\pr<=255)(h5:0<=f1/\f1<=65535)(h6:0<=f2/\f2<=65535)(h7:0<=d1/\d1<=65535)(h8:0<=d2/\d2<=65535)(h9:0<=a1/\a1<=65535)(fI:0<=a2/\a2<=65535) :
  Qs (Qs (Qs (cK (Qv [17664,20+n,id,0,aN*256+pr,0,f1,f2,d1,d2])) d1 a1) d2 a2) (aN*256+pr) ((aN-1)*256+pr)=cK (Qv [17664,20+n,id,0,(aN-1)*256+pr,0,f1,f2,a1,a2]):=by
 rw[JI _ _ _ _ _ _ _ h7 h9 h8 fI af af (by simp only[Qv];omega)];apply Ct;simp only[Qv];omega
def YB {k:Int}{P:Prop}[Decidable P](h:¬ P):(if P then 65535 else k)=k:=aa h
def YC (k T:Int)(h:mD k T)(hT:0<T):(if k%65536=0 then 65535 else k)=if cK T=0 then 65535 else cK T:=by
 obtain ⟨h1,h2,h3⟩:=h;have h4:=tX T hT;have h5:=tW T;split
 ·rename_i hh;split
  ·rfl
  ·omega
 ·rename_i hh;have:k≠0:=fun e=>hh af;split<;>omega
def YD (T:Int)(h:0<T):mD (if cK T=0 then 65535 else cK T) T:=by
 have h4:=tX T h;have h5:=tW T;unfold mD;split<;>omega
def Xjw (aE aj dst av aN id flags seq bB win addr port:Int)(body:List UInt8)(r1:0<=aE/\aE<=4294967295)(r2:0<=dst/\dst<=4294967295)(r3:0<=seq/\seq<=4294967295)(r4:0<=bB/\bB<=4294967295)(r5:0<=aj/\aj<=65535)(r6:0<=av/\av<=65535)(r7:0<=id/\id<=65535)(r8:0<=win/\win<=65535)(r9:2<=aN/\aN<=255)(iz:0<=flags/\flags<=63)(hl:body.length<=64)(ha:0<=addr/\addr<=4294967295)(hq:0<=port/\port<=65535)(r11:seq<=65535):Ub (Zs (⟨1,aE,aj,dst,0,aN,id,flags,seq,bB,win,body⟩:Pk)) 1 aN 12 24 addr port=Zs (⟨1,addr,port,dst,0,aN-1,id,flags,seq,bB,win,body⟩:Pk):=by
 generalize hP:(⟨1,aE,aj,dst,0,aN,id,flags,seq,bB,win,body⟩:Pk)=P;generalize hQ:(⟨1,addr,port,dst,0,aN-1,id,flags,seq,bB,win,body⟩:Pk)=Q;have hN:=Wf P (by subst hP hQ;simp);have hM:=Wf Q (by subst hP hQ;simp);have jA:Xm Q=Xm P:=by rw[hM,hN];subst hP hQ;rfl
 have dM:Xm P<=84:=by rw[hN];subst hP;simp;omega
 have jB:=qm P (by subst hP hQ;simp) (by subst hP hQ;dsimp only;omega);have mF:=qm Q (by subst hP hQ;simp) (by subst hP hQ;dsimp only;omega);rw[Wy P (by subst hP hQ;simp) (by subst hP hQ;dsimp only;omega),Wy Q (by subst hP hQ;simp) (by subst hP hQ;dsimp only;omega),jB,mF,jA];unfold kc sr;rw[jA];clear jB mF hM hN jA;generalize Xm P=n at *
 subst hP hQ;unfold gY jz;dsimp only;simp only[reduceCtorEq,Int.reduceEq,if_true,if_false,↓reduceIte,false_and,true_and,cons_append,nil_append];rw[OR];refine congrArg (fun l=>fr l body) ?_;rw[O0 _ _ _ _ _ _ _ _ _ _ af af af af af af af af af af];have hS:=Int.natCast_nonneg (Yd body);have hck:=YA (Qv []+Qv [flags*256,0,aj+0,seq]+Yd body) (aj+0) port (flags*256+seq+Yd body) af af af (by simp only[Qv];omega) (dD (fr [flags*256,Qs (cK (Qv []+Qv [flags*256,0,aj+0,seq]+Yd body)) (aj+0) port,port,seq] body)=0) (by
  have hb:=ET (cK (Qv []+Qv [flags*256,0,aj+0,seq]+Yd body)) (aj+0) port;rw[JJ];generalize Qs (cK (Qv []+Qv [flags*256,0,aj+0,seq]+Yd body)) (aj+0) port=u at *;simp only[Qv];omega)
 rw[hck];have e2:cK (port+(flags*256+seq+Yd body))=cK (Qv []+Qv [flags*256,0,port+0,seq]+Yd body):=by apply Ct;simp only[Qv];omega
 rw[e2];simp
def Xla (aE aj dst av aN id flags seq bB win addr port:Int)(body:List UInt8)(r1:0<=aE/\aE<=4294967295)(r2:0<=dst/\dst<=4294967295)(r3:0<=seq/\seq<=4294967295)(r4:0<=bB/\bB<=4294967295)(r5:0<=aj/\aj<=65535)(r6:0<=av/\av<=65535)(r7:0<=id/\id<=65535)(r8:0<=win/\win<=65535)(r9:2<=aN/\aN<=255)(iz:0<=flags/\flags<=63)(hl:body.length<=64)(ha:0<=addr/\addr<=4294967295)(hq:0<=port/\port<=65535)(r11:seq<=65535):Ub (Zs (⟨1,aE,0,dst,av,aN,id,flags,seq,bB,win,body⟩:Pk)) 1 aN 16 24 addr port=Zs (⟨1,aE,0,addr,port,aN-1,id,flags,seq,bB,win,body⟩:Pk):=by
 generalize hP:(⟨1,aE,0,dst,av,aN,id,flags,seq,bB,win,body⟩:Pk)=P;generalize hQ:(⟨1,aE,0,addr,port,aN-1,id,flags,seq,bB,win,body⟩:Pk)=Q;have hN:=Wf P (by subst hP hQ;simp);have hM:=Wf Q (by subst hP hQ;simp);have jA:Xm Q=Xm P:=by rw[hM,hN];subst hP hQ;rfl
 have dM:Xm P<=84:=by rw[hN];subst hP;simp;omega
 have jB:=qm P (by subst hP hQ;simp) (by subst hP hQ;dsimp only;omega);have mF:=qm Q (by subst hP hQ;simp) (by subst hP hQ;dsimp only;omega);rw[Wy P (by subst hP hQ;simp) (by subst hP hQ;dsimp only;omega),Wy Q (by subst hP hQ;simp) (by subst hP hQ;dsimp only;omega),jB,mF,jA];unfold kc sr;rw[jA];clear jB mF hM hN jA;generalize Xm P=n at *
 subst hP hQ;unfold gY jz;dsimp only;simp only[reduceCtorEq,Int.reduceEq,if_true,if_false,↓reduceIte,false_and,true_and,cons_append,nil_append];rw[OS];refine congrArg (fun l=>fr l body) ?_;rw[O1 _ _ _ _ _ _ _ _ _ _ af af af af af af af af af af];have hS:=Int.natCast_nonneg (Yd body);have hck:=YA (Qv []+Qv [flags*256,0,0+av,seq]+Yd body) (0+av) port (flags*256+seq+Yd body) af af af (by simp only[Qv];omega) (dD (fr [flags*256,Qs (cK (Qv []+Qv [flags*256,0,0+av,seq]+Yd body)) (0+av) port,port,seq] body)=0) (by
  have hb:=ET (cK (Qv []+Qv [flags*256,0,0+av,seq]+Yd body)) (0+av) port;rw[JJ];generalize Qs (cK (Qv []+Qv [flags*256,0,0+av,seq]+Yd body)) (0+av) port=u at *;simp only[Qv];omega)
 rw[hck];have e2:cK (port+(flags*256+seq+Yd body))=cK (Qv []+Qv [flags*256,0,0+port,seq]+Yd body):=by apply Ct;simp only[Qv];omega
 rw[e2];simp
def Xsl (aE aj dst av aN id flags seq bB win addr port:Int)(body:List UInt8)(r1:0<=aE/\aE<=4294967295)(r2:0<=dst/\dst<=4294967295)(r3:0<=seq/\seq<=4294967295)(r4:0<=bB/\bB<=4294967295)(r5:0<=aj/\aj<=65535)(r6:0<=av/\av<=65535)(r7:0<=id/\id<=65535)(r8:0<=win/\win<=65535)(r9:2<=aN/\aN<=255)(iz:0<=flags/\flags<=63)(hl:body.length<=64)(ha:0<=addr/\addr<=4294967295)(hq:0<=port/\port<=65535):Ub (Zs (⟨17,aE,aj,dst,av,aN,id,flags,seq,bB,win,body⟩:Pk)) 17 aN 12 20 addr port=Zs (⟨17,addr,port,dst,av,aN-1,id,flags,seq,bB,win,body⟩:Pk):=by
 generalize hP:(⟨17,aE,aj,dst,av,aN,id,flags,seq,bB,win,body⟩:Pk)=P;generalize hQ:(⟨17,addr,port,dst,av,aN-1,id,flags,seq,bB,win,body⟩:Pk)=Q;have hN:=Wf P (by subst hP hQ;simp);have hM:=Wf Q (by subst hP hQ;simp);have jA:Xm Q=Xm P:=by rw[hM,hN];subst hP hQ;rfl
 have dM:Xm P<=84:=by rw[hN];subst hP;simp;omega
 have jB:=qm P (by subst hP hQ;simp) (by subst hP hQ;dsimp only;omega);have mF:=qm Q (by subst hP hQ;simp) (by subst hP hQ;dsimp only;omega);rw[Wy P (by subst hP hQ;simp) (by subst hP hQ;dsimp only;omega),Wy Q (by subst hP hQ;simp) (by subst hP hQ;dsimp only;omega),jB,mF,jA];unfold kc sr;rw[jA];clear jB mF hM hN jA;generalize Xm P=n at *
 subst hP hQ;unfold gY jz;dsimp only;simp only[reduceCtorEq,Int.reduceEq,if_true,if_false,↓reduceIte,false_and,true_and,cons_append,nil_append];rw[OT];refine congrArg (fun l=>fr l body) ?_;rw[O0 _ _ _ _ _ _ _ _ _ _ af af af af af af af af af af];have e1:aE/65536%65536=aE/65536:=by omega
 have e2:aE%65536%65536=aE%65536:=by omega
 rw[e1,e2];have hS:=Int.natCast_nonneg (Yd body);have gH:=YD (Qv [aE/65536,aE%65536,dst/65536,dst%65536,17,↑n]+Qv [aj,av,8 + ↑body.length,0]+Yd body) (by simp only[Qv];omega);have hk:=X9 _ _ (aE/65536) (addr/65536) (aE%65536) (addr%65536) aj port gH af af af af af af;have hT:Qv [aE/65536,aE%65536,dst/65536,dst%65536,17,↑n]+Qv [aj,av,8 + ↑body.length,0]+Yd body-(aE/65536)+addr/65536-(aE%65536)+addr%65536-aj+port=Qv [addr/65536,addr%65536,dst/65536,dst%65536,17,↑n]+Qv [port,av,8 + ↑body.length,0]+Yd body:=by simp only[Qv];omega
 rw[hT]at hk;have hck:=YC _ _ hk (by simp only[Qv];omega);rw[hck]
def Xt6 (aE aj dst av aN id flags seq bB win addr port:Int)(body:List UInt8)(r1:0<=aE/\aE<=4294967295)(r2:0<=dst/\dst<=4294967295)(r3:0<=seq/\seq<=4294967295)(r4:0<=bB/\bB<=4294967295)(r5:0<=aj/\aj<=65535)(r6:0<=av/\av<=65535)(r7:0<=id/\id<=65535)(r8:0<=win/\win<=65535)(r9:2<=aN/\aN<=255)(iz:0<=flags/\flags<=63)(hl:body.length<=64)(ha:0<=addr/\addr<=4294967295)(hq:0<=port/\port<=65535):Ub (Zs (⟨17,aE,aj,dst,av,aN,id,flags,seq,bB,win,body⟩:Pk)) 17 aN 16 22 addr port=Zs (⟨17,aE,aj,addr,port,aN-1,id,flags,seq,bB,win,body⟩:Pk):=by
 generalize hP:(⟨17,aE,aj,dst,av,aN,id,flags,seq,bB,win,body⟩:Pk)=P;generalize hQ:(⟨17,aE,aj,addr,port,aN-1,id,flags,seq,bB,win,body⟩:Pk)=Q;have hN:=Wf P (by subst hP hQ;simp);have hM:=Wf Q (by subst hP hQ;simp);have jA:Xm Q=Xm P:=by rw[hM,hN];subst hP hQ;rfl
 have dM:Xm P<=84:=by rw[hN];subst hP;simp;omega
 have jB:=qm P (by subst hP hQ;simp) (by subst hP hQ;dsimp only;omega);have mF:=qm Q (by subst hP hQ;simp) (by subst hP hQ;dsimp only;omega);rw[Wy P (by subst hP hQ;simp) (by subst hP hQ;dsimp only;omega),Wy Q (by subst hP hQ;simp) (by subst hP hQ;dsimp only;omega),jB,mF,jA];unfold kc sr;rw[jA];clear jB mF hM hN jA;generalize Xm P=n at *
 subst hP hQ;unfold gY jz;dsimp only;simp only[reduceCtorEq,Int.reduceEq,if_true,if_false,↓reduceIte,false_and,true_and,cons_append,nil_append];rw[OU];refine congrArg (fun l=>fr l body) ?_;rw[O1 _ _ _ _ _ _ _ _ _ _ af af af af af af af af af af];have e1:dst/65536%65536=dst/65536:=by omega
 have e2:dst%65536%65536=dst%65536:=by omega
 rw[e1,e2];have hS:=Int.natCast_nonneg (Yd body);have gH:=YD (Qv [aE/65536,aE%65536,dst/65536,dst%65536,17,↑n]+Qv [aj,av,8 + ↑body.length,0]+Yd body) (by simp only[Qv];omega);have hk:=X9 _ _ (dst/65536) (addr/65536) (dst%65536) (addr%65536) av port gH af af af af af af;have hT:Qv [aE/65536,aE%65536,dst/65536,dst%65536,17,↑n]+Qv [aj,av,8 + ↑body.length,0]+Yd body-(dst/65536)+addr/65536-(dst%65536)+addr%65536-av+port=Qv [aE/65536,aE%65536,addr/65536,addr%65536,17,↑n]+Qv [aj,port,8 + ↑body.length,0]+Yd body:=by simp only[Qv];omega
 rw[hT]at hk;have hck:=YC _ _ hk (by simp only[Qv];omega);rw[hck]
def Xn8 (aE aj dst av aN id flags seq bB win addr port:Int)(body:List UInt8)(r1:0<=aE/\aE<=4294967295)(r2:0<=dst/\dst<=4294967295)(r3:0<=seq/\seq<=4294967295)(r4:0<=bB/\bB<=4294967295)(r5:0<=aj/\aj<=65535)(r6:0<=av/\av<=65535)(r7:0<=id/\id<=65535)(r8:0<=win/\win<=65535)(r9:2<=aN/\aN<=255)(iz:0<=flags/\flags<=63)(hl:body.length<=64)(ha:0<=addr/\addr<=4294967295)(hq:0<=port/\port<=65535):Ub (Zs (⟨6,aE,aj,dst,av,aN,id,flags,seq,bB,win,body⟩:Pk)) 6 aN 12 20 addr port=Zs (⟨6,addr,port,dst,av,aN-1,id,flags,seq,bB,win,body⟩:Pk):=by
 generalize hP:(⟨6,aE,aj,dst,av,aN,id,flags,seq,bB,win,body⟩:Pk)=P;generalize hQ:(⟨6,addr,port,dst,av,aN-1,id,flags,seq,bB,win,body⟩:Pk)=Q;have hN:=Wf P (by subst hP hQ;simp);have hM:=Wf Q (by subst hP hQ;simp);have jA:Xm Q=Xm P:=by rw[hM,hN];subst hP hQ;rfl
 have dM:Xm P<=84:=by rw[hN];subst hP;simp;omega
 have jB:=qm P (by subst hP hQ;simp) (by subst hP hQ;dsimp only;omega);have mF:=qm Q (by subst hP hQ;simp) (by subst hP hQ;dsimp only;omega);rw[Wy P (by subst hP hQ;simp) (by subst hP hQ;dsimp only;omega),Wy Q (by subst hP hQ;simp) (by subst hP hQ;dsimp only;omega),jB,mF,jA];unfold kc sr;rw[jA];clear jB mF hM hN jA;generalize Xm P=n at *
 subst hP hQ;unfold gY jz;dsimp only;simp only[reduceCtorEq,Int.reduceEq,if_true,if_false,↓reduceIte,false_and,true_and,cons_append,nil_append];rw[OV];refine congrArg (fun l=>fr l body) ?_;rw[O0 _ _ _ _ _ _ _ _ _ _ af af af af af af af af af af];have e1:aE/65536%65536=aE/65536:=by omega
 have e2:aE%65536%65536=aE%65536:=by omega
 rw[e1,e2];have hS:=Int.natCast_nonneg (Yd body);have hck:Qs (Qs (Qs (cK (Qv [aE/65536,aE%65536,dst/65536,dst%65536,6,↑n]+Qv [aj,av,seq/65536,seq%65536,bB/65536,bB%65536,80*256+flags,win,0,0]+Yd body)) (aE/65536) (addr/65536)) (aE%65536) (addr%65536)) aj port=cK (Qv [addr/65536,addr%65536,dst/65536,dst%65536,6,↑n]+Qv [port,av,seq/65536,seq%65536,bB/65536,bB%65536,80*256+flags,win,0,0]+Yd body):=by
  rw[JI _ _ _ _ _ _ _ af af af af af af (by simp only[Qv];omega)];apply Ct;simp only[Qv];omega
 rw[hck];rw[YB];rintro ⟨_,hh⟩;rw[JJ]at hh;have:=tW (Qv [addr/65536,addr%65536,dst/65536,dst%65536,6,↑n]+Qv [port,av,seq/65536,seq%65536,bB/65536,bB%65536,80*256+flags,win,0,0]+Yd body);generalize cK (Qv [addr/65536,addr%65536,dst/65536,dst%65536,6,↑n]+Qv [port,av,seq/65536,seq%65536,bB/65536,bB%65536,80*256+flags,win,0,0]+Yd body)=u at *;simp only[Qv]at hh;omega
def Xs1 (aE aj dst av aN id flags seq bB win addr port:Int)(body:List UInt8)(r1:0<=aE/\aE<=4294967295)(r2:0<=dst/\dst<=4294967295)(r3:0<=seq/\seq<=4294967295)(r4:0<=bB/\bB<=4294967295)(r5:0<=aj/\aj<=65535)(r6:0<=av/\av<=65535)(r7:0<=id/\id<=65535)(r8:0<=win/\win<=65535)(r9:2<=aN/\aN<=255)(iz:0<=flags/\flags<=63)(hl:body.length<=64)(ha:0<=addr/\addr<=4294967295)(hq:0<=port/\port<=65535):Ub (Zs (⟨6,aE,aj,dst,av,aN,id,flags,seq,bB,win,body⟩:Pk)) 6 aN 16 22 addr port=Zs (⟨6,aE,aj,addr,port,aN-1,id,flags,seq,bB,win,body⟩:Pk):=by
 generalize hP:(⟨6,aE,aj,dst,av,aN,id,flags,seq,bB,win,body⟩:Pk)=P;generalize hQ:(⟨6,aE,aj,addr,port,aN-1,id,flags,seq,bB,win,body⟩:Pk)=Q;have hN:=Wf P (by subst hP hQ;simp);have hM:=Wf Q (by subst hP hQ;simp);have jA:Xm Q=Xm P:=by rw[hM,hN];subst hP hQ;rfl
 have dM:Xm P<=84:=by rw[hN];subst hP;simp;omega
 have jB:=qm P (by subst hP hQ;simp) (by subst hP hQ;dsimp only;omega);have mF:=qm Q (by subst hP hQ;simp) (by subst hP hQ;dsimp only;omega);rw[Wy P (by subst hP hQ;simp) (by subst hP hQ;dsimp only;omega),Wy Q (by subst hP hQ;simp) (by subst hP hQ;dsimp only;omega),jB,mF,jA];unfold kc sr;rw[jA];clear jB mF hM hN jA;generalize Xm P=n at *
 subst hP hQ;unfold gY jz;dsimp only;simp only[reduceCtorEq,Int.reduceEq,if_true,if_false,↓reduceIte,false_and,true_and,cons_append,nil_append];rw[OX];refine congrArg (fun l=>fr l body) ?_;rw[O1 _ _ _ _ _ _ _ _ _ _ af af af af af af af af af af];have e1:dst/65536%65536=dst/65536:=by omega
 have e2:dst%65536%65536=dst%65536:=by omega
 rw[e1,e2];have hS:=Int.natCast_nonneg (Yd body);have hck:Qs (Qs (Qs (cK (Qv [aE/65536,aE%65536,dst/65536,dst%65536,6,↑n]+Qv [aj,av,seq/65536,seq%65536,bB/65536,bB%65536,80*256+flags,win,0,0]+Yd body)) (dst/65536) (addr/65536)) (dst%65536) (addr%65536)) av port=cK (Qv [aE/65536,aE%65536,addr/65536,addr%65536,6,↑n]+Qv [aj,port,seq/65536,seq%65536,bB/65536,bB%65536,80*256+flags,win,0,0]+Yd body):=by
  rw[JI _ _ _ _ _ _ _ af af af af af af (by simp only[Qv];omega)];apply Ct;simp only[Qv];omega
 rw[hck];rw[YB];rintro ⟨_,hh⟩;rw[JJ]at hh;have:=tW (Qv [aE/65536,aE%65536,addr/65536,addr%65536,6,↑n]+Qv [aj,port,seq/65536,seq%65536,bB/65536,bB%65536,80*256+flags,win,0,0]+Yd body);generalize cK (Qv [aE/65536,aE%65536,addr/65536,addr%65536,6,↑n]+Qv [aj,port,seq/65536,seq%65536,bB/65536,bB%65536,80*256+flags,win,0,0]+Yd body)=u at *;simp only[Qv]at hh;omega
def Xfq (h:Zh p=0)(side addr port:Int)(ht:Ky p side addr port=0):Ub (Zs p) p.ae p.aN (vt side) (vu p.ae side) addr port=Zs (tY p side addr port):=by
 obtain ⟨hp,hr,hl,hf⟩:=We h;unfold Ky at ht;split at ht
 ·cases ht
 split at ht
 ·cases ht
 split at ht
 ·cases ht
 rename_i t1 t2 t3;obtain ⟨r1,r2,r3,r4,r5,r6,r7,r8,r9,iz⟩:=hr;rcases p with ⟨ae,aE,aj,dst,av,aN,id,flags,seq,bB,win,body⟩
 dsimp only at *
 unfold Wj at hf;dsimp only at hf;have ha:0<=addr/\addr<=4294967295:=by omega
 have hq:0<=port/\port<=65535:=by omega
 unfold tY vt vu;by_cases hs:side=0
 ·rw[am hs,am hs,am hs];rcases hp with rfl|rfl|rfl
  ·have hd:av=0:=by omega
   subst hd;exact Xjw aE aj dst 0 aN id flags seq bB win addr port body r1 r2 r3 r4 r5 r6 r7 r8 af iz hl ha hq af
  ·exact Xn8 aE aj dst av aN id flags seq bB win addr port body r1 r2 r3 r4 r5 r6 r7 r8 af iz hl ha hq
  ·exact Xsl aE aj dst av aN id flags seq bB win addr port body r1 r2 r3 r4 r5 r6 r7 r8 af iz hl ha hq
 ·rw[aa hs,aa hs,aa hs];rcases hp with rfl|rfl|rfl
  ·have hd:aj=0:=by omega
   subst hd;exact Xla aE 0 dst av aN id flags seq bB win addr port body r1 r2 r3 r4 r5 r6 r7 r8 af iz hl ha hq af
  ·exact Xs1 aE aj dst av aN id flags seq bB win addr port body r1 r2 r3 r4 r5 r6 r7 r8 af iz hl ha hq
  ·exact Xt6 aE aj dst av aN id flags seq bB win addr port body r1 r2 r3 r4 r5 r6 r7 r8 af iz hl ha hq
def YE:FT Tryz.prog 77 Tryz.f77 (aG Tryz.prog Tryz.f77) [.t 2]:=.of Tryz.func77
def YF:FT Tryz.prog 76 Tryz.f76 (aG Tryz.prog Tryz.f76) [.t 2]:=.of Tryz.func76
def Xwd:FT Tryz.prog 37 Tryz.f37 (aG Tryz.prog Tryz.f37) [.t 2]:=.of Tryz.func37
def JK:FT Tryz.prog 119 Tryz.f119 (aG Tryz.prog Tryz.f119) [.t 6]:=.of Tryz.func119
def Xvj:FT Tryz.prog 121 Tryz.f121 (aG Tryz.prog Tryz.f121) [.t 12]:=.of Tryz.func121
def Xhf:FT Tryz.prog 75 Tryz.f75 (aG Tryz.prog Tryz.f75) [.t 8]:=.of Tryz.func75
def Xqn:FT Tryz.prog 74 Tryz.f74 (aG Tryz.prog Tryz.f74) [.t 2,.t 3]:=.of Tryz.func74
def YG:FT Tryz.prog 73 Tryz.f73 (aG Tryz.prog Tryz.f73) [.t 2]:=.of Tryz.func73
def Xsv:FT Tryz.prog 34 Tryz.f34 (aG Tryz.prog Tryz.f34) [.cell 2 (.ag 12),.t 3]:=.of Tryz.func34
def Yf0:FT Tryz.prog 72 Tryz.f72 (aG Tryz.prog Tryz.f72) [.cell 2 (.ag 12),.t 3]:=.of Tryz.func72
def Yab:FT Tryz.prog 133 Tryz.f133 (aG Tryz.prog Tryz.f133) []:=.of Tryz.func133
def Xvg:FT Tryz.prog 134 Tryz.f134 (aG Tryz.prog Tryz.f134) []:=.of Tryz.func134
def YH:FT Tryz.prog 94 Tryz.f94 (aG Tryz.prog Tryz.f94) [.t 8,.t 9]:=.of Tryz.func94
def Xhv:FT Tryz.prog 124 Tryz.f124 (aG Tryz.prog Tryz.f124) [.t 4,.t 5]:=.of Tryz.func124
def Xuf:FT Tryz.prog 149 Tryz.f149 (aG Tryz.prog Tryz.f149) [.t 2]:=.of Tryz.func149
def Yfg:FT Tryz.prog 169 Tryz.f169 (aG Tryz.prog Tryz.f169) [.t 4]:=.of Tryz.func169
def YI:FT Tryz.prog 144 Tryz.f144 (aG Tryz.prog Tryz.f144) [.t 4]:=.of Tryz.func144
def YJ:FT Tryz.prog 146 Tryz.f146 (aG Tryz.prog Tryz.f146) [.t 2]:=.of Tryz.func146
def Xud:FT Tryz.prog 143 Tryz.f143 (aG Tryz.prog Tryz.f143) [.t 12]:=.of Tryz.func143
def Xoj:FT Tryz.prog 148 Tryz.f148 (aG Tryz.prog Tryz.f148) [.t 8]:=.of Tryz.func148
def O2:FT Tryz.prog 162 Tryz.f162 (aG Tryz.prog Tryz.f162) [.t 2,.t 3]:=.of Tryz.func162
def Xtf:FT Tryz.prog 107 Tryz.f107 (aG Tryz.prog Tryz.f107) [.cell 2 (.ag 12),.t 3]:=.of Tryz.func107
def Xhm:FT Tryz.prog 106 Tryz.f106 (aG Tryz.prog Tryz.f106) [.t 4,.t 5]:=.of Tryz.func106
def YK {α:Type}(p:α->Bool)(l:List α)(d:α)(k:Nat)(h:k<l.length):(l.take (k+1)).all p=((l.take k).all p&&p (l.getD k d)):=by
 have e:l.take (k+1)=l.take k++[l.getD k d]:=by
  rw[List.take_add_one,List.getElem?_eq_getElem h];simp[List.getD,h]
 rw[e,List.all_append];simp
def YL {α:Type}(p:α->Bool)(l:List α)(d:α)(k:Nat)(h:k<l.length)(hn:p (l.getD k d)=false):l.all p=false:=by
 rw[List.all_eq_false];refine ⟨l.getD k d,?_,by rw[hn];decide⟩;simp only[List.getD,List.getElem?_eq_getElem h,Option.getD_some];exact List.getElem_mem h
def dF (hi n:Int):Bool:=decide (0<=n)&&decide (n<=hi)
def O3 (l:List Int)(hl:l.length<=100):PS Tryz.prog gl 77 [.isl l.length (Ql l)] (.bool (l.all (dF 65535))):=by
 refine YE.ps (ap rfl) (by simp[Qe]) fun c hN hg=>?_
 conv in aG _ _=>cbv
 refine Qa ?_
 refine Qu (fun k:Nat=>k≤l.length∧(l.take k).all (dF 65535)=true) (fun k=>⟨[(5,.isl l.length (Ql l)),(6,.int .i64 l.length),(7,.int .i64 k)],[],0⟩) (fun k=>l.length - k) YE.mixed hN
  ⟨0,by simp,[],by exact Qp⟩ fun k hk=>?_
 obtain ⟨hk,ha⟩:=hk;refine Qa ?_;refine Qb ?_ ?_<;>intro h1
 ·have hs:=YK (dF 65535) l 0 k af;have aL:=YL (dF 65535) l 0 k af;refine Qa ?_;generalize l.getD k 0=x at *
  refine Qb ?_ ?_<;>intro h2
  ·refine Qa ?_;refine (aL ?_).symm;unfold dF;simp;omega
  ·refine Qa ?_;refine ⟨k + 1,⟨by omega,?_⟩,⟨[],?_⟩,by omega⟩
   ·rw[hs,ha];unfold dF;simp;omega
   ·omega
 ·have:k=l.length:=by omega
  subst this;refine Qa ?_;rw[List.take_length]at ha;exact ha.symm
def YM (l:List Int)(hl:l.length<=100):PS Tryz.prog gl 76 [.isl l.length (Ql l)] (.bool (l.all (dF 4294967295))):=by
 refine YF.ps (ap rfl) (by simp[Qe]) fun c hN hg=>?_
 conv in aG _ _=>cbv
 refine Qa ?_
 refine Qu (fun k:Nat=>k≤l.length∧(l.take k).all (dF 4294967295)=true) (fun k=>⟨[(5,.isl l.length (Ql l)),(6,.int .i64 l.length),(7,.int .i64 k)],[],0⟩) (fun k=>l.length - k) YF.mixed hN
  ⟨0,by simp,[],by exact Qp⟩ fun k hk=>?_
 obtain ⟨hk,ha⟩:=hk;refine Qa ?_;refine Qb ?_ ?_<;>intro h1
 ·have hs:=YK (dF 4294967295) l 0 k af;have aL:=YL (dF 4294967295) l 0 k af;refine Qa ?_;generalize l.getD k 0=x at *
  refine Qb ?_ ?_<;>intro h2
  ·refine Qa ?_;refine (aL ?_).symm;unfold dF;simp;omega
  ·refine Qa ?_;refine ⟨k + 1,⟨by omega,?_⟩,⟨[],?_⟩,by omega⟩
   ·rw[hs,ha];unfold dF;simp;omega
   ·omega
 ·have:k=l.length:=by omega
  subst this;refine Qa ?_;rw[List.take_length]at ha;exact ha.symm
def po (p:Int):AV:=if p=1 then .aR [.int .i64 8,.int .i64 2] else if p=17 then .aR [.int .i64 8,.int .i64 6] else if p=6 then .aR [.int .i64 20,.int .i64 16] else .aR [.int .i64 0,.int .i64 0]
def YN (p:Int):PS Tryz.prog gl 74 [.int .i64 p] (po p):=by
 refine Xqn.ps (ap rfl) (by unfold po;split<;>(try split)<;>(try split)<;>simp[Qe,ah]) fun c hN hg=>?_
 conv in aG _ _=>cbv
 refine Qa ?_;refine Qb ?_ ?_<;>intro h1
 ·refine Qa ?_;unfold po;rw[am h1]
 ·refine Qa ?_;refine Qb ?_ ?_<;>intro h2
  ·refine Qa ?_;unfold po;rw[aa h1,am h2]
  ·refine Qa ?_;refine Qb ?_ ?_<;>intro h3
   ·refine Qa ?_;unfold po;rw[aa h1,aa h2,am h3]
   ·refine Qa ?_;unfold po;rw[aa h1,aa h2,aa h3]
def gZ (e:Int):AV:=.aR [.agg cX.enc,.int .i64 e]
def Kj (e:Int):GS Tryz.prog gl 72 [.int .i64 e] [] 0 (gZ e) [] 0:=by
 refine Yf0.gs (ap rfl) aw fun c bf hg=>?_
 conv in aG _ _=>cbv
 unfold gZ cX Pk.enc;refine Qa ?_;refine ⟨[],?_⟩;exact Qp
def YO (hl:l.length<=100000000):PS Tryz.prog gl 73 [.str l] (.int .i64 (iO l)):=by
 refine YG.ps (ap rfl) (by simp[Qe]) fun c hN hg=>?_
 conv in aG _ _=>cbv
 refine Qa ?_;refine Jx ?_
 refine Qu (fun k:Nat=>k≤l.length) (fun k=>⟨[(3,.int .i64 (iO (l.take k))),(7,.sl 1 0 0 l.length l.length),(8,.int .i64 l.length),(9,.int .i64 k)],[(0,.cells (Xj l))],1⟩) (fun k=>l.length - k) YG.mixed hN
  ⟨0,by omega,[],by refine Qa ?_<;>rfl⟩ fun k hk=>?_
 refine Qa ?_;refine Qb ?_ ?_<;>intro h1
 ·have hs:=Ty l k af;have ho:=Tx (iO (l.take k)) (l.getD k 0).toNat af (by have:=UInt8.toNat_lt (l.getD k 0);omega);have hb:=UInt8.toNat_lt (l.getD k 0);refine Qa ?_;refine ⟨k + 1,by omega,⟨[],?_⟩,by omega⟩;refine Qd @hs ?_;have m3:(2:Int) ^ min 8 64=256:=by decide
  rw[m3,ho]
 ·have:k=l.length:=by omega
  subst this;exact Qp
def YP (hl:l.length<=100000000):PS Tryz.prog gl 146 [.str l] (.int .i64 (iO l)):=by
 refine YJ.ps (ap rfl) (by simp[Qe]) fun c hN hg=>?_
 conv in aG _ _=>cbv
 refine Qa ?_;refine Jx ?_
 refine Qu (fun k:Nat=>k≤l.length) (fun k=>⟨[(3,.int .i64 (iO (l.take k))),(7,.sl 1 0 0 l.length l.length),(8,.int .i64 l.length),(9,.int .i64 k)],[(0,.cells (Xj l))],1⟩) (fun k=>l.length - k) YJ.mixed hN
  ⟨0,by omega,[],by refine Qa ?_<;>rfl⟩ fun k hk=>?_
 refine Qa ?_;refine Qb ?_ ?_<;>intro h1
 ·have hs:=Ty l k af;refine Qa ?_;refine ⟨k+1,by omega,⟨[],?_⟩,by omega⟩;refine Qd @hs ?_;rw[IntKind.wrap_i64,IntKind.wrap_i64,IntKind.wrap_i64,IntKind.wrap_i64];omega
 ·have:k=l.length:=by omega
  subst this;exact Qp
structure O4 where
 k:Nat
 l:List UInt8
def vw (v:Int)(n:Nat)(hn:n<=8)(hl:l.length<=100000000) :
  GS Tryz.prog gl 119 [.sl 1 0 0 l.length l.length,.int .i64 v,.int .i64 n] [(0,.cells (Xj l))] 1 (.sl 1 1 0 (l.length+n) (l.length+n)) [(1,.cells (Xj (l++be v n)))] 2:=by
 refine JK.gs (ap rfl) (by simp[Bk.live]) fun c bf hg=>?_
 conv in aG _ _=>cbv
 refine Qa ?_
 refine wT (fun x:O4=>x.k≤n∧x.l++be v x.k=l++be v n) (fun x=>⟨[(0,.sl 1 1 0 x.l.length x.l.length),(1,.int .i64 v),(7,.int .i64 ((x.k:Int) - 1))],[(1,.cells (Xj x.l))],2⟩) (fun x=>x.k) JK.mixed 1 bf
  ⟨⟨n,l⟩,⟨Nat.le_refl _,rfl⟩,[(1,0)],by exact Qp⟩ fun ⟨k,l'⟩ ⟨hk,he⟩=>?_
 dsimp only at hk he;refine Qa ?_;have kE:l'.length+k=l.length+n:=by
  have:=congrArg List.length he;simpa [Qj] using this
 refine Qb ?_ ?_<;>intro h1
 ·obtain ⟨k,rfl⟩:∃ j,k=j + 1:=⟨k - 1,by omega⟩
  have e1:(((k+1:Nat):Int)-1)=k:=by omega
  rw[e1]at h1 ⊢;refine Qa ?_;refine Jx ?_;refine Jx ?_;refine ⟨⟨k,l'++[Qx v k]⟩,⟨by dsimp only;omega,?_⟩,⟨[(1,3)],?_⟩,by dsimp only;omega⟩
  ·simpa [be] using he
  ·refine Qa ?_;rfl
 ·have gH:k=0:=by omega
  subst gH;simp only[be,append_nil]at he;subst he;refine Qa ?_;refine ⟨[],?_⟩;exact Qi @Qj
structure O5 where
 k:Nat
 l:Option (List UInt8)
def Xks (n:Nat)(hn:n<=8)(h0:0<n) :
  GS Tryz.prog gl 119 [.nils,.int .i64 v,.int .i64 n] [] 0 (.sl 1 0 0 n n) [(0,.cells (Xj (be v n)))] 1:=by
 refine JK.gs (ap rfl) aw fun c bf hg=>?_
 conv in aG _ _=>cbv
 refine Qa ?_
 refine wT (fun x:O5=>x.k≤n∧(x.l.getD [])++be v x.k=be v n∧(x.l=none→x.k=n)) (fun x=>match x.l with|none=>⟨[(0,.nils),(1,.int .i64 v),(7,.int .i64 ((x.k:Int) - 1))],[],0⟩|some l=>⟨[(0,.sl 1 0 0 l.length l.length),(1,.int .i64 v),(7,.int .i64 ((x.k:Int) - 1))],[(0,.cells (Xj l))],1⟩) (fun x=>x.k) JK.mixed 0 bf
  ⟨⟨n,none⟩,⟨Nat.le_refl _,rfl,fun _=>rfl⟩,[],by exact Qp⟩ fun ⟨k,o⟩ ⟨hk,he,br⟩=>?_
 cases o with
 | none =>
  dsimp only at hk he br;obtain rfl:=br rfl;refine Qa ?_;refine Qb ?_ ?_<;>intro h1
  ·obtain ⟨k,rfl⟩:∃ j,k=j + 1:=⟨k - 1,by omega⟩
   have e1:(((k+1:Nat):Int)-1)=k:=by omega
   rw[e1]at h1 ⊢;refine Qa ?_;refine Jx ?_;refine Jx ?_;refine ⟨⟨k,some [Qx v k]⟩,⟨by dsimp only;omega,?_,fun h=>by cases h⟩,⟨[(0,1)],?_⟩,by dsimp only;omega⟩
   ·simp[be]
   ·refine Qa ?_;exact NM [] _ []
  ·omega
 | some l' =>
  dsimp only[Option.getD_some]at hk he br;have kE:l'.length+k=n:=by
   have:=congrArg List.length he;simpa [Qj] using this
  refine Qa ?_;refine Qb ?_ ?_<;>intro h1
  ·obtain ⟨k,rfl⟩:∃ j,k=j + 1:=⟨k - 1,by omega⟩
   have e1:(((k+1:Nat):Int)-1)=k:=by omega
   rw[e1]at h1 ⊢;refine Qa ?_;refine Jx ?_;refine Jx ?_;refine ⟨⟨k,some (l'++[Qx v k])⟩,⟨by dsimp only;omega,?_,fun h=>by cases h⟩,⟨[(0,2)],?_⟩,by dsimp only;omega⟩
   ·simpa [be] using he
   ·refine Qa ?_;rfl
  ·have gH:k=0:=by omega
   subst gH;simp only[be,append_nil]at he;subst he;refine Qa ?_;refine ⟨[],?_⟩;exact Qi @Qj
def Xyu (hk:k<=8):Qx v k=UInt8.ofNat ((v/256 ^ k)%256).toNat:=by
 unfold Qx;rw[IntKind.wrap_u8];have e:min (8*(k:Int)).toNat 64=8*k:=by omega
 rw[e,Int.fdiv_eq_ediv_of_nonneg _ (Int.pow_nonneg aJ)];have e2:(2:Int) ^ (8*k)=256 ^ k:=by rw[Int.pow_mul];rfl
 rw[e2]
def Xq6 (j:Nat):v/256 ^ j/256=v/256 ^ (j+1):=by
 rw[Int.ediv_ediv_of_nonneg (Int.pow_nonneg aJ),Int.pow_succ]
def YQ (h0:0<=v)(j:Nat):0<=v/256 ^ j/\v/256 ^ j<=v:=by
 have hp:(0:Int)<256 ^ j:=Int.pow_pos aJ;exact ⟨Int.ediv_nonneg h0 af,Int.ediv_le_self _ h0⟩
def Xi (gl:Nat->AV)(v:Int)(n:Nat)(h0:0<=v:=by omega)(h1:v<=9223372036854775807:=by omega)(hn:n<=8:=by decide) :
  PS Tryz.prog gl 144 [.int .i64 v,.int .i64 n] (.str (be v n)):=by
 refine YI.ps (ap rfl) (by simp[Qe]) fun c hN hg=>?_
 conv in aG _ _=>cbv
 refine Qa ?_
 refine Qu (fun j:Nat=>j≤n) (fun j=>⟨[(0,.int .i64 (v / 256 ^ j)),(1,.int .i64 ((n - j:Nat):Int)),(5,.str (be v j))],[],0⟩) (fun j=>n - j) YI.mixed hN
  ⟨0,by omega,[],by refine Qa ?_;simp[be]⟩ fun j hj=>?_
 refine Qa ?_;obtain ⟨b0,b1⟩:=YQ v h0 j;refine Qb ?_ ?_<;>intro h2
 ·refine Qa ?_
  ((first|apply wY|apply wZ|apply w3|apply w5|apply w7|apply w8);(have aQ:=@Qj;refine XG ?_;clear aQ;((try with_reducible and_intros);all_goals try first|refine zm ?_|exact CL)))
  ·intro x hx;rw[List.mem_singleton]at hx;subst hx;exact rfl
  ·simp only[toB,map_cons,map_nil,List.length_cons,List.length_nil];omega
  have e1:(v/256 ^ j).tdiv 256=v/256 ^ (j+1):=by rw[Int.tdiv_eq_ediv_of_nonneg b0,Xq6]
  have e2:(v/256 ^ j).tmod 256=(v/256 ^ j)%256:=Int.tmod_eq_emod_of_nonneg b0;obtain ⟨c0,c1⟩:=YQ v h0 (j+1);refine ⟨j+1,by omega,⟨[],?_⟩,by omega⟩;rw[e1,e2];refine ⟨by rw[IntKind.wrap_i64];omega,by omega,?_⟩;simp only[be,Xyu v j af];simp only[toB,bC,IntKind.wrap_u8,map_cons,map_nil,cons_append,nil_append,Int.emod_emod]
 ·have:j=n:=by omega
  subst this;exact Qp
def YR (n hi:Int):PS Tryz.prog gl 169 [.int .i64 n,.int .i64 hi] (.bool (dF hi n)):=by
 refine Yfg.ps (ap rfl) (by simp[Qe]) fun c hN hg=>?_
 conv in aG _ _=>cbv
 refine Qa ?_;unfold dF;simp
def Xzg:[p.aE,p.dst,p.seq,p.bB].all (dF 4294967295)=true ↔ (0<=p.aE/\p.aE<=4294967295)/\(0<=p.dst/\p.dst<=4294967295)/\(0<=p.seq/\p.seq<=4294967295)/\(0<=p.bB/\p.bB<=4294967295):=by
 simp[dF]
def Xvi:[p.aj,p.av,p.id,p.win].all (dF 65535)=true ↔ (0<=p.aj/\p.aj<=65535)/\(0<=p.av/\p.av<=65535)/\(0<=p.id/\p.id<=65535)/\(0<=p.win/\p.win<=65535):=by
 simp[dF]
def Xne:Jj p ↔ [p.aE,p.dst,p.seq,p.bB].all (dF 4294967295)=true/\[p.aj,p.av,p.id,p.win].all (dF 65535)=true/\(1<=p.aN/\p.aN<=255)/\(0<=p.flags/\p.flags<=63):=by
 rw[Xzg,Xvi];unfold Jj;constructor
 ·rintro ⟨a,b,c,d,e,f,g,h,i,j⟩;exact ⟨⟨a,b,c,d⟩,⟨e,f,g,h⟩,i,j⟩
 ·rintro ⟨⟨a,b,c,d⟩,⟨e,f,g,h⟩,i,j⟩;exact ⟨a,b,c,d,e,f,g,h,i,j⟩
def YS {p:Pk}(h:¬ (p.ae=1\/p.ae=6\/p.ae=17)):Zh p=4:=by unfold Zh;rw[am h]
def YT {p:Pk}(h:p.ae=1\/p.ae=6\/p.ae=17)(h2:¬ Jj p):Zh p=2:=by unfold Zh;rw[aa (fun x=>x h),am h2]
def YU {p:Pk}(h:p.ae=1\/p.ae=6\/p.ae=17)(h2:Jj p)(h3:64<p.body.length):Zh p=5:=by unfold Zh;rw[aa (fun x=>x h),aa (fun x=>x h2),am h3]
def YV {p:Pk}(h:p.ae=1\/p.ae=6\/p.ae=17)(h2:Jj p)(h3:¬ 64<p.body.length)(h4:Wj p):Zh p=1:=by unfold Zh;rw[aa (fun x=>x h),aa (fun x=>x h2),aa h3,am h4]
set_option maxRecDepth 20000 in
def JL:PS Tryz.prog gl 37 [.agg p.enc] (.int .i64 (Zh p)):=by
 refine Xwd.ps (ap rfl) (by simp[Qe]) fun c hN hg=>?_
 conv in aG _ _=>cbv
 unfold Pk.enc;have hR:=Xne p;have hl:=YM c.gl [p.aE,p.dst,p.seq,p.bB] aw;have hw:=O3 c.gl [p.aj,p.av,p.id,p.win] aw;generalize hL:[p.aE,p.dst,p.seq,p.bB].all (dF 4294967295)=L at *
 generalize hW:[p.aj,p.av,p.id,p.win].all (dF 65535)=W at *
 have k1:=@YS p;have k2:=@YT p;have k3:=@YU p;have k4:=@YV p;have k5:=@JC p;generalize Zh p=E at *
 generalize hRp:Jj p=RP at *
 unfold Wj at k4 k5;obtain ⟨ae,aE,aj,dst,av,aN,id,flags,seq,bB,win,body⟩:=p;dsimp only at *
 refine Qa ?_;refine Qb ?_ ?_<;>intro h1
 ·exact Qp
 have hp:ae=1\/ae=6\/ae=17:=by omega
 have bad:¬ RP->E=2:=fun h=>k2 hp h;cases L with
 | false =>
  refine Qa ?_;refine Jx ?_
  ((first|apply Wi|apply Kd)<;>(first|exact hl|(with_reducible (exact Jn.bool _))|(refine XG ?_;first|exact rfl|exact True.intro|((try with_reducible and_intros);all_goals try first|refine zm ?_|exact CL))))
  refine Xy ?_;refine Xy ?_;refine Yc ?_;refine Qa ?_;exact (bad (fun h=>by simp[hR]at h)).symm
 | true =>
  cases W with
  | false =>
   refine Qa ?_;refine Jx ?_
   ((first|apply Wi|apply Kd)<;>(first|exact hl|(with_reducible (exact Jn.bool _))|(refine XG ?_;first|exact rfl|exact True.intro|((try with_reducible and_intros);all_goals try first|refine zm ?_|exact CL))))
   refine tP ?_;refine Jx ?_
   ((first|apply Wi|apply Kd)<;>(first|exact hw|(with_reducible (exact Jn.bool _))|(refine XG ?_;first|exact rfl|exact True.intro|((try with_reducible and_intros);all_goals try first|refine zm ?_|exact CL))))
   refine Yc ?_;refine Qa ?_;exact (bad (fun h=>by simp[hR]at h)).symm
  | true =>
   refine Qa ?_;refine Jx ?_
   ((first|apply Wi|apply Kd)<;>(first|exact hl|(with_reducible (exact Jn.bool _))|(refine XG ?_;first|exact rfl|exact True.intro|((try with_reducible and_intros);all_goals try first|refine zm ?_|exact CL))))
   refine tP ?_;refine Jx ?_
   ((first|apply Wi|apply Kd)<;>(first|exact hw|(with_reducible (exact Jn.bool _))|(refine XG ?_;first|exact rfl|exact True.intro|((try with_reducible and_intros);all_goals try first|refine zm ?_|exact CL))))
   refine Qb ?_ ?_<;>intro h2
   ·refine Qa ?_;exact (bad (fun h=>by have:=hR.1 h;omega)).symm
   have j2:RP:=hR.2 ⟨rfl,rfl,by omega,by omega⟩;refine Qa ?_;refine Qb ?_ ?_<;>intro h3
   ·refine Qa ?_;exact (k3 hp j2 af).symm
   rcases hp with rfl|rfl|rfl
   ·refine Qa ?_;refine Qb ?_ ?_<;>intro h4
    ·refine Qa ?_;exact (k4 (.inl rfl) j2 af af).symm
    by_cases h6:flags=8
    ·subst h6;refine Qa ?_;refine Qb ?_ ?_<;>intro h7
     ·refine Qa ?_;exact (k4 (.inl rfl) j2 af af).symm
     ·refine Qa ?_;exact (k5 (.inl rfl) j2 af af).symm
    ·by_cases h8:flags=0
     ·subst h8;refine Qa ?_;refine Qb ?_ ?_<;>intro h7
      ·refine Qa ?_;exact (k4 (.inl rfl) j2 af af).symm
      ·refine Qa ?_;exact (k5 (.inl rfl) j2 af af).symm
     ·have g6:(flags != 8)=true:=by simp[h6]
      have g8:(flags != 0)=true:=by simp[h8]
      refine Qd (An @g6 @g8) ?_;refine Yc ?_;refine Qa ?_;exact (k4 (.inl rfl) j2 af af).symm
   ·refine Qa ?_;refine Yc ?_;refine Qa ?_;refine Yc ?_;refine Qa ?_;exact (k5 (.inr (.inl rfl)) j2 af af).symm
   ·refine Qa ?_;refine Qb ?_ ?_<;>intro h4
    ·refine Qa ?_;exact (k4 (.inr (.inr rfl)) j2 af af).symm
    ·refine Qa ?_;refine Yc ?_;refine Qa ?_;exact (k5 (.inr (.inr rfl)) j2 af af).symm
def tZ {gl:Nat->AV}{n hi:Int}(h:dF hi n=true):PS Tryz.prog gl 169 ([.int .i64 n,.int .i64 hi]++[]) (.bool true):=h ▸ YR gl n hi
def ua {gl:Nat->AV}{n hi:Int}(h:¬ dF hi n=true):PS Tryz.prog gl 169 ([.int .i64 n,.int .i64 hi]++[]) (.bool false):=by
 have e:dF hi n=false:=by simpa using h
 exact e ▸ YR gl n hi
def Um (n hi:Int):ah 0 ([.int .i64 n,.int .i64 hi]++[]):=by simp[ah,Qe]
def qn (hi n:Int):dF hi n=true ↔ 0<=n/\n<=hi:=by simp[dF]
def YW (p:Pk):Prop:=-9223372036854775808<=p.aN/\p.aN<=9223372036854775807
set_option maxRecDepth 20000 in
def zV (aS:YW p):PS Tryz.prog gl 149 [.agg p.enc] (.int .i64 (Zh p)):=by
 refine Xuf.ps (ap rfl) (by simp[Qe]) fun c hN hg=>?_
 conv in aG _ _=>cbv
 unfold Pk.enc;have k1:=@YS p;have k2:=@YT p;have k3:=@YU p;have k4:=@YV p;have k5:=@JC p;generalize Zh p=E at *
 have hR:Jj p ↔ _:=Iff.rfl
 conv at hR=>rhs;unfold Jj
 generalize Jj p=RP at *
 unfold Wj at k4 k5;unfold YW at aS;obtain ⟨ae,aE,aj,dst,av,aN,id,flags,seq,bB,win,body⟩:=p;dsimp only at *
 refine Qa ?_;refine Qb ?_ ?_<;>intro h1
 ·exact Qp
 have hp:ae=1\/ae=6\/ae=17:=by omega
 have bad:¬ RP->E=2:=fun h=>k2 hp h;clear k1 k2;have K3:=Lib.hid k3;have K4:=Lib.hid k4;have K5:=Lib.hid k5;have HR:=Lib.hid hR;clear k3 k4 k5 hR;refine Qa ?_;by_cases q0:dF 4294967295 aE=true;rotate_left
 ·((first|apply Yw|apply Yf|apply Xn|apply Xg)<;>(first|exact (Jp (caps:=[]) (ua q0) (Um _ _))|(refine XG ?_;first|exact rfl|exact True.intro|((try with_reducible and_intros);all_goals try first|refine zm ?_|exact CL))))
  refine Xy ?_;refine Xy ?_;refine Xy ?_;refine Xy ?_;refine Xy ?_;refine Xy ?_;refine Xy ?_;refine Xy ?_;refine Xy ?_;refine Yc ?_;refine Qa ?_;refine (bad fun h=>q0 ?_).symm;rw[qn];have:=HR.out.1 h;omega
 ((first|apply Yw|apply Yf|apply Xn|apply Xg)<;>(first|exact (Jp (caps:=[]) (tZ q0) (Um _ _))|(refine XG ?_;first|exact rfl|exact True.intro|((try with_reducible and_intros);all_goals try first|refine zm ?_|exact CL))))
 by_cases q1:dF 4294967295 dst=true;rotate_left
 ·((first|apply Yw|apply Yf|apply Xn|apply Xg)<;>(first|exact (Jp (caps:=[]) (ua q1) (Um _ _))|(refine XG ?_;first|exact rfl|exact True.intro|((try with_reducible and_intros);all_goals try first|refine zm ?_|exact CL))))
  refine Xy ?_;refine Xy ?_;refine Xy ?_;refine Xy ?_;refine Xy ?_;refine Xy ?_;refine Xy ?_;refine Xy ?_;refine Yc ?_;refine Qa ?_;refine (bad fun h=>q1 ?_).symm;rw[qn];have:=HR.out.1 h;omega
 ((first|apply Yw|apply Yf|apply Xn|apply Xg)<;>(first|exact (Jp (caps:=[]) (tZ q1) (Um _ _))|(refine XG ?_;first|exact rfl|exact True.intro|((try with_reducible and_intros);all_goals try first|refine zm ?_|exact CL))))
 by_cases q2:dF 4294967295 seq=true;rotate_left
 ·((first|apply Yw|apply Yf|apply Xn|apply Xg)<;>(first|exact (Jp (caps:=[]) (ua q2) (Um _ _))|(refine XG ?_;first|exact rfl|exact True.intro|((try with_reducible and_intros);all_goals try first|refine zm ?_|exact CL))))
  refine Xy ?_;refine Xy ?_;refine Xy ?_;refine Xy ?_;refine Xy ?_;refine Xy ?_;refine Xy ?_;refine Yc ?_;refine Qa ?_;refine (bad fun h=>q2 ?_).symm;rw[qn];have:=HR.out.1 h;omega
 ((first|apply Yw|apply Yf|apply Xn|apply Xg)<;>(first|exact (Jp (caps:=[]) (tZ q2) (Um _ _))|(refine XG ?_;first|exact rfl|exact True.intro|((try with_reducible and_intros);all_goals try first|refine zm ?_|exact CL))))
 by_cases q3:dF 4294967295 bB=true;rotate_left
 ·((first|apply Yw|apply Yf|apply Xn|apply Xg)<;>(first|exact (Jp (caps:=[]) (ua q3) (Um _ _))|(refine XG ?_;first|exact rfl|exact True.intro|((try with_reducible and_intros);all_goals try first|refine zm ?_|exact CL))))
  refine Xy ?_;refine Xy ?_;refine Xy ?_;refine Xy ?_;refine Xy ?_;refine Xy ?_;refine Yc ?_;refine Qa ?_;refine (bad fun h=>q3 ?_).symm;rw[qn];have:=HR.out.1 h;omega
 ((first|apply Yw|apply Yf|apply Xn|apply Xg)<;>(first|exact (Jp (caps:=[]) (tZ q3) (Um _ _))|(refine XG ?_;first|exact rfl|exact True.intro|((try with_reducible and_intros);all_goals try first|refine zm ?_|exact CL))))
 by_cases q4:dF 65535 aj=true;rotate_left
 ·((first|apply Yw|apply Yf|apply Xn|apply Xg)<;>(first|exact (Jp (caps:=[]) (ua q4) (Um _ _))|(refine XG ?_;first|exact rfl|exact True.intro|((try with_reducible and_intros);all_goals try first|refine zm ?_|exact CL))))
  refine Xy ?_;refine Xy ?_;refine Xy ?_;refine Xy ?_;refine Xy ?_;refine Yc ?_;refine Qa ?_;refine (bad fun h=>q4 ?_).symm;rw[qn];have:=HR.out.1 h;omega
 ((first|apply Yw|apply Yf|apply Xn|apply Xg)<;>(first|exact (Jp (caps:=[]) (tZ q4) (Um _ _))|(refine XG ?_;first|exact rfl|exact True.intro|((try with_reducible and_intros);all_goals try first|refine zm ?_|exact CL))))
 by_cases q5:dF 65535 av=true;rotate_left
 ·((first|apply Yw|apply Yf|apply Xn|apply Xg)<;>(first|exact (Jp (caps:=[]) (ua q5) (Um _ _))|(refine XG ?_;first|exact rfl|exact True.intro|((try with_reducible and_intros);all_goals try first|refine zm ?_|exact CL))))
  refine Xy ?_;refine Xy ?_;refine Xy ?_;refine Xy ?_;refine Yc ?_;refine Qa ?_;refine (bad fun h=>q5 ?_).symm;rw[qn];have:=HR.out.1 h;omega
 ((first|apply Yw|apply Yf|apply Xn|apply Xg)<;>(first|exact (Jp (caps:=[]) (tZ q5) (Um _ _))|(refine XG ?_;first|exact rfl|exact True.intro|((try with_reducible and_intros);all_goals try first|refine zm ?_|exact CL))))
 by_cases q6:dF 65535 id=true;rotate_left
 ·((first|apply Yw|apply Yf|apply Xn|apply Xg)<;>(first|exact (Jp (caps:=[]) (ua q6) (Um _ _))|(refine XG ?_;first|exact rfl|exact True.intro|((try with_reducible and_intros);all_goals try first|refine zm ?_|exact CL))))
  refine Xy ?_;refine Xy ?_;refine Xy ?_;refine Yc ?_;refine Qa ?_;refine (bad fun h=>q6 ?_).symm;rw[qn];have:=HR.out.1 h;omega
 ((first|apply Yw|apply Yf|apply Xn|apply Xg)<;>(first|exact (Jp (caps:=[]) (tZ q6) (Um _ _))|(refine XG ?_;first|exact rfl|exact True.intro|((try with_reducible and_intros);all_goals try first|refine zm ?_|exact CL))))
 by_cases q7:dF 65535 win=true;rotate_left
 ·((first|apply Yw|apply Yf|apply Xn|apply Xg)<;>(first|exact (Jp (caps:=[]) (ua q7) (Um _ _))|(refine XG ?_;first|exact rfl|exact True.intro|((try with_reducible and_intros);all_goals try first|refine zm ?_|exact CL))))
  refine Xy ?_;refine Xy ?_;refine Yc ?_;refine Qa ?_;refine (bad fun h=>q7 ?_).symm;rw[qn];have:=HR.out.1 h;omega
 ((first|apply Yw|apply Yf|apply Xn|apply Xg)<;>(first|exact (Jp (caps:=[]) (tZ q7) (Um _ _))|(refine XG ?_;first|exact rfl|exact True.intro|((try with_reducible and_intros);all_goals try first|refine zm ?_|exact CL))))
 have hw:IntKind.i64.wrap (aN-1)=aN-1\/(¬ dF 254 (IntKind.i64.wrap (aN-1))=true/\¬ (1<=aN/\aN<=255)):=by
  rw[IntKind.wrap_i64,qn];omega
 by_cases q8:dF 254 (IntKind.i64.wrap (aN-1))=true;rotate_left
 ·((first|apply Yw|apply Yf|apply Xn|apply Xg)<;>(first|exact (Jp (caps:=[]) (ua q8) (Um _ _))|(refine XG ?_;first|exact rfl|exact True.intro|((try with_reducible and_intros);all_goals try first|refine zm ?_|exact CL))))
  refine Xy ?_;refine Yc ?_;refine Qa ?_;refine (bad fun h=>q8 ?_).symm;rw[qn];have:=HR.out.1 h;rcases hw with hw|⟨_,hw⟩<;>omega
 ((first|apply Yw|apply Yf|apply Xn|apply Xg)<;>(first|exact (Jp (caps:=[]) (tZ q8) (Um _ _))|(refine XG ?_;first|exact rfl|exact True.intro|((try with_reducible and_intros);all_goals try first|refine zm ?_|exact CL))))
 by_cases q9:dF 63 flags=true;rotate_left
 ·((first|apply Yw|apply Yf|apply Xn|apply Xg)<;>(first|exact (Jp (caps:=[]) (ua q9) (Um _ _))|(refine XG ?_;first|exact rfl|exact True.intro|((try with_reducible and_intros);all_goals try first|refine zm ?_|exact CL))))
  refine Yc ?_;refine Qa ?_;refine (bad fun h=>q9 ?_).symm;rw[qn];have:=HR.out.1 h;omega
 ((first|apply Yw|apply Yf|apply Xn|apply Xg)<;>(first|exact (Jp (caps:=[]) (tZ q9) (Um _ _))|(refine XG ?_;first|exact rfl|exact True.intro|((try with_reducible and_intros);all_goals try first|refine zm ?_|exact CL))))
 refine Yc ?_;rw[qn]at q0 q1 q2 q3 q4 q5 q6 q7 q8 q9;have ht:1<=aN/\aN<=255:=by
  rcases hw with hw|⟨hw,_⟩
  ·omega
  ·rw[qn]at hw;omega
 have j2:RP:=HR.out.2 ⟨q0,q1,q2,q3,q4,q5,q6,q7,ht,q9⟩;refine Qa ?_;refine Qb ?_ ?_<;>intro h3
 ·refine Qa ?_;exact (K3.out hp j2 af).symm
 have k4:=K4.out;have k5:=K5.out;rcases hp with rfl|rfl|rfl
 ·refine Qa ?_;refine Qb ?_ ?_<;>intro h4
  ·refine Qa ?_;exact (k4 (.inl rfl) j2 af af).symm
  refine Qa ?_;refine Yc ?_;by_cases h6:flags=8
  ·subst h6;refine Qa ?_;refine Qb ?_ ?_<;>intro h7
   ·refine Qa ?_;exact (k4 (.inl rfl) j2 af af).symm
   ·refine Qa ?_;exact (k5 (.inl rfl) j2 af af).symm
  ·by_cases h8:flags=0
   ·subst h8;refine Qa ?_;refine Qb ?_ ?_<;>intro h7
    ·refine Qa ?_;exact (k4 (.inl rfl) j2 af af).symm
    ·refine Qa ?_;exact (k5 (.inl rfl) j2 af af).symm
   ·have g6:(flags == 8)=false:=by simp[h6]
    have g8:(flags==0)=false:=by simp[h8]
    refine Qd (An @g6 @g8) ?_;refine Yc ?_;refine Qa ?_;exact (k4 (.inl rfl) j2 af af).symm
 ·refine Qa ?_;refine Yc ?_;refine Qa ?_;refine Yc ?_;refine Qa ?_;exact (k5 (.inr (.inl rfl)) j2 af af).symm
 ·refine Qa ?_;refine Qb ?_ ?_<;>intro h4
  ·refine Qa ?_;exact (k4 (.inr (.inr rfl)) j2 af af).symm
  ·refine Qa ?_;refine Yc ?_;refine Qa ?_;exact (k5 (.inr (.inr rfl)) j2 af af).symm
def YX:[UInt8.ofNat (IntKind.u8.wrap v).toNat]=be v 1:=by
 show _=[Qx v 0]
 unfold Qx;have:v.fdiv (2 ^ min (8*((0:Nat):Int)).toNat 64)=v:=Int.fdiv_one v;rw[this]
theorem Xpa (i:Nat)(n:Int):(Xj l).set i (.int .u8 (IntKind.u8.wrap n))=Xj (l.set i (UInt8.ofNat (IntKind.u8.wrap n).toNat)):=by
 have h0:0<=IntKind.u8.wrap n/\IntKind.u8.wrap n<256:=by rw[IntKind.wrap_u8];omega
 generalize IntKind.u8.wrap n=k at h0 ⊢;have e:(.int .u8 k:AV)=.int .u8 (UInt8.ofNat k.toNat).toNat:=by simp;omega
 rw[e,Xj,Xj,List.map_set]
theorem Yem:UInt8.ofNat (IntKind.u8.wrap (v.fdiv (2 ^ min 8 64))).toNat=Qx v 1:=rfl
def JM:UInt8.ofNat (IntKind.u8.wrap v).toNat=Qx v 0:=by
 have:=YX v;simp only[be,List.cons.injEq,and_true]at this;exact this
attribute [go_sem] Xpa Yem
def Yap (A Z:List UInt8)(a b x y:UInt8):((A++[a,b]++Z).set A.length x).set (A.length+1) y=A++[x,y]++Z:=by
 rw[append_assoc,List.set_append_right _ _ (Nat.le_refl _),List.set_append_right _ _ af];simp
def Xvy (A Z:List UInt8)(hA:A.length=10)(v:Int):((A++be 0 2++Z).set 10 (Qx v 1)).set 11 (Qx v 0)=A++be v 2++Z:=by
 rw[EV];have:=Yap A Z 0 0 (Qx v 1) (Qx v 0);rw[hA]at this;exact this
def Xzx (ae aE dst aN id n:Int)(hn:0<=n/\n<=1000) :
  GS Tryz.prog gl 121 [.int .i64 ae,.int .i64 aE,.int .i64 dst,.int .i64 aN,.int .i64 id,.int .i64 n] [] 0 (.sl 1 0 0 20 20) [(0,.cells (Xj (Wd ae aE dst aN id n)))] 1:=by
 refine Xvj.gs (ap rfl) aw fun c bf hg=>?_
 conv in aG _ _=>cbv
 obtain ⟨p2,fe⟩:∃ p2:List UInt8,p2=[69,0]:=⟨_,rfl⟩
 have hl2:p2.length=2:=by rw[fe];rfl
 have lit:[.int .u8 69,.int .u8 0]=Xj p2:=by rw[fe];rfl
 have bA:∀ v,((p2++be (20+n) 2++be id 2++be 0 2++be aN 1++be ae 1++be 0 2++be aE 4++be dst 4).set 10 (Qx v 1)).set 11 (Qx v 0)=mA ae aN id n++be v 2++mB aE dst:=fun v=>by
  have:=Xvy (mA ae aN id n) (mB aE dst) (OM _ _ _ _) v;rw[<- this,fe];unfold mA mB;rw[EV];simp only[append_assoc]
 have hck:Yh (p2++be (20+n) 2++be id 2++be 0 2++be aN 1++be ae 1++be 0 2++be aE 4++be dst 4)=Yh (mA ae aN id n++[0,0]++mB aE dst):=by
  unfold mA mB;rw[EV,fe];simp only[append_assoc]
 have hlen:(p2++be (20+n) 2++be id 2++be 0 2++be aN 1++be ae 1++be 0 2++be aE 4++be dst 4).length=20:=by simp[Qj,hl2]
 have t8:(p2++be (20+n) 2++be id 2++be 0 2).take 8=p2++be (20+n) 2++be id 2++be 0 2:=List.take_of_length_le (by simp[Qj,hl2]);have hC:=XS c.gl (p2++be (20+n) 2++be id 2++be 0 2++be aN 1++be ae 1++be 0 2++be aE 4++be dst 4) (by rw[hlen];decide);have hL:=yw (p2++be (20+n) 2++be id 2++be 0 2++be aN 1++be ae 1++be 0 2++be aE 4++be dst 4);refine Qa ?_;refine Jx ?_
 (have zC:=(vw c.gl p2 (20+n) 2 aJ af);refine Zv (ip [0]) zC (An @Qj (An @lit @hl2)) ?_;clear zC)
 (have zC:=(vw c.gl (p2++be (20+n) 2) id 2 aJ (by simp[Qj,hl2]));refine Zv (ip [1]) zC (An @Qj @hl2) ?_;clear zC)
 (have zC:=(vw c.gl (p2++be (20+n) 2++be id 2) 0 2 aJ (by simp[Qj,hl2]));refine Zv (ip [2]) zC (An @Qj @hl2) ?_;clear zC)
 refine Ym (An @Qj @hl2) ?_;refine Ym (An @Qj (An @YX (An @hl2 @t8))) ?_
 (have zC:=(vw c.gl (p2++be (20+n) 2++be id 2++be 0 2++be aN 1++be ae 1) 0 2 aJ (by simp[Qj,hl2]));refine Zv (ip [5]) zC (An @Qj @hl2) ?_;clear zC)
 (have zC:=(vw c.gl (p2++be (20+n) 2++be id 2++be 0 2++be aN 1++be ae 1++be 0 2) aE 4 aJ (by simp[Qj,hl2]));refine Zv (ip [6]) zC (An @Qj @hl2) ?_;clear zC)
 (have zC:=(vw c.gl (p2++be (20+n) 2++be id 2++be 0 2++be aN 1++be ae 1++be 0 2++be aE 4) dst 4 aJ (by simp[Qj,hl2]));refine Zv (ip [7]) zC (An @Qj @hl2) ?_;clear zC)
 generalize da:p2++be (20+n) 2++be id 2++be 0 2++be aN 1++be ae 1++be 0 2++be aE 4++be dst 4=row at *
 have t20:row.take 20=row:=List.take_of_length_le af;refine Qk hC (An @t20 @hlen) ?_;refine Qd (An @t20 (An @hlen @JM)) ?_;rw[bA];refine ⟨[(0,8)],?_⟩;refine Qa ?_;unfold Wd;rw[hck]
def YY (aE dst ae n:Int):PS Tryz.prog gl 75 [.int .i64 aE,.int .i64 dst,.int .i64 ae,.int .i64 n] (.str (be aE 4++be dst 4++be ae 2++be n 2)):=by
 refine Xhf.ps (ap rfl) (by simp[Qe]) fun c hN hg=>?_
 conv in aG _ _=>cbv
 refine Qa ?_
 (have zC:=(Xks c.gl aE 4 aJ aJ);refine Zv (ip []) zC @Qj ?_;clear zC)
 (have zC:=(vw c.gl (be aE 4) dst 4 aJ (by simp[Qj]));refine Zv (ip [0]) zC @Qj ?_;clear zC)
 (have zC:=(vw c.gl (be aE 4++be dst 4) ae 2 aJ (by simp[Qj]));refine Zv (ip [1]) zC @Qj ?_;clear zC)
 (have zC:=(vw c.gl (be aE 4++be dst 4++be ae 2) n 2 aJ (by simp[Qj]));exact Ka (ip [2]) zC @Qj)
def Cu (aE dst ae n:Int)(h1:0<=aE/\aE<=4294967295)(h2:0<=dst/\dst<=4294967295)(h3:0<=ae/\ae<=255)(h4:0<=n/\n<=1000000):PS Tryz.prog gl 148 [.int .i64 aE,.int .i64 dst,.int .i64 ae,.int .i64 n] (.str (Xl ae aE dst n)):=by
 refine Xoj.ps (ap rfl) (by simp[Qe]) fun c hN hg=>?_
 conv in aG _ _=>cbv
 refine Qa ?_
 (refine Qb (fun hp=>?_) (fun hp=>?_)<;>try exact hp.elim)
 ·refine Qa ?_;unfold Xl;rw[am hp]
 ·refine Qa ?_
  (have zC:=(Xi c.gl aE 4);refine Qk zC @Qj ?_;clear zC)
  (have zC:=(Xi c.gl dst 4);refine Qk zC @Qj ?_;clear zC)
  (have zC:=(Xi c.gl ae 2);refine Qk zC @Qj ?_;clear zC)
  (have zC:=(Xi c.gl n 2);refine Qk zC @Qj ?_;clear zC)
  unfold Xl;rw[aa hp]
def JN (ae aE dst aN id n:Int)(h1:0<=aE/\aE<=4294967295)(h2:0<=dst/\dst<=4294967295)(h3:0<=ae/\ae<=255)(h4:0<=n/\n<=1000000)(h5:0<=aN/\aN<=255)(h6:0<=id/\id<=65535) :
  PS Tryz.prog gl 143 [.int .i64 ae,.int .i64 aE,.int .i64 dst,.int .i64 aN,.int .i64 id,.int .i64 n] (.str (Wd ae aE dst aN id n)):=by
 refine Xud.ps (ap rfl) (by simp[Qe]) fun c hN hg=>?_
 conv in aG _ _=>cbv
 have hL:=yw (mA ae aN id n++[0,0]++mB aE dst);have hC:=EP c.gl (mA ae aN id n++[0,0]++mB aE dst) (by simp[OM,XY]);have hB:=Xi c.gl (Yh (mA ae aN id n++[0,0]++mB aE dst)) 2 af af aJ;unfold Wd;generalize Yh (mA ae aN id n++[0,0]++mB aE dst)=k at *
 have vz:([69,0]:List UInt8)=[69,0]:=rfl;generalize hA:mA ae aN id n=A at *
 generalize hZ:mB aE dst=Z at *
 unfold mA at hA;unfold mB at hZ;obtain ⟨p2,fe⟩:∃ p2:List UInt8,[69,0]=p2:=⟨_,rfl⟩
 obtain ⟨z2,cE⟩:∃ z2:List UInt8,[0,0]=z2:=⟨_,rfl⟩
 rw[fe,cE]at hA;rw[cE]at hC;clear vz;have l2:p2.length=2:=by rw[<- fe];rfl
 have l0:z2.length=2:=by rw[<- cE];rfl
 have lA:A.length=10:=by rw[<- hA];simp[Qj,l2,l0]
 have lZ:Z.length=8:=by rw[<- hZ];simp[Qj]
 refine Qd (An @fe (An @cE (An @Qj (An @l2 (An @l0 (An @lA @lZ)))))) ?_
 (have zC:=(Xi c.gl (20+n) 2);refine Qk zC (An @fe (An @cE (An @Qj (An @l2 (An @l0 (An @lA @lZ)))))) ?_;clear zC)
 (have zC:=(Xi c.gl id 2);refine Qk zC (An @fe (An @cE (An @Qj (An @l2 (An @l0 (An @lA @lZ)))))) ?_;clear zC)
 (have zC:=(Xi c.gl aN 1);refine Qk zC (An @fe (An @cE (An @Qj (An @l2 (An @l0 (An @lA @lZ)))))) ?_;clear zC)
 (have zC:=(Xi c.gl ae 1);refine Qk zC (An @hA (An @fe (An @cE (An @Qj (An @l2 (An @l0 (An @lA @lZ))))))) ?_;clear zC)
 (have zC:=(Xi c.gl aE 4);refine Qk zC (An @fe (An @cE (An @Qj (An @l2 (An @l0 (An @lA @lZ)))))) ?_;clear zC)
 (have zC:=(Xi c.gl dst 4);refine Qk zC (An @hZ (An @fe (An @cE (An @Qj (An @l2 (An @l0 (An @lA @lZ))))))) ?_;clear zC)
 refine Qk hC (An @fe (An @cE (An @Qj (An @l2 (An @l0 (An @lA @lZ)))))) ?_;exact vi hB (An @fe (An @cE (An @Qj (An @l2 (An @l0 (An @lA @lZ))))))
set_option maxRecDepth 20000 in
def Xcb (aE aj dst av aN id flags seq bB win:Int)(body:List UInt8)(h:Zh (⟨1,aE,aj,dst,av,aN,id,flags,seq,bB,win,body⟩:Pk)=0):PS Tryz.prog gl 162 [.agg (⟨1,aE,aj,dst,av,aN,id,flags,seq,bB,win,body⟩:Pk).enc] (.aR [.str (Zs (⟨1,aE,aj,dst,av,aN,id,flags,seq,bB,win,body⟩:Pk)),.int .i64 0]):=by
 generalize hP:(⟨1,aE,aj,dst,av,aN,id,flags,seq,bB,win,body⟩:Pk)=P at h ⊢;refine O2.ps (ap rfl) (by simp[Qe,ah]) fun c hN hg=>?_
 conv in aG _ _=>cbv
 obtain ⟨_,⟨r1,r2,r3,r4,r5,r6,r7,r8,r9,iz⟩,hbl,_⟩:=We h;rw[<- hP]at r1 r2 r3 r4 r5 r6 r7 r8 r9 iz hbl;dsimp only at r1 r2 r3 r4 r5 r6 r7 r8 r9 iz hbl;have hG:=zV c.gl P (by subst hP;exact ⟨by dsimp only;omega,by dsimp only;omega⟩);rw[h]at hG;clear h;obtain ⟨z2,cE⟩:∃ z:List UInt8,[0,0]=z:=⟨_,rfl⟩
 have l2:z2.length=2:=by rw[<- cE];rfl
 have hA:be flags 1++[0]=Wb P:=by subst hP;unfold Wb;simp
 have hZ:be (aj+av) 2++be seq 2++body=Wg P:=by subst hP;unfold Wg;simp[<- cE]
 have eX:(Wb P).length=2:=by rw[<- hA];simp[Qj]
 have iV:(Wg P).length=4+body.length:=by rw[<- hZ]<;>first|rfl|(simp[Qj,l2];done)|(simp[Qj,l2];omega)
 have bY:Zs P=Wd 1 aE dst aN id (Xm P)++(Wb P++be (mC P) 2++Wg P):=by subst hP;rfl
 have hck:mC P=if (1:Int)=17/\Yh (Xl 1 aE dst (Xm P)++Wb P++[0,0]++Wg P)=0 then 65535 else Yh (Xl 1 aE dst (Xm P)++Wb P++[0,0]++Wg P):=by subst hP;rfl
 have hN:((Xm P:Nat):Int)=2+2+((4+body.length:Nat):Int):=by subst hP;unfold Xm;omega
 have YZ:Xm P<=90:=by subst hP;unfold Xm;omega
 rw[cE]at hck;rw[bY];clear bY;generalize Wb P=A at *
 generalize Wg P=Z at *
 generalize mC P=ck at *
 generalize Xm P=N at *
 have vA:=EP c.gl (Xl 1 aE dst N++A++z2++Z) (by unfold Xl;simp only[length_append];split<;>(try simp[Qj])<;>(try omega));have JO:=yw (Xl 1 aE dst N++A++z2++Z);generalize Yh (Xl 1 aE dst N++A++z2++Z)=K at *
 have kC:(Xl 1 aE dst N).length<=12:=by unfold Xl;split<;>simp[Qj]
 have su:=Cu c.gl aE dst 1 N af af af af;have fP:(Wd 1 aE dst aN id N).length=20:=Co _ _ _ _ _ _;have xq:=JN c.gl 1 aE dst aN id N af af af af af af;generalize Xl 1 aE dst N=X at *
 generalize Wd 1 aE dst aN id N=H at *
 have dM:((2:Int)+2)+(((4+body.length:Nat)):Int)=N:=by omega
 subst hP;unfold Pk.enc at hG ⊢;dsimp only at hG ⊢;refine Qa ?_;refine Xd hG ?_;refine Yc ?_;refine Qa ?_;refine Yc ?_;refine Qd (An @cE (An @Qj (An @l2 (An @hA (An @eX (An @dM (An @hZ @iV))))))) ?_
 (have zC:=(Xi c.gl flags 1);refine Qk zC (An @cE (An @Qj (An @l2 (An @hA (An @eX (An @dM (An @hZ @iV))))))) ?_;clear zC)
 (have zC:=(Xi c.gl (aj+av) 2);refine Qk zC (An @cE (An @Qj (An @l2 (An @hA (An @eX (An @dM (An @hZ @iV))))))) ?_;clear zC)
 (have zC:=(Xi c.gl seq 2);refine Qk zC (An @cE (An @Qj (An @l2 (An @hA (An @eX (An @dM (An @hZ @iV))))))) ?_;clear zC)
 refine Qk su (An @cE (An @Qj (An @l2 (An @hA (An @eX (An @dM (An @hZ @iV))))))) ?_;refine Qk vA (An @cE (An @Qj (An @l2 (An @hA (An @eX (An @dM (An @hZ @iV))))))) ?_;rw[aa af]at hck;subst hck;refine Yc ?_;refine Qd (An @cE (An @Qj (An @l2 (An @hA (An @eX (An @dM (An @hZ @iV))))))) ?_;refine Qk xq (An @cE (An @Qj (An @l2 (An @hA (An @eX (An @dM (An @hZ @iV))))))) ?_
 (have zC:=(Xi c.gl ck 2);refine Qk zC (An @cE (An @Qj (An @l2 (An @hA (An @eX (An @dM (An @hZ @iV))))))) ?_;clear zC)
 simp only[append_assoc]
set_option maxRecDepth 20000 in
def Xha (aE aj dst av aN id flags seq bB win:Int)(body:List UInt8)(h:Zh (⟨17,aE,aj,dst,av,aN,id,flags,seq,bB,win,body⟩:Pk)=0):PS Tryz.prog gl 162 [.agg (⟨17,aE,aj,dst,av,aN,id,flags,seq,bB,win,body⟩:Pk).enc] (.aR [.str (Zs (⟨17,aE,aj,dst,av,aN,id,flags,seq,bB,win,body⟩:Pk)),.int .i64 0]):=by
 generalize hP:(⟨17,aE,aj,dst,av,aN,id,flags,seq,bB,win,body⟩:Pk)=P at h ⊢;refine O2.ps (ap rfl) (by simp[Qe,ah]) fun c hN hg=>?_
 conv in aG _ _=>cbv
 obtain ⟨_,⟨r1,r2,r3,r4,r5,r6,r7,r8,r9,iz⟩,hbl,_⟩:=We h;rw[<- hP]at r1 r2 r3 r4 r5 r6 r7 r8 r9 iz hbl;dsimp only at r1 r2 r3 r4 r5 r6 r7 r8 r9 iz hbl;have hG:=zV c.gl P (by subst hP;exact ⟨by dsimp only;omega,by dsimp only;omega⟩);rw[h]at hG;clear h;obtain ⟨z2,cE⟩:∃ z:List UInt8,[0,0]=z:=⟨_,rfl⟩
 have l2:z2.length=2:=by rw[<- cE];rfl
 have hA:be aj 2++be av 2++be (8+(body.length:Int)) 2=Wb P:=by subst hP;unfold Wb;simp
 have hZ:body=Wg P:=by subst hP;unfold Wg;simp[<- cE]
 have eX:(Wb P).length=6:=by rw[<- hA];simp[Qj]
 have iV:(Wg P).length=body.length:=by rw[<- hZ]<;>first|rfl|(simp[Qj,l2];done)|(simp[Qj,l2];omega)
 have bY:Zs P=Wd 17 aE dst aN id (Xm P)++(Wb P++be (mC P) 2++Wg P):=by subst hP;rfl
 have hck:mC P=if (17:Int)=17/\Yh (Xl 17 aE dst (Xm P)++Wb P++[0,0]++Wg P)=0 then 65535 else Yh (Xl 17 aE dst (Xm P)++Wb P++[0,0]++Wg P):=by subst hP;rfl
 have hN:((Xm P:Nat):Int)=6+2+((body.length:Nat):Int):=by subst hP;unfold Xm;omega
 have YZ:Xm P<=90:=by subst hP;unfold Xm;omega
 rw[cE]at hck;rw[bY];clear bY;generalize Wb P=A at *
 generalize Wg P=Z at *
 generalize mC P=ck at *
 generalize Xm P=N at *
 have vA:=EP c.gl (Xl 17 aE dst N++A++z2++Z) (by unfold Xl;simp only[length_append];split<;>(try simp[Qj])<;>(try omega));have JO:=yw (Xl 17 aE dst N++A++z2++Z);generalize Yh (Xl 17 aE dst N++A++z2++Z)=K at *
 have kC:(Xl 17 aE dst N).length<=12:=by unfold Xl;split<;>simp[Qj]
 have su:=Cu c.gl aE dst 17 N af af af af;have fP:(Wd 17 aE dst aN id N).length=20:=Co _ _ _ _ _ _;have xq:=JN c.gl 17 aE dst aN id N af af af af af af;generalize Xl 17 aE dst N=X at *
 generalize Wd 17 aE dst aN id N=H at *
 have dM:((6:Int)+2)+(((body.length:Nat)):Int)=N:=by omega
 subst hZ;subst hP;unfold Pk.enc at hG ⊢;dsimp only at hG ⊢;refine Qa ?_;refine Xd hG ?_;refine Yc ?_;refine Qa ?_;refine Yc ?_;refine Qd (An @cE (An @Qj (An @l2 (An @hA (An @eX @dM))))) ?_;refine Yc ?_;refine Qd (An @cE (An @Qj (An @l2 (An @hA (An @eX @dM))))) ?_
 (have zC:=(Xi c.gl aj 2);refine Qk zC (An @cE (An @Qj (An @l2 (An @hA (An @eX @dM))))) ?_;clear zC)
 (have zC:=(Xi c.gl av 2);refine Qk zC (An @cE (An @Qj (An @l2 (An @hA (An @eX @dM))))) ?_;clear zC)
 (have zC:=(Xi c.gl (8+(body.length:Int)) 2);refine Qk zC (An @cE (An @Qj (An @l2 (An @hA (An @eX @dM))))) ?_;clear zC)
 refine Qk su (An @cE (An @Qj (An @l2 (An @hA (An @eX @dM))))) ?_;refine Qk vA (An @cE (An @Qj (An @l2 (An @hA (An @eX @dM))))) ?_;by_cases O6:K=0
 ·rw[am ⟨rfl,O6⟩]at hck;have Y0:(ck:Int)=65535:=by omega
  rw[Y0];clear hck Y0 ck;subst O6;refine Yc ?_;refine Qd (An @cE (An @Qj (An @l2 (An @hA (An @eX @dM))))) ?_;refine Qk xq (An @cE (An @Qj (An @l2 (An @hA (An @eX @dM))))) ?_
  (have zC:=(Xi c.gl 65535 2);refine Qk zC (An @cE (An @Qj (An @l2 (An @hA (An @eX @dM))))) ?_;clear zC)
  simp only[append_assoc]
 ·rw[aa fun h=>O6 h.2]at hck;subst hck;have hKb:((ck:Int) == 0)=false:=by simp;omega
  refine Qd @hKb ?_;refine Yc ?_;refine Qd (An @cE (An @Qj (An @l2 (An @hA (An @eX @dM))))) ?_;refine Qk xq (An @cE (An @Qj (An @l2 (An @hA (An @eX @dM))))) ?_
  (have zC:=(Xi c.gl ck 2);refine Qk zC (An @cE (An @Qj (An @l2 (An @hA (An @eX @dM))))) ?_;clear zC)
  simp only[append_assoc]
set_option maxRecDepth 20000 in
def Xk5 (aE aj dst av aN id flags seq bB win:Int)(body:List UInt8)(h:Zh (⟨6,aE,aj,dst,av,aN,id,flags,seq,bB,win,body⟩:Pk)=0):PS Tryz.prog gl 162 [.agg (⟨6,aE,aj,dst,av,aN,id,flags,seq,bB,win,body⟩:Pk).enc] (.aR [.str (Zs (⟨6,aE,aj,dst,av,aN,id,flags,seq,bB,win,body⟩:Pk)),.int .i64 0]):=by
 generalize hP:(⟨6,aE,aj,dst,av,aN,id,flags,seq,bB,win,body⟩:Pk)=P at h ⊢;refine O2.ps (ap rfl) (by simp[Qe,ah]) fun c hN hg=>?_
 conv in aG _ _=>cbv
 obtain ⟨_,⟨r1,r2,r3,r4,r5,r6,r7,r8,r9,iz⟩,hbl,_⟩:=We h;rw[<- hP]at r1 r2 r3 r4 r5 r6 r7 r8 r9 iz hbl;dsimp only at r1 r2 r3 r4 r5 r6 r7 r8 r9 iz hbl;have hG:=zV c.gl P (by subst hP;exact ⟨by dsimp only;omega,by dsimp only;omega⟩);rw[h]at hG;clear h;obtain ⟨z2,cE⟩:∃ z:List UInt8,[0,0]=z:=⟨_,rfl⟩
 have l2:z2.length=2:=by rw[<- cE];rfl
 have hA:be aj 2++be av 2++be seq 4++be bB 4++[80]++be flags 1++be win 2=Wb P:=by subst hP;unfold Wb;simp
 have hZ:z2++body=Wg P:=by subst hP;unfold Wg;simp[<- cE]
 have eX:(Wb P).length=16:=by rw[<- hA];simp[Qj]
 have iV:(Wg P).length=2+body.length:=by rw[<- hZ]<;>first|rfl|(simp[Qj,l2];done)|(simp[Qj,l2];omega)
 have bY:Zs P=Wd 6 aE dst aN id (Xm P)++(Wb P++be (mC P) 2++Wg P):=by subst hP;rfl
 have hck:mC P=if (6:Int)=17/\Yh (Xl 6 aE dst (Xm P)++Wb P++[0,0]++Wg P)=0 then 65535 else Yh (Xl 6 aE dst (Xm P)++Wb P++[0,0]++Wg P):=by subst hP;rfl
 have hN:((Xm P:Nat):Int)=16+2+((2+body.length:Nat):Int):=by subst hP;unfold Xm;omega
 have YZ:Xm P<=90:=by subst hP;unfold Xm;omega
 rw[cE]at hck;rw[bY];clear bY;generalize Wb P=A at *
 generalize Wg P=Z at *
 generalize mC P=ck at *
 generalize Xm P=N at *
 have vA:=EP c.gl (Xl 6 aE dst N++A++z2++Z) (by unfold Xl;simp only[length_append];split<;>(try simp[Qj])<;>(try omega));have JO:=yw (Xl 6 aE dst N++A++z2++Z);generalize Yh (Xl 6 aE dst N++A++z2++Z)=K at *
 have kC:(Xl 6 aE dst N).length<=12:=by unfold Xl;split<;>simp[Qj]
 have su:=Cu c.gl aE dst 6 N af af af af;have fP:(Wd 6 aE dst aN id N).length=20:=Co _ _ _ _ _ _;have xq:=JN c.gl 6 aE dst aN id N af af af af af af;generalize Xl 6 aE dst N=X at *
 generalize Wd 6 aE dst aN id N=H at *
 have dM:((16:Int)+2)+(((2+body.length:Nat)):Int)=N:=by omega
 subst hP;unfold Pk.enc at hG ⊢;dsimp only at hG ⊢;refine Qa ?_;refine Xd hG ?_;refine Yc ?_;refine Qa ?_;refine Yc ?_;refine Qd (An @cE (An @Qj (An @l2 (An @hA (An @eX (An @dM (An @hZ @iV))))))) ?_;refine Yc ?_;refine Qd (An @cE (An @Qj (An @l2 (An @hA (An @eX (An @dM (An @hZ @iV))))))) ?_
 (have zC:=(Xi c.gl aj 2);refine Qk zC (An @cE (An @Qj (An @l2 (An @hA (An @eX (An @dM (An @hZ @iV))))))) ?_;clear zC)
 (have zC:=(Xi c.gl av 2);refine Qk zC (An @cE (An @Qj (An @l2 (An @hA (An @eX (An @dM (An @hZ @iV))))))) ?_;clear zC)
 (have zC:=(Xi c.gl seq 4);refine Qk zC (An @cE (An @Qj (An @l2 (An @hA (An @eX (An @dM (An @hZ @iV))))))) ?_;clear zC)
 (have zC:=(Xi c.gl bB 4);refine Qk zC (An @cE (An @Qj (An @l2 (An @hA (An @eX (An @dM (An @hZ @iV))))))) ?_;clear zC)
 (have zC:=(Xi c.gl flags 1);refine Qk zC (An @cE (An @Qj (An @l2 (An @hA (An @eX (An @dM (An @hZ @iV))))))) ?_;clear zC)
 (have zC:=(Xi c.gl win 2);refine Qk zC (An @cE (An @Qj (An @l2 (An @hA (An @eX (An @dM (An @hZ @iV))))))) ?_;clear zC)
 refine Qk su (An @cE (An @Qj (An @l2 (An @hA (An @eX (An @dM (An @hZ @iV))))))) ?_;refine Qk vA (An @cE (An @Qj (An @l2 (An @hA (An @eX (An @dM (An @hZ @iV))))))) ?_;rw[aa af]at hck;subst hck;refine Yc ?_;refine Qd (An @cE (An @Qj (An @l2 (An @hA (An @eX (An @dM (An @hZ @iV))))))) ?_;refine Qk xq (An @cE (An @Qj (An @l2 (An @hA (An @eX (An @dM (An @hZ @iV))))))) ?_
 (have zC:=(Xi c.gl ck 2);refine Qk zC (An @cE (An @Qj (An @l2 (An @hA (An @eX (An @dM (An @hZ @iV))))))) ?_;clear zC)
 simp only[append_assoc]
def G1 (f:List UInt8):Prop:=f.length<20\/b1 f 0≠69\/w2 f 2≠f.length
def G2 (f:List UInt8):Prop:=dD (f.take 20)≠65535
def G3 (f:List UInt8):Prop:=b1 f 1≠0\/w2 f 6≠0
def G4 (f:List UInt8):Prop:=b1 f 8=0
def G5 (f:List UInt8):Prop:=¬ (b1 f 9=1\/b1 f 9=6\/b1 f 9=17)
def G6 (f:List UInt8):Prop:=(f.drop 20).length<(if b1 f 9=6 then 20 else 8)
def G7 (f:List UInt8):Prop:=dD (Xl (b1 f 9) (w4 f 12) (w4 f 16) (f.drop 20).length++f.drop 20)≠65535\/(b1 f 9=17/\w2 (f.drop 20) 6=0)
def G8 (f:List UInt8):Prop:=b1 f 9=1/\((b1 (f.drop 20) 0≠8/\b1 (f.drop 20) 0≠0)\/b1 (f.drop 20) 1≠0)
def G9 (f:List UInt8):Prop:=b1 f 9=17/\w2 (f.drop 20) 4≠(f.drop 20).length
def nu (f:List UInt8):Prop:=b1 f 9=6/\(b1 (f.drop 20) 12≠80\/63<b1 (f.drop 20) 13\/w2 (f.drop 20) 18≠0)
def xr (h:G1 f):cD f=1:=am h
def JP (h1:¬ G1 f)(h:G2 f):cD f=3:=(aa h1).trans (am h)
def EY (h1:¬ G1 f)(h2:¬ G2 f)(h:G3 f):cD f=4:=(aa h1).trans ((aa h2).trans (am h))
def JQ (h1:¬ G1 f)(h2:¬ G2 f)(h3:¬ G3 f)(h:G4 f):cD f=12:=(aa h1).trans ((aa h2).trans ((aa h3).trans (am h)))
structure H4 (f:List UInt8):Prop where
 g1:¬ G1 f
 g2:¬ G2 f
 g3:¬ G3 f
 g4:¬ G4 f
def JR (k:H4 f)(h:G5 f):cD f=4:=(aa k.g1).trans ((aa k.g2).trans ((aa k.g3).trans ((aa k.g4).trans (am h))))
def xt (k:H4 f)(h5:¬ G5 f)(h:G6 f):cD f=1:=(aa k.g1).trans ((aa k.g2).trans ((aa k.g3).trans ((aa k.g4).trans ((aa h5).trans (am h)))))
structure H6 (f:List UInt8):Prop where
 g:H4 f
 g5:¬ G5 f
 g6:¬ G6 f
def vB (k:H6 f)(h:G7 f):cD f=3:=(aa k.g.g1).trans ((aa k.g.g2).trans ((aa k.g.g3).trans ((aa k.g.g4).trans ((aa k.g5).trans ((aa k.g6).trans (am h))))))
def Cv (k:H6 f)(h7:¬ G7 f)(h:G8 f):cD f=4:=(aa k.g.g1).trans ((aa k.g.g2).trans ((aa k.g.g3).trans ((aa k.g.g4).trans ((aa k.g5).trans ((aa k.g6).trans ((aa h7).trans (am h)))))))
def JS (k:H6 f)(h7:¬ G7 f)(h8:¬ G8 f)(h:G9 f):cD f=1:=(aa k.g.g1).trans ((aa k.g.g2).trans ((aa k.g.g3).trans ((aa k.g.g4).trans ((aa k.g5).trans ((aa k.g6).trans ((aa h7).trans ((aa h8).trans (am h))))))))
def Cw (k:H6 f)(h7:¬ G7 f)(h8:¬ G8 f)(h9:¬ G9 f)(h:nu f):cD f=4:=(aa k.g.g1).trans ((aa k.g.g2).trans ((aa k.g.g3).trans ((aa k.g.g4).trans ((aa k.g5).trans ((aa k.g6).trans ((aa h7).trans ((aa h8).trans ((aa h9).trans (am h)))))))))
def vC (k:H6 f)(h7:¬ G7 f)(h8:¬ G8 f)(h9:¬ G9 f)(fI:¬ nu f):cD f=Zh (aB f):=(aa k.g.g1).trans ((aa k.g.g2).trans ((aa k.g.g3).trans ((aa k.g.g4).trans ((aa k.g5).trans ((aa k.g6).trans ((aa h7).trans ((aa h8).trans ((aa h9).trans (aa fI)))))))))
theorem Qg:((l.getD k 0).toNat:Int)=b1 l k:=rfl
def Wa:0<=b1 l k/\b1 l k<=255:=by unfold b1;have:=UInt8.toNat_lt (l.getD k 0);omega
def Cy (h:k+2<=l.length):0<=w2 l k/\w2 l k<=65535:=by unfold w2;have:=Ye7 _ (TA l k 2 h);omega
def Cz (h:k+4<=l.length):0<=w4 l k/\w4 l k<=4294967295:=by unfold w4;have:=Ygw _ (TA l k 4 h);omega
def lI:PS Tryz.prog gl 73 [.str ((l.drop k).take 2)] (.int .i64 (w2 l k)):=YO gl _ (by rw[length_take];omega)
def JT:PS Tryz.prog gl 73 [.str ((l.drop k).take 4)] (.int .i64 (w4 l k)):=YO gl _ (by rw[length_take];omega)
def sv:PS Tryz.prog gl 146 [.str ((l.drop k).take 2)] (.int .i64 (w2 l k)):=YP gl _ (by rw[length_take];omega)
def JU:PS Tryz.prog gl 146 [.str ((l.drop k).take 4)] (.int .i64 (w4 l k)):=YP gl _ (by rw[length_take];omega)
def Qy {l:List UInt8}  (h:cD l=e)(he:e≠0):pn l=.aR [.agg cX.enc,.int .i64 e]:=by
 unfold pn;rw[aa af,h]
def O7 {l:List UInt8}(h:cD l=0):pn l=.aR [.agg (aB l).enc,.int .i64 0]:=by
 unfold pn;rw[am h]
def Y1:Qe 0 (pn l):=by
 unfold pn;split<;>simp[Qe,ah,Pk.enc]
def xu {l:List UInt8}   (h:cD l=e)(hp:aB l=p):pn l=if e=0 then .aR [.agg p.enc,.int .i64 0] else .aR [.agg cX.enc,.int .i64 e]:=by
 unfold pn;rw[h,hp]
set_option maxRecDepth 20000 in
def JV (hl:l.length<=140737488351232):PS Tryz.prog gl 34 [.str l] (pn l):=by
 refine Xsv.ps (ap rfl) (Y1 l) fun c hN hg=>?_
 conv in aG _ _=>cbv
 have c0:=Wa l 0;have c1:=Wa l 1;have c8:=Wa l 8;have c9:=Wa l 9;by_cases h1:l.length<20
 ·have d1:decide ((l.length:Int) < 20)=true:=by simp;omega
  refine Qd @d1 ?_;refine jw @d1 ?_;refine Yc ?_;rw[Qy (xr (.inl h1)) aJ];refine Qd @Qg ?_;exact Ka (ip []) (Kj c.gl 1) (An @gZ.eq_1 (An @cX.eq_1 (An @Pk.enc.eq_1 @Qg)))
 have d1:decide ((l.length:Int)<20)=false:=by simp;omega
 by_cases h2:b1 l 0=69;rotate_left
 ·have O8:(b1 l 0 != 69)=true:=by simp[h2]
  refine Qd (An @Qg (An @O8 @d1)) ?_;refine jw @d1 ?_;refine Yc ?_;rw[Qy (xr (.inr (.inl h2))) aJ];refine Qd @Qg ?_;exact Ka (ip []) (Kj c.gl 1) (An @gZ.eq_1 (An @cX.eq_1 (An @Pk.enc.eq_1 @Qg)))
 refine Qd (An @Qg (An @h2 @d1)) ?_
 (have zC:=(lI c.gl l 2);refine Qk zC (An @Qg @h2) ?_;clear zC)
 refine Qb ?_ ?_<;>intro h3
 ·rw[Qy (xr (.inr (.inr h3))) aJ];refine Qd @Qg ?_;exact Ka (ip []) (Kj c.gl 1) (An @gZ.eq_1 (An @cX.eq_1 (An @Pk.enc.eq_1 @Qg)))
 have k1:¬ G1 l:=by unfold G1;omega
 refine Qa ?_
 (have zC:=(EO c.gl (l.take 20) (by rw[length_take];omega));refine Xd zC ?_;clear zC)
 refine Qb ?_ ?_<;>intro h4
 ·rw[Qy (JP k1 (by unfold G2;omega)) aJ];refine Qd @Qg ?_;exact Ka (ip []) (Kj c.gl 3) (An @gZ.eq_1 (An @cX.eq_1 (An @Pk.enc.eq_1 @Qg)))
 have k2:¬ G2 l:=by unfold G2;omega
 by_cases h5:b1 l 1=0;rotate_left
 ·have h5b:(b1 l 1 != 0)=true:=by simp[h5]
  refine Qd (An @Qg @h5b) ?_;refine Xy ?_;refine Yc ?_;rw[Qy (EY k1 k2 (.inl h5)) aJ];refine Qd @Qg ?_;exact Ka (ip []) (Kj c.gl 4) (An @gZ.eq_1 (An @cX.eq_1 (An @Pk.enc.eq_1 @Qg)))
 refine Qd (An @Qg @h5) ?_
 (have zC:=(lI c.gl l 6);refine Qk zC (An @Qg @h5) ?_;clear zC)
 refine Qb ?_ ?_<;>intro h6
 ·rw[Qy (EY k1 k2 (.inr h6)) aJ];refine Qd @Qg ?_;exact Ka (ip []) (Kj c.gl 4) (An @gZ.eq_1 (An @cX.eq_1 (An @Pk.enc.eq_1 @Qg)))
 have k3:¬ G3 l:=by unfold G3;omega
 refine Qd @Qg ?_
 (have zC:=(JT c.gl l 12);refine Qk zC @Qg ?_;clear zC)
 (have zC:=(JT c.gl l 16);refine Qk zC @Qg ?_;clear zC)
 (have zC:=(lI c.gl l 4);refine Qk zC @Qg ?_;clear zC)
 refine Qb ?_ ?_<;>intro h7
 ·rw[Qy (JQ k1 k2 k3 h7) aJ];refine Qd @Qg ?_;exact Ka (ip []) (Kj c.gl 12) (An @gZ.eq_1 (An @cX.eq_1 (An @Pk.enc.eq_1 @Qg)))
 have K:H4 l:=⟨k1,k2,k3,h7⟩
 clear k1 k2 k3;have e4:0<=w4 l 12/\w4 l 12<=4294967295:=Cz _ _ af;have e5:0<=w4 l 16/\w4 l 16<=4294967295:=Cz _ _ af;have cC:=YN c.gl (b1 l 9);by_cases h8:b1 l 9=1\/b1 l 9=6\/b1 l 9=17;rotate_left
 ·have hz:po (b1 l 9)=.aR [.int .i64 0,.int .i64 0]:=by unfold po;rw[aa af,aa af,aa af]
  rw[hz]at cC;refine Qa ?_;refine Xd cC ?_;refine Yc ?_;rw[Qy (JR K h8) aJ];refine Qd @Qg ?_;exact Ka (ip []) (Kj c.gl 4) (An @gZ.eq_1 (An @cX.eq_1 (An @Pk.enc.eq_1 @Qg)))
 have k5:¬ G5 l:=fun h=>h h8;generalize hs:l.drop 20=s;have iW:s.length=l.length-20:=by rw[<- hs,List.length_drop]
 have f0:=Wa s 0;have f1:=Wa s 1;have f12:=Wa s 12;have f13:=Wa s 13;rcases h8 with h9|h9|h9
 ·have hz:po (b1 l 9)=.aR [.int .i64 8,.int .i64 2]:=by rw[h9];rfl
  rw[hz,h9]at cC;rw[h9];clear hz;refine Qd @hs ?_;refine Xd cC ?_;refine Yc ?_;refine Qa ?_;refine Qb ?_ ?_<;>intro fI
  ·rw[Qy (xt K k5 (by unfold G6;rw[hs,h9];simp;omega)) aJ];refine Qd @Qg ?_;exact Ka (ip []) (Kj c.gl 1) (An @gZ.eq_1 (An @cX.eq_1 (An @Pk.enc.eq_1 @Qg)))
  have K6:H6 l:=⟨K,k5,by unfold G6;rw[hs,h9];simp;omega⟩
  clear K k5;have hO:=EO c.gl s af;have kV:G7 l ↔ dD s≠65535:=by unfold G7;rw[hs,h9];simp[Xl]
  generalize dD s=O at *
  refine Qa ?_;refine Yc ?_;refine Qa ?_;have k7:¬ G7 l\/(G7 l/\O≠65535):=by by_cases h:O=65535<;>simp[kV,h]
  refine Xd hO ?_;by_cases iD:O=65535;rotate_left
  ·have d2:((O:Int) != 65535)=true:=by simp;omega
   refine Qd @d2 ?_;refine jw @d2 ?_;refine Yc ?_;rw[Qy (vB K6 (kV.2 iD)) aJ];refine Qd @Qg ?_;exact Ka (ip []) (Kj c.gl 3) (An @gZ.eq_1 (An @cX.eq_1 (An @Pk.enc.eq_1 @Qg)))
  have d2:((O:Int) != 65535)=false:=by simp;omega
  have k7:¬ G7 l:=fun h=>kV.1 h iD;refine Qd @d2 ?_;refine jw @d2 ?_;refine Yc ?_;refine Qd @Qg ?_;have k9:¬ G9 l:=fun h=>by have:=h.1;omega
  have jC:¬ nu l:=fun h=>by have:=h.1;omega
  refine Yc ?_;refine Qd @Qg ?_
  (have zC:=(lI c.gl s 6);refine Qk zC @Qg ?_;clear zC)
  by_cases f8:b1 s 0=8
  ·have k8:G8 l ↔ b1 s 1≠0:=by unfold G8;rw[hs,h9];simp[f8]
   rw[f8];refine Qd (An @Qg @f8) ?_;refine Qb ?_ ?_<;>intro fk
   ·rw[Qy (Cv K6 k7 (k8.2 fk)) aJ];refine Qd @Qg ?_;exact Ka (ip []) (Kj c.gl 4) (An @gZ.eq_1 (An @cX.eq_1 (An @Pk.enc.eq_1 @Qg)))
   have k8:¬ G8 l:=fun h=>k8.1 h fk;refine Qd @Qg ?_;refine Yc ?_;refine Qd @Qg ?_
   (have zC:=(lI c.gl s 4);refine Qk zC @Qg ?_;clear zC)
   have hP:aB l=(⟨1,w4 l 12,w2 s 4,w4 l 16,0,b1 l 8,w2 l 4,8,w2 s 6,0,0,s.drop 8⟩:Pk):=by unfold aB kT;simp only[hs,h9,reduceCtorEq,Int.reduceEq,if_true,if_false,↓reduceIte,f8]
   have hG:=JL c.gl (⟨1,w4 l 12,w2 s 4,w4 l 16,0,b1 l 8,w2 l 4,8,w2 s 6,0,0,s.drop 8⟩:Pk);have hE:=vC K6 k7 k8 k9 jC;rw[hP]at hE;unfold Pk.enc at hG;dsimp only at hG;rw[xu _ hE hP];generalize Zh (⟨1,w4 l 12,w2 s 4,w4 l 16,0,b1 l 8,w2 l 4,8,w2 s 6,0,0,s.drop 8⟩:Pk)=E at *
   clear hP hE;unfold Pk.enc cX;refine Qd @Qg ?_;refine Qk hG @Qg ?_;refine Qb ?_ ?_<;>intro g9
   ·rw[aa g9];refine Qd @Qg ?_;exact Ka (ip []) (Kj c.gl E) (An @gZ.eq_1 (An @cX.eq_1 (An @Pk.enc.eq_1 @Qg)))
   ·rw[am g9];subst g9;exact Qi @Qg
  ·have f8b:(b1 s 0 != 8)=true:=by simp[f8]
   have f8c:(b1 s 0==8)=false:=by simp[f8]
   by_cases CA:b1 s 0=0
   ·have k8:G8 l ↔ b1 s 1≠0:=by unfold G8;rw[hs,h9];simp[CA]
    rw[CA];refine Qd (An @Qg @CA) ?_;refine Qb ?_ ?_<;>intro fk
    ·rw[Qy (Cv K6 k7 (k8.2 fk)) aJ];refine Qd @Qg ?_;exact Ka (ip []) (Kj c.gl 4) (An @gZ.eq_1 (An @cX.eq_1 (An @Pk.enc.eq_1 @Qg)))
    have k8:¬ G8 l:=fun h=>k8.1 h fk;refine Qd @Qg ?_;refine Yc ?_;refine Qd @Qg ?_
    (have zC:=(lI c.gl s 4);refine Qk zC @Qg ?_;clear zC)
    have hP:aB l=(⟨1,w4 l 12,0,w4 l 16,w2 s 4,b1 l 8,w2 l 4,0,w2 s 6,0,0,s.drop 8⟩:Pk):=by unfold aB kT;simp only[hs,h9,reduceCtorEq,Int.reduceEq,if_true,if_false,↓reduceIte,CA]
    have hG:=JL c.gl (⟨1,w4 l 12,0,w4 l 16,w2 s 4,b1 l 8,w2 l 4,0,w2 s 6,0,0,s.drop 8⟩:Pk);have hE:=vC K6 k7 k8 k9 jC;rw[hP]at hE;unfold Pk.enc at hG;dsimp only at hG;rw[xu _ hE hP];generalize Zh (⟨1,w4 l 12,0,w4 l 16,w2 s 4,b1 l 8,w2 l 4,0,w2 s 6,0,0,s.drop 8⟩:Pk)=E at *
    clear hP hE;unfold Pk.enc cX;refine Qd @Qg ?_;refine Qk hG @Qg ?_;refine Qb ?_ ?_<;>intro g9
    ·rw[aa g9];refine Qd @Qg ?_;exact Ka (ip []) (Kj c.gl E) (An @gZ.eq_1 (An @cX.eq_1 (An @Pk.enc.eq_1 @Qg)))
    ·rw[am g9];subst g9;exact Qi @Qg
   ·have f0b:(b1 s 0 != 0)=true:=by simp[CA]
    refine Qd (An @Qg (An @f8b @f0b)) ?_;refine Yc ?_;rw[Qy (Cv K6 k7 (show G8 l by unfold G8;rw[hs];exact ⟨h9,.inl ⟨f8,CA⟩⟩)) aJ];refine Qd @Qg ?_;exact Ka (ip []) (Kj c.gl 4) (An @gZ.eq_1 (An @cX.eq_1 (An @Pk.enc.eq_1 @Qg)))
 ·have hz:po (b1 l 9)=.aR [.int .i64 20,.int .i64 16]:=by rw[h9];rfl
  rw[hz,h9]at cC;rw[h9];clear hz;refine Qd @hs ?_;refine Xd cC ?_;refine Yc ?_;refine Qa ?_;refine Qb ?_ ?_<;>intro fI
  ·rw[Qy (xt K k5 (by unfold G6;rw[hs,h9];simp;omega)) aJ];refine Qd @Qg ?_;exact Ka (ip []) (Kj c.gl 1) (An @gZ.eq_1 (An @cX.eq_1 (An @Pk.enc.eq_1 @Qg)))
  have K6:H6 l:=⟨K,k5,by unfold G6;rw[hs,h9];simp;omega⟩
  clear K k5;have bX:be (w4 l 12) 4++be (w4 l 16) 4++be 6 2++be (s.length:Int) 2=Xl 6 (w4 l 12) (w4 l 16) s.length:=rfl;have kC:(Xl 6 (w4 l 12) (w4 l 16) s.length).length=12:=by rw[<- bX];simp[Qj]
  have hO:=EO c.gl (Xl 6 (w4 l 12) (w4 l 16) s.length++s) (by rw[length_append];omega);have ef:=YY c.gl (w4 l 12) (w4 l 16) 6 (s.length:Int);rw[bX]at ef;have kV:G7 l ↔ dD (Xl 6 (w4 l 12) (w4 l 16) s.length++s)≠65535:=by unfold G7;rw[hs,h9];simp
  clear bX;generalize dD (Xl 6 (w4 l 12) (w4 l 16) s.length++s)=O at *
  generalize Xl 6 (w4 l 12) (w4 l 16) s.length=pre at *
  refine Qa ?_;refine Yc ?_;refine Qa ?_;refine Qk ef @kC ?_;refine Xd hO ?_;by_cases iD:O=65535;rotate_left
  ·have d2:((O:Int) != 65535)=true:=by simp;omega
   refine Qd @d2 ?_;refine jw @d2 ?_;refine Yc ?_;rw[Qy (vB K6 (kV.2 iD)) aJ];refine Qd @Qg ?_;exact Ka (ip []) (Kj c.gl 3) (An @gZ.eq_1 (An @cX.eq_1 (An @Pk.enc.eq_1 @Qg)))
  have d2:((O:Int) != 65535)=false:=by simp;omega
  refine Qd @d2 ?_;refine jw @d2 ?_;refine Yc ?_;have k7:¬ G7 l:=fun h=>kV.1 h iD;have k8:¬ G8 l:=fun h=>by have:=h.1;omega
  have k9:¬ G9 l:=fun h=>by have:=h.1;omega
  have od:nu l ↔ b1 s 12≠80\/63<b1 s 13\/w2 s 18≠0:=by unfold nu;rw[hs,h9];simp
  refine Qd @Qg ?_;refine Yc ?_;refine Qd @Qg ?_;refine Yc ?_;refine Qd @Qg ?_;refine Yc ?_;refine Qd @Qg ?_
  (have zC:=(lI c.gl s 0);refine Qk zC (An @Qg @drop_zero.{0}) ?_;clear zC)
  (have zC:=(lI c.gl s 2);refine Qk zC @Qg ?_;clear zC)
  (have zC:=(JT c.gl s 4);refine Qk zC @Qg ?_;clear zC)
  (have zC:=(JT c.gl s 8);refine Qk zC @Qg ?_;clear zC)
  (have zC:=(lI c.gl s 14);refine Qk zC @Qg ?_;clear zC)
  by_cases og:b1 s 12=80;rotate_left
  ·have d3:(b1 s 12 != 80)=true:=by simp[og]
   refine Qd (An @Qg @d3) ?_;refine jw @d3 ?_;refine Yc ?_;rw[Qy (Cw K6 k7 k8 k9 (od.2 (.inl og))) aJ];refine Qd @Qg ?_;exact Ka (ip []) (Kj c.gl 4) (An @gZ.eq_1 (An @cX.eq_1 (An @Pk.enc.eq_1 @Qg)))
  by_cases Y2:63<b1 s 13
  ·have d3:decide (63 < b1 s 13)=true:=by simp[Y2]
   refine Qd (An @Qg (An @og @d3)) ?_;refine jw @d3 ?_;refine Yc ?_;rw[Qy (Cw K6 k7 k8 k9 (od.2 (.inr (.inl Y2)))) aJ];refine Qd @Qg ?_;exact Ka (ip []) (Kj c.gl 4) (An @gZ.eq_1 (An @cX.eq_1 (An @Pk.enc.eq_1 @Qg)))
  have d3:decide (63<b1 s 13)=false:=by simp;omega
  refine Qd (An @Qg (An @og @d3)) ?_
  (have zC:=(lI c.gl s 18);refine Qk zC (An @Qg (An @og @d3)) ?_;clear zC)
  refine Qb ?_ ?_<;>intro Y3
  ·rw[Qy (Cw K6 k7 k8 k9 (od.2 (.inr (.inr Y3)))) aJ];refine Qd @Qg ?_;exact Ka (ip []) (Kj c.gl 4) (An @gZ.eq_1 (An @cX.eq_1 (An @Pk.enc.eq_1 @Qg)))
  have jC:¬ nu l:=fun h=>by have:=od.1 h;omega
  have hP:aB l=(⟨6,w4 l 12,w2 s 0,w4 l 16,w2 s 2,b1 l 8,w2 l 4,b1 s 13,w4 s 4,w4 s 8,w2 s 14,s.drop 20⟩:Pk):=by unfold aB kT;simp only[hs,h9,reduceCtorEq,Int.reduceEq,if_true,if_false,↓reduceIte]
  have hG:=JL c.gl (⟨6,w4 l 12,w2 s 0,w4 l 16,w2 s 2,b1 l 8,w2 l 4,b1 s 13,w4 s 4,w4 s 8,w2 s 14,s.drop 20⟩:Pk);have hE:=vC K6 k7 k8 k9 jC;rw[hP]at hE;unfold Pk.enc at hG;dsimp only at hG;rw[xu _ hE hP];generalize Zh (⟨6,w4 l 12,w2 s 0,w4 l 16,w2 s 2,b1 l 8,w2 l 4,b1 s 13,w4 s 4,w4 s 8,w2 s 14,s.drop 20⟩:Pk)=E at *
  clear hP hE;unfold Pk.enc cX;refine Qd @Qg ?_;refine Qk hG @Qg ?_;refine Qb ?_ ?_<;>intro g9
  ·rw[aa g9];refine Qd @Qg ?_;exact Ka (ip []) (Kj c.gl E) (An @gZ.eq_1 (An @cX.eq_1 (An @Pk.enc.eq_1 @Qg)))
  ·rw[am g9];subst g9;exact Qi @Qg
 ·have hz:po (b1 l 9)=.aR [.int .i64 8,.int .i64 6]:=by rw[h9];rfl
  rw[hz,h9]at cC;rw[h9];clear hz;refine Qd @hs ?_;refine Xd cC ?_;refine Yc ?_;refine Qa ?_;refine Qb ?_ ?_<;>intro fI
  ·rw[Qy (xt K k5 (by unfold G6;rw[hs,h9];simp;omega)) aJ];refine Qd @Qg ?_;exact Ka (ip []) (Kj c.gl 1) (An @gZ.eq_1 (An @cX.eq_1 (An @Pk.enc.eq_1 @Qg)))
  have K6:H6 l:=⟨K,k5,by unfold G6;rw[hs,h9];simp;omega⟩
  clear K k5;have bX:be (w4 l 12) 4++be (w4 l 16) 4++be 17 2++be (s.length:Int) 2=Xl 17 (w4 l 12) (w4 l 16) s.length:=rfl;have kC:(Xl 17 (w4 l 12) (w4 l 16) s.length).length=12:=by rw[<- bX];simp[Qj]
  have hO:=EO c.gl (Xl 17 (w4 l 12) (w4 l 16) s.length++s) (by rw[length_append];omega);have ef:=YY c.gl (w4 l 12) (w4 l 16) 17 (s.length:Int);rw[bX]at ef;have kV:G7 l ↔ dD (Xl 17 (w4 l 12) (w4 l 16) s.length++s)≠65535\/w2 s 6=0:=by unfold G7;rw[hs,h9];simp
  clear bX;generalize dD (Xl 17 (w4 l 12) (w4 l 16) s.length++s)=O at *
  generalize Xl 17 (w4 l 12) (w4 l 16) s.length=pre at *
  refine Qa ?_;refine Yc ?_;refine Qa ?_;refine Qk ef @kC ?_;refine Xd hO ?_;by_cases iD:O=65535;rotate_left
  ·have d2:((O:Int) != 65535)=true:=by simp;omega
   refine Qd @d2 ?_;refine jw @d2 ?_;refine Yc ?_;rw[Qy (vB K6 (kV.2 (.inl iD))) aJ];refine Qd @Qg ?_;exact Ka (ip []) (Kj c.gl 3) (An @gZ.eq_1 (An @cX.eq_1 (An @Pk.enc.eq_1 @Qg)))
  have d2:((O:Int) != 65535)=false:=by simp;omega
  refine Qd @d2 ?_
  (have zC:=(lI c.gl s 6);refine Qk zC @d2 ?_;clear zC)
  refine Qb ?_ ?_<;>intro fk
  ·rw[Qy (vB K6 (kV.2 (.inr fk))) aJ];refine Qd @Qg ?_;exact Ka (ip []) (Kj c.gl 3) (An @gZ.eq_1 (An @cX.eq_1 (An @Pk.enc.eq_1 @Qg)))
  have k7:¬ G7 l:=fun h=>by have:=kV.1 h;omega
  have k8:¬ G8 l:=fun h=>by have:=h.1;omega
  have jC:¬ nu l:=fun h=>by have:=h.1;omega
  have EZ:G9 l ↔ w2 s 4≠s.length:=by unfold G9;rw[hs,h9];simp
  refine Qd @Qg ?_;refine Yc ?_;refine Qd @Qg ?_;refine Yc ?_;refine Qd @Qg ?_
  (have zC:=(lI c.gl s 0);refine Qk zC (An @Qg @drop_zero.{0}) ?_;clear zC)
  (have zC:=(lI c.gl s 2);refine Qk zC @Qg ?_;clear zC)
  (have zC:=(lI c.gl s 4);refine Qk zC @Qg ?_;clear zC)
  refine Qb ?_ ?_<;>intro og
  ·rw[Qy (JS K6 k7 k8 (EZ.2 og)) aJ];refine Qd @Qg ?_;exact Ka (ip []) (Kj c.gl 1) (An @gZ.eq_1 (An @cX.eq_1 (An @Pk.enc.eq_1 @Qg)))
  have k9:¬ G9 l:=fun h=>EZ.1 h og;have hP:aB l=(⟨17,w4 l 12,w2 s 0,w4 l 16,w2 s 2,b1 l 8,w2 l 4,0,0,0,0,s.drop 8⟩:Pk):=by unfold aB kT;simp only[hs,h9,reduceCtorEq,Int.reduceEq,if_true,if_false,↓reduceIte]
  have hG:=JL c.gl (⟨17,w4 l 12,w2 s 0,w4 l 16,w2 s 2,b1 l 8,w2 l 4,0,0,0,0,s.drop 8⟩:Pk);have hE:=vC K6 k7 k8 k9 jC;rw[hP]at hE;unfold Pk.enc at hG;dsimp only at hG;rw[xu _ hE hP];generalize Zh (⟨17,w4 l 12,w2 s 0,w4 l 16,w2 s 2,b1 l 8,w2 l 4,0,0,0,0,s.drop 8⟩:Pk)=E at *
  clear hP hE;unfold Pk.enc cX;refine Qd @Qg ?_;refine Qk hG @Qg ?_;refine Qb ?_ ?_<;>intro g9
  ·rw[aa g9];refine Qd @Qg ?_;exact Ka (ip []) (Kj c.gl E) (An @gZ.eq_1 (An @cX.eq_1 (An @Pk.enc.eq_1 @Qg)))
  ·rw[am g9];subst g9;exact Qi @Qg
end Go.Proofs.YtogckmommodmhaaGreatDoor
