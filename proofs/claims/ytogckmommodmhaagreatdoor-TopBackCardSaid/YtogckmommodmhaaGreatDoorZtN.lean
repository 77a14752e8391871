import Derived.Test.YtogckmommodmhaaGreatDoorZt1
import Derived.Test.YtogckmommodmhaaGreatDoorZt8
import Derived.Test.YtogckmommodmhaaGreatDoorZt5
import Derived.WalkKit
import Derived.WalkSpells
import Derived.WalkLawsBesides
import Derived.BigQuiet
import Derived.Lib.Hide
set_option maxHeartbeats 16000000
namespace Go.Proofs.YtogckmommodmhaaGreatDoor
open Go.RowKit
set_option linter.all false
set_option linter.unusedSimpArgs false
set_option maxRecDepth 100000
theorem Xzx (l:List UInt8):∀ v,iF v l=v * 256 ^ l.length + iF 0 l:=by
 induction l with
 | nil=>intro v;simp[iF]
 | cons c l ih =>
  intro v
  simp only[iF]
  rw[ih,ih (256 * 0 + c.toNat),List.length_cons,Nat.pow_succ,Nat.add_mul,Nat.mul_zero,Nat.zero_add,Nat.mul_comm 256 v,Nat.mul_assoc,Nat.mul_comm 256]
  omega
theorem V3 (v:Nat):∀ n,n≤8→iF 0 (be v n)=v % 256 ^ n
 | 0,_=>by simp[be,iF,Nat.mod_one]
 | n + 1,h=>by
  simp only[be,iF]
  rw[Xzx,Qi,V3 v n af,Pa v n af,Nat.mul_zero,Nat.zero_add]
  have:=Nat.mod_mul (x:=v) (a:=256 ^ n) (b:=256)
  rw[← Nat.pow_succ]at this
  rw[this,Nat.mul_comm (256 ^ n)]
  omega
theorem Xln (v c:Int):IntKind.i64.wrap (256 * IntKind.i64.wrap v + c)=IntKind.i64.wrap (256 * v + c):=by
 rw[IntKind.wrap_i64,IntKind.wrap_i64,IntKind.wrap_i64];omega
theorem Xw8 (l:List UInt8):∀ v:Nat,td (IntKind.i64.wrap v) l=IntKind.i64.wrap (iF v l):=by
 induction l with
 | nil=>intro v;rfl
 | cons c l ih =>
  intro v
  show td (IntKind.i64.wrap (256 * IntKind.i64.wrap v + c.toNat)) l=_
  rw[Xln]
  have e:(256 * (v:Int) + (c.toNat:Int))=((256 * v + c.toNat:Nat):Int):=by omega
  rw[e];exact ih _
theorem Xrt (l:List UInt8):gQ l=IntKind.i64.wrap (iF 0 l):=by
 have h0:IntKind.i64.wrap ((0:Nat):Int)=0:=by rw[IntKind.wrap_i64];decide
 rw[← Xw8,h0];rfl
theorem V4 (v:Int) (n:Nat) (h:n≤8) (h0:0≤v) (h1:v < 256 ^ n) (h2:v < 9223372036854775808):gQ (be v n)=v:=by
 obtain ⟨m,rfl⟩:=Int.eq_ofNat_of_zero_le h0
 have pz:m < 256 ^ n:=by
  have e:((256:Int) ^ n)=((256 ^ n:Nat):Int):=by rw[Int.natCast_pow];rfl
  rw[e]at h1;omega
 rw[Xrt,V3 m n h,Nat.mod_eq_of_lt pz,IntKind.wrap_i64]
 omega
theorem rQ (v:Int) (h0:0≤v) (h1:v≤65535):gQ [Qg v 1,Qg v 0]=v:=V4 v 2 (by decide) h0 (by omega) (by omega)
theorem Ie (v:Int) (h0:0≤v) (h1:v≤4294967295):gQ [Qg v 3,Qg v 2,Qg v 1,Qg v 0]=v:=V4 v 4 (by decide) h0 (by omega) (by omega)
theorem Yex (v:Int) (h0:0≤v) (h1:v≤65535) (l:List UInt8):Xn (Qg v 1::Qg v 0::l)=v.toNat + Xn l:=by
 have e1:=Ly v 1 af h0
 have e0:=Ly v 0 af h0
 simp only[Xn]
 omega
theorem V5 (X Z:List UInt8) (v:Int) (hX:X.length % 2=0) (h0:0≤v) (h1:v≤65535):Xn (X++be v 2++Z)=Xn X + v.toNat + Xn Z:=by
 rw[List.append_assoc,BN _ _ hX]
 show Xn X + Xn (Qg v 1::Qg v 0::Z)=_
 rw[Yex v h0 h1];omega
theorem Ya9 (X Z:List UInt8) (hX:X.length % 2=0):Xn (X++[0,0]++Z)=Xn X + Xn Z:=by
 rw[List.append_assoc,BN _ _ hX]
 simp[Xn]
theorem Xv9 (T:Nat):Jg (T + (65535 - Jg T))=65535:=by
 unfold Jg;split<;>split<;>omega
theorem Oy (X Z:List UInt8) (hX:X.length % 2=0):cj (X++be (Zd (X++[0,0]++Z)) 2++Z)=65535:=by
 have hl:=wI (X++[0,0]++Z)
 unfold cj
 rw[V5 X Z _ hX af af]
 unfold Zd cj
 rw[Ya9 X Z hX,Int.toNat_natCast]
 have:=Xv9 (Xn X + Xn Z)
 rw[show Xn X + (65535 - Jg (Xn X + Xn Z)) + Xn Z=Xn X + Xn Z + (65535 - Jg (Xn X + Xn Z)) by omega]
 exact this
theorem V6 (ae aA dst av id n:Int):cj (Uo ae aA dst av id n)=65535:=Oy _ _ (by rw[Lz])
theorem Xdf (ae aA dst av id n:Int):∃ c:Int,Uo ae aA dst av id n=[69,0,Qg (20 + n) 1,Qg (20 + n) 0,Qg id 1,Qg id 0,0,0,Qg av 0,Qg ae 0,Qg c 1,Qg c 0,
  Qg aA 3,Qg aA 2,Qg aA 1,Qg aA 0,Qg dst 3,Qg dst 2,Qg dst 1,Qg dst 0]:=⟨_,rfl⟩
theorem Ye3 (p:Pk):gK p≤65535:=by
 unfold gK;split
 ·omega
 ·exact wI _
theorem Xq4 (p:Pk):(Um p).length % 2=0:=by
 unfold Um;split
 ·simp[Qi]
 ·split<;>simp[Qi]
theorem Xqk (a b c d:Int):(Yy a b c d).length % 2=0:=by
 unfold Yy;split<;>simp[Qi]
theorem V7 (p:Pk):(jo p).length=Xt p:=by simp[jo,Xt,Qi];omega
theorem Xyy (p:Pk):cj (Yy p.ae p.aA p.dst (Xt p)++jo p)=65535:=by
 have hX:(Yy p.ae p.aA p.dst (Xt p)++Um p).length % 2=0:=by
  have:=Xq4 p;have:=Xqk p.ae p.aA p.dst (Xt p)
  rw[List.length_append];omega
 have hk:=Oy (Yy p.ae p.aA p.dst (Xt p)++Um p) (jQ p) hX
 unfold jo gK
 rw[← List.append_assoc,← List.append_assoc]
 split
 ·rename_i h
  rw[h.2]at hk
  unfold cj at hk ⊢
  rw[V5 _ _ _ hX af af]at hk ⊢
  generalize Xn (Yy p.ae p.aA p.dst (Xt p)++Um p)=a at *
  generalize Xn (jQ p)=b at *
  unfold Jg at hk ⊢
  split at hk
  ·cases hk
  ·split<;>omega
 ·exact hk
theorem Oz (p:Pk):(Xl p).length=20 + Xt p:=by simp[Xl,Jb,V7]
theorem Qzf (p:Pk):(Xl p).take 20=Uo p.ae p.aA p.dst p.av p.id (Xt p):=List.take_left' (Jb _ _ _ _ _ _)
theorem Qzj (p:Pk):(Xl p).drop 20=jo p:=List.drop_left' (Jb _ _ _ _ _ _)
theorem Jj (p:Pk) (h:p.ae=1∨p.ae=6∨p.ae=17):Xt p=(if p.ae=6 then 20 else 8) + p.body.length:=by
 unfold Xt Um jQ
 rcases h with h|h|h<;>simp[h,Qi]<;>omega
theorem Xrr (ae aA dst av id n:Int) (t:List UInt8) (h1:0≤ae∧ae < 256) (h2:0≤aA∧aA≤4294967295) (h3:0≤dst∧dst≤4294967295) (h4:0≤av∧av < 256) (h5:0≤id∧id≤65535) (h6:0≤n∧n≤65515) :
  let f:=Uo ae aA dst av id n++t
  b1 f 0=69∧b1 f 1=0∧w2 f 2=20 + n∧w2 f 4=id∧w2 f 6=0∧b1 f 8=av∧b1 f 9=ae∧w4 f 12=aA∧w4 f 16=dst:=by
 intro f
 obtain ⟨c,hc⟩:=Xdf ae aA dst av id n
 show b1 f 0=69∧_
 have hf:f=[69,0,Qg (20 + n) 1,Qg (20 + n) 0,Qg id 1,Qg id 0,0,0,Qg av 0,Qg ae 0,Qg c 1,Qg c 0,
  Qg aA 3,Qg aA 2,Qg aA 1,Qg aA 0,Qg dst 3,Qg dst 2,Qg dst 1,Qg dst 0]++t:=by rw[← hc]
 clear_value f
 subst hf
 exact ⟨rfl,rfl,rQ _ af af,rQ _ h5.1 h5.2,rfl,xK _ h4.1 h4.2,xK _ h1.1 h1.2,Ie _ h2.1 h2.2,Ie _ h3.1 h3.2⟩
theorem Xcv (p:Pk) (hr:Ji p) (hp:p.ae=1∨p.ae=6∨p.ae=17) (hl:p.body.length≤64) (t:List UInt8) :
  let f:=Uo p.ae p.aA p.dst p.av p.id (Xt p)++t
  b1 f 0=69∧b1 f 1=0∧w2 f 2=20 + Xt p∧w2 f 4=p.id∧w2 f 6=0∧b1 f 8=p.av∧b1 f 9=p.ae∧w4 f 12=p.aA∧w4 f 16=p.dst:=by
 obtain ⟨r1,r2,r3,r4,r5,r6,r7,r8,r9,ic⟩:=hr
 have hN:=Jj p hp
 have pC:Xt p≤84:=by rw[hN];split<;>omega
 exact Xrr _ _ _ _ _ _ t af r1 r2 af r7 af
theorem OA (p:Pk) (h:Yr p=0):bP (Xl p)=0∧az (Xl p)=p:=by
 obtain ⟨hp,hr,hl,hf⟩:=Wb h
 obtain ⟨g0,g1,g2,g4,g6,g8,g9,g12,g16⟩:=Xcv p hr hp hl (jo p)
 have hN:=Jj p hp
 have hB:=Oz p
 have hT:=Qzf p
 have hD:=Qzj p
 have hO:=V6 p.ae p.aA p.dst p.av p.id (Xt p)
 have hS:=Xyy p
 have hK:=Ye3 p
 have Oh:=V7 p
 change b1 (Xl p) 0=69 at g0
 change b1 (Xl p) 1=0 at g1
 change w2 (Xl p) 2=_ at g2
 change w2 (Xl p) 4=_ at g4
 change w2 (Xl p) 6=_ at g6
 change b1 (Xl p) 8=_ at g8
 change b1 (Xl p) 9=_ at g9
 change w4 (Xl p) 12=_ at g12
 change w4 (Xl p) 16=_ at g16
 generalize hF:Xl p=F at *
 have V8:=hr
 obtain ⟨r1,r2,r3,r4,r5,r6,r7,r8,r9,ic⟩:=hr
 have hKK:az F=p∧(p.ae=1→b1 (jo p) 1=0)∧(p.ae=17→w2 (jo p) 4=Xt p∧w2 (jo p) 6≠0)∧(p.ae=6→b1 (jo p) 12=80∧b1 (jo p) 13≤63∧w2 (jo p) 18=0)∧(p.ae=1→b1 (jo p) 0=8∨b1 (jo p) 0=0):=by
  unfold az mc
  rw[hD,g9,g12,g16,g8,g4]
  rcases p with ⟨ae,aA,ah,dst,aj,av,id,flags,seq,aL,win,body⟩
  dsimp only at *
  unfold Wd at hf
  dsimp only at hf
  rcases hp with rfl|rfl|rfl
  ·obtain ⟨c,hc⟩:∃ c:Int,jo ⟨1,aA,ah,dst,aj,av,id,flags,seq,aL,win,body⟩=[Qg flags 0,0,Qg c 1,Qg c 0,Qg (ah + aj) 1,Qg (ah + aj) 0,Qg seq 1,Qg seq 0]++body:=⟨_,rfl⟩
   rw[hc]
   have f1:aL=0∧win=0∧(flags=8∧aj=0∨flags=0∧ah=0)∧seq≤65535:=by omega
   obtain ⟨rfl,rfl,f2,f3⟩:=f1
   have e0:b1 ([Qg flags 0,0,Qg c 1,Qg c 0,Qg (ah + aj) 1,Qg (ah + aj) 0,Qg seq 1,Qg seq 0]++body) 0=flags:=xK _ af af
   have e1:w2 ([Qg flags 0,0,Qg c 1,Qg c 0,Qg (ah + aj) 1,Qg (ah + aj) 0,Qg seq 1,Qg seq 0]++body) 4=ah + aj:=rQ _ af af
   have e2:w2 ([Qg flags 0,0,Qg c 1,Qg c 0,Qg (ah + aj) 1,Qg (ah + aj) 0,Qg seq 1,Qg seq 0]++body) 6=seq:=rQ _ af af
   rw[e0,e1,e2]
   refine ⟨?_,fun _=>rfl,fun h=>by omega,fun h=>by omega,fun _=>by omega⟩
   rw[if_pos rfl]
   rcases f2 with ⟨rfl,rfl⟩|⟨rfl,rfl⟩<;>simp
  ·obtain ⟨c,hc⟩:∃ c:Int,jo ⟨6,aA,ah,dst,aj,av,id,flags,seq,aL,win,body⟩=[Qg ah 1,Qg ah 0,Qg aj 1,Qg aj 0,Qg seq 3,Qg seq 2,Qg seq 1,Qg seq 0,Qg aL 3,Qg aL 2,Qg aL 1,Qg aL 0,80,Qg flags 0,Qg win 1,Qg win 0,Qg c 1,Qg c 0,0,0]++body:=⟨_,rfl⟩
   rw[hc]
   refine ⟨?_,fun h=>by omega,fun h=>by omega,fun _=>⟨rfl,?_,rfl⟩,fun h=>by omega⟩
   ·rw[if_neg aR,if_neg aR]
    have e1:∀ t:List UInt8,w2 ([Qg ah 1,Qg ah 0,Qg aj 1,Qg aj 0,Qg seq 3,Qg seq 2,Qg seq 1,Qg seq 0,Qg aL 3,Qg aL 2,Qg aL 1,Qg aL 0,80,Qg flags 0,Qg win 1,Qg win 0,Qg c 1,Qg c 0,0,0]++t) 0=ah:=fun t=>rQ _ af af
    have e2:∀ t:List UInt8,w2 ([Qg ah 1,Qg ah 0,Qg aj 1,Qg aj 0,Qg seq 3,Qg seq 2,Qg seq 1,Qg seq 0,Qg aL 3,Qg aL 2,Qg aL 1,Qg aL 0,80,Qg flags 0,Qg win 1,Qg win 0,Qg c 1,Qg c 0,0,0]++t) 2=aj:=fun t=>rQ _ af af
    have e3:∀ t:List UInt8,w4 ([Qg ah 1,Qg ah 0,Qg aj 1,Qg aj 0,Qg seq 3,Qg seq 2,Qg seq 1,Qg seq 0,Qg aL 3,Qg aL 2,Qg aL 1,Qg aL 0,80,Qg flags 0,Qg win 1,Qg win 0,Qg c 1,Qg c 0,0,0]++t) 4=seq:=fun t=>Ie _ af af
    have e4:∀ t:List UInt8,w4 ([Qg ah 1,Qg ah 0,Qg aj 1,Qg aj 0,Qg seq 3,Qg seq 2,Qg seq 1,Qg seq 0,Qg aL 3,Qg aL 2,Qg aL 1,Qg aL 0,80,Qg flags 0,Qg win 1,Qg win 0,Qg c 1,Qg c 0,0,0]++t) 8=aL:=fun t=>Ie _ af af
    have e5:∀ t:List UInt8,w2 ([Qg ah 1,Qg ah 0,Qg aj 1,Qg aj 0,Qg seq 3,Qg seq 2,Qg seq 1,Qg seq 0,Qg aL 3,Qg aL 2,Qg aL 1,Qg aL 0,80,Qg flags 0,Qg win 1,Qg win 0,Qg c 1,Qg c 0,0,0]++t) 14=win:=fun t=>rQ _ af af
    have e6:∀ t:List UInt8,b1 ([Qg ah 1,Qg ah 0,Qg aj 1,Qg aj 0,Qg seq 3,Qg seq 2,Qg seq 1,Qg seq 0,Qg aL 3,Qg aL 2,Qg aL 1,Qg aL 0,80,Qg flags 0,Qg win 1,Qg win 0,Qg c 1,Qg c 0,0,0]++t) 13=flags:=fun t=>xK _ af af
    rw[e1,e2,e3,e4,e5,e6]
    rfl
   ·have:b1 ([Qg ah 1,Qg ah 0,Qg aj 1,Qg aj 0,Qg seq 3,Qg seq 2,Qg seq 1,Qg seq 0,Qg aL 3,Qg aL 2,Qg aL 1,Qg aL 0,80,Qg flags 0,Qg win 1,Qg win 0,Qg c 1,Qg c 0,0,0]++body) 13=flags:=xK _ af af
    rw[this];omega
  ·have hc:jo ⟨17,aA,ah,dst,aj,av,id,flags,seq,aL,win,body⟩=[Qg ah 1,Qg ah 0,Qg aj 1,Qg aj 0,Qg (8 + body.length) 1,Qg (8 + body.length) 0,Qg (gK ⟨17,aA,ah,dst,aj,av,id,flags,seq,aL,win,body⟩) 1,Qg (gK ⟨17,aA,ah,dst,aj,av,id,flags,seq,aL,win,body⟩) 0]++body:=rfl
   have jw:gK ⟨17,aA,ah,dst,aj,av,id,flags,seq,aL,win,body⟩≠0:=by
    unfold gK;split
    ·decide
    ·rename_i hh
     intro h0;exact hh ⟨rfl,h0⟩
   rw[hc]
   generalize gK ⟨17,aA,ah,dst,aj,av,id,flags,seq,aL,win,body⟩=c at *
   have f1:aL=0∧win=0∧seq=0∧flags=0:=by omega
   obtain ⟨rfl,rfl,rfl,rfl⟩:=f1
   refine ⟨?_,fun h=>by omega,fun _=>⟨?_,?_⟩,fun h=>by omega,fun h=>by omega⟩
   ·rw[if_neg aR,if_pos rfl]
    have e1:∀ t:List UInt8,w2 ([Qg ah 1,Qg ah 0,Qg aj 1,Qg aj 0,Qg (8 + body.length) 1,Qg (8 + body.length) 0,Qg c 1,Qg c 0]++t) 0=ah:=fun t=>rQ _ af af
    have e2:∀ t:List UInt8,w2 ([Qg ah 1,Qg ah 0,Qg aj 1,Qg aj 0,Qg (8 + body.length) 1,Qg (8 + body.length) 0,Qg c 1,Qg c 0]++t) 2=aj:=fun t=>rQ _ af af
    rw[e1,e2]
    rfl
   ·have e1:∀ t:List UInt8,w2 ([Qg ah 1,Qg ah 0,Qg aj 1,Qg aj 0,Qg (8 + body.length) 1,Qg (8 + body.length) 0,Qg c 1,Qg c 0]++t) 4=8 + body.length:=fun t=>rQ _ af af
    rw[e1,hN]
    simp
   ·have e1:∀ t:List UInt8,w2 ([Qg ah 1,Qg ah 0,Qg aj 1,Qg aj 0,Qg (8 + body.length) 1,Qg (8 + body.length) 0,Qg c 1,Qg c 0]++t) 6=c:=fun t=>rQ _ af af
    rw[e1];omega
 obtain ⟨k1,k2,k3,k4,k5⟩:=hKK
 refine ⟨?_,k1⟩
 unfold bP
 rw[k1,h,hD,hT,g0,g1,g2,g6,g8,g9,g12,g16,hO]
 dsimp only
 rw[Oh,hS]
 have hlen:F.length=20 + Xt p:=hB
 rw[if_neg af,if_neg af,if_neg af,if_neg af,if_neg af]
 rw[if_neg (by rcases hp with h1|h1|h1<;>simp[h1]at hN ⊢<;>omega)]
 rw[if_neg (fun hh=>hh.elim (fun h1=>h1 rfl) fun h1=>(k3 h1.1).2 h1.2)]
 rw[if_neg (by rintro ⟨h1,h2⟩;have:=k2 h1;have:=k5 h1;omega)]
 rw[if_neg (by rintro ⟨h1,h2⟩;exact h2 (by rw[(k3 h1).1])),if_neg (by rintro ⟨h1,h2⟩;have:=k4 h1;omega)]
theorem Yek {f:List UInt8} (h:bP f=0):cj (f.take 20)=65535∧cj (Yy (b1 f 9) (w4 f 12) (w4 f 16) (f.drop 20).length++f.drop 20)=65535:=by
 unfold bP at h
 dsimp only at h
 generalize (if b1 f 9=6 then 20 else 8)=kk at h
 split at h
 ·cases h
 split at h
 ·cases h
 split at h
 ·cases h
 split at h
 ·cases h
 split at h
 ·cases h
 split at h
 ·cases h
 split at h
 ·cases h
 rename_i h1 h2 h3 h4 h5 h6 h7
 exact ⟨Decidable.not_not.1 h2,Decidable.not_not.1 fun hh=>h7 (Or.inl hh)⟩
theorem Xxj (f:List UInt8) (h:28≤f.length):(xL f).length=36:=by simp[xL,Qi];omega
theorem Yaw (f:List UInt8):cj (xL f)=65535:=Oy [3,13] _ (by decide)
theorem V9 (f:List UInt8) (aA id:Int) (h:28≤f.length):(kC f aA id).length=56:=by simp[kC,Jb,Xxj f h]
theorem WA (v:Int):gQ [Qg v 1,Qg v 0]=v % 65536:=by
 have e1:(Qg v 1).toNat=((v / 256) % 256).toNat:=by
  rw[wH _ _ af]
  simp only[UInt8.toNat_ofNat',Nat.reducePow,Int.pow_one]
  omega
 have e0:(Qg v 0).toNat=(v % 256).toNat:=by
  rw[wH _ _ af]
  simp only[UInt8.toNat_ofNat',Nat.reducePow,Int.pow_zero,Int.ediv_one]
  omega
 rw[tg _ au]
 simp only[iF]
 omega
theorem lY (t:List UInt8):∀ (ws:List Int) (k:Nat),k < ws.length→w2 (fr ws t) (2 * k)=ws.getD k 0 % 65536
 | [],_,h=>by simp at h
 | w::ws,0,_=>WA w
 | w::ws,k + 1,h=>by
  have e:w2 (fr (w::ws) t) (2 * (k + 1))=w2 (fr ws t) (2 * k):=rfl
  rw[e,lY t ws k (by simpa using h)]
  simp
theorem uU (t:List UInt8) (n:Int):∀ (ws:List Int) (k:Nat),k < ws.length→Wg (fr ws t) (2 * k) n=fr (ws.set k n) t
 | [],_,h=>by simp at h
 | w::ws,0,_=>rfl
 | w::ws,k + 1,h=>by
  have:=uU t n ws k (by simpa using h)
  have e:Wg (fr (w::ws) t) (2 * (k + 1)) n=Qg w 1::Qg w 0::Wg (fr ws t) (2 * k) n:=rfl
  rw[e,this];rfl
theorem Xmq (c m n:Int):Qb (c % 65536) m n=Qb c m n:=by
 unfold Qb
 rw[Int.emod_emod_of_dvd _ (Int.dvd_refl _)]
theorem Xjn (c m n:Int):Qb c (m % 65536) n=Qb c m n:=by
 unfold Qb
 rw[Int.emod_emod_of_dvd _ (Int.dvd_refl _)]
theorem uV (ws:List Int) (t:List UInt8) (k:Nat) (m n:Int) (h:k < ws.length):Kh (fr ws t) (2 * k) m n=fr (ws.set k (Qb (ws.getD k 0) m n)) t:=by
 unfold Kh
 rw[lY t ws k h,Xmq,uU _ _ _ _ h]
theorem Zl (ws:List Int) (t:List UInt8) (k c:Nat) (n:Int) (hk:k < ws.length) (hc:c < ws.length):Ql (fr ws t) (2 * k) (2 * c) n=fr ((ws.set c (Qb (ws.getD c 0) (ws.getD k 0) n)).set k n) t:=by
 unfold Ql
 rw[lY t ws k hk,uV _ _ _ _ _ hc,Xjn,uU _ _ _ _ (by simpa using hk)]
theorem za (t:List UInt8):∀ (ws:List Int) (k:Nat),k≤ws.length→(fr ws t).drop (2 * k)=fr (ws.drop k) t
 | _,0,_=>rfl
 | [],k + 1,h=>by simp at h
 | w::ws,k + 1,h=>by
  have:=za t ws k (by simpa using h)
  show (fr ws t).drop (2 * k)=_
  rw[this];rfl
def Xd:List Int→Int
 | []=>0
 | w::ws=>w % 65536 + Xd ws
theorem Ig:∀ ws,0≤Xd ws
 | []=>Int.le_refl _
 | w::ws=>by have:=Ig ws;simp only[Xd];omega
theorem wv (t:List UInt8):∀ ws:List Int,(Xn (fr ws t):Int)=Xd ws + Xn t
 | []=>by simp[fr,Xd]
 | w::ws=>by
  have ih:=wv t ws
  have hw:=WA w
  rw[tg _ au]at hw
  simp only[iF]at hw
  simp only[fr,Xn,Xd]
  omega
def cH (T:Int):Int:=65535 - (Jg T.toNat:Nat)
theorem sW (T:Int):0≤cH T∧cH T≤65535:=by
 unfold cH;have:=zw T.toNat;omega
theorem sX (T:Int) (h:0 < T):cH T≤65534∧(cH T + T) % 65535=0:=by
 unfold cH Jg;rw[if_neg af];omega
theorem Ih:cH 0=65535:=rfl
theorem EU (c m n:Int) (hc:0≤c∧c≤65535) (hm:0≤m∧m≤65535) (hn:0≤n∧n≤65535):Qb c m n=cH (131070 - c - m + n):=by
 unfold Qb cH pj
 have h1:(((65535 - c % 65536) % 65536).toNat + ((65535 - m % 65536) % 65536).toNat)=(131070 - c - m).toNat:=by omega
 have h2:((Jg (131070 - c - m).toNat:Nat):Int) % 65536=(Jg (131070 - c - m).toNat:Nat):=by
  have:=zw (131070 - c - m).toNat;omega
 have h3:(n % 65536).toNat=n.toNat:=by omega
 rw[h1,h2,h3,Int.toNat_natCast,IC,← Int.toNat_add af af]
theorem Ii (S T:Int) (hS:0 < S) (hT:0 < T) (h:(S - T) % 65535=0):cH S=cH T:=by
 have:=sX S hS;have:=sX T hT;have:=sW S;have:=sW T;omega
theorem OB (T m n:Int) (h0:0 < T) (hm:0≤m∧m≤65535) (hn:0≤n∧n≤65535) (hp:0 < T - m + n):Qb (cH T) m n=cH (T - m + n):=by
 have h1:=sX T h0;have h2:=sW T
 rw[EU _ _ _ h2 hm hn]
 exact Ii _ _ af hp af
def lZ (c T:Int):Prop:=0≤c∧c≤65535∧(c + T) % 65535=0
theorem zb (c T m n:Int) (h:lZ c T) (hm:0≤m∧m≤65535) (hn:0≤n∧n≤65535):lZ (Qb c m n) (T - m + n):=by
 obtain ⟨h1,h2,h3⟩:=h
 have hb:=Dj c m n
 refine ⟨hb.1,hb.2,?_⟩
 rw[EU _ _ _ ⟨h1,h2⟩ hm hn]
 by_cases h0:131070 - c - m + n=0
 ·rw[h0,Ih];omega
 ·have:=sX (131070 - c - m + n) af;omega
def gI (p:Pk) (n c:Int):List Int:=[17664,20 + n,p.id,0,p.av * 256 + p.ae,c,p.aA / 65536,p.aA % 65536,p.dst / 65536,p.dst % 65536]
def jd (p:Pk) (c:Int):List Int :=
 if p.ae=1 then [p.flags * 256,c,p.ah + p.aj,p.seq]
 else if p.ae=17 then [p.ah,p.aj,8 + p.body.length,c]
 else [p.ah,p.aj,p.seq / 65536,p.seq % 65536,p.aL / 65536,p.aL % 65536,80 * 256 + p.flags,p.win,c,0]
theorem mj (v:Int) (t:List UInt8):be v 2++t=fr [v] t:=rfl
theorem BA (v w:Int) (k j:Nat) (hk:k≤8) (hj:j≤8) (h:v / 256 ^ k % 256=w / 256 ^ j % 256):Qg v k=Qg w j:=by
 rw[wH _ _ hk,wH _ _ hj,h]
theorem BB (v:Int) (t:List UInt8):be v 4++t=fr [v / 65536,v % 65536] t:=by
 show Qg v 3::Qg v 2::Qg v 1::Qg v 0::t=Qg (v / 65536) 1::Qg (v / 65536) 0::Qg (v % 65536) 1::Qg (v % 65536) 0::t
 rw[BA v (v / 65536) 3 1 af af af,BA v (v / 65536) 2 0 af af af,BA v (v % 65536) 1 1 af af af,BA v (v % 65536) 0 0 af af af]
theorem OC (v w:Int) (hw:0≤w∧w < 256) (t:List UInt8):be v 1++(be w 1++t)=fr [v * 256 + w] t:=by
 show Qg v 0::Qg w 0::t=Qg (v * 256 + w) 1::Qg (v * 256 + w) 0::t
 rw[BA v (v * 256 + w) 0 1 af af af,BA w (v * 256 + w) 0 0 af af af]
theorem zc (a b:List Int) (t:List UInt8):fr a (fr b t)=fr (a++b) t:=by
 induction a with
 | nil=>rfl
 | cons w a ih=>simp only[List.cons_append,fr,ih]
theorem WB (p:Pk) (n c:Int) (hp:0≤p.ae∧p.ae < 256) (t:List UInt8):qG p.ae p.av p.id n++be c 2++qH p.aA p.dst++t=fr (gI p n c) t:=by
 unfold qG qH
 have e0:∀ t,[(69:UInt8),0]++t=fr [17664] t:=fun t=>by
  show (69:UInt8)::0::t=Qg 17664 1::Qg 17664 0::t
  rw[show Qg 17664 1=69 by decide,show Qg 17664 0=0 by decide]
 have e1:∀ t,[(0:UInt8),0]++t=fr [0] t:=fun t=>by
  show (0:UInt8)::0::t=Qg 0 1::Qg 0 0::t
  rw[show Qg 0 1=0 by decide,show Qg 0 0=0 by decide]
 simp only[List.append_assoc]
 rw[BB p.dst,BB p.aA,mj c,OC _ _ hp,e1,mj p.id,mj (20 + n),e0]
 simp only[zc]
 rfl
theorem WC (p:Pk) (hp:p.ae=1∨p.ae=6∨p.ae=17) (hf:0≤p.flags∧p.flags < 256) (c:Int):Um p++be c 2++jQ p=fr (jd p c) p.body:=by
 unfold Um jQ jd
 rcases hp with h|h|h
 ·simp only[h,if_true]
  have e:∀ t,be p.flags 1++([0]++t)=fr [p.flags * 256] t:=fun t=>by
   have:=OC p.flags 0 af t
   rw[Int.add_zero]at this
   rw[← this];rfl
  simp only[List.append_assoc]
  rw[mj p.seq,mj (p.ah + p.aj),mj c,e]
  simp only[zc];rfl
 ·have h1:¬ p.ae=1:=by omega
  have h2:¬ p.ae=17:=by omega
  simp only[h1,h2,if_false]
  have e:∀ t,[80]++(be p.flags 1++t)=fr [80 * 256 + p.flags] t:=fun t=>by
   rw[← OC 80 p.flags hf t];rfl
  have e1:∀ t,[(0:UInt8),0]++t=fr [0] t:=fun t=>by
   show (0:UInt8)::0::t=Qg 0 1::Qg 0 0::t
   rw[show Qg 0 1=0 by decide,show Qg 0 0=0 by decide]
  simp only[List.append_assoc]
  rw[e1,mj c,mj p.win,e,BB p.aL,BB p.seq,mj p.aj,mj p.ah]
  simp only[zc];rfl
 ·have h1:¬ (17:Int)=1:=by omega
  simp only[h1,h,if_false,if_true]
  simp only[List.append_assoc]
  rw[mj c,mj (8 + (p.body.length:Int)),mj p.aj,mj p.ah]
  simp only[zc];rfl
theorem OD (h0 h1 h2 h3 h4 h5 h6 h7 h8 h9 s0 s1 s2 s3 av addr port:Int) (t:List UInt8):Yn (fr [h0,h1,h2,h3,h4,h5,h6,h7,h8,h9,s0,s1,s2,s3] t) 1 av 12 24 addr port=fr [h0,h1,h2,h3,((av - 1) * 256 + 1),(Qb (Qb (Qb h5 h6 (addr / 65536)) h7 (addr % 65536)) h4 ((av - 1) * 256 + 1)),(addr / 65536),(addr % 65536),h8,h9,s0,(if (Qb s1 s2 port) % 65536=0∧cj (fr [s0,(Qb s1 s2 port),port,s3] t)=0 then 65535 else (Qb s1 s2 port)),port,s3] t:=by
 have e0:Ql (fr [h0,h1,h2,h3,h4,h5,h6,h7,h8,h9,s0,s1,s2,s3] t) 12 10 (addr / 65536)=fr [h0,h1,h2,h3,h4,(Qb h5 h6 (addr / 65536)),(addr / 65536),h7,h8,h9,s0,s1,s2,s3] t:=Zl [h0,h1,h2,h3,h4,h5,h6,h7,h8,h9,s0,s1,s2,s3] t 6 5 (addr / 65536) au au
 have e1:Ql (fr [h0,h1,h2,h3,h4,(Qb h5 h6 (addr / 65536)),(addr / 65536),h7,h8,h9,s0,s1,s2,s3] t) 14 10 (addr % 65536)=fr [h0,h1,h2,h3,h4,(Qb (Qb h5 h6 (addr / 65536)) h7 (addr % 65536)),(addr / 65536),(addr % 65536),h8,h9,s0,s1,s2,s3] t:=Zl [h0,h1,h2,h3,h4,(Qb h5 h6 (addr / 65536)),(addr / 65536),h7,h8,h9,s0,s1,s2,s3] t 7 5 (addr % 65536) au au
 have e2:Ql (fr [h0,h1,h2,h3,h4,(Qb (Qb h5 h6 (addr / 65536)) h7 (addr % 65536)),(addr / 65536),(addr % 65536),h8,h9,s0,s1,s2,s3] t) 8 10 ((av - 1) * 256 + 1)=fr [h0,h1,h2,h3,((av - 1) * 256 + 1),(Qb (Qb (Qb h5 h6 (addr / 65536)) h7 (addr % 65536)) h4 ((av - 1) * 256 + 1)),(addr / 65536),(addr % 65536),h8,h9,s0,s1,s2,s3] t:=Zl [h0,h1,h2,h3,h4,(Qb (Qb h5 h6 (addr / 65536)) h7 (addr % 65536)),(addr / 65536),(addr % 65536),h8,h9,s0,s1,s2,s3] t 4 5 ((av - 1) * 256 + 1) au au
 have e3:Ql (fr [h0,h1,h2,h3,((av - 1) * 256 + 1),(Qb (Qb (Qb h5 h6 (addr / 65536)) h7 (addr % 65536)) h4 ((av - 1) * 256 + 1)),(addr / 65536),(addr % 65536),h8,h9,s0,s1,s2,s3] t) 24 22 port=fr [h0,h1,h2,h3,((av - 1) * 256 + 1),(Qb (Qb (Qb h5 h6 (addr / 65536)) h7 (addr % 65536)) h4 ((av - 1) * 256 + 1)),(addr / 65536),(addr % 65536),h8,h9,s0,(Qb s1 s2 port),port,s3] t:=Zl [h0,h1,h2,h3,((av - 1) * 256 + 1),(Qb (Qb (Qb h5 h6 (addr / 65536)) h7 (addr % 65536)) h4 ((av - 1) * 256 + 1)),(addr / 65536),(addr % 65536),h8,h9,s0,s1,s2,s3] t 12 11 port au au
 have e4:w2 (fr [h0,h1,h2,h3,((av - 1) * 256 + 1),(Qb (Qb (Qb h5 h6 (addr / 65536)) h7 (addr % 65536)) h4 ((av - 1) * 256 + 1)),(addr / 65536),(addr % 65536),h8,h9,s0,(Qb s1 s2 port),port,s3] t) 22=(Qb s1 s2 port) % 65536:=lY t [h0,h1,h2,h3,((av - 1) * 256 + 1),(Qb (Qb (Qb h5 h6 (addr / 65536)) h7 (addr % 65536)) h4 ((av - 1) * 256 + 1)),(addr / 65536),(addr % 65536),h8,h9,s0,(Qb s1 s2 port),port,s3] 11 au
 have e5:Wg (fr [h0,h1,h2,h3,((av - 1) * 256 + 1),(Qb (Qb (Qb h5 h6 (addr / 65536)) h7 (addr % 65536)) h4 ((av - 1) * 256 + 1)),(addr / 65536),(addr % 65536),h8,h9,s0,(Qb s1 s2 port),port,s3] t) 22 65535=fr [h0,h1,h2,h3,((av - 1) * 256 + 1),(Qb (Qb (Qb h5 h6 (addr / 65536)) h7 (addr % 65536)) h4 ((av - 1) * 256 + 1)),(addr / 65536),(addr % 65536),h8,h9,s0,65535,port,s3] t:=uU t 65535 [h0,h1,h2,h3,((av - 1) * 256 + 1),(Qb (Qb (Qb h5 h6 (addr / 65536)) h7 (addr % 65536)) h4 ((av - 1) * 256 + 1)),(addr / 65536),(addr % 65536),h8,h9,s0,(Qb s1 s2 port),port,s3] 11 au
 have e6:(fr [h0,h1,h2,h3,((av - 1) * 256 + 1),(Qb (Qb (Qb h5 h6 (addr / 65536)) h7 (addr % 65536)) h4 ((av - 1) * 256 + 1)),(addr / 65536),(addr % 65536),h8,h9,s0,(Qb s1 s2 port),port,s3] t).drop 20=fr [s0,(Qb s1 s2 port),port,s3] t:=za t [h0,h1,h2,h3,((av - 1) * 256 + 1),(Qb (Qb (Qb h5 h6 (addr / 65536)) h7 (addr % 65536)) h4 ((av - 1) * 256 + 1)),(addr / 65536),(addr % 65536),h8,h9,s0,(Qb s1 s2 port),port,s3] 10 au
 unfold Yn tl sJ
 simp only[reduceCtorEq,Int.reduceEq,if_true,if_false,↓reduceIte,false_or,true_or,and_true,Nat.reduceAdd]
 simp only[e0,e1,e2,e3,e4,e5,e6]
 split<;>rfl
theorem OE (h0 h1 h2 h3 h4 h5 h6 h7 h8 h9 s0 s1 s2 s3 av addr port:Int) (t:List UInt8):Yn (fr [h0,h1,h2,h3,h4,h5,h6,h7,h8,h9,s0,s1,s2,s3] t) 1 av 16 24 addr port=fr [h0,h1,h2,h3,((av - 1) * 256 + 1),(Qb (Qb (Qb h5 h8 (addr / 65536)) h9 (addr % 65536)) h4 ((av - 1) * 256 + 1)),h6,h7,(addr / 65536),(addr % 65536),s0,(if (Qb s1 s2 port) % 65536=0∧cj (fr [s0,(Qb s1 s2 port),port,s3] t)=0 then 65535 else (Qb s1 s2 port)),port,s3] t:=by
 have e0:Ql (fr [h0,h1,h2,h3,h4,h5,h6,h7,h8,h9,s0,s1,s2,s3] t) 16 10 (addr / 65536)=fr [h0,h1,h2,h3,h4,(Qb h5 h8 (addr / 65536)),h6,h7,(addr / 65536),h9,s0,s1,s2,s3] t:=Zl [h0,h1,h2,h3,h4,h5,h6,h7,h8,h9,s0,s1,s2,s3] t 8 5 (addr / 65536) au au
 have e1:Ql (fr [h0,h1,h2,h3,h4,(Qb h5 h8 (addr / 65536)),h6,h7,(addr / 65536),h9,s0,s1,s2,s3] t) 18 10 (addr % 65536)=fr [h0,h1,h2,h3,h4,(Qb (Qb h5 h8 (addr / 65536)) h9 (addr % 65536)),h6,h7,(addr / 65536),(addr % 65536),s0,s1,s2,s3] t:=Zl [h0,h1,h2,h3,h4,(Qb h5 h8 (addr / 65536)),h6,h7,(addr / 65536),h9,s0,s1,s2,s3] t 9 5 (addr % 65536) au au
 have e2:Ql (fr [h0,h1,h2,h3,h4,(Qb (Qb h5 h8 (addr / 65536)) h9 (addr % 65536)),h6,h7,(addr / 65536),(addr % 65536),s0,s1,s2,s3] t) 8 10 ((av - 1) * 256 + 1)=fr [h0,h1,h2,h3,((av - 1) * 256 + 1),(Qb (Qb (Qb h5 h8 (addr / 65536)) h9 (addr % 65536)) h4 ((av - 1) * 256 + 1)),h6,h7,(addr / 65536),(addr % 65536),s0,s1,s2,s3] t:=Zl [h0,h1,h2,h3,h4,(Qb (Qb h5 h8 (addr / 65536)) h9 (addr % 65536)),h6,h7,(addr / 65536),(addr % 65536),s0,s1,s2,s3] t 4 5 ((av - 1) * 256 + 1) au au
 have e3:Ql (fr [h0,h1,h2,h3,((av - 1) * 256 + 1),(Qb (Qb (Qb h5 h8 (addr / 65536)) h9 (addr % 65536)) h4 ((av - 1) * 256 + 1)),h6,h7,(addr / 65536),(addr % 65536),s0,s1,s2,s3] t) 24 22 port=fr [h0,h1,h2,h3,((av - 1) * 256 + 1),(Qb (Qb (Qb h5 h8 (addr / 65536)) h9 (addr % 65536)) h4 ((av - 1) * 256 + 1)),h6,h7,(addr / 65536),(addr % 65536),s0,(Qb s1 s2 port),port,s3] t:=Zl [h0,h1,h2,h3,((av - 1) * 256 + 1),(Qb (Qb (Qb h5 h8 (addr / 65536)) h9 (addr % 65536)) h4 ((av - 1) * 256 + 1)),h6,h7,(addr / 65536),(addr % 65536),s0,s1,s2,s3] t 12 11 port au au
 have e4:w2 (fr [h0,h1,h2,h3,((av - 1) * 256 + 1),(Qb (Qb (Qb h5 h8 (addr / 65536)) h9 (addr % 65536)) h4 ((av - 1) * 256 + 1)),h6,h7,(addr / 65536),(addr % 65536),s0,(Qb s1 s2 port),port,s3] t) 22=(Qb s1 s2 port) % 65536:=lY t [h0,h1,h2,h3,((av - 1) * 256 + 1),(Qb (Qb (Qb h5 h8 (addr / 65536)) h9 (addr % 65536)) h4 ((av - 1) * 256 + 1)),h6,h7,(addr / 65536),(addr % 65536),s0,(Qb s1 s2 port),port,s3] 11 au
 have e5:Wg (fr [h0,h1,h2,h3,((av - 1) * 256 + 1),(Qb (Qb (Qb h5 h8 (addr / 65536)) h9 (addr % 65536)) h4 ((av - 1) * 256 + 1)),h6,h7,(addr / 65536),(addr % 65536),s0,(Qb s1 s2 port),port,s3] t) 22 65535=fr [h0,h1,h2,h3,((av - 1) * 256 + 1),(Qb (Qb (Qb h5 h8 (addr / 65536)) h9 (addr % 65536)) h4 ((av - 1) * 256 + 1)),h6,h7,(addr / 65536),(addr % 65536),s0,65535,port,s3] t:=uU t 65535 [h0,h1,h2,h3,((av - 1) * 256 + 1),(Qb (Qb (Qb h5 h8 (addr / 65536)) h9 (addr % 65536)) h4 ((av - 1) * 256 + 1)),h6,h7,(addr / 65536),(addr % 65536),s0,(Qb s1 s2 port),port,s3] 11 au
 have e6:(fr [h0,h1,h2,h3,((av - 1) * 256 + 1),(Qb (Qb (Qb h5 h8 (addr / 65536)) h9 (addr % 65536)) h4 ((av - 1) * 256 + 1)),h6,h7,(addr / 65536),(addr % 65536),s0,(Qb s1 s2 port),port,s3] t).drop 20=fr [s0,(Qb s1 s2 port),port,s3] t:=za t [h0,h1,h2,h3,((av - 1) * 256 + 1),(Qb (Qb (Qb h5 h8 (addr / 65536)) h9 (addr % 65536)) h4 ((av - 1) * 256 + 1)),h6,h7,(addr / 65536),(addr % 65536),s0,(Qb s1 s2 port),port,s3] 10 au
 unfold Yn tl sJ
 simp only[reduceCtorEq,Int.reduceEq,if_true,if_false,↓reduceIte,false_or,true_or,and_true,Nat.reduceAdd]
 simp only[e0,e1,e2,e3,e4,e5,e6]
 split<;>rfl
theorem OF (h0 h1 h2 h3 h4 h5 h6 h7 h8 h9 s0 s1 s2 s3 av addr port:Int) (t:List UInt8):Yn (fr [h0,h1,h2,h3,h4,h5,h6,h7,h8,h9,s0,s1,s2,s3] t) 17 av 12 20 addr port=fr [h0,h1,h2,h3,((av - 1) * 256 + 17),(Qb (Qb (Qb h5 h6 (addr / 65536)) h7 (addr % 65536)) h4 ((av - 1) * 256 + 17)),(addr / 65536),(addr % 65536),h8,h9,port,s1,s2,(if (Qb (Qb (Qb s3 (h6 % 65536) (addr / 65536)) (h7 % 65536) (addr % 65536)) s0 port) % 65536=0 then 65535 else (Qb (Qb (Qb s3 (h6 % 65536) (addr / 65536)) (h7 % 65536) (addr % 65536)) s0 port))] t:=by
 have e0:w2 (fr [h0,h1,h2,h3,h4,h5,h6,h7,h8,h9,s0,s1,s2,s3] t) 12=h6 % 65536:=lY t [h0,h1,h2,h3,h4,h5,h6,h7,h8,h9,s0,s1,s2,s3] 6 au
 have e1:Ql (fr [h0,h1,h2,h3,h4,h5,h6,h7,h8,h9,s0,s1,s2,s3] t) 12 10 (addr / 65536)=fr [h0,h1,h2,h3,h4,(Qb h5 h6 (addr / 65536)),(addr / 65536),h7,h8,h9,s0,s1,s2,s3] t:=Zl [h0,h1,h2,h3,h4,h5,h6,h7,h8,h9,s0,s1,s2,s3] t 6 5 (addr / 65536) au au
 have e2:Kh (fr [h0,h1,h2,h3,h4,(Qb h5 h6 (addr / 65536)),(addr / 65536),h7,h8,h9,s0,s1,s2,s3] t) 26 (h6 % 65536) (addr / 65536)=fr [h0,h1,h2,h3,h4,(Qb h5 h6 (addr / 65536)),(addr / 65536),h7,h8,h9,s0,s1,s2,(Qb s3 (h6 % 65536) (addr / 65536))] t:=uV [h0,h1,h2,h3,h4,(Qb h5 h6 (addr / 65536)),(addr / 65536),h7,h8,h9,s0,s1,s2,s3] t 13 (h6 % 65536) (addr / 65536) au
 have e3:w2 (fr [h0,h1,h2,h3,h4,(Qb h5 h6 (addr / 65536)),(addr / 65536),h7,h8,h9,s0,s1,s2,(Qb s3 (h6 % 65536) (addr / 65536))] t) 14=h7 % 65536:=lY t [h0,h1,h2,h3,h4,(Qb h5 h6 (addr / 65536)),(addr / 65536),h7,h8,h9,s0,s1,s2,(Qb s3 (h6 % 65536) (addr / 65536))] 7 au
 have e4:Ql (fr [h0,h1,h2,h3,h4,(Qb h5 h6 (addr / 65536)),(addr / 65536),h7,h8,h9,s0,s1,s2,(Qb s3 (h6 % 65536) (addr / 65536))] t) 14 10 (addr % 65536)=fr [h0,h1,h2,h3,h4,(Qb (Qb h5 h6 (addr / 65536)) h7 (addr % 65536)),(addr / 65536),(addr % 65536),h8,h9,s0,s1,s2,(Qb s3 (h6 % 65536) (addr / 65536))] t:=Zl [h0,h1,h2,h3,h4,(Qb h5 h6 (addr / 65536)),(addr / 65536),h7,h8,h9,s0,s1,s2,(Qb s3 (h6 % 65536) (addr / 65536))] t 7 5 (addr % 65536) au au
 have e5:Kh (fr [h0,h1,h2,h3,h4,(Qb (Qb h5 h6 (addr / 65536)) h7 (addr % 65536)),(addr / 65536),(addr % 65536),h8,h9,s0,s1,s2,(Qb s3 (h6 % 65536) (addr / 65536))] t) 26 (h7 % 65536) (addr % 65536)=fr [h0,h1,h2,h3,h4,(Qb (Qb h5 h6 (addr / 65536)) h7 (addr % 65536)),(addr / 65536),(addr % 65536),h8,h9,s0,s1,s2,(Qb (Qb s3 (h6 % 65536) (addr / 65536)) (h7 % 65536) (addr % 65536))] t:=uV [h0,h1,h2,h3,h4,(Qb (Qb h5 h6 (addr / 65536)) h7 (addr % 65536)),(addr / 65536),(addr % 65536),h8,h9,s0,s1,s2,(Qb s3 (h6 % 65536) (addr / 65536))] t 13 (h7 % 65536) (addr % 65536) au
 have e6:Ql (fr [h0,h1,h2,h3,h4,(Qb (Qb h5 h6 (addr / 65536)) h7 (addr % 65536)),(addr / 65536),(addr % 65536),h8,h9,s0,s1,s2,(Qb (Qb s3 (h6 % 65536) (addr / 65536)) (h7 % 65536) (addr % 65536))] t) 8 10 ((av - 1) * 256 + 17)=fr [h0,h1,h2,h3,((av - 1) * 256 + 17),(Qb (Qb (Qb h5 h6 (addr / 65536)) h7 (addr % 65536)) h4 ((av - 1) * 256 + 17)),(addr / 65536),(addr % 65536),h8,h9,s0,s1,s2,(Qb (Qb s3 (h6 % 65536) (addr / 65536)) (h7 % 65536) (addr % 65536))] t:=Zl [h0,h1,h2,h3,h4,(Qb (Qb h5 h6 (addr / 65536)) h7 (addr % 65536)),(addr / 65536),(addr % 65536),h8,h9,s0,s1,s2,(Qb (Qb s3 (h6 % 65536) (addr / 65536)) (h7 % 65536) (addr % 65536))] t 4 5 ((av - 1) * 256 + 17) au au
 have e7:Ql (fr [h0,h1,h2,h3,((av - 1) * 256 + 17),(Qb (Qb (Qb h5 h6 (addr / 65536)) h7 (addr % 65536)) h4 ((av - 1) * 256 + 17)),(addr / 65536),(addr % 65536),h8,h9,s0,s1,s2,(Qb (Qb s3 (h6 % 65536) (addr / 65536)) (h7 % 65536) (addr % 65536))] t) 20 26 port=fr [h0,h1,h2,h3,((av - 1) * 256 + 17),(Qb (Qb (Qb h5 h6 (addr / 65536)) h7 (addr % 65536)) h4 ((av - 1) * 256 + 17)),(addr / 65536),(addr % 65536),h8,h9,port,s1,s2,(Qb (Qb (Qb s3 (h6 % 65536) (addr / 65536)) (h7 % 65536) (addr % 65536)) s0 port)] t:=Zl [h0,h1,h2,h3,((av - 1) * 256 + 17),(Qb (Qb (Qb h5 h6 (addr / 65536)) h7 (addr % 65536)) h4 ((av - 1) * 256 + 17)),(addr / 65536),(addr % 65536),h8,h9,s0,s1,s2,(Qb (Qb s3 (h6 % 65536) (addr / 65536)) (h7 % 65536) (addr % 65536))] t 10 13 port au au
 have e8:w2 (fr [h0,h1,h2,h3,((av - 1) * 256 + 17),(Qb (Qb (Qb h5 h6 (addr / 65536)) h7 (addr % 65536)) h4 ((av - 1) * 256 + 17)),(addr / 65536),(addr % 65536),h8,h9,port,s1,s2,(Qb (Qb (Qb s3 (h6 % 65536) (addr / 65536)) (h7 % 65536) (addr % 65536)) s0 port)] t) 26=(Qb (Qb (Qb s3 (h6 % 65536) (addr / 65536)) (h7 % 65536) (addr % 65536)) s0 port) % 65536:=lY t [h0,h1,h2,h3,((av - 1) * 256 + 17),(Qb (Qb (Qb h5 h6 (addr / 65536)) h7 (addr % 65536)) h4 ((av - 1) * 256 + 17)),(addr / 65536),(addr % 65536),h8,h9,port,s1,s2,(Qb (Qb (Qb s3 (h6 % 65536) (addr / 65536)) (h7 % 65536) (addr % 65536)) s0 port)] 13 au
 have e9:Wg (fr [h0,h1,h2,h3,((av - 1) * 256 + 17),(Qb (Qb (Qb h5 h6 (addr / 65536)) h7 (addr % 65536)) h4 ((av - 1) * 256 + 17)),(addr / 65536),(addr % 65536),h8,h9,port,s1,s2,(Qb (Qb (Qb s3 (h6 % 65536) (addr / 65536)) (h7 % 65536) (addr % 65536)) s0 port)] t) 26 65535=fr [h0,h1,h2,h3,((av - 1) * 256 + 17),(Qb (Qb (Qb h5 h6 (addr / 65536)) h7 (addr % 65536)) h4 ((av - 1) * 256 + 17)),(addr / 65536),(addr % 65536),h8,h9,port,s1,s2,65535] t:=uU t 65535 [h0,h1,h2,h3,((av - 1) * 256 + 17),(Qb (Qb (Qb h5 h6 (addr / 65536)) h7 (addr % 65536)) h4 ((av - 1) * 256 + 17)),(addr / 65536),(addr % 65536),h8,h9,port,s1,s2,(Qb (Qb (Qb s3 (h6 % 65536) (addr / 65536)) (h7 % 65536) (addr % 65536)) s0 port)] 13 au
 have zd:(fr [h0,h1,h2,h3,((av - 1) * 256 + 17),(Qb (Qb (Qb h5 h6 (addr / 65536)) h7 (addr % 65536)) h4 ((av - 1) * 256 + 17)),(addr / 65536),(addr % 65536),h8,h9,port,s1,s2,(Qb (Qb (Qb s3 (h6 % 65536) (addr / 65536)) (h7 % 65536) (addr % 65536)) s0 port)] t).drop 20=fr [port,s1,s2,(Qb (Qb (Qb s3 (h6 % 65536) (addr / 65536)) (h7 % 65536) (addr % 65536)) s0 port)] t:=za t [h0,h1,h2,h3,((av - 1) * 256 + 17),(Qb (Qb (Qb h5 h6 (addr / 65536)) h7 (addr % 65536)) h4 ((av - 1) * 256 + 17)),(addr / 65536),(addr % 65536),h8,h9,port,s1,s2,(Qb (Qb (Qb s3 (h6 % 65536) (addr / 65536)) (h7 % 65536) (addr % 65536)) s0 port)] 10 au
 unfold Yn tl sJ
 simp only[reduceCtorEq,Int.reduceEq,if_true,if_false,↓reduceIte,false_or,true_or,and_true,Nat.reduceAdd]
 simp only[e0,e1,e2,e3,e4,e5,e6,e7,e8,e9,zd]
 split<;>rfl
theorem OG (h0 h1 h2 h3 h4 h5 h6 h7 h8 h9 s0 s1 s2 s3 av addr port:Int) (t:List UInt8):Yn (fr [h0,h1,h2,h3,h4,h5,h6,h7,h8,h9,s0,s1,s2,s3] t) 17 av 16 22 addr port=fr [h0,h1,h2,h3,((av - 1) * 256 + 17),(Qb (Qb (Qb h5 h8 (addr / 65536)) h9 (addr % 65536)) h4 ((av - 1) * 256 + 17)),h6,h7,(addr / 65536),(addr % 65536),s0,port,s2,(if (Qb (Qb (Qb s3 (h8 % 65536) (addr / 65536)) (h9 % 65536) (addr % 65536)) s1 port) % 65536=0 then 65535 else (Qb (Qb (Qb s3 (h8 % 65536) (addr / 65536)) (h9 % 65536) (addr % 65536)) s1 port))] t:=by
 have e0:w2 (fr [h0,h1,h2,h3,h4,h5,h6,h7,h8,h9,s0,s1,s2,s3] t) 16=h8 % 65536:=lY t [h0,h1,h2,h3,h4,h5,h6,h7,h8,h9,s0,s1,s2,s3] 8 au
 have e1:Ql (fr [h0,h1,h2,h3,h4,h5,h6,h7,h8,h9,s0,s1,s2,s3] t) 16 10 (addr / 65536)=fr [h0,h1,h2,h3,h4,(Qb h5 h8 (addr / 65536)),h6,h7,(addr / 65536),h9,s0,s1,s2,s3] t:=Zl [h0,h1,h2,h3,h4,h5,h6,h7,h8,h9,s0,s1,s2,s3] t 8 5 (addr / 65536) au au
 have e2:Kh (fr [h0,h1,h2,h3,h4,(Qb h5 h8 (addr / 65536)),h6,h7,(addr / 65536),h9,s0,s1,s2,s3] t) 26 (h8 % 65536) (addr / 65536)=fr [h0,h1,h2,h3,h4,(Qb h5 h8 (addr / 65536)),h6,h7,(addr / 65536),h9,s0,s1,s2,(Qb s3 (h8 % 65536) (addr / 65536))] t:=uV [h0,h1,h2,h3,h4,(Qb h5 h8 (addr / 65536)),h6,h7,(addr / 65536),h9,s0,s1,s2,s3] t 13 (h8 % 65536) (addr / 65536) au
 have e3:w2 (fr [h0,h1,h2,h3,h4,(Qb h5 h8 (addr / 65536)),h6,h7,(addr / 65536),h9,s0,s1,s2,(Qb s3 (h8 % 65536) (addr / 65536))] t) 18=h9 % 65536:=lY t [h0,h1,h2,h3,h4,(Qb h5 h8 (addr / 65536)),h6,h7,(addr / 65536),h9,s0,s1,s2,(Qb s3 (h8 % 65536) (addr / 65536))] 9 au
 have e4:Ql (fr [h0,h1,h2,h3,h4,(Qb h5 h8 (addr / 65536)),h6,h7,(addr / 65536),h9,s0,s1,s2,(Qb s3 (h8 % 65536) (addr / 65536))] t) 18 10 (addr % 65536)=fr [h0,h1,h2,h3,h4,(Qb (Qb h5 h8 (addr / 65536)) h9 (addr % 65536)),h6,h7,(addr / 65536),(addr % 65536),s0,s1,s2,(Qb s3 (h8 % 65536) (addr / 65536))] t:=Zl [h0,h1,h2,h3,h4,(Qb h5 h8 (addr / 65536)),h6,h7,(addr / 65536),h9,s0,s1,s2,(Qb s3 (h8 % 65536) (addr / 65536))] t 9 5 (addr % 65536) au au
 have e5:Kh (fr [h0,h1,h2,h3,h4,(Qb (Qb h5 h8 (addr / 65536)) h9 (addr % 65536)),h6,h7,(addr / 65536),(addr % 65536),s0,s1,s2,(Qb s3 (h8 % 65536) (addr / 65536))] t) 26 (h9 % 65536) (addr % 65536)=fr [h0,h1,h2,h3,h4,(Qb (Qb h5 h8 (addr / 65536)) h9 (addr % 65536)),h6,h7,(addr / 65536),(addr % 65536),s0,s1,s2,(Qb (Qb s3 (h8 % 65536) (addr / 65536)) (h9 % 65536) (addr % 65536))] t:=uV [h0,h1,h2,h3,h4,(Qb (Qb h5 h8 (addr / 65536)) h9 (addr % 65536)),h6,h7,(addr / 65536),(addr % 65536),s0,s1,s2,(Qb s3 (h8 % 65536) (addr / 65536))] t 13 (h9 % 65536) (addr % 65536) au
 have e6:Ql (fr [h0,h1,h2,h3,h4,(Qb (Qb h5 h8 (addr / 65536)) h9 (addr % 65536)),h6,h7,(addr / 65536),(addr % 65536),s0,s1,s2,(Qb (Qb s3 (h8 % 65536) (addr / 65536)) (h9 % 65536) (addr % 65536))] t) 8 10 ((av - 1) * 256 + 17)=fr [h0,h1,h2,h3,((av - 1) * 256 + 17),(Qb (Qb (Qb h5 h8 (addr / 65536)) h9 (addr % 65536)) h4 ((av - 1) * 256 + 17)),h6,h7,(addr / 65536),(addr % 65536),s0,s1,s2,(Qb (Qb s3 (h8 % 65536) (addr / 65536)) (h9 % 65536) (addr % 65536))] t:=Zl [h0,h1,h2,h3,h4,(Qb (Qb h5 h8 (addr / 65536)) h9 (addr % 65536)),h6,h7,(addr / 65536),(addr % 65536),s0,s1,s2,(Qb (Qb s3 (h8 % 65536) (addr / 65536)) (h9 % 65536) (addr % 65536))] t 4 5 ((av - 1) * 256 + 17) au au
 have e7:Ql (fr [h0,h1,h2,h3,((av - 1) * 256 + 17),(Qb (Qb (Qb h5 h8 (addr / 65536)) h9 (addr % 65536)) h4 ((av - 1) * 256 + 17)),h6,h7,(addr / 65536),(addr % 65536),s0,s1,s2,(Qb (Qb s3 (h8 % 65536) (addr / 65536)) (h9 % 65536) (addr % 65536))] t) 22 26 port=fr [h0,h1,h2,h3,((av - 1) * 256 + 17),(Qb (Qb (Qb h5 h8 (addr / 65536)) h9 (addr % 65536)) h4 ((av - 1) * 256 + 17)),h6,h7,(addr / 65536),(addr % 65536),s0,port,s2,(Qb (Qb (Qb s3 (h8 % 65536) (addr / 65536)) (h9 % 65536) (addr % 65536)) s1 port)] t:=Zl [h0,h1,h2,h3,((av - 1) * 256 + 17),(Qb (Qb (Qb h5 h8 (addr / 65536)) h9 (addr % 65536)) h4 ((av - 1) * 256 + 17)),h6,h7,(addr / 65536),(addr % 65536),s0,s1,s2,(Qb (Qb s3 (h8 % 65536) (addr / 65536)) (h9 % 65536) (addr % 65536))] t 11 13 port au au
 have e8:w2 (fr [h0,h1,h2,h3,((av - 1) * 256 + 17),(Qb (Qb (Qb h5 h8 (addr / 65536)) h9 (addr % 65536)) h4 ((av - 1) * 256 + 17)),h6,h7,(addr / 65536),(addr % 65536),s0,port,s2,(Qb (Qb (Qb s3 (h8 % 65536) (addr / 65536)) (h9 % 65536) (addr % 65536)) s1 port)] t) 26=(Qb (Qb (Qb s3 (h8 % 65536) (addr / 65536)) (h9 % 65536) (addr % 65536)) s1 port) % 65536:=lY t [h0,h1,h2,h3,((av - 1) * 256 + 17),(Qb (Qb (Qb h5 h8 (addr / 65536)) h9 (addr % 65536)) h4 ((av - 1) * 256 + 17)),h6,h7,(addr / 65536),(addr % 65536),s0,port,s2,(Qb (Qb (Qb s3 (h8 % 65536) (addr / 65536)) (h9 % 65536) (addr % 65536)) s1 port)] 13 au
 have e9:Wg (fr [h0,h1,h2,h3,((av - 1) * 256 + 17),(Qb (Qb (Qb h5 h8 (addr / 65536)) h9 (addr % 65536)) h4 ((av - 1) * 256 + 17)),h6,h7,(addr / 65536),(addr % 65536),s0,port,s2,(Qb (Qb (Qb s3 (h8 % 65536) (addr / 65536)) (h9 % 65536) (addr % 65536)) s1 port)] t) 26 65535=fr [h0,h1,h2,h3,((av - 1) * 256 + 17),(Qb (Qb (Qb h5 h8 (addr / 65536)) h9 (addr % 65536)) h4 ((av - 1) * 256 + 17)),h6,h7,(addr / 65536),(addr % 65536),s0,port,s2,65535] t:=uU t 65535 [h0,h1,h2,h3,((av - 1) * 256 + 17),(Qb (Qb (Qb h5 h8 (addr / 65536)) h9 (addr % 65536)) h4 ((av - 1) * 256 + 17)),h6,h7,(addr / 65536),(addr % 65536),s0,port,s2,(Qb (Qb (Qb s3 (h8 % 65536) (addr / 65536)) (h9 % 65536) (addr % 65536)) s1 port)] 13 au
 have zd:(fr [h0,h1,h2,h3,((av - 1) * 256 + 17),(Qb (Qb (Qb h5 h8 (addr / 65536)) h9 (addr % 65536)) h4 ((av - 1) * 256 + 17)),h6,h7,(addr / 65536),(addr % 65536),s0,port,s2,(Qb (Qb (Qb s3 (h8 % 65536) (addr / 65536)) (h9 % 65536) (addr % 65536)) s1 port)] t).drop 20=fr [s0,port,s2,(Qb (Qb (Qb s3 (h8 % 65536) (addr / 65536)) (h9 % 65536) (addr % 65536)) s1 port)] t:=za t [h0,h1,h2,h3,((av - 1) * 256 + 17),(Qb (Qb (Qb h5 h8 (addr / 65536)) h9 (addr % 65536)) h4 ((av - 1) * 256 + 17)),h6,h7,(addr / 65536),(addr % 65536),s0,port,s2,(Qb (Qb (Qb s3 (h8 % 65536) (addr / 65536)) (h9 % 65536) (addr % 65536)) s1 port)] 10 au
 unfold Yn tl sJ
 simp only[reduceCtorEq,Int.reduceEq,if_true,if_false,↓reduceIte,false_or,true_or,and_true,Nat.reduceAdd]
 simp only[e0,e1,e2,e3,e4,e5,e6,e7,e8,e9,zd]
 split<;>rfl
theorem OH (h0 h1 h2 h3 h4 h5 h6 h7 h8 h9 s0 s1 s2 s3 s4 s5 s6 s7 s8 s9 av addr port:Int) (t:List UInt8):Yn (fr [h0,h1,h2,h3,h4,h5,h6,h7,h8,h9,s0,s1,s2,s3,s4,s5,s6,s7,s8,s9] t) 6 av 12 20 addr port=fr [h0,h1,h2,h3,((av - 1) * 256 + 6),(Qb (Qb (Qb h5 h6 (addr / 65536)) h7 (addr % 65536)) h4 ((av - 1) * 256 + 6)),(addr / 65536),(addr % 65536),h8,h9,port,s1,s2,s3,s4,s5,s6,s7,(if (Qb (Qb (Qb s8 (h6 % 65536) (addr / 65536)) (h7 % 65536) (addr % 65536)) s0 port) % 65536=0∧cj (fr [port,s1,s2,s3,s4,s5,s6,s7,(Qb (Qb (Qb s8 (h6 % 65536) (addr / 65536)) (h7 % 65536) (addr % 65536)) s0 port),s9] t)=0 then 65535 else (Qb (Qb (Qb s8 (h6 % 65536) (addr / 65536)) (h7 % 65536) (addr % 65536)) s0 port)),s9] t:=by
 have e0:w2 (fr [h0,h1,h2,h3,h4,h5,h6,h7,h8,h9,s0,s1,s2,s3,s4,s5,s6,s7,s8,s9] t) 12=h6 % 65536:=lY t [h0,h1,h2,h3,h4,h5,h6,h7,h8,h9,s0,s1,s2,s3,s4,s5,s6,s7,s8,s9] 6 au
 have e1:Ql (fr [h0,h1,h2,h3,h4,h5,h6,h7,h8,h9,s0,s1,s2,s3,s4,s5,s6,s7,s8,s9] t) 12 10 (addr / 65536)=fr [h0,h1,h2,h3,h4,(Qb h5 h6 (addr / 65536)),(addr / 65536),h7,h8,h9,s0,s1,s2,s3,s4,s5,s6,s7,s8,s9] t:=Zl [h0,h1,h2,h3,h4,h5,h6,h7,h8,h9,s0,s1,s2,s3,s4,s5,s6,s7,s8,s9] t 6 5 (addr / 65536) au au
 have e2:Kh (fr [h0,h1,h2,h3,h4,(Qb h5 h6 (addr / 65536)),(addr / 65536),h7,h8,h9,s0,s1,s2,s3,s4,s5,s6,s7,s8,s9] t) 36 (h6 % 65536) (addr / 65536)=fr [h0,h1,h2,h3,h4,(Qb h5 h6 (addr / 65536)),(addr / 65536),h7,h8,h9,s0,s1,s2,s3,s4,s5,s6,s7,(Qb s8 (h6 % 65536) (addr / 65536)),s9] t:=uV [h0,h1,h2,h3,h4,(Qb h5 h6 (addr / 65536)),(addr / 65536),h7,h8,h9,s0,s1,s2,s3,s4,s5,s6,s7,s8,s9] t 18 (h6 % 65536) (addr / 65536) au
 have e3:w2 (fr [h0,h1,h2,h3,h4,(Qb h5 h6 (addr / 65536)),(addr / 65536),h7,h8,h9,s0,s1,s2,s3,s4,s5,s6,s7,(Qb s8 (h6 % 65536) (addr / 65536)),s9] t) 14=h7 % 65536:=lY t [h0,h1,h2,h3,h4,(Qb h5 h6 (addr / 65536)),(addr / 65536),h7,h8,h9,s0,s1,s2,s3,s4,s5,s6,s7,(Qb s8 (h6 % 65536) (addr / 65536)),s9] 7 au
 have e4:Ql (fr [h0,h1,h2,h3,h4,(Qb h5 h6 (addr / 65536)),(addr / 65536),h7,h8,h9,s0,s1,s2,s3,s4,s5,s6,s7,(Qb s8 (h6 % 65536) (addr / 65536)),s9] t) 14 10 (addr % 65536)=fr [h0,h1,h2,h3,h4,(Qb (Qb h5 h6 (addr / 65536)) h7 (addr % 65536)),(addr / 65536),(addr % 65536),h8,h9,s0,s1,s2,s3,s4,s5,s6,s7,(Qb s8 (h6 % 65536) (addr / 65536)),s9] t:=Zl [h0,h1,h2,h3,h4,(Qb h5 h6 (addr / 65536)),(addr / 65536),h7,h8,h9,s0,s1,s2,s3,s4,s5,s6,s7,(Qb s8 (h6 % 65536) (addr / 65536)),s9] t 7 5 (addr % 65536) au au
 have e5:Kh (fr [h0,h1,h2,h3,h4,(Qb (Qb h5 h6 (addr / 65536)) h7 (addr % 65536)),(addr / 65536),(addr % 65536),h8,h9,s0,s1,s2,s3,s4,s5,s6,s7,(Qb s8 (h6 % 65536) (addr / 65536)),s9] t) 36 (h7 % 65536) (addr % 65536)=fr [h0,h1,h2,h3,h4,(Qb (Qb h5 h6 (addr / 65536)) h7 (addr % 65536)),(addr / 65536),(addr % 65536),h8,h9,s0,s1,s2,s3,s4,s5,s6,s7,(Qb (Qb s8 (h6 % 65536) (addr / 65536)) (h7 % 65536) (addr % 65536)),s9] t:=uV [h0,h1,h2,h3,h4,(Qb (Qb h5 h6 (addr / 65536)) h7 (addr % 65536)),(addr / 65536),(addr % 65536),h8,h9,s0,s1,s2,s3,s4,s5,s6,s7,(Qb s8 (h6 % 65536) (addr / 65536)),s9] t 18 (h7 % 65536) (addr % 65536) au
 have e6:Ql (fr [h0,h1,h2,h3,h4,(Qb (Qb h5 h6 (addr / 65536)) h7 (addr % 65536)),(addr / 65536),(addr % 65536),h8,h9,s0,s1,s2,s3,s4,s5,s6,s7,(Qb (Qb s8 (h6 % 65536) (addr / 65536)) (h7 % 65536) (addr % 65536)),s9] t) 8 10 ((av - 1) * 256 + 6)=fr [h0,h1,h2,h3,((av - 1) * 256 + 6),(Qb (Qb (Qb h5 h6 (addr / 65536)) h7 (addr % 65536)) h4 ((av - 1) * 256 + 6)),(addr / 65536),(addr % 65536),h8,h9,s0,s1,s2,s3,s4,s5,s6,s7,(Qb (Qb s8 (h6 % 65536) (addr / 65536)) (h7 % 65536) (addr % 65536)),s9] t:=Zl [h0,h1,h2,h3,h4,(Qb (Qb h5 h6 (addr / 65536)) h7 (addr % 65536)),(addr / 65536),(addr % 65536),h8,h9,s0,s1,s2,s3,s4,s5,s6,s7,(Qb (Qb s8 (h6 % 65536) (addr / 65536)) (h7 % 65536) (addr % 65536)),s9] t 4 5 ((av - 1) * 256 + 6) au au
 have e7:Ql (fr [h0,h1,h2,h3,((av - 1) * 256 + 6),(Qb (Qb (Qb h5 h6 (addr / 65536)) h7 (addr % 65536)) h4 ((av - 1) * 256 + 6)),(addr / 65536),(addr % 65536),h8,h9,s0,s1,s2,s3,s4,s5,s6,s7,(Qb (Qb s8 (h6 % 65536) (addr / 65536)) (h7 % 65536) (addr % 65536)),s9] t) 20 36 port=fr [h0,h1,h2,h3,((av - 1) * 256 + 6),(Qb (Qb (Qb h5 h6 (addr / 65536)) h7 (addr % 65536)) h4 ((av - 1) * 256 + 6)),(addr / 65536),(addr % 65536),h8,h9,port,s1,s2,s3,s4,s5,s6,s7,(Qb (Qb (Qb s8 (h6 % 65536) (addr / 65536)) (h7 % 65536) (addr % 65536)) s0 port),s9] t:=Zl [h0,h1,h2,h3,((av - 1) * 256 + 6),(Qb (Qb (Qb h5 h6 (addr / 65536)) h7 (addr % 65536)) h4 ((av - 1) * 256 + 6)),(addr / 65536),(addr % 65536),h8,h9,s0,s1,s2,s3,s4,s5,s6,s7,(Qb (Qb s8 (h6 % 65536) (addr / 65536)) (h7 % 65536) (addr % 65536)),s9] t 10 18 port au au
 have e8:w2 (fr [h0,h1,h2,h3,((av - 1) * 256 + 6),(Qb (Qb (Qb h5 h6 (addr / 65536)) h7 (addr % 65536)) h4 ((av - 1) * 256 + 6)),(addr / 65536),(addr % 65536),h8,h9,port,s1,s2,s3,s4,s5,s6,s7,(Qb (Qb (Qb s8 (h6 % 65536) (addr / 65536)) (h7 % 65536) (addr % 65536)) s0 port),s9] t) 36=(Qb (Qb (Qb s8 (h6 % 65536) (addr / 65536)) (h7 % 65536) (addr % 65536)) s0 port) % 65536:=lY t [h0,h1,h2,h3,((av - 1) * 256 + 6),(Qb (Qb (Qb h5 h6 (addr / 65536)) h7 (addr % 65536)) h4 ((av - 1) * 256 + 6)),(addr / 65536),(addr % 65536),h8,h9,port,s1,s2,s3,s4,s5,s6,s7,(Qb (Qb (Qb s8 (h6 % 65536) (addr / 65536)) (h7 % 65536) (addr % 65536)) s0 port),s9] 18 au
 have e9:Wg (fr [h0,h1,h2,h3,((av - 1) * 256 + 6),(Qb (Qb (Qb h5 h6 (addr / 65536)) h7 (addr % 65536)) h4 ((av - 1) * 256 + 6)),(addr / 65536),(addr % 65536),h8,h9,port,s1,s2,s3,s4,s5,s6,s7,(Qb (Qb (Qb s8 (h6 % 65536) (addr / 65536)) (h7 % 65536) (addr % 65536)) s0 port),s9] t) 36 65535=fr [h0,h1,h2,h3,((av - 1) * 256 + 6),(Qb (Qb (Qb h5 h6 (addr / 65536)) h7 (addr % 65536)) h4 ((av - 1) * 256 + 6)),(addr / 65536),(addr % 65536),h8,h9,port,s1,s2,s3,s4,s5,s6,s7,65535,s9] t:=uU t 65535 [h0,h1,h2,h3,((av - 1) * 256 + 6),(Qb (Qb (Qb h5 h6 (addr / 65536)) h7 (addr % 65536)) h4 ((av - 1) * 256 + 6)),(addr / 65536),(addr % 65536),h8,h9,port,s1,s2,s3,s4,s5,s6,s7,(Qb (Qb (Qb s8 (h6 % 65536) (addr / 65536)) (h7 % 65536) (addr % 65536)) s0 port),s9] 18 au
 have zd:(fr [h0,h1,h2,h3,((av - 1) * 256 + 6),(Qb (Qb (Qb h5 h6 (addr / 65536)) h7 (addr % 65536)) h4 ((av - 1) * 256 + 6)),(addr / 65536),(addr % 65536),h8,h9,port,s1,s2,s3,s4,s5,s6,s7,(Qb (Qb (Qb s8 (h6 % 65536) (addr / 65536)) (h7 % 65536) (addr % 65536)) s0 port),s9] t).drop 20=fr [port,s1,s2,s3,s4,s5,s6,s7,(Qb (Qb (Qb s8 (h6 % 65536) (addr / 65536)) (h7 % 65536) (addr % 65536)) s0 port),s9] t:=za t [h0,h1,h2,h3,((av - 1) * 256 + 6),(Qb (Qb (Qb h5 h6 (addr / 65536)) h7 (addr % 65536)) h4 ((av - 1) * 256 + 6)),(addr / 65536),(addr % 65536),h8,h9,port,s1,s2,s3,s4,s5,s6,s7,(Qb (Qb (Qb s8 (h6 % 65536) (addr / 65536)) (h7 % 65536) (addr % 65536)) s0 port),s9] 10 au
 unfold Yn tl sJ
 simp only[reduceCtorEq,Int.reduceEq,if_true,if_false,↓reduceIte,false_or,true_or,and_true,Nat.reduceAdd]
 simp only[e0,e1,e2,e3,e4,e5,e6,e7,e8,e9,zd]
 split<;>rfl
theorem OI (h0 h1 h2 h3 h4 h5 h6 h7 h8 h9 s0 s1 s2 s3 s4 s5 s6 s7 s8 s9 av addr port:Int) (t:List UInt8):Yn (fr [h0,h1,h2,h3,h4,h5,h6,h7,h8,h9,s0,s1,s2,s3,s4,s5,s6,s7,s8,s9] t) 6 av 16 22 addr port=fr [h0,h1,h2,h3,((av - 1) * 256 + 6),(Qb (Qb (Qb h5 h8 (addr / 65536)) h9 (addr % 65536)) h4 ((av - 1) * 256 + 6)),h6,h7,(addr / 65536),(addr % 65536),s0,port,s2,s3,s4,s5,s6,s7,(if (Qb (Qb (Qb s8 (h8 % 65536) (addr / 65536)) (h9 % 65536) (addr % 65536)) s1 port) % 65536=0∧cj (fr [s0,port,s2,s3,s4,s5,s6,s7,(Qb (Qb (Qb s8 (h8 % 65536) (addr / 65536)) (h9 % 65536) (addr % 65536)) s1 port),s9] t)=0 then 65535 else (Qb (Qb (Qb s8 (h8 % 65536) (addr / 65536)) (h9 % 65536) (addr % 65536)) s1 port)),s9] t:=by
 have e0:w2 (fr [h0,h1,h2,h3,h4,h5,h6,h7,h8,h9,s0,s1,s2,s3,s4,s5,s6,s7,s8,s9] t) 16=h8 % 65536:=lY t [h0,h1,h2,h3,h4,h5,h6,h7,h8,h9,s0,s1,s2,s3,s4,s5,s6,s7,s8,s9] 8 au
 have e1:Ql (fr [h0,h1,h2,h3,h4,h5,h6,h7,h8,h9,s0,s1,s2,s3,s4,s5,s6,s7,s8,s9] t) 16 10 (addr / 65536)=fr [h0,h1,h2,h3,h4,(Qb h5 h8 (addr / 65536)),h6,h7,(addr / 65536),h9,s0,s1,s2,s3,s4,s5,s6,s7,s8,s9] t:=Zl [h0,h1,h2,h3,h4,h5,h6,h7,h8,h9,s0,s1,s2,s3,s4,s5,s6,s7,s8,s9] t 8 5 (addr / 65536) au au
 have e2:Kh (fr [h0,h1,h2,h3,h4,(Qb h5 h8 (addr / 65536)),h6,h7,(addr / 65536),h9,s0,s1,s2,s3,s4,s5,s6,s7,s8,s9] t) 36 (h8 % 65536) (addr / 65536)=fr [h0,h1,h2,h3,h4,(Qb h5 h8 (addr / 65536)),h6,h7,(addr / 65536),h9,s0,s1,s2,s3,s4,s5,s6,s7,(Qb s8 (h8 % 65536) (addr / 65536)),s9] t:=uV [h0,h1,h2,h3,h4,(Qb h5 h8 (addr / 65536)),h6,h7,(addr / 65536),h9,s0,s1,s2,s3,s4,s5,s6,s7,s8,s9] t 18 (h8 % 65536) (addr / 65536) au
 have e3:w2 (fr [h0,h1,h2,h3,h4,(Qb h5 h8 (addr / 65536)),h6,h7,(addr / 65536),h9,s0,s1,s2,s3,s4,s5,s6,s7,(Qb s8 (h8 % 65536) (addr / 65536)),s9] t) 18=h9 % 65536:=lY t [h0,h1,h2,h3,h4,(Qb h5 h8 (addr / 65536)),h6,h7,(addr / 65536),h9,s0,s1,s2,s3,s4,s5,s6,s7,(Qb s8 (h8 % 65536) (addr / 65536)),s9] 9 au
 have e4:Ql (fr [h0,h1,h2,h3,h4,(Qb h5 h8 (addr / 65536)),h6,h7,(addr / 65536),h9,s0,s1,s2,s3,s4,s5,s6,s7,(Qb s8 (h8 % 65536) (addr / 65536)),s9] t) 18 10 (addr % 65536)=fr [h0,h1,h2,h3,h4,(Qb (Qb h5 h8 (addr / 65536)) h9 (addr % 65536)),h6,h7,(addr / 65536),(addr % 65536),s0,s1,s2,s3,s4,s5,s6,s7,(Qb s8 (h8 % 65536) (addr / 65536)),s9] t:=Zl [h0,h1,h2,h3,h4,(Qb h5 h8 (addr / 65536)),h6,h7,(addr / 65536),h9,s0,s1,s2,s3,s4,s5,s6,s7,(Qb s8 (h8 % 65536) (addr / 65536)),s9] t 9 5 (addr % 65536) au au
 have e5:Kh (fr [h0,h1,h2,h3,h4,(Qb (Qb h5 h8 (addr / 65536)) h9 (addr % 65536)),h6,h7,(addr / 65536),(addr % 65536),s0,s1,s2,s3,s4,s5,s6,s7,(Qb s8 (h8 % 65536) (addr / 65536)),s9] t) 36 (h9 % 65536) (addr % 65536)=fr [h0,h1,h2,h3,h4,(Qb (Qb h5 h8 (addr / 65536)) h9 (addr % 65536)),h6,h7,(addr / 65536),(addr % 65536),s0,s1,s2,s3,s4,s5,s6,s7,(Qb (Qb s8 (h8 % 65536) (addr / 65536)) (h9 % 65536) (addr % 65536)),s9] t:=uV [h0,h1,h2,h3,h4,(Qb (Qb h5 h8 (addr / 65536)) h9 (addr % 65536)),h6,h7,(addr / 65536),(addr % 65536),s0,s1,s2,s3,s4,s5,s6,s7,(Qb s8 (h8 % 65536) (addr / 65536)),s9] t 18 (h9 % 65536) (addr % 65536) au
 have e6:Ql (fr [h0,h1,h2,h3,h4,(Qb (Qb h5 h8 (addr / 65536)) h9 (addr % 65536)),h6,h7,(addr / 65536),(addr % 65536),s0,s1,s2,s3,s4,s5,s6,s7,(Qb (Qb s8 (h8 % 65536) (addr / 65536)) (h9 % 65536) (addr % 65536)),s9] t) 8 10 ((av - 1) * 256 + 6)=fr [h0,h1,h2,h3,((av - 1) * 256 + 6),(Qb (Qb (Qb h5 h8 (addr / 65536)) h9 (addr % 65536)) h4 ((av - 1) * 256 + 6)),h6,h7,(addr / 65536),(addr % 65536),s0,s1,s2,s3,s4,s5,s6,s7,(Qb (Qb s8 (h8 % 65536) (addr / 65536)) (h9 % 65536) (addr % 65536)),s9] t:=Zl [h0,h1,h2,h3,h4,(Qb (Qb h5 h8 (addr / 65536)) h9 (addr % 65536)),h6,h7,(addr / 65536),(addr % 65536),s0,s1,s2,s3,s4,s5,s6,s7,(Qb (Qb s8 (h8 % 65536) (addr / 65536)) (h9 % 65536) (addr % 65536)),s9] t 4 5 ((av - 1) * 256 + 6) au au
 have e7:Ql (fr [h0,h1,h2,h3,((av - 1) * 256 + 6),(Qb (Qb (Qb h5 h8 (addr / 65536)) h9 (addr % 65536)) h4 ((av - 1) * 256 + 6)),h6,h7,(addr / 65536),(addr % 65536),s0,s1,s2,s3,s4,s5,s6,s7,(Qb (Qb s8 (h8 % 65536) (addr / 65536)) (h9 % 65536) (addr % 65536)),s9] t) 22 36 port=fr [h0,h1,h2,h3,((av - 1) * 256 + 6),(Qb (Qb (Qb h5 h8 (addr / 65536)) h9 (addr % 65536)) h4 ((av - 1) * 256 + 6)),h6,h7,(addr / 65536),(addr % 65536),s0,port,s2,s3,s4,s5,s6,s7,(Qb (Qb (Qb s8 (h8 % 65536) (addr / 65536)) (h9 % 65536) (addr % 65536)) s1 port),s9] t:=Zl [h0,h1,h2,h3,((av - 1) * 256 + 6),(Qb (Qb (Qb h5 h8 (addr / 65536)) h9 (addr % 65536)) h4 ((av - 1) * 256 + 6)),h6,h7,(addr / 65536),(addr % 65536),s0,s1,s2,s3,s4,s5,s6,s7,(Qb (Qb s8 (h8 % 65536) (addr / 65536)) (h9 % 65536) (addr % 65536)),s9] t 11 18 port au au
 have e8:w2 (fr [h0,h1,h2,h3,((av - 1) * 256 + 6),(Qb (Qb (Qb h5 h8 (addr / 65536)) h9 (addr % 65536)) h4 ((av - 1) * 256 + 6)),h6,h7,(addr / 65536),(addr % 65536),s0,port,s2,s3,s4,s5,s6,s7,(Qb (Qb (Qb s8 (h8 % 65536) (addr / 65536)) (h9 % 65536) (addr % 65536)) s1 port),s9] t) 36=(Qb (Qb (Qb s8 (h8 % 65536) (addr / 65536)) (h9 % 65536) (addr % 65536)) s1 port) % 65536:=lY t [h0,h1,h2,h3,((av - 1) * 256 + 6),(Qb (Qb (Qb h5 h8 (addr / 65536)) h9 (addr % 65536)) h4 ((av - 1) * 256 + 6)),h6,h7,(addr / 65536),(addr % 65536),s0,port,s2,s3,s4,s5,s6,s7,(Qb (Qb (Qb s8 (h8 % 65536) (addr / 65536)) (h9 % 65536) (addr % 65536)) s1 port),s9] 18 au
 have e9:Wg (fr [h0,h1,h2,h3,((av - 1) * 256 + 6),(Qb (Qb (Qb h5 h8 (addr / 65536)) h9 (addr % 65536)) h4 ((av - 1) * 256 + 6)),h6,h7,(addr / 65536),(addr % 65536),s0,port,s2,s3,s4,s5,s6,s7,(Qb (Qb (Qb s8 (h8 % 65536) (addr / 65536)) (h9 % 65536) (addr % 65536)) s1 port),s9] t) 36 65535=fr [h0,h1,h2,h3,((av - 1) * 256 + 6),(Qb (Qb (Qb h5 h8 (addr / 65536)) h9 (addr % 65536)) h4 ((av - 1) * 256 + 6)),h6,h7,(addr / 65536),(addr % 65536),s0,port,s2,s3,s4,s5,s6,s7,65535,s9] t:=uU t 65535 [h0,h1,h2,h3,((av - 1) * 256 + 6),(Qb (Qb (Qb h5 h8 (addr / 65536)) h9 (addr % 65536)) h4 ((av - 1) * 256 + 6)),h6,h7,(addr / 65536),(addr % 65536),s0,port,s2,s3,s4,s5,s6,s7,(Qb (Qb (Qb s8 (h8 % 65536) (addr / 65536)) (h9 % 65536) (addr % 65536)) s1 port),s9] 18 au
 have zd:(fr [h0,h1,h2,h3,((av - 1) * 256 + 6),(Qb (Qb (Qb h5 h8 (addr / 65536)) h9 (addr % 65536)) h4 ((av - 1) * 256 + 6)),h6,h7,(addr / 65536),(addr % 65536),s0,port,s2,s3,s4,s5,s6,s7,(Qb (Qb (Qb s8 (h8 % 65536) (addr / 65536)) (h9 % 65536) (addr % 65536)) s1 port),s9] t).drop 20=fr [s0,port,s2,s3,s4,s5,s6,s7,(Qb (Qb (Qb s8 (h8 % 65536) (addr / 65536)) (h9 % 65536) (addr % 65536)) s1 port),s9] t:=za t [h0,h1,h2,h3,((av - 1) * 256 + 6),(Qb (Qb (Qb h5 h8 (addr / 65536)) h9 (addr % 65536)) h4 ((av - 1) * 256 + 6)),h6,h7,(addr / 65536),(addr % 65536),s0,port,s2,s3,s4,s5,s6,s7,(Qb (Qb (Qb s8 (h8 % 65536) (addr / 65536)) (h9 % 65536) (addr % 65536)) s1 port),s9] 10 au
 unfold Yn tl sJ
 simp only[reduceCtorEq,Int.reduceEq,if_true,if_false,↓reduceIte,false_or,true_or,and_true,Nat.reduceAdd]
 simp only[e0,e1,e2,e3,e4,e5,e6,e7,e8,e9,zd]
 split<;>rfl
theorem WD (l:List UInt8) (T:Int) (h:(Xn l:Int)=T):(Zd l:Int)=cH T:=by
 subst h
 have:=Fh l
 unfold Zd cH cj at *
 rw[Int.toNat_natCast];omega
theorem Xyf (p:Pk) (n:Int) (hp:0≤p.ae∧p.ae < 256) (t:List UInt8):Uo p.ae p.aA p.dst p.av p.id n++t=fr (gI p n (cH (Xd (gI p n 0)))) t:=by
 unfold Uo
 rw[WD _ (Xd (gI p n 0)),WB p n _ hp]
 have:=WB p n 0 hp []
 rw[xM,List.append_nil]at this
 rw[this,wv];simp[Xn]
def rR (p:Pk) (n:Int):List Int:=if p.ae=1 then [] else [p.aA / 65536,p.aA % 65536,p.dst / 65536,p.dst % 65536,p.ae,n]
theorem WE (p:Pk) (n:Int) (t:List UInt8):Yy p.ae p.aA p.dst n++t=fr (rR p n) t:=by
 unfold Yy rR
 split
 ·rfl
 ·simp only[List.append_assoc]
  rw[mj n,mj p.ae,BB p.dst,BB p.aA]
  simp only[zc];rfl
def j2 (p:Pk):Int:=Xd (rR p (Xt p)) + Xd (jd p 0) + Xn p.body
theorem oX (p:Pk) (hp:p.ae=1∨p.ae=6∨p.ae=17) (hf:0≤p.flags∧p.flags < 256):(gK p:Int)=if p.ae=17∧cH (j2 p)=0 then 65535 else cH (j2 p):=by
 have e:(Zd (Yy p.ae p.aA p.dst (Xt p)++Um p++[0,0]++jQ p):Int)=cH (j2 p):=by
  apply WD
  have h:=WC p hp hf 0
  rw[xM]at h
  rw[List.append_assoc,List.append_assoc,← List.append_assoc (Um p),h,WE,wv,Int.add_comm,wv]
  unfold j2
  omega
 unfold gK
 by_cases h:p.ae=17∧cH (j2 p)=0
 ·rw[if_pos ⟨h.1,by omega⟩,if_pos h];rfl
 ·rw[if_neg (fun hh=>h ⟨hh.1,by omega⟩),if_neg h,e]
theorem Wt (p:Pk) (hp:p.ae=1∨p.ae=6∨p.ae=17) (hf:0≤p.flags∧p.flags < 256):Xl p=fr (gI p (Xt p) (cH (Xd (gI p (Xt p) 0)))++jd p (gK p)) p.body:=by
 unfold Xl jo
 rw[WC p hp hf,Xyf p _ af,zc]
theorem Ij (T m1 n1 m2 n2 m3 n3:Int) (nD:0≤m1∧m1≤65535) (sS:0≤n1∧n1≤65535) (iE:0≤m2∧m2≤65535) (oE:0≤n2∧n2≤65535) (EV:0≤m3∧m3≤65535) (sY:0≤n3∧n3≤65535) (h:0 < T - m1 - m2 - m3) :
  Qb (Qb (Qb (cH T) m1 n1) m2 n2) m3 n3=cH (T - m1 + n1 - m2 + n2 - m3 + n3):=by
 rw[OB T m1 n1 af nD sS af,OB _ m2 n2 af iE oE af,OB _ m3 n3 af EV sY af]
theorem WH (c T m1 n1 m2 n2 m3 n3:Int) (hc:lZ c T) (nD:0≤m1∧m1≤65535) (sS:0≤n1∧n1≤65535) (iE:0≤m2∧m2≤65535) (oE:0≤n2∧n2≤65535) (EV:0≤m3∧m3≤65535) (sY:0≤n3∧n3≤65535) :
  lZ (Qb (Qb (Qb c m1 n1) m2 n2) m3 n3) (T - m1 + n1 - m2 + n2 - m3 + n3) :=
 zb _ _ _ _ (zb _ _ _ _ (zb _ _ _ _ hc nD sS) iE oE) EV sY
theorem BC {S T:Int} (h:S=T):cH S=cH T:=by rw[h]
theorem Ik (ws:List Int) (t:List UInt8):cj (fr ws t)=0 ↔ Xd ws + Xn t=0:=by
 have:=wv t ws
 unfold cj Jg
 split<;>omega
theorem WJ (T m n r:Int) (hm:0≤m∧m≤65535) (hn:0≤n∧n≤65535) (hr:0≤r) (hT:T=m + r) (P:Prop) [Decidable P] (hP:P ↔ Qb (cH T) m n + n + r=0):(if Qb (cH T) m n % 65536=0∧P then 65535 else Qb (cH T) m n)=cH (n + r):=by
 have hb:=Dj (cH T) m n
 have hs:=sW T
 have he:=EU (cH T) m n hs hm hn
 by_cases h0:n + r=0
 ·have VN:n=0:=by omega
  have WK:r=0:=by omega
  rw[h0,Ih]
  have e:Qb (cH T) m n=0:=by
   rw[he]
   by_cases OK:T=0
   ·have Ml:m=0:=by omega
    have h9:(131070:Int) - cH T - m + n=65535:=by rw[OK,Ih];omega
    rw[h9];decide
   ·have h1:=sX T af
    have h2:=sX (131070 - cH T - m + n) af
    have h3:=sW (131070 - cH T - m + n)
    omega
  rw[if_pos ⟨by rw[e];rfl,hP.2 (by rw[e];omega)⟩]
 ·rw[if_neg (fun hh=>by have:=hP.1 hh.2;omega),he]
  by_cases OK:T=0
  ·have Ml:m=0:=by omega
   have WK:r=0:=by omega
   have h9:cH T=65535:=by rw[OK,Ih]
   exact Ii _ _ af af af
  ·have h1:=sX T af
   exact Ii _ _ af af af
theorem Qyq (p:Pk) (h:Yr p=0) (side addr port:Int) (ht:Un p side addr port=0):Yr (Uj p side addr port)=0:=by
 obtain ⟨hp,hr,hl,hf⟩:=Wb h
 unfold Un at ht
 split at ht
 ·cases ht
 split at ht
 ·cases ht
 split at ht
 ·cases ht
 rename_i t1 t2 t3
 obtain ⟨r1,r2,r3,r4,r5,r6,r7,r8,r9,ic⟩:=hr
 rcases p with ⟨ae,aA,ah,dst,aj,av,id,flags,seq,aL,win,body⟩
 dsimp only at *
 unfold Wd at hf
 dsimp only at hf
 have ha:0≤addr∧addr≤4294967295:=by omega
 have hq:0≤port∧port≤65535:=by omega
 unfold Uj
 split
 ·refine Di hp ⟨ha,r2,r3,r4,hq,r6,r7,r8,⟨?_,?_⟩,ic⟩ hl ?_
  ·dsimp only;omega
  ·dsimp only;omega
  ·unfold Wd;dsimp only;omega
 ·refine Di hp ⟨r1,ha,r3,r4,r5,hq,r7,r8,⟨?_,?_⟩,ic⟩ hl ?_
  ·dsimp only;omega
  ·dsimp only;omega
  ·unfold Wd;dsimp only;omega
theorem OL (n id av pr f1 f2 d1 d2 a1 a2:Int) (h1:0≤n∧n≤200) (h2:0≤id∧id≤65535) (h3:2≤av∧av≤255) (h4:0≤pr∧pr≤255) (h5:0≤f1∧f1≤65535) (h6:0≤f2∧f2≤65535) (h7:0≤d1∧d1≤65535) (h8:0≤d2∧d2≤65535) (h9:0≤a1∧a1≤65535) (ed:0≤a2∧a2≤65535) :
  Qb (Qb (Qb (cH (Xd [17664,20 + n,id,0,av * 256 + pr,0,f1,f2,d1,d2])) f1 a1) f2 a2) (av * 256 + pr) ((av - 1) * 256 + pr)=cH (Xd [17664,20 + n,id,0,(av - 1) * 256 + pr,0,a1,a2,d1,d2]):=by
 rw[Ij _ _ _ _ _ _ _ h5 h9 h6 ed af af (by simp only[Xd];omega)]
 apply BC;simp only[Xd];omega
theorem OM (n id av pr f1 f2 d1 d2 a1 a2:Int) (h1:0≤n∧n≤200) (h2:0≤id∧id≤65535) (h3:2≤av∧av≤255) (h4:0≤pr∧pr≤255) (h5:0≤f1∧f1≤65535) (h6:0≤f2∧f2≤65535) (h7:0≤d1∧d1≤65535) (h8:0≤d2∧d2≤65535) (h9:0≤a1∧a1≤65535) (ed:0≤a2∧a2≤65535) :
  Qb (Qb (Qb (cH (Xd [17664,20 + n,id,0,av * 256 + pr,0,f1,f2,d1,d2])) d1 a1) d2 a2) (av * 256 + pr) ((av - 1) * 256 + pr)=cH (Xd [17664,20 + n,id,0,(av - 1) * 256 + pr,0,f1,f2,a1,a2]):=by
 rw[Ij _ _ _ _ _ _ _ h7 h9 h8 ed af af (by simp only[Xd];omega)]
 apply BC;simp only[Xd];omega
theorem WL {k:Int} {P:Prop} [Decidable P] (h:¬ P):(if P then 65535 else k)=k:=if_neg h
theorem WM (k T:Int) (h:lZ k T) (hT:0 < T):(if k % 65536=0 then 65535 else k)=if cH T=0 then 65535 else cH T:=by
 obtain ⟨h1,h2,h3⟩:=h
 have h4:=sX T hT
 have h5:=sW T
 split
 ·rename_i hh
  split
  ·rfl
  ·omega
 ·rename_i hh
  have:k≠0:=fun e=>hh af
  split<;>omega
theorem WN (T:Int) (h:0 < T):lZ (if cH T=0 then 65535 else cH T) T:=by
 have h4:=sX T h
 have h5:=sW T
 unfold lZ;split<;>omega
theorem Xix (aA ah dst aj av id flags seq aL win addr port:Int) (body:List UInt8) (r1:0≤aA∧aA≤4294967295) (r2:0≤dst∧dst≤4294967295) (r3:0≤seq∧seq≤4294967295) (r4:0≤aL∧aL≤4294967295) (r5:0≤ah∧ah≤65535) (r6:0≤aj∧aj≤65535) (r7:0≤id∧id≤65535) (r8:0≤win∧win≤65535) (r9:2≤av∧av≤255) (ic:0≤flags∧flags≤63) (hl:body.length≤64) (ha:0≤addr∧addr≤4294967295) (hq:0≤port∧port≤65535) (r11:seq≤65535):Yn (Xl (⟨1,aA,ah,dst,0,av,id,flags,seq,aL,win,body⟩:Pk)) 1 av 12 24 addr port=Xl (⟨1,addr,port,dst,0,av - 1,id,flags,seq,aL,win,body⟩:Pk):=by
 have hN:=Jj (⟨1,aA,ah,dst,0,av,id,flags,seq,aL,win,body⟩:Pk) au
 have hM:=Jj (⟨1,addr,port,dst,0,av - 1,id,flags,seq,aL,win,body⟩:Pk) au
 have je:Xt (⟨1,addr,port,dst,0,av - 1,id,flags,seq,aL,win,body⟩:Pk)=Xt (⟨1,aA,ah,dst,0,av,id,flags,seq,aL,win,body⟩:Pk):=by rw[hM,hN]
 have pC:Xt (⟨1,aA,ah,dst,0,av,id,flags,seq,aL,win,body⟩:Pk)≤84:=by rw[hN];simp;omega
 have jK:=oX (⟨1,aA,ah,dst,0,av,id,flags,seq,aL,win,body⟩:Pk) au (by dsimp only;omega)
 have l4:=oX (⟨1,addr,port,dst,0,av - 1,id,flags,seq,aL,win,body⟩:Pk) au (by dsimp only;omega)
 rw[Wt (⟨1,aA,ah,dst,0,av,id,flags,seq,aL,win,body⟩:Pk) au (by dsimp only;omega),Wt (⟨1,addr,port,dst,0,av - 1,id,flags,seq,aL,win,body⟩:Pk) au (by dsimp only;omega),jK,l4,je]
 unfold j2 rR
 rw[je]
 clear jK l4 hM hN je
 generalize Xt (⟨1,aA,ah,dst,0,av,id,flags,seq,aL,win,body⟩:Pk)=n at *
 unfold gI jd
 dsimp only
 simp only[reduceCtorEq,Int.reduceEq,if_true,if_false,↓reduceIte,false_and,true_and,List.cons_append,List.nil_append]
 rw[OD]
 refine congrArg (fun l=>fr l body) ?_
 rw[OL _ _ _ _ _ _ _ _ _ _ af af af af af af af af af af]
 have hS:=Int.natCast_nonneg (Xn body)
 have cX:=WJ (Xd [] + Xd [flags * 256,0,ah + 0,seq] + Xn body) (ah + 0) port (flags * 256 + seq + Xn body) af af af (by simp only[Xd];omega) (cj (fr [flags * 256,Qb (cH (Xd [] + Xd [flags * 256,0,ah + 0,seq] + Xn body)) (ah + 0) port,port,seq] body)=0) (by
  have hb:=Dj (cH (Xd [] + Xd [flags * 256,0,ah + 0,seq] + Xn body)) (ah + 0) port
  rw[Ik];generalize Qb (cH (Xd [] + Xd [flags * 256,0,ah + 0,seq] + Xn body)) (ah + 0) port=u at *;simp only[Xd];omega)
 rw[cX]
 have e2:cH (port + (flags * 256 + seq + Xn body))=cH (Xd [] + Xd [flags * 256,0,port + 0,seq] + Xn body):=by apply BC;simp only[Xd];omega
 rw[e2]
 simp
theorem Xgq (aA ah dst aj av id flags seq aL win addr port:Int) (body:List UInt8) (r1:0≤aA∧aA≤4294967295) (r2:0≤dst∧dst≤4294967295) (r3:0≤seq∧seq≤4294967295) (r4:0≤aL∧aL≤4294967295) (r5:0≤ah∧ah≤65535) (r6:0≤aj∧aj≤65535) (r7:0≤id∧id≤65535) (r8:0≤win∧win≤65535) (r9:2≤av∧av≤255) (ic:0≤flags∧flags≤63) (hl:body.length≤64) (ha:0≤addr∧addr≤4294967295) (hq:0≤port∧port≤65535) (r11:seq≤65535):Yn (Xl (⟨1,aA,0,dst,aj,av,id,flags,seq,aL,win,body⟩:Pk)) 1 av 16 24 addr port=Xl (⟨1,aA,0,addr,port,av - 1,id,flags,seq,aL,win,body⟩:Pk):=by
 have hN:=Jj (⟨1,aA,0,dst,aj,av,id,flags,seq,aL,win,body⟩:Pk) au
 have hM:=Jj (⟨1,aA,0,addr,port,av - 1,id,flags,seq,aL,win,body⟩:Pk) au
 have je:Xt (⟨1,aA,0,addr,port,av - 1,id,flags,seq,aL,win,body⟩:Pk)=Xt (⟨1,aA,0,dst,aj,av,id,flags,seq,aL,win,body⟩:Pk):=by rw[hM,hN]
 have pC:Xt (⟨1,aA,0,dst,aj,av,id,flags,seq,aL,win,body⟩:Pk)≤84:=by rw[hN];simp;omega
 have jK:=oX (⟨1,aA,0,dst,aj,av,id,flags,seq,aL,win,body⟩:Pk) au (by dsimp only;omega)
 have l4:=oX (⟨1,aA,0,addr,port,av - 1,id,flags,seq,aL,win,body⟩:Pk) au (by dsimp only;omega)
 rw[Wt (⟨1,aA,0,dst,aj,av,id,flags,seq,aL,win,body⟩:Pk) au (by dsimp only;omega),Wt (⟨1,aA,0,addr,port,av - 1,id,flags,seq,aL,win,body⟩:Pk) au (by dsimp only;omega),jK,l4,je]
 unfold j2 rR
 rw[je]
 clear jK l4 hM hN je
 generalize Xt (⟨1,aA,0,dst,aj,av,id,flags,seq,aL,win,body⟩:Pk)=n at *
 unfold gI jd
 dsimp only
 simp only[reduceCtorEq,Int.reduceEq,if_true,if_false,↓reduceIte,false_and,true_and,List.cons_append,List.nil_append]
 rw[OE]
 refine congrArg (fun l=>fr l body) ?_
 rw[OM _ _ _ _ _ _ _ _ _ _ af af af af af af af af af af]
 have hS:=Int.natCast_nonneg (Xn body)
 have cX:=WJ (Xd [] + Xd [flags * 256,0,0 + aj,seq] + Xn body) (0 + aj) port (flags * 256 + seq + Xn body) af af af (by simp only[Xd];omega) (cj (fr [flags * 256,Qb (cH (Xd [] + Xd [flags * 256,0,0 + aj,seq] + Xn body)) (0 + aj) port,port,seq] body)=0) (by
  have hb:=Dj (cH (Xd [] + Xd [flags * 256,0,0 + aj,seq] + Xn body)) (0 + aj) port
  rw[Ik];generalize Qb (cH (Xd [] + Xd [flags * 256,0,0 + aj,seq] + Xn body)) (0 + aj) port=u at *;simp only[Xd];omega)
 rw[cX]
 have e2:cH (port + (flags * 256 + seq + Xn body))=cH (Xd [] + Xd [flags * 256,0,0 + port,seq] + Xn body):=by apply BC;simp only[Xd];omega
 rw[e2]
 simp
theorem Xp2 (aA ah dst aj av id flags seq aL win addr port:Int) (body:List UInt8) (r1:0≤aA∧aA≤4294967295) (r2:0≤dst∧dst≤4294967295) (r3:0≤seq∧seq≤4294967295) (r4:0≤aL∧aL≤4294967295) (r5:0≤ah∧ah≤65535) (r6:0≤aj∧aj≤65535) (r7:0≤id∧id≤65535) (r8:0≤win∧win≤65535) (r9:2≤av∧av≤255) (ic:0≤flags∧flags≤63) (hl:body.length≤64) (ha:0≤addr∧addr≤4294967295) (hq:0≤port∧port≤65535):Yn (Xl (⟨17,aA,ah,dst,aj,av,id,flags,seq,aL,win,body⟩:Pk)) 17 av 12 20 addr port=Xl (⟨17,addr,port,dst,aj,av - 1,id,flags,seq,aL,win,body⟩:Pk):=by
 have hN:=Jj (⟨17,aA,ah,dst,aj,av,id,flags,seq,aL,win,body⟩:Pk) au
 have hM:=Jj (⟨17,addr,port,dst,aj,av - 1,id,flags,seq,aL,win,body⟩:Pk) au
 have je:Xt (⟨17,addr,port,dst,aj,av - 1,id,flags,seq,aL,win,body⟩:Pk)=Xt (⟨17,aA,ah,dst,aj,av,id,flags,seq,aL,win,body⟩:Pk):=by rw[hM,hN]
 have pC:Xt (⟨17,aA,ah,dst,aj,av,id,flags,seq,aL,win,body⟩:Pk)≤84:=by rw[hN];simp;omega
 have jK:=oX (⟨17,aA,ah,dst,aj,av,id,flags,seq,aL,win,body⟩:Pk) au (by dsimp only;omega)
 have l4:=oX (⟨17,addr,port,dst,aj,av - 1,id,flags,seq,aL,win,body⟩:Pk) au (by dsimp only;omega)
 rw[Wt (⟨17,aA,ah,dst,aj,av,id,flags,seq,aL,win,body⟩:Pk) au (by dsimp only;omega),Wt (⟨17,addr,port,dst,aj,av - 1,id,flags,seq,aL,win,body⟩:Pk) au (by dsimp only;omega),jK,l4,je]
 unfold j2 rR
 rw[je]
 clear jK l4 hM hN je
 generalize Xt (⟨17,aA,ah,dst,aj,av,id,flags,seq,aL,win,body⟩:Pk)=n at *
 unfold gI jd
 dsimp only
 simp only[reduceCtorEq,Int.reduceEq,if_true,if_false,↓reduceIte,false_and,true_and,List.cons_append,List.nil_append]
 rw[OF]
 refine congrArg (fun l=>fr l body) ?_
 rw[OL _ _ _ _ _ _ _ _ _ _ af af af af af af af af af af]
 have e1:aA / 65536 % 65536=aA / 65536:=by omega
 have e2:aA % 65536 % 65536=aA % 65536:=by omega
 rw[e1,e2]
 have hS:=Int.natCast_nonneg (Xn body)
 have gT:=WN (Xd [aA / 65536,aA % 65536,dst / 65536,dst % 65536,17,↑n] + Xd [ah,aj,8 + ↑body.length,0] + Xn body) (by simp only[Xd];omega)
 have hk:=WH _ _ (aA / 65536) (addr / 65536) (aA % 65536) (addr % 65536) ah port gT af af af af af af
 have hT:Xd [aA / 65536,aA % 65536,dst / 65536,dst % 65536,17,↑n] + Xd [ah,aj,8 + ↑body.length,0] + Xn body - (aA / 65536) + addr / 65536 - (aA % 65536) + addr % 65536 - ah + port=Xd [addr / 65536,addr % 65536,dst / 65536,dst % 65536,17,↑n] + Xd [port,aj,8 + ↑body.length,0] + Xn body:=by simp only[Xd];omega
 rw[hT]at hk
 have cX:=WM _ _ hk (by simp only[Xd];omega)
 rw[cX]
theorem Xq1 (aA ah dst aj av id flags seq aL win addr port:Int) (body:List UInt8) (r1:0≤aA∧aA≤4294967295) (r2:0≤dst∧dst≤4294967295) (r3:0≤seq∧seq≤4294967295) (r4:0≤aL∧aL≤4294967295) (r5:0≤ah∧ah≤65535) (r6:0≤aj∧aj≤65535) (r7:0≤id∧id≤65535) (r8:0≤win∧win≤65535) (r9:2≤av∧av≤255) (ic:0≤flags∧flags≤63) (hl:body.length≤64) (ha:0≤addr∧addr≤4294967295) (hq:0≤port∧port≤65535):Yn (Xl (⟨17,aA,ah,dst,aj,av,id,flags,seq,aL,win,body⟩:Pk)) 17 av 16 22 addr port=Xl (⟨17,aA,ah,addr,port,av - 1,id,flags,seq,aL,win,body⟩:Pk):=by
 have hN:=Jj (⟨17,aA,ah,dst,aj,av,id,flags,seq,aL,win,body⟩:Pk) au
 have hM:=Jj (⟨17,aA,ah,addr,port,av - 1,id,flags,seq,aL,win,body⟩:Pk) au
 have je:Xt (⟨17,aA,ah,addr,port,av - 1,id,flags,seq,aL,win,body⟩:Pk)=Xt (⟨17,aA,ah,dst,aj,av,id,flags,seq,aL,win,body⟩:Pk):=by rw[hM,hN]
 have pC:Xt (⟨17,aA,ah,dst,aj,av,id,flags,seq,aL,win,body⟩:Pk)≤84:=by rw[hN];simp;omega
 have jK:=oX (⟨17,aA,ah,dst,aj,av,id,flags,seq,aL,win,body⟩:Pk) au (by dsimp only;omega)
 have l4:=oX (⟨17,aA,ah,addr,port,av - 1,id,flags,seq,aL,win,body⟩:Pk) au (by dsimp only;omega)
 rw[Wt (⟨17,aA,ah,dst,aj,av,id,flags,seq,aL,win,body⟩:Pk) au (by dsimp only;omega),Wt (⟨17,aA,ah,addr,port,av - 1,id,flags,seq,aL,win,body⟩:Pk) au (by dsimp only;omega),jK,l4,je]
 unfold j2 rR
 rw[je]
 clear jK l4 hM hN je
 generalize Xt (⟨17,aA,ah,dst,aj,av,id,flags,seq,aL,win,body⟩:Pk)=n at *
 unfold gI jd
 dsimp only
 simp only[reduceCtorEq,Int.reduceEq,if_true,if_false,↓reduceIte,false_and,true_and,List.cons_append,List.nil_append]
 rw[OG]
 refine congrArg (fun l=>fr l body) ?_
 rw[OM _ _ _ _ _ _ _ _ _ _ af af af af af af af af af af]
 have e1:dst / 65536 % 65536=dst / 65536:=by omega
 have e2:dst % 65536 % 65536=dst % 65536:=by omega
 rw[e1,e2]
 have hS:=Int.natCast_nonneg (Xn body)
 have gT:=WN (Xd [aA / 65536,aA % 65536,dst / 65536,dst % 65536,17,↑n] + Xd [ah,aj,8 + ↑body.length,0] + Xn body) (by simp only[Xd];omega)
 have hk:=WH _ _ (dst / 65536) (addr / 65536) (dst % 65536) (addr % 65536) aj port gT af af af af af af
 have hT:Xd [aA / 65536,aA % 65536,dst / 65536,dst % 65536,17,↑n] + Xd [ah,aj,8 + ↑body.length,0] + Xn body - (dst / 65536) + addr / 65536 - (dst % 65536) + addr % 65536 - aj + port=Xd [aA / 65536,aA % 65536,addr / 65536,addr % 65536,17,↑n] + Xd [ah,port,8 + ↑body.length,0] + Xn body:=by simp only[Xd];omega
 rw[hT]at hk
 have cX:=WM _ _ hk (by simp only[Xd];omega)
 rw[cX]
theorem Xne (aA ah dst aj av id flags seq aL win addr port:Int) (body:List UInt8) (r1:0≤aA∧aA≤4294967295) (r2:0≤dst∧dst≤4294967295) (r3:0≤seq∧seq≤4294967295) (r4:0≤aL∧aL≤4294967295) (r5:0≤ah∧ah≤65535) (r6:0≤aj∧aj≤65535) (r7:0≤id∧id≤65535) (r8:0≤win∧win≤65535) (r9:2≤av∧av≤255) (ic:0≤flags∧flags≤63) (hl:body.length≤64) (ha:0≤addr∧addr≤4294967295) (hq:0≤port∧port≤65535):Yn (Xl (⟨6,aA,ah,dst,aj,av,id,flags,seq,aL,win,body⟩:Pk)) 6 av 12 20 addr port=Xl (⟨6,addr,port,dst,aj,av - 1,id,flags,seq,aL,win,body⟩:Pk):=by
 have hN:=Jj (⟨6,aA,ah,dst,aj,av,id,flags,seq,aL,win,body⟩:Pk) au
 have hM:=Jj (⟨6,addr,port,dst,aj,av - 1,id,flags,seq,aL,win,body⟩:Pk) au
 have je:Xt (⟨6,addr,port,dst,aj,av - 1,id,flags,seq,aL,win,body⟩:Pk)=Xt (⟨6,aA,ah,dst,aj,av,id,flags,seq,aL,win,body⟩:Pk):=by rw[hM,hN]
 have pC:Xt (⟨6,aA,ah,dst,aj,av,id,flags,seq,aL,win,body⟩:Pk)≤84:=by rw[hN];simp;omega
 have jK:=oX (⟨6,aA,ah,dst,aj,av,id,flags,seq,aL,win,body⟩:Pk) au (by dsimp only;omega)
 have l4:=oX (⟨6,addr,port,dst,aj,av - 1,id,flags,seq,aL,win,body⟩:Pk) au (by dsimp only;omega)
 rw[Wt (⟨6,aA,ah,dst,aj,av,id,flags,seq,aL,win,body⟩:Pk) au (by dsimp only;omega),Wt (⟨6,addr,port,dst,aj,av - 1,id,flags,seq,aL,win,body⟩:Pk) au (by dsimp only;omega),jK,l4,je]
 unfold j2 rR
 rw[je]
 clear jK l4 hM hN je
 generalize Xt (⟨6,aA,ah,dst,aj,av,id,flags,seq,aL,win,body⟩:Pk)=n at *
 unfold gI jd
 dsimp only
 simp only[reduceCtorEq,Int.reduceEq,if_true,if_false,↓reduceIte,false_and,true_and,List.cons_append,List.nil_append]
 rw[OH]
 refine congrArg (fun l=>fr l body) ?_
 rw[OL _ _ _ _ _ _ _ _ _ _ af af af af af af af af af af]
 have e1:aA / 65536 % 65536=aA / 65536:=by omega
 have e2:aA % 65536 % 65536=aA % 65536:=by omega
 rw[e1,e2]
 have hS:=Int.natCast_nonneg (Xn body)
 have cX:Qb (Qb (Qb (cH (Xd [aA / 65536,aA % 65536,dst / 65536,dst % 65536,6,↑n] + Xd [ah,aj,seq / 65536,seq % 65536,aL / 65536,aL % 65536,80 * 256 + flags,win,0,0] + Xn body)) (aA / 65536) (addr / 65536)) (aA % 65536) (addr % 65536)) ah port=cH (Xd [addr / 65536,addr % 65536,dst / 65536,dst % 65536,6,↑n] + Xd [port,aj,seq / 65536,seq % 65536,aL / 65536,aL % 65536,80 * 256 + flags,win,0,0] + Xn body):=by
  rw[Ij _ _ _ _ _ _ _ af af af af af af (by simp only[Xd];omega)]
  apply BC;simp only[Xd];omega
 rw[cX]
 rw[WL]
 rintro ⟨_,hh⟩
 rw[Ik]at hh
 have:=sW (Xd [addr / 65536,addr % 65536,dst / 65536,dst % 65536,6,↑n] + Xd [port,aj,seq / 65536,seq % 65536,aL / 65536,aL % 65536,80 * 256 + flags,win,0,0] + Xn body)
 generalize cH (Xd [addr / 65536,addr % 65536,dst / 65536,dst % 65536,6,↑n] + Xd [port,aj,seq / 65536,seq % 65536,aL / 65536,aL % 65536,80 * 256 + flags,win,0,0] + Xn body)=u at *;simp only[Xd]at hh;omega
theorem Xj1 (aA ah dst aj av id flags seq aL win addr port:Int) (body:List UInt8) (r1:0≤aA∧aA≤4294967295) (r2:0≤dst∧dst≤4294967295) (r3:0≤seq∧seq≤4294967295) (r4:0≤aL∧aL≤4294967295) (r5:0≤ah∧ah≤65535) (r6:0≤aj∧aj≤65535) (r7:0≤id∧id≤65535) (r8:0≤win∧win≤65535) (r9:2≤av∧av≤255) (ic:0≤flags∧flags≤63) (hl:body.length≤64) (ha:0≤addr∧addr≤4294967295) (hq:0≤port∧port≤65535):Yn (Xl (⟨6,aA,ah,dst,aj,av,id,flags,seq,aL,win,body⟩:Pk)) 6 av 16 22 addr port=Xl (⟨6,aA,ah,addr,port,av - 1,id,flags,seq,aL,win,body⟩:Pk):=by
 have hN:=Jj (⟨6,aA,ah,dst,aj,av,id,flags,seq,aL,win,body⟩:Pk) au
 have hM:=Jj (⟨6,aA,ah,addr,port,av - 1,id,flags,seq,aL,win,body⟩:Pk) au
 have je:Xt (⟨6,aA,ah,addr,port,av - 1,id,flags,seq,aL,win,body⟩:Pk)=Xt (⟨6,aA,ah,dst,aj,av,id,flags,seq,aL,win,body⟩:Pk):=by rw[hM,hN]
 have pC:Xt (⟨6,aA,ah,dst,aj,av,id,flags,seq,aL,win,body⟩:Pk)≤84:=by rw[hN];simp;omega
 have jK:=oX (⟨6,aA,ah,dst,aj,av,id,flags,seq,aL,win,body⟩:Pk) au (by dsimp only;omega)
 have l4:=oX (⟨6,aA,ah,addr,port,av - 1,id,flags,seq,aL,win,body⟩:Pk) au (by dsimp only;omega)
 rw[Wt (⟨6,aA,ah,dst,aj,av,id,flags,seq,aL,win,body⟩:Pk) au (by dsimp only;omega),Wt (⟨6,aA,ah,addr,port,av - 1,id,flags,seq,aL,win,body⟩:Pk) au (by dsimp only;omega),jK,l4,je]
 unfold j2 rR
 rw[je]
 clear jK l4 hM hN je
 generalize Xt (⟨6,aA,ah,dst,aj,av,id,flags,seq,aL,win,body⟩:Pk)=n at *
 unfold gI jd
 dsimp only
 simp only[reduceCtorEq,Int.reduceEq,if_true,if_false,↓reduceIte,false_and,true_and,List.cons_append,List.nil_append]
 rw[OI]
 refine congrArg (fun l=>fr l body) ?_
 rw[OM _ _ _ _ _ _ _ _ _ _ af af af af af af af af af af]
 have e1:dst / 65536 % 65536=dst / 65536:=by omega
 have e2:dst % 65536 % 65536=dst % 65536:=by omega
 rw[e1,e2]
 have hS:=Int.natCast_nonneg (Xn body)
 have cX:Qb (Qb (Qb (cH (Xd [aA / 65536,aA % 65536,dst / 65536,dst % 65536,6,↑n] + Xd [ah,aj,seq / 65536,seq % 65536,aL / 65536,aL % 65536,80 * 256 + flags,win,0,0] + Xn body)) (dst / 65536) (addr / 65536)) (dst % 65536) (addr % 65536)) aj port=cH (Xd [aA / 65536,aA % 65536,addr / 65536,addr % 65536,6,↑n] + Xd [ah,port,seq / 65536,seq % 65536,aL / 65536,aL % 65536,80 * 256 + flags,win,0,0] + Xn body):=by
  rw[Ij _ _ _ _ _ _ _ af af af af af af (by simp only[Xd];omega)]
  apply BC;simp only[Xd];omega
 rw[cX]
 rw[WL]
 rintro ⟨_,hh⟩
 rw[Ik]at hh
 have:=sW (Xd [aA / 65536,aA % 65536,addr / 65536,addr % 65536,6,↑n] + Xd [ah,port,seq / 65536,seq % 65536,aL / 65536,aL % 65536,80 * 256 + flags,win,0,0] + Xn body)
 generalize cH (Xd [aA / 65536,aA % 65536,addr / 65536,addr % 65536,6,↑n] + Xd [ah,port,seq / 65536,seq % 65536,aL / 65536,aL % 65536,80 * 256 + flags,win,0,0] + Xn body)=u at *;simp only[Xd]at hh;omega
theorem Xhc (p:Pk) (h:Yr p=0) (side addr port:Int) (ht:Un p side addr port=0):Yn (Xl p) p.ae p.av (oC side) (oD p.ae side) addr port=Xl (Uj p side addr port):=by
 obtain ⟨hp,hr,hl,hf⟩:=Wb h
 unfold Un at ht
 split at ht
 ·cases ht
 split at ht
 ·cases ht
 split at ht
 ·cases ht
 rename_i t1 t2 t3
 obtain ⟨r1,r2,r3,r4,r5,r6,r7,r8,r9,ic⟩:=hr
 rcases p with ⟨ae,aA,ah,dst,aj,av,id,flags,seq,aL,win,body⟩
 dsimp only at *
 unfold Wd at hf
 dsimp only at hf
 have ha:0≤addr∧addr≤4294967295:=by omega
 have hq:0≤port∧port≤65535:=by omega
 unfold Uj oC oD
 by_cases hs:side=0
 ·rw[if_pos hs,if_pos hs,if_pos hs]
  rcases hp with rfl|rfl|rfl
  ·have hd:aj=0:=by omega
   subst hd
   exact Xix aA ah dst 0 av id flags seq aL win addr port body r1 r2 r3 r4 r5 r6 r7 r8 af ic hl ha hq af
  ·exact Xne aA ah dst aj av id flags seq aL win addr port body r1 r2 r3 r4 r5 r6 r7 r8 af ic hl ha hq
  ·exact Xp2 aA ah dst aj av id flags seq aL win addr port body r1 r2 r3 r4 r5 r6 r7 r8 af ic hl ha hq
 ·rw[if_neg hs,if_neg hs,if_neg hs]
  rcases hp with rfl|rfl|rfl
  ·have hd:ah=0:=by omega
   subst hd
   exact Xgq aA 0 dst aj av id flags seq aL win addr port body r1 r2 r3 r4 r5 r6 r7 r8 af ic hl ha hq af
  ·exact Xj1 aA ah dst aj av id flags seq aL win addr port body r1 r2 r3 r4 r5 r6 r7 r8 af ic hl ha hq
  ·exact Xq1 aA ah dst aj av id flags seq aL win addr port body r1 r2 r3 r4 r5 r6 r7 r8 af ic hl ha hq
end Go.Proofs.YtogckmommodmhaaGreatDoor
