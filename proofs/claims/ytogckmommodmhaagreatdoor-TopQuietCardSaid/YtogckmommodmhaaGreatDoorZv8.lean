import Derived.Test.YtogckmommodmhaaGreatDoorZv1
import Derived.Test.YtogckmommodmhaaGreatDoorZv6
import Derived.Test.YtogckmommodmhaaGreatDoorZv5
import Derived.Test.YtogckmommodmhaaGreatDoorRows
import Derived.KernelRfl
import Derived.Lib.Hide
namespace Go.Proofs.YtogckmommodmhaaGreatDoor
open Go.RowKit
set_option linter.all false
set_option linter.unusedSimpArgs false
set_option maxRecDepth 100000
structure Pk where
 ae:Int
 aA:Int
 ah:Int
 dst:Int
 aj:Int
 aw:Int
 id:Int
 flags:Int
 seq:Int
 aL:Int
 win:Int
 body:List UInt8
def Pk.enc (p:Pk):List AV:=[.int .i64 p.ae,.int .i64 p.aA,.int .i64 p.ah,.int .i64 p.dst,.int .i64 p.aj,.int .i64 p.aw,.int .i64 p.id,.int .i64 p.flags,.int .i64 p.seq,.int .i64 p.aL,.int .i64 p.win,.str p.body]
def eF:Pk:=⟨0,0,0,0,0,0,0,0,0,0,0,[]⟩
def Kn (p:Pk):Prop:=(0≤p.aA∧p.aA≤4294967295)∧(0≤p.dst∧p.dst≤4294967295)∧(0≤p.seq∧p.seq≤4294967295)∧(0≤p.aL∧p.aL≤4294967295) ∧
 (0≤p.ah∧p.ah≤65535)∧(0≤p.aj∧p.aj≤65535)∧(0≤p.id∧p.id≤65535)∧(0≤p.win∧p.win≤65535)∧(1≤p.aw∧p.aw≤255)∧(0≤p.flags∧p.flags≤63)
instance (p:Pk):Decidable (Kn p):=by unfold Kn;infer_instance
def Wz (p:Pk):Prop:=(p.ae≠6∧(p.aL≠0∨p.win≠0))∨(p.ae=17∧(p.seq≠0∨p.flags≠0)) ∨
 (p.ae=1∧((p.flags≠8∧p.flags≠0)∨(p.flags=8∧p.aj≠0)∨(p.flags=0∧p.ah≠0)∨65535 < p.seq))
instance (p:Pk):Decidable (Wz p):=by unfold Wz;infer_instance
def Yw (p:Pk):Int :=
 if ¬ (p.ae=1∨p.ae=6∨p.ae=17) then 4
 else if ¬ Kn p then 2
 else if 64 < p.body.length then 5
 else if Wz p then 1
 else 0
def Za (ae aA dst n:Int):List UInt8:=if ae=1 then [] else be aA 4++be dst 4++be ae 2++be n 2
def qO (ae aw id n:Int):List UInt8:=[69,0]++be (20 + n) 2++be id 2++[0,0]++be aw 1++be ae 1
def qP (aA dst:Int):List UInt8:=be aA 4++be dst 4
def Uz (ae aA dst aw id n:Int):List UInt8:=qO ae aw id n++be (Zh (qO ae aw id n++[0,0]++qP aA dst)) 2++qP aA dst
def Uk (p:Pk):List UInt8 :=
 if p.ae=1 then be p.flags 1++[0]
 else if p.ae=17 then be p.ah 2++be p.aj 2++be (8 + p.body.length) 2
 else be p.ah 2++be p.aj 2++be p.seq 4++be p.aL 4++[80]++be p.flags 1++be p.win 2
def jO (p:Pk):List UInt8 :=
 if p.ae=1 then be (p.ah + p.aj) 2++be p.seq 2++p.body
 else if p.ae=17 then p.body
 else [0,0]++p.body
def Xw (p:Pk):Nat:=(Uk p).length + 2 + (jO p).length
def gP (p:Pk):Nat :=
 if p.ae=17∧Zh (Za p.ae p.aA p.dst (Xw p)++Uk p++[0,0]++jO p)=0 then 65535
 else Zh (Za p.ae p.aA p.dst (Xw p)++Uk p++[0,0]++jO p)
def jj (p:Pk):List UInt8:=Uk p++be (gP p) 2++jO p
def Xu (p:Pk):List UInt8:=Uz p.ae p.aA p.dst p.aw p.id (Xw p)++jj p
def Lg (p:Pk):AV:=if Yw p=0 then .aU [.str (Xu p),.int .i64 0] else .aU [.str [],.int .i64 (Yw p)]
def b1 (l:List UInt8) (k:Nat):Int:=((l.getD k 0).toNat:Int)
def w2 (l:List UInt8) (k:Nat):Int:=cn ((l.drop k).take 2)
def w4 (l:List UInt8) (k:Nat):Int:=cn ((l.drop k).take 4)
def lS (f:List UInt8):Pk:=⟨b1 f 9,w4 f 12,0,w4 f 16,0,b1 f 8,w2 f 4,0,0,0,0,[]⟩
def aB (f:List UInt8):Pk :=
 let s:=f.drop 20
 if b1 f 9=1 then { lS f with flags:=b1 s 0,seq:=w2 s 6,ah:=if b1 s 0=8 then w2 s 4 else 0,aj:=if b1 s 0=8 then 0 else w2 s 4,body:=s.drop 8 }
 else if b1 f 9=17 then { lS f with ah:=w2 s 0,aj:=w2 s 2,body:=s.drop 8 }
 else { lS f with ah:=w2 s 0,aj:=w2 s 2,seq:=w4 s 4,aL:=w4 s 8,win:=w2 s 14,flags:=b1 s 13,body:=s.drop 20 }
def bY (f:List UInt8):Int :=
 let s:=f.drop 20
 if f.length < 20∨b1 f 0≠69∨w2 f 2≠f.length then 1
 else if cp (f.take 20)≠65535 then 3
 else if b1 f 1≠0∨w2 f 6≠0 then 4
 else if b1 f 8=0 then 12
 else if ¬ (b1 f 9=1∨b1 f 9=6∨b1 f 9=17) then 4
 else if s.length < (if b1 f 9=6 then 20 else 8) then 1
 else if cp (Za (b1 f 9) (w4 f 12) (w4 f 16) s.length++s)≠65535∨(b1 f 9=17∧w2 s 6=0) then 3
 else if b1 f 9=1∧((b1 s 0≠8∧b1 s 0≠0)∨b1 s 1≠0) then 4
 else if b1 f 9=17∧w2 s 4≠s.length then 1
 else if b1 f 9=6∧(b1 s 12≠80∨63 < b1 s 13∨w2 s 18≠0) then 4
 else Yw (aB f)
def Uu (f:List UInt8):AV:=if bY f=0 then .aU [.agg (aB f).enc,.int .i64 0] else .aU [.agg eF.enc,.int .i64 (bY f)]
def Wh (l:List UInt8) (k:Nat) (n:Int):List UInt8:=(l.set k (Qf n 1)).set (k + 1) (Qf n 0)
def Qb (c m n:Int):Int:=65535 - pq (pq (65535 - c % 65536) (65535 - m % 65536)) n
def Kk (l:List UInt8) (ck:Nat) (m n:Int):List UInt8:=Wh l ck (Qb (w2 l ck) m n)
def Ql (l:List UInt8) (k ck:Nat) (n:Int):List UInt8:=Wh (Kk l ck (w2 l k) n) k n
theorem Wb {p:Pk} (h:Yw p=0):(p.ae=1∨p.ae=6∨p.ae=17)∧Kn p∧p.body.length≤64∧¬ Wz p:=by
 unfold Yw at h
 split at h
 ·cases h
 ·split at h
  ·cases h
  ·split at h
   ·cases h
   ·split at h
    ·cases h
    ·rename_i h1 h2 h3 h4
     exact ⟨Decidable.not_not.1 h1,Decidable.not_not.1 h2,by omega,h4⟩
theorem Lh {p:Pk} (h1:p.ae=1∨p.ae=6∨p.ae=17) (h2:Kn p) (h3:p.body.length≤64) (h4:¬ Wz p):Yw p=0:=by
 unfold Yw
 rw[if_neg (fun h=>h h1),if_neg (fun h=>h h2),if_neg af,if_neg h4]
theorem Li (v:Int) (k:Nat) (hk:k≤8) (h0:0≤v):((Qf v k).toNat:Int)=v / 256 ^ k % 256:=by
 obtain ⟨n,rfl⟩:=Int.eq_ofNat_of_zero_le h0
 rw[O6 n k hk]
 simp
theorem xt (v:Int) (h0:0≤v) (h1:v < 256):((Qf v 0).toNat:Int)=v:=by
 rw[Li v 0 af h0];omega
theorem Lj (ae aw id n:Int):(qO ae aw id n).length=10:=by simp[qO,Qi]
theorem Xxz (aA dst:Int):(qP aA dst).length=8:=by simp[qP,Qi]
theorem Ji (ae aA dst aw id n:Int):(Uz ae aA dst aw id n).length=20:=by simp[Uz,Lj,Xxz,Qi]
def Ag (f:List UInt8):List UInt8:=[3,13]++be (Zh ([3,13]++[0,0]++([0,0,0,0]++f.take 28))) 2++([0,0,0,0]++f.take 28)
def mI (f:List UInt8) (aA id:Int):List UInt8:=Uz 1 167772414 aA 64 id 36++Ag f
def fr:List Int→List UInt8→List UInt8
 | [],t=>t
 | w::ws,t=>Qf w 1::Qf w 0::fr ws t
theorem CM (c m n:Int):0≤Qb c m n∧Qb c m n≤65535:=by
 unfold Qb;have:=O7 (pq (65535 - c % 65536) (65535 - m % 65536)) n;omega
def sP (ae:Int):Nat:=if ae=1 then 22 else if ae=17 then 26 else 36
def tl (b:List UInt8) (ae:Int) (m n:Int):List UInt8:=if ae=1 then b else Kk b (sP ae) m n
def Yl (f:List UInt8) (ae aw:Int) (at' wh:Nat) (addr port:Int):List UInt8 :=
 let b1:=tl (Ql f at' 10 (addr / 65536)) ae (w2 f at') (addr / 65536)
 let b2:=tl (Ql b1 (at' + 2) 10 (addr % 65536)) ae (w2 b1 (at' + 2)) (addr % 65536)
 let b3:=Ql b2 8 10 ((aw - 1) * 256 + ae)
 let b4:=Ql b3 wh (sP ae) port
 if (w2 b4 (sP ae)=0)∧(ae=17∨cp (b4.drop 20)=0) then Wh b4 (sP ae) 65535 else b4
def oJ (side:Int):Nat:=if side=0 then 12 else 16
def oK (ae side:Int):Nat:=if ae=1 then 24 else if side=0 then 20 else 22
def oL (p:Pk) (side addr port:Int):Pk:=if side=0 then { p with aw:=p.aw - 1,aA:=addr,ah:=port } else { p with aw:=p.aw - 1,dst:=addr,aj:=port }
def Ul (p:Pk) (side addr port:Int):Int :=
 if side < 0∨side > 1∨¬ (0≤addr∧addr≤4294967295)∨¬ (0≤port∧port≤65535) then 2
 else if p.aw=1 then 12
 else if p.ae=1∧¬ (side=0 ↔ p.flags=8) then 4
 else 0
theorem xu:be 0 2=[0,0]:=by decide
theorem R8:FT Tryz.prog 77 Tryz.f77 (aQ Tryz.prog Tryz.f77) [.t 2]:=.of Tryz.func77
theorem R9:FT Tryz.prog 76 Tryz.f76 (aQ Tryz.prog Tryz.f76) [.t 2]:=.of Tryz.func76
theorem Xtf:FT Tryz.prog 37 Tryz.f37 (aQ Tryz.prog Tryz.f37) [.t 2]:=.of Tryz.func37
theorem Ga:FT Tryz.prog 119 Tryz.f119 (aQ Tryz.prog Tryz.f119) [.t 6]:=.of Tryz.func119
theorem Xu3:FT Tryz.prog 121 Tryz.f121 (aQ Tryz.prog Tryz.f121) [.t 12]:=.of Tryz.func121
theorem Xdx:FT Tryz.prog 75 Tryz.f75 (aQ Tryz.prog Tryz.f75) [.t 8]:=.of Tryz.func75
theorem Gb:FT Tryz.prog 71 Tryz.f71 (aQ Tryz.prog Tryz.f71) [.t 2,.t 3]:=.of Tryz.func71
theorem Xm8:FT Tryz.prog 74 Tryz.f74 (aQ Tryz.prog Tryz.f74) [.t 2,.t 3]:=.of Tryz.func74
theorem Sa:FT Tryz.prog 73 Tryz.f73 (aQ Tryz.prog Tryz.f73) [.t 2]:=.of Tryz.func73
theorem Xoz:FT Tryz.prog 34 Tryz.f34 (aQ Tryz.prog Tryz.f34) [.cell 2 (.ag 12),.t 3]:=.of Tryz.func34
theorem Ydv:FT Tryz.prog 72 Tryz.f72 (aQ Tryz.prog Tryz.f72) [.cell 2 (.ag 12),.t 3]:=.of Tryz.func72
theorem Ybc:FT Tryz.prog 133 Tryz.f133 (aQ Tryz.prog Tryz.f133) []:=.of Tryz.func133
theorem Xsl:FT Tryz.prog 134 Tryz.f134 (aQ Tryz.prog Tryz.f134) []:=.of Tryz.func134
theorem xx:FT Tryz.prog 94 Tryz.f94 (aQ Tryz.prog Tryz.f94) [.t 8,.t 9]:=.of Tryz.func94
theorem Xj1:FT Tryz.prog 124 Tryz.f124 (aQ Tryz.prog Tryz.f124) [.t 4,.t 5]:=.of Tryz.func124
theorem Sb {α:Type} (p:α→Bool) (l:List α) (d:α) (k:Nat) (h:k < l.length):(l.take (k + 1)).all p=((l.take k).all p && p (l.getD k d)):=by
 have e:l.take (k + 1)=l.take k++[l.getD k d]:=by
  rw[List.take_add_one,List.getElem?_eq_getElem h];simp[List.getD,h]
 rw[e,List.all_append];simp
theorem Sc {α:Type} (p:α→Bool) (l:List α) (d:α) (k:Nat) (h:k < l.length) (hn:p (l.getD k d)=false):l.all p=false:=by
 rw[List.all_eq_false]
 refine ⟨l.getD k d,?_,by rw[hn];decide⟩
 simp only[List.getD,List.getElem?_eq_getElem h,Option.getD_some];exact List.getElem_mem h
def fy (hi n:Int):Bool:=decide (0≤n) && decide (n≤hi)
theorem Lk (gl:Nat→AV) (l:List Int) (hl:l.length≤100):PS Tryz.prog gl 77 [.isl l.length (Qp l)] (.bool (l.all (fy 65535))):=by
 refine R8.ps (of_decide_eq_true rfl) (by simp[Qe]) fun c hN hg=>?_
 conv in aQ _ _=>cbv
 refine Qg ?_
 refine Xs (fun k:Nat=>k≤l.length∧(l.take k).all (fy 65535)=true) (fun k=>⟨[(5,.isl l.length (Qp l)),(6,.int .i64 l.length),(7,.int .i64 k)],[],0⟩) (fun k=>l.length - k) R8.mixed hN
  ⟨0,by simp,[],by exact Qw⟩ fun k hk=>?_
 obtain ⟨hk,ha⟩:=hk
 refine Qg ?_
 (refine Qa (fun h1=>?_) (fun h1=>?_)<;>try exact h1.elim)
 ·have hs:=Sb (fy 65535) l 0 k af
  have a8:=Sc (fy 65535) l 0 k af
  refine Qg ?_
  generalize l.getD k 0=x at *
  (refine Qa (fun h2=>?_) (fun h2=>?_)<;>try exact h2.elim)
  ·refine Qg ?_
   refine (a8 ?_).symm
   unfold fy;simp;omega
  ·refine Qg ?_
   refine ⟨k + 1,⟨by omega,?_⟩,⟨[],?_⟩,by omega⟩
   ·rw[hs,ha];unfold fy;simp;omega
   ·omega
 ·have:k=l.length:=by omega
  subst this
  refine Qg ?_
  rw[List.take_length]at ha;exact ha.symm
theorem Sd (gl:Nat→AV) (l:List Int) (hl:l.length≤100):PS Tryz.prog gl 76 [.isl l.length (Qp l)] (.bool (l.all (fy 4294967295))):=by
 refine R9.ps (of_decide_eq_true rfl) (by simp[Qe]) fun c hN hg=>?_
 conv in aQ _ _=>cbv
 refine Qg ?_
 refine Xs (fun k:Nat=>k≤l.length∧(l.take k).all (fy 4294967295)=true) (fun k=>⟨[(5,.isl l.length (Qp l)),(6,.int .i64 l.length),(7,.int .i64 k)],[],0⟩) (fun k=>l.length - k) R9.mixed hN
  ⟨0,by simp,[],by exact Qw⟩ fun k hk=>?_
 obtain ⟨hk,ha⟩:=hk
 refine Qg ?_
 (refine Qa (fun h1=>?_) (fun h1=>?_)<;>try exact h1.elim)
 ·have hs:=Sb (fy 4294967295) l 0 k af
  have a8:=Sc (fy 4294967295) l 0 k af
  refine Qg ?_
  generalize l.getD k 0=x at *
  (refine Qa (fun h2=>?_) (fun h2=>?_)<;>try exact h2.elim)
  ·refine Qg ?_
   refine (a8 ?_).symm
   unfold fy;simp;omega
  ·refine Qg ?_
   refine ⟨k + 1,⟨by omega,?_⟩,⟨[],?_⟩,by omega⟩
   ·rw[hs,ha];unfold fy;simp;omega
   ·omega
 ·have:k=l.length:=by omega
  subst this
  refine Qg ?_
  rw[List.take_length]at ha;exact ha.symm
def nA (p:Int):AV:=if p=1 then .aU [.int .i64 8,.int .i64 2] else if p=17 then .aU [.int .i64 8,.int .i64 6] else if p=6 then .aU [.int .i64 20,.int .i64 16] else .aU [.int .i64 0,.int .i64 0]
theorem Gc (gl:Nat→AV) (p:Int):PS Tryz.prog gl 74 [.int .i64 p] (nA p):=by
 refine Xm8.ps (of_decide_eq_true rfl) (by unfold nA;split<;>(try split)<;>(try split)<;>simp[Qe,ai]) fun c hN hg=>?_
 conv in aQ _ _=>cbv
 refine Qg ?_
 (refine Qa (fun h1=>?_) (fun h1=>?_)<;>try exact h1.elim)
 ·refine Qg ?_
  unfold nA;rw[if_pos h1]
 ·refine Qg ?_
  (refine Qa (fun h2=>?_) (fun h2=>?_)<;>try exact h2.elim)
  ·refine Qg ?_
   unfold nA;rw[if_neg h1,if_pos h2]
  ·refine Qg ?_
   (refine Qa (fun h3=>?_) (fun h3=>?_)<;>try exact h3.elim)
   ·refine Qg ?_
    unfold nA;rw[if_neg h1,if_neg h2,if_pos h3]
   ·refine Qg ?_
    unfold nA;rw[if_neg h1,if_neg h2,if_neg h3]
def gH (e:Int):AV:=.aU [.agg eF.enc,.int .i64 e]
theorem Kl (gl:Nat→AV) (e:Int):GS Tryz.prog gl 72 [.int .i64 e] [] 0 (gH e) [] 0:=by
 refine Ydv.gs (of_decide_eq_true rfl) av fun c a7 hg=>?_
 conv in aQ _ _=>cbv
 unfold gH eF Pk.enc
 refine Qg ?_
 refine ⟨[],?_⟩
 exact Qw
theorem Se (gl:Nat→AV) (l:List UInt8) (hl:l.length≤100000000):PS Tryz.prog gl 73 [.str l] (.int .i64 (cn l)):=by
 refine Sa.ps (of_decide_eq_true rfl) (by simp[Qe]) fun c hN hg=>?_
 conv in aQ _ _=>cbv
 refine Qg ?_
 refine Jv ?_
 refine Xs (fun k:Nat=>k≤l.length) (fun k=>⟨[(3,.int .i64 (cn (l.take k))),(7,.sl 1 0 0 l.length l.length),(8,.int .i64 l.length),(9,.int .i64 k)],[(0,.cells (Xq l))],1⟩) (fun k=>l.length - k) Sa.mixed hN
  ⟨0,by omega,[],by refine Qg ?_<;>rfl⟩ fun k hk=>?_
 refine Qg ?_
 (refine Qa (fun h1=>?_) (fun h1=>?_)<;>try exact h1.elim)
 ·have hs:=O5 l k af
  have ho:=Ih (cn (l.take k)) (l.getD k 0).toNat af (by have:=UInt8.toNat_lt (l.getD k 0);omega)
  have hb:=UInt8.toNat_lt (l.getD k 0)
  refine Qg ?_
  refine ⟨k + 1,by omega,⟨[],?_⟩,by omega⟩
  refine Qh @hs ?_
  have m3:(2:Int) ^ min 8 64=256:=by decide
  rw[m3,ho]
 ·have:k=l.length:=by omega
  subst this
  exact Qw
structure Ll where
 k:Nat
 l:List UInt8
theorem Qz (gl:Nat→AV) (l:List UInt8) (v:Int) (n:Nat) (hn:n≤8) (hl:l.length≤100000000) :
  GS Tryz.prog gl 119 [.sl 1 0 0 l.length l.length,.int .i64 v,.int .i64 n] [(0,.cells (Xq l))] 1 (.sl 1 1 0 (l.length + n) (l.length + n)) [(1,.cells (Xq (l++be v n)))] 2:=by
 refine Ga.gs (of_decide_eq_true rfl) (by simp[Bk.live]) fun c a7 hg=>?_
 conv in aQ _ _=>cbv
 refine Qg ?_
 refine Um (fun x:Ll=>x.k≤n∧x.l++be v x.k=l++be v n) (fun x=>⟨[(0,.sl 1 1 0 x.l.length x.l.length),(1,.int .i64 v),(7,.int .i64 ((x.k:Int) - 1))],[(1,.cells (Xq x.l))],2⟩) (fun x=>x.k) Ga.mixed 1 a7
  ⟨⟨n,l⟩,⟨Nat.le_refl _,rfl⟩,[(1,0)],by exact Qw⟩ fun ⟨k,l'⟩ ⟨hk,he⟩=>?_
 dsimp only at hk he
 refine Qg ?_
 have gF:l'.length + k=l.length + n:=by
  have:=congrArg List.length he
  simpa [Qi] using this
 (refine Qa (fun h1=>?_) (fun h1=>?_)<;>try exact h1.elim)
 ·obtain ⟨k,rfl⟩:∃ j,k=j + 1:=⟨k - 1,by omega⟩
  have e1:(((k + 1:Nat):Int) - 1)=k:=by omega
  rw[e1]at h1 ⊢
  refine Qg ?_
  refine Jv ?_
  refine Jv ?_
  refine ⟨⟨k,l'++[Qf v k]⟩,⟨by dsimp only;omega,?_⟩,⟨[(1,3)],?_⟩,by dsimp only;omega⟩
  ·simpa [be] using he
  ·refine Qg ?_
   rfl
 ·have gW:k=0:=by omega
  subst gW
  simp only[be,List.append_nil]at he
  subst he
  refine Qg ?_
  refine ⟨[],?_⟩
  exact Qu @Qi
structure Lm where
 k:Nat
 l:Option (List UInt8)
theorem Kp (gl:Nat→AV) (v:Int) (n:Nat) (hn:n≤8) (h0:0 < n) :
  GS Tryz.prog gl 119 [.nils,.int .i64 v,.int .i64 n] [] 0 (.sl 1 0 0 n n) [(0,.cells (Xq (be v n)))] 1:=by
 refine Ga.gs (of_decide_eq_true rfl) av fun c a7 hg=>?_
 conv in aQ _ _=>cbv
 refine Qg ?_
 refine Um (fun x:Lm=>x.k≤n∧(x.l.getD [])++be v x.k=be v n∧(x.l=none→x.k=n)) (fun x=>match x.l with|none=>⟨[(0,.nils),(1,.int .i64 v),(7,.int .i64 ((x.k:Int) - 1))],[],0⟩|some l=>⟨[(0,.sl 1 0 0 l.length l.length),(1,.int .i64 v),(7,.int .i64 ((x.k:Int) - 1))],[(0,.cells (Xq l))],1⟩) (fun x=>x.k) Ga.mixed 0 a7
  ⟨⟨n,none⟩,⟨Nat.le_refl _,rfl,fun _=>rfl⟩,[],by exact Qw⟩ fun ⟨k,o⟩ ⟨hk,he,cd⟩=>?_
 cases o with
 | none =>
  dsimp only at hk he cd
  obtain rfl:=cd rfl
  refine Qg ?_
  (refine Qa (fun h1=>?_) (fun h1=>?_)<;>try exact h1.elim)
  ·obtain ⟨k,rfl⟩:∃ j,k=j + 1:=⟨k - 1,by omega⟩
   have e1:(((k + 1:Nat):Int) - 1)=k:=by omega
   rw[e1]at h1 ⊢
   refine Qg ?_
   refine Jv ?_
   refine Jv ?_
   refine ⟨⟨k,some [Qf v k]⟩,⟨by dsimp only;omega,?_,fun h=>by cases h⟩,⟨[(0,1)],?_⟩,by dsimp only;omega⟩
   ·simp[be]
   ·refine Qg ?_
    exact JT [] _ []
  ·omega
 | some l' =>
  dsimp only[Option.getD_some]at hk he cd
  have gF:l'.length + k=n:=by
   have:=congrArg List.length he
   simpa [Qi] using this
  refine Qg ?_
  (refine Qa (fun h1=>?_) (fun h1=>?_)<;>try exact h1.elim)
  ·obtain ⟨k,rfl⟩:∃ j,k=j + 1:=⟨k - 1,by omega⟩
   have e1:(((k + 1:Nat):Int) - 1)=k:=by omega
   rw[e1]at h1 ⊢
   refine Qg ?_
   refine Jv ?_
   refine Jv ?_
   refine ⟨⟨k,some (l'++[Qf v k])⟩,⟨by dsimp only;omega,?_,fun h=>by cases h⟩,⟨[(0,2)],?_⟩,by dsimp only;omega⟩
   ·simpa [be] using he
   ·refine Qg ?_
    rfl
  ·have gW:k=0:=by omega
   subst gW
   simp only[be,List.append_nil]at he
   subst he
   refine Qg ?_
   refine ⟨[],?_⟩
   exact Qu @Qi
theorem Xwn (p:Pk):[p.aA,p.dst,p.seq,p.aL].all (fy 4294967295)=true ↔ (0≤p.aA∧p.aA≤4294967295)∧(0≤p.dst∧p.dst≤4294967295)∧(0≤p.seq∧p.seq≤4294967295)∧(0≤p.aL∧p.aL≤4294967295):=by
 simp[fy]
theorem Xww (p:Pk):[p.ah,p.aj,p.id,p.win].all (fy 65535)=true ↔ (0≤p.ah∧p.ah≤65535)∧(0≤p.aj∧p.aj≤65535)∧(0≤p.id∧p.id≤65535)∧(0≤p.win∧p.win≤65535):=by
 simp[fy]
theorem Xmi (p:Pk):Kn p ↔ [p.aA,p.dst,p.seq,p.aL].all (fy 4294967295)=true∧[p.ah,p.aj,p.id,p.win].all (fy 65535)=true∧(1≤p.aw∧p.aw≤255)∧(0≤p.flags∧p.flags≤63):=by
 rw[Xwn,Xww];unfold Kn
 constructor
 ·rintro ⟨a,b,c,d,e,f,g,h,i,j⟩;exact ⟨⟨a,b,c,d⟩,⟨e,f,g,h⟩,i,j⟩
 ·rintro ⟨⟨a,b,c,d⟩,⟨e,f,g,h⟩,i,j⟩;exact ⟨a,b,c,d,e,f,g,h,i,j⟩
theorem Xxm {p:Pk} (h:¬ (p.ae=1∨p.ae=6∨p.ae=17)):Yw p=4:=by unfold Yw;rw[if_pos h]
theorem Xtl {p:Pk} (h:p.ae=1∨p.ae=6∨p.ae=17) (h2:¬ Kn p):Yw p=2:=by unfold Yw;rw[if_neg (fun x=>x h),if_pos h2]
theorem Xxf {p:Pk} (h:p.ae=1∨p.ae=6∨p.ae=17) (h2:Kn p) (h3:64 < p.body.length):Yw p=5:=by unfold Yw;rw[if_neg (fun x=>x h),if_neg (fun x=>x h2),if_pos h3]
theorem Xzh {p:Pk} (h:p.ae=1∨p.ae=6∨p.ae=17) (h2:Kn p) (h3:¬ 64 < p.body.length) (h4:Wz p):Yw p=1:=by unfold Yw;rw[if_neg (fun x=>x h),if_neg (fun x=>x h2),if_neg h3,if_pos h4]
set_option maxHeartbeats 4000000 in
set_option maxRecDepth 20000 in
theorem vG (gl:Nat→AV) (p:Pk):PS Tryz.prog gl 37 [.agg p.enc] (.int .i64 (Yw p)):=by
 refine Xtf.ps (of_decide_eq_true rfl) (by simp[Qe]) fun c hN hg=>?_
 conv in aQ _ _=>cbv
 unfold Pk.enc
 have hR:=Xmi p
 have hl:=Sd c.gl [p.aA,p.dst,p.seq,p.aL] av
 have hw:=Lk c.gl [p.ah,p.aj,p.id,p.win] av
 generalize hL:[p.aA,p.dst,p.seq,p.aL].all (fy 4294967295)=L at *
 generalize hW:[p.ah,p.aj,p.id,p.win].all (fy 65535)=W at *
 have k1:=@Xxm p
 have k2:=@Xtl p
 have k3:=@Xxf p
 have k4:=@Xzh p
 have k5:=@Lh p
 generalize Yw p=E at *
 generalize hRp:Kn p=RP at *
 unfold Wz at k4 k5
 obtain ⟨ae,aA,ah,dst,aj,aw,id,flags,seq,aL,win,body⟩:=p
 dsimp only at *
 refine Qg ?_
 (refine Qa (fun h1=>?_) (fun h1=>?_)<;>try exact h1.elim)
 ·exact Qw
 have hp:ae=1∨ae=6∨ae=17:=by omega
 have bad:¬ RP→E=2:=fun h=>k2 hp h
 cases L with
 | false =>
  refine Qg ?_
  refine Jv ?_
  ((first|apply Wy|apply Kv)<;>(first|exact hl|(with_reducible (exact Kd.bool _))|(refine XG ?_;first|exact rfl|exact True.intro|((try (repeat' with_reducible refine And.intro ?_ ?_));(try any_goals (first|refine zm ?_|exact CL|fail))))))
  ((first|apply Ym|apply Yb)<;>(refine XG ?_;first|exact rfl|exact True.intro|((try (repeat' with_reducible refine And.intro ?_ ?_));(try any_goals (first|refine zm ?_|exact CL|fail)))))
  ((first|apply Ym|apply Yb)<;>(refine XG ?_;first|exact rfl|exact True.intro|((try (repeat' with_reducible refine And.intro ?_ ?_));(try any_goals (first|refine zm ?_|exact CL|fail)))))
  (refine Qa (fun h2=>?_) (fun h2=>?_)<;>try exact h2.elim)
  refine Qg ?_
  exact (bad (fun h=>by simp[hR]at h)).symm
 | true =>
  cases W with
  | false =>
   refine Qg ?_
   refine Jv ?_
   ((first|apply Wy|apply Kv)<;>(first|exact hl|(with_reducible (exact Kd.bool _))|(refine XG ?_;first|exact rfl|exact True.intro|((try (repeat' with_reducible refine And.intro ?_ ?_));(try any_goals (first|refine zm ?_|exact CL|fail))))))
   ((refine vA ?_ ?_ ?_);(focus (refine XG ?_;try first|exact rfl|exact True.intro));(focus (refine XG ?_;try trivial)))
   refine Jv ?_
   ((first|apply Wy|apply Kv)<;>(first|exact hw|(with_reducible (exact Kd.bool _))|(refine XG ?_;first|exact rfl|exact True.intro|((try (repeat' with_reducible refine And.intro ?_ ?_));(try any_goals (first|refine zm ?_|exact CL|fail))))))
   (refine Qa (fun h2=>?_) (fun h2=>?_)<;>try exact h2.elim)
   refine Qg ?_
   exact (bad (fun h=>by simp[hR]at h)).symm
  | true =>
   refine Qg ?_
   refine Jv ?_
   ((first|apply Wy|apply Kv)<;>(first|exact hl|(with_reducible (exact Kd.bool _))|(refine XG ?_;first|exact rfl|exact True.intro|((try (repeat' with_reducible refine And.intro ?_ ?_));(try any_goals (first|refine zm ?_|exact CL|fail))))))
   ((refine vA ?_ ?_ ?_);(focus (refine XG ?_;try first|exact rfl|exact True.intro));(focus (refine XG ?_;try trivial)))
   refine Jv ?_
   ((first|apply Wy|apply Kv)<;>(first|exact hw|(with_reducible (exact Kd.bool _))|(refine XG ?_;first|exact rfl|exact True.intro|((try (repeat' with_reducible refine And.intro ?_ ?_));(try any_goals (first|refine zm ?_|exact CL|fail))))))
   (refine Qa (fun h2=>?_) (fun h2=>?_)<;>try exact h2.elim)
   ·refine Qg ?_
    exact (bad (fun h=>by have:=hR.1 h;omega)).symm
   have sQ:RP:=hR.2 ⟨rfl,rfl,by omega,by omega⟩
   refine Qg ?_
   (refine Qa (fun h3=>?_) (fun h3=>?_)<;>try exact h3.elim)
   ·refine Qg ?_
    exact (k3 hp sQ af).symm
   rcases hp with rfl|rfl|rfl
   ·refine Qg ?_
    (refine Qa (fun h4=>?_) (fun h4=>?_)<;>try exact h4.elim)
    ·refine Qg ?_
     exact (k4 (.inl rfl) sQ af af).symm
    by_cases h6:flags=8
    ·subst h6
     refine Qg ?_
     (refine Qa (fun h7=>?_) (fun h7=>?_)<;>try exact h7.elim)
     ·refine Qg ?_
      exact (k4 (.inl rfl) sQ af af).symm
     ·refine Qg ?_
      exact (k5 (.inl rfl) sQ af af).symm
    ·by_cases h8:flags=0
     ·subst h8
      refine Qg ?_
      (refine Qa (fun h7=>?_) (fun h7=>?_)<;>try exact h7.elim)
      ·refine Qg ?_
       exact (k4 (.inl rfl) sQ af af).symm
      ·refine Qg ?_
       exact (k5 (.inl rfl) sQ af af).symm
     ·have g6:(flags != 8)=true:=by simp[h6]
      have g8:(flags != 0)=true:=by simp[h8]
      refine Qh (An @g6 @g8) ?_
      (refine Qa (fun h7=>?_) (fun h7=>?_)<;>try exact h7.elim)
      refine Qg ?_
      exact (k4 (.inl rfl) sQ af af).symm
   ·refine Qg ?_
    (refine Qa (fun h4=>?_) (fun h4=>?_)<;>try exact h4.elim)
    refine Qg ?_
    (refine Qa (fun h7=>?_) (fun h7=>?_)<;>try exact h7.elim)
    refine Qg ?_
    exact (k5 (.inr (.inl rfl)) sQ af af).symm
   ·refine Qg ?_
    (refine Qa (fun h4=>?_) (fun h4=>?_)<;>try exact h4.elim)
    ·refine Qg ?_
     exact (k4 (.inr (.inr rfl)) sQ af af).symm
    ·refine Qg ?_
     (refine Qa (fun h7=>?_) (fun h7=>?_)<;>try exact h7.elim)
     refine Qg ?_
     exact (k5 (.inr (.inr rfl)) sQ af af).symm
theorem Sf (v:Int):[UInt8.ofNat (IntKind.u8.wrap v).toNat]=be v 1:=by
 show _=[Qf v 0]
 unfold Qf
 have:v.fdiv (2 ^ min (8 * ((0:Nat):Int)).toNat 64)=v:=Int.fdiv_one v
 rw[this]
theorem Xjv (l:List UInt8) (i:Nat) (n:Int):(Xq l).set i (.int .u8 (IntKind.u8.wrap n))=Xq (l.set i (UInt8.ofNat (IntKind.u8.wrap n).toNat)):=by
 have h0:0≤IntKind.u8.wrap n∧IntKind.u8.wrap n < 256:=by rw[IntKind.wrap_u8];omega
 generalize IntKind.u8.wrap n=k at h0 ⊢
 have e:(.int .u8 k:AV)=.int .u8 (UInt8.ofNat k.toNat).toNat:=by simp;omega
 rw[e,Xq,Xq,List.map_set]
theorem Yc4 (v:Int):UInt8.ofNat (IntKind.u8.wrap (v.fdiv (2 ^ min 8 64))).toNat=Qf v 1:=rfl
theorem vH (v:Int):UInt8.ofNat (IntKind.u8.wrap v).toNat=Qf v 0:=by
 have:=Sf v
 simp only[be,List.cons.injEq,and_true]at this;exact this
attribute [go_sem] Xjv Yc4
theorem Sg (A Z:List UInt8) (a b x y:UInt8):((A++[a,b]++Z).set A.length x).set (A.length + 1) y=A++[x,y]++Z:=by
 rw[List.append_assoc,List.set_append_right _ _ (Nat.le_refl _),List.set_append_right _ _ af]
 simp
theorem Xtx (A Z:List UInt8) (hA:A.length=10) (v:Int):((A++be 0 2++Z).set 10 (Qf v 1)).set 11 (Qf v 0)=A++be v 2++Z:=by
 rw[xu]
 have:=Sg A Z 0 0 (Qf v 1) (Qf v 0)
 rw[hA]at this
 exact this
set_option maxHeartbeats 2000000 in
theorem Jq (gl:Nat→AV) (ae aA dst aw id n:Int) (hn:0≤n∧n≤1000) :
  GS Tryz.prog gl 121 [.int .i64 ae,.int .i64 aA,.int .i64 dst,.int .i64 aw,.int .i64 id,.int .i64 n] [] 0 (.sl 1 0 0 20 20) [(0,.cells (Xq (Uz ae aA dst aw id n)))] 1:=by
 refine Xu3.gs (of_decide_eq_true rfl) av fun c a7 hg=>?_
 conv in aQ _ _=>cbv
 obtain ⟨p2,fb⟩:∃ p2:List UInt8,p2=[69,0]:=⟨_,rfl⟩
 have hl2:p2.length=2:=by rw[fb];rfl
 have lit:[.int .u8 69,.int .u8 0]=Xq p2:=by rw[fb];rfl
 have bw:∀ v,((p2++be (20 + n) 2++be id 2++be 0 2++be aw 1++be ae 1++be 0 2++be aA 4++be dst 4).set 10 (Qf v 1)).set 11 (Qf v 0)=qO ae aw id n++be v 2++qP aA dst:=fun v=>by
  have:=Xtx (qO ae aw id n) (qP aA dst) (Lj _ _ _ _) v
  rw[← this,fb];unfold qO qP;rw[xu];simp only[List.append_assoc]
 have cW:Zh (p2++be (20 + n) 2++be id 2++be 0 2++be aw 1++be ae 1++be 0 2++be aA 4++be dst 4)=Zh (qO ae aw id n++[0,0]++qP aA dst):=by
  unfold qO qP;rw[xu,fb];simp only[List.append_assoc]
 have hlen:(p2++be (20 + n) 2++be id 2++be 0 2++be aw 1++be ae 1++be 0 2++be aA 4++be dst 4).length=20:=by simp[Qi,hl2]
 have t8:(p2++be (20 + n) 2++be id 2++be 0 2).take 8=p2++be (20 + n) 2++be id 2++be 0 2:=List.take_of_length_le (by simp[Qi,hl2])
 have hC:=Cr c.gl (p2++be (20 + n) 2++be id 2++be 0 2++be aw 1++be ae 1++be 0 2++be aA 4++be dst 4) (by rw[hlen];decide)
 have hL:=wE (p2++be (20 + n) 2++be id 2++be 0 2++be aw 1++be ae 1++be 0 2++be aA 4++be dst 4)
 refine Qg ?_
 refine Jv ?_
 ((first|refine Qx (ins:=[0]) (Qz c.gl p2 (20 + n) 2 (by decide) (by omega)) ?_ ?_|refine Qt (ins:=[0]) (Qz c.gl p2 (20 + n) 2 (by decide) (by omega)) ?_ ?_|refine Qs (ins:=[0]) (Qz c.gl p2 (20 + n) 2 (by decide) (by omega)) ?_ ?_|refine Qq (ins:=[0]) (Qz c.gl p2 (20 + n) 2 (by decide) (by omega)) ?_ ?_)<;>(have au:=@Qi;have aH:=@lit;have aV:=@hl2;refine XG ?_;clear au aH aV;(try first|exact rfl|exact True.intro);((try (repeat' with_reducible refine And.intro ?_ ?_));(try any_goals (first|refine zm ?_|exact CL|fail)))))
 ((first|refine Qx (ins:=[1]) (Qz c.gl (p2++be (20 + n) 2) id 2 (by decide) (by simp[Qi,hl2])) ?_ ?_|refine Qt (ins:=[1]) (Qz c.gl (p2++be (20 + n) 2) id 2 (by decide) (by simp[Qi,hl2])) ?_ ?_|refine Qs (ins:=[1]) (Qz c.gl (p2++be (20 + n) 2) id 2 (by decide) (by simp[Qi,hl2])) ?_ ?_|refine Qq (ins:=[1]) (Qz c.gl (p2++be (20 + n) 2) id 2 (by decide) (by simp[Qi,hl2])) ?_ ?_)<;>(have au:=@Qi;have aH:=@hl2;refine XG ?_;clear au aH;(try first|exact rfl|exact True.intro);((try (repeat' with_reducible refine And.intro ?_ ?_));(try any_goals (first|refine zm ?_|exact CL|fail)))))
 ((first|refine Qx (ins:=[2]) (Qz c.gl (p2++be (20 + n) 2++be id 2) 0 2 (by decide) (by simp[Qi,hl2])) ?_ ?_|refine Qt (ins:=[2]) (Qz c.gl (p2++be (20 + n) 2++be id 2) 0 2 (by decide) (by simp[Qi,hl2])) ?_ ?_|refine Qs (ins:=[2]) (Qz c.gl (p2++be (20 + n) 2++be id 2) 0 2 (by decide) (by simp[Qi,hl2])) ?_ ?_|refine Qq (ins:=[2]) (Qz c.gl (p2++be (20 + n) 2++be id 2) 0 2 (by decide) (by simp[Qi,hl2])) ?_ ?_)<;>(have au:=@Qi;have aH:=@hl2;refine XG ?_;clear au aH;(try first|exact rfl|exact True.intro);((try (repeat' with_reducible refine And.intro ?_ ?_));(try any_goals (first|refine zm ?_|exact CL|fail)))))
 refine Jd (An @Qi @hl2) ?_
 refine Jd (An @Qi (An @Sf (An @hl2 @t8))) ?_
 ((first|refine Qx (ins:=[5]) (Qz c.gl (p2++be (20 + n) 2++be id 2++be 0 2++be aw 1++be ae 1) 0 2 (by decide) (by simp[Qi,hl2])) ?_ ?_|refine Qt (ins:=[5]) (Qz c.gl (p2++be (20 + n) 2++be id 2++be 0 2++be aw 1++be ae 1) 0 2 (by decide) (by simp[Qi,hl2])) ?_ ?_|refine Qs (ins:=[5]) (Qz c.gl (p2++be (20 + n) 2++be id 2++be 0 2++be aw 1++be ae 1) 0 2 (by decide) (by simp[Qi,hl2])) ?_ ?_|refine Qq (ins:=[5]) (Qz c.gl (p2++be (20 + n) 2++be id 2++be 0 2++be aw 1++be ae 1) 0 2 (by decide) (by simp[Qi,hl2])) ?_ ?_)<;>(have au:=@Qi;have aH:=@hl2;refine XG ?_;clear au aH;(try first|exact rfl|exact True.intro);((try (repeat' with_reducible refine And.intro ?_ ?_));(try any_goals (first|refine zm ?_|exact CL|fail)))))
 ((first|refine Qx (ins:=[6]) (Qz c.gl (p2++be (20 + n) 2++be id 2++be 0 2++be aw 1++be ae 1++be 0 2) aA 4 (by decide) (by simp[Qi,hl2])) ?_ ?_|refine Qt (ins:=[6]) (Qz c.gl (p2++be (20 + n) 2++be id 2++be 0 2++be aw 1++be ae 1++be 0 2) aA 4 (by decide) (by simp[Qi,hl2])) ?_ ?_|refine Qs (ins:=[6]) (Qz c.gl (p2++be (20 + n) 2++be id 2++be 0 2++be aw 1++be ae 1++be 0 2) aA 4 (by decide) (by simp[Qi,hl2])) ?_ ?_|refine Qq (ins:=[6]) (Qz c.gl (p2++be (20 + n) 2++be id 2++be 0 2++be aw 1++be ae 1++be 0 2) aA 4 (by decide) (by simp[Qi,hl2])) ?_ ?_)<;>(have au:=@Qi;have aH:=@hl2;refine XG ?_;clear au aH;(try first|exact rfl|exact True.intro);((try (repeat' with_reducible refine And.intro ?_ ?_));(try any_goals (first|refine zm ?_|exact CL|fail)))))
 ((first|refine Qx (ins:=[7]) (Qz c.gl (p2++be (20 + n) 2++be id 2++be 0 2++be aw 1++be ae 1++be 0 2++be aA 4) dst 4 (by decide) (by simp[Qi,hl2])) ?_ ?_|refine Qt (ins:=[7]) (Qz c.gl (p2++be (20 + n) 2++be id 2++be 0 2++be aw 1++be ae 1++be 0 2++be aA 4) dst 4 (by decide) (by simp[Qi,hl2])) ?_ ?_|refine Qs (ins:=[7]) (Qz c.gl (p2++be (20 + n) 2++be id 2++be 0 2++be aw 1++be ae 1++be 0 2++be aA 4) dst 4 (by decide) (by simp[Qi,hl2])) ?_ ?_|refine Qq (ins:=[7]) (Qz c.gl (p2++be (20 + n) 2++be id 2++be 0 2++be aw 1++be ae 1++be 0 2++be aA 4) dst 4 (by decide) (by simp[Qi,hl2])) ?_ ?_)<;>(have au:=@Qi;have aH:=@hl2;refine XG ?_;clear au aH;(try first|exact rfl|exact True.intro);((try (repeat' with_reducible refine And.intro ?_ ?_));(try any_goals (first|refine zm ?_|exact CL|fail)))))
 generalize cr:p2++be (20 + n) 2++be id 2++be 0 2++be aw 1++be ae 1++be 0 2++be aA 4++be dst 4=row at *
 have t20:row.take 20=row:=List.take_of_length_le af
 refine Xf hC (An @t20 @hlen) ?_
 refine Qh (An @t20 (An @hlen @vH)) ?_
 rw[bw]
 refine ⟨[(0,8)],?_⟩
 refine Qg ?_
 unfold Uz
 rw[cW]
theorem Gd (gl:Nat→AV) (aA dst ae n:Int):PS Tryz.prog gl 75 [.int .i64 aA,.int .i64 dst,.int .i64 ae,.int .i64 n] (.str (be aA 4++be dst 4++be ae 2++be n 2)):=by
 refine Xdx.ps (of_decide_eq_true rfl) (by simp[Qe]) fun c hN hg=>?_
 conv in aQ _ _=>cbv
 refine Qg ?_
 ((first|refine Qx (ins:=[]) (Kp c.gl aA 4 (by decide) (by decide)) ?_ ?_|refine Qt (ins:=[]) (Kp c.gl aA 4 (by decide) (by decide)) ?_ ?_|refine Qs (ins:=[]) (Kp c.gl aA 4 (by decide) (by decide)) ?_ ?_|refine Qq (ins:=[]) (Kp c.gl aA 4 (by decide) (by decide)) ?_ ?_)<;>(have au:=@Qi;refine XG ?_;clear au;(try first|exact rfl|exact True.intro);((try (repeat' with_reducible refine And.intro ?_ ?_));(try any_goals (first|refine zm ?_|exact CL|fail)))))
 ((first|refine Qx (ins:=[0]) (Qz c.gl (be aA 4) dst 4 (by decide) (by simp[Qi])) ?_ ?_|refine Qt (ins:=[0]) (Qz c.gl (be aA 4) dst 4 (by decide) (by simp[Qi])) ?_ ?_|refine Qs (ins:=[0]) (Qz c.gl (be aA 4) dst 4 (by decide) (by simp[Qi])) ?_ ?_|refine Qq (ins:=[0]) (Qz c.gl (be aA 4) dst 4 (by decide) (by simp[Qi])) ?_ ?_)<;>(have au:=@Qi;refine XG ?_;clear au;(try first|exact rfl|exact True.intro);((try (repeat' with_reducible refine And.intro ?_ ?_));(try any_goals (first|refine zm ?_|exact CL|fail)))))
 ((first|refine Qx (ins:=[1]) (Qz c.gl (be aA 4++be dst 4) ae 2 (by decide) (by simp[Qi])) ?_ ?_|refine Qt (ins:=[1]) (Qz c.gl (be aA 4++be dst 4) ae 2 (by decide) (by simp[Qi])) ?_ ?_|refine Qs (ins:=[1]) (Qz c.gl (be aA 4++be dst 4) ae 2 (by decide) (by simp[Qi])) ?_ ?_|refine Qq (ins:=[1]) (Qz c.gl (be aA 4++be dst 4) ae 2 (by decide) (by simp[Qi])) ?_ ?_)<;>(have au:=@Qi;refine XG ?_;clear au;(try first|exact rfl|exact True.intro);((try (repeat' with_reducible refine And.intro ?_ ?_));(try any_goals (first|refine zm ?_|exact CL|fail)))))
 ((first|refine Qx (ins:=[2]) (Qz c.gl (be aA 4++be dst 4++be ae 2) n 2 (by decide) (by simp[Qi])) ?_ ?_|refine Qt (ins:=[2]) (Qz c.gl (be aA 4++be dst 4++be ae 2) n 2 (by decide) (by simp[Qi])) ?_ ?_|refine Qs (ins:=[2]) (Qz c.gl (be aA 4++be dst 4++be ae 2) n 2 (by decide) (by simp[Qi])) ?_ ?_|refine Qq (ins:=[2]) (Qz c.gl (be aA 4++be dst 4++be ae 2) n 2 (by decide) (by simp[Qi])) ?_ ?_)<;>(have au:=@Qi;refine XG ?_;clear au;(try first|exact rfl|exact True.intro);((try (repeat' with_reducible refine And.intro ?_ ?_));(try any_goals (first|refine zm ?_|exact CL|fail)))))
theorem Xyh (A Z:List UInt8) (v:Int) (k:Nat) (hA:A.length=k):((A++[0,0]++Z).set k (Qf v 1)).set (k + 1) (Qf v 0)=A++be v 2++Z:=by
 subst hA;exact Sg A Z 0 0 (Qf v 1) (Qf v 0)
theorem Yew:be 0 4=[0,0]++[0,0]:=by decide
structure xy (p:Pk) (k m:Nat) (row:List UInt8):Prop where
 len:row.length=m + p.body.length
 sn:Xw p=m + p.body.length
 set:∀ v,(row.set k (Qf v 1)).set (k + 1) (Qf v 0)=Uk p++be v 2++jO p
 chk:Zh (Za p.ae p.aA p.dst (Xw p)++row)=Zh (Za p.ae p.aA p.dst (Xw p)++Uk p++[0,0]++jO p)
theorem xy.of {p:Pk} {k m:Nat} {row:List UInt8} (h:row=Uk p++[0,0]++jO p) (hk:(Uk p).length=k) (hm:k + 2 + (jO p).length=m + p.body.length):xy p k m row:=by
 subst h
 refine ⟨by simp only[List.length_append,List.length_cons,List.length_nil];omega,by unfold Xw;omega,fun v=>Xyh _ _ v k hk,by simp only[List.append_assoc]⟩
theorem xy.ck {p:Pk} {k m:Nat} {row:List UInt8} (h:xy p k m row):gP p=if p.ae=17∧Zh (Za p.ae p.aA p.dst (Xw p)++row)=0 then 65535 else Zh (Za p.ae p.aA p.dst (Xw p)++row):=by
 unfold gP;rw[h.chk]
set_option maxHeartbeats 8000000 in
set_option maxRecDepth 20000 in
theorem Xde (gl:Nat→AV) (aA ah dst aj aw id flags seq aL win:Int) (body:List UInt8) (h:Yw (⟨1,aA,ah,dst,aj,aw,id,flags,seq,aL,win,body⟩:Pk)=0):PS Tryz.prog gl 71 [.agg (⟨1,aA,ah,dst,aj,aw,id,flags,seq,aL,win,body⟩:Pk).enc] (.aU [.str (Xu (⟨1,aA,ah,dst,aj,aw,id,flags,seq,aL,win,body⟩:Pk)),.int .i64 0]):=by
 refine Gb.ps (of_decide_eq_true rfl) (by simp[Qe,ai]) fun c hN hg=>?_
 conv in aQ _ _=>cbv
 have hG:=vG c.gl (⟨1,aA,ah,dst,aj,aw,id,flags,seq,aL,win,body⟩:Pk)
 rw[h]at hG
 obtain ⟨_,⟨r1,r2,r3,r4,r5,r6,r7,r8,r9,ij⟩,fo,_⟩:=Wb h
 dsimp only at r1 r2 r3 r4 r5 r6 r7 r8 r9 ij fo
 clear h
 unfold Pk.enc at hG ⊢
 dsimp only at hG ⊢
 obtain ⟨p2,fb⟩:∃ p2:List UInt8,p2=be flags 1++[0]:=⟨_,rfl⟩
 have hl2:p2.length=2:=by rw[fb];rfl
 have lit:[.int .u8 flags,.int .u8 0]=Xq p2:=by
  have e:=xt flags af af
  rw[fb]
  show _=[AV.int .u8 ((Qf flags 0).toNat:Int),AV.int .u8 0]
  rw[e]
 have hS:xy (⟨1,aA,ah,dst,aj,aw,id,flags,seq,aL,win,body⟩:Pk) 2 8 (p2++be 0 2++be (ah + aj) 2++be seq 2++body):=by
  refine .of (by rw[fb,xu];unfold Uk jO;simp) (by simp[Uk,Qi]) (by simp[jO,Qi];omega)
 have lr:(p2++be 0 2++be (ah + aj) 2++be seq 2).length=8:=by simp[Qi,hl2]
 have hm:=hS.len
 have eG:=hS.sn
 dsimp only at hm eG
 have tr:(p2++be 0 2++be (ah + aj) 2++be seq 2).take 8=p2++be 0 2++be (ah + aj) 2++be seq 2:=List.take_of_length_le af
 have bw:=hS.set
 have bE:Xu (⟨1,aA,ah,dst,aj,aw,id,flags,seq,aL,win,body⟩:Pk)=Uz 1 aA dst aw id ((8 + body.length:Nat):Int)++(((p2++be 0 2++be (ah + aj) 2++be seq 2++body).set 2 (Qf (gP (⟨1,aA,ah,dst,aj,aw,id,flags,seq,aL,win,body⟩:Pk)) 1)).set (2 + 1) (Qf (gP (⟨1,aA,ah,dst,aj,aw,id,flags,seq,aL,win,body⟩:Pk)) 0)):=by
  unfold Xu jj;rw[eG,bw]
 have cW:=hS.ck
 rw[eG]at cW
 dsimp only at cW
 have CN:((8 + body.length:Nat):Int)=8 + (body.length:Int):=by omega
 rw[CN]at cW bE
 rw[bE]
 clear bE bw hS eG
 generalize gP (⟨1,aA,ah,dst,aj,aw,id,flags,seq,aL,win,body⟩:Pk)=ck at *
 have qQ:(Za 1 aA dst (8 + (body.length:Int))++(p2++be 0 2++be (ah + aj) 2++be seq 2++body)).length≤200:=by
  unfold Za;simp only[List.length_append]at hm ⊢;split<;>simp[Qi]<;>omega
 have qR:=Cr c.gl (Za 1 aA dst (8 + (body.length:Int))++(p2++be 0 2++be (ah + aj) 2++be seq 2++body)) af
 have xA:=wE (Za 1 aA dst (8 + (body.length:Int))++(p2++be 0 2++be (ah + aj) 2++be seq 2++body))
 have bW:Za 1 aA dst (8 + (body.length:Int))=[]:=rfl
 rw[bW]at qR cW xA
 clear qQ bW
 have sC:(8:Int) + (body.length:Int)=((8 + body.length:Nat):Int):=by omega
 refine Qg ?_
 refine Jj hG ?_
 (refine Qa (fun g0=>?_) (fun g0=>?_)<;>try exact g0.elim)
 refine Qg ?_
 (refine Qa (fun g1=>?_) (fun g1=>?_)<;>try exact g1.elim)
 refine Qg ?_
 refine Jv ?_
 ((first|refine Qx (ins:=[1]) (Qz c.gl p2 0 2 (by decide) (by omega)) ?_ ?_|refine Qt (ins:=[1]) (Qz c.gl p2 0 2 (by decide) (by omega)) ?_ ?_|refine Qs (ins:=[1]) (Qz c.gl p2 0 2 (by decide) (by omega)) ?_ ?_|refine Qq (ins:=[1]) (Qz c.gl p2 0 2 (by decide) (by omega)) ?_ ?_)<;>(have au:=@Qi;have aH:=@lit;have aV:=@hl2;refine XG ?_;clear au aH aV;(try first|exact rfl|exact True.intro);((try (repeat' with_reducible refine And.intro ?_ ?_));(try any_goals (first|refine zm ?_|exact CL|fail)))))
 ((first|refine Qx (ins:=[2]) (Qz c.gl (p2++be 0 2) (ah + aj) 2 (by decide) (by simp[Qi,hl2])) ?_ ?_|refine Qt (ins:=[2]) (Qz c.gl (p2++be 0 2) (ah + aj) 2 (by decide) (by simp[Qi,hl2])) ?_ ?_|refine Qs (ins:=[2]) (Qz c.gl (p2++be 0 2) (ah + aj) 2 (by decide) (by simp[Qi,hl2])) ?_ ?_|refine Qq (ins:=[2]) (Qz c.gl (p2++be 0 2) (ah + aj) 2 (by decide) (by simp[Qi,hl2])) ?_ ?_)<;>(have au:=@Qi;have aH:=@hl2;refine XG ?_;clear au aH;(try first|exact rfl|exact True.intro);((try (repeat' with_reducible refine And.intro ?_ ?_));(try any_goals (first|refine zm ?_|exact CL|fail)))))
 ((first|refine Qx (ins:=[3]) (Qz c.gl (p2++be 0 2++be (ah + aj) 2) seq 2 (by decide) (by simp[Qi,hl2])) ?_ ?_|refine Qt (ins:=[3]) (Qz c.gl (p2++be 0 2++be (ah + aj) 2) seq 2 (by decide) (by simp[Qi,hl2])) ?_ ?_|refine Qs (ins:=[3]) (Qz c.gl (p2++be 0 2++be (ah + aj) 2) seq 2 (by decide) (by simp[Qi,hl2])) ?_ ?_|refine Qq (ins:=[3]) (Qz c.gl (p2++be 0 2++be (ah + aj) 2) seq 2 (by decide) (by simp[Qi,hl2])) ?_ ?_)<;>(have au:=@Qi;have aH:=@hl2;refine XG ?_;clear au aH;(try first|exact rfl|exact True.intro);((try (repeat' with_reducible refine And.intro ?_ ?_));(try any_goals (first|refine zm ?_|exact CL|fail)))))
 refine Jd (An @Qi (An @lr @tr)) ?_
 generalize hR:p2++be 0 2++be (ah + aj) 2++be seq 2++body=R at *
 have tR:R.take (8 + body.length)=R:=List.take_of_length_le af
 (refine Qa (fun g4=>?_) (fun g4=>?_)<;>try exact g4.elim)
 simp only[List.nil_append]at cW qR xA
 generalize Zh (R)=K at *
 refine Qg ?_
 refine Jj qR ?_
 rw[if_neg af]at cW
 subst cW
 (refine Qa (fun g5=>?_) (fun g5=>?_)<;>try exact g5.elim)
 refine Qg ?_
 have xB:((2:Int) + 1).toNat=3:=rfl
 have bw:((R.set 2 (Qf ck 1)).set 3 (Qf ck 0)).length=8 + body.length:=by simp[hm]
 refine Qh (An @hm (An @vH @xB)) ?_
 generalize hS:(R.set 2 (Qf ck 1)).set 3 (Qf ck 0)=S at *
 ((first|refine Qx (ins:=[]) (Jq c.gl 1 aA dst aw id (8 + body.length) (by omega)) ?_ ?_|refine Qt (ins:=[]) (Jq c.gl 1 aA dst aw id (8 + body.length) (by omega)) ?_ ?_|refine Qs (ins:=[]) (Jq c.gl 1 aA dst aw id (8 + body.length) (by omega)) ?_ ?_|refine Qq (ins:=[]) (Jq c.gl 1 aA dst aw id (8 + body.length) (by omega)) ?_ ?_)<;>(have au:=@hm;refine XG ?_;clear au;(try first|exact rfl|exact True.intro);((try (repeat' with_reducible refine And.intro ?_ ?_));(try any_goals (first|refine zm ?_|exact CL|fail)))))
 refine Jd (An @bw @Ji) ?_
 rw[List.take_of_length_le (by simp[Ji,bw])]
set_option maxHeartbeats 8000000 in
set_option maxRecDepth 20000 in
theorem Xqy (gl:Nat→AV) (aA ah dst aj aw id flags seq aL win:Int) (body:List UInt8) (h:Yw (⟨17,aA,ah,dst,aj,aw,id,flags,seq,aL,win,body⟩:Pk)=0):PS Tryz.prog gl 71 [.agg (⟨17,aA,ah,dst,aj,aw,id,flags,seq,aL,win,body⟩:Pk).enc] (.aU [.str (Xu (⟨17,aA,ah,dst,aj,aw,id,flags,seq,aL,win,body⟩:Pk)),.int .i64 0]):=by
 refine Gb.ps (of_decide_eq_true rfl) (by simp[Qe,ai]) fun c hN hg=>?_
 conv in aQ _ _=>cbv
 have hG:=vG c.gl (⟨17,aA,ah,dst,aj,aw,id,flags,seq,aL,win,body⟩:Pk)
 rw[h]at hG
 obtain ⟨_,⟨r1,r2,r3,r4,r5,r6,r7,r8,r9,ij⟩,fo,_⟩:=Wb h
 dsimp only at r1 r2 r3 r4 r5 r6 r7 r8 r9 ij fo
 clear h
 unfold Pk.enc at hG ⊢
 dsimp only at hG ⊢
 have hS:xy (⟨17,aA,ah,dst,aj,aw,id,flags,seq,aL,win,body⟩:Pk) 6 8 (be ah 2++be aj 2++be (8 + body.length) 2++be 0 2++body):=by
  refine .of (by rw[xu];unfold Uk jO;simp) (by simp[Uk,Qi]) (by simp[jO,Qi])
 have lr:(be ah 2++be aj 2++be (8 + body.length) 2++be 0 2).length=8:=by simp[Qi]
 have hm:=hS.len
 have eG:=hS.sn
 dsimp only at hm eG
 have tr:(be ah 2++be aj 2++be (8 + body.length) 2++be 0 2).take 8=be ah 2++be aj 2++be (8 + body.length) 2++be 0 2:=List.take_of_length_le af
 have bw:=hS.set
 have bE:Xu (⟨17,aA,ah,dst,aj,aw,id,flags,seq,aL,win,body⟩:Pk)=Uz 17 aA dst aw id ((8 + body.length:Nat):Int)++(((be ah 2++be aj 2++be (8 + body.length) 2++be 0 2++body).set 6 (Qf (gP (⟨17,aA,ah,dst,aj,aw,id,flags,seq,aL,win,body⟩:Pk)) 1)).set (6 + 1) (Qf (gP (⟨17,aA,ah,dst,aj,aw,id,flags,seq,aL,win,body⟩:Pk)) 0)):=by
  unfold Xu jj;rw[eG,bw]
 have cW:=hS.ck
 rw[eG]at cW
 dsimp only at cW
 have CN:((8 + body.length:Nat):Int)=8 + (body.length:Int):=by omega
 rw[CN]at cW bE
 rw[bE]
 clear bE bw hS eG
 generalize gP (⟨17,aA,ah,dst,aj,aw,id,flags,seq,aL,win,body⟩:Pk)=ck at *
 have qQ:(Za 17 aA dst (8 + (body.length:Int))++(be ah 2++be aj 2++be (8 + body.length) 2++be 0 2++body)).length≤200:=by
  unfold Za;simp only[List.length_append]at hm ⊢;split<;>simp[Qi]<;>omega
 have qR:=Cr c.gl (Za 17 aA dst (8 + (body.length:Int))++(be ah 2++be aj 2++be (8 + body.length) 2++be 0 2++body)) af
 have xA:=wE (Za 17 aA dst (8 + (body.length:Int))++(be ah 2++be aj 2++be (8 + body.length) 2++be 0 2++body))
 have bW:Za 17 aA dst (8 + (body.length:Int))=be aA 4++be dst 4++be 17 2++be (8 + (body.length:Int)) 2:=rfl
 rw[bW]at qR cW xA
 clear qQ bW
 have sC:(8:Int) + (body.length:Int)=((8 + body.length:Nat):Int):=by omega
 refine Qg ?_
 refine Jj hG ?_
 (refine Qa (fun g0=>?_) (fun g0=>?_)<;>try exact g0.elim)
 refine Qg ?_
 (refine Qa (fun g1=>?_) (fun g1=>?_)<;>try exact g1.elim)
 refine Qg ?_
 (refine Qa (fun g2=>?_) (fun g2=>?_)<;>try exact g2.elim)
 refine Qg ?_
 ((first|refine Qx (ins:=[]) (Kp c.gl ah 2 (by decide) (by decide)) ?_ ?_|refine Qt (ins:=[]) (Kp c.gl ah 2 (by decide) (by decide)) ?_ ?_|refine Qs (ins:=[]) (Kp c.gl ah 2 (by decide) (by decide)) ?_ ?_|refine Qq (ins:=[]) (Kp c.gl ah 2 (by decide) (by decide)) ?_ ?_)<;>(have au:=@Qi;refine XG ?_;clear au;(try first|exact rfl|exact True.intro);((try (repeat' with_reducible refine And.intro ?_ ?_));(try any_goals (first|refine zm ?_|exact CL|fail)))))
 ((first|refine Qx (ins:=[1]) (Qz c.gl (be ah 2) aj 2 (by decide) (by simp[Qi])) ?_ ?_|refine Qt (ins:=[1]) (Qz c.gl (be ah 2) aj 2 (by decide) (by simp[Qi])) ?_ ?_|refine Qs (ins:=[1]) (Qz c.gl (be ah 2) aj 2 (by decide) (by simp[Qi])) ?_ ?_|refine Qq (ins:=[1]) (Qz c.gl (be ah 2) aj 2 (by decide) (by simp[Qi])) ?_ ?_)<;>(have au:=@Qi;refine XG ?_;clear au;(try first|exact rfl|exact True.intro);((try (repeat' with_reducible refine And.intro ?_ ?_));(try any_goals (first|refine zm ?_|exact CL|fail)))))
 ((first|refine Qx (ins:=[2]) (Qz c.gl (be ah 2++be aj 2) (8 + body.length) 2 (by decide) (by simp[Qi])) ?_ ?_|refine Qt (ins:=[2]) (Qz c.gl (be ah 2++be aj 2) (8 + body.length) 2 (by decide) (by simp[Qi])) ?_ ?_|refine Qs (ins:=[2]) (Qz c.gl (be ah 2++be aj 2) (8 + body.length) 2 (by decide) (by simp[Qi])) ?_ ?_|refine Qq (ins:=[2]) (Qz c.gl (be ah 2++be aj 2) (8 + body.length) 2 (by decide) (by simp[Qi])) ?_ ?_)<;>(have au:=@Qi;refine XG ?_;clear au;(try first|exact rfl|exact True.intro);((try (repeat' with_reducible refine And.intro ?_ ?_));(try any_goals (first|refine zm ?_|exact CL|fail)))))
 ((first|refine Qx (ins:=[3]) (Qz c.gl (be ah 2++be aj 2++be (8 + body.length) 2) 0 2 (by decide) (by simp[Qi])) ?_ ?_|refine Qt (ins:=[3]) (Qz c.gl (be ah 2++be aj 2++be (8 + body.length) 2) 0 2 (by decide) (by simp[Qi])) ?_ ?_|refine Qs (ins:=[3]) (Qz c.gl (be ah 2++be aj 2++be (8 + body.length) 2) 0 2 (by decide) (by simp[Qi])) ?_ ?_|refine Qq (ins:=[3]) (Qz c.gl (be ah 2++be aj 2++be (8 + body.length) 2) 0 2 (by decide) (by simp[Qi])) ?_ ?_)<;>(have au:=@Qi;refine XG ?_;clear au;(try first|exact rfl|exact True.intro);((try (repeat' with_reducible refine And.intro ?_ ?_));(try any_goals (first|refine zm ?_|exact CL|fail)))))
 refine Jd (An @Qi (An @lr @tr)) ?_
 generalize hR:be ah 2++be aj 2++be (8 + body.length) 2++be 0 2++body=R at *
 have tR:R.take (8 + body.length)=R:=List.take_of_length_le af
 (refine Qa (fun g4=>?_) (fun g4=>?_)<;>try exact g4.elim)
 refine Qg ?_
 ((first|apply Xt|apply Xl|apply Xd|apply Xb)<;>(first|exact (Gd _ aA dst 17 (8 + (body.length:Int)))|(have au:=@Qi;have aH:=@hm;have aV:=@tR;refine XG ?_;clear au aH aV;first|exact rfl|exact True.intro|((try (repeat' with_reducible refine And.intro ?_ ?_));(try any_goals (first|refine zm ?_|exact CL|fail))))))
 generalize Zh (be aA 4++be dst 4++be 17 2++be (8 + (body.length:Int)) 2++R)=K at *
 refine Jj qR ?_
 by_cases Ln:K=0
 ·rw[if_pos ⟨rfl,Ln⟩]at cW
  have Sh:(ck:Int)=65535:=by omega
  rw[Sh]
  clear cW Sh ck
  subst Ln
  (refine Qa (fun g5=>?_) (fun g5=>?_)<;>try exact g5.elim)
  refine Qg ?_
  have xB:((6:Int) + 1).toNat=7:=rfl
  have bw:((R.set 6 (Qf 65535 1)).set 7 (Qf 65535 0)).length=8 + body.length:=by simp[hm]
  refine Qh (An @hm (An @vH @xB)) ?_
  generalize hS:(R.set 6 (Qf 65535 1)).set 7 (Qf 65535 0)=S at *
  ((first|refine Qx (ins:=[]) (Jq c.gl 17 aA dst aw id (8 + body.length) (by omega)) ?_ ?_|refine Qt (ins:=[]) (Jq c.gl 17 aA dst aw id (8 + body.length) (by omega)) ?_ ?_|refine Qs (ins:=[]) (Jq c.gl 17 aA dst aw id (8 + body.length) (by omega)) ?_ ?_|refine Qq (ins:=[]) (Jq c.gl 17 aA dst aw id (8 + body.length) (by omega)) ?_ ?_)<;>(have au:=@hm;refine XG ?_;clear au;(try first|exact rfl|exact True.intro);((try (repeat' with_reducible refine And.intro ?_ ?_));(try any_goals (first|refine zm ?_|exact CL|fail)))))
  refine Jd (An @bw @Ji) ?_
  rw[List.take_of_length_le (by simp[Ji,bw])]
 ·rw[if_neg fun h=>Ln h.2]at cW
  subst cW
  have hKb:((ck:Int) == 0)=false:=by simp;omega
  refine Qh @hKb ?_
  (refine Qa (fun g5=>?_) (fun g5=>?_)<;>try exact g5.elim)
  refine Qg ?_
  have xB:((6:Int) + 1).toNat=7:=rfl
  have bw:((R.set 6 (Qf ck 1)).set 7 (Qf ck 0)).length=8 + body.length:=by simp[hm]
  refine Qh (An @hm (An @vH @xB)) ?_
  generalize hS:(R.set 6 (Qf ck 1)).set 7 (Qf ck 0)=S at *
  ((first|refine Qx (ins:=[]) (Jq c.gl 17 aA dst aw id (8 + body.length) (by omega)) ?_ ?_|refine Qt (ins:=[]) (Jq c.gl 17 aA dst aw id (8 + body.length) (by omega)) ?_ ?_|refine Qs (ins:=[]) (Jq c.gl 17 aA dst aw id (8 + body.length) (by omega)) ?_ ?_|refine Qq (ins:=[]) (Jq c.gl 17 aA dst aw id (8 + body.length) (by omega)) ?_ ?_)<;>(have au:=@hm;refine XG ?_;clear au;(try first|exact rfl|exact True.intro);((try (repeat' with_reducible refine And.intro ?_ ?_));(try any_goals (first|refine zm ?_|exact CL|fail)))))
  refine Jd (An @bw @Ji) ?_
  rw[List.take_of_length_le (by simp[Ji,bw])]
set_option maxHeartbeats 8000000 in
set_option maxRecDepth 20000 in
theorem Xms (gl:Nat→AV) (aA ah dst aj aw id flags seq aL win:Int) (body:List UInt8) (h:Yw (⟨6,aA,ah,dst,aj,aw,id,flags,seq,aL,win,body⟩:Pk)=0):PS Tryz.prog gl 71 [.agg (⟨6,aA,ah,dst,aj,aw,id,flags,seq,aL,win,body⟩:Pk).enc] (.aU [.str (Xu (⟨6,aA,ah,dst,aj,aw,id,flags,seq,aL,win,body⟩:Pk)),.int .i64 0]):=by
 refine Gb.ps (of_decide_eq_true rfl) (by simp[Qe,ai]) fun c hN hg=>?_
 conv in aQ _ _=>cbv
 have hG:=vG c.gl (⟨6,aA,ah,dst,aj,aw,id,flags,seq,aL,win,body⟩:Pk)
 rw[h]at hG
 obtain ⟨_,⟨r1,r2,r3,r4,r5,r6,r7,r8,r9,ij⟩,fo,_⟩:=Wb h
 dsimp only at r1 r2 r3 r4 r5 r6 r7 r8 r9 ij fo
 clear h
 unfold Pk.enc at hG ⊢
 dsimp only at hG ⊢
 obtain ⟨p2,fb⟩:∃ p2:List UInt8,p2=[80]++be flags 1:=⟨_,rfl⟩
 have hl2:p2.length=2:=by rw[fb];rfl
 have hS:xy (⟨6,aA,ah,dst,aj,aw,id,flags,seq,aL,win,body⟩:Pk) 16 20 (be ah 2++be aj 2++be seq 4++be aL 4++p2++be win 2++be 0 4++body):=by
  refine .of (by rw[fb,Yew];unfold Uk jO;simp) (by simp[Uk,Qi]) (by simp[jO,Qi];omega)
 have lit:∀ l:List UInt8,l++[UInt8.ofNat 80]++[UInt8.ofNat flags.toNat]=l++p2:=fun l=>by
  have e:=xt flags af af
  have e2:UInt8.ofNat flags.toNat=Qf flags 0:=UInt8.toNat_inj.1 (by simp only[UInt8.toNat_ofNat',Nat.reducePow];omega)
  rw[fb,e2,List.append_assoc];rfl
 have lr:(be ah 2++be aj 2++be seq 4++be aL 4++p2++be win 2++be 0 4).length=20:=by simp[Qi,hl2]
 have t12:(be ah 2++be aj 2++be seq 4++be aL 4).take 12=be ah 2++be aj 2++be seq 4++be aL 4:=List.take_of_length_le (by simp[Qi])
 have hm:=hS.len
 have eG:=hS.sn
 dsimp only at hm eG
 have tr:(be ah 2++be aj 2++be seq 4++be aL 4++p2++be win 2++be 0 4).take 20=be ah 2++be aj 2++be seq 4++be aL 4++p2++be win 2++be 0 4:=List.take_of_length_le af
 have bw:=hS.set
 have bE:Xu (⟨6,aA,ah,dst,aj,aw,id,flags,seq,aL,win,body⟩:Pk)=Uz 6 aA dst aw id ((20 + body.length:Nat):Int)++(((be ah 2++be aj 2++be seq 4++be aL 4++p2++be win 2++be 0 4++body).set 16 (Qf (gP (⟨6,aA,ah,dst,aj,aw,id,flags,seq,aL,win,body⟩:Pk)) 1)).set (16 + 1) (Qf (gP (⟨6,aA,ah,dst,aj,aw,id,flags,seq,aL,win,body⟩:Pk)) 0)):=by
  unfold Xu jj;rw[eG,bw]
 have cW:=hS.ck
 rw[eG]at cW
 dsimp only at cW
 have CN:((20 + body.length:Nat):Int)=20 + (body.length:Int):=by omega
 rw[CN]at cW bE
 rw[bE]
 clear bE bw hS eG
 generalize gP (⟨6,aA,ah,dst,aj,aw,id,flags,seq,aL,win,body⟩:Pk)=ck at *
 have qQ:(Za 6 aA dst (20 + (body.length:Int))++(be ah 2++be aj 2++be seq 4++be aL 4++p2++be win 2++be 0 4++body)).length≤200:=by
  unfold Za;simp only[List.length_append]at hm ⊢;split<;>simp[Qi]<;>omega
 have qR:=Cr c.gl (Za 6 aA dst (20 + (body.length:Int))++(be ah 2++be aj 2++be seq 4++be aL 4++p2++be win 2++be 0 4++body)) af
 have xA:=wE (Za 6 aA dst (20 + (body.length:Int))++(be ah 2++be aj 2++be seq 4++be aL 4++p2++be win 2++be 0 4++body))
 have bW:Za 6 aA dst (20 + (body.length:Int))=be aA 4++be dst 4++be 6 2++be (20 + (body.length:Int)) 2:=rfl
 rw[bW]at qR cW xA
 clear qQ bW
 have sC:(20:Int) + (body.length:Int)=((20 + body.length:Nat):Int):=by omega
 refine Qg ?_
 refine Jj hG ?_
 (refine Qa (fun g0=>?_) (fun g0=>?_)<;>try exact g0.elim)
 refine Qg ?_
 (refine Qa (fun g1=>?_) (fun g1=>?_)<;>try exact g1.elim)
 refine Qg ?_
 (refine Qa (fun g2=>?_) (fun g2=>?_)<;>try exact g2.elim)
 refine Qg ?_
 (refine Qa (fun g3=>?_) (fun g3=>?_)<;>try exact g3.elim)
 refine Qg ?_
 ((first|refine Qx (ins:=[]) (Kp c.gl ah 2 (by decide) (by decide)) ?_ ?_|refine Qt (ins:=[]) (Kp c.gl ah 2 (by decide) (by decide)) ?_ ?_|refine Qs (ins:=[]) (Kp c.gl ah 2 (by decide) (by decide)) ?_ ?_|refine Qq (ins:=[]) (Kp c.gl ah 2 (by decide) (by decide)) ?_ ?_)<;>(have au:=@Qi;refine XG ?_;clear au;(try first|exact rfl|exact True.intro);((try (repeat' with_reducible refine And.intro ?_ ?_));(try any_goals (first|refine zm ?_|exact CL|fail)))))
 ((first|refine Qx (ins:=[1]) (Qz c.gl (be ah 2) aj 2 (by decide) (by simp[Qi])) ?_ ?_|refine Qt (ins:=[1]) (Qz c.gl (be ah 2) aj 2 (by decide) (by simp[Qi])) ?_ ?_|refine Qs (ins:=[1]) (Qz c.gl (be ah 2) aj 2 (by decide) (by simp[Qi])) ?_ ?_|refine Qq (ins:=[1]) (Qz c.gl (be ah 2) aj 2 (by decide) (by simp[Qi])) ?_ ?_)<;>(have au:=@Qi;refine XG ?_;clear au;(try first|exact rfl|exact True.intro);((try (repeat' with_reducible refine And.intro ?_ ?_));(try any_goals (first|refine zm ?_|exact CL|fail)))))
 ((first|refine Qx (ins:=[2]) (Qz c.gl (be ah 2++be aj 2) seq 4 (by decide) (by simp[Qi])) ?_ ?_|refine Qt (ins:=[2]) (Qz c.gl (be ah 2++be aj 2) seq 4 (by decide) (by simp[Qi])) ?_ ?_|refine Qs (ins:=[2]) (Qz c.gl (be ah 2++be aj 2) seq 4 (by decide) (by simp[Qi])) ?_ ?_|refine Qq (ins:=[2]) (Qz c.gl (be ah 2++be aj 2) seq 4 (by decide) (by simp[Qi])) ?_ ?_)<;>(have au:=@Qi;refine XG ?_;clear au;(try first|exact rfl|exact True.intro);((try (repeat' with_reducible refine And.intro ?_ ?_));(try any_goals (first|refine zm ?_|exact CL|fail)))))
 ((first|refine Qx (ins:=[3]) (Qz c.gl (be ah 2++be aj 2++be seq 4) aL 4 (by decide) (by simp[Qi])) ?_ ?_|refine Qt (ins:=[3]) (Qz c.gl (be ah 2++be aj 2++be seq 4) aL 4 (by decide) (by simp[Qi])) ?_ ?_|refine Qs (ins:=[3]) (Qz c.gl (be ah 2++be aj 2++be seq 4) aL 4 (by decide) (by simp[Qi])) ?_ ?_|refine Qq (ins:=[3]) (Qz c.gl (be ah 2++be aj 2++be seq 4) aL 4 (by decide) (by simp[Qi])) ?_ ?_)<;>(have au:=@Qi;refine XG ?_;clear au;(try first|exact rfl|exact True.intro);((try (repeat' with_reducible refine And.intro ?_ ?_));(try any_goals (first|refine zm ?_|exact CL|fail)))))
 refine Jd @Qi ?_
 refine Jd (An @Qi (An @t12 @lit)) ?_
 ((first|refine Qx (ins:=[6]) (Qz c.gl (be ah 2++be aj 2++be seq 4++be aL 4++p2) win 2 (by decide) (by simp[Qi,hl2])) ?_ ?_|refine Qt (ins:=[6]) (Qz c.gl (be ah 2++be aj 2++be seq 4++be aL 4++p2) win 2 (by decide) (by simp[Qi,hl2])) ?_ ?_|refine Qs (ins:=[6]) (Qz c.gl (be ah 2++be aj 2++be seq 4++be aL 4++p2) win 2 (by decide) (by simp[Qi,hl2])) ?_ ?_|refine Qq (ins:=[6]) (Qz c.gl (be ah 2++be aj 2++be seq 4++be aL 4++p2) win 2 (by decide) (by simp[Qi,hl2])) ?_ ?_)<;>(have au:=@Qi;have aH:=@hl2;refine XG ?_;clear au aH;(try first|exact rfl|exact True.intro);((try (repeat' with_reducible refine And.intro ?_ ?_));(try any_goals (first|refine zm ?_|exact CL|fail)))))
 ((first|refine Qx (ins:=[7]) (Qz c.gl (be ah 2++be aj 2++be seq 4++be aL 4++p2++be win 2) 0 4 (by decide) (by simp[Qi,hl2])) ?_ ?_|refine Qt (ins:=[7]) (Qz c.gl (be ah 2++be aj 2++be seq 4++be aL 4++p2++be win 2) 0 4 (by decide) (by simp[Qi,hl2])) ?_ ?_|refine Qs (ins:=[7]) (Qz c.gl (be ah 2++be aj 2++be seq 4++be aL 4++p2++be win 2) 0 4 (by decide) (by simp[Qi,hl2])) ?_ ?_|refine Qq (ins:=[7]) (Qz c.gl (be ah 2++be aj 2++be seq 4++be aL 4++p2++be win 2) 0 4 (by decide) (by simp[Qi,hl2])) ?_ ?_)<;>(have au:=@Qi;have aH:=@hl2;refine XG ?_;clear au aH;(try first|exact rfl|exact True.intro);((try (repeat' with_reducible refine And.intro ?_ ?_));(try any_goals (first|refine zm ?_|exact CL|fail)))))
 refine Jd (An @Qi (An @lr @tr)) ?_
 generalize hR:be ah 2++be aj 2++be seq 4++be aL 4++p2++be win 2++be 0 4++body=R at *
 have tR:R.take (20 + body.length)=R:=List.take_of_length_le af
 (refine Qa (fun g4=>?_) (fun g4=>?_)<;>try exact g4.elim)
 refine Qg ?_
 ((first|apply Xt|apply Xl|apply Xd|apply Xb)<;>(first|exact (Gd _ aA dst 6 (20 + (body.length:Int)))|(have au:=@Qi;have aH:=@hm;have aV:=@tR;refine XG ?_;clear au aH aV;first|exact rfl|exact True.intro|((try (repeat' with_reducible refine And.intro ?_ ?_));(try any_goals (first|refine zm ?_|exact CL|fail))))))
 generalize Zh (be aA 4++be dst 4++be 6 2++be (20 + (body.length:Int)) 2++R)=K at *
 refine Jj qR ?_
 rw[if_neg af]at cW
 subst cW
 (refine Qa (fun g5=>?_) (fun g5=>?_)<;>try exact g5.elim)
 refine Qg ?_
 have xB:((16:Int) + 1).toNat=17:=rfl
 have bw:((R.set 16 (Qf ck 1)).set 17 (Qf ck 0)).length=20 + body.length:=by simp[hm]
 refine Qh (An @hm (An @vH @xB)) ?_
 generalize hS:(R.set 16 (Qf ck 1)).set 17 (Qf ck 0)=S at *
 ((first|refine Qx (ins:=[]) (Jq c.gl 6 aA dst aw id (20 + body.length) (by omega)) ?_ ?_|refine Qt (ins:=[]) (Jq c.gl 6 aA dst aw id (20 + body.length) (by omega)) ?_ ?_|refine Qs (ins:=[]) (Jq c.gl 6 aA dst aw id (20 + body.length) (by omega)) ?_ ?_|refine Qq (ins:=[]) (Jq c.gl 6 aA dst aw id (20 + body.length) (by omega)) ?_ ?_)<;>(have au:=@hm;refine XG ?_;clear au;(try first|exact rfl|exact True.intro);((try (repeat' with_reducible refine And.intro ?_ ?_));(try any_goals (first|refine zm ?_|exact CL|fail)))))
 refine Jd (An @bw @Ji) ?_
 rw[List.take_of_length_le (by simp[Ji,bw])]
theorem Xpy (gl:Nat→AV) (p:Pk) (h:Yw p≠0):PS Tryz.prog gl 71 [.agg p.enc] (.aU [.str [],.int .i64 (Yw p)]):=by
 refine Gb.ps (of_decide_eq_true rfl) (by simp[Qe,ai]) fun c hN hg=>?_
 conv in aQ _ _=>cbv
 have hG:=vG c.gl p
 generalize Yw p=E at *
 unfold Pk.enc at hG ⊢
 refine Qg ?_
 refine Jj hG ?_
 (refine Qa (fun g0=>?_) (fun g0=>?_)<;>try exact g0.elim)
 ·exact Qw
 ·exact (h g0).elim
theorem Xwd (gl:Nat→AV) (p:Pk):PS Tryz.prog gl 71 [.agg p.enc] (Lg p):=by
 unfold Lg
 by_cases h:Yw p=0
 ·rw[if_pos h]
  have hp:=(Wb h).1
  rcases p with ⟨ae,aA,ah,dst,aj,aw,id,flags,seq,aL,win,body⟩
  dsimp only at hp
  rcases hp with rfl|rfl|rfl
  ·exact Xde gl aA ah dst aj aw id flags seq aL win body h
  ·exact Xms gl aA ah dst aj aw id flags seq aL win body h
  ·exact Xqy gl aA ah dst aj aw id flags seq aL win body h
 ·rw[if_neg h];exact Xpy gl p h
def G1 (f:List UInt8):Prop:=f.length < 20∨b1 f 0≠69∨w2 f 2≠f.length
def G2 (f:List UInt8):Prop:=cp (f.take 20)≠65535
def G3 (f:List UInt8):Prop:=b1 f 1≠0∨w2 f 6≠0
def G4 (f:List UInt8):Prop:=b1 f 8=0
def G5 (f:List UInt8):Prop:=¬ (b1 f 9=1∨b1 f 9=6∨b1 f 9=17)
def G6 (f:List UInt8):Prop:=(f.drop 20).length < (if b1 f 9=6 then 20 else 8)
def G7 (f:List UInt8):Prop:=cp (Za (b1 f 9) (w4 f 12) (w4 f 16) (f.drop 20).length++f.drop 20)≠65535∨(b1 f 9=17∧w2 (f.drop 20) 6=0)
def G8 (f:List UInt8):Prop:=b1 f 9=1∧((b1 (f.drop 20) 0≠8∧b1 (f.drop 20) 0≠0)∨b1 (f.drop 20) 1≠0)
def G9 (f:List UInt8):Prop:=b1 f 9=17∧w2 (f.drop 20) 4≠(f.drop 20).length
def qS (f:List UInt8):Prop:=b1 f 9=6∧(b1 (f.drop 20) 12≠80∨63 < b1 (f.drop 20) 13∨w2 (f.drop 20) 18≠0)
theorem CO {f:List UInt8} (h:G1 f):bY f=1:=if_pos h
theorem Lp {f:List UInt8} (h1:¬ G1 f) (h:G2 f):bY f=3:=(if_neg h1).trans (if_pos h)
theorem Ge {f:List UInt8} (h1:¬ G1 f) (h2:¬ G2 f) (h:G3 f):bY f=4:=(if_neg h1).trans ((if_neg h2).trans (if_pos h))
theorem Lq {f:List UInt8} (h1:¬ G1 f) (h2:¬ G2 f) (h3:¬ G3 f) (h:G4 f):bY f=12:=(if_neg h1).trans ((if_neg h2).trans ((if_neg h3).trans (if_pos h)))
structure H4 (f:List UInt8):Prop where
 g1:¬ G1 f
 g2:¬ G2 f
 g3:¬ G3 f
 g4:¬ G4 f
theorem Lr {f:List UInt8} (k:H4 f) (h:G5 f):bY f=4:=(if_neg k.g1).trans ((if_neg k.g2).trans ((if_neg k.g3).trans ((if_neg k.g4).trans (if_pos h))))
theorem CP {f:List UInt8} (k:H4 f) (h5:¬ G5 f) (h:G6 f):bY f=1:=(if_neg k.g1).trans ((if_neg k.g2).trans ((if_neg k.g3).trans ((if_neg k.g4).trans ((if_neg h5).trans (if_pos h)))))
structure H6 (f:List UInt8):Prop where
 g:H4 f
 g5:¬ G5 f
 g6:¬ G6 f
theorem Ah {f:List UInt8} (k:H6 f) (h:G7 f):bY f=3:=(if_neg k.g.g1).trans ((if_neg k.g.g2).trans ((if_neg k.g.g3).trans ((if_neg k.g.g4).trans ((if_neg k.g5).trans ((if_neg k.g6).trans (if_pos h))))))
theorem CQ {f:List UInt8} (k:H6 f) (h7:¬ G7 f) (h:G8 f):bY f=4:=(if_neg k.g.g1).trans ((if_neg k.g.g2).trans ((if_neg k.g.g3).trans ((if_neg k.g.g4).trans ((if_neg k.g5).trans ((if_neg k.g6).trans ((if_neg h7).trans (if_pos h)))))))
theorem Ls {f:List UInt8} (k:H6 f) (h7:¬ G7 f) (h8:¬ G8 f) (h:G9 f):bY f=1:=(if_neg k.g.g1).trans ((if_neg k.g.g2).trans ((if_neg k.g.g3).trans ((if_neg k.g.g4).trans ((if_neg k.g5).trans ((if_neg k.g6).trans ((if_neg h7).trans ((if_neg h8).trans (if_pos h))))))))
theorem CR {f:List UInt8} (k:H6 f) (h7:¬ G7 f) (h8:¬ G8 f) (h9:¬ G9 f) (h:qS f):bY f=4:=(if_neg k.g.g1).trans ((if_neg k.g.g2).trans ((if_neg k.g.g3).trans ((if_neg k.g.g4).trans ((if_neg k.g5).trans ((if_neg k.g6).trans ((if_neg h7).trans ((if_neg h8).trans ((if_neg h9).trans (if_pos h)))))))))
theorem CS {f:List UInt8} (k:H6 f) (h7:¬ G7 f) (h8:¬ G8 f) (h9:¬ G9 f) (eH:¬ qS f):bY f=Yw (aB f):=(if_neg k.g.g1).trans ((if_neg k.g.g2).trans ((if_neg k.g.g3).trans ((if_neg k.g.g4).trans ((if_neg k.g5).trans ((if_neg k.g6).trans ((if_neg h7).trans ((if_neg h8).trans ((if_neg h9).trans (if_neg eH)))))))))
theorem Qn (l:List UInt8) (k:Nat):((l.getD k 0).toNat:Int)=b1 l k:=rfl
theorem sR (l:List UInt8) (k:Nat):0≤b1 l k∧b1 l k≤255:=by unfold b1;have:=UInt8.toNat_lt (l.getD k 0);omega
theorem CT (l:List UInt8) (k:Nat) (h:k + 2≤l.length):0≤w2 l k∧w2 l k≤65535:=by unfold w2;have:=EP _ (tz l k 2 h);omega
theorem Lt (l:List UInt8) (k:Nat) (h:k + 4≤l.length):0≤w4 l k∧w4 l k≤4294967295:=by unfold w4;have:=EO _ (tz l k 4 h);omega
theorem gI (gl:Nat→AV) (l:List UInt8) (k:Nat):PS Tryz.prog gl 73 [.str ((l.drop k).take 2)] (.int .i64 (w2 l k)):=Se gl _ (by rw[List.length_take];omega)
theorem Gf (gl:Nat→AV) (l:List UInt8) (k:Nat):PS Tryz.prog gl 73 [.str ((l.drop k).take 4)] (.int .i64 (w4 l k)):=Se gl _ (by rw[List.length_take];omega)
theorem Yg {l:List UInt8} {e:Int} (h:bY l=e) (he:e≠0):Uu l=.aU [.agg eF.enc,.int .i64 e]:=by
 unfold Uu;rw[if_neg af,h]
theorem Sj {l:List UInt8} (h:bY l=0):Uu l=.aU [.agg (aB l).enc,.int .i64 0]:=by
 unfold Uu;rw[if_pos h]
theorem Xva (l:List UInt8):Qe 0 (Uu l):=by
 unfold Uu;split<;>simp[Qe,ai,Pk.enc]
theorem Gg {l:List UInt8} {e:Int} (p:Pk) (h:bY l=e) (hp:aB l=p):Uu l=if e=0 then .aU [.agg p.enc,.int .i64 0] else .aU [.agg eF.enc,.int .i64 e]:=by
 unfold Uu;rw[h,hp]
set_option maxHeartbeats 16000000 in
set_option maxRecDepth 20000 in
theorem xC (gl:Nat→AV) (l:List UInt8) (hl:l.length≤140737488351232):PS Tryz.prog gl 34 [.str l] (Uu l):=by
 refine Xoz.ps (of_decide_eq_true rfl) (Xva l) fun c hN hg=>?_
 conv in aQ _ _=>cbv
 have c0:=sR l 0
 have c1:=sR l 1
 have c8:=sR l 8
 have c9:=sR l 9
 by_cases h1:l.length < 20
 ·have d1:decide ((l.length:Int) < 20)=true:=by simp;omega
  refine Qh @d1 ?_
  ((first|apply Ym|apply Yb)<;>(have au:=@d1;refine XG ?_;clear au;first|exact rfl|exact True.intro|((try (repeat' with_reducible refine And.intro ?_ ?_));(try any_goals (first|refine zm ?_|exact CL|fail)))))
  (refine Qa (fun g1=>?_) (fun g1=>?_)<;>try exact g1.elim)
  rw[Yg (CO (.inl h1)) aP]
  refine Qh @Qn ?_
  exact Kh (ip []) (Kl c.gl 1) (An @gH.eq_1 (An @eF.eq_1 (An @Pk.enc.eq_1 @Qn)))
 have d1:decide ((l.length:Int) < 20)=false:=by simp;omega
 by_cases h2:b1 l 0=69
 rotate_left
 ·have h2b:(b1 l 0 != 69)=true:=by simp[h2]
  refine Qh (An @Qn (An @h2b @d1)) ?_
  ((first|apply Ym|apply Yb)<;>(have au:=@d1;refine XG ?_;clear au;first|exact rfl|exact True.intro|((try (repeat' with_reducible refine And.intro ?_ ?_));(try any_goals (first|refine zm ?_|exact CL|fail)))))
  (refine Qa (fun g1=>?_) (fun g1=>?_)<;>try exact g1.elim)
  rw[Yg (CO (.inr (.inl h2))) aP]
  refine Qh @Qn ?_
  exact Kh (ip []) (Kl c.gl 1) (An @gH.eq_1 (An @eF.eq_1 (An @Pk.enc.eq_1 @Qn)))
 refine Qh (An @Qn (An @h2 @d1)) ?_
 ((first|apply Xt|apply Xl|apply Xd|apply Xb)<;>(first|exact (gI _ l 2)|(have au:=@Qn;have aH:=@h2;refine XG ?_;clear au aH;first|exact rfl|exact True.intro|((try (repeat' with_reducible refine And.intro ?_ ?_));(try any_goals (first|refine zm ?_|exact CL|fail))))))
 (refine Qa (fun h3=>?_) (fun h3=>?_)<;>try exact h3.elim)
 ·rw[Yg (CO (.inr (.inr h3))) aP]
  refine Qh @Qn ?_
  exact Kh (ip []) (Kl c.gl 1) (An @gH.eq_1 (An @eF.eq_1 (An @Pk.enc.eq_1 @Qn)))
 have k1:¬ G1 l:=by unfold G1;omega
 refine Qg ?_
 ((first|apply Xt|apply Xl|apply Xd|apply Xb)<;>(first|exact (sJ _ (l.take 20) (by rw[List.length_take];omega))|(refine XG ?_;first|exact rfl|exact True.intro|((try (repeat' with_reducible refine And.intro ?_ ?_));(try any_goals (first|refine zm ?_|exact CL|fail))))))
 (refine Qa (fun h4=>?_) (fun h4=>?_)<;>try exact h4.elim)
 ·rw[Yg (Lp k1 (by unfold G2;omega)) aP]
  refine Qh @Qn ?_
  exact Kh (ip []) (Kl c.gl 3) (An @gH.eq_1 (An @eF.eq_1 (An @Pk.enc.eq_1 @Qn)))
 have k2:¬ G2 l:=by unfold G2;omega
 by_cases h5:b1 l 1=0
 rotate_left
 ·have h5b:(b1 l 1 != 0)=true:=by simp[h5]
  refine Qh (An @Qn @h5b) ?_
  ((first|apply Ym|apply Yb)<;>(refine XG ?_;first|exact rfl|exact True.intro|((try (repeat' with_reducible refine And.intro ?_ ?_));(try any_goals (first|refine zm ?_|exact CL|fail)))))
  (refine Qa (fun g1=>?_) (fun g1=>?_)<;>try exact g1.elim)
  rw[Yg (Ge k1 k2 (.inl h5)) aP]
  refine Qh @Qn ?_
  exact Kh (ip []) (Kl c.gl 4) (An @gH.eq_1 (An @eF.eq_1 (An @Pk.enc.eq_1 @Qn)))
 refine Qh (An @Qn @h5) ?_
 ((first|apply Xt|apply Xl|apply Xd|apply Xb)<;>(first|exact (gI _ l 6)|(have au:=@Qn;have aH:=@h5;refine XG ?_;clear au aH;first|exact rfl|exact True.intro|((try (repeat' with_reducible refine And.intro ?_ ?_));(try any_goals (first|refine zm ?_|exact CL|fail))))))
 (refine Qa (fun h6=>?_) (fun h6=>?_)<;>try exact h6.elim)
 ·rw[Yg (Ge k1 k2 (.inr h6)) aP]
  refine Qh @Qn ?_
  exact Kh (ip []) (Kl c.gl 4) (An @gH.eq_1 (An @eF.eq_1 (An @Pk.enc.eq_1 @Qn)))
 have k3:¬ G3 l:=by unfold G3;omega
 refine Qh @Qn ?_
 ((first|apply Xt|apply Xl|apply Xd|apply Xb)<;>(first|exact (Gf _ l 12)|(have au:=@Qn;refine XG ?_;clear au;first|exact rfl|exact True.intro|((try (repeat' with_reducible refine And.intro ?_ ?_));(try any_goals (first|refine zm ?_|exact CL|fail))))))
 ((first|apply Xt|apply Xl|apply Xd|apply Xb)<;>(first|exact (Gf _ l 16)|(have au:=@Qn;refine XG ?_;clear au;first|exact rfl|exact True.intro|((try (repeat' with_reducible refine And.intro ?_ ?_));(try any_goals (first|refine zm ?_|exact CL|fail))))))
 ((first|apply Xt|apply Xl|apply Xd|apply Xb)<;>(first|exact (gI _ l 4)|(have au:=@Qn;refine XG ?_;clear au;first|exact rfl|exact True.intro|((try (repeat' with_reducible refine And.intro ?_ ?_));(try any_goals (first|refine zm ?_|exact CL|fail))))))
 (refine Qa (fun h7=>?_) (fun h7=>?_)<;>try exact h7.elim)
 ·rw[Yg (Lq k1 k2 k3 h7) aP]
  refine Qh @Qn ?_
  exact Kh (ip []) (Kl c.gl 12) (An @gH.eq_1 (An @eF.eq_1 (An @Pk.enc.eq_1 @Qn)))
 have K:H4 l:=⟨k1,k2,k3,h7⟩
 clear k1 k2 k3
 have e4:0≤w4 l 12∧w4 l 12≤4294967295:=Lt _ _ af
 have e5:0≤w4 l 16∧w4 l 16≤4294967295:=Lt _ _ af
 have cE:=Gc c.gl (b1 l 9)
 by_cases h8:b1 l 9=1∨b1 l 9=6∨b1 l 9=17
 rotate_left
 ·have hz:nA (b1 l 9)=.aU [.int .i64 0,.int .i64 0]:=by unfold nA;rw[if_neg af,if_neg af,if_neg af]
  rw[hz]at cE
  refine Qg ?_
  refine Jj cE ?_
  (refine Qa (fun g1=>?_) (fun g1=>?_)<;>try exact g1.elim)
  rw[Yg (Lr K h8) aP]
  refine Qh @Qn ?_
  exact Kh (ip []) (Kl c.gl 4) (An @gH.eq_1 (An @eF.eq_1 (An @Pk.enc.eq_1 @Qn)))
 have k5:¬ G5 l:=fun h=>h h8
 generalize hs:l.drop 20=s
 have jk:s.length=l.length - 20:=by rw[← hs,List.length_drop]
 have f0:=sR s 0
 have f1:=sR s 1
 have f12:=sR s 12
 have f13:=sR s 13
 rcases h8 with h9|h9|h9
 ·have hz:nA (b1 l 9)=.aU [.int .i64 8,.int .i64 2]:=by rw[h9];rfl
  rw[hz,h9]at cE
  rw[h9]
  clear hz
  refine Qh @hs ?_
  refine Jj cE ?_
  (refine Qa (fun g1=>?_) (fun g1=>?_)<;>try exact g1.elim)
  refine Qg ?_
  (refine Qa (fun eH=>?_) (fun eH=>?_)<;>try exact eH.elim)
  ·rw[Yg (CP K k5 (by unfold G6;rw[hs,h9];simp;omega)) aP]
   refine Qh @Qn ?_
   exact Kh (ip []) (Kl c.gl 1) (An @gH.eq_1 (An @eF.eq_1 (An @Pk.enc.eq_1 @Qn)))
  have K6:H6 l:=⟨K,k5,by unfold G6;rw[hs,h9];simp;omega⟩
  clear K k5
  have hO:=sJ c.gl s af
  have sS:G7 l ↔ cp s≠65535:=by unfold G7;rw[hs,h9];simp[Za]
  generalize cp s=O at *
  refine Qg ?_
  (refine Qa (fun g2=>?_) (fun g2=>?_)<;>try exact g2.elim)
  refine Qg ?_
  have k7:¬ G7 l∨(G7 l∧O≠65535):=by by_cases h:O=65535<;>simp[sS,h]
  refine Jj hO ?_
  by_cases jI:O=65535
  rotate_left
  ·have d2:((O:Int) != 65535)=true:=by simp;omega
   refine Qh @d2 ?_
   ((first|apply Ym|apply Yb)<;>(have au:=@d2;refine XG ?_;clear au;first|exact rfl|exact True.intro|((try (repeat' with_reducible refine And.intro ?_ ?_));(try any_goals (first|refine zm ?_|exact CL|fail)))))
   (refine Qa (fun g3=>?_) (fun g3=>?_)<;>try exact g3.elim)
   rw[Yg (Ah K6 (sS.2 jI)) aP]
   refine Qh @Qn ?_
   exact Kh (ip []) (Kl c.gl 3) (An @gH.eq_1 (An @eF.eq_1 (An @Pk.enc.eq_1 @Qn)))
  have d2:((O:Int) != 65535)=false:=by simp;omega
  have k7:¬ G7 l:=fun h=>sS.1 h jI
  refine Qh @d2 ?_
  ((first|apply Ym|apply Yb)<;>(have au:=@d2;refine XG ?_;clear au;first|exact rfl|exact True.intro|((try (repeat' with_reducible refine And.intro ?_ ?_));(try any_goals (first|refine zm ?_|exact CL|fail)))))
  (refine Qa (fun g3=>?_) (fun g3=>?_)<;>try exact g3.elim)
  refine Qh @Qn ?_
  have k9:¬ G9 l:=fun h=>by have:=h.1;omega
  have qT:¬ qS l:=fun h=>by have:=h.1;omega
  (refine Qa (fun g4=>?_) (fun g4=>?_)<;>try exact g4.elim)
  refine Qh @Qn ?_
  ((first|apply Xt|apply Xl|apply Xd|apply Xb)<;>(first|exact (gI _ s 6)|(have au:=@Qn;refine XG ?_;clear au;first|exact rfl|exact True.intro|((try (repeat' with_reducible refine And.intro ?_ ?_));(try any_goals (first|refine zm ?_|exact CL|fail))))))
  by_cases f8:b1 s 0=8
  ·have k8:G8 l ↔ b1 s 1≠0:=by unfold G8;rw[hs,h9];simp[f8]
   rw[f8]
   refine Qh (An @Qn @f8) ?_
   (refine Qa (fun fC=>?_) (fun fC=>?_)<;>try exact fC.elim)
   ·rw[Yg (CQ K6 k7 (k8.2 fC)) aP]
    refine Qh @Qn ?_
    exact Kh (ip []) (Kl c.gl 4) (An @gH.eq_1 (An @eF.eq_1 (An @Pk.enc.eq_1 @Qn)))
   have k8:¬ G8 l:=fun h=>k8.1 h fC
   refine Qh @Qn ?_
   (refine Qa (fun g5=>?_) (fun g5=>?_)<;>try exact g5.elim)
   refine Qh @Qn ?_
   ((first|apply Xt|apply Xl|apply Xd|apply Xb)<;>(first|exact (gI _ s 4)|(have au:=@Qn;refine XG ?_;clear au;first|exact rfl|exact True.intro|((try (repeat' with_reducible refine And.intro ?_ ?_));(try any_goals (first|refine zm ?_|exact CL|fail))))))
   have hP:aB l=(⟨1,w4 l 12,w2 s 4,w4 l 16,0,b1 l 8,w2 l 4,8,w2 s 6,0,0,s.drop 8⟩:Pk):=by unfold aB lS;simp only[hs,h9,reduceCtorEq,Int.reduceEq,if_true,if_false,↓reduceIte,f8]
   have hG:=vG c.gl (⟨1,w4 l 12,w2 s 4,w4 l 16,0,b1 l 8,w2 l 4,8,w2 s 6,0,0,s.drop 8⟩:Pk)
   have hE:=CS K6 k7 k8 k9 qT
   rw[hP]at hE
   unfold Pk.enc at hG
   dsimp only at hG
   rw[Gg _ hE hP]
   generalize Yw (⟨1,w4 l 12,w2 s 4,w4 l 16,0,b1 l 8,w2 l 4,8,w2 s 6,0,0,s.drop 8⟩:Pk)=E at *
   clear hP hE
   unfold Pk.enc eF
   refine Qh @Qn ?_
   refine Xf hG @Qn ?_
   (refine Qa (fun g9=>?_) (fun g9=>?_)<;>try exact g9.elim)
   ·rw[if_neg g9]
    refine Qh @Qn ?_
    exact Kh (ip []) (Kl c.gl E) (An @gH.eq_1 (An @eF.eq_1 (An @Pk.enc.eq_1 @Qn)))
   ·rw[if_pos g9]
    subst g9
    exact Qu @Qn
  ·have f8b:(b1 s 0 != 8)=true:=by simp[f8]
   have f8c:(b1 s 0 == 8)=false:=by simp[f8]
   by_cases Ai:b1 s 0=0
   ·have k8:G8 l ↔ b1 s 1≠0:=by unfold G8;rw[hs,h9];simp[Ai]
    rw[Ai]
    refine Qh (An @Qn @Ai) ?_
    (refine Qa (fun fC=>?_) (fun fC=>?_)<;>try exact fC.elim)
    ·rw[Yg (CQ K6 k7 (k8.2 fC)) aP]
     refine Qh @Qn ?_
     exact Kh (ip []) (Kl c.gl 4) (An @gH.eq_1 (An @eF.eq_1 (An @Pk.enc.eq_1 @Qn)))
    have k8:¬ G8 l:=fun h=>k8.1 h fC
    refine Qh @Qn ?_
    (refine Qa (fun g5=>?_) (fun g5=>?_)<;>try exact g5.elim)
    refine Qh @Qn ?_
    ((first|apply Xt|apply Xl|apply Xd|apply Xb)<;>(first|exact (gI _ s 4)|(have au:=@Qn;refine XG ?_;clear au;first|exact rfl|exact True.intro|((try (repeat' with_reducible refine And.intro ?_ ?_));(try any_goals (first|refine zm ?_|exact CL|fail))))))
    have hP:aB l=(⟨1,w4 l 12,0,w4 l 16,w2 s 4,b1 l 8,w2 l 4,0,w2 s 6,0,0,s.drop 8⟩:Pk):=by unfold aB lS;simp only[hs,h9,reduceCtorEq,Int.reduceEq,if_true,if_false,↓reduceIte,Ai]
    have hG:=vG c.gl (⟨1,w4 l 12,0,w4 l 16,w2 s 4,b1 l 8,w2 l 4,0,w2 s 6,0,0,s.drop 8⟩:Pk)
    have hE:=CS K6 k7 k8 k9 qT
    rw[hP]at hE
    unfold Pk.enc at hG
    dsimp only at hG
    rw[Gg _ hE hP]
    generalize Yw (⟨1,w4 l 12,0,w4 l 16,w2 s 4,b1 l 8,w2 l 4,0,w2 s 6,0,0,s.drop 8⟩:Pk)=E at *
    clear hP hE
    unfold Pk.enc eF
    refine Qh @Qn ?_
    refine Xf hG @Qn ?_
    (refine Qa (fun g9=>?_) (fun g9=>?_)<;>try exact g9.elim)
    ·rw[if_neg g9]
     refine Qh @Qn ?_
     exact Kh (ip []) (Kl c.gl E) (An @gH.eq_1 (An @eF.eq_1 (An @Pk.enc.eq_1 @Qn)))
    ·rw[if_pos g9]
     subst g9
     exact Qu @Qn
   ·have f0b:(b1 s 0 != 0)=true:=by simp[Ai]
    refine Qh (An @Qn (An @f8b @f0b)) ?_
    (refine Qa (fun g5=>?_) (fun g5=>?_)<;>try exact g5.elim)
    rw[Yg (CQ K6 k7 (show G8 l by unfold G8;rw[hs];exact ⟨h9,.inl ⟨f8,Ai⟩⟩)) aP]
    refine Qh @Qn ?_
    exact Kh (ip []) (Kl c.gl 4) (An @gH.eq_1 (An @eF.eq_1 (An @Pk.enc.eq_1 @Qn)))
 ·have hz:nA (b1 l 9)=.aU [.int .i64 20,.int .i64 16]:=by rw[h9];rfl
  rw[hz,h9]at cE
  rw[h9]
  clear hz
  refine Qh @hs ?_
  refine Jj cE ?_
  (refine Qa (fun g1=>?_) (fun g1=>?_)<;>try exact g1.elim)
  refine Qg ?_
  (refine Qa (fun eH=>?_) (fun eH=>?_)<;>try exact eH.elim)
  ·rw[Yg (CP K k5 (by unfold G6;rw[hs,h9];simp;omega)) aP]
   refine Qh @Qn ?_
   exact Kh (ip []) (Kl c.gl 1) (An @gH.eq_1 (An @eF.eq_1 (An @Pk.enc.eq_1 @Qn)))
  have K6:H6 l:=⟨K,k5,by unfold G6;rw[hs,h9];simp;omega⟩
  clear K k5
  have bW:be (w4 l 12) 4++be (w4 l 16) 4++be 6 2++be (s.length:Int) 2=Za 6 (w4 l 12) (w4 l 16) s.length:=rfl
  have gM:(Za 6 (w4 l 12) (w4 l 16) s.length).length=12:=by rw[← bW];simp[Qi]
  have hO:=sJ c.gl (Za 6 (w4 l 12) (w4 l 16) s.length++s) (by rw[List.length_append];omega)
  have ec:=Gd c.gl (w4 l 12) (w4 l 16) 6 (s.length:Int)
  rw[bW]at ec
  have sS:G7 l ↔ cp (Za 6 (w4 l 12) (w4 l 16) s.length++s)≠65535:=by unfold G7;rw[hs,h9];simp
  clear bW
  generalize cp (Za 6 (w4 l 12) (w4 l 16) s.length++s)=O at *
  generalize Za 6 (w4 l 12) (w4 l 16) s.length=pre at *
  refine Qg ?_
  (refine Qa (fun g2=>?_) (fun g2=>?_)<;>try exact g2.elim)
  refine Qg ?_
  refine Xf ec @gM ?_
  refine Jj hO ?_
  by_cases jI:O=65535
  rotate_left
  ·have d2:((O:Int) != 65535)=true:=by simp;omega
   refine Qh @d2 ?_
   ((first|apply Ym|apply Yb)<;>(have au:=@d2;refine XG ?_;clear au;first|exact rfl|exact True.intro|((try (repeat' with_reducible refine And.intro ?_ ?_));(try any_goals (first|refine zm ?_|exact CL|fail)))))
   (refine Qa (fun g3=>?_) (fun g3=>?_)<;>try exact g3.elim)
   rw[Yg (Ah K6 (sS.2 jI)) aP]
   refine Qh @Qn ?_
   exact Kh (ip []) (Kl c.gl 3) (An @gH.eq_1 (An @eF.eq_1 (An @Pk.enc.eq_1 @Qn)))
  have d2:((O:Int) != 65535)=false:=by simp;omega
  refine Qh @d2 ?_
  ((first|apply Ym|apply Yb)<;>(have au:=@d2;refine XG ?_;clear au;first|exact rfl|exact True.intro|((try (repeat' with_reducible refine And.intro ?_ ?_));(try any_goals (first|refine zm ?_|exact CL|fail)))))
  (refine Qa (fun g3=>?_) (fun g3=>?_)<;>try exact g3.elim)
  have k7:¬ G7 l:=fun h=>sS.1 h jI
  have k8:¬ G8 l:=fun h=>by have:=h.1;omega
  have k9:¬ G9 l:=fun h=>by have:=h.1;omega
  have uh:qS l ↔ b1 s 12≠80∨63 < b1 s 13∨w2 s 18≠0:=by unfold qS;rw[hs,h9];simp
  refine Qh @Qn ?_
  (refine Qa (fun g4=>?_) (fun g4=>?_)<;>try exact g4.elim)
  refine Qh @Qn ?_
  (refine Qa (fun g5=>?_) (fun g5=>?_)<;>try exact g5.elim)
  refine Qh @Qn ?_
  (refine Qa (fun g6=>?_) (fun g6=>?_)<;>try exact g6.elim)
  refine Qh @Qn ?_
  ((first|apply Xt|apply Xl|apply Xd|apply Xb)<;>(first|exact (gI _ s 0)|(have au:=@Qn;have aH:=@List.drop_zero.{0};refine XG ?_;clear au aH;first|exact rfl|exact True.intro|((try (repeat' with_reducible refine And.intro ?_ ?_));(try any_goals (first|refine zm ?_|exact CL|fail))))))
  ((first|apply Xt|apply Xl|apply Xd|apply Xb)<;>(first|exact (gI _ s 2)|(have au:=@Qn;refine XG ?_;clear au;first|exact rfl|exact True.intro|((try (repeat' with_reducible refine And.intro ?_ ?_));(try any_goals (first|refine zm ?_|exact CL|fail))))))
  ((first|apply Xt|apply Xl|apply Xd|apply Xb)<;>(first|exact (Gf _ s 4)|(have au:=@Qn;refine XG ?_;clear au;first|exact rfl|exact True.intro|((try (repeat' with_reducible refine And.intro ?_ ?_));(try any_goals (first|refine zm ?_|exact CL|fail))))))
  ((first|apply Xt|apply Xl|apply Xd|apply Xb)<;>(first|exact (Gf _ s 8)|(have au:=@Qn;refine XG ?_;clear au;first|exact rfl|exact True.intro|((try (repeat' with_reducible refine And.intro ?_ ?_));(try any_goals (first|refine zm ?_|exact CL|fail))))))
  ((first|apply Xt|apply Xl|apply Xd|apply Xb)<;>(first|exact (gI _ s 14)|(have au:=@Qn;refine XG ?_;clear au;first|exact rfl|exact True.intro|((try (repeat' with_reducible refine And.intro ?_ ?_));(try any_goals (first|refine zm ?_|exact CL|fail))))))
  by_cases sT:b1 s 12=80
  rotate_left
  ·have d3:(b1 s 12 != 80)=true:=by simp[sT]
   refine Qh (An @Qn @d3) ?_
   ((first|apply Ym|apply Yb)<;>(have au:=@d3;refine XG ?_;clear au;first|exact rfl|exact True.intro|((try (repeat' with_reducible refine And.intro ?_ ?_));(try any_goals (first|refine zm ?_|exact CL|fail)))))
   (refine Qa (fun g7=>?_) (fun g7=>?_)<;>try exact g7.elim)
   rw[Yg (CR K6 k7 k8 k9 (uh.2 (.inl sT))) aP]
   refine Qh @Qn ?_
   exact Kh (ip []) (Kl c.gl 4) (An @gH.eq_1 (An @eF.eq_1 (An @Pk.enc.eq_1 @Qn)))
  by_cases Sk:63 < b1 s 13
  ·have d3:decide (63 < b1 s 13)=true:=by simp[Sk]
   refine Qh (An @Qn (An @sT @d3)) ?_
   ((first|apply Ym|apply Yb)<;>(have au:=@d3;refine XG ?_;clear au;first|exact rfl|exact True.intro|((try (repeat' with_reducible refine And.intro ?_ ?_));(try any_goals (first|refine zm ?_|exact CL|fail)))))
   (refine Qa (fun g7=>?_) (fun g7=>?_)<;>try exact g7.elim)
   rw[Yg (CR K6 k7 k8 k9 (uh.2 (.inr (.inl Sk)))) aP]
   refine Qh @Qn ?_
   exact Kh (ip []) (Kl c.gl 4) (An @gH.eq_1 (An @eF.eq_1 (An @Pk.enc.eq_1 @Qn)))
  have d3:decide (63 < b1 s 13)=false:=by simp;omega
  refine Qh (An @Qn (An @sT @d3)) ?_
  ((first|apply Xt|apply Xl|apply Xd|apply Xb)<;>(first|exact (gI _ s 18)|(have au:=@Qn;have aH:=@sT;have aV:=@d3;refine XG ?_;clear au aH aV;first|exact rfl|exact True.intro|((try (repeat' with_reducible refine And.intro ?_ ?_));(try any_goals (first|refine zm ?_|exact CL|fail))))))
  (refine Qa (fun Lu=>?_) (fun Lu=>?_)<;>try exact Lu.elim)
  ·rw[Yg (CR K6 k7 k8 k9 (uh.2 (.inr (.inr Lu)))) aP]
   refine Qh @Qn ?_
   exact Kh (ip []) (Kl c.gl 4) (An @gH.eq_1 (An @eF.eq_1 (An @Pk.enc.eq_1 @Qn)))
  have qT:¬ qS l:=fun h=>by have:=uh.1 h;omega
  have hP:aB l=(⟨6,w4 l 12,w2 s 0,w4 l 16,w2 s 2,b1 l 8,w2 l 4,b1 s 13,w4 s 4,w4 s 8,w2 s 14,s.drop 20⟩:Pk):=by unfold aB lS;simp only[hs,h9,reduceCtorEq,Int.reduceEq,if_true,if_false,↓reduceIte]
  have hG:=vG c.gl (⟨6,w4 l 12,w2 s 0,w4 l 16,w2 s 2,b1 l 8,w2 l 4,b1 s 13,w4 s 4,w4 s 8,w2 s 14,s.drop 20⟩:Pk)
  have hE:=CS K6 k7 k8 k9 qT
  rw[hP]at hE
  unfold Pk.enc at hG
  dsimp only at hG
  rw[Gg _ hE hP]
  generalize Yw (⟨6,w4 l 12,w2 s 0,w4 l 16,w2 s 2,b1 l 8,w2 l 4,b1 s 13,w4 s 4,w4 s 8,w2 s 14,s.drop 20⟩:Pk)=E at *
  clear hP hE
  unfold Pk.enc eF
  refine Qh @Qn ?_
  refine Xf hG @Qn ?_
  (refine Qa (fun g9=>?_) (fun g9=>?_)<;>try exact g9.elim)
  ·rw[if_neg g9]
   refine Qh @Qn ?_
   exact Kh (ip []) (Kl c.gl E) (An @gH.eq_1 (An @eF.eq_1 (An @Pk.enc.eq_1 @Qn)))
  ·rw[if_pos g9]
   subst g9
   exact Qu @Qn
 ·have hz:nA (b1 l 9)=.aU [.int .i64 8,.int .i64 6]:=by rw[h9];rfl
  rw[hz,h9]at cE
  rw[h9]
  clear hz
  refine Qh @hs ?_
  refine Jj cE ?_
  (refine Qa (fun g1=>?_) (fun g1=>?_)<;>try exact g1.elim)
  refine Qg ?_
  (refine Qa (fun eH=>?_) (fun eH=>?_)<;>try exact eH.elim)
  ·rw[Yg (CP K k5 (by unfold G6;rw[hs,h9];simp;omega)) aP]
   refine Qh @Qn ?_
   exact Kh (ip []) (Kl c.gl 1) (An @gH.eq_1 (An @eF.eq_1 (An @Pk.enc.eq_1 @Qn)))
  have K6:H6 l:=⟨K,k5,by unfold G6;rw[hs,h9];simp;omega⟩
  clear K k5
  have bW:be (w4 l 12) 4++be (w4 l 16) 4++be 17 2++be (s.length:Int) 2=Za 17 (w4 l 12) (w4 l 16) s.length:=rfl
  have gM:(Za 17 (w4 l 12) (w4 l 16) s.length).length=12:=by rw[← bW];simp[Qi]
  have hO:=sJ c.gl (Za 17 (w4 l 12) (w4 l 16) s.length++s) (by rw[List.length_append];omega)
  have ec:=Gd c.gl (w4 l 12) (w4 l 16) 17 (s.length:Int)
  rw[bW]at ec
  have sS:G7 l ↔ cp (Za 17 (w4 l 12) (w4 l 16) s.length++s)≠65535∨w2 s 6=0:=by unfold G7;rw[hs,h9];simp
  clear bW
  generalize cp (Za 17 (w4 l 12) (w4 l 16) s.length++s)=O at *
  generalize Za 17 (w4 l 12) (w4 l 16) s.length=pre at *
  refine Qg ?_
  (refine Qa (fun g2=>?_) (fun g2=>?_)<;>try exact g2.elim)
  refine Qg ?_
  refine Xf ec @gM ?_
  refine Jj hO ?_
  by_cases jI:O=65535
  rotate_left
  ·have d2:((O:Int) != 65535)=true:=by simp;omega
   refine Qh @d2 ?_
   ((first|apply Ym|apply Yb)<;>(have au:=@d2;refine XG ?_;clear au;first|exact rfl|exact True.intro|((try (repeat' with_reducible refine And.intro ?_ ?_));(try any_goals (first|refine zm ?_|exact CL|fail)))))
   (refine Qa (fun g3=>?_) (fun g3=>?_)<;>try exact g3.elim)
   rw[Yg (Ah K6 (sS.2 (.inl jI))) aP]
   refine Qh @Qn ?_
   exact Kh (ip []) (Kl c.gl 3) (An @gH.eq_1 (An @eF.eq_1 (An @Pk.enc.eq_1 @Qn)))
  have d2:((O:Int) != 65535)=false:=by simp;omega
  refine Qh @d2 ?_
  ((first|apply Xt|apply Xl|apply Xd|apply Xb)<;>(first|exact (gI _ s 6)|(have au:=@d2;refine XG ?_;clear au;first|exact rfl|exact True.intro|((try (repeat' with_reducible refine And.intro ?_ ?_));(try any_goals (first|refine zm ?_|exact CL|fail))))))
  (refine Qa (fun fC=>?_) (fun fC=>?_)<;>try exact fC.elim)
  ·rw[Yg (Ah K6 (sS.2 (.inr fC))) aP]
   refine Qh @Qn ?_
   exact Kh (ip []) (Kl c.gl 3) (An @gH.eq_1 (An @eF.eq_1 (An @Pk.enc.eq_1 @Qn)))
  have k7:¬ G7 l:=fun h=>by have:=sS.1 h;omega
  have k8:¬ G8 l:=fun h=>by have:=h.1;omega
  have qT:¬ qS l:=fun h=>by have:=h.1;omega
  have Sl:G9 l ↔ w2 s 4≠s.length:=by unfold G9;rw[hs,h9];simp
  refine Qh @Qn ?_
  (refine Qa (fun g3=>?_) (fun g3=>?_)<;>try exact g3.elim)
  refine Qh @Qn ?_
  (refine Qa (fun g4=>?_) (fun g4=>?_)<;>try exact g4.elim)
  refine Qh @Qn ?_
  ((first|apply Xt|apply Xl|apply Xd|apply Xb)<;>(first|exact (gI _ s 0)|(have au:=@Qn;have aH:=@List.drop_zero.{0};refine XG ?_;clear au aH;first|exact rfl|exact True.intro|((try (repeat' with_reducible refine And.intro ?_ ?_));(try any_goals (first|refine zm ?_|exact CL|fail))))))
  ((first|apply Xt|apply Xl|apply Xd|apply Xb)<;>(first|exact (gI _ s 2)|(have au:=@Qn;refine XG ?_;clear au;first|exact rfl|exact True.intro|((try (repeat' with_reducible refine And.intro ?_ ?_));(try any_goals (first|refine zm ?_|exact CL|fail))))))
  ((first|apply Xt|apply Xl|apply Xd|apply Xb)<;>(first|exact (gI _ s 4)|(have au:=@Qn;refine XG ?_;clear au;first|exact rfl|exact True.intro|((try (repeat' with_reducible refine And.intro ?_ ?_));(try any_goals (first|refine zm ?_|exact CL|fail))))))
  (refine Qa (fun sT=>?_) (fun sT=>?_)<;>try exact sT.elim)
  ·rw[Yg (Ls K6 k7 k8 (Sl.2 sT)) aP]
   refine Qh @Qn ?_
   exact Kh (ip []) (Kl c.gl 1) (An @gH.eq_1 (An @eF.eq_1 (An @Pk.enc.eq_1 @Qn)))
  have k9:¬ G9 l:=fun h=>Sl.1 h sT
  have hP:aB l=(⟨17,w4 l 12,w2 s 0,w4 l 16,w2 s 2,b1 l 8,w2 l 4,0,0,0,0,s.drop 8⟩:Pk):=by unfold aB lS;simp only[hs,h9,reduceCtorEq,Int.reduceEq,if_true,if_false,↓reduceIte]
  have hG:=vG c.gl (⟨17,w4 l 12,w2 s 0,w4 l 16,w2 s 2,b1 l 8,w2 l 4,0,0,0,0,s.drop 8⟩:Pk)
  have hE:=CS K6 k7 k8 k9 qT
  rw[hP]at hE
  unfold Pk.enc at hG
  dsimp only at hG
  rw[Gg _ hE hP]
  generalize Yw (⟨17,w4 l 12,w2 s 0,w4 l 16,w2 s 2,b1 l 8,w2 l 4,0,0,0,0,s.drop 8⟩:Pk)=E at *
  clear hP hE
  unfold Pk.enc eF
  refine Qh @Qn ?_
  refine Xf hG @Qn ?_
  (refine Qa (fun g9=>?_) (fun g9=>?_)<;>try exact g9.elim)
  ·rw[if_neg g9]
   refine Qh @Qn ?_
   exact Kh (ip []) (Kl c.gl E) (An @gH.eq_1 (An @eF.eq_1 (An @Pk.enc.eq_1 @Qn)))
  ·rw[if_pos g9]
   subst g9
   exact Qu @Qn
theorem Yen (l:List UInt8) (k:Nat) (h:k + 2≤l.length):w2 l k=256 * b1 l k + b1 l (k + 1):=by
 have e:(l.drop k).take 2=[l.getD k 0,l.getD (k + 1) 0]:=by
  have a0:l.getD k 0=l[k]:=by simp[List.getD,show k < l.length by omega]
  have a1:l.getD (k + 1) 0=l[k + 1]:=by simp[List.getD,show k + 1 < l.length by omega]
  have a2:l.drop k=l[k]::l[k + 1]::l.drop (k + 2):=by rw[List.drop_eq_getElem_cons (show k < l.length by omega),List.drop_eq_getElem_cons (show k + 1 < l.length by omega)]
  rw[a0,a1,a2];rfl
 unfold w2 b1
 rw[e,tw _ av]
 simp only[iE]
 omega
theorem Aj {f:List UInt8} (h:bY f=0):28≤f.length∧f.length≤65535:=by
 have h1:¬ G1 f:=fun h1=>by rw[CO h1]at h;cases h
 have h2:¬ G2 f:=fun h2=>by rw[Lp h1 h2]at h;cases h
 have h3:¬ G3 f:=fun h3=>by rw[Ge h1 h2 h3]at h;cases h
 have h4:¬ G4 f:=fun h4=>by rw[Lq h1 h2 h3 h4]at h;cases h
 have k:H4 f:=⟨h1,h2,h3,h4⟩
 have h5:¬ G5 f:=fun h5=>by rw[Lr k h5]at h;cases h
 have h6:¬ G6 f:=fun h6=>by rw[CP k h5 h6]at h;cases h
 unfold G1 at h1
 unfold G6 at h6
 rw[List.length_drop]at h6
 have:=CT f 2 af
 split at h6<;>omega
theorem Xy2 (f:List UInt8):(aB f).aA=w4 f 12:=by
 unfold aB
 dsimp only
 split
 ·rfl
 ·split<;>rfl
def sU (l:List UInt8) (id:Int):AV:=if bY l≠0 then .aU [.str [],.int .i64 (bY l)] else if ¬ (0≤id∧id≤65535) then .aU [.str [],.int .i64 2] else .aU [.str (mI l (w4 l 12) id),.int .i64 0]
theorem Xpa (l:List UInt8) (id:Int):Qe 0 (sU l id):=by
 unfold sU;split
 ·simp[Qe,ai]
 ·split<;>simp[Qe,ai]
set_option maxHeartbeats 2000000 in
theorem Xmy (gl:Nat→AV) (l:List UInt8) (id:Int) (hl:l.length≤140737488351232):PS Tryz.prog gl 124 [.str l,.int .i64 id] (sU l id):=by
 refine Xj1.ps (of_decide_eq_true rfl) (Xpa l id) fun c hN hg=>?_
 conv in aQ _ _=>cbv
 have hP:=xC c.gl l hl
 by_cases he:bY l=0
 rotate_left
 ·rw[Yg rfl he]at hP
  have hr:sU l id=.aU [.str [],.int .i64 (bY l)]:=if_pos he
  rw[hr]
  clear hr
  generalize bY l=E at *
  unfold eF Pk.enc at hP
  dsimp only at hP
  refine Qg ?_
  refine Jj hP ?_
  (refine Qa (fun g1=>?_) (fun g1=>?_)<;>try exact g1.elim)
  ·exact Qw
  ·exact (he g1).elim
 obtain ⟨l28,l65⟩:=Aj he
 rw[Sj he]at hP
 have hf:=Xy2 l
 have hw:=Lk c.gl [id] av
 have h4:=Lt l 12 af
 unfold Pk.enc at hP
 rw[hf]at hP
 generalize aB l=q at *
 clear hf
 by_cases hid:0≤id∧id≤65535
 rotate_left
 ·have hr:sU l id=.aU [.str [],.int .i64 2]:=by unfold sU;rw[if_neg af,if_pos hid]
  have hb:[id].all (fy 65535)=false:=by simp[fy];omega
  rw[hr]
  rw[hb]at hw
  refine Qg ?_
  refine Jj hP ?_
  (refine Qa (fun g1=>?_) (fun g1=>?_)<;>try exact g1.elim)
  refine Qg ?_
  refine Jv ?_
  ((first|apply Wy|apply Kv)<;>(first|exact hw|(with_reducible (exact Kd.bool _))|(refine XG ?_;first|exact rfl|exact True.intro|((try (repeat' with_reducible refine And.intro ?_ ?_));(try any_goals (first|refine zm ?_|exact CL|fail))))))
  (refine Qa (fun g2=>?_) (fun g2=>?_)<;>try exact g2.elim)
  exact Qw
 have hr:sU l id=.aU [.str (mI l (w4 l 12) id),.int .i64 0]:=by unfold sU;rw[if_neg af,if_neg af]
 have hb:[id].all (fy 65535)=true:=by simp[fy];omega
 rw[hr]
 rw[hb]at hw
 clear hr hb
 obtain ⟨p8,CU⟩:∃ p8:List UInt8,p8=[3,13,0,0,0,0,0,0]:=⟨_,rfl⟩
 have hl8:p8.length=8:=by rw[CU];rfl
 have lit:[.int .u8 3,.int .u8 13,.int .u8 0,.int .u8 0,.int .u8 0,.int .u8 0,.int .u8 0,.int .u8 0]=Xq p8:=by rw[CU];rfl
 have bw:∀ v,((p8++l.take 28).set 2 (Qf v 1)).set 3 (Qf v 0)=[3,13]++be v 2++([0,0,0,0]++l.take 28):=fun v=>by rw[CU];rfl
 have cW:Zh ([3,13]++[0,0]++([0,0,0,0]++l.take 28))=Zh (p8++l.take 28):=by rw[CU];rfl
 have bE:mI l (w4 l 12) id=Uz 1 167772414 (w4 l 12) 64 id 36++((p8++l.take 28).set 2 (Qf (Zh (p8++l.take 28)) 1)).set 3 (Qf (Zh (p8++l.take 28)) 0):=by
  unfold mI Ag;rw[bw,cW]
 rw[bE]
 clear bE cW bw CU
 have Gh:(p8++l.take 28).length=36:=by rw[List.length_append,List.length_take];omega
 have qR:=Cr c.gl (p8++l.take 28) af
 have xA:=wE (p8++l.take 28)
 generalize Zh (p8++l.take 28)=K at *
 have t8:p8.take 8=p8:=List.take_of_length_le af
 refine Qg ?_
 refine Jj hP ?_
 (refine Qa (fun g1=>?_) (fun g1=>?_)<;>try exact g1.elim)
 refine Qg ?_
 refine Jv ?_
 ((first|apply Wy|apply Kv)<;>(first|exact hw|(with_reducible (exact Kd.bool _))|(refine XG ?_;first|exact rfl|exact True.intro|((try (repeat' with_reducible refine And.intro ?_ ?_));(try any_goals (first|refine zm ?_|exact CL|fail))))))
 (refine Qa (fun g2=>?_) (fun g2=>?_)<;>try exact g2.elim)
 refine Qg ?_
 refine Jv ?_
 simp only[lit]
 refine Jd (An @hl8 @t8) ?_
 generalize hR:p8++l.take 28=R at *
 have tR:R.take 36=R:=List.take_of_length_le af
 refine Xf qR (An @Gh @tR) ?_
 have bw:((R.set 2 (Qf K 1)).set 3 (Qf K 0)).length=36:=by simp[Gh]
 refine Qh (An @Gh @vH) ?_
 generalize hS:(R.set 2 (Qf K 1)).set 3 (Qf K 0)=S at *
 have xD:((8 + min 28 l.length:Nat):Int)=36:=by omega
 ((first|refine Qx (ins:=[]) (Jq c.gl 1 167772414 (w4 l 12) 64 id 36 (by omega)) ?_ ?_|refine Qt (ins:=[]) (Jq c.gl 1 167772414 (w4 l 12) 64 id 36 (by omega)) ?_ ?_|refine Qs (ins:=[]) (Jq c.gl 1 167772414 (w4 l 12) 64 id 36 (by omega)) ?_ ?_|refine Qq (ins:=[]) (Jq c.gl 1 167772414 (w4 l 12) 64 id 36 (by omega)) ?_ ?_)<;>(have au:=@Gh;have aH:=@xD;refine XG ?_;clear au aH;(try first|exact rfl|exact True.intro);((try (repeat' with_reducible refine And.intro ?_ ?_));(try any_goals (first|refine zm ?_|exact CL|fail)))))
 refine Jd (An @bw @Ji) ?_
 rw[List.take_of_length_le (by simp[Ji,bw])]
theorem Ydm (gl:Nat→AV) (c m n:Int):PS Tryz.prog gl 166 [.int .i64 c,.int .i64 m,.int .i64 n] (.int .i64 (Qb c m n)):=Xnq gl c m n
theorem Lv (l:List UInt8) (k:Nat) (n:Int):(Wh l k n).length=l.length:=by simp[Wh]
theorem Jw (l:List UInt8) (k:Nat) (m n:Int):(Kk l k m n).length=l.length:=by simp[Kk,Lv]
theorem Qr (l:List UInt8) (k c:Nat) (n:Int):(Ql l k c n).length=l.length:=by simp[Ql,Lv,Jw]
theorem Lw (s:FS):fY s []=.aU []:=rfl
theorem Ak (k:Nat):((k:Int) + 1).toNat=k + 1:=by omega
theorem Al (k:Nat):((k:Int) + 2).toNat=k + 2:=by omega
theorem Sm (k:Nat):k + 2 - k=2:=by omega
set_option maxHeartbeats 1000000 in
theorem Yd (gl:Nat→AV) (l:List UInt8) (last:Bool) (ck:Nat) (m n:Int) (hc:ck + 2≤l.length) (hl:l.length≤65535) :
  GS Tryz.prog gl 134 [.ptr 0 0,.int .i64 ck,.int .i64 m,.int .i64 n] [(0,.cells [.sl 1 1 0 l.length l.length,.bool last]),(1,.cells (Xq l))] 2 (.aU [])
   [(0,.cells [.sl 1 1 0 l.length l.length,.bool last]),(1,.cells (Xq (Kk l ck m n)))] 2:=by
 refine Xsl.gs (of_decide_eq_true rfl) (by simp[Bk.live]) fun c a7 hg=>?_
 conv in aQ _ _=>cbv
 have hb:=CM (w2 l ck) m n
 have bE:Kk l ck m n=(l.set ck (Qf (Qb (w2 l ck) m n) 1)).set (ck + 1) (Qf (Qb (w2 l ck) m n) 0):=rfl
 have hn:=gI c.gl l ck
 have hu:=Ydm c.gl (w2 l ck) m n
 rw[bE]
 generalize Qb (w2 l ck) m n=x at *
 generalize w2 l ck=y at *
 clear bE
 refine Qh (An @Ak (An @Al @Sm)) ?_
 refine Xf hn (An @Ak @Al) ?_
 refine Xf hu (An @Ak @Al) ?_
 refine ⟨[],?_⟩
 exact Qu (An @Lw @vH)
theorem Xys (l:List UInt8) (k c:Nat) (n:Int):Ql l k c n=((Kk l c (w2 l k) n).set k (Qf n 1)).set (k + 1) (Qf n 0):=rfl
set_option maxHeartbeats 1000000 in
theorem Xi (gl:Nat→AV) (l:List UInt8) (last:Bool) (k ck:Nat) (n:Int) (hk:k + 2≤l.length) (hc:ck + 2≤l.length) (hl:l.length≤65535) :
  GS Tryz.prog gl 133 [.ptr 0 0,.int .i64 k,.int .i64 ck,.int .i64 n] [(0,.cells [.sl 1 1 0 l.length l.length,.bool last]),(1,.cells (Xq l))] 2 (.aU [])
   [(0,.cells [.sl 1 1 0 l.length l.length,.bool last]),(1,.cells (Xq (Ql l k ck n)))] 2:=by
 refine Ybc.gs (of_decide_eq_true rfl) (by simp[Bk.live]) fun c a7 hg=>?_
 conv in aQ _ _=>cbv
 have hn:=gI c.gl l k
 have ht:=Yd c.gl l last ck (w2 l k) n hc hl
 rw[Xys]
 have dz:=Jw l ck (w2 l k) n
 generalize Kk l ck (w2 l k) n=T at *
 generalize w2 l k=y at *
 refine Qh (An @Ak (An @Al @Sm)) ?_
 refine Xf hn (An @Ak @Al) ?_
 ((first|refine Qx (ins:=[0,1]) ht ?_ ?_|refine Qt (ins:=[0,1]) ht ?_ ?_|refine Qs (ins:=[0,1]) ht ?_ ?_|refine Qq (ins:=[0,1]) ht ?_ ?_)<;>(have au:=@Ak;have aH:=@Al;have aV:=@dz;have bD:=@Lw;refine XG ?_;clear au aH aV bD;(try first|exact rfl|exact True.intro);((try (repeat' with_reducible refine And.intro ?_ ?_));(try any_goals (first|refine zm ?_|exact CL|fail)))))
 ·rfl
 refine ⟨[],?_⟩
 exact Qu (An @Lw @vH)
end Go.Proofs.YtogckmommodmhaaGreatDoor
