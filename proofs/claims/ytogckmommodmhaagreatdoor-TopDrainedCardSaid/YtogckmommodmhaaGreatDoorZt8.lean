import Derived.Test.YtogckmommodmhaaGreatDoorZt1
import Derived.Test.YtogckmommodmhaaGreatDoorZt5
import Derived.Test.YtogckmommodmhaaGreatDoorRows
import Derived.KernelRfl
import Derived.Lib.Hide
set_option maxHeartbeats 16000000
namespace Go.Proofs.YtogckmommodmhaaGreatDoor
open Go.RowKit
set_option linter.all false
set_option linter.unusedSimpArgs false
set_option maxRecDepth 100000
structure Pk where
 ae:Int
 aA:Int
 ah:Int
 dst:Int
 aj:Int
 av:Int
 id:Int
 flags:Int
 seq:Int
 aL:Int
 win:Int
 body:List UInt8
def Pk.enc (p:Pk):List AV:=[.int .i64 p.ae,.int .i64 p.aA,.int .i64 p.ah,.int .i64 p.dst,.int .i64 p.aj,.int .i64 p.av,.int .i64 p.id,.int .i64 p.flags,.int .i64 p.seq,.int .i64 p.aL,.int .i64 p.win,.str p.body]
def ew:Pk:=⟨0,0,0,0,0,0,0,0,0,0,0,[]⟩
def Ji (p:Pk):Prop:=(0≤p.aA∧p.aA≤4294967295)∧(0≤p.dst∧p.dst≤4294967295)∧(0≤p.seq∧p.seq≤4294967295)∧(0≤p.aL∧p.aL≤4294967295) ∧
 (0≤p.ah∧p.ah≤65535)∧(0≤p.aj∧p.aj≤65535)∧(0≤p.id∧p.id≤65535)∧(0≤p.win∧p.win≤65535)∧(1≤p.av∧p.av≤255)∧(0≤p.flags∧p.flags≤63)
instance (p:Pk):Decidable (Ji p):=by unfold Ji;infer_instance
def Wd (p:Pk):Prop:=(p.ae≠6∧(p.aL≠0∨p.win≠0))∨(p.ae=17∧(p.seq≠0∨p.flags≠0)) ∨
 (p.ae=1∧((p.flags≠8∧p.flags≠0)∨(p.flags=8∧p.aj≠0)∨(p.flags=0∧p.ah≠0)∨65535 < p.seq))
instance (p:Pk):Decidable (Wd p):=by unfold Wd;infer_instance
def Yr (p:Pk):Int :=
 if ¬ (p.ae=1∨p.ae=6∨p.ae=17) then 4
 else if ¬ Ji p then 2
 else if 64 < p.body.length then 5
 else if Wd p then 1
 else 0
def Yy (ae aA dst n:Int):List UInt8:=if ae=1 then [] else be aA 4++be dst 4++be ae 2++be n 2
def qG (ae av id n:Int):List UInt8:=[69,0]++be (20 + n) 2++be id 2++[0,0]++be av 1++be ae 1
def qH (aA dst:Int):List UInt8:=be aA 4++be dst 4
def Uo (ae aA dst av id n:Int):List UInt8:=qG ae av id n++be (Zd (qG ae av id n++[0,0]++qH aA dst)) 2++qH aA dst
def Um (p:Pk):List UInt8 :=
 if p.ae=1 then be p.flags 1++[0]
 else if p.ae=17 then be p.ah 2++be p.aj 2++be (8 + p.body.length) 2
 else be p.ah 2++be p.aj 2++be p.seq 4++be p.aL 4++[80]++be p.flags 1++be p.win 2
def jQ (p:Pk):List UInt8 :=
 if p.ae=1 then be (p.ah + p.aj) 2++be p.seq 2++p.body
 else if p.ae=17 then p.body
 else [0,0]++p.body
def Xt (p:Pk):Nat:=(Um p).length + 2 + (jQ p).length
def gK (p:Pk):Nat :=
 if p.ae=17∧Zd (Yy p.ae p.aA p.dst (Xt p)++Um p++[0,0]++jQ p)=0 then 65535
 else Zd (Yy p.ae p.aA p.dst (Xt p)++Um p++[0,0]++jQ p)
def jo (p:Pk):List UInt8:=Um p++be (gK p) 2++jQ p
def Xl (p:Pk):List UInt8:=Uo p.ae p.aA p.dst p.av p.id (Xt p)++jo p
def Lx (p:Pk):AV:=if Yr p=0 then .aX [.str (Xl p),.int .i64 0] else .aX [.str [],.int .i64 (Yr p)]
def b1 (l:List UInt8) (k:Nat):Int:=((l.getD k 0).toNat:Int)
def w2 (l:List UInt8) (k:Nat):Int:=gQ ((l.drop k).take 2)
def w4 (l:List UInt8) (k:Nat):Int:=gQ ((l.drop k).take 4)
def mc (f:List UInt8):Pk:=⟨b1 f 9,w4 f 12,0,w4 f 16,0,b1 f 8,w2 f 4,0,0,0,0,[]⟩
def az (f:List UInt8):Pk :=
 let s:=f.drop 20
 if b1 f 9=1 then { mc f with flags:=b1 s 0,seq:=w2 s 6,ah:=if b1 s 0=8 then w2 s 4 else 0,aj:=if b1 s 0=8 then 0 else w2 s 4,body:=s.drop 8 }
 else if b1 f 9=17 then { mc f with ah:=w2 s 0,aj:=w2 s 2,body:=s.drop 8 }
 else { mc f with ah:=w2 s 0,aj:=w2 s 2,seq:=w4 s 4,aL:=w4 s 8,win:=w2 s 14,flags:=b1 s 13,body:=s.drop 20 }
def bP (f:List UInt8):Int :=
 let s:=f.drop 20
 if f.length < 20∨b1 f 0≠69∨w2 f 2≠f.length then 1
 else if cj (f.take 20)≠65535 then 3
 else if b1 f 1≠0∨w2 f 6≠0 then 4
 else if b1 f 8=0 then 12
 else if ¬ (b1 f 9=1∨b1 f 9=6∨b1 f 9=17) then 4
 else if s.length < (if b1 f 9=6 then 20 else 8) then 1
 else if cj (Yy (b1 f 9) (w4 f 12) (w4 f 16) s.length++s)≠65535∨(b1 f 9=17∧w2 s 6=0) then 3
 else if b1 f 9=1∧((b1 s 0≠8∧b1 s 0≠0)∨b1 s 1≠0) then 4
 else if b1 f 9=17∧w2 s 4≠s.length then 1
 else if b1 f 9=6∧(b1 s 12≠80∨63 < b1 s 13∨w2 s 18≠0) then 4
 else Yr (az f)
def Kt (f:List UInt8):AV:=if bP f=0 then .aX [.agg (az f).enc,.int .i64 0] else .aX [.agg ew.enc,.int .i64 (bP f)]
def Wg (l:List UInt8) (k:Nat) (n:Int):List UInt8:=(l.set k (Qg n 1)).set (k + 1) (Qg n 0)
def Qb (c m n:Int):Int:=65535 - pj (pj (65535 - c % 65536) (65535 - m % 65536)) n
def Kh (l:List UInt8) (ck:Nat) (m n:Int):List UInt8:=Wg l ck (Qb (w2 l ck) m n)
def Ql (l:List UInt8) (k ck:Nat) (n:Int):List UInt8:=Wg (Kh l ck (w2 l k) n) k n
theorem Wb {p:Pk} (h:Yr p=0):(p.ae=1∨p.ae=6∨p.ae=17)∧Ji p∧p.body.length≤64∧¬ Wd p:=by
 unfold Yr at h
 split at h
 ·cases h
 ·split at h
  ·cases h
  ·split at h
   ·cases h
   ·split at h
    ·cases h
    ·rename_i h1 h2 h3 h4
     exact ⟨Decidable.not_not.1 h1,Decidable.not_not.1 h2,by omega,h4⟩
theorem Di {p:Pk} (h1:p.ae=1∨p.ae=6∨p.ae=17) (h2:Ji p) (h3:p.body.length≤64) (h4:¬ Wd p):Yr p=0:=by
 unfold Yr
 rw[if_neg (fun h=>h h1),if_neg (fun h=>h h2),if_neg af,if_neg h4]
theorem Ly (v:Int) (k:Nat) (hk:k≤8) (h0:0≤v):((Qg v k).toNat:Int)=v / 256 ^ k % 256:=by
 obtain ⟨n,rfl⟩:=Int.eq_ofNat_of_zero_le h0
 rw[Pa n k hk]
 simp
theorem xK (v:Int) (h0:0≤v) (h1:v < 256):((Qg v 0).toNat:Int)=v:=by
 rw[Ly v 0 af h0];omega
theorem Lz (ae av id n:Int):(qG ae av id n).length=10:=by simp[qG,Qi]
theorem Xyh (aA dst:Int):(qH aA dst).length=8:=by simp[qH,Qi]
theorem Jb (ae aA dst av id n:Int):(Uo ae aA dst av id n).length=20:=by simp[Uo,Lz,Xyh,Qi]
def xL (f:List UInt8):List UInt8:=[3,13]++be (Zd ([3,13]++[0,0]++([0,0,0,0]++f.take 28))) 2++([0,0,0,0]++f.take 28)
def kC (f:List UInt8) (aA id:Int):List UInt8:=Uo 1 167772414 aA 64 id 36++xL f
def fr:List Int→List UInt8→List UInt8
 | [],t=>t
 | w::ws,t=>Qg w 1::Qg w 0::fr ws t
theorem Dj (c m n:Int):0≤Qb c m n∧Qb c m n≤65535:=by
 unfold Qb;have:=Pd (pj (65535 - c % 65536) (65535 - m % 65536)) n;omega
def sJ (ae:Int):Nat:=if ae=1 then 22 else if ae=17 then 26 else 36
def tl (b:List UInt8) (ae:Int) (m n:Int):List UInt8:=if ae=1 then b else Kh b (sJ ae) m n
def Yn (f:List UInt8) (ae av:Int) (at' wh:Nat) (addr port:Int):List UInt8 :=
 let b1:=tl (Ql f at' 10 (addr / 65536)) ae (w2 f at') (addr / 65536)
 let b2:=tl (Ql b1 (at' + 2) 10 (addr % 65536)) ae (w2 b1 (at' + 2)) (addr % 65536)
 let b3:=Ql b2 8 10 ((av - 1) * 256 + ae)
 let b4:=Ql b3 wh (sJ ae) port
 if (w2 b4 (sJ ae)=0)∧(ae=17∨cj (b4.drop 20)=0) then Wg b4 (sJ ae) 65535 else b4
def oC (side:Int):Nat:=if side=0 then 12 else 16
def oD (ae side:Int):Nat:=if ae=1 then 24 else if side=0 then 20 else 22
def Uj (p:Pk) (side addr port:Int):Pk:=if side=0 then { p with av:=p.av - 1,aA:=addr,ah:=port } else { p with av:=p.av - 1,dst:=addr,aj:=port }
def Un (p:Pk) (side addr port:Int):Int :=
 if side < 0∨side > 1∨¬ (0≤addr∧addr≤4294967295)∨¬ (0≤port∧port≤65535) then 2
 else if p.av=1 then 12
 else if p.ae=1∧¬ (side=0 ↔ p.flags=8) then 4
 else 0
theorem xM:be 0 2=[0,0]:=by decide
theorem Sb:FT Tryz.prog 77 Tryz.f77 (aO Tryz.prog Tryz.f77) [.t 2]:=.of Tryz.func77
theorem Sc:FT Tryz.prog 76 Tryz.f76 (aO Tryz.prog Tryz.f76) [.t 2]:=.of Tryz.func76
theorem Xu2:FT Tryz.prog 37 Tryz.f37 (aO Tryz.prog Tryz.f37) [.t 2]:=.of Tryz.func37
theorem Gz:FT Tryz.prog 119 Tryz.f119 (aO Tryz.prog Tryz.f119) [.t 6]:=.of Tryz.func119
theorem Xs4:FT Tryz.prog 121 Tryz.f121 (aO Tryz.prog Tryz.f121) [.t 12]:=.of Tryz.func121
theorem Xil:FT Tryz.prog 75 Tryz.f75 (aO Tryz.prog Tryz.f75) [.t 8]:=.of Tryz.func75
theorem GA:FT Tryz.prog 71 Tryz.f71 (aO Tryz.prog Tryz.f71) [.t 2,.t 3]:=.of Tryz.func71
theorem Xoi:FT Tryz.prog 74 Tryz.f74 (aO Tryz.prog Tryz.f74) [.t 2,.t 3]:=.of Tryz.func74
theorem Sd:FT Tryz.prog 73 Tryz.f73 (aO Tryz.prog Tryz.f73) [.t 2]:=.of Tryz.func73
theorem Xmz:FT Tryz.prog 34 Tryz.f34 (aO Tryz.prog Tryz.f34) [.cell 2 (.ag 12),.t 3]:=.of Tryz.func34
theorem Yep:FT Tryz.prog 72 Tryz.f72 (aO Tryz.prog Tryz.f72) [.cell 2 (.ag 12),.t 3]:=.of Tryz.func72
theorem Xz7:FT Tryz.prog 133 Tryz.f133 (aO Tryz.prog Tryz.f133) []:=.of Tryz.func133
theorem Xvb:FT Tryz.prog 134 Tryz.f134 (aO Tryz.prog Tryz.f134) []:=.of Tryz.func134
theorem xN:FT Tryz.prog 94 Tryz.f94 (aO Tryz.prog Tryz.f94) [.t 8,.t 9]:=.of Tryz.func94
theorem Xgz:FT Tryz.prog 124 Tryz.f124 (aO Tryz.prog Tryz.f124) [.t 4,.t 5]:=.of Tryz.func124
theorem Se {α:Type} (p:α→Bool) (l:List α) (d:α) (k:Nat) (h:k < l.length):(l.take (k + 1)).all p=((l.take k).all p && p (l.getD k d)):=by
 have e:l.take (k + 1)=l.take k++[l.getD k d]:=by
  rw[List.take_add_one,List.getElem?_eq_getElem h];simp[List.getD,h]
 rw[e,List.all_append];simp
theorem Sf {α:Type} (p:α→Bool) (l:List α) (d:α) (k:Nat) (h:k < l.length) (hn:p (l.getD k d)=false):l.all p=false:=by
 rw[List.all_eq_false]
 refine ⟨l.getD k d,?_,by rw[hn];decide⟩
 simp only[List.getD,List.getElem?_eq_getElem h,Option.getD_some];exact List.getElem_mem h
def fw (hi n:Int):Bool:=decide (0≤n) && decide (n≤hi)
theorem LA (gl:Nat→AV) (l:List Int) (hl:l.length≤100):PS Tryz.prog gl 77 [.isl l.length (Qp l)] (.bool (l.all (fw 65535))):=by
 refine Sb.ps (of_decide_eq_true rfl) (by simp[Qe]) fun c hN hg=>?_
 conv in aO _ _=>cbv
 refine Qf ?_
 refine Xr (fun k:Nat=>k≤l.length∧(l.take k).all (fw 65535)=true) (fun k=>⟨[(5,.isl l.length (Qp l)),(6,.int .i64 l.length),(7,.int .i64 k)],[],0⟩) (fun k=>l.length - k) Sb.mixed hN
  ⟨0,by simp,[],by exact Qs⟩ fun k hk=>?_
 obtain ⟨hk,ha⟩:=hk
 refine Qf ?_
 (refine Qa (fun h1=>?_) (fun h1=>?_)<;>try exact h1.elim)
 ·have hs:=Se (fw 65535) l 0 k af
  have bg:=Sf (fw 65535) l 0 k af
  refine Qf ?_
  generalize l.getD k 0=x at *
  (refine Qa (fun h2=>?_) (fun h2=>?_)<;>try exact h2.elim)
  ·refine Qf ?_
   refine (bg ?_).symm
   unfold fw;simp;omega
  ·refine Qf ?_
   refine ⟨k + 1,⟨by omega,?_⟩,⟨[],?_⟩,by omega⟩
   ·rw[hs,ha];unfold fw;simp;omega
   ·omega
 ·have:k=l.length:=by omega
  subst this
  refine Qf ?_
  rw[List.take_length]at ha;exact ha.symm
theorem Sg (gl:Nat→AV) (l:List Int) (hl:l.length≤100):PS Tryz.prog gl 76 [.isl l.length (Qp l)] (.bool (l.all (fw 4294967295))):=by
 refine Sc.ps (of_decide_eq_true rfl) (by simp[Qe]) fun c hN hg=>?_
 conv in aO _ _=>cbv
 refine Qf ?_
 refine Xr (fun k:Nat=>k≤l.length∧(l.take k).all (fw 4294967295)=true) (fun k=>⟨[(5,.isl l.length (Qp l)),(6,.int .i64 l.length),(7,.int .i64 k)],[],0⟩) (fun k=>l.length - k) Sc.mixed hN
  ⟨0,by simp,[],by exact Qs⟩ fun k hk=>?_
 obtain ⟨hk,ha⟩:=hk
 refine Qf ?_
 (refine Qa (fun h1=>?_) (fun h1=>?_)<;>try exact h1.elim)
 ·have hs:=Se (fw 4294967295) l 0 k af
  have bg:=Sf (fw 4294967295) l 0 k af
  refine Qf ?_
  generalize l.getD k 0=x at *
  (refine Qa (fun h2=>?_) (fun h2=>?_)<;>try exact h2.elim)
  ·refine Qf ?_
   refine (bg ?_).symm
   unfold fw;simp;omega
  ·refine Qf ?_
   refine ⟨k + 1,⟨by omega,?_⟩,⟨[],?_⟩,by omega⟩
   ·rw[hs,ha];unfold fw;simp;omega
   ·omega
 ·have:k=l.length:=by omega
  subst this
  refine Qf ?_
  rw[List.take_length]at ha;exact ha.symm
def nt (p:Int):AV:=if p=1 then .aX [.int .i64 8,.int .i64 2] else if p=17 then .aX [.int .i64 8,.int .i64 6] else if p=6 then .aX [.int .i64 20,.int .i64 16] else .aX [.int .i64 0,.int .i64 0]
theorem GB (gl:Nat→AV) (p:Int):PS Tryz.prog gl 74 [.int .i64 p] (nt p):=by
 refine Xoi.ps (of_decide_eq_true rfl) (by unfold nt;split<;>(try split)<;>(try split)<;>simp[Qe,ai]) fun c hN hg=>?_
 conv in aO _ _=>cbv
 refine Qf ?_
 (refine Qa (fun h1=>?_) (fun h1=>?_)<;>try exact h1.elim)
 ·refine Qf ?_
  unfold nt;rw[if_pos h1]
 ·refine Qf ?_
  (refine Qa (fun h2=>?_) (fun h2=>?_)<;>try exact h2.elim)
  ·refine Qf ?_
   unfold nt;rw[if_neg h1,if_pos h2]
  ·refine Qf ?_
   (refine Qa (fun h3=>?_) (fun h3=>?_)<;>try exact h3.elim)
   ·refine Qf ?_
    unfold nt;rw[if_neg h1,if_neg h2,if_pos h3]
   ·refine Qf ?_
    unfold nt;rw[if_neg h1,if_neg h2,if_neg h3]
def gF (e:Int):AV:=.aX [.agg ew.enc,.int .i64 e]
theorem Kg (gl:Nat→AV) (e:Int):GS Tryz.prog gl 72 [.int .i64 e] [] 0 (gF e) [] 0:=by
 refine Yep.gs (of_decide_eq_true rfl) au fun c aY hg=>?_
 conv in aO _ _=>cbv
 unfold gF ew Pk.enc
 refine Qf ?_
 refine ⟨[],?_⟩
 exact Qs
theorem Sh (gl:Nat→AV) (l:List UInt8) (hl:l.length≤100000000):PS Tryz.prog gl 73 [.str l] (.int .i64 (gQ l)):=by
 refine Sd.ps (of_decide_eq_true rfl) (by simp[Qe]) fun c hN hg=>?_
 conv in aO _ _=>cbv
 refine Qf ?_
 refine Jw ?_
 refine Xr (fun k:Nat=>k≤l.length) (fun k=>⟨[(3,.int .i64 (gQ (l.take k))),(7,.sl 1 0 0 l.length l.length),(8,.int .i64 l.length),(9,.int .i64 k)],[(0,.cells (Xo l))],1⟩) (fun k=>l.length - k) Sd.mixed hN
  ⟨0,by omega,[],by refine Qf ?_<;>rfl⟩ fun k hk=>?_
 refine Qf ?_
 (refine Qa (fun h1=>?_) (fun h1=>?_)<;>try exact h1.elim)
 ·have hs:=YL l k af
  have ho:=O9 (gQ (l.take k)) (l.getD k 0).toNat af (by have:=UInt8.toNat_lt (l.getD k 0);omega)
  have hb:=UInt8.toNat_lt (l.getD k 0)
  refine Qf ?_
  refine ⟨k + 1,by omega,⟨[],?_⟩,by omega⟩
  refine Qh @hs ?_
  have m3:(2:Int) ^ min 8 64=256:=by decide
  rw[m3,ho]
 ·have:k=l.length:=by omega
  subst this
  exact Qs
structure LB where
 k:Nat
 l:List UInt8
theorem Qz (gl:Nat→AV) (l:List UInt8) (v:Int) (n:Nat) (hn:n≤8) (hl:l.length≤100000000) :
  GS Tryz.prog gl 119 [.sl 1 0 0 l.length l.length,.int .i64 v,.int .i64 n] [(0,.cells (Xo l))] 1 (.sl 1 1 0 (l.length + n) (l.length + n)) [(1,.cells (Xo (l++be v n)))] 2:=by
 refine Gz.gs (of_decide_eq_true rfl) (by simp[Bk.live]) fun c aY hg=>?_
 conv in aO _ _=>cbv
 refine Qf ?_
 refine vd (fun x:LB=>x.k≤n∧x.l++be v x.k=l++be v n) (fun x=>⟨[(0,.sl 1 1 0 x.l.length x.l.length),(1,.int .i64 v),(7,.int .i64 ((x.k:Int) - 1))],[(1,.cells (Xo x.l))],2⟩) (fun x=>x.k) Gz.mixed 1 aY
  ⟨⟨n,l⟩,⟨Nat.le_refl _,rfl⟩,[(1,0)],by exact Qs⟩ fun ⟨k,l'⟩ ⟨hk,he⟩=>?_
 dsimp only at hk he
 refine Qf ?_
 have lh:l'.length + k=l.length + n:=by
  have:=congrArg List.length he
  simpa [Qi] using this
 (refine Qa (fun h1=>?_) (fun h1=>?_)<;>try exact h1.elim)
 ·obtain ⟨k,rfl⟩:∃ j,k=j + 1:=⟨k - 1,by omega⟩
  have e1:(((k + 1:Nat):Int) - 1)=k:=by omega
  rw[e1]at h1 ⊢
  refine Qf ?_
  refine Jw ?_
  refine Jw ?_
  refine ⟨⟨k,l'++[Qg v k]⟩,⟨by dsimp only;omega,?_⟩,⟨[(1,3)],?_⟩,by dsimp only;omega⟩
  ·simpa [be] using he
  ·refine Qf ?_
   rfl
 ·have gT:k=0:=by omega
  subst gT
  simp only[be,List.append_nil]at he
  subst he
  refine Qf ?_
  refine ⟨[],?_⟩
  exact Qr @Qi
structure LC where
 k:Nat
 l:Option (List UInt8)
theorem Ko (gl:Nat→AV) (v:Int) (n:Nat) (hn:n≤8) (h0:0 < n) :
  GS Tryz.prog gl 119 [.nils,.int .i64 v,.int .i64 n] [] 0 (.sl 1 0 0 n n) [(0,.cells (Xo (be v n)))] 1:=by
 refine Gz.gs (of_decide_eq_true rfl) au fun c aY hg=>?_
 conv in aO _ _=>cbv
 refine Qf ?_
 refine vd (fun x:LC=>x.k≤n∧(x.l.getD [])++be v x.k=be v n∧(x.l=none→x.k=n)) (fun x=>match x.l with|none=>⟨[(0,.nils),(1,.int .i64 v),(7,.int .i64 ((x.k:Int) - 1))],[],0⟩|some l=>⟨[(0,.sl 1 0 0 l.length l.length),(1,.int .i64 v),(7,.int .i64 ((x.k:Int) - 1))],[(0,.cells (Xo l))],1⟩) (fun x=>x.k) Gz.mixed 0 aY
  ⟨⟨n,none⟩,⟨Nat.le_refl _,rfl,fun _=>rfl⟩,[],by exact Qs⟩ fun ⟨k,o⟩ ⟨hk,he,b9⟩=>?_
 cases o with
 | none =>
  dsimp only at hk he b9
  obtain rfl:=b9 rfl
  refine Qf ?_
  (refine Qa (fun h1=>?_) (fun h1=>?_)<;>try exact h1.elim)
  ·obtain ⟨k,rfl⟩:∃ j,k=j + 1:=⟨k - 1,by omega⟩
   have e1:(((k + 1:Nat):Int) - 1)=k:=by omega
   rw[e1]at h1 ⊢
   refine Qf ?_
   refine Jw ?_
   refine Jw ?_
   refine ⟨⟨k,some [Qg v k]⟩,⟨by dsimp only;omega,?_,fun h=>by cases h⟩,⟨[(0,1)],?_⟩,by dsimp only;omega⟩
   ·simp[be]
   ·refine Qf ?_
    exact J9 [] _ []
  ·omega
 | some l' =>
  dsimp only[Option.getD_some]at hk he b9
  have lh:l'.length + k=n:=by
   have:=congrArg List.length he
   simpa [Qi] using this
  refine Qf ?_
  (refine Qa (fun h1=>?_) (fun h1=>?_)<;>try exact h1.elim)
  ·obtain ⟨k,rfl⟩:∃ j,k=j + 1:=⟨k - 1,by omega⟩
   have e1:(((k + 1:Nat):Int) - 1)=k:=by omega
   rw[e1]at h1 ⊢
   refine Qf ?_
   refine Jw ?_
   refine Jw ?_
   refine ⟨⟨k,some (l'++[Qg v k])⟩,⟨by dsimp only;omega,?_,fun h=>by cases h⟩,⟨[(0,2)],?_⟩,by dsimp only;omega⟩
   ·simpa [be] using he
   ·refine Qf ?_
    rfl
  ·have gT:k=0:=by omega
   subst gT
   simp only[be,List.append_nil]at he
   subst he
   refine Qf ?_
   refine ⟨[],?_⟩
   exact Qr @Qi
theorem Xut (p:Pk):[p.aA,p.dst,p.seq,p.aL].all (fw 4294967295)=true ↔ (0≤p.aA∧p.aA≤4294967295)∧(0≤p.dst∧p.dst≤4294967295)∧(0≤p.seq∧p.seq≤4294967295)∧(0≤p.aL∧p.aL≤4294967295):=by
 simp[fw]
theorem Xtr (p:Pk):[p.ah,p.aj,p.id,p.win].all (fw 65535)=true ↔ (0≤p.ah∧p.ah≤65535)∧(0≤p.aj∧p.aj≤65535)∧(0≤p.id∧p.id≤65535)∧(0≤p.win∧p.win≤65535):=by
 simp[fw]
theorem Xlo (p:Pk):Ji p ↔ [p.aA,p.dst,p.seq,p.aL].all (fw 4294967295)=true∧[p.ah,p.aj,p.id,p.win].all (fw 65535)=true∧(1≤p.av∧p.av≤255)∧(0≤p.flags∧p.flags≤63):=by
 rw[Xut,Xtr];unfold Ji
 constructor
 ·rintro ⟨a,b,c,d,e,f,g,h,i,j⟩;exact ⟨⟨a,b,c,d⟩,⟨e,f,g,h⟩,i,j⟩
 ·rintro ⟨⟨a,b,c,d⟩,⟨e,f,g,h⟩,i,j⟩;exact ⟨a,b,c,d,e,f,g,h,i,j⟩
theorem Ya3 {p:Pk} (h:¬ (p.ae=1∨p.ae=6∨p.ae=17)):Yr p=4:=by unfold Yr;rw[if_pos h]
theorem Xwt {p:Pk} (h:p.ae=1∨p.ae=6∨p.ae=17) (h2:¬ Ji p):Yr p=2:=by unfold Yr;rw[if_neg (fun x=>x h),if_pos h2]
theorem Xzz {p:Pk} (h:p.ae=1∨p.ae=6∨p.ae=17) (h2:Ji p) (h3:64 < p.body.length):Yr p=5:=by unfold Yr;rw[if_neg (fun x=>x h),if_neg (fun x=>x h2),if_pos h3]
theorem Yaq {p:Pk} (h:p.ae=1∨p.ae=6∨p.ae=17) (h2:Ji p) (h3:¬ 64 < p.body.length) (h4:Wd p):Yr p=1:=by unfold Yr;rw[if_neg (fun x=>x h),if_neg (fun x=>x h2),if_neg h3,if_pos h4]
set_option maxRecDepth 20000 in
theorem tU (gl:Nat→AV) (p:Pk):PS Tryz.prog gl 37 [.agg p.enc] (.int .i64 (Yr p)):=by
 refine Xu2.ps (of_decide_eq_true rfl) (by simp[Qe]) fun c hN hg=>?_
 conv in aO _ _=>cbv
 unfold Pk.enc
 have hR:=Xlo p
 have hl:=Sg c.gl [p.aA,p.dst,p.seq,p.aL] au
 have hw:=LA c.gl [p.ah,p.aj,p.id,p.win] au
 generalize hL:[p.aA,p.dst,p.seq,p.aL].all (fw 4294967295)=L at *
 generalize hW:[p.ah,p.aj,p.id,p.win].all (fw 65535)=W at *
 have k1:=@Ya3 p
 have k2:=@Xwt p
 have k3:=@Xzz p
 have k4:=@Yaq p
 have k5:=@Di p
 generalize Yr p=E at *
 generalize hRp:Ji p=RP at *
 unfold Wd at k4 k5
 obtain ⟨ae,aA,ah,dst,aj,av,id,flags,seq,aL,win,body⟩:=p
 dsimp only at *
 refine Qf ?_
 (refine Qa (fun h1=>?_) (fun h1=>?_)<;>try exact h1.elim)
 ·exact Qs
 have hp:ae=1∨ae=6∨ae=17:=by omega
 have bad:¬ RP→E=2:=fun h=>k2 hp h
 cases L with
 | false =>
  refine Qf ?_
  refine Jw ?_
  ((first|apply Wx|apply Ku)<;>(first|exact hl|(with_reducible (exact Jy.bool _))|(refine XG ?_;first|exact rfl|exact True.intro|((try (repeat' with_reducible refine And.intro ?_ ?_));(try any_goals (first|refine zm ?_|exact CL|fail))))))
  ((first|apply Yo|apply Yc)<;>(refine XG ?_;first|exact rfl|exact True.intro|((try (repeat' with_reducible refine And.intro ?_ ?_));(try any_goals (first|refine zm ?_|exact CL|fail)))))
  ((first|apply Yo|apply Yc)<;>(refine XG ?_;first|exact rfl|exact True.intro|((try (repeat' with_reducible refine And.intro ?_ ?_));(try any_goals (first|refine zm ?_|exact CL|fail)))))
  (refine Qa (fun h2=>?_) (fun h2=>?_)<;>try exact h2.elim)
  refine Qf ?_
  exact (bad (fun h=>by simp[hR]at h)).symm
 | true =>
  cases W with
  | false =>
   refine Qf ?_
   refine Jw ?_
   ((first|apply Wx|apply Ku)<;>(first|exact hl|(with_reducible (exact Jy.bool _))|(refine XG ?_;first|exact rfl|exact True.intro|((try (repeat' with_reducible refine And.intro ?_ ?_));(try any_goals (first|refine zm ?_|exact CL|fail))))))
   ((refine vn ?_ ?_ ?_);(focus (refine XG ?_;try first|exact rfl|exact True.intro));(focus (refine XG ?_;try trivial)))
   refine Jw ?_
   ((first|apply Wx|apply Ku)<;>(first|exact hw|(with_reducible (exact Jy.bool _))|(refine XG ?_;first|exact rfl|exact True.intro|((try (repeat' with_reducible refine And.intro ?_ ?_));(try any_goals (first|refine zm ?_|exact CL|fail))))))
   (refine Qa (fun h2=>?_) (fun h2=>?_)<;>try exact h2.elim)
   refine Qf ?_
   exact (bad (fun h=>by simp[hR]at h)).symm
  | true =>
   refine Qf ?_
   refine Jw ?_
   ((first|apply Wx|apply Ku)<;>(first|exact hl|(with_reducible (exact Jy.bool _))|(refine XG ?_;first|exact rfl|exact True.intro|((try (repeat' with_reducible refine And.intro ?_ ?_));(try any_goals (first|refine zm ?_|exact CL|fail))))))
   ((refine vn ?_ ?_ ?_);(focus (refine XG ?_;try first|exact rfl|exact True.intro));(focus (refine XG ?_;try trivial)))
   refine Jw ?_
   ((first|apply Wx|apply Ku)<;>(first|exact hw|(with_reducible (exact Jy.bool _))|(refine XG ?_;first|exact rfl|exact True.intro|((try (repeat' with_reducible refine And.intro ?_ ?_));(try any_goals (first|refine zm ?_|exact CL|fail))))))
   (refine Qa (fun h2=>?_) (fun h2=>?_)<;>try exact h2.elim)
   ·refine Qf ?_
    exact (bad (fun h=>by have:=hR.1 h;omega)).symm
   have sK:RP:=hR.2 ⟨rfl,rfl,by omega,by omega⟩
   refine Qf ?_
   (refine Qa (fun h3=>?_) (fun h3=>?_)<;>try exact h3.elim)
   ·refine Qf ?_
    exact (k3 hp sK af).symm
   rcases hp with rfl|rfl|rfl
   ·refine Qf ?_
    (refine Qa (fun h4=>?_) (fun h4=>?_)<;>try exact h4.elim)
    ·refine Qf ?_
     exact (k4 (.inl rfl) sK af af).symm
    by_cases h6:flags=8
    ·subst h6
     refine Qf ?_
     (refine Qa (fun h7=>?_) (fun h7=>?_)<;>try exact h7.elim)
     ·refine Qf ?_
      exact (k4 (.inl rfl) sK af af).symm
     ·refine Qf ?_
      exact (k5 (.inl rfl) sK af af).symm
    ·by_cases h8:flags=0
     ·subst h8
      refine Qf ?_
      (refine Qa (fun h7=>?_) (fun h7=>?_)<;>try exact h7.elim)
      ·refine Qf ?_
       exact (k4 (.inl rfl) sK af af).symm
      ·refine Qf ?_
       exact (k5 (.inl rfl) sK af af).symm
     ·have g6:(flags != 8)=true:=by simp[h6]
      have g8:(flags != 0)=true:=by simp[h8]
      refine Qh (An @g6 @g8) ?_
      (refine Qa (fun h7=>?_) (fun h7=>?_)<;>try exact h7.elim)
      refine Qf ?_
      exact (k4 (.inl rfl) sK af af).symm
   ·refine Qf ?_
    (refine Qa (fun h4=>?_) (fun h4=>?_)<;>try exact h4.elim)
    refine Qf ?_
    (refine Qa (fun h7=>?_) (fun h7=>?_)<;>try exact h7.elim)
    refine Qf ?_
    exact (k5 (.inr (.inl rfl)) sK af af).symm
   ·refine Qf ?_
    (refine Qa (fun h4=>?_) (fun h4=>?_)<;>try exact h4.elim)
    ·refine Qf ?_
     exact (k4 (.inr (.inr rfl)) sK af af).symm
    ·refine Qf ?_
     (refine Qa (fun h7=>?_) (fun h7=>?_)<;>try exact h7.elim)
     refine Qf ?_
     exact (k5 (.inr (.inr rfl)) sK af af).symm
theorem Sj (v:Int):[UInt8.ofNat (IntKind.u8.wrap v).toNat]=be v 1:=by
 show _=[Qg v 0]
 unfold Qg
 have:v.fdiv (2 ^ min (8 * ((0:Nat):Int)).toNat 64)=v:=Int.fdiv_one v
 rw[this]
theorem Xlk (l:List UInt8) (i:Nat) (n:Int):(Xo l).set i (.int .u8 (IntKind.u8.wrap n))=Xo (l.set i (UInt8.ofNat (IntKind.u8.wrap n).toNat)):=by
 have h0:0≤IntKind.u8.wrap n∧IntKind.u8.wrap n < 256:=by rw[IntKind.wrap_u8];omega
 generalize IntKind.u8.wrap n=k at h0 ⊢
 have e:(.int .u8 k:AV)=.int .u8 (UInt8.ofNat k.toNat).toNat:=by simp;omega
 rw[e,Xo,Xo,List.map_set]
theorem Yd2 (v:Int):UInt8.ofNat (IntKind.u8.wrap (v.fdiv (2 ^ min 8 64))).toNat=Qg v 1:=rfl
theorem vw (v:Int):UInt8.ofNat (IntKind.u8.wrap v).toNat=Qg v 0:=by
 have:=Sj v
 simp only[be,List.cons.injEq,and_true]at this;exact this
attribute [go_sem] Xlk Yd2
theorem Sk (A Z:List UInt8) (a b x y:UInt8):((A++[a,b]++Z).set A.length x).set (A.length + 1) y=A++[x,y]++Z:=by
 rw[List.append_assoc,List.set_append_right _ _ (Nat.le_refl _),List.set_append_right _ _ af]
 simp
theorem Xss (A Z:List UInt8) (hA:A.length=10) (v:Int):((A++be 0 2++Z).set 10 (Qg v 1)).set 11 (Qg v 0)=A++be v 2++Z:=by
 rw[xM]
 have:=Sk A Z 0 0 (Qg v 1) (Qg v 0)
 rw[hA]at this
 exact this
theorem Jn (gl:Nat→AV) (ae aA dst av id n:Int) (hn:0≤n∧n≤1000) :
  GS Tryz.prog gl 121 [.int .i64 ae,.int .i64 aA,.int .i64 dst,.int .i64 av,.int .i64 id,.int .i64 n] [] 0 (.sl 1 0 0 20 20) [(0,.cells (Xo (Uo ae aA dst av id n)))] 1:=by
 refine Xs4.gs (of_decide_eq_true rfl) au fun c aY hg=>?_
 conv in aO _ _=>cbv
 obtain ⟨p2,fb⟩:∃ p2:List UInt8,p2=[69,0]:=⟨_,rfl⟩
 have hl2:p2.length=2:=by rw[fb];rfl
 have lit:[.int .u8 69,.int .u8 0]=Xo p2:=by rw[fb];rfl
 have bu:∀ v,((p2++be (20 + n) 2++be id 2++be 0 2++be av 1++be ae 1++be 0 2++be aA 4++be dst 4).set 10 (Qg v 1)).set 11 (Qg v 0)=qG ae av id n++be v 2++qH aA dst:=fun v=>by
  have:=Xss (qG ae av id n) (qH aA dst) (Lz _ _ _ _) v
  rw[← this,fb];unfold qG qH;rw[xM];simp only[List.append_assoc]
 have cX:Zd (p2++be (20 + n) 2++be id 2++be 0 2++be av 1++be ae 1++be 0 2++be aA 4++be dst 4)=Zd (qG ae av id n++[0,0]++qH aA dst):=by
  unfold qG qH;rw[xM,fb];simp only[List.append_assoc]
 have hlen:(p2++be (20 + n) 2++be id 2++be 0 2++be av 1++be ae 1++be 0 2++be aA 4++be dst 4).length=20:=by simp[Qi,hl2]
 have t8:(p2++be (20 + n) 2++be id 2++be 0 2).take 8=p2++be (20 + n) 2++be id 2++be 0 2:=List.take_of_length_le (by simp[Qi,hl2])
 have hC:=CK c.gl (p2++be (20 + n) 2++be id 2++be 0 2++be av 1++be ae 1++be 0 2++be aA 4++be dst 4) (by rw[hlen];decide)
 have hL:=wI (p2++be (20 + n) 2++be id 2++be 0 2++be av 1++be ae 1++be 0 2++be aA 4++be dst 4)
 refine Qf ?_
 refine Jw ?_
 ((first|refine Xa (ins:=[0]) (Qz c.gl p2 (20 + n) 2 (by decide) (by omega)) ?_ ?_|refine Qw (ins:=[0]) (Qz c.gl p2 (20 + n) 2 (by decide) (by omega)) ?_ ?_|refine Qx (ins:=[0]) (Qz c.gl p2 (20 + n) 2 (by decide) (by omega)) ?_ ?_|refine Qt (ins:=[0]) (Qz c.gl p2 (20 + n) 2 (by decide) (by omega)) ?_ ?_)<;>(have aB:=@Qi;have aQ:=@lit;have a8:=@hl2;refine XG ?_;clear aB aQ a8;(try first|exact rfl|exact True.intro);((try (repeat' with_reducible refine And.intro ?_ ?_));(try any_goals (first|refine zm ?_|exact CL|fail)))))
 ((first|refine Xa (ins:=[1]) (Qz c.gl (p2++be (20 + n) 2) id 2 (by decide) (by simp[Qi,hl2])) ?_ ?_|refine Qw (ins:=[1]) (Qz c.gl (p2++be (20 + n) 2) id 2 (by decide) (by simp[Qi,hl2])) ?_ ?_|refine Qx (ins:=[1]) (Qz c.gl (p2++be (20 + n) 2) id 2 (by decide) (by simp[Qi,hl2])) ?_ ?_|refine Qt (ins:=[1]) (Qz c.gl (p2++be (20 + n) 2) id 2 (by decide) (by simp[Qi,hl2])) ?_ ?_)<;>(have aB:=@Qi;have aQ:=@hl2;refine XG ?_;clear aB aQ;(try first|exact rfl|exact True.intro);((try (repeat' with_reducible refine And.intro ?_ ?_));(try any_goals (first|refine zm ?_|exact CL|fail)))))
 ((first|refine Xa (ins:=[2]) (Qz c.gl (p2++be (20 + n) 2++be id 2) 0 2 (by decide) (by simp[Qi,hl2])) ?_ ?_|refine Qw (ins:=[2]) (Qz c.gl (p2++be (20 + n) 2++be id 2) 0 2 (by decide) (by simp[Qi,hl2])) ?_ ?_|refine Qx (ins:=[2]) (Qz c.gl (p2++be (20 + n) 2++be id 2) 0 2 (by decide) (by simp[Qi,hl2])) ?_ ?_|refine Qt (ins:=[2]) (Qz c.gl (p2++be (20 + n) 2++be id 2) 0 2 (by decide) (by simp[Qi,hl2])) ?_ ?_)<;>(have aB:=@Qi;have aQ:=@hl2;refine XG ?_;clear aB aQ;(try first|exact rfl|exact True.intro);((try (repeat' with_reducible refine And.intro ?_ ?_));(try any_goals (first|refine zm ?_|exact CL|fail)))))
 refine Zm (An @Qi @hl2) ?_
 refine Zm (An @Qi (An @Sj (An @hl2 @t8))) ?_
 ((first|refine Xa (ins:=[5]) (Qz c.gl (p2++be (20 + n) 2++be id 2++be 0 2++be av 1++be ae 1) 0 2 (by decide) (by simp[Qi,hl2])) ?_ ?_|refine Qw (ins:=[5]) (Qz c.gl (p2++be (20 + n) 2++be id 2++be 0 2++be av 1++be ae 1) 0 2 (by decide) (by simp[Qi,hl2])) ?_ ?_|refine Qx (ins:=[5]) (Qz c.gl (p2++be (20 + n) 2++be id 2++be 0 2++be av 1++be ae 1) 0 2 (by decide) (by simp[Qi,hl2])) ?_ ?_|refine Qt (ins:=[5]) (Qz c.gl (p2++be (20 + n) 2++be id 2++be 0 2++be av 1++be ae 1) 0 2 (by decide) (by simp[Qi,hl2])) ?_ ?_)<;>(have aB:=@Qi;have aQ:=@hl2;refine XG ?_;clear aB aQ;(try first|exact rfl|exact True.intro);((try (repeat' with_reducible refine And.intro ?_ ?_));(try any_goals (first|refine zm ?_|exact CL|fail)))))
 ((first|refine Xa (ins:=[6]) (Qz c.gl (p2++be (20 + n) 2++be id 2++be 0 2++be av 1++be ae 1++be 0 2) aA 4 (by decide) (by simp[Qi,hl2])) ?_ ?_|refine Qw (ins:=[6]) (Qz c.gl (p2++be (20 + n) 2++be id 2++be 0 2++be av 1++be ae 1++be 0 2) aA 4 (by decide) (by simp[Qi,hl2])) ?_ ?_|refine Qx (ins:=[6]) (Qz c.gl (p2++be (20 + n) 2++be id 2++be 0 2++be av 1++be ae 1++be 0 2) aA 4 (by decide) (by simp[Qi,hl2])) ?_ ?_|refine Qt (ins:=[6]) (Qz c.gl (p2++be (20 + n) 2++be id 2++be 0 2++be av 1++be ae 1++be 0 2) aA 4 (by decide) (by simp[Qi,hl2])) ?_ ?_)<;>(have aB:=@Qi;have aQ:=@hl2;refine XG ?_;clear aB aQ;(try first|exact rfl|exact True.intro);((try (repeat' with_reducible refine And.intro ?_ ?_));(try any_goals (first|refine zm ?_|exact CL|fail)))))
 ((first|refine Xa (ins:=[7]) (Qz c.gl (p2++be (20 + n) 2++be id 2++be 0 2++be av 1++be ae 1++be 0 2++be aA 4) dst 4 (by decide) (by simp[Qi,hl2])) ?_ ?_|refine Qw (ins:=[7]) (Qz c.gl (p2++be (20 + n) 2++be id 2++be 0 2++be av 1++be ae 1++be 0 2++be aA 4) dst 4 (by decide) (by simp[Qi,hl2])) ?_ ?_|refine Qx (ins:=[7]) (Qz c.gl (p2++be (20 + n) 2++be id 2++be 0 2++be av 1++be ae 1++be 0 2++be aA 4) dst 4 (by decide) (by simp[Qi,hl2])) ?_ ?_|refine Qt (ins:=[7]) (Qz c.gl (p2++be (20 + n) 2++be id 2++be 0 2++be av 1++be ae 1++be 0 2++be aA 4) dst 4 (by decide) (by simp[Qi,hl2])) ?_ ?_)<;>(have aB:=@Qi;have aQ:=@hl2;refine XG ?_;clear aB aQ;(try first|exact rfl|exact True.intro);((try (repeat' with_reducible refine And.intro ?_ ?_));(try any_goals (first|refine zm ?_|exact CL|fail)))))
 generalize cn:p2++be (20 + n) 2++be id 2++be 0 2++be av 1++be ae 1++be 0 2++be aA 4++be dst 4=row at *
 have t20:row.take 20=row:=List.take_of_length_le af
 refine Qy hC (An @t20 @hlen) ?_
 refine Qh (An @t20 (An @hlen @vw)) ?_
 rw[bu]
 refine ⟨[(0,8)],?_⟩
 refine Qf ?_
 unfold Uo
 rw[cX]
theorem GC (gl:Nat→AV) (aA dst ae n:Int):PS Tryz.prog gl 75 [.int .i64 aA,.int .i64 dst,.int .i64 ae,.int .i64 n] (.str (be aA 4++be dst 4++be ae 2++be n 2)):=by
 refine Xil.ps (of_decide_eq_true rfl) (by simp[Qe]) fun c hN hg=>?_
 conv in aO _ _=>cbv
 refine Qf ?_
 ((first|refine Xa (ins:=[]) (Ko c.gl aA 4 (by decide) (by decide)) ?_ ?_|refine Qw (ins:=[]) (Ko c.gl aA 4 (by decide) (by decide)) ?_ ?_|refine Qx (ins:=[]) (Ko c.gl aA 4 (by decide) (by decide)) ?_ ?_|refine Qt (ins:=[]) (Ko c.gl aA 4 (by decide) (by decide)) ?_ ?_)<;>(have aB:=@Qi;refine XG ?_;clear aB;(try first|exact rfl|exact True.intro);((try (repeat' with_reducible refine And.intro ?_ ?_));(try any_goals (first|refine zm ?_|exact CL|fail)))))
 ((first|refine Xa (ins:=[0]) (Qz c.gl (be aA 4) dst 4 (by decide) (by simp[Qi])) ?_ ?_|refine Qw (ins:=[0]) (Qz c.gl (be aA 4) dst 4 (by decide) (by simp[Qi])) ?_ ?_|refine Qx (ins:=[0]) (Qz c.gl (be aA 4) dst 4 (by decide) (by simp[Qi])) ?_ ?_|refine Qt (ins:=[0]) (Qz c.gl (be aA 4) dst 4 (by decide) (by simp[Qi])) ?_ ?_)<;>(have aB:=@Qi;refine XG ?_;clear aB;(try first|exact rfl|exact True.intro);((try (repeat' with_reducible refine And.intro ?_ ?_));(try any_goals (first|refine zm ?_|exact CL|fail)))))
 ((first|refine Xa (ins:=[1]) (Qz c.gl (be aA 4++be dst 4) ae 2 (by decide) (by simp[Qi])) ?_ ?_|refine Qw (ins:=[1]) (Qz c.gl (be aA 4++be dst 4) ae 2 (by decide) (by simp[Qi])) ?_ ?_|refine Qx (ins:=[1]) (Qz c.gl (be aA 4++be dst 4) ae 2 (by decide) (by simp[Qi])) ?_ ?_|refine Qt (ins:=[1]) (Qz c.gl (be aA 4++be dst 4) ae 2 (by decide) (by simp[Qi])) ?_ ?_)<;>(have aB:=@Qi;refine XG ?_;clear aB;(try first|exact rfl|exact True.intro);((try (repeat' with_reducible refine And.intro ?_ ?_));(try any_goals (first|refine zm ?_|exact CL|fail)))))
 ((first|refine Xa (ins:=[2]) (Qz c.gl (be aA 4++be dst 4++be ae 2) n 2 (by decide) (by simp[Qi])) ?_ ?_|refine Qw (ins:=[2]) (Qz c.gl (be aA 4++be dst 4++be ae 2) n 2 (by decide) (by simp[Qi])) ?_ ?_|refine Qx (ins:=[2]) (Qz c.gl (be aA 4++be dst 4++be ae 2) n 2 (by decide) (by simp[Qi])) ?_ ?_|refine Qt (ins:=[2]) (Qz c.gl (be aA 4++be dst 4++be ae 2) n 2 (by decide) (by simp[Qi])) ?_ ?_)<;>(have aB:=@Qi;refine XG ?_;clear aB;(try first|exact rfl|exact True.intro);((try (repeat' with_reducible refine And.intro ?_ ?_));(try any_goals (first|refine zm ?_|exact CL|fail)))))
theorem Xy6 (A Z:List UInt8) (v:Int) (k:Nat) (hA:A.length=k):((A++[0,0]++Z).set k (Qg v 1)).set (k + 1) (Qg v 0)=A++be v 2++Z:=by
 subst hA;exact Sk A Z 0 0 (Qg v 1) (Qg v 0)
theorem Yey:be 0 4=[0,0]++[0,0]:=by decide
structure xO (p:Pk) (k m:Nat) (row:List UInt8):Prop where
 len:row.length=m + p.body.length
 sn:Xt p=m + p.body.length
 set:∀ v,(row.set k (Qg v 1)).set (k + 1) (Qg v 0)=Um p++be v 2++jQ p
 chk:Zd (Yy p.ae p.aA p.dst (Xt p)++row)=Zd (Yy p.ae p.aA p.dst (Xt p)++Um p++[0,0]++jQ p)
theorem xO.of {p:Pk} {k m:Nat} {row:List UInt8} (h:row=Um p++[0,0]++jQ p) (hk:(Um p).length=k) (hm:k + 2 + (jQ p).length=m + p.body.length):xO p k m row:=by
 subst h
 refine ⟨by simp only[List.length_append,List.length_cons,List.length_nil];omega,by unfold Xt;omega,fun v=>Xy6 _ _ v k hk,by simp only[List.append_assoc]⟩
theorem xO.ck {p:Pk} {k m:Nat} {row:List UInt8} (h:xO p k m row):gK p=if p.ae=17∧Zd (Yy p.ae p.aA p.dst (Xt p)++row)=0 then 65535 else Zd (Yy p.ae p.aA p.dst (Xt p)++row):=by
 unfold gK;rw[h.chk]
set_option maxRecDepth 20000 in
theorem Xfp (gl:Nat→AV) (aA ah dst aj av id flags seq aL win:Int) (body:List UInt8) (h:Yr (⟨1,aA,ah,dst,aj,av,id,flags,seq,aL,win,body⟩:Pk)=0):PS Tryz.prog gl 71 [.agg (⟨1,aA,ah,dst,aj,av,id,flags,seq,aL,win,body⟩:Pk).enc] (.aX [.str (Xl (⟨1,aA,ah,dst,aj,av,id,flags,seq,aL,win,body⟩:Pk)),.int .i64 0]):=by
 refine GA.ps (of_decide_eq_true rfl) (by simp[Qe,ai]) fun c hN hg=>?_
 conv in aO _ _=>cbv
 have hG:=tU c.gl (⟨1,aA,ah,dst,aj,av,id,flags,seq,aL,win,body⟩:Pk)
 rw[h]at hG
 obtain ⟨_,⟨r1,r2,r3,r4,r5,r6,r7,r8,r9,ic⟩,iw,_⟩:=Wb h
 dsimp only at r1 r2 r3 r4 r5 r6 r7 r8 r9 ic iw
 clear h
 unfold Pk.enc at hG ⊢
 dsimp only at hG ⊢
 obtain ⟨p2,fb⟩:∃ p2:List UInt8,p2=be flags 1++[0]:=⟨_,rfl⟩
 have hl2:p2.length=2:=by rw[fb];rfl
 have lit:[.int .u8 flags,.int .u8 0]=Xo p2:=by
  have e:=xK flags af af
  rw[fb]
  show _=[AV.int .u8 ((Qg flags 0).toNat:Int),AV.int .u8 0]
  rw[e]
 have hS:xO (⟨1,aA,ah,dst,aj,av,id,flags,seq,aL,win,body⟩:Pk) 2 8 (p2++be 0 2++be (ah + aj) 2++be seq 2++body):=by
  refine .of (by rw[fb,xM];unfold Um jQ;simp) (by simp[Um,Qi]) (by simp[jQ,Qi];omega)
 have lr:(p2++be 0 2++be (ah + aj) 2++be seq 2).length=8:=by simp[Qi,hl2]
 have hm:=hS.len
 have ec:=hS.sn
 dsimp only at hm ec
 have tr:(p2++be 0 2++be (ah + aj) 2++be seq 2).take 8=p2++be 0 2++be (ah + aj) 2++be seq 2:=List.take_of_length_le af
 have bu:=hS.set
 have bE:Xl (⟨1,aA,ah,dst,aj,av,id,flags,seq,aL,win,body⟩:Pk)=Uo 1 aA dst av id ((8 + body.length:Nat):Int)++(((p2++be 0 2++be (ah + aj) 2++be seq 2++body).set 2 (Qg (gK (⟨1,aA,ah,dst,aj,av,id,flags,seq,aL,win,body⟩:Pk)) 1)).set (2 + 1) (Qg (gK (⟨1,aA,ah,dst,aj,av,id,flags,seq,aL,win,body⟩:Pk)) 0)):=by
  unfold Xl jo;rw[ec,bu]
 have cX:=hS.ck
 rw[ec]at cX
 dsimp only at cX
 have Dk:((8 + body.length:Nat):Int)=8 + (body.length:Int):=by omega
 rw[Dk]at cX bE
 rw[bE]
 clear bE bu hS ec
 generalize gK (⟨1,aA,ah,dst,aj,av,id,flags,seq,aL,win,body⟩:Pk)=ck at *
 have qI:(Yy 1 aA dst (8 + (body.length:Int))++(p2++be 0 2++be (ah + aj) 2++be seq 2++body)).length≤200:=by
  unfold Yy;simp only[List.length_append]at hm ⊢;split<;>simp[Qi]<;>omega
 have qJ:=CK c.gl (Yy 1 aA dst (8 + (body.length:Int))++(p2++be 0 2++be (ah + aj) 2++be seq 2++body)) af
 have xP:=wI (Yy 1 aA dst (8 + (body.length:Int))++(p2++be 0 2++be (ah + aj) 2++be seq 2++body))
 have bY:Yy 1 aA dst (8 + (body.length:Int))=[]:=rfl
 rw[bY]at qJ cX xP
 clear qI bY
 have sr:(8:Int) + (body.length:Int)=((8 + body.length:Nat):Int):=by omega
 refine Qf ?_
 refine Zg hG ?_
 (refine Qa (fun g0=>?_) (fun g0=>?_)<;>try exact g0.elim)
 refine Qf ?_
 (refine Qa (fun g1=>?_) (fun g1=>?_)<;>try exact g1.elim)
 refine Qf ?_
 refine Jw ?_
 ((first|refine Xa (ins:=[1]) (Qz c.gl p2 0 2 (by decide) (by omega)) ?_ ?_|refine Qw (ins:=[1]) (Qz c.gl p2 0 2 (by decide) (by omega)) ?_ ?_|refine Qx (ins:=[1]) (Qz c.gl p2 0 2 (by decide) (by omega)) ?_ ?_|refine Qt (ins:=[1]) (Qz c.gl p2 0 2 (by decide) (by omega)) ?_ ?_)<;>(have aB:=@Qi;have aQ:=@lit;have a8:=@hl2;refine XG ?_;clear aB aQ a8;(try first|exact rfl|exact True.intro);((try (repeat' with_reducible refine And.intro ?_ ?_));(try any_goals (first|refine zm ?_|exact CL|fail)))))
 ((first|refine Xa (ins:=[2]) (Qz c.gl (p2++be 0 2) (ah + aj) 2 (by decide) (by simp[Qi,hl2])) ?_ ?_|refine Qw (ins:=[2]) (Qz c.gl (p2++be 0 2) (ah + aj) 2 (by decide) (by simp[Qi,hl2])) ?_ ?_|refine Qx (ins:=[2]) (Qz c.gl (p2++be 0 2) (ah + aj) 2 (by decide) (by simp[Qi,hl2])) ?_ ?_|refine Qt (ins:=[2]) (Qz c.gl (p2++be 0 2) (ah + aj) 2 (by decide) (by simp[Qi,hl2])) ?_ ?_)<;>(have aB:=@Qi;have aQ:=@hl2;refine XG ?_;clear aB aQ;(try first|exact rfl|exact True.intro);((try (repeat' with_reducible refine And.intro ?_ ?_));(try any_goals (first|refine zm ?_|exact CL|fail)))))
 ((first|refine Xa (ins:=[3]) (Qz c.gl (p2++be 0 2++be (ah + aj) 2) seq 2 (by decide) (by simp[Qi,hl2])) ?_ ?_|refine Qw (ins:=[3]) (Qz c.gl (p2++be 0 2++be (ah + aj) 2) seq 2 (by decide) (by simp[Qi,hl2])) ?_ ?_|refine Qx (ins:=[3]) (Qz c.gl (p2++be 0 2++be (ah + aj) 2) seq 2 (by decide) (by simp[Qi,hl2])) ?_ ?_|refine Qt (ins:=[3]) (Qz c.gl (p2++be 0 2++be (ah + aj) 2) seq 2 (by decide) (by simp[Qi,hl2])) ?_ ?_)<;>(have aB:=@Qi;have aQ:=@hl2;refine XG ?_;clear aB aQ;(try first|exact rfl|exact True.intro);((try (repeat' with_reducible refine And.intro ?_ ?_));(try any_goals (first|refine zm ?_|exact CL|fail)))))
 refine Zm (An @Qi (An @lr @tr)) ?_
 generalize hR:p2++be 0 2++be (ah + aj) 2++be seq 2++body=R at *
 have tR:R.take (8 + body.length)=R:=List.take_of_length_le af
 (refine Qa (fun g4=>?_) (fun g4=>?_)<;>try exact g4.elim)
 simp only[List.nil_append]at cX qJ xP
 generalize Zd (R)=K at *
 refine Qf ?_
 refine Zg qJ ?_
 rw[if_neg af]at cX
 subst cX
 (refine Qa (fun g5=>?_) (fun g5=>?_)<;>try exact g5.elim)
 refine Qf ?_
 have xQ:((2:Int) + 1).toNat=3:=rfl
 have bu:((R.set 2 (Qg ck 1)).set 3 (Qg ck 0)).length=8 + body.length:=by simp[hm]
 refine Qh (An @hm (An @vw @xQ)) ?_
 generalize hS:(R.set 2 (Qg ck 1)).set 3 (Qg ck 0)=S at *
 ((first|refine Xa (ins:=[]) (Jn c.gl 1 aA dst av id (8 + body.length) (by omega)) ?_ ?_|refine Qw (ins:=[]) (Jn c.gl 1 aA dst av id (8 + body.length) (by omega)) ?_ ?_|refine Qx (ins:=[]) (Jn c.gl 1 aA dst av id (8 + body.length) (by omega)) ?_ ?_|refine Qt (ins:=[]) (Jn c.gl 1 aA dst av id (8 + body.length) (by omega)) ?_ ?_)<;>(have aB:=@hm;refine XG ?_;clear aB;(try first|exact rfl|exact True.intro);((try (repeat' with_reducible refine And.intro ?_ ?_));(try any_goals (first|refine zm ?_|exact CL|fail)))))
 refine Zm (An @bu @Jb) ?_
 rw[List.take_of_length_le (by simp[Jb,bu])]
set_option maxRecDepth 20000 in
theorem Xnd (gl:Nat→AV) (aA ah dst aj av id flags seq aL win:Int) (body:List UInt8) (h:Yr (⟨17,aA,ah,dst,aj,av,id,flags,seq,aL,win,body⟩:Pk)=0):PS Tryz.prog gl 71 [.agg (⟨17,aA,ah,dst,aj,av,id,flags,seq,aL,win,body⟩:Pk).enc] (.aX [.str (Xl (⟨17,aA,ah,dst,aj,av,id,flags,seq,aL,win,body⟩:Pk)),.int .i64 0]):=by
 refine GA.ps (of_decide_eq_true rfl) (by simp[Qe,ai]) fun c hN hg=>?_
 conv in aO _ _=>cbv
 have hG:=tU c.gl (⟨17,aA,ah,dst,aj,av,id,flags,seq,aL,win,body⟩:Pk)
 rw[h]at hG
 obtain ⟨_,⟨r1,r2,r3,r4,r5,r6,r7,r8,r9,ic⟩,iw,_⟩:=Wb h
 dsimp only at r1 r2 r3 r4 r5 r6 r7 r8 r9 ic iw
 clear h
 unfold Pk.enc at hG ⊢
 dsimp only at hG ⊢
 have hS:xO (⟨17,aA,ah,dst,aj,av,id,flags,seq,aL,win,body⟩:Pk) 6 8 (be ah 2++be aj 2++be (8 + body.length) 2++be 0 2++body):=by
  refine .of (by rw[xM];unfold Um jQ;simp) (by simp[Um,Qi]) (by simp[jQ,Qi])
 have lr:(be ah 2++be aj 2++be (8 + body.length) 2++be 0 2).length=8:=by simp[Qi]
 have hm:=hS.len
 have ec:=hS.sn
 dsimp only at hm ec
 have tr:(be ah 2++be aj 2++be (8 + body.length) 2++be 0 2).take 8=be ah 2++be aj 2++be (8 + body.length) 2++be 0 2:=List.take_of_length_le af
 have bu:=hS.set
 have bE:Xl (⟨17,aA,ah,dst,aj,av,id,flags,seq,aL,win,body⟩:Pk)=Uo 17 aA dst av id ((8 + body.length:Nat):Int)++(((be ah 2++be aj 2++be (8 + body.length) 2++be 0 2++body).set 6 (Qg (gK (⟨17,aA,ah,dst,aj,av,id,flags,seq,aL,win,body⟩:Pk)) 1)).set (6 + 1) (Qg (gK (⟨17,aA,ah,dst,aj,av,id,flags,seq,aL,win,body⟩:Pk)) 0)):=by
  unfold Xl jo;rw[ec,bu]
 have cX:=hS.ck
 rw[ec]at cX
 dsimp only at cX
 have Dk:((8 + body.length:Nat):Int)=8 + (body.length:Int):=by omega
 rw[Dk]at cX bE
 rw[bE]
 clear bE bu hS ec
 generalize gK (⟨17,aA,ah,dst,aj,av,id,flags,seq,aL,win,body⟩:Pk)=ck at *
 have qI:(Yy 17 aA dst (8 + (body.length:Int))++(be ah 2++be aj 2++be (8 + body.length) 2++be 0 2++body)).length≤200:=by
  unfold Yy;simp only[List.length_append]at hm ⊢;split<;>simp[Qi]<;>omega
 have qJ:=CK c.gl (Yy 17 aA dst (8 + (body.length:Int))++(be ah 2++be aj 2++be (8 + body.length) 2++be 0 2++body)) af
 have xP:=wI (Yy 17 aA dst (8 + (body.length:Int))++(be ah 2++be aj 2++be (8 + body.length) 2++be 0 2++body))
 have bY:Yy 17 aA dst (8 + (body.length:Int))=be aA 4++be dst 4++be 17 2++be (8 + (body.length:Int)) 2:=rfl
 rw[bY]at qJ cX xP
 clear qI bY
 have sr:(8:Int) + (body.length:Int)=((8 + body.length:Nat):Int):=by omega
 refine Qf ?_
 refine Zg hG ?_
 (refine Qa (fun g0=>?_) (fun g0=>?_)<;>try exact g0.elim)
 refine Qf ?_
 (refine Qa (fun g1=>?_) (fun g1=>?_)<;>try exact g1.elim)
 refine Qf ?_
 (refine Qa (fun g2=>?_) (fun g2=>?_)<;>try exact g2.elim)
 refine Qf ?_
 ((first|refine Xa (ins:=[]) (Ko c.gl ah 2 (by decide) (by decide)) ?_ ?_|refine Qw (ins:=[]) (Ko c.gl ah 2 (by decide) (by decide)) ?_ ?_|refine Qx (ins:=[]) (Ko c.gl ah 2 (by decide) (by decide)) ?_ ?_|refine Qt (ins:=[]) (Ko c.gl ah 2 (by decide) (by decide)) ?_ ?_)<;>(have aB:=@Qi;refine XG ?_;clear aB;(try first|exact rfl|exact True.intro);((try (repeat' with_reducible refine And.intro ?_ ?_));(try any_goals (first|refine zm ?_|exact CL|fail)))))
 ((first|refine Xa (ins:=[1]) (Qz c.gl (be ah 2) aj 2 (by decide) (by simp[Qi])) ?_ ?_|refine Qw (ins:=[1]) (Qz c.gl (be ah 2) aj 2 (by decide) (by simp[Qi])) ?_ ?_|refine Qx (ins:=[1]) (Qz c.gl (be ah 2) aj 2 (by decide) (by simp[Qi])) ?_ ?_|refine Qt (ins:=[1]) (Qz c.gl (be ah 2) aj 2 (by decide) (by simp[Qi])) ?_ ?_)<;>(have aB:=@Qi;refine XG ?_;clear aB;(try first|exact rfl|exact True.intro);((try (repeat' with_reducible refine And.intro ?_ ?_));(try any_goals (first|refine zm ?_|exact CL|fail)))))
 ((first|refine Xa (ins:=[2]) (Qz c.gl (be ah 2++be aj 2) (8 + body.length) 2 (by decide) (by simp[Qi])) ?_ ?_|refine Qw (ins:=[2]) (Qz c.gl (be ah 2++be aj 2) (8 + body.length) 2 (by decide) (by simp[Qi])) ?_ ?_|refine Qx (ins:=[2]) (Qz c.gl (be ah 2++be aj 2) (8 + body.length) 2 (by decide) (by simp[Qi])) ?_ ?_|refine Qt (ins:=[2]) (Qz c.gl (be ah 2++be aj 2) (8 + body.length) 2 (by decide) (by simp[Qi])) ?_ ?_)<;>(have aB:=@Qi;refine XG ?_;clear aB;(try first|exact rfl|exact True.intro);((try (repeat' with_reducible refine And.intro ?_ ?_));(try any_goals (first|refine zm ?_|exact CL|fail)))))
 ((first|refine Xa (ins:=[3]) (Qz c.gl (be ah 2++be aj 2++be (8 + body.length) 2) 0 2 (by decide) (by simp[Qi])) ?_ ?_|refine Qw (ins:=[3]) (Qz c.gl (be ah 2++be aj 2++be (8 + body.length) 2) 0 2 (by decide) (by simp[Qi])) ?_ ?_|refine Qx (ins:=[3]) (Qz c.gl (be ah 2++be aj 2++be (8 + body.length) 2) 0 2 (by decide) (by simp[Qi])) ?_ ?_|refine Qt (ins:=[3]) (Qz c.gl (be ah 2++be aj 2++be (8 + body.length) 2) 0 2 (by decide) (by simp[Qi])) ?_ ?_)<;>(have aB:=@Qi;refine XG ?_;clear aB;(try first|exact rfl|exact True.intro);((try (repeat' with_reducible refine And.intro ?_ ?_));(try any_goals (first|refine zm ?_|exact CL|fail)))))
 refine Zm (An @Qi (An @lr @tr)) ?_
 generalize hR:be ah 2++be aj 2++be (8 + body.length) 2++be 0 2++body=R at *
 have tR:R.take (8 + body.length)=R:=List.take_of_length_le af
 (refine Qa (fun g4=>?_) (fun g4=>?_)<;>try exact g4.elim)
 refine Qf ?_
 ((first|apply Yx|apply Ym|apply Xz|apply Xs)<;>(first|exact (GC _ aA dst 17 (8 + (body.length:Int)))|(have aB:=@Qi;have aQ:=@hm;have a8:=@tR;refine XG ?_;clear aB aQ a8;first|exact rfl|exact True.intro|((try (repeat' with_reducible refine And.intro ?_ ?_));(try any_goals (first|refine zm ?_|exact CL|fail))))))
 generalize Zd (be aA 4++be dst 4++be 17 2++be (8 + (body.length:Int)) 2++R)=K at *
 refine Zg qJ ?_
 by_cases LD:K=0
 ·rw[if_pos ⟨rfl,LD⟩]at cX
  have Sl:(ck:Int)=65535:=by omega
  rw[Sl]
  clear cX Sl ck
  subst LD
  (refine Qa (fun g5=>?_) (fun g5=>?_)<;>try exact g5.elim)
  refine Qf ?_
  have xQ:((6:Int) + 1).toNat=7:=rfl
  have bu:((R.set 6 (Qg 65535 1)).set 7 (Qg 65535 0)).length=8 + body.length:=by simp[hm]
  refine Qh (An @hm (An @vw @xQ)) ?_
  generalize hS:(R.set 6 (Qg 65535 1)).set 7 (Qg 65535 0)=S at *
  ((first|refine Xa (ins:=[]) (Jn c.gl 17 aA dst av id (8 + body.length) (by omega)) ?_ ?_|refine Qw (ins:=[]) (Jn c.gl 17 aA dst av id (8 + body.length) (by omega)) ?_ ?_|refine Qx (ins:=[]) (Jn c.gl 17 aA dst av id (8 + body.length) (by omega)) ?_ ?_|refine Qt (ins:=[]) (Jn c.gl 17 aA dst av id (8 + body.length) (by omega)) ?_ ?_)<;>(have aB:=@hm;refine XG ?_;clear aB;(try first|exact rfl|exact True.intro);((try (repeat' with_reducible refine And.intro ?_ ?_));(try any_goals (first|refine zm ?_|exact CL|fail)))))
  refine Zm (An @bu @Jb) ?_
  rw[List.take_of_length_le (by simp[Jb,bu])]
 ·rw[if_neg fun h=>LD h.2]at cX
  subst cX
  have hKb:((ck:Int) == 0)=false:=by simp;omega
  refine Qh @hKb ?_
  (refine Qa (fun g5=>?_) (fun g5=>?_)<;>try exact g5.elim)
  refine Qf ?_
  have xQ:((6:Int) + 1).toNat=7:=rfl
  have bu:((R.set 6 (Qg ck 1)).set 7 (Qg ck 0)).length=8 + body.length:=by simp[hm]
  refine Qh (An @hm (An @vw @xQ)) ?_
  generalize hS:(R.set 6 (Qg ck 1)).set 7 (Qg ck 0)=S at *
  ((first|refine Xa (ins:=[]) (Jn c.gl 17 aA dst av id (8 + body.length) (by omega)) ?_ ?_|refine Qw (ins:=[]) (Jn c.gl 17 aA dst av id (8 + body.length) (by omega)) ?_ ?_|refine Qx (ins:=[]) (Jn c.gl 17 aA dst av id (8 + body.length) (by omega)) ?_ ?_|refine Qt (ins:=[]) (Jn c.gl 17 aA dst av id (8 + body.length) (by omega)) ?_ ?_)<;>(have aB:=@hm;refine XG ?_;clear aB;(try first|exact rfl|exact True.intro);((try (repeat' with_reducible refine And.intro ?_ ?_));(try any_goals (first|refine zm ?_|exact CL|fail)))))
  refine Zm (An @bu @Jb) ?_
  rw[List.take_of_length_le (by simp[Jb,bu])]
set_option maxRecDepth 20000 in
theorem Xrj (gl:Nat→AV) (aA ah dst aj av id flags seq aL win:Int) (body:List UInt8) (h:Yr (⟨6,aA,ah,dst,aj,av,id,flags,seq,aL,win,body⟩:Pk)=0):PS Tryz.prog gl 71 [.agg (⟨6,aA,ah,dst,aj,av,id,flags,seq,aL,win,body⟩:Pk).enc] (.aX [.str (Xl (⟨6,aA,ah,dst,aj,av,id,flags,seq,aL,win,body⟩:Pk)),.int .i64 0]):=by
 refine GA.ps (of_decide_eq_true rfl) (by simp[Qe,ai]) fun c hN hg=>?_
 conv in aO _ _=>cbv
 have hG:=tU c.gl (⟨6,aA,ah,dst,aj,av,id,flags,seq,aL,win,body⟩:Pk)
 rw[h]at hG
 obtain ⟨_,⟨r1,r2,r3,r4,r5,r6,r7,r8,r9,ic⟩,iw,_⟩:=Wb h
 dsimp only at r1 r2 r3 r4 r5 r6 r7 r8 r9 ic iw
 clear h
 unfold Pk.enc at hG ⊢
 dsimp only at hG ⊢
 obtain ⟨p2,fb⟩:∃ p2:List UInt8,p2=[80]++be flags 1:=⟨_,rfl⟩
 have hl2:p2.length=2:=by rw[fb];rfl
 have hS:xO (⟨6,aA,ah,dst,aj,av,id,flags,seq,aL,win,body⟩:Pk) 16 20 (be ah 2++be aj 2++be seq 4++be aL 4++p2++be win 2++be 0 4++body):=by
  refine .of (by rw[fb,Yey];unfold Um jQ;simp) (by simp[Um,Qi]) (by simp[jQ,Qi];omega)
 have lit:∀ l:List UInt8,l++[UInt8.ofNat 80]++[UInt8.ofNat flags.toNat]=l++p2:=fun l=>by
  have e:=xK flags af af
  have e2:UInt8.ofNat flags.toNat=Qg flags 0:=UInt8.toNat_inj.1 (by simp only[UInt8.toNat_ofNat',Nat.reducePow];omega)
  rw[fb,e2,List.append_assoc];rfl
 have lr:(be ah 2++be aj 2++be seq 4++be aL 4++p2++be win 2++be 0 4).length=20:=by simp[Qi,hl2]
 have t12:(be ah 2++be aj 2++be seq 4++be aL 4).take 12=be ah 2++be aj 2++be seq 4++be aL 4:=List.take_of_length_le (by simp[Qi])
 have hm:=hS.len
 have ec:=hS.sn
 dsimp only at hm ec
 have tr:(be ah 2++be aj 2++be seq 4++be aL 4++p2++be win 2++be 0 4).take 20=be ah 2++be aj 2++be seq 4++be aL 4++p2++be win 2++be 0 4:=List.take_of_length_le af
 have bu:=hS.set
 have bE:Xl (⟨6,aA,ah,dst,aj,av,id,flags,seq,aL,win,body⟩:Pk)=Uo 6 aA dst av id ((20 + body.length:Nat):Int)++(((be ah 2++be aj 2++be seq 4++be aL 4++p2++be win 2++be 0 4++body).set 16 (Qg (gK (⟨6,aA,ah,dst,aj,av,id,flags,seq,aL,win,body⟩:Pk)) 1)).set (16 + 1) (Qg (gK (⟨6,aA,ah,dst,aj,av,id,flags,seq,aL,win,body⟩:Pk)) 0)):=by
  unfold Xl jo;rw[ec,bu]
 have cX:=hS.ck
 rw[ec]at cX
 dsimp only at cX
 have Dk:((20 + body.length:Nat):Int)=20 + (body.length:Int):=by omega
 rw[Dk]at cX bE
 rw[bE]
 clear bE bu hS ec
 generalize gK (⟨6,aA,ah,dst,aj,av,id,flags,seq,aL,win,body⟩:Pk)=ck at *
 have qI:(Yy 6 aA dst (20 + (body.length:Int))++(be ah 2++be aj 2++be seq 4++be aL 4++p2++be win 2++be 0 4++body)).length≤200:=by
  unfold Yy;simp only[List.length_append]at hm ⊢;split<;>simp[Qi]<;>omega
 have qJ:=CK c.gl (Yy 6 aA dst (20 + (body.length:Int))++(be ah 2++be aj 2++be seq 4++be aL 4++p2++be win 2++be 0 4++body)) af
 have xP:=wI (Yy 6 aA dst (20 + (body.length:Int))++(be ah 2++be aj 2++be seq 4++be aL 4++p2++be win 2++be 0 4++body))
 have bY:Yy 6 aA dst (20 + (body.length:Int))=be aA 4++be dst 4++be 6 2++be (20 + (body.length:Int)) 2:=rfl
 rw[bY]at qJ cX xP
 clear qI bY
 have sr:(20:Int) + (body.length:Int)=((20 + body.length:Nat):Int):=by omega
 refine Qf ?_
 refine Zg hG ?_
 (refine Qa (fun g0=>?_) (fun g0=>?_)<;>try exact g0.elim)
 refine Qf ?_
 (refine Qa (fun g1=>?_) (fun g1=>?_)<;>try exact g1.elim)
 refine Qf ?_
 (refine Qa (fun g2=>?_) (fun g2=>?_)<;>try exact g2.elim)
 refine Qf ?_
 (refine Qa (fun g3=>?_) (fun g3=>?_)<;>try exact g3.elim)
 refine Qf ?_
 ((first|refine Xa (ins:=[]) (Ko c.gl ah 2 (by decide) (by decide)) ?_ ?_|refine Qw (ins:=[]) (Ko c.gl ah 2 (by decide) (by decide)) ?_ ?_|refine Qx (ins:=[]) (Ko c.gl ah 2 (by decide) (by decide)) ?_ ?_|refine Qt (ins:=[]) (Ko c.gl ah 2 (by decide) (by decide)) ?_ ?_)<;>(have aB:=@Qi;refine XG ?_;clear aB;(try first|exact rfl|exact True.intro);((try (repeat' with_reducible refine And.intro ?_ ?_));(try any_goals (first|refine zm ?_|exact CL|fail)))))
 ((first|refine Xa (ins:=[1]) (Qz c.gl (be ah 2) aj 2 (by decide) (by simp[Qi])) ?_ ?_|refine Qw (ins:=[1]) (Qz c.gl (be ah 2) aj 2 (by decide) (by simp[Qi])) ?_ ?_|refine Qx (ins:=[1]) (Qz c.gl (be ah 2) aj 2 (by decide) (by simp[Qi])) ?_ ?_|refine Qt (ins:=[1]) (Qz c.gl (be ah 2) aj 2 (by decide) (by simp[Qi])) ?_ ?_)<;>(have aB:=@Qi;refine XG ?_;clear aB;(try first|exact rfl|exact True.intro);((try (repeat' with_reducible refine And.intro ?_ ?_));(try any_goals (first|refine zm ?_|exact CL|fail)))))
 ((first|refine Xa (ins:=[2]) (Qz c.gl (be ah 2++be aj 2) seq 4 (by decide) (by simp[Qi])) ?_ ?_|refine Qw (ins:=[2]) (Qz c.gl (be ah 2++be aj 2) seq 4 (by decide) (by simp[Qi])) ?_ ?_|refine Qx (ins:=[2]) (Qz c.gl (be ah 2++be aj 2) seq 4 (by decide) (by simp[Qi])) ?_ ?_|refine Qt (ins:=[2]) (Qz c.gl (be ah 2++be aj 2) seq 4 (by decide) (by simp[Qi])) ?_ ?_)<;>(have aB:=@Qi;refine XG ?_;clear aB;(try first|exact rfl|exact True.intro);((try (repeat' with_reducible refine And.intro ?_ ?_));(try any_goals (first|refine zm ?_|exact CL|fail)))))
 ((first|refine Xa (ins:=[3]) (Qz c.gl (be ah 2++be aj 2++be seq 4) aL 4 (by decide) (by simp[Qi])) ?_ ?_|refine Qw (ins:=[3]) (Qz c.gl (be ah 2++be aj 2++be seq 4) aL 4 (by decide) (by simp[Qi])) ?_ ?_|refine Qx (ins:=[3]) (Qz c.gl (be ah 2++be aj 2++be seq 4) aL 4 (by decide) (by simp[Qi])) ?_ ?_|refine Qt (ins:=[3]) (Qz c.gl (be ah 2++be aj 2++be seq 4) aL 4 (by decide) (by simp[Qi])) ?_ ?_)<;>(have aB:=@Qi;refine XG ?_;clear aB;(try first|exact rfl|exact True.intro);((try (repeat' with_reducible refine And.intro ?_ ?_));(try any_goals (first|refine zm ?_|exact CL|fail)))))
 refine Zm @Qi ?_
 refine Zm (An @Qi (An @t12 @lit)) ?_
 ((first|refine Xa (ins:=[6]) (Qz c.gl (be ah 2++be aj 2++be seq 4++be aL 4++p2) win 2 (by decide) (by simp[Qi,hl2])) ?_ ?_|refine Qw (ins:=[6]) (Qz c.gl (be ah 2++be aj 2++be seq 4++be aL 4++p2) win 2 (by decide) (by simp[Qi,hl2])) ?_ ?_|refine Qx (ins:=[6]) (Qz c.gl (be ah 2++be aj 2++be seq 4++be aL 4++p2) win 2 (by decide) (by simp[Qi,hl2])) ?_ ?_|refine Qt (ins:=[6]) (Qz c.gl (be ah 2++be aj 2++be seq 4++be aL 4++p2) win 2 (by decide) (by simp[Qi,hl2])) ?_ ?_)<;>(have aB:=@Qi;have aQ:=@hl2;refine XG ?_;clear aB aQ;(try first|exact rfl|exact True.intro);((try (repeat' with_reducible refine And.intro ?_ ?_));(try any_goals (first|refine zm ?_|exact CL|fail)))))
 ((first|refine Xa (ins:=[7]) (Qz c.gl (be ah 2++be aj 2++be seq 4++be aL 4++p2++be win 2) 0 4 (by decide) (by simp[Qi,hl2])) ?_ ?_|refine Qw (ins:=[7]) (Qz c.gl (be ah 2++be aj 2++be seq 4++be aL 4++p2++be win 2) 0 4 (by decide) (by simp[Qi,hl2])) ?_ ?_|refine Qx (ins:=[7]) (Qz c.gl (be ah 2++be aj 2++be seq 4++be aL 4++p2++be win 2) 0 4 (by decide) (by simp[Qi,hl2])) ?_ ?_|refine Qt (ins:=[7]) (Qz c.gl (be ah 2++be aj 2++be seq 4++be aL 4++p2++be win 2) 0 4 (by decide) (by simp[Qi,hl2])) ?_ ?_)<;>(have aB:=@Qi;have aQ:=@hl2;refine XG ?_;clear aB aQ;(try first|exact rfl|exact True.intro);((try (repeat' with_reducible refine And.intro ?_ ?_));(try any_goals (first|refine zm ?_|exact CL|fail)))))
 refine Zm (An @Qi (An @lr @tr)) ?_
 generalize hR:be ah 2++be aj 2++be seq 4++be aL 4++p2++be win 2++be 0 4++body=R at *
 have tR:R.take (20 + body.length)=R:=List.take_of_length_le af
 (refine Qa (fun g4=>?_) (fun g4=>?_)<;>try exact g4.elim)
 refine Qf ?_
 ((first|apply Yx|apply Ym|apply Xz|apply Xs)<;>(first|exact (GC _ aA dst 6 (20 + (body.length:Int)))|(have aB:=@Qi;have aQ:=@hm;have a8:=@tR;refine XG ?_;clear aB aQ a8;first|exact rfl|exact True.intro|((try (repeat' with_reducible refine And.intro ?_ ?_));(try any_goals (first|refine zm ?_|exact CL|fail))))))
 generalize Zd (be aA 4++be dst 4++be 6 2++be (20 + (body.length:Int)) 2++R)=K at *
 refine Zg qJ ?_
 rw[if_neg af]at cX
 subst cX
 (refine Qa (fun g5=>?_) (fun g5=>?_)<;>try exact g5.elim)
 refine Qf ?_
 have xQ:((16:Int) + 1).toNat=17:=rfl
 have bu:((R.set 16 (Qg ck 1)).set 17 (Qg ck 0)).length=20 + body.length:=by simp[hm]
 refine Qh (An @hm (An @vw @xQ)) ?_
 generalize hS:(R.set 16 (Qg ck 1)).set 17 (Qg ck 0)=S at *
 ((first|refine Xa (ins:=[]) (Jn c.gl 6 aA dst av id (20 + body.length) (by omega)) ?_ ?_|refine Qw (ins:=[]) (Jn c.gl 6 aA dst av id (20 + body.length) (by omega)) ?_ ?_|refine Qx (ins:=[]) (Jn c.gl 6 aA dst av id (20 + body.length) (by omega)) ?_ ?_|refine Qt (ins:=[]) (Jn c.gl 6 aA dst av id (20 + body.length) (by omega)) ?_ ?_)<;>(have aB:=@hm;refine XG ?_;clear aB;(try first|exact rfl|exact True.intro);((try (repeat' with_reducible refine And.intro ?_ ?_));(try any_goals (first|refine zm ?_|exact CL|fail)))))
 refine Zm (An @bu @Jb) ?_
 rw[List.take_of_length_le (by simp[Jb,bu])]
theorem Xmp (gl:Nat→AV) (p:Pk) (h:Yr p≠0):PS Tryz.prog gl 71 [.agg p.enc] (.aX [.str [],.int .i64 (Yr p)]):=by
 refine GA.ps (of_decide_eq_true rfl) (by simp[Qe,ai]) fun c hN hg=>?_
 conv in aO _ _=>cbv
 have hG:=tU c.gl p
 generalize Yr p=E at *
 unfold Pk.enc at hG ⊢
 refine Qf ?_
 refine Zg hG ?_
 (refine Qa (fun g0=>?_) (fun g0=>?_)<;>try exact g0.elim)
 ·exact Qs
 ·exact (h g0).elim
theorem Xww (gl:Nat→AV) (p:Pk):PS Tryz.prog gl 71 [.agg p.enc] (Lx p):=by
 unfold Lx
 by_cases h:Yr p=0
 ·rw[if_pos h]
  have hp:=(Wb h).1
  rcases p with ⟨ae,aA,ah,dst,aj,av,id,flags,seq,aL,win,body⟩
  dsimp only at hp
  rcases hp with rfl|rfl|rfl
  ·exact Xfp gl aA ah dst aj av id flags seq aL win body h
  ·exact Xrj gl aA ah dst aj av id flags seq aL win body h
  ·exact Xnd gl aA ah dst aj av id flags seq aL win body h
 ·rw[if_neg h];exact Xmp gl p h
def G1 (f:List UInt8):Prop:=f.length < 20∨b1 f 0≠69∨w2 f 2≠f.length
def G2 (f:List UInt8):Prop:=cj (f.take 20)≠65535
def G3 (f:List UInt8):Prop:=b1 f 1≠0∨w2 f 6≠0
def G4 (f:List UInt8):Prop:=b1 f 8=0
def G5 (f:List UInt8):Prop:=¬ (b1 f 9=1∨b1 f 9=6∨b1 f 9=17)
def G6 (f:List UInt8):Prop:=(f.drop 20).length < (if b1 f 9=6 then 20 else 8)
def G7 (f:List UInt8):Prop:=cj (Yy (b1 f 9) (w4 f 12) (w4 f 16) (f.drop 20).length++f.drop 20)≠65535∨(b1 f 9=17∧w2 (f.drop 20) 6=0)
def G8 (f:List UInt8):Prop:=b1 f 9=1∧((b1 (f.drop 20) 0≠8∧b1 (f.drop 20) 0≠0)∨b1 (f.drop 20) 1≠0)
def G9 (f:List UInt8):Prop:=b1 f 9=17∧w2 (f.drop 20) 4≠(f.drop 20).length
def qK (f:List UInt8):Prop:=b1 f 9=6∧(b1 (f.drop 20) 12≠80∨63 < b1 (f.drop 20) 13∨w2 (f.drop 20) 18≠0)
theorem Dl {f:List UInt8} (h:G1 f):bP f=1:=if_pos h
theorem LF {f:List UInt8} (h1:¬ G1 f) (h:G2 f):bP f=3:=(if_neg h1).trans (if_pos h)
theorem GF {f:List UInt8} (h1:¬ G1 f) (h2:¬ G2 f) (h:G3 f):bP f=4:=(if_neg h1).trans ((if_neg h2).trans (if_pos h))
theorem LG {f:List UInt8} (h1:¬ G1 f) (h2:¬ G2 f) (h3:¬ G3 f) (h:G4 f):bP f=12:=(if_neg h1).trans ((if_neg h2).trans ((if_neg h3).trans (if_pos h)))
structure H4 (f:List UInt8):Prop where
 g1:¬ G1 f
 g2:¬ G2 f
 g3:¬ G3 f
 g4:¬ G4 f
theorem LH {f:List UInt8} (k:H4 f) (h:G5 f):bP f=4:=(if_neg k.g1).trans ((if_neg k.g2).trans ((if_neg k.g3).trans ((if_neg k.g4).trans (if_pos h))))
theorem Dm {f:List UInt8} (k:H4 f) (h5:¬ G5 f) (h:G6 f):bP f=1:=(if_neg k.g1).trans ((if_neg k.g2).trans ((if_neg k.g3).trans ((if_neg k.g4).trans ((if_neg h5).trans (if_pos h)))))
structure H6 (f:List UInt8):Prop where
 g:H4 f
 g5:¬ G5 f
 g6:¬ G6 f
theorem Ay {f:List UInt8} (k:H6 f) (h:G7 f):bP f=3:=(if_neg k.g.g1).trans ((if_neg k.g.g2).trans ((if_neg k.g.g3).trans ((if_neg k.g.g4).trans ((if_neg k.g5).trans ((if_neg k.g6).trans (if_pos h))))))
theorem Dn {f:List UInt8} (k:H6 f) (h7:¬ G7 f) (h:G8 f):bP f=4:=(if_neg k.g.g1).trans ((if_neg k.g.g2).trans ((if_neg k.g.g3).trans ((if_neg k.g.g4).trans ((if_neg k.g5).trans ((if_neg k.g6).trans ((if_neg h7).trans (if_pos h)))))))
theorem LI {f:List UInt8} (k:H6 f) (h7:¬ G7 f) (h8:¬ G8 f) (h:G9 f):bP f=1:=(if_neg k.g.g1).trans ((if_neg k.g.g2).trans ((if_neg k.g.g3).trans ((if_neg k.g.g4).trans ((if_neg k.g5).trans ((if_neg k.g6).trans ((if_neg h7).trans ((if_neg h8).trans (if_pos h))))))))
theorem Dp {f:List UInt8} (k:H6 f) (h7:¬ G7 f) (h8:¬ G8 f) (h9:¬ G9 f) (h:qK f):bP f=4:=(if_neg k.g.g1).trans ((if_neg k.g.g2).trans ((if_neg k.g.g3).trans ((if_neg k.g.g4).trans ((if_neg k.g5).trans ((if_neg k.g6).trans ((if_neg h7).trans ((if_neg h8).trans ((if_neg h9).trans (if_pos h)))))))))
theorem Dq {f:List UInt8} (k:H6 f) (h7:¬ G7 f) (h8:¬ G8 f) (h9:¬ G9 f) (ed:¬ qK f):bP f=Yr (az f):=(if_neg k.g.g1).trans ((if_neg k.g.g2).trans ((if_neg k.g.g3).trans ((if_neg k.g.g4).trans ((if_neg k.g5).trans ((if_neg k.g6).trans ((if_neg h7).trans ((if_neg h8).trans ((if_neg h9).trans (if_neg ed)))))))))
theorem Qn (l:List UInt8) (k:Nat):((l.getD k 0).toNat:Int)=b1 l k:=rfl
theorem sL (l:List UInt8) (k:Nat):0≤b1 l k∧b1 l k≤255:=by unfold b1;have:=UInt8.toNat_lt (l.getD k 0);omega
theorem Dr (l:List UInt8) (k:Nat) (h:k + 2≤l.length):0≤w2 l k∧w2 l k≤65535:=by unfold w2;have:=YP _ (Pc l k 2 h);omega
theorem LJ (l:List UInt8) (k:Nat) (h:k + 4≤l.length):0≤w4 l k∧w4 l k≤4294967295:=by unfold w4;have:=YO _ (Pc l k 4 h);omega
theorem gG (gl:Nat→AV) (l:List UInt8) (k:Nat):PS Tryz.prog gl 73 [.str ((l.drop k).take 2)] (.int .i64 (w2 l k)):=Sh gl _ (by rw[List.length_take];omega)
theorem GG (gl:Nat→AV) (l:List UInt8) (k:Nat):PS Tryz.prog gl 73 [.str ((l.drop k).take 4)] (.int .i64 (w4 l k)):=Sh gl _ (by rw[List.length_take];omega)
theorem Yk {l:List UInt8} {e:Int} (h:bP l=e) (he:e≠0):Kt l=.aX [.agg ew.enc,.int .i64 e]:=by
 unfold Kt;rw[if_neg af,h]
theorem Sm {l:List UInt8} (h:bP l=0):Kt l=.aX [.agg (az l).enc,.int .i64 0]:=by
 unfold Kt;rw[if_pos h]
theorem Xu9 (l:List UInt8):Qe 0 (Kt l):=by
 unfold Kt;split<;>simp[Qe,ai,Pk.enc]
theorem GH {l:List UInt8} {e:Int} (p:Pk) (h:bP l=e) (hp:az l=p):Kt l=if e=0 then .aX [.agg p.enc,.int .i64 0] else .aX [.agg ew.enc,.int .i64 e]:=by
 unfold Kt;rw[h,hp]
set_option maxRecDepth 20000 in
theorem Wu (gl:Nat→AV) (l:List UInt8) (hl:l.length≤140737488351232):PS Tryz.prog gl 34 [.str l] (Kt l):=by
 refine Xmz.ps (of_decide_eq_true rfl) (Xu9 l) fun c hN hg=>?_
 conv in aO _ _=>cbv
 have c0:=sL l 0
 have c1:=sL l 1
 have c8:=sL l 8
 have c9:=sL l 9
 by_cases h1:l.length < 20
 ·have d1:decide ((l.length:Int) < 20)=true:=by simp;omega
  refine Qh @d1 ?_
  ((first|apply Yo|apply Yc)<;>(have aB:=@d1;refine XG ?_;clear aB;first|exact rfl|exact True.intro|((try (repeat' with_reducible refine And.intro ?_ ?_));(try any_goals (first|refine zm ?_|exact CL|fail)))))
  (refine Qa (fun g1=>?_) (fun g1=>?_)<;>try exact g1.elim)
  rw[Yk (Dl (.inl h1)) aR]
  refine Qh @Qn ?_
  exact Ke (ip []) (Kg c.gl 1) (An @gF.eq_1 (An @ew.eq_1 (An @Pk.enc.eq_1 @Qn)))
 have d1:decide ((l.length:Int) < 20)=false:=by simp;omega
 by_cases h2:b1 l 0=69
 rotate_left
 ·have h2b:(b1 l 0 != 69)=true:=by simp[h2]
  refine Qh (An @Qn (An @h2b @d1)) ?_
  ((first|apply Yo|apply Yc)<;>(have aB:=@d1;refine XG ?_;clear aB;first|exact rfl|exact True.intro|((try (repeat' with_reducible refine And.intro ?_ ?_));(try any_goals (first|refine zm ?_|exact CL|fail)))))
  (refine Qa (fun g1=>?_) (fun g1=>?_)<;>try exact g1.elim)
  rw[Yk (Dl (.inr (.inl h2))) aR]
  refine Qh @Qn ?_
  exact Ke (ip []) (Kg c.gl 1) (An @gF.eq_1 (An @ew.eq_1 (An @Pk.enc.eq_1 @Qn)))
 refine Qh (An @Qn (An @h2 @d1)) ?_
 ((first|apply Yx|apply Ym|apply Xz|apply Xs)<;>(first|exact (gG _ l 2)|(have aB:=@Qn;have aQ:=@h2;refine XG ?_;clear aB aQ;first|exact rfl|exact True.intro|((try (repeat' with_reducible refine And.intro ?_ ?_));(try any_goals (first|refine zm ?_|exact CL|fail))))))
 (refine Qa (fun h3=>?_) (fun h3=>?_)<;>try exact h3.elim)
 ·rw[Yk (Dl (.inr (.inr h3))) aR]
  refine Qh @Qn ?_
  exact Ke (ip []) (Kg c.gl 1) (An @gF.eq_1 (An @ew.eq_1 (An @Pk.enc.eq_1 @Qn)))
 have k1:¬ G1 l:=by unfold G1;omega
 refine Qf ?_
 ((first|apply Yx|apply Ym|apply Xz|apply Xs)<;>(first|exact (pF _ (l.take 20) (by rw[List.length_take];omega))|(refine XG ?_;first|exact rfl|exact True.intro|((try (repeat' with_reducible refine And.intro ?_ ?_));(try any_goals (first|refine zm ?_|exact CL|fail))))))
 (refine Qa (fun h4=>?_) (fun h4=>?_)<;>try exact h4.elim)
 ·rw[Yk (LF k1 (by unfold G2;omega)) aR]
  refine Qh @Qn ?_
  exact Ke (ip []) (Kg c.gl 3) (An @gF.eq_1 (An @ew.eq_1 (An @Pk.enc.eq_1 @Qn)))
 have k2:¬ G2 l:=by unfold G2;omega
 by_cases h5:b1 l 1=0
 rotate_left
 ·have h5b:(b1 l 1 != 0)=true:=by simp[h5]
  refine Qh (An @Qn @h5b) ?_
  ((first|apply Yo|apply Yc)<;>(refine XG ?_;first|exact rfl|exact True.intro|((try (repeat' with_reducible refine And.intro ?_ ?_));(try any_goals (first|refine zm ?_|exact CL|fail)))))
  (refine Qa (fun g1=>?_) (fun g1=>?_)<;>try exact g1.elim)
  rw[Yk (GF k1 k2 (.inl h5)) aR]
  refine Qh @Qn ?_
  exact Ke (ip []) (Kg c.gl 4) (An @gF.eq_1 (An @ew.eq_1 (An @Pk.enc.eq_1 @Qn)))
 refine Qh (An @Qn @h5) ?_
 ((first|apply Yx|apply Ym|apply Xz|apply Xs)<;>(first|exact (gG _ l 6)|(have aB:=@Qn;have aQ:=@h5;refine XG ?_;clear aB aQ;first|exact rfl|exact True.intro|((try (repeat' with_reducible refine And.intro ?_ ?_));(try any_goals (first|refine zm ?_|exact CL|fail))))))
 (refine Qa (fun h6=>?_) (fun h6=>?_)<;>try exact h6.elim)
 ·rw[Yk (GF k1 k2 (.inr h6)) aR]
  refine Qh @Qn ?_
  exact Ke (ip []) (Kg c.gl 4) (An @gF.eq_1 (An @ew.eq_1 (An @Pk.enc.eq_1 @Qn)))
 have k3:¬ G3 l:=by unfold G3;omega
 refine Qh @Qn ?_
 ((first|apply Yx|apply Ym|apply Xz|apply Xs)<;>(first|exact (GG _ l 12)|(have aB:=@Qn;refine XG ?_;clear aB;first|exact rfl|exact True.intro|((try (repeat' with_reducible refine And.intro ?_ ?_));(try any_goals (first|refine zm ?_|exact CL|fail))))))
 ((first|apply Yx|apply Ym|apply Xz|apply Xs)<;>(first|exact (GG _ l 16)|(have aB:=@Qn;refine XG ?_;clear aB;first|exact rfl|exact True.intro|((try (repeat' with_reducible refine And.intro ?_ ?_));(try any_goals (first|refine zm ?_|exact CL|fail))))))
 ((first|apply Yx|apply Ym|apply Xz|apply Xs)<;>(first|exact (gG _ l 4)|(have aB:=@Qn;refine XG ?_;clear aB;first|exact rfl|exact True.intro|((try (repeat' with_reducible refine And.intro ?_ ?_));(try any_goals (first|refine zm ?_|exact CL|fail))))))
 (refine Qa (fun h7=>?_) (fun h7=>?_)<;>try exact h7.elim)
 ·rw[Yk (LG k1 k2 k3 h7) aR]
  refine Qh @Qn ?_
  exact Ke (ip []) (Kg c.gl 12) (An @gF.eq_1 (An @ew.eq_1 (An @Pk.enc.eq_1 @Qn)))
 have K:H4 l:=⟨k1,k2,k3,h7⟩
 clear k1 k2 k3
 have e4:0≤w4 l 12∧w4 l 12≤4294967295:=LJ _ _ af
 have e5:0≤w4 l 16∧w4 l 16≤4294967295:=LJ _ _ af
 have cd:=GB c.gl (b1 l 9)
 by_cases h8:b1 l 9=1∨b1 l 9=6∨b1 l 9=17
 rotate_left
 ·have hz:nt (b1 l 9)=.aX [.int .i64 0,.int .i64 0]:=by unfold nt;rw[if_neg af,if_neg af,if_neg af]
  rw[hz]at cd
  refine Qf ?_
  refine Zg cd ?_
  (refine Qa (fun g1=>?_) (fun g1=>?_)<;>try exact g1.elim)
  rw[Yk (LH K h8) aR]
  refine Qh @Qn ?_
  exact Ke (ip []) (Kg c.gl 4) (An @gF.eq_1 (An @ew.eq_1 (An @Pk.enc.eq_1 @Qn)))
 have k5:¬ G5 l:=fun h=>h h8
 generalize hs:l.drop 20=s
 have jD:s.length=l.length - 20:=by rw[← hs,List.length_drop]
 have f0:=sL s 0
 have f1:=sL s 1
 have f12:=sL s 12
 have f13:=sL s 13
 rcases h8 with h9|h9|h9
 ·have hz:nt (b1 l 9)=.aX [.int .i64 8,.int .i64 2]:=by rw[h9];rfl
  rw[hz,h9]at cd
  rw[h9]
  clear hz
  refine Qh @hs ?_
  refine Zg cd ?_
  (refine Qa (fun g1=>?_) (fun g1=>?_)<;>try exact g1.elim)
  refine Qf ?_
  (refine Qa (fun ed=>?_) (fun ed=>?_)<;>try exact ed.elim)
  ·rw[Yk (Dm K k5 (by unfold G6;rw[hs,h9];simp;omega)) aR]
   refine Qh @Qn ?_
   exact Ke (ip []) (Kg c.gl 1) (An @gF.eq_1 (An @ew.eq_1 (An @Pk.enc.eq_1 @Qn)))
  have K6:H6 l:=⟨K,k5,by unfold G6;rw[hs,h9];simp;omega⟩
  clear K k5
  have hO:=pF c.gl s af
  have sM:G7 l ↔ cj s≠65535:=by unfold G7;rw[hs,h9];simp[Yy]
  generalize cj s=O at *
  refine Qf ?_
  (refine Qa (fun g2=>?_) (fun g2=>?_)<;>try exact g2.elim)
  refine Qf ?_
  have k7:¬ G7 l∨(G7 l∧O≠65535):=by by_cases h:O=65535<;>simp[sM,h]
  refine Zg hO ?_
  by_cases iH:O=65535
  rotate_left
  ·have d2:((O:Int) != 65535)=true:=by simp;omega
   refine Qh @d2 ?_
   ((first|apply Yo|apply Yc)<;>(have aB:=@d2;refine XG ?_;clear aB;first|exact rfl|exact True.intro|((try (repeat' with_reducible refine And.intro ?_ ?_));(try any_goals (first|refine zm ?_|exact CL|fail)))))
   (refine Qa (fun g3=>?_) (fun g3=>?_)<;>try exact g3.elim)
   rw[Yk (Ay K6 (sM.2 iH)) aR]
   refine Qh @Qn ?_
   exact Ke (ip []) (Kg c.gl 3) (An @gF.eq_1 (An @ew.eq_1 (An @Pk.enc.eq_1 @Qn)))
  have d2:((O:Int) != 65535)=false:=by simp;omega
  have k7:¬ G7 l:=fun h=>sM.1 h iH
  refine Qh @d2 ?_
  ((first|apply Yo|apply Yc)<;>(have aB:=@d2;refine XG ?_;clear aB;first|exact rfl|exact True.intro|((try (repeat' with_reducible refine And.intro ?_ ?_));(try any_goals (first|refine zm ?_|exact CL|fail)))))
  (refine Qa (fun g3=>?_) (fun g3=>?_)<;>try exact g3.elim)
  refine Qh @Qn ?_
  have k9:¬ G9 l:=fun h=>by have:=h.1;omega
  have qL:¬ qK l:=fun h=>by have:=h.1;omega
  (refine Qa (fun g4=>?_) (fun g4=>?_)<;>try exact g4.elim)
  refine Qh @Qn ?_
  ((first|apply Yx|apply Ym|apply Xz|apply Xs)<;>(first|exact (gG _ s 6)|(have aB:=@Qn;refine XG ?_;clear aB;first|exact rfl|exact True.intro|((try (repeat' with_reducible refine And.intro ?_ ?_));(try any_goals (first|refine zm ?_|exact CL|fail))))))
  by_cases f8:b1 s 0=8
  ·have k8:G8 l ↔ b1 s 1≠0:=by unfold G8;rw[hs,h9];simp[f8]
   rw[f8]
   refine Qh (An @Qn @f8) ?_
   (refine Qa (fun fa=>?_) (fun fa=>?_)<;>try exact fa.elim)
   ·rw[Yk (Dn K6 k7 (k8.2 fa)) aR]
    refine Qh @Qn ?_
    exact Ke (ip []) (Kg c.gl 4) (An @gF.eq_1 (An @ew.eq_1 (An @Pk.enc.eq_1 @Qn)))
   have k8:¬ G8 l:=fun h=>k8.1 h fa
   refine Qh @Qn ?_
   (refine Qa (fun g5=>?_) (fun g5=>?_)<;>try exact g5.elim)
   refine Qh @Qn ?_
   ((first|apply Yx|apply Ym|apply Xz|apply Xs)<;>(first|exact (gG _ s 4)|(have aB:=@Qn;refine XG ?_;clear aB;first|exact rfl|exact True.intro|((try (repeat' with_reducible refine And.intro ?_ ?_));(try any_goals (first|refine zm ?_|exact CL|fail))))))
   have hP:az l=(⟨1,w4 l 12,w2 s 4,w4 l 16,0,b1 l 8,w2 l 4,8,w2 s 6,0,0,s.drop 8⟩:Pk):=by unfold az mc;simp only[hs,h9,reduceCtorEq,Int.reduceEq,if_true,if_false,↓reduceIte,f8]
   have hG:=tU c.gl (⟨1,w4 l 12,w2 s 4,w4 l 16,0,b1 l 8,w2 l 4,8,w2 s 6,0,0,s.drop 8⟩:Pk)
   have hE:=Dq K6 k7 k8 k9 qL
   rw[hP]at hE
   unfold Pk.enc at hG
   dsimp only at hG
   rw[GH _ hE hP]
   generalize Yr (⟨1,w4 l 12,w2 s 4,w4 l 16,0,b1 l 8,w2 l 4,8,w2 s 6,0,0,s.drop 8⟩:Pk)=E at *
   clear hP hE
   unfold Pk.enc ew
   refine Qh @Qn ?_
   refine Qy hG @Qn ?_
   (refine Qa (fun g9=>?_) (fun g9=>?_)<;>try exact g9.elim)
   ·rw[if_neg g9]
    refine Qh @Qn ?_
    exact Ke (ip []) (Kg c.gl E) (An @gF.eq_1 (An @ew.eq_1 (An @Pk.enc.eq_1 @Qn)))
   ·rw[if_pos g9]
    subst g9
    exact Qr @Qn
  ·have f8b:(b1 s 0 != 8)=true:=by simp[f8]
   have f8c:(b1 s 0 == 8)=false:=by simp[f8]
   by_cases Az:b1 s 0=0
   ·have k8:G8 l ↔ b1 s 1≠0:=by unfold G8;rw[hs,h9];simp[Az]
    rw[Az]
    refine Qh (An @Qn @Az) ?_
    (refine Qa (fun fa=>?_) (fun fa=>?_)<;>try exact fa.elim)
    ·rw[Yk (Dn K6 k7 (k8.2 fa)) aR]
     refine Qh @Qn ?_
     exact Ke (ip []) (Kg c.gl 4) (An @gF.eq_1 (An @ew.eq_1 (An @Pk.enc.eq_1 @Qn)))
    have k8:¬ G8 l:=fun h=>k8.1 h fa
    refine Qh @Qn ?_
    (refine Qa (fun g5=>?_) (fun g5=>?_)<;>try exact g5.elim)
    refine Qh @Qn ?_
    ((first|apply Yx|apply Ym|apply Xz|apply Xs)<;>(first|exact (gG _ s 4)|(have aB:=@Qn;refine XG ?_;clear aB;first|exact rfl|exact True.intro|((try (repeat' with_reducible refine And.intro ?_ ?_));(try any_goals (first|refine zm ?_|exact CL|fail))))))
    have hP:az l=(⟨1,w4 l 12,0,w4 l 16,w2 s 4,b1 l 8,w2 l 4,0,w2 s 6,0,0,s.drop 8⟩:Pk):=by unfold az mc;simp only[hs,h9,reduceCtorEq,Int.reduceEq,if_true,if_false,↓reduceIte,Az]
    have hG:=tU c.gl (⟨1,w4 l 12,0,w4 l 16,w2 s 4,b1 l 8,w2 l 4,0,w2 s 6,0,0,s.drop 8⟩:Pk)
    have hE:=Dq K6 k7 k8 k9 qL
    rw[hP]at hE
    unfold Pk.enc at hG
    dsimp only at hG
    rw[GH _ hE hP]
    generalize Yr (⟨1,w4 l 12,0,w4 l 16,w2 s 4,b1 l 8,w2 l 4,0,w2 s 6,0,0,s.drop 8⟩:Pk)=E at *
    clear hP hE
    unfold Pk.enc ew
    refine Qh @Qn ?_
    refine Qy hG @Qn ?_
    (refine Qa (fun g9=>?_) (fun g9=>?_)<;>try exact g9.elim)
    ·rw[if_neg g9]
     refine Qh @Qn ?_
     exact Ke (ip []) (Kg c.gl E) (An @gF.eq_1 (An @ew.eq_1 (An @Pk.enc.eq_1 @Qn)))
    ·rw[if_pos g9]
     subst g9
     exact Qr @Qn
   ·have f0b:(b1 s 0 != 0)=true:=by simp[Az]
    refine Qh (An @Qn (An @f8b @f0b)) ?_
    (refine Qa (fun g5=>?_) (fun g5=>?_)<;>try exact g5.elim)
    rw[Yk (Dn K6 k7 (show G8 l by unfold G8;rw[hs];exact ⟨h9,.inl ⟨f8,Az⟩⟩)) aR]
    refine Qh @Qn ?_
    exact Ke (ip []) (Kg c.gl 4) (An @gF.eq_1 (An @ew.eq_1 (An @Pk.enc.eq_1 @Qn)))
 ·have hz:nt (b1 l 9)=.aX [.int .i64 20,.int .i64 16]:=by rw[h9];rfl
  rw[hz,h9]at cd
  rw[h9]
  clear hz
  refine Qh @hs ?_
  refine Zg cd ?_
  (refine Qa (fun g1=>?_) (fun g1=>?_)<;>try exact g1.elim)
  refine Qf ?_
  (refine Qa (fun ed=>?_) (fun ed=>?_)<;>try exact ed.elim)
  ·rw[Yk (Dm K k5 (by unfold G6;rw[hs,h9];simp;omega)) aR]
   refine Qh @Qn ?_
   exact Ke (ip []) (Kg c.gl 1) (An @gF.eq_1 (An @ew.eq_1 (An @Pk.enc.eq_1 @Qn)))
  have K6:H6 l:=⟨K,k5,by unfold G6;rw[hs,h9];simp;omega⟩
  clear K k5
  have bY:be (w4 l 12) 4++be (w4 l 16) 4++be 6 2++be (s.length:Int) 2=Yy 6 (w4 l 12) (w4 l 16) s.length:=rfl
  have eQ:(Yy 6 (w4 l 12) (w4 l 16) s.length).length=12:=by rw[← bY];simp[Qi]
  have hO:=pF c.gl (Yy 6 (w4 l 12) (w4 l 16) s.length++s) (by rw[List.length_append];omega)
  have dK:=GC c.gl (w4 l 12) (w4 l 16) 6 (s.length:Int)
  rw[bY]at dK
  have sM:G7 l ↔ cj (Yy 6 (w4 l 12) (w4 l 16) s.length++s)≠65535:=by unfold G7;rw[hs,h9];simp
  clear bY
  generalize cj (Yy 6 (w4 l 12) (w4 l 16) s.length++s)=O at *
  generalize Yy 6 (w4 l 12) (w4 l 16) s.length=pre at *
  refine Qf ?_
  (refine Qa (fun g2=>?_) (fun g2=>?_)<;>try exact g2.elim)
  refine Qf ?_
  refine Qy dK @eQ ?_
  refine Zg hO ?_
  by_cases iH:O=65535
  rotate_left
  ·have d2:((O:Int) != 65535)=true:=by simp;omega
   refine Qh @d2 ?_
   ((first|apply Yo|apply Yc)<;>(have aB:=@d2;refine XG ?_;clear aB;first|exact rfl|exact True.intro|((try (repeat' with_reducible refine And.intro ?_ ?_));(try any_goals (first|refine zm ?_|exact CL|fail)))))
   (refine Qa (fun g3=>?_) (fun g3=>?_)<;>try exact g3.elim)
   rw[Yk (Ay K6 (sM.2 iH)) aR]
   refine Qh @Qn ?_
   exact Ke (ip []) (Kg c.gl 3) (An @gF.eq_1 (An @ew.eq_1 (An @Pk.enc.eq_1 @Qn)))
  have d2:((O:Int) != 65535)=false:=by simp;omega
  refine Qh @d2 ?_
  ((first|apply Yo|apply Yc)<;>(have aB:=@d2;refine XG ?_;clear aB;first|exact rfl|exact True.intro|((try (repeat' with_reducible refine And.intro ?_ ?_));(try any_goals (first|refine zm ?_|exact CL|fail)))))
  (refine Qa (fun g3=>?_) (fun g3=>?_)<;>try exact g3.elim)
  have k7:¬ G7 l:=fun h=>sM.1 h iH
  have k8:¬ G8 l:=fun h=>by have:=h.1;omega
  have k9:¬ G9 l:=fun h=>by have:=h.1;omega
  have tV:qK l ↔ b1 s 12≠80∨63 < b1 s 13∨w2 s 18≠0:=by unfold qK;rw[hs,h9];simp
  refine Qh @Qn ?_
  (refine Qa (fun g4=>?_) (fun g4=>?_)<;>try exact g4.elim)
  refine Qh @Qn ?_
  (refine Qa (fun g5=>?_) (fun g5=>?_)<;>try exact g5.elim)
  refine Qh @Qn ?_
  (refine Qa (fun g6=>?_) (fun g6=>?_)<;>try exact g6.elim)
  refine Qh @Qn ?_
  ((first|apply Yx|apply Ym|apply Xz|apply Xs)<;>(first|exact (gG _ s 0)|(have aB:=@Qn;have aQ:=@List.drop_zero.{0};refine XG ?_;clear aB aQ;first|exact rfl|exact True.intro|((try (repeat' with_reducible refine And.intro ?_ ?_));(try any_goals (first|refine zm ?_|exact CL|fail))))))
  ((first|apply Yx|apply Ym|apply Xz|apply Xs)<;>(first|exact (gG _ s 2)|(have aB:=@Qn;refine XG ?_;clear aB;first|exact rfl|exact True.intro|((try (repeat' with_reducible refine And.intro ?_ ?_));(try any_goals (first|refine zm ?_|exact CL|fail))))))
  ((first|apply Yx|apply Ym|apply Xz|apply Xs)<;>(first|exact (GG _ s 4)|(have aB:=@Qn;refine XG ?_;clear aB;first|exact rfl|exact True.intro|((try (repeat' with_reducible refine And.intro ?_ ?_));(try any_goals (first|refine zm ?_|exact CL|fail))))))
  ((first|apply Yx|apply Ym|apply Xz|apply Xs)<;>(first|exact (GG _ s 8)|(have aB:=@Qn;refine XG ?_;clear aB;first|exact rfl|exact True.intro|((try (repeat' with_reducible refine And.intro ?_ ?_));(try any_goals (first|refine zm ?_|exact CL|fail))))))
  ((first|apply Yx|apply Ym|apply Xz|apply Xs)<;>(first|exact (gG _ s 14)|(have aB:=@Qn;refine XG ?_;clear aB;first|exact rfl|exact True.intro|((try (repeat' with_reducible refine And.intro ?_ ?_));(try any_goals (first|refine zm ?_|exact CL|fail))))))
  by_cases me:b1 s 12=80
  rotate_left
  ·have d3:(b1 s 12 != 80)=true:=by simp[me]
   refine Qh (An @Qn @d3) ?_
   ((first|apply Yo|apply Yc)<;>(have aB:=@d3;refine XG ?_;clear aB;first|exact rfl|exact True.intro|((try (repeat' with_reducible refine And.intro ?_ ?_));(try any_goals (first|refine zm ?_|exact CL|fail)))))
   (refine Qa (fun g7=>?_) (fun g7=>?_)<;>try exact g7.elim)
   rw[Yk (Dp K6 k7 k8 k9 (tV.2 (.inl me))) aR]
   refine Qh @Qn ?_
   exact Ke (ip []) (Kg c.gl 4) (An @gF.eq_1 (An @ew.eq_1 (An @Pk.enc.eq_1 @Qn)))
  by_cases Sn:63 < b1 s 13
  ·have d3:decide (63 < b1 s 13)=true:=by simp[Sn]
   refine Qh (An @Qn (An @me @d3)) ?_
   ((first|apply Yo|apply Yc)<;>(have aB:=@d3;refine XG ?_;clear aB;first|exact rfl|exact True.intro|((try (repeat' with_reducible refine And.intro ?_ ?_));(try any_goals (first|refine zm ?_|exact CL|fail)))))
   (refine Qa (fun g7=>?_) (fun g7=>?_)<;>try exact g7.elim)
   rw[Yk (Dp K6 k7 k8 k9 (tV.2 (.inr (.inl Sn)))) aR]
   refine Qh @Qn ?_
   exact Ke (ip []) (Kg c.gl 4) (An @gF.eq_1 (An @ew.eq_1 (An @Pk.enc.eq_1 @Qn)))
  have d3:decide (63 < b1 s 13)=false:=by simp;omega
  refine Qh (An @Qn (An @me @d3)) ?_
  ((first|apply Yx|apply Ym|apply Xz|apply Xs)<;>(first|exact (gG _ s 18)|(have aB:=@Qn;have aQ:=@me;have a8:=@d3;refine XG ?_;clear aB aQ a8;first|exact rfl|exact True.intro|((try (repeat' with_reducible refine And.intro ?_ ?_));(try any_goals (first|refine zm ?_|exact CL|fail))))))
  (refine Qa (fun LK=>?_) (fun LK=>?_)<;>try exact LK.elim)
  ·rw[Yk (Dp K6 k7 k8 k9 (tV.2 (.inr (.inr LK)))) aR]
   refine Qh @Qn ?_
   exact Ke (ip []) (Kg c.gl 4) (An @gF.eq_1 (An @ew.eq_1 (An @Pk.enc.eq_1 @Qn)))
  have qL:¬ qK l:=fun h=>by have:=tV.1 h;omega
  have hP:az l=(⟨6,w4 l 12,w2 s 0,w4 l 16,w2 s 2,b1 l 8,w2 l 4,b1 s 13,w4 s 4,w4 s 8,w2 s 14,s.drop 20⟩:Pk):=by unfold az mc;simp only[hs,h9,reduceCtorEq,Int.reduceEq,if_true,if_false,↓reduceIte]
  have hG:=tU c.gl (⟨6,w4 l 12,w2 s 0,w4 l 16,w2 s 2,b1 l 8,w2 l 4,b1 s 13,w4 s 4,w4 s 8,w2 s 14,s.drop 20⟩:Pk)
  have hE:=Dq K6 k7 k8 k9 qL
  rw[hP]at hE
  unfold Pk.enc at hG
  dsimp only at hG
  rw[GH _ hE hP]
  generalize Yr (⟨6,w4 l 12,w2 s 0,w4 l 16,w2 s 2,b1 l 8,w2 l 4,b1 s 13,w4 s 4,w4 s 8,w2 s 14,s.drop 20⟩:Pk)=E at *
  clear hP hE
  unfold Pk.enc ew
  refine Qh @Qn ?_
  refine Qy hG @Qn ?_
  (refine Qa (fun g9=>?_) (fun g9=>?_)<;>try exact g9.elim)
  ·rw[if_neg g9]
   refine Qh @Qn ?_
   exact Ke (ip []) (Kg c.gl E) (An @gF.eq_1 (An @ew.eq_1 (An @Pk.enc.eq_1 @Qn)))
  ·rw[if_pos g9]
   subst g9
   exact Qr @Qn
 ·have hz:nt (b1 l 9)=.aX [.int .i64 8,.int .i64 6]:=by rw[h9];rfl
  rw[hz,h9]at cd
  rw[h9]
  clear hz
  refine Qh @hs ?_
  refine Zg cd ?_
  (refine Qa (fun g1=>?_) (fun g1=>?_)<;>try exact g1.elim)
  refine Qf ?_
  (refine Qa (fun ed=>?_) (fun ed=>?_)<;>try exact ed.elim)
  ·rw[Yk (Dm K k5 (by unfold G6;rw[hs,h9];simp;omega)) aR]
   refine Qh @Qn ?_
   exact Ke (ip []) (Kg c.gl 1) (An @gF.eq_1 (An @ew.eq_1 (An @Pk.enc.eq_1 @Qn)))
  have K6:H6 l:=⟨K,k5,by unfold G6;rw[hs,h9];simp;omega⟩
  clear K k5
  have bY:be (w4 l 12) 4++be (w4 l 16) 4++be 17 2++be (s.length:Int) 2=Yy 17 (w4 l 12) (w4 l 16) s.length:=rfl
  have eQ:(Yy 17 (w4 l 12) (w4 l 16) s.length).length=12:=by rw[← bY];simp[Qi]
  have hO:=pF c.gl (Yy 17 (w4 l 12) (w4 l 16) s.length++s) (by rw[List.length_append];omega)
  have dK:=GC c.gl (w4 l 12) (w4 l 16) 17 (s.length:Int)
  rw[bY]at dK
  have sM:G7 l ↔ cj (Yy 17 (w4 l 12) (w4 l 16) s.length++s)≠65535∨w2 s 6=0:=by unfold G7;rw[hs,h9];simp
  clear bY
  generalize cj (Yy 17 (w4 l 12) (w4 l 16) s.length++s)=O at *
  generalize Yy 17 (w4 l 12) (w4 l 16) s.length=pre at *
  refine Qf ?_
  (refine Qa (fun g2=>?_) (fun g2=>?_)<;>try exact g2.elim)
  refine Qf ?_
  refine Qy dK @eQ ?_
  refine Zg hO ?_
  by_cases iH:O=65535
  rotate_left
  ·have d2:((O:Int) != 65535)=true:=by simp;omega
   refine Qh @d2 ?_
   ((first|apply Yo|apply Yc)<;>(have aB:=@d2;refine XG ?_;clear aB;first|exact rfl|exact True.intro|((try (repeat' with_reducible refine And.intro ?_ ?_));(try any_goals (first|refine zm ?_|exact CL|fail)))))
   (refine Qa (fun g3=>?_) (fun g3=>?_)<;>try exact g3.elim)
   rw[Yk (Ay K6 (sM.2 (.inl iH))) aR]
   refine Qh @Qn ?_
   exact Ke (ip []) (Kg c.gl 3) (An @gF.eq_1 (An @ew.eq_1 (An @Pk.enc.eq_1 @Qn)))
  have d2:((O:Int) != 65535)=false:=by simp;omega
  refine Qh @d2 ?_
  ((first|apply Yx|apply Ym|apply Xz|apply Xs)<;>(first|exact (gG _ s 6)|(have aB:=@d2;refine XG ?_;clear aB;first|exact rfl|exact True.intro|((try (repeat' with_reducible refine And.intro ?_ ?_));(try any_goals (first|refine zm ?_|exact CL|fail))))))
  (refine Qa (fun fa=>?_) (fun fa=>?_)<;>try exact fa.elim)
  ·rw[Yk (Ay K6 (sM.2 (.inr fa))) aR]
   refine Qh @Qn ?_
   exact Ke (ip []) (Kg c.gl 3) (An @gF.eq_1 (An @ew.eq_1 (An @Pk.enc.eq_1 @Qn)))
  have k7:¬ G7 l:=fun h=>by have:=sM.1 h;omega
  have k8:¬ G8 l:=fun h=>by have:=h.1;omega
  have qL:¬ qK l:=fun h=>by have:=h.1;omega
  have Sp:G9 l ↔ w2 s 4≠s.length:=by unfold G9;rw[hs,h9];simp
  refine Qh @Qn ?_
  (refine Qa (fun g3=>?_) (fun g3=>?_)<;>try exact g3.elim)
  refine Qh @Qn ?_
  (refine Qa (fun g4=>?_) (fun g4=>?_)<;>try exact g4.elim)
  refine Qh @Qn ?_
  ((first|apply Yx|apply Ym|apply Xz|apply Xs)<;>(first|exact (gG _ s 0)|(have aB:=@Qn;have aQ:=@List.drop_zero.{0};refine XG ?_;clear aB aQ;first|exact rfl|exact True.intro|((try (repeat' with_reducible refine And.intro ?_ ?_));(try any_goals (first|refine zm ?_|exact CL|fail))))))
  ((first|apply Yx|apply Ym|apply Xz|apply Xs)<;>(first|exact (gG _ s 2)|(have aB:=@Qn;refine XG ?_;clear aB;first|exact rfl|exact True.intro|((try (repeat' with_reducible refine And.intro ?_ ?_));(try any_goals (first|refine zm ?_|exact CL|fail))))))
  ((first|apply Yx|apply Ym|apply Xz|apply Xs)<;>(first|exact (gG _ s 4)|(have aB:=@Qn;refine XG ?_;clear aB;first|exact rfl|exact True.intro|((try (repeat' with_reducible refine And.intro ?_ ?_));(try any_goals (first|refine zm ?_|exact CL|fail))))))
  (refine Qa (fun me=>?_) (fun me=>?_)<;>try exact me.elim)
  ·rw[Yk (LI K6 k7 k8 (Sp.2 me)) aR]
   refine Qh @Qn ?_
   exact Ke (ip []) (Kg c.gl 1) (An @gF.eq_1 (An @ew.eq_1 (An @Pk.enc.eq_1 @Qn)))
  have k9:¬ G9 l:=fun h=>Sp.1 h me
  have hP:az l=(⟨17,w4 l 12,w2 s 0,w4 l 16,w2 s 2,b1 l 8,w2 l 4,0,0,0,0,s.drop 8⟩:Pk):=by unfold az mc;simp only[hs,h9,reduceCtorEq,Int.reduceEq,if_true,if_false,↓reduceIte]
  have hG:=tU c.gl (⟨17,w4 l 12,w2 s 0,w4 l 16,w2 s 2,b1 l 8,w2 l 4,0,0,0,0,s.drop 8⟩:Pk)
  have hE:=Dq K6 k7 k8 k9 qL
  rw[hP]at hE
  unfold Pk.enc at hG
  dsimp only at hG
  rw[GH _ hE hP]
  generalize Yr (⟨17,w4 l 12,w2 s 0,w4 l 16,w2 s 2,b1 l 8,w2 l 4,0,0,0,0,s.drop 8⟩:Pk)=E at *
  clear hP hE
  unfold Pk.enc ew
  refine Qh @Qn ?_
  refine Qy hG @Qn ?_
  (refine Qa (fun g9=>?_) (fun g9=>?_)<;>try exact g9.elim)
  ·rw[if_neg g9]
   refine Qh @Qn ?_
   exact Ke (ip []) (Kg c.gl E) (An @gF.eq_1 (An @ew.eq_1 (An @Pk.enc.eq_1 @Qn)))
  ·rw[if_pos g9]
   subst g9
   exact Qr @Qn
theorem Yfp (l:List UInt8) (k:Nat) (h:k + 2≤l.length):w2 l k=256 * b1 l k + b1 l (k + 1):=by
 have e:(l.drop k).take 2=[l.getD k 0,l.getD (k + 1) 0]:=by
  have a0:l.getD k 0=l[k]:=by simp[List.getD,show k < l.length by omega]
  have a1:l.getD (k + 1) 0=l[k + 1]:=by simp[List.getD,show k + 1 < l.length by omega]
  have a2:l.drop k=l[k]::l[k + 1]::l.drop (k + 2):=by rw[List.drop_eq_getElem_cons (show k < l.length by omega),List.drop_eq_getElem_cons (show k + 1 < l.length by omega)]
  rw[a0,a1,a2];rfl
 unfold w2 b1
 rw[e,tg _ au]
 simp only[iF]
 omega
theorem xR {f:List UInt8} (h:bP f=0):28≤f.length∧f.length≤65535:=by
 have h1:¬ G1 f:=fun h1=>by rw[Dl h1]at h;cases h
 have h2:¬ G2 f:=fun h2=>by rw[LF h1 h2]at h;cases h
 have h3:¬ G3 f:=fun h3=>by rw[GF h1 h2 h3]at h;cases h
 have h4:¬ G4 f:=fun h4=>by rw[LG h1 h2 h3 h4]at h;cases h
 have k:H4 f:=⟨h1,h2,h3,h4⟩
 have h5:¬ G5 f:=fun h5=>by rw[LH k h5]at h;cases h
 have h6:¬ G6 f:=fun h6=>by rw[Dm k h5 h6]at h;cases h
 unfold G1 at h1
 unfold G6 at h6
 rw[List.length_drop]at h6
 have:=Dr f 2 af
 split at h6<;>omega
theorem Xzk (f:List UInt8):(az f).aA=w4 f 12:=by
 unfold az
 dsimp only
 split
 ·rfl
 ·split<;>rfl
def sN (l:List UInt8) (id:Int):AV:=if bP l≠0 then .aX [.str [],.int .i64 (bP l)] else if ¬ (0≤id∧id≤65535) then .aX [.str [],.int .i64 2] else .aX [.str (kC l (w4 l 12) id),.int .i64 0]
theorem Xrd (l:List UInt8) (id:Int):Qe 0 (sN l id):=by
 unfold sN;split
 ·simp[Qe,ai]
 ·split<;>simp[Qe,ai]
theorem Xrn (gl:Nat→AV) (l:List UInt8) (id:Int) (hl:l.length≤140737488351232):PS Tryz.prog gl 124 [.str l,.int .i64 id] (sN l id):=by
 refine Xgz.ps (of_decide_eq_true rfl) (Xrd l id) fun c hN hg=>?_
 conv in aO _ _=>cbv
 have hP:=Wu c.gl l hl
 by_cases he:bP l=0
 rotate_left
 ·rw[Yk rfl he]at hP
  have hr:sN l id=.aX [.str [],.int .i64 (bP l)]:=if_pos he
  rw[hr]
  clear hr
  generalize bP l=E at *
  unfold ew Pk.enc at hP
  dsimp only at hP
  refine Qf ?_
  refine Zg hP ?_
  (refine Qa (fun g1=>?_) (fun g1=>?_)<;>try exact g1.elim)
  ·exact Qs
  ·exact (he g1).elim
 obtain ⟨l28,l65⟩:=xR he
 rw[Sm he]at hP
 have hf:=Xzk l
 have hw:=LA c.gl [id] au
 have h4:=LJ l 12 af
 unfold Pk.enc at hP
 rw[hf]at hP
 generalize az l=q at *
 clear hf
 by_cases hid:0≤id∧id≤65535
 rotate_left
 ·have hr:sN l id=.aX [.str [],.int .i64 2]:=by unfold sN;rw[if_neg af,if_pos hid]
  have hb:[id].all (fw 65535)=false:=by simp[fw];omega
  rw[hr]
  rw[hb]at hw
  refine Qf ?_
  refine Zg hP ?_
  (refine Qa (fun g1=>?_) (fun g1=>?_)<;>try exact g1.elim)
  refine Qf ?_
  refine Jw ?_
  ((first|apply Wx|apply Ku)<;>(first|exact hw|(with_reducible (exact Jy.bool _))|(refine XG ?_;first|exact rfl|exact True.intro|((try (repeat' with_reducible refine And.intro ?_ ?_));(try any_goals (first|refine zm ?_|exact CL|fail))))))
  (refine Qa (fun g2=>?_) (fun g2=>?_)<;>try exact g2.elim)
  exact Qs
 have hr:sN l id=.aX [.str (kC l (w4 l 12) id),.int .i64 0]:=by unfold sN;rw[if_neg af,if_neg af]
 have hb:[id].all (fw 65535)=true:=by simp[fw];omega
 rw[hr]
 rw[hb]at hw
 clear hr hb
 obtain ⟨p8,Ds⟩:∃ p8:List UInt8,p8=[3,13,0,0,0,0,0,0]:=⟨_,rfl⟩
 have hl8:p8.length=8:=by rw[Ds];rfl
 have lit:[.int .u8 3,.int .u8 13,.int .u8 0,.int .u8 0,.int .u8 0,.int .u8 0,.int .u8 0,.int .u8 0]=Xo p8:=by rw[Ds];rfl
 have bu:∀ v,((p8++l.take 28).set 2 (Qg v 1)).set 3 (Qg v 0)=[3,13]++be v 2++([0,0,0,0]++l.take 28):=fun v=>by rw[Ds];rfl
 have cX:Zd ([3,13]++[0,0]++([0,0,0,0]++l.take 28))=Zd (p8++l.take 28):=by rw[Ds];rfl
 have bE:kC l (w4 l 12) id=Uo 1 167772414 (w4 l 12) 64 id 36++((p8++l.take 28).set 2 (Qg (Zd (p8++l.take 28)) 1)).set 3 (Qg (Zd (p8++l.take 28)) 0):=by
  unfold kC xL;rw[bu,cX]
 rw[bE]
 clear bE cX bu Ds
 have GI:(p8++l.take 28).length=36:=by rw[List.length_append,List.length_take];omega
 have qJ:=CK c.gl (p8++l.take 28) af
 have xP:=wI (p8++l.take 28)
 generalize Zd (p8++l.take 28)=K at *
 have t8:p8.take 8=p8:=List.take_of_length_le af
 refine Qf ?_
 refine Zg hP ?_
 (refine Qa (fun g1=>?_) (fun g1=>?_)<;>try exact g1.elim)
 refine Qf ?_
 refine Jw ?_
 ((first|apply Wx|apply Ku)<;>(first|exact hw|(with_reducible (exact Jy.bool _))|(refine XG ?_;first|exact rfl|exact True.intro|((try (repeat' with_reducible refine And.intro ?_ ?_));(try any_goals (first|refine zm ?_|exact CL|fail))))))
 (refine Qa (fun g2=>?_) (fun g2=>?_)<;>try exact g2.elim)
 refine Qf ?_
 refine Jw ?_
 simp only[lit]
 refine Zm (An @hl8 @t8) ?_
 generalize hR:p8++l.take 28=R at *
 have tR:R.take 36=R:=List.take_of_length_le af
 refine Qy qJ (An @GI @tR) ?_
 have bu:((R.set 2 (Qg K 1)).set 3 (Qg K 0)).length=36:=by simp[GI]
 refine Qh (An @GI @vw) ?_
 generalize hS:(R.set 2 (Qg K 1)).set 3 (Qg K 0)=S at *
 have xS:((8 + min 28 l.length:Nat):Int)=36:=by omega
 ((first|refine Xa (ins:=[]) (Jn c.gl 1 167772414 (w4 l 12) 64 id 36 (by omega)) ?_ ?_|refine Qw (ins:=[]) (Jn c.gl 1 167772414 (w4 l 12) 64 id 36 (by omega)) ?_ ?_|refine Qx (ins:=[]) (Jn c.gl 1 167772414 (w4 l 12) 64 id 36 (by omega)) ?_ ?_|refine Qt (ins:=[]) (Jn c.gl 1 167772414 (w4 l 12) 64 id 36 (by omega)) ?_ ?_)<;>(have aB:=@GI;have aQ:=@xS;refine XG ?_;clear aB aQ;(try first|exact rfl|exact True.intro);((try (repeat' with_reducible refine And.intro ?_ ?_));(try any_goals (first|refine zm ?_|exact CL|fail)))))
 refine Zm (An @bu @Jb) ?_
 rw[List.take_of_length_le (by simp[Jb,bu])]
theorem Yef (gl:Nat→AV) (c m n:Int):PS Tryz.prog gl 166 [.int .i64 c,.int .i64 m,.int .i64 n] (.int .i64 (Qb c m n)):=Xns gl c m n
theorem LL (l:List UInt8) (k:Nat) (n:Int):(Wg l k n).length=l.length:=by simp[Wg]
theorem Ju (l:List UInt8) (k:Nat) (m n:Int):(Kh l k m n).length=l.length:=by simp[Kh,LL]
theorem Qq (l:List UInt8) (k c:Nat) (n:Int):(Ql l k c n).length=l.length:=by simp[Ql,LL,Ju]
theorem LM (s:FS):ga s []=.aX []:=rfl
theorem AA (k:Nat):((k:Int) + 1).toNat=k + 1:=by omega
theorem AB (k:Nat):((k:Int) + 2).toNat=k + 2:=by omega
theorem Sq (k:Nat):k + 2 - k=2:=by omega
theorem Yg (gl:Nat→AV) (l:List UInt8) (last:Bool) (ck:Nat) (m n:Int) (hc:ck + 2≤l.length) (hl:l.length≤65535) :
  GS Tryz.prog gl 134 [.ptr 0 0,.int .i64 ck,.int .i64 m,.int .i64 n] [(0,.cells [.sl 1 1 0 l.length l.length,.bool last]),(1,.cells (Xo l))] 2 (.aX [])
   [(0,.cells [.sl 1 1 0 l.length l.length,.bool last]),(1,.cells (Xo (Kh l ck m n)))] 2:=by
 refine Xvb.gs (of_decide_eq_true rfl) (by simp[Bk.live]) fun c aY hg=>?_
 conv in aO _ _=>cbv
 have hb:=Dj (w2 l ck) m n
 have bE:Kh l ck m n=(l.set ck (Qg (Qb (w2 l ck) m n) 1)).set (ck + 1) (Qg (Qb (w2 l ck) m n) 0):=rfl
 have hn:=gG c.gl l ck
 have hu:=Yef c.gl (w2 l ck) m n
 rw[bE]
 generalize Qb (w2 l ck) m n=x at *
 generalize w2 l ck=y at *
 clear bE
 refine Qh (An @AA (An @AB @Sq)) ?_
 refine Qy hn (An @AA @AB) ?_
 refine Qy hu (An @AA @AB) ?_
 refine ⟨[],?_⟩
 exact Qr (An @LM @vw)
theorem Ybd (l:List UInt8) (k c:Nat) (n:Int):Ql l k c n=((Kh l c (w2 l k) n).set k (Qg n 1)).set (k + 1) (Qg n 0):=rfl
theorem Xh (gl:Nat→AV) (l:List UInt8) (last:Bool) (k ck:Nat) (n:Int) (hk:k + 2≤l.length) (hc:ck + 2≤l.length) (hl:l.length≤65535) :
  GS Tryz.prog gl 133 [.ptr 0 0,.int .i64 k,.int .i64 ck,.int .i64 n] [(0,.cells [.sl 1 1 0 l.length l.length,.bool last]),(1,.cells (Xo l))] 2 (.aX [])
   [(0,.cells [.sl 1 1 0 l.length l.length,.bool last]),(1,.cells (Xo (Ql l k ck n)))] 2:=by
 refine Xz7.gs (of_decide_eq_true rfl) (by simp[Bk.live]) fun c aY hg=>?_
 conv in aO _ _=>cbv
 have hn:=gG c.gl l k
 have ht:=Yg c.gl l last ck (w2 l k) n hc hl
 rw[Ybd]
 have dD:=Ju l ck (w2 l k) n
 generalize Kh l ck (w2 l k) n=T at *
 generalize w2 l k=y at *
 refine Qh (An @AA (An @AB @Sq)) ?_
 refine Qy hn (An @AA @AB) ?_
 ((first|refine Xa (ins:=[0,1]) ht ?_ ?_|refine Qw (ins:=[0,1]) ht ?_ ?_|refine Qx (ins:=[0,1]) ht ?_ ?_|refine Qt (ins:=[0,1]) ht ?_ ?_)<;>(have aB:=@AA;have aQ:=@AB;have a8:=@dD;have bU:=@LM;refine XG ?_;clear aB aQ a8 bU;(try first|exact rfl|exact True.intro);((try (repeat' with_reducible refine And.intro ?_ ?_));(try any_goals (first|refine zm ?_|exact CL|fail)))))
 ·rfl
 refine ⟨[],?_⟩
 exact Qr (An @LM @vw)
end Go.Proofs.YtogckmommodmhaaGreatDoor
