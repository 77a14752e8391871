import Derived.Test.YtogckmommodmhaaGreatDoorZw1
import Derived.Test.YtogckmommodmhaaGreatDoorZw6
import Derived.Test.YtogckmommodmhaaGreatDoorZw5
import Derived.Test.YtogckmommodmhaaGreatDoorRows
import Derived.KernelRfl
import Derived.Lib.Hide
namespace Go.Proofs.YtogckmommodmhaaGreatDoor
open Go.RowKit
set_option linter.all false
set_option linter.unusedSimpArgs false
set_option maxRecDepth 100000
structure Pk where
 af:Int
 aB:Int
 ai:Int
 dst:Int
 aj:Int
 av:Int
 id:Int
 flags:Int
 seq:Int
 aL:Int
 win:Int
 body:List UInt8
def Pk.enc (p:Pk):List AV:=[.int .i64 p.af,.int .i64 p.aB,.int .i64 p.ai,.int .i64 p.dst,.int .i64 p.aj,.int .i64 p.av,.int .i64 p.id,.int .i64 p.flags,.int .i64 p.seq,.int .i64 p.aL,.int .i64 p.win,.str p.body]
def eF:Pk:=⟨0,0,0,0,0,0,0,0,0,0,0,[]⟩
def Kk (p:Pk):Prop:=(0≤p.aB∧p.aB≤4294967295)∧(0≤p.dst∧p.dst≤4294967295)∧(0≤p.seq∧p.seq≤4294967295)∧(0≤p.aL∧p.aL≤4294967295) ∧
 (0≤p.ai∧p.ai≤65535)∧(0≤p.aj∧p.aj≤65535)∧(0≤p.id∧p.id≤65535)∧(0≤p.win∧p.win≤65535)∧(1≤p.av∧p.av≤255)∧(0≤p.flags∧p.flags≤63)
instance (p:Pk):Decidable (Kk p):=by unfold Kk;infer_instance
def Wu (p:Pk):Prop:=(p.af≠6∧(p.aL≠0∨p.win≠0))∨(p.af=17∧(p.seq≠0∨p.flags≠0)) ∨
 (p.af=1∧((p.flags≠8∧p.flags≠0)∨(p.flags=8∧p.aj≠0)∨(p.flags=0∧p.ai≠0)∨65535 < p.seq))
instance (p:Pk):Decidable (Wu p):=by unfold Wu;infer_instance
def Yo (p:Pk):Int :=
 if ¬ (p.af=1∨p.af=6∨p.af=17) then 4
 else if ¬ Kk p then 2
 else if 64 < p.body.length then 5
 else if Wu p then 1
 else 0
def Yt (af aB dst n:Int):List UInt8:=if af=1 then [] else be aB 4++be dst 4++be af 2++be n 2
def qC (af av id n:Int):List UInt8:=[69,0]++be (20 + n) 2++be id 2++[0,0]++be av 1++be af 1
def qD (aB dst:Int):List UInt8:=be aB 4++be dst 4
def Uw (af aB dst av id n:Int):List UInt8:=qC af av id n++be (Zb (qC af av id n++[0,0]++qD aB dst)) 2++qD aB dst
def Uf (p:Pk):List UInt8 :=
 if p.af=1 then be p.flags 1++[0]
 else if p.af=17 then be p.ai 2++be p.aj 2++be (8 + p.body.length) 2
 else be p.ai 2++be p.aj 2++be p.seq 4++be p.aL 4++[80]++be p.flags 1++be p.win 2
def jP (p:Pk):List UInt8 :=
 if p.af=1 then be (p.ai + p.aj) 2++be p.seq 2++p.body
 else if p.af=17 then p.body
 else [0,0]++p.body
def Xl (p:Pk):Nat:=(Uf p).length + 2 + (jP p).length
def gQ (p:Pk):Nat :=
 if p.af=17∧Zb (Yt p.af p.aB p.dst (Xl p)++Uf p++[0,0]++jP p)=0 then 65535
 else Zb (Yt p.af p.aB p.dst (Xl p)++Uf p++[0,0]++jP p)
def js (p:Pk):List UInt8:=Uf p++be (gQ p) 2++jP p
def Xk (p:Pk):List UInt8:=Uw p.af p.aB p.dst p.av p.id (Xl p)++js p
def Ln (p:Pk):AV:=if Yo p=0 then .aU [.str (Xk p),.int .i64 0] else .aU [.str [],.int .i64 (Yo p)]
def b1 (l:List UInt8) (k:Nat):Int:=((l.getD k 0).toNat:Int)
def w2 (l:List UInt8) (k:Nat):Int:=cp ((l.drop k).take 2)
def w4 (l:List UInt8) (k:Nat):Int:=cp ((l.drop k).take 4)
def lR (f:List UInt8):Pk:=⟨b1 f 9,w4 f 12,0,w4 f 16,0,b1 f 8,w2 f 4,0,0,0,0,[]⟩
def az (f:List UInt8):Pk :=
 let s:=f.drop 20
 if b1 f 9=1 then { lR f with flags:=b1 s 0,seq:=w2 s 6,ai:=if b1 s 0=8 then w2 s 4 else 0,aj:=if b1 s 0=8 then 0 else w2 s 4,body:=s.drop 8 }
 else if b1 f 9=17 then { lR f with ai:=w2 s 0,aj:=w2 s 2,body:=s.drop 8 }
 else { lR f with ai:=w2 s 0,aj:=w2 s 2,seq:=w4 s 4,aL:=w4 s 8,win:=w2 s 14,flags:=b1 s 13,body:=s.drop 20 }
def bZ (f:List UInt8):Int :=
 let s:=f.drop 20
 if f.length < 20∨b1 f 0≠69∨w2 f 2≠f.length then 1
 else if cq (f.take 20)≠65535 then 3
 else if b1 f 1≠0∨w2 f 6≠0 then 4
 else if b1 f 8=0 then 12
 else if ¬ (b1 f 9=1∨b1 f 9=6∨b1 f 9=17) then 4
 else if s.length < (if b1 f 9=6 then 20 else 8) then 1
 else if cq (Yt (b1 f 9) (w4 f 12) (w4 f 16) s.length++s)≠65535∨(b1 f 9=17∧w2 s 6=0) then 3
 else if b1 f 9=1∧((b1 s 0≠8∧b1 s 0≠0)∨b1 s 1≠0) then 4
 else if b1 f 9=17∧w2 s 4≠s.length then 1
 else if b1 f 9=6∧(b1 s 12≠80∨63 < b1 s 13∨w2 s 18≠0) then 4
 else Yo (az f)
def Up (f:List UInt8):AV:=if bZ f=0 then .aU [.agg (az f).enc,.int .i64 0] else .aU [.agg eF.enc,.int .i64 (bZ f)]
def Wf (l:List UInt8) (k:Nat) (n:Int):List UInt8:=(l.set k (Qg n 1)).set (k + 1) (Qg n 0)
def Qb (c m n:Int):Int:=65535 - pj (pj (65535 - c % 65536) (65535 - m % 65536)) n
def Kh (l:List UInt8) (ck:Nat) (m n:Int):List UInt8:=Wf l ck (Qb (w2 l ck) m n)
def Ql (l:List UInt8) (k ck:Nat) (n:Int):List UInt8:=Wf (Kh l ck (w2 l k) n) k n
theorem Wc {p:Pk} (h:Yo p=0):(p.af=1∨p.af=6∨p.af=17)∧Kk p∧p.body.length≤64∧¬ Wu p:=by
 unfold Yo at h
 split at h
 ·cases h
 ·split at h
  ·cases h
  ·split at h
   ·cases h
   ·split at h
    ·cases h
    ·rename_i h1 h2 h3 h4
     exact ⟨Decidable.not_not.1 h1,Decidable.not_not.1 h2,by omega,h4⟩
theorem Lp {p:Pk} (h1:p.af=1∨p.af=6∨p.af=17) (h2:Kk p) (h3:p.body.length≤64) (h4:¬ Wu p):Yo p=0:=by
 unfold Yo
 rw[if_neg (fun h=>h h1),if_neg (fun h=>h h2),if_neg ae,if_neg h4]
theorem Lq (v:Int) (k:Nat) (hk:k≤8) (h0:0≤v):((Qg v k).toNat:Int)=v / 256 ^ k % 256:=by
 obtain ⟨n,rfl⟩:=Int.eq_ofNat_of_zero_le h0
 rw[Pb n k hk]
 simp
theorem xB (v:Int) (h0:0≤v) (h1:v < 256):((Qg v 0).toNat:Int)=v:=by
 rw[Lq v 0 ae h0];omega
theorem Lr (af av id n:Int):(qC af av id n).length=10:=by simp[qC,Qp]
theorem Xzx (aB dst:Int):(qD aB dst).length=8:=by simp[qD,Qp]
theorem Jh (af aB dst av id n:Int):(Uw af aB dst av id n).length=20:=by simp[Uw,Lr,Xzx,Qp]
def Ap (f:List UInt8):List UInt8:=[3,13]++be (Zb ([3,13]++[0,0]++([0,0,0,0]++f.take 28))) 2++([0,0,0,0]++f.take 28)
def mJ (f:List UInt8) (aB id:Int):List UInt8:=Uw 1 167772414 aB 64 id 36++Ap f
def fr:List Int→List UInt8→List UInt8
 | [],t=>t
 | w::ws,t=>Qg w 1::Qg w 0::fr ws t
theorem C5 (c m n:Int):0≤Qb c m n∧Qb c m n≤65535:=by
 unfold Qb;have:=Pc (pj (65535 - c % 65536) (65535 - m % 65536)) n;omega
def sB (af:Int):Nat:=if af=1 then 22 else if af=17 then 26 else 36
def tl (b:List UInt8) (af:Int) (m n:Int):List UInt8:=if af=1 then b else Kh b (sB af) m n
def Yc (f:List UInt8) (af av:Int) (at' wh:Nat) (addr port:Int):List UInt8 :=
 let b1:=tl (Ql f at' 10 (addr / 65536)) af (w2 f at') (addr / 65536)
 let b2:=tl (Ql b1 (at' + 2) 10 (addr % 65536)) af (w2 b1 (at' + 2)) (addr % 65536)
 let b3:=Ql b2 8 10 ((av - 1) * 256 + af)
 let b4:=Ql b3 wh (sB af) port
 if (w2 b4 (sB af)=0)∧(af=17∨cq (b4.drop 20)=0) then Wf b4 (sB af) 65535 else b4
def oE (side:Int):Nat:=if side=0 then 12 else 16
def oF (af side:Int):Nat:=if af=1 then 24 else if side=0 then 20 else 22
def oG (p:Pk) (side addr port:Int):Pk:=if side=0 then { p with av:=p.av - 1,aB:=addr,ai:=port } else { p with av:=p.av - 1,dst:=addr,aj:=port }
def Ug (p:Pk) (side addr port:Int):Int :=
 if side < 0∨side > 1∨¬ (0≤addr∧addr≤4294967295)∨¬ (0≤port∧port≤65535) then 2
 else if p.av=1 then 12
 else if p.af=1∧¬ (side=0 ↔ p.flags=8) then 4
 else 0
theorem xC:be 0 2=[0,0]:=by decide
theorem Sg:FT Tryz.prog 77 Tryz.f77 (aQ Tryz.prog Tryz.f77) [.t 2]:=.of Tryz.func77
theorem Sh:FT Tryz.prog 76 Tryz.f76 (aQ Tryz.prog Tryz.f76) [.t 2]:=.of Tryz.func76
theorem Xu4:FT Tryz.prog 37 Tryz.f37 (aQ Tryz.prog Tryz.f37) [.t 2]:=.of Tryz.func37
theorem Gl:FT Tryz.prog 119 Tryz.f119 (aQ Tryz.prog Tryz.f119) [.t 6]:=.of Tryz.func119
theorem Xwi:FT Tryz.prog 121 Tryz.f121 (aQ Tryz.prog Tryz.f121) [.t 12]:=.of Tryz.func121
theorem Xgg:FT Tryz.prog 75 Tryz.f75 (aQ Tryz.prog Tryz.f75) [.t 8]:=.of Tryz.func75
theorem Gm:FT Tryz.prog 71 Tryz.f71 (aQ Tryz.prog Tryz.f71) [.t 2,.t 3]:=.of Tryz.func71
theorem Xpq:FT Tryz.prog 74 Tryz.f74 (aQ Tryz.prog Tryz.f74) [.t 2,.t 3]:=.of Tryz.func74
theorem Sj:FT Tryz.prog 73 Tryz.f73 (aQ Tryz.prog Tryz.f73) [.t 2]:=.of Tryz.func73
theorem Xjm:FT Tryz.prog 34 Tryz.f34 (aQ Tryz.prog Tryz.f34) [.cell 2 (.ag 12),.t 3]:=.of Tryz.func34
theorem Ye3:FT Tryz.prog 72 Tryz.f72 (aQ Tryz.prog Tryz.f72) [.cell 2 (.ag 12),.t 3]:=.of Tryz.func72
theorem Xzr:FT Tryz.prog 133 Tryz.f133 (aQ Tryz.prog Tryz.f133) []:=.of Tryz.func133
theorem Xv8:FT Tryz.prog 134 Tryz.f134 (aQ Tryz.prog Tryz.f134) []:=.of Tryz.func134
theorem xD:FT Tryz.prog 94 Tryz.f94 (aQ Tryz.prog Tryz.f94) [.t 8,.t 9]:=.of Tryz.func94
theorem Xds:FT Tryz.prog 124 Tryz.f124 (aQ Tryz.prog Tryz.f124) [.t 4,.t 5]:=.of Tryz.func124
theorem Sk {α:Type} (p:α→Bool) (l:List α) (d:α) (k:Nat) (h:k < l.length):(l.take (k + 1)).all p=((l.take k).all p && p (l.getD k d)):=by
 have e:l.take (k + 1)=l.take k++[l.getD k d]:=by
  rw[List.take_add_one,List.getElem?_eq_getElem h];simp[List.getD,h]
 rw[e,List.all_append];simp
theorem Sl {α:Type} (p:α→Bool) (l:List α) (d:α) (k:Nat) (h:k < l.length) (hn:p (l.getD k d)=false):l.all p=false:=by
 rw[List.all_eq_false]
 refine ⟨l.getD k d,?_,by rw[hn];decide⟩
 simp only[List.getD,List.getElem?_eq_getElem h,Option.getD_some];exact List.getElem_mem h
def fB (hi n:Int):Bool:=decide (0≤n) && decide (n≤hi)
theorem Ls (gl:Nat→AV) (l:List Int) (hl:l.length≤100):PS Tryz.prog gl 77 [.isl l.length (Qo l)] (.bool (l.all (fB 65535))):=by
 refine Sg.ps (of_decide_eq_true rfl) (by simp[Qf]) fun c hN hg=>?_
 conv in aQ _ _=>cbv
 refine Qe ?_
 refine Xd (fun k:Nat=>k≤l.length∧(l.take k).all (fB 65535)=true) (fun k=>⟨[(5,.isl l.length (Qo l)),(6,.int .i64 l.length),(7,.int .i64 k)],[],0⟩) (fun k=>l.length - k) Sg.mixed hN
  ⟨0,by simp,[],by exact Qr⟩ fun k hk=>?_
 obtain ⟨hk,ha⟩:=hk
 refine Qe ?_
 (refine Qa (fun h1=>?_) (fun h1=>?_)<;>try exact h1.elim)
 ·have hs:=Sk (fB 65535) l 0 k ae
  have a7:=Sl (fB 65535) l 0 k ae
  refine Qe ?_
  generalize l.getD k 0=x at *
  (refine Qa (fun h2=>?_) (fun h2=>?_)<;>try exact h2.elim)
  ·refine Qe ?_
   refine (a7 ?_).symm
   unfold fB;simp;omega
  ·refine Qe ?_
   refine ⟨k + 1,⟨by omega,?_⟩,⟨[],?_⟩,by omega⟩
   ·rw[hs,ha];unfold fB;simp;omega
   ·omega
 ·have:k=l.length:=by omega
  subst this
  refine Qe ?_
  rw[List.take_length]at ha;exact ha.symm
theorem Sm (gl:Nat→AV) (l:List Int) (hl:l.length≤100):PS Tryz.prog gl 76 [.isl l.length (Qo l)] (.bool (l.all (fB 4294967295))):=by
 refine Sh.ps (of_decide_eq_true rfl) (by simp[Qf]) fun c hN hg=>?_
 conv in aQ _ _=>cbv
 refine Qe ?_
 refine Xd (fun k:Nat=>k≤l.length∧(l.take k).all (fB 4294967295)=true) (fun k=>⟨[(5,.isl l.length (Qo l)),(6,.int .i64 l.length),(7,.int .i64 k)],[],0⟩) (fun k=>l.length - k) Sh.mixed hN
  ⟨0,by simp,[],by exact Qr⟩ fun k hk=>?_
 obtain ⟨hk,ha⟩:=hk
 refine Qe ?_
 (refine Qa (fun h1=>?_) (fun h1=>?_)<;>try exact h1.elim)
 ·have hs:=Sk (fB 4294967295) l 0 k ae
  have a7:=Sl (fB 4294967295) l 0 k ae
  refine Qe ?_
  generalize l.getD k 0=x at *
  (refine Qa (fun h2=>?_) (fun h2=>?_)<;>try exact h2.elim)
  ·refine Qe ?_
   refine (a7 ?_).symm
   unfold fB;simp;omega
  ·refine Qe ?_
   refine ⟨k + 1,⟨by omega,?_⟩,⟨[],?_⟩,by omega⟩
   ·rw[hs,ha];unfold fB;simp;omega
   ·omega
 ·have:k=l.length:=by omega
  subst this
  refine Qe ?_
  rw[List.take_length]at ha;exact ha.symm
def ny (p:Int):AV:=if p=1 then .aU [.int .i64 8,.int .i64 2] else if p=17 then .aU [.int .i64 8,.int .i64 6] else if p=6 then .aU [.int .i64 20,.int .i64 16] else .aU [.int .i64 0,.int .i64 0]
theorem Gn (gl:Nat→AV) (p:Int):PS Tryz.prog gl 74 [.int .i64 p] (ny p):=by
 refine Xpq.ps (of_decide_eq_true rfl) (by unfold ny;split<;>(try split)<;>(try split)<;>simp[Qf,ah]) fun c hN hg=>?_
 conv in aQ _ _=>cbv
 refine Qe ?_
 (refine Qa (fun h1=>?_) (fun h1=>?_)<;>try exact h1.elim)
 ·refine Qe ?_
  unfold ny;rw[if_pos h1]
 ·refine Qe ?_
  (refine Qa (fun h2=>?_) (fun h2=>?_)<;>try exact h2.elim)
  ·refine Qe ?_
   unfold ny;rw[if_neg h1,if_pos h2]
  ·refine Qe ?_
   (refine Qa (fun h3=>?_) (fun h3=>?_)<;>try exact h3.elim)
   ·refine Qe ?_
    unfold ny;rw[if_neg h1,if_neg h2,if_pos h3]
   ·refine Qe ?_
    unfold ny;rw[if_neg h1,if_neg h2,if_neg h3]
def gK (e:Int):AV:=.aU [.agg eF.enc,.int .i64 e]
theorem Ki (gl:Nat→AV) (e:Int):GS Tryz.prog gl 72 [.int .i64 e] [] 0 (gK e) [] 0:=by
 refine Ye3.gs (of_decide_eq_true rfl) au fun c aY hg=>?_
 conv in aQ _ _=>cbv
 unfold gK eF Pk.enc
 refine Qe ?_
 refine ⟨[],?_⟩
 exact Qr
theorem Sn (gl:Nat→AV) (l:List UInt8) (hl:l.length≤100000000):PS Tryz.prog gl 73 [.str l] (.int .i64 (cp l)):=by
 refine Sj.ps (of_decide_eq_true rfl) (by simp[Qf]) fun c hN hg=>?_
 conv in aQ _ _=>cbv
 refine Qe ?_
 refine Ja ?_
 refine Xd (fun k:Nat=>k≤l.length) (fun k=>⟨[(3,.int .i64 (cp (l.take k))),(7,.sl 1 0 0 l.length l.length),(8,.int .i64 l.length),(9,.int .i64 k)],[(0,.cells (Xg l))],1⟩) (fun k=>l.length - k) Sj.mixed hN
  ⟨0,by omega,[],by refine Qe ?_<;>rfl⟩ fun k hk=>?_
 refine Qe ?_
 (refine Qa (fun h1=>?_) (fun h1=>?_)<;>try exact h1.elim)
 ·have hs:=Pa l k ae
  have ho:=Iv (cp (l.take k)) (l.getD k 0).toNat ae (by have:=UInt8.toNat_lt (l.getD k 0);omega)
  have hb:=UInt8.toNat_lt (l.getD k 0)
  refine Qe ?_
  refine ⟨k + 1,by omega,⟨[],?_⟩,by omega⟩
  refine Qh @hs ?_
  have m3:(2:Int) ^ min 8 64=256:=by decide
  rw[m3,ho]
 ·have:k=l.length:=by omega
  subst this
  exact Qr
structure Lt where
 k:Nat
 l:List UInt8
theorem Kr (gl:Nat→AV) (l:List UInt8) (v:Int) (n:Nat) (hn:n≤8) (hl:l.length≤100000000) :
  GS Tryz.prog gl 119 [.sl 1 0 0 l.length l.length,.int .i64 v,.int .i64 n] [(0,.cells (Xg l))] 1 (.sl 1 1 0 (l.length + n) (l.length + n)) [(1,.cells (Xg (l++be v n)))] 2:=by
 refine Gl.gs (of_decide_eq_true rfl) (by simp[Bk.live]) fun c aY hg=>?_
 conv in aQ _ _=>cbv
 refine Qe ?_
 refine Ui (fun x:Lt=>x.k≤n∧x.l++be v x.k=l++be v n) (fun x=>⟨[(0,.sl 1 1 0 x.l.length x.l.length),(1,.int .i64 v),(7,.int .i64 ((x.k:Int) - 1))],[(1,.cells (Xg x.l))],2⟩) (fun x=>x.k) Gl.mixed 1 aY
  ⟨⟨n,l⟩,⟨Nat.le_refl _,rfl⟩,[(1,0)],by exact Qr⟩ fun ⟨k,l'⟩ ⟨hk,he⟩=>?_
 dsimp only at hk he
 refine Qe ?_
 have iy:l'.length + k=l.length + n:=by
  have:=congrArg List.length he
  simpa [Qp] using this
 (refine Qa (fun h1=>?_) (fun h1=>?_)<;>try exact h1.elim)
 ·obtain ⟨k,rfl⟩:∃ j,k=j + 1:=⟨k - 1,by omega⟩
  have e1:(((k + 1:Nat):Int) - 1)=k:=by omega
  rw[e1]at h1 ⊢
  refine Qe ?_
  refine Ja ?_
  refine Ja ?_
  refine ⟨⟨k,l'++[Qg v k]⟩,⟨by dsimp only;omega,?_⟩,⟨[(1,3)],?_⟩,by dsimp only;omega⟩
  ·simpa [be] using he
  ·refine Qe ?_
   rfl
 ·have gX:k=0:=by omega
  subst gX
  simp only[be,List.append_nil]at he
  subst he
  refine Qe ?_
  refine ⟨[],?_⟩
  exact Qq @Qp
structure Lu where
 k:Nat
 l:Option (List UInt8)
theorem Lv (gl:Nat→AV) (v:Int) (n:Nat) (hn:n≤8) (h0:0 < n) :
  GS Tryz.prog gl 119 [.nils,.int .i64 v,.int .i64 n] [] 0 (.sl 1 0 0 n n) [(0,.cells (Xg (be v n)))] 1:=by
 refine Gl.gs (of_decide_eq_true rfl) au fun c aY hg=>?_
 conv in aQ _ _=>cbv
 refine Qe ?_
 refine Ui (fun x:Lu=>x.k≤n∧(x.l.getD [])++be v x.k=be v n∧(x.l=none→x.k=n)) (fun x=>match x.l with|none=>⟨[(0,.nils),(1,.int .i64 v),(7,.int .i64 ((x.k:Int) - 1))],[],0⟩|some l=>⟨[(0,.sl 1 0 0 l.length l.length),(1,.int .i64 v),(7,.int .i64 ((x.k:Int) - 1))],[(0,.cells (Xg l))],1⟩) (fun x=>x.k) Gl.mixed 0 aY
  ⟨⟨n,none⟩,⟨Nat.le_refl _,rfl,fun _=>rfl⟩,[],by exact Qr⟩ fun ⟨k,o⟩ ⟨hk,he,cd⟩=>?_
 cases o with
 | none =>
  dsimp only at hk he cd
  obtain rfl:=cd rfl
  refine Qe ?_
  (refine Qa (fun h1=>?_) (fun h1=>?_)<;>try exact h1.elim)
  ·obtain ⟨k,rfl⟩:∃ j,k=j + 1:=⟨k - 1,by omega⟩
   have e1:(((k + 1:Nat):Int) - 1)=k:=by omega
   rw[e1]at h1 ⊢
   refine Qe ?_
   refine Ja ?_
   refine Ja ?_
   refine ⟨⟨k,some [Qg v k]⟩,⟨by dsimp only;omega,?_,fun h=>by cases h⟩,⟨[(0,1)],?_⟩,by dsimp only;omega⟩
   ·simp[be]
   ·refine Qe ?_
    exact J4 [] _ []
  ·omega
 | some l' =>
  dsimp only[Option.getD_some]at hk he cd
  have iy:l'.length + k=n:=by
   have:=congrArg List.length he
   simpa [Qp] using this
  refine Qe ?_
  (refine Qa (fun h1=>?_) (fun h1=>?_)<;>try exact h1.elim)
  ·obtain ⟨k,rfl⟩:∃ j,k=j + 1:=⟨k - 1,by omega⟩
   have e1:(((k + 1:Nat):Int) - 1)=k:=by omega
   rw[e1]at h1 ⊢
   refine Qe ?_
   refine Ja ?_
   refine Ja ?_
   refine ⟨⟨k,some (l'++[Qg v k])⟩,⟨by dsimp only;omega,?_,fun h=>by cases h⟩,⟨[(0,2)],?_⟩,by dsimp only;omega⟩
   ·simpa [be] using he
   ·refine Qe ?_
    rfl
  ·have gX:k=0:=by omega
   subst gX
   simp only[be,List.append_nil]at he
   subst he
   refine Qe ?_
   refine ⟨[],?_⟩
   exact Qq @Qp
theorem Xue (p:Pk):[p.aB,p.dst,p.seq,p.aL].all (fB 4294967295)=true ↔ (0≤p.aB∧p.aB≤4294967295)∧(0≤p.dst∧p.dst≤4294967295)∧(0≤p.seq∧p.seq≤4294967295)∧(0≤p.aL∧p.aL≤4294967295):=by
 simp[fB]
theorem Xuy (p:Pk):[p.ai,p.aj,p.id,p.win].all (fB 65535)=true ↔ (0≤p.ai∧p.ai≤65535)∧(0≤p.aj∧p.aj≤65535)∧(0≤p.id∧p.id≤65535)∧(0≤p.win∧p.win≤65535):=by
 simp[fB]
theorem Xlz (p:Pk):Kk p ↔ [p.aB,p.dst,p.seq,p.aL].all (fB 4294967295)=true∧[p.ai,p.aj,p.id,p.win].all (fB 65535)=true∧(1≤p.av∧p.av≤255)∧(0≤p.flags∧p.flags≤63):=by
 rw[Xue,Xuy];unfold Kk
 constructor
 ·rintro ⟨a,b,c,d,e,f,g,h,i,j⟩;exact ⟨⟨a,b,c,d⟩,⟨e,f,g,h⟩,i,j⟩
 ·rintro ⟨⟨a,b,c,d⟩,⟨e,f,g,h⟩,i,j⟩;exact ⟨a,b,c,d,e,f,g,h,i,j⟩
theorem Xy5 {p:Pk} (h:¬ (p.af=1∨p.af=6∨p.af=17)):Yo p=4:=by unfold Yo;rw[if_pos h]
theorem Xti {p:Pk} (h:p.af=1∨p.af=6∨p.af=17) (h2:¬ Kk p):Yo p=2:=by unfold Yo;rw[if_neg (fun x=>x h),if_pos h2]
theorem Xxw {p:Pk} (h:p.af=1∨p.af=6∨p.af=17) (h2:Kk p) (h3:64 < p.body.length):Yo p=5:=by unfold Yo;rw[if_neg (fun x=>x h),if_neg (fun x=>x h2),if_pos h3]
theorem Yak {p:Pk} (h:p.af=1∨p.af=6∨p.af=17) (h2:Kk p) (h3:¬ 64 < p.body.length) (h4:Wu p):Yo p=1:=by unfold Yo;rw[if_neg (fun x=>x h),if_neg (fun x=>x h2),if_neg h3,if_pos h4]
set_option maxHeartbeats 4000000 in
set_option maxRecDepth 20000 in
theorem vL (gl:Nat→AV) (p:Pk):PS Tryz.prog gl 37 [.agg p.enc] (.int .i64 (Yo p)):=by
 refine Xu4.ps (of_decide_eq_true rfl) (by simp[Qf]) fun c hN hg=>?_
 conv in aQ _ _=>cbv
 unfold Pk.enc
 have hR:=Xlz p
 have hl:=Sm c.gl [p.aB,p.dst,p.seq,p.aL] au
 have hw:=Ls c.gl [p.ai,p.aj,p.id,p.win] au
 generalize hL:[p.aB,p.dst,p.seq,p.aL].all (fB 4294967295)=L at *
 generalize hW:[p.ai,p.aj,p.id,p.win].all (fB 65535)=W at *
 have k1:=@Xy5 p
 have k2:=@Xti p
 have k3:=@Xxw p
 have k4:=@Yak p
 have k5:=@Lp p
 generalize Yo p=E at *
 generalize hRp:Kk p=RP at *
 unfold Wu at k4 k5
 obtain ⟨af,aB,ai,dst,aj,av,id,flags,seq,aL,win,body⟩:=p
 dsimp only at *
 refine Qe ?_
 (refine Qa (fun h1=>?_) (fun h1=>?_)<;>try exact h1.elim)
 ·exact Qr
 have hp:af=1∨af=6∨af=17:=by omega
 have bad:¬ RP→E=2:=fun h=>k2 hp h
 cases L with
 | false =>
  refine Qe ?_
  refine Ja ?_
  ((first|apply Kz|apply Jx)<;>(first|exact hl|(with_reducible (exact Jo.bool _))|(refine XG ?_;first|exact rfl|exact True.intro|((try (repeat' with_reducible refine And.intro ?_ ?_));(try any_goals (first|refine zm ?_|exact CL|fail))))))
  ((first|apply Yd|apply Xr)<;>(refine XG ?_;first|exact rfl|exact True.intro|((try (repeat' with_reducible refine And.intro ?_ ?_));(try any_goals (first|refine zm ?_|exact CL|fail)))))
  ((first|apply Yd|apply Xr)<;>(refine XG ?_;first|exact rfl|exact True.intro|((try (repeat' with_reducible refine And.intro ?_ ?_));(try any_goals (first|refine zm ?_|exact CL|fail)))))
  (refine Qa (fun h2=>?_) (fun h2=>?_)<;>try exact h2.elim)
  refine Qe ?_
  exact (bad (fun h=>by simp[hR]at h)).symm
 | true =>
  cases W with
  | false =>
   refine Qe ?_
   refine Ja ?_
   ((first|apply Kz|apply Jx)<;>(first|exact hl|(with_reducible (exact Jo.bool _))|(refine XG ?_;first|exact rfl|exact True.intro|((try (repeat' with_reducible refine And.intro ?_ ?_));(try any_goals (first|refine zm ?_|exact CL|fail))))))
   ((refine vC ?_ ?_ ?_);(focus (refine XG ?_;try first|exact rfl|exact True.intro));(focus (refine XG ?_;try trivial)))
   refine Ja ?_
   ((first|apply Kz|apply Jx)<;>(first|exact hw|(with_reducible (exact Jo.bool _))|(refine XG ?_;first|exact rfl|exact True.intro|((try (repeat' with_reducible refine And.intro ?_ ?_));(try any_goals (first|refine zm ?_|exact CL|fail))))))
   (refine Qa (fun h2=>?_) (fun h2=>?_)<;>try exact h2.elim)
   refine Qe ?_
   exact (bad (fun h=>by simp[hR]at h)).symm
  | true =>
   refine Qe ?_
   refine Ja ?_
   ((first|apply Kz|apply Jx)<;>(first|exact hl|(with_reducible (exact Jo.bool _))|(refine XG ?_;first|exact rfl|exact True.intro|((try (repeat' with_reducible refine And.intro ?_ ?_));(try any_goals (first|refine zm ?_|exact CL|fail))))))
   ((refine vC ?_ ?_ ?_);(focus (refine XG ?_;try first|exact rfl|exact True.intro));(focus (refine XG ?_;try trivial)))
   refine Ja ?_
   ((first|apply Kz|apply Jx)<;>(first|exact hw|(with_reducible (exact Jo.bool _))|(refine XG ?_;first|exact rfl|exact True.intro|((try (repeat' with_reducible refine And.intro ?_ ?_));(try any_goals (first|refine zm ?_|exact CL|fail))))))
   (refine Qa (fun h2=>?_) (fun h2=>?_)<;>try exact h2.elim)
   ·refine Qe ?_
    exact (bad (fun h=>by have:=hR.1 h;omega)).symm
   have sC:RP:=hR.2 ⟨rfl,rfl,by omega,by omega⟩
   refine Qe ?_
   (refine Qa (fun h3=>?_) (fun h3=>?_)<;>try exact h3.elim)
   ·refine Qe ?_
    exact (k3 hp sC ae).symm
   rcases hp with rfl|rfl|rfl
   ·refine Qe ?_
    (refine Qa (fun h4=>?_) (fun h4=>?_)<;>try exact h4.elim)
    ·refine Qe ?_
     exact (k4 (.inl rfl) sC ae ae).symm
    by_cases h6:flags=8
    ·subst h6
     refine Qe ?_
     (refine Qa (fun h7=>?_) (fun h7=>?_)<;>try exact h7.elim)
     ·refine Qe ?_
      exact (k4 (.inl rfl) sC ae ae).symm
     ·refine Qe ?_
      exact (k5 (.inl rfl) sC ae ae).symm
    ·by_cases h8:flags=0
     ·subst h8
      refine Qe ?_
      (refine Qa (fun h7=>?_) (fun h7=>?_)<;>try exact h7.elim)
      ·refine Qe ?_
       exact (k4 (.inl rfl) sC ae ae).symm
      ·refine Qe ?_
       exact (k5 (.inl rfl) sC ae ae).symm
     ·have g6:(flags != 8)=true:=by simp[h6]
      have g8:(flags != 0)=true:=by simp[h8]
      refine Qh (An @g6 @g8) ?_
      (refine Qa (fun h7=>?_) (fun h7=>?_)<;>try exact h7.elim)
      refine Qe ?_
      exact (k4 (.inl rfl) sC ae ae).symm
   ·refine Qe ?_
    (refine Qa (fun h4=>?_) (fun h4=>?_)<;>try exact h4.elim)
    refine Qe ?_
    (refine Qa (fun h7=>?_) (fun h7=>?_)<;>try exact h7.elim)
    refine Qe ?_
    exact (k5 (.inr (.inl rfl)) sC ae ae).symm
   ·refine Qe ?_
    (refine Qa (fun h4=>?_) (fun h4=>?_)<;>try exact h4.elim)
    ·refine Qe ?_
     exact (k4 (.inr (.inr rfl)) sC ae ae).symm
    ·refine Qe ?_
     (refine Qa (fun h7=>?_) (fun h7=>?_)<;>try exact h7.elim)
     refine Qe ?_
     exact (k5 (.inr (.inr rfl)) sC ae ae).symm
theorem Sp (v:Int):[UInt8.ofNat (IntKind.u8.wrap v).toNat]=be v 1:=by
 show _=[Qg v 0]
 unfold Qg
 have:v.fdiv (2 ^ min (8 * ((0:Nat):Int)).toNat 64)=v:=Int.fdiv_one v
 rw[this]
theorem Xk7 (l:List UInt8) (i:Nat) (n:Int):(Xg l).set i (.int .u8 (IntKind.u8.wrap n))=Xg (l.set i (UInt8.ofNat (IntKind.u8.wrap n).toNat)):=by
 have h0:0≤IntKind.u8.wrap n∧IntKind.u8.wrap n < 256:=by rw[IntKind.wrap_u8];omega
 generalize IntKind.u8.wrap n=k at h0 ⊢
 have e:(.int .u8 k:AV)=.int .u8 (UInt8.ofNat k.toNat).toNat:=by simp;omega
 rw[e,Xg,Xg,List.map_set]
theorem Yda (v:Int):UInt8.ofNat (IntKind.u8.wrap (v.fdiv (2 ^ min 8 64))).toNat=Qg v 1:=rfl
theorem vM (v:Int):UInt8.ofNat (IntKind.u8.wrap v).toNat=Qg v 0:=by
 have:=Sp v
 simp only[be,List.cons.injEq,and_true]at this;exact this
attribute [go_sem] Xk7 Yda
theorem Sq (A Z:List UInt8) (a b x y:UInt8):((A++[a,b]++Z).set A.length x).set (A.length + 1) y=A++[x,y]++Z:=by
 rw[List.append_assoc,List.set_append_right _ _ (Nat.le_refl _),List.set_append_right _ _ ae]
 simp
theorem Xsh (A Z:List UInt8) (hA:A.length=10) (v:Int):((A++be 0 2++Z).set 10 (Qg v 1)).set 11 (Qg v 0)=A++be v 2++Z:=by
 rw[xC]
 have:=Sq A Z 0 0 (Qg v 1) (Qg v 0)
 rw[hA]at this
 exact this
set_option maxHeartbeats 2000000 in
theorem C6 (gl:Nat→AV) (af aB dst av id n:Int) (hn:0≤n∧n≤1000) :
  GS Tryz.prog gl 121 [.int .i64 af,.int .i64 aB,.int .i64 dst,.int .i64 av,.int .i64 id,.int .i64 n] [] 0 (.sl 1 0 0 20 20) [(0,.cells (Xg (Uw af aB dst av id n)))] 1:=by
 refine Xwi.gs (of_decide_eq_true rfl) au fun c aY hg=>?_
 conv in aQ _ _=>cbv
 obtain ⟨p2,fb⟩:∃ p2:List UInt8,p2=[69,0]:=⟨_,rfl⟩
 have hl2:p2.length=2:=by rw[fb];rfl
 have lit:[.int .u8 69,.int .u8 0]=Xg p2:=by rw[fb];rfl
 have br:∀ v,((p2++be (20 + n) 2++be id 2++be 0 2++be av 1++be af 1++be 0 2++be aB 4++be dst 4).set 10 (Qg v 1)).set 11 (Qg v 0)=qC af av id n++be v 2++qD aB dst:=fun v=>by
  have:=Xsh (qC af av id n) (qD aB dst) (Lr _ _ _ _) v
  rw[← this,fb];unfold qC qD;rw[xC];simp only[List.append_assoc]
 have cX:Zb (p2++be (20 + n) 2++be id 2++be 0 2++be av 1++be af 1++be 0 2++be aB 4++be dst 4)=Zb (qC af av id n++[0,0]++qD aB dst):=by
  unfold qC qD;rw[xC,fb];simp only[List.append_assoc]
 have hlen:(p2++be (20 + n) 2++be id 2++be 0 2++be av 1++be af 1++be 0 2++be aB 4++be dst 4).length=20:=by simp[Qp,hl2]
 have t8:(p2++be (20 + n) 2++be id 2++be 0 2).take 8=p2++be (20 + n) 2++be id 2++be 0 2:=List.take_of_length_le (by simp[Qp,hl2])
 have hC:=CD c.gl (p2++be (20 + n) 2++be id 2++be 0 2++be av 1++be af 1++be 0 2++be aB 4++be dst 4) (by rw[hlen];decide)
 have hL:=wM (p2++be (20 + n) 2++be id 2++be 0 2++be av 1++be af 1++be 0 2++be aB 4++be dst 4)
 refine Qe ?_
 refine Ja ?_
 (have zC:=(Kr c.gl p2 (20 + n) 2 aI ae);refine Xm (ip [0]) zC (An @Qp (An @lit @hl2)) ?_;clear zC)
 (have zC:=(Kr c.gl (p2++be (20 + n) 2) id 2 aI (by simp[Qp,hl2]));refine Xm (ip [1]) zC (An @Qp @hl2) ?_;clear zC)
 (have zC:=(Kr c.gl (p2++be (20 + n) 2++be id 2) 0 2 aI (by simp[Qp,hl2]));refine Xm (ip [2]) zC (An @Qp @hl2) ?_;clear zC)
 refine Zj (An @Qp @hl2) ?_
 refine Zj (An @Qp (An @Sp (An @hl2 @t8))) ?_
 (have zC:=(Kr c.gl (p2++be (20 + n) 2++be id 2++be 0 2++be av 1++be af 1) 0 2 aI (by simp[Qp,hl2]));refine Xm (ip [5]) zC (An @Qp @hl2) ?_;clear zC)
 (have zC:=(Kr c.gl (p2++be (20 + n) 2++be id 2++be 0 2++be av 1++be af 1++be 0 2) aB 4 aI (by simp[Qp,hl2]));refine Xm (ip [6]) zC (An @Qp @hl2) ?_;clear zC)
 (have zC:=(Kr c.gl (p2++be (20 + n) 2++be id 2++be 0 2++be av 1++be af 1++be 0 2++be aB 4) dst 4 aI (by simp[Qp,hl2]));refine Xm (ip [7]) zC (An @Qp @hl2) ?_;clear zC)
 generalize cr:p2++be (20 + n) 2++be id 2++be 0 2++be av 1++be af 1++be 0 2++be aB 4++be dst 4=row at *
 have t20:row.take 20=row:=List.take_of_length_le ae
 refine Qv hC (An @t20 @hlen) ?_
 refine Qh (An @t20 (An @hlen @vM)) ?_
 rw[br]
 refine ⟨[(0,8)],?_⟩
 refine Qe ?_
 unfold Uw
 rw[cX]
theorem Gp (gl:Nat→AV) (aB dst af n:Int):PS Tryz.prog gl 75 [.int .i64 aB,.int .i64 dst,.int .i64 af,.int .i64 n] (.str (be aB 4++be dst 4++be af 2++be n 2)):=by
 refine Xgg.ps (of_decide_eq_true rfl) (by simp[Qf]) fun c hN hg=>?_
 conv in aQ _ _=>cbv
 refine Qe ?_
 (have zC:=(Lv c.gl aB 4 aI aI);refine Xm (ip []) zC @Qp ?_;clear zC)
 (have zC:=(Kr c.gl (be aB 4) dst 4 aI (by simp[Qp]));refine Xm (ip [0]) zC @Qp ?_;clear zC)
 (have zC:=(Kr c.gl (be aB 4++be dst 4) af 2 aI (by simp[Qp]));refine Xm (ip [1]) zC @Qp ?_;clear zC)
 (have zC:=(Kr c.gl (be aB 4++be dst 4++be af 2) n 2 aI (by simp[Qp]));exact Jv (ip [2]) zC @Qp)
theorem Ya0 (A Z:List UInt8) (v:Int) (k:Nat) (hA:A.length=k):((A++[0,0]++Z).set k (Qg v 1)).set (k + 1) (Qg v 0)=A++be v 2++Z:=by
 subst hA;exact Sq A Z 0 0 (Qg v 1) (Qg v 0)
theorem Yev:be 0 4=[0,0]++[0,0]:=by decide
structure xE (p:Pk) (k m:Nat) (row:List UInt8):Prop where
 len:row.length=m + p.body.length
 sn:Xl p=m + p.body.length
 set:∀ v,(row.set k (Qg v 1)).set (k + 1) (Qg v 0)=Uf p++be v 2++jP p
 chk:Zb (Yt p.af p.aB p.dst (Xl p)++row)=Zb (Yt p.af p.aB p.dst (Xl p)++Uf p++[0,0]++jP p)
theorem xE.of {p:Pk} {k m:Nat} {row:List UInt8} (h:row=Uf p++[0,0]++jP p) (hk:(Uf p).length=k) (hm:k + 2 + (jP p).length=m + p.body.length):xE p k m row:=by
 subst h
 refine ⟨by simp only[List.length_append,List.length_cons,List.length_nil];omega,by unfold Xl;omega,fun v=>Ya0 _ _ v k hk,by simp only[List.append_assoc]⟩
theorem xE.ck {p:Pk} {k m:Nat} {row:List UInt8} (h:xE p k m row):gQ p=if p.af=17∧Zb (Yt p.af p.aB p.dst (Xl p)++row)=0 then 65535 else Zb (Yt p.af p.aB p.dst (Xl p)++row):=by
 unfold gQ;rw[h.chk]
set_option maxHeartbeats 8000000 in
set_option maxRecDepth 20000 in
theorem Xgj (gl:Nat→AV) (aB ai dst aj av id flags seq aL win:Int) (body:List UInt8) (h:Yo (⟨1,aB,ai,dst,aj,av,id,flags,seq,aL,win,body⟩:Pk)=0):PS Tryz.prog gl 71 [.agg (⟨1,aB,ai,dst,aj,av,id,flags,seq,aL,win,body⟩:Pk).enc] (.aU [.str (Xk (⟨1,aB,ai,dst,aj,av,id,flags,seq,aL,win,body⟩:Pk)),.int .i64 0]):=by
 refine Gm.ps (of_decide_eq_true rfl) (by simp[Qf,ah]) fun c hN hg=>?_
 conv in aQ _ _=>cbv
 have hG:=vL c.gl (⟨1,aB,ai,dst,aj,av,id,flags,seq,aL,win,body⟩:Pk)
 rw[h]at hG
 obtain ⟨_,⟨r1,r2,r3,r4,r5,r6,r7,r8,r9,ic⟩,fk,_⟩:=Wc h
 dsimp only at r1 r2 r3 r4 r5 r6 r7 r8 r9 ic fk
 clear h
 unfold Pk.enc at hG ⊢
 dsimp only at hG ⊢
 obtain ⟨p2,fb⟩:∃ p2:List UInt8,p2=be flags 1++[0]:=⟨_,rfl⟩
 have hl2:p2.length=2:=by rw[fb];rfl
 have lit:[.int .u8 flags,.int .u8 0]=Xg p2:=by
  have e:=xB flags ae ae
  rw[fb]
  show _=[AV.int .u8 ((Qg flags 0).toNat:Int),AV.int .u8 0]
  rw[e]
 have hS:xE (⟨1,aB,ai,dst,aj,av,id,flags,seq,aL,win,body⟩:Pk) 2 8 (p2++be 0 2++be (ai + aj) 2++be seq 2++body):=by
  refine .of (by rw[fb,xC];unfold Uf jP;simp) (by simp[Uf,Qp]) (by simp[jP,Qp];omega)
 have lr:(p2++be 0 2++be (ai + aj) 2++be seq 2).length=8:=by simp[Qp,hl2]
 have hm:=hS.len
 have dR:=hS.sn
 dsimp only at hm dR
 have tr:(p2++be 0 2++be (ai + aj) 2++be seq 2).take 8=p2++be 0 2++be (ai + aj) 2++be seq 2:=List.take_of_length_le ae
 have br:=hS.set
 have bF:Xk (⟨1,aB,ai,dst,aj,av,id,flags,seq,aL,win,body⟩:Pk)=Uw 1 aB dst av id ((8 + body.length:Nat):Int)++(((p2++be 0 2++be (ai + aj) 2++be seq 2++body).set 2 (Qg (gQ (⟨1,aB,ai,dst,aj,av,id,flags,seq,aL,win,body⟩:Pk)) 1)).set (2 + 1) (Qg (gQ (⟨1,aB,ai,dst,aj,av,id,flags,seq,aL,win,body⟩:Pk)) 0)):=by
  unfold Xk js;rw[dR,br]
 have cX:=hS.ck
 rw[dR]at cX
 dsimp only at cX
 have C7:((8 + body.length:Nat):Int)=8 + (body.length:Int):=by omega
 rw[C7]at cX bF
 rw[bF]
 clear bF br hS dR
 generalize gQ (⟨1,aB,ai,dst,aj,av,id,flags,seq,aL,win,body⟩:Pk)=ck at *
 have qE:(Yt 1 aB dst (8 + (body.length:Int))++(p2++be 0 2++be (ai + aj) 2++be seq 2++body)).length≤200:=by
  unfold Yt;simp only[List.length_append]at hm ⊢;split<;>simp[Qp]<;>omega
 have qF:=CD c.gl (Yt 1 aB dst (8 + (body.length:Int))++(p2++be 0 2++be (ai + aj) 2++be seq 2++body)) ae
 have xF:=wM (Yt 1 aB dst (8 + (body.length:Int))++(p2++be 0 2++be (ai + aj) 2++be seq 2++body))
 have bW:Yt 1 aB dst (8 + (body.length:Int))=[]:=rfl
 rw[bW]at qF cX xF
 clear qE bW
 have sj:(8:Int) + (body.length:Int)=((8 + body.length:Nat):Int):=by omega
 refine Qe ?_
 refine Zq hG ?_
 (refine Qa (fun g0=>?_) (fun g0=>?_)<;>try exact g0.elim)
 refine Qe ?_
 (refine Qa (fun g1=>?_) (fun g1=>?_)<;>try exact g1.elim)
 refine Qe ?_
 refine Ja ?_
 (have zC:=(Kr c.gl p2 0 2 aI ae);refine Xm (ip [1]) zC (An @Qp (An @lit @hl2)) ?_;clear zC)
 (have zC:=(Kr c.gl (p2++be 0 2) (ai + aj) 2 aI (by simp[Qp,hl2]));refine Xm (ip [2]) zC (An @Qp @hl2) ?_;clear zC)
 (have zC:=(Kr c.gl (p2++be 0 2++be (ai + aj) 2) seq 2 aI (by simp[Qp,hl2]));refine Xm (ip [3]) zC (An @Qp @hl2) ?_;clear zC)
 refine Zj (An @Qp (An @lr @tr)) ?_
 generalize hR:p2++be 0 2++be (ai + aj) 2++be seq 2++body=R at *
 have tR:R.take (8 + body.length)=R:=List.take_of_length_le ae
 (refine Qa (fun g4=>?_) (fun g4=>?_)<;>try exact g4.elim)
 simp only[List.nil_append]at cX qF xF
 generalize Zb (R)=K at *
 refine Qe ?_
 refine Zq qF ?_
 rw[if_neg ae]at cX
 subst cX
 (refine Qa (fun g5=>?_) (fun g5=>?_)<;>try exact g5.elim)
 refine Qe ?_
 have xG:((2:Int) + 1).toNat=3:=rfl
 have br:((R.set 2 (Qg ck 1)).set 3 (Qg ck 0)).length=8 + body.length:=by simp[hm]
 refine Qh (An @hm (An @vM @xG)) ?_
 generalize hS:(R.set 2 (Qg ck 1)).set 3 (Qg ck 0)=S at *
 (have zC:=(C6 c.gl 1 aB dst av id (8 + body.length) ae);refine Xm (ip []) zC @hm ?_;clear zC)
 refine Zj (An @br @Jh) ?_
 rw[List.take_of_length_le (by simp[Jh,br])]
set_option maxHeartbeats 8000000 in
set_option maxRecDepth 20000 in
theorem Xqm (gl:Nat→AV) (aB ai dst aj av id flags seq aL win:Int) (body:List UInt8) (h:Yo (⟨17,aB,ai,dst,aj,av,id,flags,seq,aL,win,body⟩:Pk)=0):PS Tryz.prog gl 71 [.agg (⟨17,aB,ai,dst,aj,av,id,flags,seq,aL,win,body⟩:Pk).enc] (.aU [.str (Xk (⟨17,aB,ai,dst,aj,av,id,flags,seq,aL,win,body⟩:Pk)),.int .i64 0]):=by
 refine Gm.ps (of_decide_eq_true rfl) (by simp[Qf,ah]) fun c hN hg=>?_
 conv in aQ _ _=>cbv
 have hG:=vL c.gl (⟨17,aB,ai,dst,aj,av,id,flags,seq,aL,win,body⟩:Pk)
 rw[h]at hG
 obtain ⟨_,⟨r1,r2,r3,r4,r5,r6,r7,r8,r9,ic⟩,fk,_⟩:=Wc h
 dsimp only at r1 r2 r3 r4 r5 r6 r7 r8 r9 ic fk
 clear h
 unfold Pk.enc at hG ⊢
 dsimp only at hG ⊢
 have hS:xE (⟨17,aB,ai,dst,aj,av,id,flags,seq,aL,win,body⟩:Pk) 6 8 (be ai 2++be aj 2++be (8 + body.length) 2++be 0 2++body):=by
  refine .of (by rw[xC];unfold Uf jP;simp) (by simp[Uf,Qp]) (by simp[jP,Qp])
 have lr:(be ai 2++be aj 2++be (8 + body.length) 2++be 0 2).length=8:=by simp[Qp]
 have hm:=hS.len
 have dR:=hS.sn
 dsimp only at hm dR
 have tr:(be ai 2++be aj 2++be (8 + body.length) 2++be 0 2).take 8=be ai 2++be aj 2++be (8 + body.length) 2++be 0 2:=List.take_of_length_le ae
 have br:=hS.set
 have bF:Xk (⟨17,aB,ai,dst,aj,av,id,flags,seq,aL,win,body⟩:Pk)=Uw 17 aB dst av id ((8 + body.length:Nat):Int)++(((be ai 2++be aj 2++be (8 + body.length) 2++be 0 2++body).set 6 (Qg (gQ (⟨17,aB,ai,dst,aj,av,id,flags,seq,aL,win,body⟩:Pk)) 1)).set (6 + 1) (Qg (gQ (⟨17,aB,ai,dst,aj,av,id,flags,seq,aL,win,body⟩:Pk)) 0)):=by
  unfold Xk js;rw[dR,br]
 have cX:=hS.ck
 rw[dR]at cX
 dsimp only at cX
 have C7:((8 + body.length:Nat):Int)=8 + (body.length:Int):=by omega
 rw[C7]at cX bF
 rw[bF]
 clear bF br hS dR
 generalize gQ (⟨17,aB,ai,dst,aj,av,id,flags,seq,aL,win,body⟩:Pk)=ck at *
 have qE:(Yt 17 aB dst (8 + (body.length:Int))++(be ai 2++be aj 2++be (8 + body.length) 2++be 0 2++body)).length≤200:=by
  unfold Yt;simp only[List.length_append]at hm ⊢;split<;>simp[Qp]<;>omega
 have qF:=CD c.gl (Yt 17 aB dst (8 + (body.length:Int))++(be ai 2++be aj 2++be (8 + body.length) 2++be 0 2++body)) ae
 have xF:=wM (Yt 17 aB dst (8 + (body.length:Int))++(be ai 2++be aj 2++be (8 + body.length) 2++be 0 2++body))
 have bW:Yt 17 aB dst (8 + (body.length:Int))=be aB 4++be dst 4++be 17 2++be (8 + (body.length:Int)) 2:=rfl
 rw[bW]at qF cX xF
 clear qE bW
 have sj:(8:Int) + (body.length:Int)=((8 + body.length:Nat):Int):=by omega
 refine Qe ?_
 refine Zq hG ?_
 (refine Qa (fun g0=>?_) (fun g0=>?_)<;>try exact g0.elim)
 refine Qe ?_
 (refine Qa (fun g1=>?_) (fun g1=>?_)<;>try exact g1.elim)
 refine Qe ?_
 (refine Qa (fun g2=>?_) (fun g2=>?_)<;>try exact g2.elim)
 refine Qe ?_
 (have zC:=(Lv c.gl ai 2 aI aI);refine Xm (ip []) zC @Qp ?_;clear zC)
 (have zC:=(Kr c.gl (be ai 2) aj 2 aI (by simp[Qp]));refine Xm (ip [1]) zC @Qp ?_;clear zC)
 (have zC:=(Kr c.gl (be ai 2++be aj 2) (8 + body.length) 2 aI (by simp[Qp]));refine Xm (ip [2]) zC @Qp ?_;clear zC)
 (have zC:=(Kr c.gl (be ai 2++be aj 2++be (8 + body.length) 2) 0 2 aI (by simp[Qp]));refine Xm (ip [3]) zC @Qp ?_;clear zC)
 refine Zj (An @Qp (An @lr @tr)) ?_
 generalize hR:be ai 2++be aj 2++be (8 + body.length) 2++be 0 2++body=R at *
 have tR:R.take (8 + body.length)=R:=List.take_of_length_le ae
 (refine Qa (fun g4=>?_) (fun g4=>?_)<;>try exact g4.elim)
 refine Qe ?_
 ((first|apply Ym|apply Ya|apply Xn|apply Xj)<;>(first|exact (Gp _ aB dst 17 (8 + (body.length:Int)))|(have aJ:=@Qp;have bm:=@hm;have bL:=@tR;refine XG ?_;clear aJ bm bL;first|exact rfl|exact True.intro|((try (repeat' with_reducible refine And.intro ?_ ?_));(try any_goals (first|refine zm ?_|exact CL|fail))))))
 generalize Zb (be aB 4++be dst 4++be 17 2++be (8 + (body.length:Int)) 2++R)=K at *
 refine Zq qF ?_
 by_cases Lw:K=0
 ·rw[if_pos ⟨rfl,Lw⟩]at cX
  have Sr:(ck:Int)=65535:=by omega
  rw[Sr]
  clear cX Sr ck
  subst Lw
  (refine Qa (fun g5=>?_) (fun g5=>?_)<;>try exact g5.elim)
  refine Qe ?_
  have xG:((6:Int) + 1).toNat=7:=rfl
  have br:((R.set 6 (Qg 65535 1)).set 7 (Qg 65535 0)).length=8 + body.length:=by simp[hm]
  refine Qh (An @hm (An @vM @xG)) ?_
  generalize hS:(R.set 6 (Qg 65535 1)).set 7 (Qg 65535 0)=S at *
  (have zC:=(C6 c.gl 17 aB dst av id (8 + body.length) ae);refine Xm (ip []) zC @hm ?_;clear zC)
  refine Zj (An @br @Jh) ?_
  rw[List.take_of_length_le (by simp[Jh,br])]
 ·rw[if_neg fun h=>Lw h.2]at cX
  subst cX
  have hKb:((ck:Int) == 0)=false:=by simp;omega
  refine Qh @hKb ?_
  (refine Qa (fun g5=>?_) (fun g5=>?_)<;>try exact g5.elim)
  refine Qe ?_
  have xG:((6:Int) + 1).toNat=7:=rfl
  have br:((R.set 6 (Qg ck 1)).set 7 (Qg ck 0)).length=8 + body.length:=by simp[hm]
  refine Qh (An @hm (An @vM @xG)) ?_
  generalize hS:(R.set 6 (Qg ck 1)).set 7 (Qg ck 0)=S at *
  (have zC:=(C6 c.gl 17 aB dst av id (8 + body.length) ae);refine Xm (ip []) zC @hm ?_;clear zC)
  refine Zj (An @br @Jh) ?_
  rw[List.take_of_length_le (by simp[Jh,br])]
set_option maxHeartbeats 8000000 in
set_option maxRecDepth 20000 in
theorem Xlp (gl:Nat→AV) (aB ai dst aj av id flags seq aL win:Int) (body:List UInt8) (h:Yo (⟨6,aB,ai,dst,aj,av,id,flags,seq,aL,win,body⟩:Pk)=0):PS Tryz.prog gl 71 [.agg (⟨6,aB,ai,dst,aj,av,id,flags,seq,aL,win,body⟩:Pk).enc] (.aU [.str (Xk (⟨6,aB,ai,dst,aj,av,id,flags,seq,aL,win,body⟩:Pk)),.int .i64 0]):=by
 refine Gm.ps (of_decide_eq_true rfl) (by simp[Qf,ah]) fun c hN hg=>?_
 conv in aQ _ _=>cbv
 have hG:=vL c.gl (⟨6,aB,ai,dst,aj,av,id,flags,seq,aL,win,body⟩:Pk)
 rw[h]at hG
 obtain ⟨_,⟨r1,r2,r3,r4,r5,r6,r7,r8,r9,ic⟩,fk,_⟩:=Wc h
 dsimp only at r1 r2 r3 r4 r5 r6 r7 r8 r9 ic fk
 clear h
 unfold Pk.enc at hG ⊢
 dsimp only at hG ⊢
 obtain ⟨p2,fb⟩:∃ p2:List UInt8,p2=[80]++be flags 1:=⟨_,rfl⟩
 have hl2:p2.length=2:=by rw[fb];rfl
 have hS:xE (⟨6,aB,ai,dst,aj,av,id,flags,seq,aL,win,body⟩:Pk) 16 20 (be ai 2++be aj 2++be seq 4++be aL 4++p2++be win 2++be 0 4++body):=by
  refine .of (by rw[fb,Yev];unfold Uf jP;simp) (by simp[Uf,Qp]) (by simp[jP,Qp];omega)
 have lit:∀ l:List UInt8,l++[UInt8.ofNat 80]++[UInt8.ofNat flags.toNat]=l++p2:=fun l=>by
  have e:=xB flags ae ae
  have e2:UInt8.ofNat flags.toNat=Qg flags 0:=UInt8.toNat_inj.1 (by simp only[UInt8.toNat_ofNat',Nat.reducePow];omega)
  rw[fb,e2,List.append_assoc];rfl
 have lr:(be ai 2++be aj 2++be seq 4++be aL 4++p2++be win 2++be 0 4).length=20:=by simp[Qp,hl2]
 have t12:(be ai 2++be aj 2++be seq 4++be aL 4).take 12=be ai 2++be aj 2++be seq 4++be aL 4:=List.take_of_length_le (by simp[Qp])
 have hm:=hS.len
 have dR:=hS.sn
 dsimp only at hm dR
 have tr:(be ai 2++be aj 2++be seq 4++be aL 4++p2++be win 2++be 0 4).take 20=be ai 2++be aj 2++be seq 4++be aL 4++p2++be win 2++be 0 4:=List.take_of_length_le ae
 have br:=hS.set
 have bF:Xk (⟨6,aB,ai,dst,aj,av,id,flags,seq,aL,win,body⟩:Pk)=Uw 6 aB dst av id ((20 + body.length:Nat):Int)++(((be ai 2++be aj 2++be seq 4++be aL 4++p2++be win 2++be 0 4++body).set 16 (Qg (gQ (⟨6,aB,ai,dst,aj,av,id,flags,seq,aL,win,body⟩:Pk)) 1)).set (16 + 1) (Qg (gQ (⟨6,aB,ai,dst,aj,av,id,flags,seq,aL,win,body⟩:Pk)) 0)):=by
  unfold Xk js;rw[dR,br]
 have cX:=hS.ck
 rw[dR]at cX
 dsimp only at cX
 have C7:((20 + body.length:Nat):Int)=20 + (body.length:Int):=by omega
 rw[C7]at cX bF
 rw[bF]
 clear bF br hS dR
 generalize gQ (⟨6,aB,ai,dst,aj,av,id,flags,seq,aL,win,body⟩:Pk)=ck at *
 have qE:(Yt 6 aB dst (20 + (body.length:Int))++(be ai 2++be aj 2++be seq 4++be aL 4++p2++be win 2++be 0 4++body)).length≤200:=by
  unfold Yt;simp only[List.length_append]at hm ⊢;split<;>simp[Qp]<;>omega
 have qF:=CD c.gl (Yt 6 aB dst (20 + (body.length:Int))++(be ai 2++be aj 2++be seq 4++be aL 4++p2++be win 2++be 0 4++body)) ae
 have xF:=wM (Yt 6 aB dst (20 + (body.length:Int))++(be ai 2++be aj 2++be seq 4++be aL 4++p2++be win 2++be 0 4++body))
 have bW:Yt 6 aB dst (20 + (body.length:Int))=be aB 4++be dst 4++be 6 2++be (20 + (body.length:Int)) 2:=rfl
 rw[bW]at qF cX xF
 clear qE bW
 have sj:(20:Int) + (body.length:Int)=((20 + body.length:Nat):Int):=by omega
 refine Qe ?_
 refine Zq hG ?_
 (refine Qa (fun g0=>?_) (fun g0=>?_)<;>try exact g0.elim)
 refine Qe ?_
 (refine Qa (fun g1=>?_) (fun g1=>?_)<;>try exact g1.elim)
 refine Qe ?_
 (refine Qa (fun g2=>?_) (fun g2=>?_)<;>try exact g2.elim)
 refine Qe ?_
 (refine Qa (fun g3=>?_) (fun g3=>?_)<;>try exact g3.elim)
 refine Qe ?_
 (have zC:=(Lv c.gl ai 2 aI aI);refine Xm (ip []) zC @Qp ?_;clear zC)
 (have zC:=(Kr c.gl (be ai 2) aj 2 aI (by simp[Qp]));refine Xm (ip [1]) zC @Qp ?_;clear zC)
 (have zC:=(Kr c.gl (be ai 2++be aj 2) seq 4 aI (by simp[Qp]));refine Xm (ip [2]) zC @Qp ?_;clear zC)
 (have zC:=(Kr c.gl (be ai 2++be aj 2++be seq 4) aL 4 aI (by simp[Qp]));refine Xm (ip [3]) zC @Qp ?_;clear zC)
 refine Zj @Qp ?_
 refine Zj (An @Qp (An @t12 @lit)) ?_
 (have zC:=(Kr c.gl (be ai 2++be aj 2++be seq 4++be aL 4++p2) win 2 aI (by simp[Qp,hl2]));refine Xm (ip [6]) zC (An @Qp @hl2) ?_;clear zC)
 (have zC:=(Kr c.gl (be ai 2++be aj 2++be seq 4++be aL 4++p2++be win 2) 0 4 aI (by simp[Qp,hl2]));refine Xm (ip [7]) zC (An @Qp @hl2) ?_;clear zC)
 refine Zj (An @Qp (An @lr @tr)) ?_
 generalize hR:be ai 2++be aj 2++be seq 4++be aL 4++p2++be win 2++be 0 4++body=R at *
 have tR:R.take (20 + body.length)=R:=List.take_of_length_le ae
 (refine Qa (fun g4=>?_) (fun g4=>?_)<;>try exact g4.elim)
 refine Qe ?_
 ((first|apply Ym|apply Ya|apply Xn|apply Xj)<;>(first|exact (Gp _ aB dst 6 (20 + (body.length:Int)))|(have aJ:=@Qp;have bm:=@hm;have bL:=@tR;refine XG ?_;clear aJ bm bL;first|exact rfl|exact True.intro|((try (repeat' with_reducible refine And.intro ?_ ?_));(try any_goals (first|refine zm ?_|exact CL|fail))))))
 generalize Zb (be aB 4++be dst 4++be 6 2++be (20 + (body.length:Int)) 2++R)=K at *
 refine Zq qF ?_
 rw[if_neg ae]at cX
 subst cX
 (refine Qa (fun g5=>?_) (fun g5=>?_)<;>try exact g5.elim)
 refine Qe ?_
 have xG:((16:Int) + 1).toNat=17:=rfl
 have br:((R.set 16 (Qg ck 1)).set 17 (Qg ck 0)).length=20 + body.length:=by simp[hm]
 refine Qh (An @hm (An @vM @xG)) ?_
 generalize hS:(R.set 16 (Qg ck 1)).set 17 (Qg ck 0)=S at *
 (have zC:=(C6 c.gl 6 aB dst av id (20 + body.length) ae);refine Xm (ip []) zC @hm ?_;clear zC)
 refine Zj (An @br @Jh) ?_
 rw[List.take_of_length_le (by simp[Jh,br])]
theorem Xmg (gl:Nat→AV) (p:Pk) (h:Yo p≠0):PS Tryz.prog gl 71 [.agg p.enc] (.aU [.str [],.int .i64 (Yo p)]):=by
 refine Gm.ps (of_decide_eq_true rfl) (by simp[Qf,ah]) fun c hN hg=>?_
 conv in aQ _ _=>cbv
 have hG:=vL c.gl p
 generalize Yo p=E at *
 unfold Pk.enc at hG ⊢
 refine Qe ?_
 refine Zq hG ?_
 (refine Qa (fun g0=>?_) (fun g0=>?_)<;>try exact g0.elim)
 ·exact Qr
 ·exact (h g0).elim
theorem Xw9 (gl:Nat→AV) (p:Pk):PS Tryz.prog gl 71 [.agg p.enc] (Ln p):=by
 unfold Ln
 by_cases h:Yo p=0
 ·rw[if_pos h]
  have hp:=(Wc h).1
  rcases p with ⟨af,aB,ai,dst,aj,av,id,flags,seq,aL,win,body⟩
  dsimp only at hp
  rcases hp with rfl|rfl|rfl
  ·exact Xgj gl aB ai dst aj av id flags seq aL win body h
  ·exact Xlp gl aB ai dst aj av id flags seq aL win body h
  ·exact Xqm gl aB ai dst aj av id flags seq aL win body h
 ·rw[if_neg h];exact Xmg gl p h
def G1 (f:List UInt8):Prop:=f.length < 20∨b1 f 0≠69∨w2 f 2≠f.length
def G2 (f:List UInt8):Prop:=cq (f.take 20)≠65535
def G3 (f:List UInt8):Prop:=b1 f 1≠0∨w2 f 6≠0
def G4 (f:List UInt8):Prop:=b1 f 8=0
def G5 (f:List UInt8):Prop:=¬ (b1 f 9=1∨b1 f 9=6∨b1 f 9=17)
def G6 (f:List UInt8):Prop:=(f.drop 20).length < (if b1 f 9=6 then 20 else 8)
def G7 (f:List UInt8):Prop:=cq (Yt (b1 f 9) (w4 f 12) (w4 f 16) (f.drop 20).length++f.drop 20)≠65535∨(b1 f 9=17∧w2 (f.drop 20) 6=0)
def G8 (f:List UInt8):Prop:=b1 f 9=1∧((b1 (f.drop 20) 0≠8∧b1 (f.drop 20) 0≠0)∨b1 (f.drop 20) 1≠0)
def G9 (f:List UInt8):Prop:=b1 f 9=17∧w2 (f.drop 20) 4≠(f.drop 20).length
def qG (f:List UInt8):Prop:=b1 f 9=6∧(b1 (f.drop 20) 12≠80∨63 < b1 (f.drop 20) 13∨w2 (f.drop 20) 18≠0)
theorem C8 {f:List UInt8} (h:G1 f):bZ f=1:=if_pos h
theorem Lx {f:List UInt8} (h1:¬ G1 f) (h:G2 f):bZ f=3:=(if_neg h1).trans (if_pos h)
theorem Gq {f:List UInt8} (h1:¬ G1 f) (h2:¬ G2 f) (h:G3 f):bZ f=4:=(if_neg h1).trans ((if_neg h2).trans (if_pos h))
theorem Ly {f:List UInt8} (h1:¬ G1 f) (h2:¬ G2 f) (h3:¬ G3 f) (h:G4 f):bZ f=12:=(if_neg h1).trans ((if_neg h2).trans ((if_neg h3).trans (if_pos h)))
structure H4 (f:List UInt8):Prop where
 g1:¬ G1 f
 g2:¬ G2 f
 g3:¬ G3 f
 g4:¬ G4 f
theorem Lz {f:List UInt8} (k:H4 f) (h:G5 f):bZ f=4:=(if_neg k.g1).trans ((if_neg k.g2).trans ((if_neg k.g3).trans ((if_neg k.g4).trans (if_pos h))))
theorem C9 {f:List UInt8} (k:H4 f) (h5:¬ G5 f) (h:G6 f):bZ f=1:=(if_neg k.g1).trans ((if_neg k.g2).trans ((if_neg k.g3).trans ((if_neg k.g4).trans ((if_neg h5).trans (if_pos h)))))
structure H6 (f:List UInt8):Prop where
 g:H4 f
 g5:¬ G5 f
 g6:¬ G6 f
theorem Aq {f:List UInt8} (k:H6 f) (h:G7 f):bZ f=3:=(if_neg k.g.g1).trans ((if_neg k.g.g2).trans ((if_neg k.g.g3).trans ((if_neg k.g.g4).trans ((if_neg k.g5).trans ((if_neg k.g6).trans (if_pos h))))))
theorem Da {f:List UInt8} (k:H6 f) (h7:¬ G7 f) (h:G8 f):bZ f=4:=(if_neg k.g.g1).trans ((if_neg k.g.g2).trans ((if_neg k.g.g3).trans ((if_neg k.g.g4).trans ((if_neg k.g5).trans ((if_neg k.g6).trans ((if_neg h7).trans (if_pos h)))))))
theorem LA {f:List UInt8} (k:H6 f) (h7:¬ G7 f) (h8:¬ G8 f) (h:G9 f):bZ f=1:=(if_neg k.g.g1).trans ((if_neg k.g.g2).trans ((if_neg k.g.g3).trans ((if_neg k.g.g4).trans ((if_neg k.g5).trans ((if_neg k.g6).trans ((if_neg h7).trans ((if_neg h8).trans (if_pos h))))))))
theorem Db {f:List UInt8} (k:H6 f) (h7:¬ G7 f) (h8:¬ G8 f) (h9:¬ G9 f) (h:qG f):bZ f=4:=(if_neg k.g.g1).trans ((if_neg k.g.g2).trans ((if_neg k.g.g3).trans ((if_neg k.g.g4).trans ((if_neg k.g5).trans ((if_neg k.g6).trans ((if_neg h7).trans ((if_neg h8).trans ((if_neg h9).trans (if_pos h)))))))))
theorem Dc {f:List UInt8} (k:H6 f) (h7:¬ G7 f) (h8:¬ G8 f) (h9:¬ G9 f) (fC:¬ qG f):bZ f=Yo (az f):=(if_neg k.g.g1).trans ((if_neg k.g.g2).trans ((if_neg k.g.g3).trans ((if_neg k.g.g4).trans ((if_neg k.g5).trans ((if_neg k.g6).trans ((if_neg h7).trans ((if_neg h8).trans ((if_neg h9).trans (if_neg fC)))))))))
theorem Qm (l:List UInt8) (k:Nat):((l.getD k 0).toNat:Int)=b1 l k:=rfl
theorem sD (l:List UInt8) (k:Nat):0≤b1 l k∧b1 l k≤255:=by unfold b1;have:=UInt8.toNat_lt (l.getD k 0);omega
theorem Dd (l:List UInt8) (k:Nat) (h:k + 2≤l.length):0≤w2 l k∧w2 l k≤65535:=by unfold w2;have:=E7 _ (tc l k 2 h);omega
theorem LB (l:List UInt8) (k:Nat) (h:k + 4≤l.length):0≤w4 l k∧w4 l k≤4294967295:=by unfold w4;have:=E6 _ (tc l k 4 h);omega
theorem gL (gl:Nat→AV) (l:List UInt8) (k:Nat):PS Tryz.prog gl 73 [.str ((l.drop k).take 2)] (.int .i64 (w2 l k)):=Sn gl _ (by rw[List.length_take];omega)
theorem Gr (gl:Nat→AV) (l:List UInt8) (k:Nat):PS Tryz.prog gl 73 [.str ((l.drop k).take 4)] (.int .i64 (w4 l k)):=Sn gl _ (by rw[List.length_take];omega)
theorem Yb {l:List UInt8} {e:Int} (h:bZ l=e) (he:e≠0):Up l=.aU [.agg eF.enc,.int .i64 e]:=by
 unfold Up;rw[if_neg ae,h]
theorem Ss {l:List UInt8} (h:bZ l=0):Up l=.aU [.agg (az l).enc,.int .i64 0]:=by
 unfold Up;rw[if_pos h]
theorem Xuv (l:List UInt8):Qf 0 (Up l):=by
 unfold Up;split<;>simp[Qf,ah,Pk.enc]
theorem Gs {l:List UInt8} {e:Int} (p:Pk) (h:bZ l=e) (hp:az l=p):Up l=if e=0 then .aU [.agg p.enc,.int .i64 0] else .aU [.agg eF.enc,.int .i64 e]:=by
 unfold Up;rw[h,hp]
set_option maxHeartbeats 16000000 in
set_option maxRecDepth 20000 in
theorem xH (gl:Nat→AV) (l:List UInt8) (hl:l.length≤140737488351232):PS Tryz.prog gl 34 [.str l] (Up l):=by
 refine Xjm.ps (of_decide_eq_true rfl) (Xuv l) fun c hN hg=>?_
 conv in aQ _ _=>cbv
 have c0:=sD l 0
 have c1:=sD l 1
 have c8:=sD l 8
 have c9:=sD l 9
 by_cases h1:l.length < 20
 ·have d1:decide ((l.length:Int) < 20)=true:=by simp;omega
  refine Qh @d1 ?_
  ((first|apply Yd|apply Xr)<;>(have aJ:=@d1;refine XG ?_;clear aJ;first|exact rfl|exact True.intro|((try (repeat' with_reducible refine And.intro ?_ ?_));(try any_goals (first|refine zm ?_|exact CL|fail)))))
  (refine Qa (fun g1=>?_) (fun g1=>?_)<;>try exact g1.elim)
  rw[Yb (C8 (.inl h1)) aI]
  refine Qh @Qm ?_
  exact Jv (ip []) (Ki c.gl 1) (An @gK.eq_1 (An @eF.eq_1 (An @Pk.enc.eq_1 @Qm)))
 have d1:decide ((l.length:Int) < 20)=false:=by simp;omega
 by_cases h2:b1 l 0=69
 rotate_left
 ·have h2b:(b1 l 0 != 69)=true:=by simp[h2]
  refine Qh (An @Qm (An @h2b @d1)) ?_
  ((first|apply Yd|apply Xr)<;>(have aJ:=@d1;refine XG ?_;clear aJ;first|exact rfl|exact True.intro|((try (repeat' with_reducible refine And.intro ?_ ?_));(try any_goals (first|refine zm ?_|exact CL|fail)))))
  (refine Qa (fun g1=>?_) (fun g1=>?_)<;>try exact g1.elim)
  rw[Yb (C8 (.inr (.inl h2))) aI]
  refine Qh @Qm ?_
  exact Jv (ip []) (Ki c.gl 1) (An @gK.eq_1 (An @eF.eq_1 (An @Pk.enc.eq_1 @Qm)))
 refine Qh (An @Qm (An @h2 @d1)) ?_
 ((first|apply Ym|apply Ya|apply Xn|apply Xj)<;>(first|exact (gL _ l 2)|(have aJ:=@Qm;have bm:=@h2;refine XG ?_;clear aJ bm;first|exact rfl|exact True.intro|((try (repeat' with_reducible refine And.intro ?_ ?_));(try any_goals (first|refine zm ?_|exact CL|fail))))))
 (refine Qa (fun h3=>?_) (fun h3=>?_)<;>try exact h3.elim)
 ·rw[Yb (C8 (.inr (.inr h3))) aI]
  refine Qh @Qm ?_
  exact Jv (ip []) (Ki c.gl 1) (An @gK.eq_1 (An @eF.eq_1 (An @Pk.enc.eq_1 @Qm)))
 have k1:¬ G1 l:=by unfold G1;omega
 refine Qe ?_
 ((first|apply Ym|apply Ya|apply Xn|apply Xj)<;>(first|exact (ss _ (l.take 20) (by rw[List.length_take];omega))|(refine XG ?_;first|exact rfl|exact True.intro|((try (repeat' with_reducible refine And.intro ?_ ?_));(try any_goals (first|refine zm ?_|exact CL|fail))))))
 (refine Qa (fun h4=>?_) (fun h4=>?_)<;>try exact h4.elim)
 ·rw[Yb (Lx k1 (by unfold G2;omega)) aI]
  refine Qh @Qm ?_
  exact Jv (ip []) (Ki c.gl 3) (An @gK.eq_1 (An @eF.eq_1 (An @Pk.enc.eq_1 @Qm)))
 have k2:¬ G2 l:=by unfold G2;omega
 by_cases h5:b1 l 1=0
 rotate_left
 ·have h5b:(b1 l 1 != 0)=true:=by simp[h5]
  refine Qh (An @Qm @h5b) ?_
  ((first|apply Yd|apply Xr)<;>(refine XG ?_;first|exact rfl|exact True.intro|((try (repeat' with_reducible refine And.intro ?_ ?_));(try any_goals (first|refine zm ?_|exact CL|fail)))))
  (refine Qa (fun g1=>?_) (fun g1=>?_)<;>try exact g1.elim)
  rw[Yb (Gq k1 k2 (.inl h5)) aI]
  refine Qh @Qm ?_
  exact Jv (ip []) (Ki c.gl 4) (An @gK.eq_1 (An @eF.eq_1 (An @Pk.enc.eq_1 @Qm)))
 refine Qh (An @Qm @h5) ?_
 ((first|apply Ym|apply Ya|apply Xn|apply Xj)<;>(first|exact (gL _ l 6)|(have aJ:=@Qm;have bm:=@h5;refine XG ?_;clear aJ bm;first|exact rfl|exact True.intro|((try (repeat' with_reducible refine And.intro ?_ ?_));(try any_goals (first|refine zm ?_|exact CL|fail))))))
 (refine Qa (fun h6=>?_) (fun h6=>?_)<;>try exact h6.elim)
 ·rw[Yb (Gq k1 k2 (.inr h6)) aI]
  refine Qh @Qm ?_
  exact Jv (ip []) (Ki c.gl 4) (An @gK.eq_1 (An @eF.eq_1 (An @Pk.enc.eq_1 @Qm)))
 have k3:¬ G3 l:=by unfold G3;omega
 refine Qh @Qm ?_
 ((first|apply Ym|apply Ya|apply Xn|apply Xj)<;>(first|exact (Gr _ l 12)|(have aJ:=@Qm;refine XG ?_;clear aJ;first|exact rfl|exact True.intro|((try (repeat' with_reducible refine And.intro ?_ ?_));(try any_goals (first|refine zm ?_|exact CL|fail))))))
 ((first|apply Ym|apply Ya|apply Xn|apply Xj)<;>(first|exact (Gr _ l 16)|(have aJ:=@Qm;refine XG ?_;clear aJ;first|exact rfl|exact True.intro|((try (repeat' with_reducible refine And.intro ?_ ?_));(try any_goals (first|refine zm ?_|exact CL|fail))))))
 ((first|apply Ym|apply Ya|apply Xn|apply Xj)<;>(first|exact (gL _ l 4)|(have aJ:=@Qm;refine XG ?_;clear aJ;first|exact rfl|exact True.intro|((try (repeat' with_reducible refine And.intro ?_ ?_));(try any_goals (first|refine zm ?_|exact CL|fail))))))
 (refine Qa (fun h7=>?_) (fun h7=>?_)<;>try exact h7.elim)
 ·rw[Yb (Ly k1 k2 k3 h7) aI]
  refine Qh @Qm ?_
  exact Jv (ip []) (Ki c.gl 12) (An @gK.eq_1 (An @eF.eq_1 (An @Pk.enc.eq_1 @Qm)))
 have K:H4 l:=⟨k1,k2,k3,h7⟩
 clear k1 k2 k3
 have e4:0≤w4 l 12∧w4 l 12≤4294967295:=LB _ _ ae
 have e5:0≤w4 l 16∧w4 l 16≤4294967295:=LB _ _ ae
 have cJ:=Gn c.gl (b1 l 9)
 by_cases h8:b1 l 9=1∨b1 l 9=6∨b1 l 9=17
 rotate_left
 ·have hz:ny (b1 l 9)=.aU [.int .i64 0,.int .i64 0]:=by unfold ny;rw[if_neg ae,if_neg ae,if_neg ae]
  rw[hz]at cJ
  refine Qe ?_
  refine Zq cJ ?_
  (refine Qa (fun g1=>?_) (fun g1=>?_)<;>try exact g1.elim)
  rw[Yb (Lz K h8) aI]
  refine Qh @Qm ?_
  exact Jv (ip []) (Ki c.gl 4) (An @gK.eq_1 (An @eF.eq_1 (An @Pk.enc.eq_1 @Qm)))
 have k5:¬ G5 l:=fun h=>h h8
 generalize hs:l.drop 20=s
 have ie:s.length=l.length - 20:=by rw[← hs,List.length_drop]
 have f0:=sD s 0
 have f1:=sD s 1
 have f12:=sD s 12
 have f13:=sD s 13
 rcases h8 with h9|h9|h9
 ·have hz:ny (b1 l 9)=.aU [.int .i64 8,.int .i64 2]:=by rw[h9];rfl
  rw[hz,h9]at cJ
  rw[h9]
  clear hz
  refine Qh @hs ?_
  refine Zq cJ ?_
  (refine Qa (fun g1=>?_) (fun g1=>?_)<;>try exact g1.elim)
  refine Qe ?_
  (refine Qa (fun fC=>?_) (fun fC=>?_)<;>try exact fC.elim)
  ·rw[Yb (C9 K k5 (by unfold G6;rw[hs,h9];simp;omega)) aI]
   refine Qh @Qm ?_
   exact Jv (ip []) (Ki c.gl 1) (An @gK.eq_1 (An @eF.eq_1 (An @Pk.enc.eq_1 @Qm)))
  have K6:H6 l:=⟨K,k5,by unfold G6;rw[hs,h9];simp;omega⟩
  clear K k5
  have hO:=ss c.gl s ae
  have sE:G7 l ↔ cq s≠65535:=by unfold G7;rw[hs,h9];simp[Yt]
  generalize cq s=O at *
  refine Qe ?_
  (refine Qa (fun g2=>?_) (fun g2=>?_)<;>try exact g2.elim)
  refine Qe ?_
  have k7:¬ G7 l∨(G7 l∧O≠65535):=by by_cases h:O=65535<;>simp[sE,h]
  refine Zq hO ?_
  by_cases jL:O=65535
  rotate_left
  ·have d2:((O:Int) != 65535)=true:=by simp;omega
   refine Qh @d2 ?_
   ((first|apply Yd|apply Xr)<;>(have aJ:=@d2;refine XG ?_;clear aJ;first|exact rfl|exact True.intro|((try (repeat' with_reducible refine And.intro ?_ ?_));(try any_goals (first|refine zm ?_|exact CL|fail)))))
   (refine Qa (fun g3=>?_) (fun g3=>?_)<;>try exact g3.elim)
   rw[Yb (Aq K6 (sE.2 jL)) aI]
   refine Qh @Qm ?_
   exact Jv (ip []) (Ki c.gl 3) (An @gK.eq_1 (An @eF.eq_1 (An @Pk.enc.eq_1 @Qm)))
  have d2:((O:Int) != 65535)=false:=by simp;omega
  have k7:¬ G7 l:=fun h=>sE.1 h jL
  refine Qh @d2 ?_
  ((first|apply Yd|apply Xr)<;>(have aJ:=@d2;refine XG ?_;clear aJ;first|exact rfl|exact True.intro|((try (repeat' with_reducible refine And.intro ?_ ?_));(try any_goals (first|refine zm ?_|exact CL|fail)))))
  (refine Qa (fun g3=>?_) (fun g3=>?_)<;>try exact g3.elim)
  refine Qh @Qm ?_
  have k9:¬ G9 l:=fun h=>by have:=h.1;omega
  have qH:¬ qG l:=fun h=>by have:=h.1;omega
  (refine Qa (fun g4=>?_) (fun g4=>?_)<;>try exact g4.elim)
  refine Qh @Qm ?_
  ((first|apply Ym|apply Ya|apply Xn|apply Xj)<;>(first|exact (gL _ s 6)|(have aJ:=@Qm;refine XG ?_;clear aJ;first|exact rfl|exact True.intro|((try (repeat' with_reducible refine And.intro ?_ ?_));(try any_goals (first|refine zm ?_|exact CL|fail))))))
  by_cases f8:b1 s 0=8
  ·have k8:G8 l ↔ b1 s 1≠0:=by unfold G8;rw[hs,h9];simp[f8]
   rw[f8]
   refine Qh (An @Qm @f8) ?_
   (refine Qa (fun fF=>?_) (fun fF=>?_)<;>try exact fF.elim)
   ·rw[Yb (Da K6 k7 (k8.2 fF)) aI]
    refine Qh @Qm ?_
    exact Jv (ip []) (Ki c.gl 4) (An @gK.eq_1 (An @eF.eq_1 (An @Pk.enc.eq_1 @Qm)))
   have k8:¬ G8 l:=fun h=>k8.1 h fF
   refine Qh @Qm ?_
   (refine Qa (fun g5=>?_) (fun g5=>?_)<;>try exact g5.elim)
   refine Qh @Qm ?_
   ((first|apply Ym|apply Ya|apply Xn|apply Xj)<;>(first|exact (gL _ s 4)|(have aJ:=@Qm;refine XG ?_;clear aJ;first|exact rfl|exact True.intro|((try (repeat' with_reducible refine And.intro ?_ ?_));(try any_goals (first|refine zm ?_|exact CL|fail))))))
   have hP:az l=(⟨1,w4 l 12,w2 s 4,w4 l 16,0,b1 l 8,w2 l 4,8,w2 s 6,0,0,s.drop 8⟩:Pk):=by unfold az lR;simp only[hs,h9,reduceCtorEq,Int.reduceEq,if_true,if_false,↓reduceIte,f8]
   have hG:=vL c.gl (⟨1,w4 l 12,w2 s 4,w4 l 16,0,b1 l 8,w2 l 4,8,w2 s 6,0,0,s.drop 8⟩:Pk)
   have hE:=Dc K6 k7 k8 k9 qH
   rw[hP]at hE
   unfold Pk.enc at hG
   dsimp only at hG
   rw[Gs _ hE hP]
   generalize Yo (⟨1,w4 l 12,w2 s 4,w4 l 16,0,b1 l 8,w2 l 4,8,w2 s 6,0,0,s.drop 8⟩:Pk)=E at *
   clear hP hE
   unfold Pk.enc eF
   refine Qh @Qm ?_
   refine Qv hG @Qm ?_
   (refine Qa (fun g9=>?_) (fun g9=>?_)<;>try exact g9.elim)
   ·rw[if_neg g9]
    refine Qh @Qm ?_
    exact Jv (ip []) (Ki c.gl E) (An @gK.eq_1 (An @eF.eq_1 (An @Pk.enc.eq_1 @Qm)))
   ·rw[if_pos g9]
    subst g9
    exact Qq @Qm
  ·have f8b:(b1 s 0 != 8)=true:=by simp[f8]
   have f8c:(b1 s 0 == 8)=false:=by simp[f8]
   by_cases Ar:b1 s 0=0
   ·have k8:G8 l ↔ b1 s 1≠0:=by unfold G8;rw[hs,h9];simp[Ar]
    rw[Ar]
    refine Qh (An @Qm @Ar) ?_
    (refine Qa (fun fF=>?_) (fun fF=>?_)<;>try exact fF.elim)
    ·rw[Yb (Da K6 k7 (k8.2 fF)) aI]
     refine Qh @Qm ?_
     exact Jv (ip []) (Ki c.gl 4) (An @gK.eq_1 (An @eF.eq_1 (An @Pk.enc.eq_1 @Qm)))
    have k8:¬ G8 l:=fun h=>k8.1 h fF
    refine Qh @Qm ?_
    (refine Qa (fun g5=>?_) (fun g5=>?_)<;>try exact g5.elim)
    refine Qh @Qm ?_
    ((first|apply Ym|apply Ya|apply Xn|apply Xj)<;>(first|exact (gL _ s 4)|(have aJ:=@Qm;refine XG ?_;clear aJ;first|exact rfl|exact True.intro|((try (repeat' with_reducible refine And.intro ?_ ?_));(try any_goals (first|refine zm ?_|exact CL|fail))))))
    have hP:az l=(⟨1,w4 l 12,0,w4 l 16,w2 s 4,b1 l 8,w2 l 4,0,w2 s 6,0,0,s.drop 8⟩:Pk):=by unfold az lR;simp only[hs,h9,reduceCtorEq,Int.reduceEq,if_true,if_false,↓reduceIte,Ar]
    have hG:=vL c.gl (⟨1,w4 l 12,0,w4 l 16,w2 s 4,b1 l 8,w2 l 4,0,w2 s 6,0,0,s.drop 8⟩:Pk)
    have hE:=Dc K6 k7 k8 k9 qH
    rw[hP]at hE
    unfold Pk.enc at hG
    dsimp only at hG
    rw[Gs _ hE hP]
    generalize Yo (⟨1,w4 l 12,0,w4 l 16,w2 s 4,b1 l 8,w2 l 4,0,w2 s 6,0,0,s.drop 8⟩:Pk)=E at *
    clear hP hE
    unfold Pk.enc eF
    refine Qh @Qm ?_
    refine Qv hG @Qm ?_
    (refine Qa (fun g9=>?_) (fun g9=>?_)<;>try exact g9.elim)
    ·rw[if_neg g9]
     refine Qh @Qm ?_
     exact Jv (ip []) (Ki c.gl E) (An @gK.eq_1 (An @eF.eq_1 (An @Pk.enc.eq_1 @Qm)))
    ·rw[if_pos g9]
     subst g9
     exact Qq @Qm
   ·have f0b:(b1 s 0 != 0)=true:=by simp[Ar]
    refine Qh (An @Qm (An @f8b @f0b)) ?_
    (refine Qa (fun g5=>?_) (fun g5=>?_)<;>try exact g5.elim)
    rw[Yb (Da K6 k7 (show G8 l by unfold G8;rw[hs];exact ⟨h9,.inl ⟨f8,Ar⟩⟩)) aI]
    refine Qh @Qm ?_
    exact Jv (ip []) (Ki c.gl 4) (An @gK.eq_1 (An @eF.eq_1 (An @Pk.enc.eq_1 @Qm)))
 ·have hz:ny (b1 l 9)=.aU [.int .i64 20,.int .i64 16]:=by rw[h9];rfl
  rw[hz,h9]at cJ
  rw[h9]
  clear hz
  refine Qh @hs ?_
  refine Zq cJ ?_
  (refine Qa (fun g1=>?_) (fun g1=>?_)<;>try exact g1.elim)
  refine Qe ?_
  (refine Qa (fun fC=>?_) (fun fC=>?_)<;>try exact fC.elim)
  ·rw[Yb (C9 K k5 (by unfold G6;rw[hs,h9];simp;omega)) aI]
   refine Qh @Qm ?_
   exact Jv (ip []) (Ki c.gl 1) (An @gK.eq_1 (An @eF.eq_1 (An @Pk.enc.eq_1 @Qm)))
  have K6:H6 l:=⟨K,k5,by unfold G6;rw[hs,h9];simp;omega⟩
  clear K k5
  have bW:be (w4 l 12) 4++be (w4 l 16) 4++be 6 2++be (s.length:Int) 2=Yt 6 (w4 l 12) (w4 l 16) s.length:=rfl
  have iv:(Yt 6 (w4 l 12) (w4 l 16) s.length).length=12:=by rw[← bW];simp[Qp]
  have hO:=ss c.gl (Yt 6 (w4 l 12) (w4 l 16) s.length++s) (by rw[List.length_append];omega)
  have eg:=Gp c.gl (w4 l 12) (w4 l 16) 6 (s.length:Int)
  rw[bW]at eg
  have sE:G7 l ↔ cq (Yt 6 (w4 l 12) (w4 l 16) s.length++s)≠65535:=by unfold G7;rw[hs,h9];simp
  clear bW
  generalize cq (Yt 6 (w4 l 12) (w4 l 16) s.length++s)=O at *
  generalize Yt 6 (w4 l 12) (w4 l 16) s.length=pre at *
  refine Qe ?_
  (refine Qa (fun g2=>?_) (fun g2=>?_)<;>try exact g2.elim)
  refine Qe ?_
  refine Qv eg @iv ?_
  refine Zq hO ?_
  by_cases jL:O=65535
  rotate_left
  ·have d2:((O:Int) != 65535)=true:=by simp;omega
   refine Qh @d2 ?_
   ((first|apply Yd|apply Xr)<;>(have aJ:=@d2;refine XG ?_;clear aJ;first|exact rfl|exact True.intro|((try (repeat' with_reducible refine And.intro ?_ ?_));(try any_goals (first|refine zm ?_|exact CL|fail)))))
   (refine Qa (fun g3=>?_) (fun g3=>?_)<;>try exact g3.elim)
   rw[Yb (Aq K6 (sE.2 jL)) aI]
   refine Qh @Qm ?_
   exact Jv (ip []) (Ki c.gl 3) (An @gK.eq_1 (An @eF.eq_1 (An @Pk.enc.eq_1 @Qm)))
  have d2:((O:Int) != 65535)=false:=by simp;omega
  refine Qh @d2 ?_
  ((first|apply Yd|apply Xr)<;>(have aJ:=@d2;refine XG ?_;clear aJ;first|exact rfl|exact True.intro|((try (repeat' with_reducible refine And.intro ?_ ?_));(try any_goals (first|refine zm ?_|exact CL|fail)))))
  (refine Qa (fun g3=>?_) (fun g3=>?_)<;>try exact g3.elim)
  have k7:¬ G7 l:=fun h=>sE.1 h jL
  have k8:¬ G8 l:=fun h=>by have:=h.1;omega
  have k9:¬ G9 l:=fun h=>by have:=h.1;omega
  have ua:qG l ↔ b1 s 12≠80∨63 < b1 s 13∨w2 s 18≠0:=by unfold qG;rw[hs,h9];simp
  refine Qh @Qm ?_
  (refine Qa (fun g4=>?_) (fun g4=>?_)<;>try exact g4.elim)
  refine Qh @Qm ?_
  (refine Qa (fun g5=>?_) (fun g5=>?_)<;>try exact g5.elim)
  refine Qh @Qm ?_
  (refine Qa (fun g6=>?_) (fun g6=>?_)<;>try exact g6.elim)
  refine Qh @Qm ?_
  ((first|apply Ym|apply Ya|apply Xn|apply Xj)<;>(first|exact (gL _ s 0)|(have aJ:=@Qm;have bm:=@List.drop_zero.{0};refine XG ?_;clear aJ bm;first|exact rfl|exact True.intro|((try (repeat' with_reducible refine And.intro ?_ ?_));(try any_goals (first|refine zm ?_|exact CL|fail))))))
  ((first|apply Ym|apply Ya|apply Xn|apply Xj)<;>(first|exact (gL _ s 2)|(have aJ:=@Qm;refine XG ?_;clear aJ;first|exact rfl|exact True.intro|((try (repeat' with_reducible refine And.intro ?_ ?_));(try any_goals (first|refine zm ?_|exact CL|fail))))))
  ((first|apply Ym|apply Ya|apply Xn|apply Xj)<;>(first|exact (Gr _ s 4)|(have aJ:=@Qm;refine XG ?_;clear aJ;first|exact rfl|exact True.intro|((try (repeat' with_reducible refine And.intro ?_ ?_));(try any_goals (first|refine zm ?_|exact CL|fail))))))
  ((first|apply Ym|apply Ya|apply Xn|apply Xj)<;>(first|exact (Gr _ s 8)|(have aJ:=@Qm;refine XG ?_;clear aJ;first|exact rfl|exact True.intro|((try (repeat' with_reducible refine And.intro ?_ ?_));(try any_goals (first|refine zm ?_|exact CL|fail))))))
  ((first|apply Ym|apply Ya|apply Xn|apply Xj)<;>(first|exact (gL _ s 14)|(have aJ:=@Qm;refine XG ?_;clear aJ;first|exact rfl|exact True.intro|((try (repeat' with_reducible refine And.intro ?_ ?_));(try any_goals (first|refine zm ?_|exact CL|fail))))))
  by_cases sF:b1 s 12=80
  rotate_left
  ·have d3:(b1 s 12 != 80)=true:=by simp[sF]
   refine Qh (An @Qm @d3) ?_
   ((first|apply Yd|apply Xr)<;>(have aJ:=@d3;refine XG ?_;clear aJ;first|exact rfl|exact True.intro|((try (repeat' with_reducible refine And.intro ?_ ?_));(try any_goals (first|refine zm ?_|exact CL|fail)))))
   (refine Qa (fun g7=>?_) (fun g7=>?_)<;>try exact g7.elim)
   rw[Yb (Db K6 k7 k8 k9 (ua.2 (.inl sF))) aI]
   refine Qh @Qm ?_
   exact Jv (ip []) (Ki c.gl 4) (An @gK.eq_1 (An @eF.eq_1 (An @Pk.enc.eq_1 @Qm)))
  by_cases Su:63 < b1 s 13
  ·have d3:decide (63 < b1 s 13)=true:=by simp[Su]
   refine Qh (An @Qm (An @sF @d3)) ?_
   ((first|apply Yd|apply Xr)<;>(have aJ:=@d3;refine XG ?_;clear aJ;first|exact rfl|exact True.intro|((try (repeat' with_reducible refine And.intro ?_ ?_));(try any_goals (first|refine zm ?_|exact CL|fail)))))
   (refine Qa (fun g7=>?_) (fun g7=>?_)<;>try exact g7.elim)
   rw[Yb (Db K6 k7 k8 k9 (ua.2 (.inr (.inl Su)))) aI]
   refine Qh @Qm ?_
   exact Jv (ip []) (Ki c.gl 4) (An @gK.eq_1 (An @eF.eq_1 (An @Pk.enc.eq_1 @Qm)))
  have d3:decide (63 < b1 s 13)=false:=by simp;omega
  refine Qh (An @Qm (An @sF @d3)) ?_
  ((first|apply Ym|apply Ya|apply Xn|apply Xj)<;>(first|exact (gL _ s 18)|(have aJ:=@Qm;have bm:=@sF;have bL:=@d3;refine XG ?_;clear aJ bm bL;first|exact rfl|exact True.intro|((try (repeat' with_reducible refine And.intro ?_ ?_));(try any_goals (first|refine zm ?_|exact CL|fail))))))
  (refine Qa (fun LC=>?_) (fun LC=>?_)<;>try exact LC.elim)
  ·rw[Yb (Db K6 k7 k8 k9 (ua.2 (.inr (.inr LC)))) aI]
   refine Qh @Qm ?_
   exact Jv (ip []) (Ki c.gl 4) (An @gK.eq_1 (An @eF.eq_1 (An @Pk.enc.eq_1 @Qm)))
  have qH:¬ qG l:=fun h=>by have:=ua.1 h;omega
  have hP:az l=(⟨6,w4 l 12,w2 s 0,w4 l 16,w2 s 2,b1 l 8,w2 l 4,b1 s 13,w4 s 4,w4 s 8,w2 s 14,s.drop 20⟩:Pk):=by unfold az lR;simp only[hs,h9,reduceCtorEq,Int.reduceEq,if_true,if_false,↓reduceIte]
  have hG:=vL c.gl (⟨6,w4 l 12,w2 s 0,w4 l 16,w2 s 2,b1 l 8,w2 l 4,b1 s 13,w4 s 4,w4 s 8,w2 s 14,s.drop 20⟩:Pk)
  have hE:=Dc K6 k7 k8 k9 qH
  rw[hP]at hE
  unfold Pk.enc at hG
  dsimp only at hG
  rw[Gs _ hE hP]
  generalize Yo (⟨6,w4 l 12,w2 s 0,w4 l 16,w2 s 2,b1 l 8,w2 l 4,b1 s 13,w4 s 4,w4 s 8,w2 s 14,s.drop 20⟩:Pk)=E at *
  clear hP hE
  unfold Pk.enc eF
  refine Qh @Qm ?_
  refine Qv hG @Qm ?_
  (refine Qa (fun g9=>?_) (fun g9=>?_)<;>try exact g9.elim)
  ·rw[if_neg g9]
   refine Qh @Qm ?_
   exact Jv (ip []) (Ki c.gl E) (An @gK.eq_1 (An @eF.eq_1 (An @Pk.enc.eq_1 @Qm)))
  ·rw[if_pos g9]
   subst g9
   exact Qq @Qm
 ·have hz:ny (b1 l 9)=.aU [.int .i64 8,.int .i64 6]:=by rw[h9];rfl
  rw[hz,h9]at cJ
  rw[h9]
  clear hz
  refine Qh @hs ?_
  refine Zq cJ ?_
  (refine Qa (fun g1=>?_) (fun g1=>?_)<;>try exact g1.elim)
  refine Qe ?_
  (refine Qa (fun fC=>?_) (fun fC=>?_)<;>try exact fC.elim)
  ·rw[Yb (C9 K k5 (by unfold G6;rw[hs,h9];simp;omega)) aI]
   refine Qh @Qm ?_
   exact Jv (ip []) (Ki c.gl 1) (An @gK.eq_1 (An @eF.eq_1 (An @Pk.enc.eq_1 @Qm)))
  have K6:H6 l:=⟨K,k5,by unfold G6;rw[hs,h9];simp;omega⟩
  clear K k5
  have bW:be (w4 l 12) 4++be (w4 l 16) 4++be 17 2++be (s.length:Int) 2=Yt 17 (w4 l 12) (w4 l 16) s.length:=rfl
  have iv:(Yt 17 (w4 l 12) (w4 l 16) s.length).length=12:=by rw[← bW];simp[Qp]
  have hO:=ss c.gl (Yt 17 (w4 l 12) (w4 l 16) s.length++s) (by rw[List.length_append];omega)
  have eg:=Gp c.gl (w4 l 12) (w4 l 16) 17 (s.length:Int)
  rw[bW]at eg
  have sE:G7 l ↔ cq (Yt 17 (w4 l 12) (w4 l 16) s.length++s)≠65535∨w2 s 6=0:=by unfold G7;rw[hs,h9];simp
  clear bW
  generalize cq (Yt 17 (w4 l 12) (w4 l 16) s.length++s)=O at *
  generalize Yt 17 (w4 l 12) (w4 l 16) s.length=pre at *
  refine Qe ?_
  (refine Qa (fun g2=>?_) (fun g2=>?_)<;>try exact g2.elim)
  refine Qe ?_
  refine Qv eg @iv ?_
  refine Zq hO ?_
  by_cases jL:O=65535
  rotate_left
  ·have d2:((O:Int) != 65535)=true:=by simp;omega
   refine Qh @d2 ?_
   ((first|apply Yd|apply Xr)<;>(have aJ:=@d2;refine XG ?_;clear aJ;first|exact rfl|exact True.intro|((try (repeat' with_reducible refine And.intro ?_ ?_));(try any_goals (first|refine zm ?_|exact CL|fail)))))
   (refine Qa (fun g3=>?_) (fun g3=>?_)<;>try exact g3.elim)
   rw[Yb (Aq K6 (sE.2 (.inl jL))) aI]
   refine Qh @Qm ?_
   exact Jv (ip []) (Ki c.gl 3) (An @gK.eq_1 (An @eF.eq_1 (An @Pk.enc.eq_1 @Qm)))
  have d2:((O:Int) != 65535)=false:=by simp;omega
  refine Qh @d2 ?_
  ((first|apply Ym|apply Ya|apply Xn|apply Xj)<;>(first|exact (gL _ s 6)|(have aJ:=@d2;refine XG ?_;clear aJ;first|exact rfl|exact True.intro|((try (repeat' with_reducible refine And.intro ?_ ?_));(try any_goals (first|refine zm ?_|exact CL|fail))))))
  (refine Qa (fun fF=>?_) (fun fF=>?_)<;>try exact fF.elim)
  ·rw[Yb (Aq K6 (sE.2 (.inr fF))) aI]
   refine Qh @Qm ?_
   exact Jv (ip []) (Ki c.gl 3) (An @gK.eq_1 (An @eF.eq_1 (An @Pk.enc.eq_1 @Qm)))
  have k7:¬ G7 l:=fun h=>by have:=sE.1 h;omega
  have k8:¬ G8 l:=fun h=>by have:=h.1;omega
  have qH:¬ qG l:=fun h=>by have:=h.1;omega
  have Sv:G9 l ↔ w2 s 4≠s.length:=by unfold G9;rw[hs,h9];simp
  refine Qh @Qm ?_
  (refine Qa (fun g3=>?_) (fun g3=>?_)<;>try exact g3.elim)
  refine Qh @Qm ?_
  (refine Qa (fun g4=>?_) (fun g4=>?_)<;>try exact g4.elim)
  refine Qh @Qm ?_
  ((first|apply Ym|apply Ya|apply Xn|apply Xj)<;>(first|exact (gL _ s 0)|(have aJ:=@Qm;have bm:=@List.drop_zero.{0};refine XG ?_;clear aJ bm;first|exact rfl|exact True.intro|((try (repeat' with_reducible refine And.intro ?_ ?_));(try any_goals (first|refine zm ?_|exact CL|fail))))))
  ((first|apply Ym|apply Ya|apply Xn|apply Xj)<;>(first|exact (gL _ s 2)|(have aJ:=@Qm;refine XG ?_;clear aJ;first|exact rfl|exact True.intro|((try (repeat' with_reducible refine And.intro ?_ ?_));(try any_goals (first|refine zm ?_|exact CL|fail))))))
  ((first|apply Ym|apply Ya|apply Xn|apply Xj)<;>(first|exact (gL _ s 4)|(have aJ:=@Qm;refine XG ?_;clear aJ;first|exact rfl|exact True.intro|((try (repeat' with_reducible refine And.intro ?_ ?_));(try any_goals (first|refine zm ?_|exact CL|fail))))))
  (refine Qa (fun sF=>?_) (fun sF=>?_)<;>try exact sF.elim)
  ·rw[Yb (LA K6 k7 k8 (Sv.2 sF)) aI]
   refine Qh @Qm ?_
   exact Jv (ip []) (Ki c.gl 1) (An @gK.eq_1 (An @eF.eq_1 (An @Pk.enc.eq_1 @Qm)))
  have k9:¬ G9 l:=fun h=>Sv.1 h sF
  have hP:az l=(⟨17,w4 l 12,w2 s 0,w4 l 16,w2 s 2,b1 l 8,w2 l 4,0,0,0,0,s.drop 8⟩:Pk):=by unfold az lR;simp only[hs,h9,reduceCtorEq,Int.reduceEq,if_true,if_false,↓reduceIte]
  have hG:=vL c.gl (⟨17,w4 l 12,w2 s 0,w4 l 16,w2 s 2,b1 l 8,w2 l 4,0,0,0,0,s.drop 8⟩:Pk)
  have hE:=Dc K6 k7 k8 k9 qH
  rw[hP]at hE
  unfold Pk.enc at hG
  dsimp only at hG
  rw[Gs _ hE hP]
  generalize Yo (⟨17,w4 l 12,w2 s 0,w4 l 16,w2 s 2,b1 l 8,w2 l 4,0,0,0,0,s.drop 8⟩:Pk)=E at *
  clear hP hE
  unfold Pk.enc eF
  refine Qh @Qm ?_
  refine Qv hG @Qm ?_
  (refine Qa (fun g9=>?_) (fun g9=>?_)<;>try exact g9.elim)
  ·rw[if_neg g9]
   refine Qh @Qm ?_
   exact Jv (ip []) (Ki c.gl E) (An @gK.eq_1 (An @eF.eq_1 (An @Pk.enc.eq_1 @Qm)))
  ·rw[if_pos g9]
   subst g9
   exact Qq @Qm
theorem Yeh (l:List UInt8) (k:Nat) (h:k + 2≤l.length):w2 l k=256 * b1 l k + b1 l (k + 1):=by
 have e:(l.drop k).take 2=[l.getD k 0,l.getD (k + 1) 0]:=by
  have a0:l.getD k 0=l[k]:=by simp[List.getD,show k < l.length by omega]
  have a1:l.getD (k + 1) 0=l[k + 1]:=by simp[List.getD,show k + 1 < l.length by omega]
  have a2:l.drop k=l[k]::l[k + 1]::l.drop (k + 2):=by rw[List.drop_eq_getElem_cons (show k < l.length by omega),List.drop_eq_getElem_cons (show k + 1 < l.length by omega)]
  rw[a0,a1,a2];rfl
 unfold w2 b1
 rw[e,sZ _ au]
 simp only[iK]
 omega
theorem As {f:List UInt8} (h:bZ f=0):28≤f.length∧f.length≤65535:=by
 have h1:¬ G1 f:=fun h1=>by rw[C8 h1]at h;cases h
 have h2:¬ G2 f:=fun h2=>by rw[Lx h1 h2]at h;cases h
 have h3:¬ G3 f:=fun h3=>by rw[Gq h1 h2 h3]at h;cases h
 have h4:¬ G4 f:=fun h4=>by rw[Ly h1 h2 h3 h4]at h;cases h
 have k:H4 f:=⟨h1,h2,h3,h4⟩
 have h5:¬ G5 f:=fun h5=>by rw[Lz k h5]at h;cases h
 have h6:¬ G6 f:=fun h6=>by rw[C9 k h5 h6]at h;cases h
 unfold G1 at h1
 unfold G6 at h6
 rw[List.length_drop]at h6
 have:=Dd f 2 ae
 split at h6<;>omega
theorem Xyp (f:List UInt8):(az f).aB=w4 f 12:=by
 unfold az
 dsimp only
 split
 ·rfl
 ·split<;>rfl
def sG (l:List UInt8) (id:Int):AV:=if bZ l≠0 then .aU [.str [],.int .i64 (bZ l)] else if ¬ (0≤id∧id≤65535) then .aU [.str [],.int .i64 2] else .aU [.str (mJ l (w4 l 12) id),.int .i64 0]
theorem Xqw (l:List UInt8) (id:Int):Qf 0 (sG l id):=by
 unfold sG;split
 ·simp[Qf,ah]
 ·split<;>simp[Qf,ah]
set_option maxHeartbeats 2000000 in
theorem Xqi (gl:Nat→AV) (l:List UInt8) (id:Int) (hl:l.length≤140737488351232):PS Tryz.prog gl 124 [.str l,.int .i64 id] (sG l id):=by
 refine Xds.ps (of_decide_eq_true rfl) (Xqw l id) fun c hN hg=>?_
 conv in aQ _ _=>cbv
 have hP:=xH c.gl l hl
 by_cases he:bZ l=0
 rotate_left
 ·rw[Yb rfl he]at hP
  have hr:sG l id=.aU [.str [],.int .i64 (bZ l)]:=if_pos he
  rw[hr]
  clear hr
  generalize bZ l=E at *
  unfold eF Pk.enc at hP
  dsimp only at hP
  refine Qe ?_
  refine Zq hP ?_
  (refine Qa (fun g1=>?_) (fun g1=>?_)<;>try exact g1.elim)
  ·exact Qr
  ·exact (he g1).elim
 obtain ⟨l28,l65⟩:=As he
 rw[Ss he]at hP
 have hf:=Xyp l
 have hw:=Ls c.gl [id] au
 have h4:=LB l 12 ae
 unfold Pk.enc at hP
 rw[hf]at hP
 generalize az l=q at *
 clear hf
 by_cases hid:0≤id∧id≤65535
 rotate_left
 ·have hr:sG l id=.aU [.str [],.int .i64 2]:=by unfold sG;rw[if_neg ae,if_pos hid]
  have hb:[id].all (fB 65535)=false:=by simp[fB];omega
  rw[hr]
  rw[hb]at hw
  refine Qe ?_
  refine Zq hP ?_
  (refine Qa (fun g1=>?_) (fun g1=>?_)<;>try exact g1.elim)
  refine Qe ?_
  refine Ja ?_
  ((first|apply Kz|apply Jx)<;>(first|exact hw|(with_reducible (exact Jo.bool _))|(refine XG ?_;first|exact rfl|exact True.intro|((try (repeat' with_reducible refine And.intro ?_ ?_));(try any_goals (first|refine zm ?_|exact CL|fail))))))
  (refine Qa (fun g2=>?_) (fun g2=>?_)<;>try exact g2.elim)
  exact Qr
 have hr:sG l id=.aU [.str (mJ l (w4 l 12) id),.int .i64 0]:=by unfold sG;rw[if_neg ae,if_neg ae]
 have hb:[id].all (fB 65535)=true:=by simp[fB];omega
 rw[hr]
 rw[hb]at hw
 clear hr hb
 obtain ⟨p8,De⟩:∃ p8:List UInt8,p8=[3,13,0,0,0,0,0,0]:=⟨_,rfl⟩
 have hl8:p8.length=8:=by rw[De];rfl
 have lit:[.int .u8 3,.int .u8 13,.int .u8 0,.int .u8 0,.int .u8 0,.int .u8 0,.int .u8 0,.int .u8 0]=Xg p8:=by rw[De];rfl
 have br:∀ v,((p8++l.take 28).set 2 (Qg v 1)).set 3 (Qg v 0)=[3,13]++be v 2++([0,0,0,0]++l.take 28):=fun v=>by rw[De];rfl
 have cX:Zb ([3,13]++[0,0]++([0,0,0,0]++l.take 28))=Zb (p8++l.take 28):=by rw[De];rfl
 have bF:mJ l (w4 l 12) id=Uw 1 167772414 (w4 l 12) 64 id 36++((p8++l.take 28).set 2 (Qg (Zb (p8++l.take 28)) 1)).set 3 (Qg (Zb (p8++l.take 28)) 0):=by
  unfold mJ Ap;rw[br,cX]
 rw[bF]
 clear bF cX br De
 have Gt:(p8++l.take 28).length=36:=by rw[List.length_append,List.length_take];omega
 have qF:=CD c.gl (p8++l.take 28) ae
 have xF:=wM (p8++l.take 28)
 generalize Zb (p8++l.take 28)=K at *
 have t8:p8.take 8=p8:=List.take_of_length_le ae
 refine Qe ?_
 refine Zq hP ?_
 (refine Qa (fun g1=>?_) (fun g1=>?_)<;>try exact g1.elim)
 refine Qe ?_
 refine Ja ?_
 ((first|apply Kz|apply Jx)<;>(first|exact hw|(with_reducible (exact Jo.bool _))|(refine XG ?_;first|exact rfl|exact True.intro|((try (repeat' with_reducible refine And.intro ?_ ?_));(try any_goals (first|refine zm ?_|exact CL|fail))))))
 (refine Qa (fun g2=>?_) (fun g2=>?_)<;>try exact g2.elim)
 refine Qe ?_
 refine Ja ?_
 simp only[lit]
 refine Zj (An @hl8 @t8) ?_
 generalize hR:p8++l.take 28=R at *
 have tR:R.take 36=R:=List.take_of_length_le ae
 refine Qv qF (An @Gt @tR) ?_
 have br:((R.set 2 (Qg K 1)).set 3 (Qg K 0)).length=36:=by simp[Gt]
 refine Qh (An @Gt @vM) ?_
 generalize hS:(R.set 2 (Qg K 1)).set 3 (Qg K 0)=S at *
 have xI:((8 + min 28 l.length:Nat):Int)=36:=by omega
 (have zC:=(C6 c.gl 1 167772414 (w4 l 12) 64 id 36 ae);refine Xm (ip []) zC (An @Gt @xI) ?_;clear zC)
 refine Zj (An @br @Jh) ?_
 rw[List.take_of_length_le (by simp[Jh,br])]
theorem Ycb (gl:Nat→AV) (c m n:Int):PS Tryz.prog gl 166 [.int .i64 c,.int .i64 m,.int .i64 n] (.int .i64 (Qb c m n)):=Xm9 gl c m n
theorem LD (l:List UInt8) (k:Nat) (n:Int):(Wf l k n).length=l.length:=by simp[Wf]
theorem Js (l:List UInt8) (k:Nat) (m n:Int):(Kh l k m n).length=l.length:=by simp[Kh,LD]
theorem Qy (l:List UInt8) (k c:Nat) (n:Int):(Ql l k c n).length=l.length:=by simp[Ql,LD,Js]
theorem LF (s:FS):ga s []=.aU []:=rfl
theorem Au (k:Nat):((k:Int) + 1).toNat=k + 1:=by omega
theorem Av (k:Nat):((k:Int) + 2).toNat=k + 2:=by omega
theorem Sw (k:Nat):k + 2 - k=2:=by omega
set_option maxHeartbeats 1000000 in
theorem uc (gl:Nat→AV) (l:List UInt8) (last:Bool) (ck:Nat) (m n:Int) (hc:ck + 2≤l.length) (hl:l.length≤65535) :
  GS Tryz.prog gl 134 [.ptr 0 0,.int .i64 ck,.int .i64 m,.int .i64 n] [(0,.cells [.sl 1 1 0 l.length l.length,.bool last]),(1,.cells (Xg l))] 2 (.aU [])
   [(0,.cells [.sl 1 1 0 l.length l.length,.bool last]),(1,.cells (Xg (Kh l ck m n)))] 2:=by
 refine Xv8.gs (of_decide_eq_true rfl) (by simp[Bk.live]) fun c aY hg=>?_
 conv in aQ _ _=>cbv
 have hb:=C5 (w2 l ck) m n
 have bF:Kh l ck m n=(l.set ck (Qg (Qb (w2 l ck) m n) 1)).set (ck + 1) (Qg (Qb (w2 l ck) m n) 0):=rfl
 have hn:=gL c.gl l ck
 have hu:=Ycb c.gl (w2 l ck) m n
 rw[bF]
 generalize Qb (w2 l ck) m n=x at *
 generalize w2 l ck=y at *
 clear bF
 refine Qh (An @Au (An @Av @Sw)) ?_
 refine Qv hn (An @Au @Av) ?_
 refine Qv hu (An @Au @Av) ?_
 refine ⟨[],?_⟩
 exact Qq (An @LF @vM)
theorem Yad (l:List UInt8) (k c:Nat) (n:Int):Ql l k c n=((Kh l c (w2 l k) n).set k (Qg n 1)).set (k + 1) (Qg n 0):=rfl
set_option maxHeartbeats 1000000 in
theorem Jl (gl:Nat→AV) (l:List UInt8) (last:Bool) (k ck:Nat) (n:Int) (hk:k + 2≤l.length) (hc:ck + 2≤l.length) (hl:l.length≤65535) :
  GS Tryz.prog gl 133 [.ptr 0 0,.int .i64 k,.int .i64 ck,.int .i64 n] [(0,.cells [.sl 1 1 0 l.length l.length,.bool last]),(1,.cells (Xg l))] 2 (.aU [])
   [(0,.cells [.sl 1 1 0 l.length l.length,.bool last]),(1,.cells (Xg (Ql l k ck n)))] 2:=by
 refine Xzr.gs (of_decide_eq_true rfl) (by simp[Bk.live]) fun c aY hg=>?_
 conv in aQ _ _=>cbv
 have hn:=gL c.gl l k
 have ht:=uc c.gl l last ck (w2 l k) n hc hl
 rw[Yad]
 have dq:=Js l ck (w2 l k) n
 generalize Kh l ck (w2 l k) n=T at *
 generalize w2 l k=y at *
 refine Qh (An @Au (An @Av @Sw)) ?_
 refine Qv hn (An @Au @Av) ?_
 ((first|refine tM (ins:=[0,1]) ht ?_ ?_|refine tN (ins:=[0,1]) ht ?_ ?_|refine tQ (ins:=[0,1]) ht ?_ ?_|refine tS (ins:=[0,1]) ht ?_ ?_)<;>(have aJ:=@Au;have bm:=@Av;have bL:=@dq;have cf:=@LF;refine XG ?_;clear aJ bm bL cf;(try first|exact rfl|exact True.intro);((try (repeat' with_reducible refine And.intro ?_ ?_));(try any_goals (first|refine zm ?_|exact CL|fail)))))
 ·rfl
 refine ⟨[],?_⟩
 exact Qq (An @LF @vM)
end Go.Proofs.YtogckmommodmhaaGreatDoor
