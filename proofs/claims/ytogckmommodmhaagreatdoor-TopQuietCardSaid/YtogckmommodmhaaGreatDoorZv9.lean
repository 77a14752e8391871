import Derived.Test.YtogckmommodmhaaGreatDoorZv8
namespace Go.Proofs.YtogckmommodmhaaGreatDoor
open Go.RowKit
set_option linter.all false
set_option linter.unusedSimpArgs false
set_option maxRecDepth 100000
theorem Lx {f:List UInt8} (h:bY f=0):H6 f∧Yw (aB f)=0:=by
 have h1:¬ G1 f:=fun h1=>by rw[CO h1]at h;cases h
 have h2:¬ G2 f:=fun h2=>by rw[Lp h1 h2]at h;cases h
 have h3:¬ G3 f:=fun h3=>by rw[Ge h1 h2 h3]at h;cases h
 have h4:¬ G4 f:=fun h4=>by rw[Lq h1 h2 h3 h4]at h;cases h
 have k:H4 f:=⟨h1,h2,h3,h4⟩
 have h5:¬ G5 f:=fun h5=>by rw[Lr k h5]at h;cases h
 have h6:¬ G6 f:=fun h6=>by rw[CP k h5 h6]at h;cases h
 have k6:H6 f:=⟨k,h5,h6⟩
 have h7:¬ G7 f:=fun h7=>by rw[Ah k6 h7]at h;cases h
 have h8:¬ G8 f:=fun h8=>by rw[CQ k6 h7 h8]at h;cases h
 have h9:¬ G9 f:=fun h9=>by rw[Ls k6 h7 h8 h9]at h;cases h
 have eH:¬ qS f:=fun eH=>by rw[CR k6 h7 h8 h9 eH]at h;cases h
 exact ⟨k6,by rw[← CS k6 h7 h8 h9 eH];exact h⟩
theorem Am (f:List UInt8):(aB f).ae=b1 f 9:=by
 unfold aB
 dsimp only
 split
 ·rfl
 ·split<;>rfl
theorem Xxx {f:List UInt8} (h:bY f=0) (h9:b1 f 9=6):40≤f.length:=by
 have:=(Lx h).1.g6
 have h2:=Aj h
 unfold G6 at this
 rw[h9,List.length_drop]at this
 simp only[if_true]at this
 omega
theorem Ao (a:Int) (h:0≤a):a.fdiv (2 ^ min 16 64)=a / 65536:=by
 rw[Int.fdiv_eq_ediv_of_nonneg _ aP];rfl
theorem Ap (a:Int) (h:0≤a∧a≤4294967295):bits .and .i64 a 65535=a % 65536:=by
 obtain ⟨x,rfl⟩:=Int.eq_ofNat_of_zero_le h.1
 show IntKind.i64.wrap (((BitVec.ofInt 64 (x:Int)) &&& (BitVec.ofInt 64 65535)).toNat:Int)=_
 rw[BitVec.toNat_and,BitVec.toNat_ofInt,BitVec.toNat_ofInt]
 have e1:((x:Int) % ((2 ^ 64:Nat):Int)).toNat=x:=by omega
 have e2:((65535:Int) % ((2 ^ 64:Nat):Int)).toNat=2 ^ 16 - 1:=by decide
 rw[e1,e2,Nat.and_two_pow_sub_one_eq_mod,IntKind.wrap_i64]
 omega
theorem Aq (t p:Int) (ht:0≤t∧t≤255) (hp:0≤p∧p≤255):bits .or .i64 (t * 256) p=t * 256 + p:=by
 have h:=Ih t p hp.1 af
 rw[IntKind.wrap_i64,IntKind.wrap_i64]at h
 have e1:(t * 256 + 9223372036854775808) % 18446744073709551616 - 9223372036854775808=t * 256:=by omega
 have e2:(256 * t + p + 9223372036854775808) % 18446744073709551616 - 9223372036854775808=t * 256 + p:=by omega
 rw[e1,e2]at h;exact h
theorem pK:(2:Int) ^ min 8 64=256:=by decide
theorem Ar (l:List UInt8) (i:Nat):(Xq l).set i (.int .u8 255)=Xq (l.set i 255):=by
 have e:(.int .u8 255:AV)=.int .u8 ((255:UInt8).toNat:Int):=rfl
 rw[e,Xq,Xq,List.map_set]
theorem As (l:List UInt8) (k:Nat):Wh l k 65535=(l.set k 255).set (k + 1) 255:=by
 unfold Wh
 rw[show Qf 65535 1=255 by decide,show Qf 65535 0=255 by decide]
theorem Au (l:List UInt8) (k:Nat) (h:k + 2≤l.length):w2 l k=0 ↔ b1 l k=0∧b1 l (k + 1)=0:=by
 have:=Yen l k h
 have:=sR l k
 have:=sR l (k + 1)
 omega
def kI (k:Nat):Int:=k
theorem kD:kI 0=0:=rfl
theorem kE:kI 1=1:=rfl
theorem kF:kI 2=2:=rfl
def ui (k:Nat) (a b c:List UInt8):List UInt8:=match k with|0=>a|1=>b|_=>c
theorem Wn (a b c:List UInt8):ui 0 a b c=a:=rfl
theorem Wo (a b c:List UInt8):ui 1 a b c=b:=rfl
theorem Wl (a b c:List UInt8):ui 2 a b c=c:=rfl
def qU (l:List UInt8) (side addr port:Int):AV :=
 if bY l≠0 then .aU [.str [],.int .i64 (bY l)]
 else if Ul (aB l) side addr port≠0 then .aU [.str [],.int .i64 (Ul (aB l) side addr port)]
 else .aU [.str (Yl l (aB l).ae (aB l).aw (oJ side) (oK (aB l).ae side) addr port),.int .i64 0]
theorem Ya4 (l:List UInt8) (side addr port:Int):Qe 0 (qU l side addr port):=by
 unfold qU;split
 ·simp[Qe,ai]
 ·split<;>simp[Qe,ai]
theorem Xt4 {l:List UInt8} {side addr port e:Int} (h:bY l=0) (ht:Ul (aB l) side addr port=e) (he:e≠0):qU l side addr port=.aU [.str [],.int .i64 e]:=by
 unfold qU;rw[if_neg af,ht,if_pos he]
theorem te2 {p:Pk} {side addr port:Int} (h:side < 0∨side > 1∨¬ (0≤addr∧addr≤4294967295)∨¬ (0≤port∧port≤65535)):Ul p side addr port=2:=if_pos h
theorem Yfr {p:Pk} {side addr port:Int} (h:¬ (side < 0∨side > 1∨¬ (0≤addr∧addr≤4294967295)∨¬ (0≤port∧port≤65535))) (h2:p.aw=1):Ul p side addr port=12:=(if_neg h).trans (if_pos h2)
theorem te4 {p:Pk} {side addr port:Int} (h:¬ (side < 0∨side > 1∨¬ (0≤addr∧addr≤4294967295)∨¬ (0≤port∧port≤65535))) (h2:¬ p.aw=1) (h3:p.ae=1∧¬ (side=0 ↔ p.flags=8)):Ul p side addr port=4:=(if_neg h).trans ((if_neg h2).trans (if_pos h3))
theorem te0 {p:Pk} {side addr port:Int} (h:¬ (side < 0∨side > 1∨¬ (0≤addr∧addr≤4294967295)∨¬ (0≤port∧port≤65535))) (h2:¬ p.aw=1) (h3:¬ (p.ae=1∧¬ (side=0 ↔ p.flags=8))):Ul p side addr port=0:=(if_neg h).trans ((if_neg h2).trans (if_neg h3))
set_option maxHeartbeats 16000000 in
set_option maxRecDepth 20000 in
theorem Sn (gl:Nat→AV) (l:List UInt8) (side addr port:Int) (hl:l.length≤140737488351232):PS Tryz.prog gl 94 [.str l,.int .i64 side,.int .i64 addr,.int .i64 port] (qU l side addr port):=by
 refine xx.ps (of_decide_eq_true rfl) (Ya4 l side addr port) fun c hN hg=>?_
 conv in aQ _ _=>cbv
 have hP:=xC c.gl l hl
 by_cases he:bY l=0
 rotate_left
 ·rw[Yg rfl he]at hP
  have hr:qU l side addr port=.aU [.str [],.int .i64 (bY l)]:=if_pos he
  rw[hr]
  clear hr
  generalize bY l=E at *
  unfold eF Pk.enc at hP
  dsimp only at hP
  refine Qg ?_
  refine Jj hP ?_
  (refine Qa (fun g1=>?_) (fun g1=>?_)<;>try exact g1.elim)
  ·exact Qw
  ·exact (he g1).elim
 obtain ⟨l28,l65⟩:=Aj he
 have CV:=@Xxx l he
 have CW:=Am l
 obtain ⟨hK6,mh⟩:=Lx he
 obtain ⟨hp,hr,fo,pL⟩:=Wb mh
 rw[Sj he]at hP
 have fw:=Sd c.gl [addr] av
 have Gi:=Lk c.gl [port] av
 have eN:=fun e=>@Xt4 l side addr port e he
 have CX:=@te2 (aB l) side addr port
 have vI:=@Yfr (aB l) side addr port
 have CY:=@te4 (aB l) side addr port
 have CZ:=@te0 (aB l) side addr port
 have vJ:Ul (aB l) side addr port=0→qU l side addr port=.aU [.str (Yl l (aB l).ae (aB l).aw (oJ side) (oK (aB l).ae side) addr port),.int .i64 0]:=fun h=>by
  unfold qU;rw[if_neg af,if_neg af]
 generalize qU l side addr port=TT at *
 generalize Ul (aB l) side addr port=TE at *
 obtain ⟨r1,r2,r3,r4,r5,r6,r7,r8,r9,ij⟩:=hr
 clear pL fo mh hK6
 generalize aB l=q at *
 obtain ⟨ae,aA,ah,dst,aj,aw,id,flags,seq,aL,win,body⟩:=q
 unfold Pk.enc at hP
 dsimp only at *
 clear r1 r2 r3 r4 r5 r6 r7 r8
 have HB:=Lib.hid eN
 have Av:=Lib.hid CX
 have uj:=Lib.hid vI
 have Gj:=Lib.hid CY
 have Aw:=Lib.hid CZ
 have HG:=Lib.hid vJ
 have uk:=Lib.hid CV
 clear eN CX vI CY CZ vJ CV
 by_cases Sp:side < 0∨side > 1
 ·rw[HB.out _ (Av.out af) aP]
  have d1:(decide (side < 0) || decide (1 < side))=true:=by simp;omega
  refine Qg ?_
  refine Jj hP ?_
  (refine Qa (fun g1=>?_) (fun g1=>?_)<;>try exact g1.elim)
  refine Qh @d1 ?_
  ((first|apply Ym|apply Yb)<;>(have au:=@d1;refine XG ?_;clear au;first|exact rfl|exact True.intro|((try (repeat' with_reducible refine And.intro ?_ ?_));(try any_goals (first|refine zm ?_|exact CL|fail)))))
  ((first|apply Ym|apply Yb)<;>(have au:=@d1;refine XG ?_;clear au;first|exact rfl|exact True.intro|((try (repeat' with_reducible refine And.intro ?_ ?_));(try any_goals (first|refine zm ?_|exact CL|fail)))))
  ((first|apply Ym|apply Yb)<;>(have au:=@d1;refine XG ?_;clear au;first|exact rfl|exact True.intro|((try (repeat' with_reducible refine And.intro ?_ ?_));(try any_goals (first|refine zm ?_|exact CL|fail)))))
  ((first|apply Ym|apply Yb)<;>(have au:=@d1;refine XG ?_;clear au;first|exact rfl|exact True.intro|((try (repeat' with_reducible refine And.intro ?_ ?_));(try any_goals (first|refine zm ?_|exact CL|fail)))))
  (refine Qa (fun g2=>?_) (fun g2=>?_)<;>try exact g2.elim)
  exact Qw
 have d1:(decide (side < 0) || decide (1 < side))=false:=by simp;omega
 by_cases eI:0≤addr∧addr≤4294967295
 rotate_left
 ·rw[HB.out _ (Av.out af) aP]
  have hb:[addr].all (fy 4294967295)=false:=by simp[fy];omega
  rw[hb]at fw
  refine Qg ?_
  refine Jj hP ?_
  (refine Qa (fun g1=>?_) (fun g1=>?_)<;>try exact g1.elim)
  refine Qh @d1 ?_
  ((refine vA ?_ ?_ ?_);(focus (have au:=@d1;refine XG ?_;clear au;try first|exact rfl|exact True.intro));(focus (have au:=@d1;refine XG ?_;clear au;try trivial)))
  refine Jd @d1 ?_
  ((first|apply Wy|apply Kv)<;>(first|exact fw|(with_reducible (exact Kd.bool _))|(have au:=@d1;refine XG ?_;clear au;first|exact rfl|exact True.intro|((try (repeat' with_reducible refine And.intro ?_ ?_));(try any_goals (first|refine zm ?_|exact CL|fail))))))
  ((first|apply Ym|apply Yb)<;>(have au:=@d1;refine XG ?_;clear au;first|exact rfl|exact True.intro|((try (repeat' with_reducible refine And.intro ?_ ?_));(try any_goals (first|refine zm ?_|exact CL|fail)))))
  ((first|apply Ym|apply Yb)<;>(have au:=@d1;refine XG ?_;clear au;first|exact rfl|exact True.intro|((try (repeat' with_reducible refine And.intro ?_ ?_));(try any_goals (first|refine zm ?_|exact CL|fail)))))
  (refine Qa (fun g2=>?_) (fun g2=>?_)<;>try exact g2.elim)
  exact Qw
 have hb:[addr].all (fy 4294967295)=true:=by simp[fy];omega
 rw[hb]at fw
 by_cases Sq:0≤port∧port≤65535
 rotate_left
 ·rw[HB.out _ (Av.out af) aP]
  have dF:[port].all (fy 65535)=false:=by simp[fy];omega
  rw[dF]at Gi
  refine Qg ?_
  refine Jj hP ?_
  (refine Qa (fun g1=>?_) (fun g1=>?_)<;>try exact g1.elim)
  refine Qh @d1 ?_
  ((refine vA ?_ ?_ ?_);(focus (have au:=@d1;refine XG ?_;clear au;try first|exact rfl|exact True.intro));(focus (have au:=@d1;refine XG ?_;clear au;try trivial)))
  refine Jd @d1 ?_
  ((first|apply Wy|apply Kv)<;>(first|exact fw|(with_reducible (exact Kd.bool _))|(have au:=@d1;refine XG ?_;clear au;first|exact rfl|exact True.intro|((try (repeat' with_reducible refine And.intro ?_ ?_));(try any_goals (first|refine zm ?_|exact CL|fail))))))
  ((refine vA ?_ ?_ ?_);(focus (have au:=@d1;refine XG ?_;clear au;try first|exact rfl|exact True.intro));(focus (have au:=@d1;refine XG ?_;clear au;try trivial)))
  refine Jd @d1 ?_
  ((first|apply Wy|apply Kv)<;>(first|exact Gi|(with_reducible (exact Kd.bool _))|(have au:=@d1;refine XG ?_;clear au;first|exact rfl|exact True.intro|((try (repeat' with_reducible refine And.intro ?_ ?_));(try any_goals (first|refine zm ?_|exact CL|fail))))))
  (refine Qa (fun g2=>?_) (fun g2=>?_)<;>try exact g2.elim)
  exact Qw
 have dF:[port].all (fy 65535)=true:=by simp[fy];omega
 rw[dF]at Gi
 have aY:¬ (side < 0∨side > 1∨¬ (0≤addr∧addr≤4294967295)∨¬ (0≤port∧port≤65535)):=by omega
 clear hb dF
 refine Qg ?_
 refine Jj hP ?_
 (refine Qa (fun g1=>?_) (fun g1=>?_)<;>try exact g1.elim)
 refine Qh @d1 ?_
 ((refine vA ?_ ?_ ?_);(focus (have au:=@d1;refine XG ?_;clear au;try first|exact rfl|exact True.intro));(focus (have au:=@d1;refine XG ?_;clear au;try trivial)))
 refine Jd @d1 ?_
 ((first|apply Wy|apply Kv)<;>(first|exact fw|(with_reducible (exact Kd.bool _))|(have au:=@d1;refine XG ?_;clear au;first|exact rfl|exact True.intro|((try (repeat' with_reducible refine And.intro ?_ ?_));(try any_goals (first|refine zm ?_|exact CL|fail))))))
 ((refine vA ?_ ?_ ?_);(focus (have au:=@d1;refine XG ?_;clear au;try first|exact rfl|exact True.intro));(focus (have au:=@d1;refine XG ?_;clear au;try trivial)))
 refine Jd @d1 ?_
 ((first|apply Wy|apply Kv)<;>(first|exact Gi|(with_reducible (exact Kd.bool _))|(have au:=@d1;refine XG ?_;clear au;first|exact rfl|exact True.intro|((try (repeat' with_reducible refine And.intro ?_ ?_));(try any_goals (first|refine zm ?_|exact CL|fail))))))
 (refine Qa (fun g2=>?_) (fun g2=>?_)<;>try exact g2.elim)
 refine Qg ?_
 (refine Qa (fun fC=>?_) (fun fC=>?_)<;>try exact fC.elim)
 ·rw[HB.out _ (uj.out aY fC) aP]
  exact Qw
 rcases hp with h9|h9|h9
 ·rw[h9]
  have cE:=Gc c.gl 1
  have hz:nA 1=.aU [.int .i64 8,.int .i64 2]:=rfl
  rw[hz]at cE
  clear hz
  have Ly:28≤l.length:=by omega
  by_cases Ax:side=0 ↔ flags=8
  rotate_left
  ·rw[HB.out _ (Gj.out aY fC ⟨h9,Ax⟩) aP]
   have hx:((side == 0) == (flags == 8))=false:=by
    by_cases h1:side=0
    ·rw[show (side == 0)=true by simp[h1],show (flags == 8)=false by simp;exact fun h=>Ax ⟨fun _=>h,fun _=>h1⟩];rfl
    ·rw[show (side == 0)=false by simp[h1],show (flags == 8)=true by simp;exact Decidable.not_not.1 fun h=>Ax ⟨fun x=>(h1 x).elim,fun x=>(h x).elim⟩];rfl
   refine Qh (An @hx (An @Bool.not_true @Bool.not_false)) ?_
   (refine Qa (fun g3=>?_) (fun g3=>?_)<;>try exact g3.elim)
   exact Qw
  have hx:((side == 0) == (flags == 8))=true:=by
   by_cases h1:side=0
   ·rw[show (side == 0)=true by simp[h1],show (flags == 8)=true by simp[Ax.1 h1]];rfl
   ·rw[show (side == 0)=false by simp[h1],show (flags == 8)=false by simp;exact fun h=>h1 (Ax.2 h)];rfl
  rw[HG.out (Aw.out aY fC (fun h=>h.2 Ax)),h9]
  refine Qh (An @hx (An @Bool.not_true @Bool.not_false)) ?_
  clear HB Av uj Gj Aw HG uk
  obtain rfl|rfl:side=0∨side=1:=by omega
  ·have bE:Yl l 1 aw (oJ 0) (oK 1 0) addr port=Yl l 1 aw 12 24 addr port:=rfl
   rw[bE]
   clear bE
   have e1:=Ao addr eI.1
   have e2:=Ap addr eI
   have e3:=Aq (aw - 1) 1 af af
   have t3:Yl l 1 aw 12 24 addr port=(if (w2 (Ql (Ql (tl (Ql (tl (Ql l 12 10 (addr / 65536)) 1 (w2 l 12) (addr / 65536)) 14 10 (addr % 65536)) 1 (w2 (tl (Ql l 12 10 (addr / 65536)) 1 (w2 l 12) (addr / 65536)) 14) (addr % 65536)) 8 10 ((aw - 1) * 256 + 1)) 24 22 port) 22=0)∧((1:Int)=17∨cp ((Ql (Ql (tl (Ql (tl (Ql l 12 10 (addr / 65536)) 1 (w2 l 12) (addr / 65536)) 14 10 (addr % 65536)) 1 (w2 (tl (Ql l 12 10 (addr / 65536)) 1 (w2 l 12) (addr / 65536)) 14) (addr % 65536)) 8 10 ((aw - 1) * 256 + 1)) 24 22 port).drop 20)=0) then Wh (Ql (Ql (tl (Ql (tl (Ql l 12 10 (addr / 65536)) 1 (w2 l 12) (addr / 65536)) 14 10 (addr % 65536)) 1 (w2 (tl (Ql l 12 10 (addr / 65536)) 1 (w2 l 12) (addr / 65536)) 14) (addr % 65536)) 8 10 ((aw - 1) * 256 + 1)) 24 22 port) 22 65535 else Ql (Ql (tl (Ql (tl (Ql l 12 10 (addr / 65536)) 1 (w2 l 12) (addr / 65536)) 14 10 (addr % 65536)) 1 (w2 (tl (Ql l 12 10 (addr / 65536)) 1 (w2 l 12) (addr / 65536)) 14) (addr % 65536)) 8 10 ((aw - 1) * 256 + 1)) 24 22 port):=rfl
   rw[t3]
   clear t3
   obtain ⟨hi,nB⟩:∃ x,x=addr / 65536:=⟨_,rfl⟩
   obtain ⟨lo,iN⟩:∃ x,x=addr % 65536:=⟨_,rfl⟩
   rw[← nB]at e1 ⊢
   rw[← iN]at e2 ⊢
   have qV:0≤hi∧hi≤65535:=by omega
   have qW:0≤lo∧lo≤65535:=by omega
   have E1:tl (Ql l 12 10 hi) 1 (w2 l 12) hi=Ql l 12 10 hi:=rfl
   obtain ⟨B1,gj⟩:∃ x,x=tl (Ql l 12 10 hi) 1 (w2 l 12) hi:=⟨_,rfl⟩
   rw[← gj]
   rw[E1]at gj
   have E2:tl (Ql B1 14 10 lo) 1 (w2 B1 14) lo=Ql B1 14 10 lo:=rfl
   obtain ⟨B2,fP⟩:∃ x,x=tl (Ql B1 14 10 lo) 1 (w2 B1 14) lo:=⟨_,rfl⟩
   rw[← fP]
   rw[E2]at fP
   clear E1 E2
   have dS:B1.length=l.length:=by rw[gj];simp[Qr,Jw]
   have jP:B2.length=l.length:=by rw[fP];simp[Qr,Jw,dS]
   have iO:(Ql B2 8 10 ((aw - 1) * 256 + 1)).length=l.length:=by rw[Qr,jP]
   have iP:(Ql (Ql B2 8 10 ((aw - 1) * 256 + 1)) 24 22 port).length=l.length:=by rw[Qr,iO]
   have s3:=Xi c.gl B2 false 8 10 ((aw - 1) * 256 + 1) af af af
   have s4:=Xi c.gl (Ql B2 8 10 ((aw - 1) * 256 + 1)) false 24 22 port af af af
   rw[jP]at s3
   rw[iO]at s4
   generalize Ql (Ql B2 8 10 ((aw - 1) * 256 + 1)) 24 22 port=B4 at *
   generalize Ql B2 8 10 ((aw - 1) * 256 + 1)=B3 at *
   obtain ⟨RR,iQ⟩:∃ x,x=(if (w2 B4 22=0)∧((1:Int)=17∨cp (B4.drop 20)=0) then Wh B4 22 65535 else B4):=⟨_,rfl⟩
   rw[← iQ]
   have jy:=Lib.hid iQ
   clear iQ
   (refine Qa (fun g3=>?_) (fun g3=>?_)<;>try exact g3.elim)
   refine Qg ?_
   refine Jv ?_
   have iR:addr % 65536=lo:=iN.symm
   clear iN
   refine zR cE (An @e1 @iR) ?_
   refine Xs (fun k:Nat=>k≤2) (fun k=>⟨[(1,.int .i64 0),(3,.int .i64 port),(10,.ptr 0 0),(12,.ptr 2 0),(14,.int .i64 22),(15,.int .i64 12),(86,.agg [.int .i64 hi,.int .i64 lo]),(87,.int .i64 (kI k))],[(0,.cells [.int .i64 1,.int .i64 aA,.int .i64 ah,.int .i64 dst,.int .i64 aj,.int .i64 aw,.int .i64 id,.int .i64 flags,.int .i64 seq,.int .i64 aL,.int .i64 win,.str body]),(1,.cells (Xq (ui k l B1 B2))),(2,.cells [.sl 1 1 0 l.length l.length,.bool false])],3⟩) (fun k=>2 - k) xx.mixed hN
    ⟨0,by omega,[(1,3),(2,4)],by exact Qu (An @Wn @kD)⟩ fun k hk=>?_
   obtain rfl|rfl|rfl:k=0∨k=1∨k=2:=by omega
   ·refine Zu (An @Wn @kD) ?_
    (refine Qa (fun q1=>?_) (fun q1=>?_)<;>try exact q1.elim)
    refine Zu (An @Wn @kD) ?_
    refine oF (gI c.gl l 12) ?_
    ((first|refine Qx (ins:=[2,1]) (Xi c.gl l false 12 10 hi (by omega) (by omega) (by omega)) ?_ ?_|refine Qt (ins:=[2,1]) (Xi c.gl l false 12 10 hi (by omega) (by omega) (by omega)) ?_ ?_|refine Qs (ins:=[2,1]) (Xi c.gl l false 12 10 hi (by omega) (by omega) (by omega)) ?_ ?_|refine Qq (ins:=[2,1]) (Xi c.gl l false 12 10 hi (by omega) (by omega) (by omega)) ?_ ?_)<;>(have au:=@dS;refine XM ?_;clear au;(try first|exact rfl|exact True.intro);((try (repeat' with_reducible refine And.intro ?_ ?_));(try any_goals (first|refine zm ?_|exact CL|fail)))))
    ·rfl
    (refine Qa (fun q2=>?_) (fun q2=>?_)<;>try exact q2.elim)
    refine Ut ?_
    refine ⟨1,by omega,⟨[],?_⟩,by omega⟩
    exact kA (An @Wo (An @kE @gj))
   ·refine Zu (An @Wo @kE) ?_
    (refine Qa (fun q1=>?_) (fun q1=>?_)<;>try exact q1.elim)
    refine Zu (An @Wo @kE) ?_
    refine oF (gI c.gl B1 14) ?_
    ((first|refine Qx (ins:=[2,1]) (Xi c.gl B1 false 14 10 lo (by omega) (by omega) (by omega)) ?_ ?_|refine Qt (ins:=[2,1]) (Xi c.gl B1 false 14 10 lo (by omega) (by omega) (by omega)) ?_ ?_|refine Qs (ins:=[2,1]) (Xi c.gl B1 false 14 10 lo (by omega) (by omega) (by omega)) ?_ ?_|refine Qq (ins:=[2,1]) (Xi c.gl B1 false 14 10 lo (by omega) (by omega) (by omega)) ?_ ?_)<;>(have au:=@dS;refine XM ?_;clear au;(try first|exact rfl|exact True.intro);((try (repeat' with_reducible refine And.intro ?_ ?_));(try any_goals (first|refine zm ?_|exact CL|fail)))))
    ·rfl
    (refine Qa (fun q2=>?_) (fun q2=>?_)<;>try exact q2.elim)
    refine Ut ?_
    refine ⟨2,by omega,⟨[],?_⟩,by omega⟩
    exact kA (An @Wl (An @kF @fP))
   refine Zu (An @Wl @kF) ?_
   (refine Qa (fun q1=>?_) (fun q1=>?_)<;>try exact q1.elim)
   refine Zu (An @Wl (An @kF (An @pK @e3))) ?_
   ((first|refine Qx (ins:=[2,1]) s3 ?_ ?_|refine Qt (ins:=[2,1]) s3 ?_ ?_|refine Qs (ins:=[2,1]) s3 ?_ ?_|refine Qq (ins:=[2,1]) s3 ?_ ?_)<;>(have au:=@pK;have aH:=@e3;have aV:=@iO;refine XM ?_;clear au aH aV;(try first|exact rfl|exact True.intro);((try (repeat' with_reducible refine And.intro ?_ ?_));(try any_goals (first|refine zm ?_|exact CL|fail)))))
   ·rfl
   (refine Qa (fun q2=>?_) (fun q2=>?_)<;>try exact q2.elim)
   refine Ut ?_
   have hz:=Au B4 22 af
   have um:=sJ c.gl (B4.drop 20) (by rw[List.length_drop];omega)
   by_cases z:w2 B4 22=0
   ·have lq:(b1 B4 22 == 0)=true:=by simp[(hz.1 z).1]
    have lz:(b1 B4 23 == 0)=true:=by simp[(hz.1 z).2]
    ((first|refine Qx (ins:=[2,1]) s4 ?_ ?_|refine Qt (ins:=[2,1]) s4 ?_ ?_|refine Qs (ins:=[2,1]) s4 ?_ ?_|refine Qq (ins:=[2,1]) s4 ?_ ?_)<;>(have au:=@iP;have aH:=@Qn;have aV:=@lq;have bD:=@lz;refine XM ?_;clear au aH aV bD;(try first|exact rfl|exact True.intro);((try (repeat' with_reducible refine And.intro ?_ ?_));(try any_goals (first|refine zm ?_|exact CL|fail)))))
    ·rfl
    refine Xf um (An @Qn (An @lq @lz)) ?_
    by_cases zz:cp (B4.drop 20)=0
    ·have bo:(cp (B4.drop 20) == 0)=true:=by simp[zz]
     have cu:RR=(B4.set 22 255).set 23 255:=(jy.out.trans (if_pos ⟨z,.inr zz⟩)).trans (As _ _)
     rw[cu]
     clear cu
     (refine Qa (fun q3=>?_) (fun q3=>?_)<;>try exact q3.elim)
     ·exact kA (An @Ar @iP)
     ·omega
    ·have cu:RR=B4:=jy.out.trans (if_neg fun h=>h.2.elim af zz)
     rw[cu]
     clear cu
     (refine Qa (fun q3=>?_) (fun q3=>?_)<;>try exact q3.elim)
     ·omega
     ·exact Qw
   ·have bz:(b1 B4 22 == 0 && b1 B4 23 == 0)=false:=by
     have hn:¬ (b1 B4 22=0∧b1 B4 23=0):=fun h=>z (hz.2 h)
     rw[Bool.and_eq_false_iff,beq_eq_false_iff_ne,beq_eq_false_iff_ne];omega
    have cu:RR=B4:=jy.out.trans (if_neg fun h=>z h.1)
    rw[cu]
    clear cu
    ((first|refine Qx (ins:=[2,1]) s4 ?_ ?_|refine Qt (ins:=[2,1]) s4 ?_ ?_|refine Qs (ins:=[2,1]) s4 ?_ ?_|refine Qq (ins:=[2,1]) s4 ?_ ?_)<;>(have au:=@iP;have aH:=@Qn;have aV:=@bz;refine XM ?_;clear au aH aV;(try first|exact rfl|exact True.intro);((try (repeat' with_reducible refine And.intro ?_ ?_));(try any_goals (first|refine zm ?_|exact CL|fail)))))
    ·rfl
    ((first|apply Ym|apply Yb)<;>(have au:=@Qn;have aH:=@bz;refine XG ?_;clear au aH;first|exact rfl|exact True.intro|((try (repeat' with_reducible refine And.intro ?_ ?_));(try any_goals (first|refine zm ?_|exact CL|fail)))))
    (refine Qa (fun q3=>?_) (fun q3=>?_)<;>try exact q3.elim)
    exact Qu (An @Qn @bz)
  ·have bE:Yl l 1 aw (oJ 1) (oK 1 1) addr port=Yl l 1 aw 16 24 addr port:=rfl
   rw[bE]
   clear bE
   have e1:=Ao addr eI.1
   have e2:=Ap addr eI
   have e3:=Aq (aw - 1) 1 af af
   have t3:Yl l 1 aw 16 24 addr port=(if (w2 (Ql (Ql (tl (Ql (tl (Ql l 16 10 (addr / 65536)) 1 (w2 l 16) (addr / 65536)) 18 10 (addr % 65536)) 1 (w2 (tl (Ql l 16 10 (addr / 65536)) 1 (w2 l 16) (addr / 65536)) 18) (addr % 65536)) 8 10 ((aw - 1) * 256 + 1)) 24 22 port) 22=0)∧((1:Int)=17∨cp ((Ql (Ql (tl (Ql (tl (Ql l 16 10 (addr / 65536)) 1 (w2 l 16) (addr / 65536)) 18 10 (addr % 65536)) 1 (w2 (tl (Ql l 16 10 (addr / 65536)) 1 (w2 l 16) (addr / 65536)) 18) (addr % 65536)) 8 10 ((aw - 1) * 256 + 1)) 24 22 port).drop 20)=0) then Wh (Ql (Ql (tl (Ql (tl (Ql l 16 10 (addr / 65536)) 1 (w2 l 16) (addr / 65536)) 18 10 (addr % 65536)) 1 (w2 (tl (Ql l 16 10 (addr / 65536)) 1 (w2 l 16) (addr / 65536)) 18) (addr % 65536)) 8 10 ((aw - 1) * 256 + 1)) 24 22 port) 22 65535 else Ql (Ql (tl (Ql (tl (Ql l 16 10 (addr / 65536)) 1 (w2 l 16) (addr / 65536)) 18 10 (addr % 65536)) 1 (w2 (tl (Ql l 16 10 (addr / 65536)) 1 (w2 l 16) (addr / 65536)) 18) (addr % 65536)) 8 10 ((aw - 1) * 256 + 1)) 24 22 port):=rfl
   rw[t3]
   clear t3
   obtain ⟨hi,nB⟩:∃ x,x=addr / 65536:=⟨_,rfl⟩
   obtain ⟨lo,iN⟩:∃ x,x=addr % 65536:=⟨_,rfl⟩
   rw[← nB]at e1 ⊢
   rw[← iN]at e2 ⊢
   have qV:0≤hi∧hi≤65535:=by omega
   have qW:0≤lo∧lo≤65535:=by omega
   have E1:tl (Ql l 16 10 hi) 1 (w2 l 16) hi=Ql l 16 10 hi:=rfl
   obtain ⟨B1,gj⟩:∃ x,x=tl (Ql l 16 10 hi) 1 (w2 l 16) hi:=⟨_,rfl⟩
   rw[← gj]
   rw[E1]at gj
   have E2:tl (Ql B1 18 10 lo) 1 (w2 B1 18) lo=Ql B1 18 10 lo:=rfl
   obtain ⟨B2,fP⟩:∃ x,x=tl (Ql B1 18 10 lo) 1 (w2 B1 18) lo:=⟨_,rfl⟩
   rw[← fP]
   rw[E2]at fP
   clear E1 E2
   have dS:B1.length=l.length:=by rw[gj];simp[Qr,Jw]
   have jP:B2.length=l.length:=by rw[fP];simp[Qr,Jw,dS]
   have iO:(Ql B2 8 10 ((aw - 1) * 256 + 1)).length=l.length:=by rw[Qr,jP]
   have iP:(Ql (Ql B2 8 10 ((aw - 1) * 256 + 1)) 24 22 port).length=l.length:=by rw[Qr,iO]
   have s3:=Xi c.gl B2 false 8 10 ((aw - 1) * 256 + 1) af af af
   have s4:=Xi c.gl (Ql B2 8 10 ((aw - 1) * 256 + 1)) false 24 22 port af af af
   rw[jP]at s3
   rw[iO]at s4
   generalize Ql (Ql B2 8 10 ((aw - 1) * 256 + 1)) 24 22 port=B4 at *
   generalize Ql B2 8 10 ((aw - 1) * 256 + 1)=B3 at *
   obtain ⟨RR,iQ⟩:∃ x,x=(if (w2 B4 22=0)∧((1:Int)=17∨cp (B4.drop 20)=0) then Wh B4 22 65535 else B4):=⟨_,rfl⟩
   rw[← iQ]
   have jy:=Lib.hid iQ
   clear iQ
   (refine Qa (fun g3=>?_) (fun g3=>?_)<;>try exact g3.elim)
   refine Qg ?_
   refine Jv ?_
   have iR:addr % 65536=lo:=iN.symm
   clear iN
   refine zR cE (An @e1 @iR) ?_
   refine Xs (fun k:Nat=>k≤2) (fun k=>⟨[(1,.int .i64 1),(3,.int .i64 port),(10,.ptr 0 0),(12,.ptr 2 0),(14,.int .i64 22),(15,.int .i64 16),(86,.agg [.int .i64 hi,.int .i64 lo]),(87,.int .i64 (kI k))],[(0,.cells [.int .i64 1,.int .i64 aA,.int .i64 ah,.int .i64 dst,.int .i64 aj,.int .i64 aw,.int .i64 id,.int .i64 flags,.int .i64 seq,.int .i64 aL,.int .i64 win,.str body]),(1,.cells (Xq (ui k l B1 B2))),(2,.cells [.sl 1 1 0 l.length l.length,.bool false])],3⟩) (fun k=>2 - k) xx.mixed hN
    ⟨0,by omega,[(1,3),(2,4)],by exact Qu (An @Wn @kD)⟩ fun k hk=>?_
   obtain rfl|rfl|rfl:k=0∨k=1∨k=2:=by omega
   ·refine Zu (An @Wn @kD) ?_
    (refine Qa (fun q1=>?_) (fun q1=>?_)<;>try exact q1.elim)
    refine Zu (An @Wn @kD) ?_
    refine oF (gI c.gl l 16) ?_
    ((first|refine Qx (ins:=[2,1]) (Xi c.gl l false 16 10 hi (by omega) (by omega) (by omega)) ?_ ?_|refine Qt (ins:=[2,1]) (Xi c.gl l false 16 10 hi (by omega) (by omega) (by omega)) ?_ ?_|refine Qs (ins:=[2,1]) (Xi c.gl l false 16 10 hi (by omega) (by omega) (by omega)) ?_ ?_|refine Qq (ins:=[2,1]) (Xi c.gl l false 16 10 hi (by omega) (by omega) (by omega)) ?_ ?_)<;>(have au:=@dS;refine XM ?_;clear au;(try first|exact rfl|exact True.intro);((try (repeat' with_reducible refine And.intro ?_ ?_));(try any_goals (first|refine zm ?_|exact CL|fail)))))
    ·rfl
    (refine Qa (fun q2=>?_) (fun q2=>?_)<;>try exact q2.elim)
    refine Ut ?_
    refine ⟨1,by omega,⟨[],?_⟩,by omega⟩
    exact kA (An @Wo (An @kE @gj))
   ·refine Zu (An @Wo @kE) ?_
    (refine Qa (fun q1=>?_) (fun q1=>?_)<;>try exact q1.elim)
    refine Zu (An @Wo @kE) ?_
    refine oF (gI c.gl B1 18) ?_
    ((first|refine Qx (ins:=[2,1]) (Xi c.gl B1 false 18 10 lo (by omega) (by omega) (by omega)) ?_ ?_|refine Qt (ins:=[2,1]) (Xi c.gl B1 false 18 10 lo (by omega) (by omega) (by omega)) ?_ ?_|refine Qs (ins:=[2,1]) (Xi c.gl B1 false 18 10 lo (by omega) (by omega) (by omega)) ?_ ?_|refine Qq (ins:=[2,1]) (Xi c.gl B1 false 18 10 lo (by omega) (by omega) (by omega)) ?_ ?_)<;>(have au:=@dS;refine XM ?_;clear au;(try first|exact rfl|exact True.intro);((try (repeat' with_reducible refine And.intro ?_ ?_));(try any_goals (first|refine zm ?_|exact CL|fail)))))
    ·rfl
    (refine Qa (fun q2=>?_) (fun q2=>?_)<;>try exact q2.elim)
    refine Ut ?_
    refine ⟨2,by omega,⟨[],?_⟩,by omega⟩
    exact kA (An @Wl (An @kF @fP))
   refine Zu (An @Wl @kF) ?_
   (refine Qa (fun q1=>?_) (fun q1=>?_)<;>try exact q1.elim)
   refine Zu (An @Wl (An @kF (An @pK @e3))) ?_
   ((first|refine Qx (ins:=[2,1]) s3 ?_ ?_|refine Qt (ins:=[2,1]) s3 ?_ ?_|refine Qs (ins:=[2,1]) s3 ?_ ?_|refine Qq (ins:=[2,1]) s3 ?_ ?_)<;>(have au:=@pK;have aH:=@e3;have aV:=@iO;refine XM ?_;clear au aH aV;(try first|exact rfl|exact True.intro);((try (repeat' with_reducible refine And.intro ?_ ?_));(try any_goals (first|refine zm ?_|exact CL|fail)))))
   ·rfl
   (refine Qa (fun q2=>?_) (fun q2=>?_)<;>try exact q2.elim)
   refine Ut ?_
   have hz:=Au B4 22 af
   have um:=sJ c.gl (B4.drop 20) (by rw[List.length_drop];omega)
   by_cases z:w2 B4 22=0
   ·have lq:(b1 B4 22 == 0)=true:=by simp[(hz.1 z).1]
    have lz:(b1 B4 23 == 0)=true:=by simp[(hz.1 z).2]
    ((first|refine Qx (ins:=[2,1]) s4 ?_ ?_|refine Qt (ins:=[2,1]) s4 ?_ ?_|refine Qs (ins:=[2,1]) s4 ?_ ?_|refine Qq (ins:=[2,1]) s4 ?_ ?_)<;>(have au:=@iP;have aH:=@Qn;have aV:=@lq;have bD:=@lz;refine XM ?_;clear au aH aV bD;(try first|exact rfl|exact True.intro);((try (repeat' with_reducible refine And.intro ?_ ?_));(try any_goals (first|refine zm ?_|exact CL|fail)))))
    ·rfl
    refine Xf um (An @Qn (An @lq @lz)) ?_
    by_cases zz:cp (B4.drop 20)=0
    ·have bo:(cp (B4.drop 20) == 0)=true:=by simp[zz]
     have cu:RR=(B4.set 22 255).set 23 255:=(jy.out.trans (if_pos ⟨z,.inr zz⟩)).trans (As _ _)
     rw[cu]
     clear cu
     (refine Qa (fun q3=>?_) (fun q3=>?_)<;>try exact q3.elim)
     ·exact kA (An @Ar @iP)
     ·omega
    ·have cu:RR=B4:=jy.out.trans (if_neg fun h=>h.2.elim af zz)
     rw[cu]
     clear cu
     (refine Qa (fun q3=>?_) (fun q3=>?_)<;>try exact q3.elim)
     ·omega
     ·exact Qw
   ·have bz:(b1 B4 22 == 0 && b1 B4 23 == 0)=false:=by
     have hn:¬ (b1 B4 22=0∧b1 B4 23=0):=fun h=>z (hz.2 h)
     rw[Bool.and_eq_false_iff,beq_eq_false_iff_ne,beq_eq_false_iff_ne];omega
    have cu:RR=B4:=jy.out.trans (if_neg fun h=>z h.1)
    rw[cu]
    clear cu
    ((first|refine Qx (ins:=[2,1]) s4 ?_ ?_|refine Qt (ins:=[2,1]) s4 ?_ ?_|refine Qs (ins:=[2,1]) s4 ?_ ?_|refine Qq (ins:=[2,1]) s4 ?_ ?_)<;>(have au:=@iP;have aH:=@Qn;have aV:=@bz;refine XM ?_;clear au aH aV;(try first|exact rfl|exact True.intro);((try (repeat' with_reducible refine And.intro ?_ ?_));(try any_goals (first|refine zm ?_|exact CL|fail)))))
    ·rfl
    ((first|apply Ym|apply Yb)<;>(have au:=@Qn;have aH:=@bz;refine XG ?_;clear au aH;first|exact rfl|exact True.intro|((try (repeat' with_reducible refine And.intro ?_ ?_));(try any_goals (first|refine zm ?_|exact CL|fail)))))
    (refine Qa (fun q3=>?_) (fun q3=>?_)<;>try exact q3.elim)
    exact Qu (An @Qn @bz)
 ·rw[h9]
  have cE:=Gc c.gl 6
  have hz:nA 6=.aU [.int .i64 20,.int .i64 16]:=rfl
  rw[hz]at cE
  clear hz
  have Ly:40≤l.length:=by exact uk.out af
  rw[HG.out (Aw.out aY fC (fun h=>by omega)),h9]
  refine Qg ?_
  clear HB Av uj Gj Aw HG uk
  obtain rfl|rfl:side=0∨side=1:=by omega
  ·have bE:Yl l 6 aw (oJ 0) (oK 6 0) addr port=Yl l 6 aw 12 20 addr port:=rfl
   rw[bE]
   clear bE
   have e1:=Ao addr eI.1
   have e2:=Ap addr eI
   have e3:=Aq (aw - 1) 6 af af
   have t3:Yl l 6 aw 12 20 addr port=(if (w2 (Ql (Ql (tl (Ql (tl (Ql l 12 10 (addr / 65536)) 6 (w2 l 12) (addr / 65536)) 14 10 (addr % 65536)) 6 (w2 (tl (Ql l 12 10 (addr / 65536)) 6 (w2 l 12) (addr / 65536)) 14) (addr % 65536)) 8 10 ((aw - 1) * 256 + 6)) 20 36 port) 36=0)∧((6:Int)=17∨cp ((Ql (Ql (tl (Ql (tl (Ql l 12 10 (addr / 65536)) 6 (w2 l 12) (addr / 65536)) 14 10 (addr % 65536)) 6 (w2 (tl (Ql l 12 10 (addr / 65536)) 6 (w2 l 12) (addr / 65536)) 14) (addr % 65536)) 8 10 ((aw - 1) * 256 + 6)) 20 36 port).drop 20)=0) then Wh (Ql (Ql (tl (Ql (tl (Ql l 12 10 (addr / 65536)) 6 (w2 l 12) (addr / 65536)) 14 10 (addr % 65536)) 6 (w2 (tl (Ql l 12 10 (addr / 65536)) 6 (w2 l 12) (addr / 65536)) 14) (addr % 65536)) 8 10 ((aw - 1) * 256 + 6)) 20 36 port) 36 65535 else Ql (Ql (tl (Ql (tl (Ql l 12 10 (addr / 65536)) 6 (w2 l 12) (addr / 65536)) 14 10 (addr % 65536)) 6 (w2 (tl (Ql l 12 10 (addr / 65536)) 6 (w2 l 12) (addr / 65536)) 14) (addr % 65536)) 8 10 ((aw - 1) * 256 + 6)) 20 36 port):=rfl
   rw[t3]
   clear t3
   obtain ⟨hi,nB⟩:∃ x,x=addr / 65536:=⟨_,rfl⟩
   obtain ⟨lo,iN⟩:∃ x,x=addr % 65536:=⟨_,rfl⟩
   rw[← nB]at e1 ⊢
   rw[← iN]at e2 ⊢
   have qV:0≤hi∧hi≤65535:=by omega
   have qW:0≤lo∧lo≤65535:=by omega
   have E1:tl (Ql l 12 10 hi) 6 (w2 l 12) hi=Kk (Ql l 12 10 hi) 36 (w2 l 12) hi:=rfl
   obtain ⟨B1,gj⟩:∃ x,x=tl (Ql l 12 10 hi) 6 (w2 l 12) hi:=⟨_,rfl⟩
   rw[← gj]
   rw[E1]at gj
   have E2:tl (Ql B1 14 10 lo) 6 (w2 B1 14) lo=Kk (Ql B1 14 10 lo) 36 (w2 B1 14) lo:=rfl
   obtain ⟨B2,fP⟩:∃ x,x=tl (Ql B1 14 10 lo) 6 (w2 B1 14) lo:=⟨_,rfl⟩
   rw[← fP]
   rw[E2]at fP
   clear E1 E2
   have dS:B1.length=l.length:=by rw[gj];simp[Qr,Jw]
   have jP:B2.length=l.length:=by rw[fP];simp[Qr,Jw,dS]
   have iO:(Ql B2 8 10 ((aw - 1) * 256 + 6)).length=l.length:=by rw[Qr,jP]
   have iP:(Ql (Ql B2 8 10 ((aw - 1) * 256 + 6)) 20 36 port).length=l.length:=by rw[Qr,iO]
   have s3:=Xi c.gl B2 false 8 10 ((aw - 1) * 256 + 6) af af af
   have s4:=Xi c.gl (Ql B2 8 10 ((aw - 1) * 256 + 6)) false 20 36 port af af af
   rw[jP]at s3
   rw[iO]at s4
   generalize Ql (Ql B2 8 10 ((aw - 1) * 256 + 6)) 20 36 port=B4 at *
   generalize Ql B2 8 10 ((aw - 1) * 256 + 6)=B3 at *
   obtain ⟨RR,iQ⟩:∃ x,x=(if (w2 B4 36=0)∧((6:Int)=17∨cp (B4.drop 20)=0) then Wh B4 36 65535 else B4):=⟨_,rfl⟩
   rw[← iQ]
   have jy:=Lib.hid iQ
   clear iQ
   (refine Qa (fun g3=>?_) (fun g3=>?_)<;>try exact g3.elim)
   refine Qg ?_
   refine Jv ?_
   have iR:addr % 65536=lo:=iN.symm
   clear iN
   refine zR cE (An @e1 @iR) ?_
   refine Xs (fun k:Nat=>k≤2) (fun k=>⟨[(1,.int .i64 0),(3,.int .i64 port),(10,.ptr 0 0),(12,.ptr 2 0),(14,.int .i64 36),(15,.int .i64 12),(86,.agg [.int .i64 hi,.int .i64 lo]),(87,.int .i64 (kI k))],[(0,.cells [.int .i64 6,.int .i64 aA,.int .i64 ah,.int .i64 dst,.int .i64 aj,.int .i64 aw,.int .i64 id,.int .i64 flags,.int .i64 seq,.int .i64 aL,.int .i64 win,.str body]),(1,.cells (Xq (ui k l B1 B2))),(2,.cells [.sl 1 1 0 l.length l.length,.bool false])],3⟩) (fun k=>2 - k) xx.mixed hN
    ⟨0,by omega,[(1,3),(2,4)],by exact Qu (An @Wn @kD)⟩ fun k hk=>?_
   obtain rfl|rfl|rfl:k=0∨k=1∨k=2:=by omega
   ·refine Zu (An @Wn @kD) ?_
    (refine Qa (fun q1=>?_) (fun q1=>?_)<;>try exact q1.elim)
    refine Zu (An @Wn @kD) ?_
    refine oF (gI c.gl l 12) ?_
    ((first|refine Qx (ins:=[2,1]) (Xi c.gl l false 12 10 hi (by omega) (by omega) (by omega)) ?_ ?_|refine Qt (ins:=[2,1]) (Xi c.gl l false 12 10 hi (by omega) (by omega) (by omega)) ?_ ?_|refine Qs (ins:=[2,1]) (Xi c.gl l false 12 10 hi (by omega) (by omega) (by omega)) ?_ ?_|refine Qq (ins:=[2,1]) (Xi c.gl l false 12 10 hi (by omega) (by omega) (by omega)) ?_ ?_)<;>(have au:=@dS;refine XM ?_;clear au;(try first|exact rfl|exact True.intro);((try (repeat' with_reducible refine And.intro ?_ ?_));(try any_goals (first|refine zm ?_|exact CL|fail)))))
    ·rfl
    (refine Qa (fun q2=>?_) (fun q2=>?_)<;>try exact q2.elim)
    refine Ut ?_
    ((first|refine Qx (ins:=[2,1]) (Yd c.gl (Ql l 12 10 hi) false 36 (w2 l 12) hi (by rw[Qr];omega) (by rw[Qr];omega)) ?_ ?_|refine Qt (ins:=[2,1]) (Yd c.gl (Ql l 12 10 hi) false 36 (w2 l 12) hi (by rw[Qr];omega) (by rw[Qr];omega)) ?_ ?_|refine Qs (ins:=[2,1]) (Yd c.gl (Ql l 12 10 hi) false 36 (w2 l 12) hi (by rw[Qr];omega) (by rw[Qr];omega)) ?_ ?_|refine Qq (ins:=[2,1]) (Yd c.gl (Ql l 12 10 hi) false 36 (w2 l 12) hi (by rw[Qr];omega) (by rw[Qr];omega)) ?_ ?_)<;>(have au:=@Qr;refine XM ?_;clear au;(try first|exact rfl|exact True.intro);((try (repeat' with_reducible refine And.intro ?_ ?_));(try any_goals (first|refine zm ?_|exact CL|fail)))))
    ·rfl
    refine ⟨1,by omega,⟨[],?_⟩,by omega⟩
    exact kA (An @Wo (An @kE @gj))
   ·refine Zu (An @Wo @kE) ?_
    (refine Qa (fun q1=>?_) (fun q1=>?_)<;>try exact q1.elim)
    refine Zu (An @Wo @kE) ?_
    refine oF (gI c.gl B1 14) ?_
    ((first|refine Qx (ins:=[2,1]) (Xi c.gl B1 false 14 10 lo (by omega) (by omega) (by omega)) ?_ ?_|refine Qt (ins:=[2,1]) (Xi c.gl B1 false 14 10 lo (by omega) (by omega) (by omega)) ?_ ?_|refine Qs (ins:=[2,1]) (Xi c.gl B1 false 14 10 lo (by omega) (by omega) (by omega)) ?_ ?_|refine Qq (ins:=[2,1]) (Xi c.gl B1 false 14 10 lo (by omega) (by omega) (by omega)) ?_ ?_)<;>(have au:=@dS;refine XM ?_;clear au;(try first|exact rfl|exact True.intro);((try (repeat' with_reducible refine And.intro ?_ ?_));(try any_goals (first|refine zm ?_|exact CL|fail)))))
    ·rfl
    (refine Qa (fun q2=>?_) (fun q2=>?_)<;>try exact q2.elim)
    refine Ut ?_
    ((first|refine Qx (ins:=[2,1]) (Yd c.gl (Ql B1 14 10 lo) false 36 (w2 B1 14) lo (by rw[Qr];omega) (by rw[Qr];omega)) ?_ ?_|refine Qt (ins:=[2,1]) (Yd c.gl (Ql B1 14 10 lo) false 36 (w2 B1 14) lo (by rw[Qr];omega) (by rw[Qr];omega)) ?_ ?_|refine Qs (ins:=[2,1]) (Yd c.gl (Ql B1 14 10 lo) false 36 (w2 B1 14) lo (by rw[Qr];omega) (by rw[Qr];omega)) ?_ ?_|refine Qq (ins:=[2,1]) (Yd c.gl (Ql B1 14 10 lo) false 36 (w2 B1 14) lo (by rw[Qr];omega) (by rw[Qr];omega)) ?_ ?_)<;>(have au:=@Qr;have aH:=@dS;refine XM ?_;clear au aH;(try first|exact rfl|exact True.intro);((try (repeat' with_reducible refine And.intro ?_ ?_));(try any_goals (first|refine zm ?_|exact CL|fail)))))
    ·rfl
    refine ⟨2,by omega,⟨[],?_⟩,by omega⟩
    exact kA (An @Wl (An @kF @fP))
   refine Zu (An @Wl @kF) ?_
   (refine Qa (fun q1=>?_) (fun q1=>?_)<;>try exact q1.elim)
   refine Zu (An @Wl (An @kF (An @pK @e3))) ?_
   ((first|refine Qx (ins:=[2,1]) s3 ?_ ?_|refine Qt (ins:=[2,1]) s3 ?_ ?_|refine Qs (ins:=[2,1]) s3 ?_ ?_|refine Qq (ins:=[2,1]) s3 ?_ ?_)<;>(have au:=@pK;have aH:=@e3;have aV:=@iO;refine XM ?_;clear au aH aV;(try first|exact rfl|exact True.intro);((try (repeat' with_reducible refine And.intro ?_ ?_));(try any_goals (first|refine zm ?_|exact CL|fail)))))
   ·rfl
   (refine Qa (fun q2=>?_) (fun q2=>?_)<;>try exact q2.elim)
   refine Ut ?_
   have hz:=Au B4 36 af
   have um:=sJ c.gl (B4.drop 20) (by rw[List.length_drop];omega)
   by_cases z:w2 B4 36=0
   ·have lq:(b1 B4 36 == 0)=true:=by simp[(hz.1 z).1]
    have lz:(b1 B4 37 == 0)=true:=by simp[(hz.1 z).2]
    ((first|refine Qx (ins:=[2,1]) s4 ?_ ?_|refine Qt (ins:=[2,1]) s4 ?_ ?_|refine Qs (ins:=[2,1]) s4 ?_ ?_|refine Qq (ins:=[2,1]) s4 ?_ ?_)<;>(have au:=@iP;have aH:=@Qn;have aV:=@lq;have bD:=@lz;refine XM ?_;clear au aH aV bD;(try first|exact rfl|exact True.intro);((try (repeat' with_reducible refine And.intro ?_ ?_));(try any_goals (first|refine zm ?_|exact CL|fail)))))
    ·rfl
    refine Xf um (An @Qn (An @lq @lz)) ?_
    by_cases zz:cp (B4.drop 20)=0
    ·have bo:(cp (B4.drop 20) == 0)=true:=by simp[zz]
     have cu:RR=(B4.set 36 255).set 37 255:=(jy.out.trans (if_pos ⟨z,.inr zz⟩)).trans (As _ _)
     rw[cu]
     clear cu
     (refine Qa (fun q3=>?_) (fun q3=>?_)<;>try exact q3.elim)
     ·exact kA (An @Ar @iP)
     ·omega
    ·have cu:RR=B4:=jy.out.trans (if_neg fun h=>h.2.elim af zz)
     rw[cu]
     clear cu
     (refine Qa (fun q3=>?_) (fun q3=>?_)<;>try exact q3.elim)
     ·omega
     ·exact Qw
   ·have bz:(b1 B4 36 == 0 && b1 B4 37 == 0)=false:=by
     have hn:¬ (b1 B4 36=0∧b1 B4 37=0):=fun h=>z (hz.2 h)
     rw[Bool.and_eq_false_iff,beq_eq_false_iff_ne,beq_eq_false_iff_ne];omega
    have cu:RR=B4:=jy.out.trans (if_neg fun h=>z h.1)
    rw[cu]
    clear cu
    ((first|refine Qx (ins:=[2,1]) s4 ?_ ?_|refine Qt (ins:=[2,1]) s4 ?_ ?_|refine Qs (ins:=[2,1]) s4 ?_ ?_|refine Qq (ins:=[2,1]) s4 ?_ ?_)<;>(have au:=@iP;have aH:=@Qn;have aV:=@bz;refine XM ?_;clear au aH aV;(try first|exact rfl|exact True.intro);((try (repeat' with_reducible refine And.intro ?_ ?_));(try any_goals (first|refine zm ?_|exact CL|fail)))))
    ·rfl
    ((first|apply Ym|apply Yb)<;>(have au:=@Qn;have aH:=@bz;refine XG ?_;clear au aH;first|exact rfl|exact True.intro|((try (repeat' with_reducible refine And.intro ?_ ?_));(try any_goals (first|refine zm ?_|exact CL|fail)))))
    (refine Qa (fun q3=>?_) (fun q3=>?_)<;>try exact q3.elim)
    exact Qu (An @Qn @bz)
  ·have bE:Yl l 6 aw (oJ 1) (oK 6 1) addr port=Yl l 6 aw 16 22 addr port:=rfl
   rw[bE]
   clear bE
   have e1:=Ao addr eI.1
   have e2:=Ap addr eI
   have e3:=Aq (aw - 1) 6 af af
   have t3:Yl l 6 aw 16 22 addr port=(if (w2 (Ql (Ql (tl (Ql (tl (Ql l 16 10 (addr / 65536)) 6 (w2 l 16) (addr / 65536)) 18 10 (addr % 65536)) 6 (w2 (tl (Ql l 16 10 (addr / 65536)) 6 (w2 l 16) (addr / 65536)) 18) (addr % 65536)) 8 10 ((aw - 1) * 256 + 6)) 22 36 port) 36=0)∧((6:Int)=17∨cp ((Ql (Ql (tl (Ql (tl (Ql l 16 10 (addr / 65536)) 6 (w2 l 16) (addr / 65536)) 18 10 (addr % 65536)) 6 (w2 (tl (Ql l 16 10 (addr / 65536)) 6 (w2 l 16) (addr / 65536)) 18) (addr % 65536)) 8 10 ((aw - 1) * 256 + 6)) 22 36 port).drop 20)=0) then Wh (Ql (Ql (tl (Ql (tl (Ql l 16 10 (addr / 65536)) 6 (w2 l 16) (addr / 65536)) 18 10 (addr % 65536)) 6 (w2 (tl (Ql l 16 10 (addr / 65536)) 6 (w2 l 16) (addr / 65536)) 18) (addr % 65536)) 8 10 ((aw - 1) * 256 + 6)) 22 36 port) 36 65535 else Ql (Ql (tl (Ql (tl (Ql l 16 10 (addr / 65536)) 6 (w2 l 16) (addr / 65536)) 18 10 (addr % 65536)) 6 (w2 (tl (Ql l 16 10 (addr / 65536)) 6 (w2 l 16) (addr / 65536)) 18) (addr % 65536)) 8 10 ((aw - 1) * 256 + 6)) 22 36 port):=rfl
   rw[t3]
   clear t3
   obtain ⟨hi,nB⟩:∃ x,x=addr / 65536:=⟨_,rfl⟩
   obtain ⟨lo,iN⟩:∃ x,x=addr % 65536:=⟨_,rfl⟩
   rw[← nB]at e1 ⊢
   rw[← iN]at e2 ⊢
   have qV:0≤hi∧hi≤65535:=by omega
   have qW:0≤lo∧lo≤65535:=by omega
   have E1:tl (Ql l 16 10 hi) 6 (w2 l 16) hi=Kk (Ql l 16 10 hi) 36 (w2 l 16) hi:=rfl
   obtain ⟨B1,gj⟩:∃ x,x=tl (Ql l 16 10 hi) 6 (w2 l 16) hi:=⟨_,rfl⟩
   rw[← gj]
   rw[E1]at gj
   have E2:tl (Ql B1 18 10 lo) 6 (w2 B1 18) lo=Kk (Ql B1 18 10 lo) 36 (w2 B1 18) lo:=rfl
   obtain ⟨B2,fP⟩:∃ x,x=tl (Ql B1 18 10 lo) 6 (w2 B1 18) lo:=⟨_,rfl⟩
   rw[← fP]
   rw[E2]at fP
   clear E1 E2
   have dS:B1.length=l.length:=by rw[gj];simp[Qr,Jw]
   have jP:B2.length=l.length:=by rw[fP];simp[Qr,Jw,dS]
   have iO:(Ql B2 8 10 ((aw - 1) * 256 + 6)).length=l.length:=by rw[Qr,jP]
   have iP:(Ql (Ql B2 8 10 ((aw - 1) * 256 + 6)) 22 36 port).length=l.length:=by rw[Qr,iO]
   have s3:=Xi c.gl B2 false 8 10 ((aw - 1) * 256 + 6) af af af
   have s4:=Xi c.gl (Ql B2 8 10 ((aw - 1) * 256 + 6)) false 22 36 port af af af
   rw[jP]at s3
   rw[iO]at s4
   generalize Ql (Ql B2 8 10 ((aw - 1) * 256 + 6)) 22 36 port=B4 at *
   generalize Ql B2 8 10 ((aw - 1) * 256 + 6)=B3 at *
   obtain ⟨RR,iQ⟩:∃ x,x=(if (w2 B4 36=0)∧((6:Int)=17∨cp (B4.drop 20)=0) then Wh B4 36 65535 else B4):=⟨_,rfl⟩
   rw[← iQ]
   have jy:=Lib.hid iQ
   clear iQ
   (refine Qa (fun g3=>?_) (fun g3=>?_)<;>try exact g3.elim)
   refine Qg ?_
   refine Jv ?_
   have iR:addr % 65536=lo:=iN.symm
   clear iN
   refine zR cE (An @e1 @iR) ?_
   refine Xs (fun k:Nat=>k≤2) (fun k=>⟨[(1,.int .i64 1),(3,.int .i64 port),(10,.ptr 0 0),(12,.ptr 2 0),(14,.int .i64 36),(15,.int .i64 16),(86,.agg [.int .i64 hi,.int .i64 lo]),(87,.int .i64 (kI k))],[(0,.cells [.int .i64 6,.int .i64 aA,.int .i64 ah,.int .i64 dst,.int .i64 aj,.int .i64 aw,.int .i64 id,.int .i64 flags,.int .i64 seq,.int .i64 aL,.int .i64 win,.str body]),(1,.cells (Xq (ui k l B1 B2))),(2,.cells [.sl 1 1 0 l.length l.length,.bool false])],3⟩) (fun k=>2 - k) xx.mixed hN
    ⟨0,by omega,[(1,3),(2,4)],by exact Qu (An @Wn @kD)⟩ fun k hk=>?_
   obtain rfl|rfl|rfl:k=0∨k=1∨k=2:=by omega
   ·refine Zu (An @Wn @kD) ?_
    (refine Qa (fun q1=>?_) (fun q1=>?_)<;>try exact q1.elim)
    refine Zu (An @Wn @kD) ?_
    refine oF (gI c.gl l 16) ?_
    ((first|refine Qx (ins:=[2,1]) (Xi c.gl l false 16 10 hi (by omega) (by omega) (by omega)) ?_ ?_|refine Qt (ins:=[2,1]) (Xi c.gl l false 16 10 hi (by omega) (by omega) (by omega)) ?_ ?_|refine Qs (ins:=[2,1]) (Xi c.gl l false 16 10 hi (by omega) (by omega) (by omega)) ?_ ?_|refine Qq (ins:=[2,1]) (Xi c.gl l false 16 10 hi (by omega) (by omega) (by omega)) ?_ ?_)<;>(have au:=@dS;refine XM ?_;clear au;(try first|exact rfl|exact True.intro);((try (repeat' with_reducible refine And.intro ?_ ?_));(try any_goals (first|refine zm ?_|exact CL|fail)))))
    ·rfl
    (refine Qa (fun q2=>?_) (fun q2=>?_)<;>try exact q2.elim)
    refine Ut ?_
    ((first|refine Qx (ins:=[2,1]) (Yd c.gl (Ql l 16 10 hi) false 36 (w2 l 16) hi (by rw[Qr];omega) (by rw[Qr];omega)) ?_ ?_|refine Qt (ins:=[2,1]) (Yd c.gl (Ql l 16 10 hi) false 36 (w2 l 16) hi (by rw[Qr];omega) (by rw[Qr];omega)) ?_ ?_|refine Qs (ins:=[2,1]) (Yd c.gl (Ql l 16 10 hi) false 36 (w2 l 16) hi (by rw[Qr];omega) (by rw[Qr];omega)) ?_ ?_|refine Qq (ins:=[2,1]) (Yd c.gl (Ql l 16 10 hi) false 36 (w2 l 16) hi (by rw[Qr];omega) (by rw[Qr];omega)) ?_ ?_)<;>(have au:=@Qr;refine XM ?_;clear au;(try first|exact rfl|exact True.intro);((try (repeat' with_reducible refine And.intro ?_ ?_));(try any_goals (first|refine zm ?_|exact CL|fail)))))
    ·rfl
    refine ⟨1,by omega,⟨[],?_⟩,by omega⟩
    exact kA (An @Wo (An @kE @gj))
   ·refine Zu (An @Wo @kE) ?_
    (refine Qa (fun q1=>?_) (fun q1=>?_)<;>try exact q1.elim)
    refine Zu (An @Wo @kE) ?_
    refine oF (gI c.gl B1 18) ?_
    ((first|refine Qx (ins:=[2,1]) (Xi c.gl B1 false 18 10 lo (by omega) (by omega) (by omega)) ?_ ?_|refine Qt (ins:=[2,1]) (Xi c.gl B1 false 18 10 lo (by omega) (by omega) (by omega)) ?_ ?_|refine Qs (ins:=[2,1]) (Xi c.gl B1 false 18 10 lo (by omega) (by omega) (by omega)) ?_ ?_|refine Qq (ins:=[2,1]) (Xi c.gl B1 false 18 10 lo (by omega) (by omega) (by omega)) ?_ ?_)<;>(have au:=@dS;refine XM ?_;clear au;(try first|exact rfl|exact True.intro);((try (repeat' with_reducible refine And.intro ?_ ?_));(try any_goals (first|refine zm ?_|exact CL|fail)))))
    ·rfl
    (refine Qa (fun q2=>?_) (fun q2=>?_)<;>try exact q2.elim)
    refine Ut ?_
    ((first|refine Qx (ins:=[2,1]) (Yd c.gl (Ql B1 18 10 lo) false 36 (w2 B1 18) lo (by rw[Qr];omega) (by rw[Qr];omega)) ?_ ?_|refine Qt (ins:=[2,1]) (Yd c.gl (Ql B1 18 10 lo) false 36 (w2 B1 18) lo (by rw[Qr];omega) (by rw[Qr];omega)) ?_ ?_|refine Qs (ins:=[2,1]) (Yd c.gl (Ql B1 18 10 lo) false 36 (w2 B1 18) lo (by rw[Qr];omega) (by rw[Qr];omega)) ?_ ?_|refine Qq (ins:=[2,1]) (Yd c.gl (Ql B1 18 10 lo) false 36 (w2 B1 18) lo (by rw[Qr];omega) (by rw[Qr];omega)) ?_ ?_)<;>(have au:=@Qr;have aH:=@dS;refine XM ?_;clear au aH;(try first|exact rfl|exact True.intro);((try (repeat' with_reducible refine And.intro ?_ ?_));(try any_goals (first|refine zm ?_|exact CL|fail)))))
    ·rfl
    refine ⟨2,by omega,⟨[],?_⟩,by omega⟩
    exact kA (An @Wl (An @kF @fP))
   refine Zu (An @Wl @kF) ?_
   (refine Qa (fun q1=>?_) (fun q1=>?_)<;>try exact q1.elim)
   refine Zu (An @Wl (An @kF (An @pK @e3))) ?_
   ((first|refine Qx (ins:=[2,1]) s3 ?_ ?_|refine Qt (ins:=[2,1]) s3 ?_ ?_|refine Qs (ins:=[2,1]) s3 ?_ ?_|refine Qq (ins:=[2,1]) s3 ?_ ?_)<;>(have au:=@pK;have aH:=@e3;have aV:=@iO;refine XM ?_;clear au aH aV;(try first|exact rfl|exact True.intro);((try (repeat' with_reducible refine And.intro ?_ ?_));(try any_goals (first|refine zm ?_|exact CL|fail)))))
   ·rfl
   (refine Qa (fun q2=>?_) (fun q2=>?_)<;>try exact q2.elim)
   refine Ut ?_
   have hz:=Au B4 36 af
   have um:=sJ c.gl (B4.drop 20) (by rw[List.length_drop];omega)
   by_cases z:w2 B4 36=0
   ·have lq:(b1 B4 36 == 0)=true:=by simp[(hz.1 z).1]
    have lz:(b1 B4 37 == 0)=true:=by simp[(hz.1 z).2]
    ((first|refine Qx (ins:=[2,1]) s4 ?_ ?_|refine Qt (ins:=[2,1]) s4 ?_ ?_|refine Qs (ins:=[2,1]) s4 ?_ ?_|refine Qq (ins:=[2,1]) s4 ?_ ?_)<;>(have au:=@iP;have aH:=@Qn;have aV:=@lq;have bD:=@lz;refine XM ?_;clear au aH aV bD;(try first|exact rfl|exact True.intro);((try (repeat' with_reducible refine And.intro ?_ ?_));(try any_goals (first|refine zm ?_|exact CL|fail)))))
    ·rfl
    refine Xf um (An @Qn (An @lq @lz)) ?_
    by_cases zz:cp (B4.drop 20)=0
    ·have bo:(cp (B4.drop 20) == 0)=true:=by simp[zz]
     have cu:RR=(B4.set 36 255).set 37 255:=(jy.out.trans (if_pos ⟨z,.inr zz⟩)).trans (As _ _)
     rw[cu]
     clear cu
     (refine Qa (fun q3=>?_) (fun q3=>?_)<;>try exact q3.elim)
     ·exact kA (An @Ar @iP)
     ·omega
    ·have cu:RR=B4:=jy.out.trans (if_neg fun h=>h.2.elim af zz)
     rw[cu]
     clear cu
     (refine Qa (fun q3=>?_) (fun q3=>?_)<;>try exact q3.elim)
     ·omega
     ·exact Qw
   ·have bz:(b1 B4 36 == 0 && b1 B4 37 == 0)=false:=by
     have hn:¬ (b1 B4 36=0∧b1 B4 37=0):=fun h=>z (hz.2 h)
     rw[Bool.and_eq_false_iff,beq_eq_false_iff_ne,beq_eq_false_iff_ne];omega
    have cu:RR=B4:=jy.out.trans (if_neg fun h=>z h.1)
    rw[cu]
    clear cu
    ((first|refine Qx (ins:=[2,1]) s4 ?_ ?_|refine Qt (ins:=[2,1]) s4 ?_ ?_|refine Qs (ins:=[2,1]) s4 ?_ ?_|refine Qq (ins:=[2,1]) s4 ?_ ?_)<;>(have au:=@iP;have aH:=@Qn;have aV:=@bz;refine XM ?_;clear au aH aV;(try first|exact rfl|exact True.intro);((try (repeat' with_reducible refine And.intro ?_ ?_));(try any_goals (first|refine zm ?_|exact CL|fail)))))
    ·rfl
    ((first|apply Ym|apply Yb)<;>(have au:=@Qn;have aH:=@bz;refine XG ?_;clear au aH;first|exact rfl|exact True.intro|((try (repeat' with_reducible refine And.intro ?_ ?_));(try any_goals (first|refine zm ?_|exact CL|fail)))))
    (refine Qa (fun q3=>?_) (fun q3=>?_)<;>try exact q3.elim)
    exact Qu (An @Qn @bz)
 ·rw[h9]
  have cE:=Gc c.gl 17
  have hz:nA 17=.aU [.int .i64 8,.int .i64 6]:=rfl
  rw[hz]at cE
  clear hz
  have Ly:28≤l.length:=by omega
  rw[HG.out (Aw.out aY fC (fun h=>by omega)),h9]
  refine Qg ?_
  clear HB Av uj Gj Aw HG uk
  obtain rfl|rfl:side=0∨side=1:=by omega
  ·have bE:Yl l 17 aw (oJ 0) (oK 17 0) addr port=Yl l 17 aw 12 20 addr port:=rfl
   rw[bE]
   clear bE
   have e1:=Ao addr eI.1
   have e2:=Ap addr eI
   have e3:=Aq (aw - 1) 17 af af
   have t3:Yl l 17 aw 12 20 addr port=(if (w2 (Ql (Ql (tl (Ql (tl (Ql l 12 10 (addr / 65536)) 17 (w2 l 12) (addr / 65536)) 14 10 (addr % 65536)) 17 (w2 (tl (Ql l 12 10 (addr / 65536)) 17 (w2 l 12) (addr / 65536)) 14) (addr % 65536)) 8 10 ((aw - 1) * 256 + 17)) 20 26 port) 26=0)∧((17:Int)=17∨cp ((Ql (Ql (tl (Ql (tl (Ql l 12 10 (addr / 65536)) 17 (w2 l 12) (addr / 65536)) 14 10 (addr % 65536)) 17 (w2 (tl (Ql l 12 10 (addr / 65536)) 17 (w2 l 12) (addr / 65536)) 14) (addr % 65536)) 8 10 ((aw - 1) * 256 + 17)) 20 26 port).drop 20)=0) then Wh (Ql (Ql (tl (Ql (tl (Ql l 12 10 (addr / 65536)) 17 (w2 l 12) (addr / 65536)) 14 10 (addr % 65536)) 17 (w2 (tl (Ql l 12 10 (addr / 65536)) 17 (w2 l 12) (addr / 65536)) 14) (addr % 65536)) 8 10 ((aw - 1) * 256 + 17)) 20 26 port) 26 65535 else Ql (Ql (tl (Ql (tl (Ql l 12 10 (addr / 65536)) 17 (w2 l 12) (addr / 65536)) 14 10 (addr % 65536)) 17 (w2 (tl (Ql l 12 10 (addr / 65536)) 17 (w2 l 12) (addr / 65536)) 14) (addr % 65536)) 8 10 ((aw - 1) * 256 + 17)) 20 26 port):=rfl
   rw[t3]
   clear t3
   obtain ⟨hi,nB⟩:∃ x,x=addr / 65536:=⟨_,rfl⟩
   obtain ⟨lo,iN⟩:∃ x,x=addr % 65536:=⟨_,rfl⟩
   rw[← nB]at e1 ⊢
   rw[← iN]at e2 ⊢
   have qV:0≤hi∧hi≤65535:=by omega
   have qW:0≤lo∧lo≤65535:=by omega
   have E1:tl (Ql l 12 10 hi) 17 (w2 l 12) hi=Kk (Ql l 12 10 hi) 26 (w2 l 12) hi:=rfl
   obtain ⟨B1,gj⟩:∃ x,x=tl (Ql l 12 10 hi) 17 (w2 l 12) hi:=⟨_,rfl⟩
   rw[← gj]
   rw[E1]at gj
   have E2:tl (Ql B1 14 10 lo) 17 (w2 B1 14) lo=Kk (Ql B1 14 10 lo) 26 (w2 B1 14) lo:=rfl
   obtain ⟨B2,fP⟩:∃ x,x=tl (Ql B1 14 10 lo) 17 (w2 B1 14) lo:=⟨_,rfl⟩
   rw[← fP]
   rw[E2]at fP
   clear E1 E2
   have dS:B1.length=l.length:=by rw[gj];simp[Qr,Jw]
   have jP:B2.length=l.length:=by rw[fP];simp[Qr,Jw,dS]
   have iO:(Ql B2 8 10 ((aw - 1) * 256 + 17)).length=l.length:=by rw[Qr,jP]
   have iP:(Ql (Ql B2 8 10 ((aw - 1) * 256 + 17)) 20 26 port).length=l.length:=by rw[Qr,iO]
   have s3:=Xi c.gl B2 true 8 10 ((aw - 1) * 256 + 17) af af af
   have s4:=Xi c.gl (Ql B2 8 10 ((aw - 1) * 256 + 17)) true 20 26 port af af af
   rw[jP]at s3
   rw[iO]at s4
   generalize Ql (Ql B2 8 10 ((aw - 1) * 256 + 17)) 20 26 port=B4 at *
   generalize Ql B2 8 10 ((aw - 1) * 256 + 17)=B3 at *
   obtain ⟨RR,iQ⟩:∃ x,x=(if (w2 B4 26=0)∧((17:Int)=17∨cp (B4.drop 20)=0) then Wh B4 26 65535 else B4):=⟨_,rfl⟩
   rw[← iQ]
   have jy:=Lib.hid iQ
   clear iQ
   (refine Qa (fun g3=>?_) (fun g3=>?_)<;>try exact g3.elim)
   refine Qg ?_
   refine Jv ?_
   have iR:addr % 65536=lo:=iN.symm
   clear iN
   refine zR cE (An @e1 @iR) ?_
   refine Xs (fun k:Nat=>k≤2) (fun k=>⟨[(1,.int .i64 0),(3,.int .i64 port),(10,.ptr 0 0),(12,.ptr 2 0),(14,.int .i64 26),(15,.int .i64 12),(86,.agg [.int .i64 hi,.int .i64 lo]),(87,.int .i64 (kI k))],[(0,.cells [.int .i64 17,.int .i64 aA,.int .i64 ah,.int .i64 dst,.int .i64 aj,.int .i64 aw,.int .i64 id,.int .i64 flags,.int .i64 seq,.int .i64 aL,.int .i64 win,.str body]),(1,.cells (Xq (ui k l B1 B2))),(2,.cells [.sl 1 1 0 l.length l.length,.bool true])],3⟩) (fun k=>2 - k) xx.mixed hN
    ⟨0,by omega,[(1,3),(2,4)],by exact Qu (An @Wn @kD)⟩ fun k hk=>?_
   obtain rfl|rfl|rfl:k=0∨k=1∨k=2:=by omega
   ·refine Zu (An @Wn @kD) ?_
    (refine Qa (fun q1=>?_) (fun q1=>?_)<;>try exact q1.elim)
    refine Zu (An @Wn @kD) ?_
    refine oF (gI c.gl l 12) ?_
    ((first|refine Qx (ins:=[2,1]) (Xi c.gl l true 12 10 hi (by omega) (by omega) (by omega)) ?_ ?_|refine Qt (ins:=[2,1]) (Xi c.gl l true 12 10 hi (by omega) (by omega) (by omega)) ?_ ?_|refine Qs (ins:=[2,1]) (Xi c.gl l true 12 10 hi (by omega) (by omega) (by omega)) ?_ ?_|refine Qq (ins:=[2,1]) (Xi c.gl l true 12 10 hi (by omega) (by omega) (by omega)) ?_ ?_)<;>(have au:=@dS;refine XM ?_;clear au;(try first|exact rfl|exact True.intro);((try (repeat' with_reducible refine And.intro ?_ ?_));(try any_goals (first|refine zm ?_|exact CL|fail)))))
    ·rfl
    (refine Qa (fun q2=>?_) (fun q2=>?_)<;>try exact q2.elim)
    refine Ut ?_
    ((first|refine Qx (ins:=[2,1]) (Yd c.gl (Ql l 12 10 hi) true 26 (w2 l 12) hi (by rw[Qr];omega) (by rw[Qr];omega)) ?_ ?_|refine Qt (ins:=[2,1]) (Yd c.gl (Ql l 12 10 hi) true 26 (w2 l 12) hi (by rw[Qr];omega) (by rw[Qr];omega)) ?_ ?_|refine Qs (ins:=[2,1]) (Yd c.gl (Ql l 12 10 hi) true 26 (w2 l 12) hi (by rw[Qr];omega) (by rw[Qr];omega)) ?_ ?_|refine Qq (ins:=[2,1]) (Yd c.gl (Ql l 12 10 hi) true 26 (w2 l 12) hi (by rw[Qr];omega) (by rw[Qr];omega)) ?_ ?_)<;>(have au:=@Qr;refine XM ?_;clear au;(try first|exact rfl|exact True.intro);((try (repeat' with_reducible refine And.intro ?_ ?_));(try any_goals (first|refine zm ?_|exact CL|fail)))))
    ·rfl
    refine ⟨1,by omega,⟨[],?_⟩,by omega⟩
    exact kA (An @Wo (An @kE @gj))
   ·refine Zu (An @Wo @kE) ?_
    (refine Qa (fun q1=>?_) (fun q1=>?_)<;>try exact q1.elim)
    refine Zu (An @Wo @kE) ?_
    refine oF (gI c.gl B1 14) ?_
    ((first|refine Qx (ins:=[2,1]) (Xi c.gl B1 true 14 10 lo (by omega) (by omega) (by omega)) ?_ ?_|refine Qt (ins:=[2,1]) (Xi c.gl B1 true 14 10 lo (by omega) (by omega) (by omega)) ?_ ?_|refine Qs (ins:=[2,1]) (Xi c.gl B1 true 14 10 lo (by omega) (by omega) (by omega)) ?_ ?_|refine Qq (ins:=[2,1]) (Xi c.gl B1 true 14 10 lo (by omega) (by omega) (by omega)) ?_ ?_)<;>(have au:=@dS;refine XM ?_;clear au;(try first|exact rfl|exact True.intro);((try (repeat' with_reducible refine And.intro ?_ ?_));(try any_goals (first|refine zm ?_|exact CL|fail)))))
    ·rfl
    (refine Qa (fun q2=>?_) (fun q2=>?_)<;>try exact q2.elim)
    refine Ut ?_
    ((first|refine Qx (ins:=[2,1]) (Yd c.gl (Ql B1 14 10 lo) true 26 (w2 B1 14) lo (by rw[Qr];omega) (by rw[Qr];omega)) ?_ ?_|refine Qt (ins:=[2,1]) (Yd c.gl (Ql B1 14 10 lo) true 26 (w2 B1 14) lo (by rw[Qr];omega) (by rw[Qr];omega)) ?_ ?_|refine Qs (ins:=[2,1]) (Yd c.gl (Ql B1 14 10 lo) true 26 (w2 B1 14) lo (by rw[Qr];omega) (by rw[Qr];omega)) ?_ ?_|refine Qq (ins:=[2,1]) (Yd c.gl (Ql B1 14 10 lo) true 26 (w2 B1 14) lo (by rw[Qr];omega) (by rw[Qr];omega)) ?_ ?_)<;>(have au:=@Qr;have aH:=@dS;refine XM ?_;clear au aH;(try first|exact rfl|exact True.intro);((try (repeat' with_reducible refine And.intro ?_ ?_));(try any_goals (first|refine zm ?_|exact CL|fail)))))
    ·rfl
    refine ⟨2,by omega,⟨[],?_⟩,by omega⟩
    exact kA (An @Wl (An @kF @fP))
   refine Zu (An @Wl @kF) ?_
   (refine Qa (fun q1=>?_) (fun q1=>?_)<;>try exact q1.elim)
   refine Zu (An @Wl (An @kF (An @pK @e3))) ?_
   ((first|refine Qx (ins:=[2,1]) s3 ?_ ?_|refine Qt (ins:=[2,1]) s3 ?_ ?_|refine Qs (ins:=[2,1]) s3 ?_ ?_|refine Qq (ins:=[2,1]) s3 ?_ ?_)<;>(have au:=@pK;have aH:=@e3;have aV:=@iO;refine XM ?_;clear au aH aV;(try first|exact rfl|exact True.intro);((try (repeat' with_reducible refine And.intro ?_ ?_));(try any_goals (first|refine zm ?_|exact CL|fail)))))
   ·rfl
   (refine Qa (fun q2=>?_) (fun q2=>?_)<;>try exact q2.elim)
   refine Ut ?_
   have hz:=Au B4 26 af
   have um:=sJ c.gl (B4.drop 20) (by rw[List.length_drop];omega)
   by_cases z:w2 B4 26=0
   ·have lq:(b1 B4 26 == 0)=true:=by simp[(hz.1 z).1]
    have lz:(b1 B4 27 == 0)=true:=by simp[(hz.1 z).2]
    ((first|refine Qx (ins:=[2,1]) s4 ?_ ?_|refine Qt (ins:=[2,1]) s4 ?_ ?_|refine Qs (ins:=[2,1]) s4 ?_ ?_|refine Qq (ins:=[2,1]) s4 ?_ ?_)<;>(have au:=@iP;have aH:=@Qn;have aV:=@lq;have bD:=@lz;refine XM ?_;clear au aH aV bD;(try first|exact rfl|exact True.intro);((try (repeat' with_reducible refine And.intro ?_ ?_));(try any_goals (first|refine zm ?_|exact CL|fail)))))
    ·rfl
    have cu:RR=(B4.set 26 255).set 27 255:=(jy.out.trans (if_pos ⟨z,.inl rfl⟩)).trans (As _ _)
    rw[cu]
    clear cu
    ((first|apply Ym|apply Yb)<;>(have au:=@Qn;have aH:=@lq;have aV:=@lz;refine XG ?_;clear au aH aV;first|exact rfl|exact True.intro|((try (repeat' with_reducible refine And.intro ?_ ?_));(try any_goals (first|refine zm ?_|exact CL|fail)))))
    (refine Qa (fun q3=>?_) (fun q3=>?_)<;>try exact q3.elim)
    exact kA (An @Ar @iP)
   ·have bz:(b1 B4 26 == 0 && b1 B4 27 == 0)=false:=by
     have hn:¬ (b1 B4 26=0∧b1 B4 27=0):=fun h=>z (hz.2 h)
     rw[Bool.and_eq_false_iff,beq_eq_false_iff_ne,beq_eq_false_iff_ne];omega
    have cu:RR=B4:=jy.out.trans (if_neg fun h=>z h.1)
    rw[cu]
    clear cu
    ((first|refine Qx (ins:=[2,1]) s4 ?_ ?_|refine Qt (ins:=[2,1]) s4 ?_ ?_|refine Qs (ins:=[2,1]) s4 ?_ ?_|refine Qq (ins:=[2,1]) s4 ?_ ?_)<;>(have au:=@iP;have aH:=@Qn;have aV:=@bz;refine XM ?_;clear au aH aV;(try first|exact rfl|exact True.intro);((try (repeat' with_reducible refine And.intro ?_ ?_));(try any_goals (first|refine zm ?_|exact CL|fail)))))
    ·rfl
    ((first|apply Ym|apply Yb)<;>(have au:=@Qn;have aH:=@bz;refine XG ?_;clear au aH;first|exact rfl|exact True.intro|((try (repeat' with_reducible refine And.intro ?_ ?_));(try any_goals (first|refine zm ?_|exact CL|fail)))))
    (refine Qa (fun q3=>?_) (fun q3=>?_)<;>try exact q3.elim)
    exact Qu (An @Qn @bz)
  ·have bE:Yl l 17 aw (oJ 1) (oK 17 1) addr port=Yl l 17 aw 16 22 addr port:=rfl
   rw[bE]
   clear bE
   have e1:=Ao addr eI.1
   have e2:=Ap addr eI
   have e3:=Aq (aw - 1) 17 af af
   have t3:Yl l 17 aw 16 22 addr port=(if (w2 (Ql (Ql (tl (Ql (tl (Ql l 16 10 (addr / 65536)) 17 (w2 l 16) (addr / 65536)) 18 10 (addr % 65536)) 17 (w2 (tl (Ql l 16 10 (addr / 65536)) 17 (w2 l 16) (addr / 65536)) 18) (addr % 65536)) 8 10 ((aw - 1) * 256 + 17)) 22 26 port) 26=0)∧((17:Int)=17∨cp ((Ql (Ql (tl (Ql (tl (Ql l 16 10 (addr / 65536)) 17 (w2 l 16) (addr / 65536)) 18 10 (addr % 65536)) 17 (w2 (tl (Ql l 16 10 (addr / 65536)) 17 (w2 l 16) (addr / 65536)) 18) (addr % 65536)) 8 10 ((aw - 1) * 256 + 17)) 22 26 port).drop 20)=0) then Wh (Ql (Ql (tl (Ql (tl (Ql l 16 10 (addr / 65536)) 17 (w2 l 16) (addr / 65536)) 18 10 (addr % 65536)) 17 (w2 (tl (Ql l 16 10 (addr / 65536)) 17 (w2 l 16) (addr / 65536)) 18) (addr % 65536)) 8 10 ((aw - 1) * 256 + 17)) 22 26 port) 26 65535 else Ql (Ql (tl (Ql (tl (Ql l 16 10 (addr / 65536)) 17 (w2 l 16) (addr / 65536)) 18 10 (addr % 65536)) 17 (w2 (tl (Ql l 16 10 (addr / 65536)) 17 (w2 l 16) (addr / 65536)) 18) (addr % 65536)) 8 10 ((aw - 1) * 256 + 17)) 22 26 port):=rfl
   rw[t3]
   clear t3
   obtain ⟨hi,nB⟩:∃ x,x=addr / 65536:=⟨_,rfl⟩
   obtain ⟨lo,iN⟩:∃ x,x=addr % 65536:=⟨_,rfl⟩
   rw[← nB]at e1 ⊢
   rw[← iN]at e2 ⊢
   have qV:0≤hi∧hi≤65535:=by omega
   have qW:0≤lo∧lo≤65535:=by omega
   have E1:tl (Ql l 16 10 hi) 17 (w2 l 16) hi=Kk (Ql l 16 10 hi) 26 (w2 l 16) hi:=rfl
   obtain ⟨B1,gj⟩:∃ x,x=tl (Ql l 16 10 hi) 17 (w2 l 16) hi:=⟨_,rfl⟩
   rw[← gj]
   rw[E1]at gj
   have E2:tl (Ql B1 18 10 lo) 17 (w2 B1 18) lo=Kk (Ql B1 18 10 lo) 26 (w2 B1 18) lo:=rfl
   obtain ⟨B2,fP⟩:∃ x,x=tl (Ql B1 18 10 lo) 17 (w2 B1 18) lo:=⟨_,rfl⟩
   rw[← fP]
   rw[E2]at fP
   clear E1 E2
   have dS:B1.length=l.length:=by rw[gj];simp[Qr,Jw]
   have jP:B2.length=l.length:=by rw[fP];simp[Qr,Jw,dS]
   have iO:(Ql B2 8 10 ((aw - 1) * 256 + 17)).length=l.length:=by rw[Qr,jP]
   have iP:(Ql (Ql B2 8 10 ((aw - 1) * 256 + 17)) 22 26 port).length=l.length:=by rw[Qr,iO]
   have s3:=Xi c.gl B2 true 8 10 ((aw - 1) * 256 + 17) af af af
   have s4:=Xi c.gl (Ql B2 8 10 ((aw - 1) * 256 + 17)) true 22 26 port af af af
   rw[jP]at s3
   rw[iO]at s4
   generalize Ql (Ql B2 8 10 ((aw - 1) * 256 + 17)) 22 26 port=B4 at *
   generalize Ql B2 8 10 ((aw - 1) * 256 + 17)=B3 at *
   obtain ⟨RR,iQ⟩:∃ x,x=(if (w2 B4 26=0)∧((17:Int)=17∨cp (B4.drop 20)=0) then Wh B4 26 65535 else B4):=⟨_,rfl⟩
   rw[← iQ]
   have jy:=Lib.hid iQ
   clear iQ
   (refine Qa (fun g3=>?_) (fun g3=>?_)<;>try exact g3.elim)
   refine Qg ?_
   refine Jv ?_
   have iR:addr % 65536=lo:=iN.symm
   clear iN
   refine zR cE (An @e1 @iR) ?_
   refine Xs (fun k:Nat=>k≤2) (fun k=>⟨[(1,.int .i64 1),(3,.int .i64 port),(10,.ptr 0 0),(12,.ptr 2 0),(14,.int .i64 26),(15,.int .i64 16),(86,.agg [.int .i64 hi,.int .i64 lo]),(87,.int .i64 (kI k))],[(0,.cells [.int .i64 17,.int .i64 aA,.int .i64 ah,.int .i64 dst,.int .i64 aj,.int .i64 aw,.int .i64 id,.int .i64 flags,.int .i64 seq,.int .i64 aL,.int .i64 win,.str body]),(1,.cells (Xq (ui k l B1 B2))),(2,.cells [.sl 1 1 0 l.length l.length,.bool true])],3⟩) (fun k=>2 - k) xx.mixed hN
    ⟨0,by omega,[(1,3),(2,4)],by exact Qu (An @Wn @kD)⟩ fun k hk=>?_
   obtain rfl|rfl|rfl:k=0∨k=1∨k=2:=by omega
   ·refine Zu (An @Wn @kD) ?_
    (refine Qa (fun q1=>?_) (fun q1=>?_)<;>try exact q1.elim)
    refine Zu (An @Wn @kD) ?_
    refine oF (gI c.gl l 16) ?_
    ((first|refine Qx (ins:=[2,1]) (Xi c.gl l true 16 10 hi (by omega) (by omega) (by omega)) ?_ ?_|refine Qt (ins:=[2,1]) (Xi c.gl l true 16 10 hi (by omega) (by omega) (by omega)) ?_ ?_|refine Qs (ins:=[2,1]) (Xi c.gl l true 16 10 hi (by omega) (by omega) (by omega)) ?_ ?_|refine Qq (ins:=[2,1]) (Xi c.gl l true 16 10 hi (by omega) (by omega) (by omega)) ?_ ?_)<;>(have au:=@dS;refine XM ?_;clear au;(try first|exact rfl|exact True.intro);((try (repeat' with_reducible refine And.intro ?_ ?_));(try any_goals (first|refine zm ?_|exact CL|fail)))))
    ·rfl
    (refine Qa (fun q2=>?_) (fun q2=>?_)<;>try exact q2.elim)
    refine Ut ?_
    ((first|refine Qx (ins:=[2,1]) (Yd c.gl (Ql l 16 10 hi) true 26 (w2 l 16) hi (by rw[Qr];omega) (by rw[Qr];omega)) ?_ ?_|refine Qt (ins:=[2,1]) (Yd c.gl (Ql l 16 10 hi) true 26 (w2 l 16) hi (by rw[Qr];omega) (by rw[Qr];omega)) ?_ ?_|refine Qs (ins:=[2,1]) (Yd c.gl (Ql l 16 10 hi) true 26 (w2 l 16) hi (by rw[Qr];omega) (by rw[Qr];omega)) ?_ ?_|refine Qq (ins:=[2,1]) (Yd c.gl (Ql l 16 10 hi) true 26 (w2 l 16) hi (by rw[Qr];omega) (by rw[Qr];omega)) ?_ ?_)<;>(have au:=@Qr;refine XM ?_;clear au;(try first|exact rfl|exact True.intro);((try (repeat' with_reducible refine And.intro ?_ ?_));(try any_goals (first|refine zm ?_|exact CL|fail)))))
    ·rfl
    refine ⟨1,by omega,⟨[],?_⟩,by omega⟩
    exact kA (An @Wo (An @kE @gj))
   ·refine Zu (An @Wo @kE) ?_
    (refine Qa (fun q1=>?_) (fun q1=>?_)<;>try exact q1.elim)
    refine Zu (An @Wo @kE) ?_
    refine oF (gI c.gl B1 18) ?_
    ((first|refine Qx (ins:=[2,1]) (Xi c.gl B1 true 18 10 lo (by omega) (by omega) (by omega)) ?_ ?_|refine Qt (ins:=[2,1]) (Xi c.gl B1 true 18 10 lo (by omega) (by omega) (by omega)) ?_ ?_|refine Qs (ins:=[2,1]) (Xi c.gl B1 true 18 10 lo (by omega) (by omega) (by omega)) ?_ ?_|refine Qq (ins:=[2,1]) (Xi c.gl B1 true 18 10 lo (by omega) (by omega) (by omega)) ?_ ?_)<;>(have au:=@dS;refine XM ?_;clear au;(try first|exact rfl|exact True.intro);((try (repeat' with_reducible refine And.intro ?_ ?_));(try any_goals (first|refine zm ?_|exact CL|fail)))))
    ·rfl
    (refine Qa (fun q2=>?_) (fun q2=>?_)<;>try exact q2.elim)
    refine Ut ?_
    ((first|refine Qx (ins:=[2,1]) (Yd c.gl (Ql B1 18 10 lo) true 26 (w2 B1 18) lo (by rw[Qr];omega) (by rw[Qr];omega)) ?_ ?_|refine Qt (ins:=[2,1]) (Yd c.gl (Ql B1 18 10 lo) true 26 (w2 B1 18) lo (by rw[Qr];omega) (by rw[Qr];omega)) ?_ ?_|refine Qs (ins:=[2,1]) (Yd c.gl (Ql B1 18 10 lo) true 26 (w2 B1 18) lo (by rw[Qr];omega) (by rw[Qr];omega)) ?_ ?_|refine Qq (ins:=[2,1]) (Yd c.gl (Ql B1 18 10 lo) true 26 (w2 B1 18) lo (by rw[Qr];omega) (by rw[Qr];omega)) ?_ ?_)<;>(have au:=@Qr;have aH:=@dS;refine XM ?_;clear au aH;(try first|exact rfl|exact True.intro);((try (repeat' with_reducible refine And.intro ?_ ?_));(try any_goals (first|refine zm ?_|exact CL|fail)))))
    ·rfl
    refine ⟨2,by omega,⟨[],?_⟩,by omega⟩
    exact kA (An @Wl (An @kF @fP))
   refine Zu (An @Wl @kF) ?_
   (refine Qa (fun q1=>?_) (fun q1=>?_)<;>try exact q1.elim)
   refine Zu (An @Wl (An @kF (An @pK @e3))) ?_
   ((first|refine Qx (ins:=[2,1]) s3 ?_ ?_|refine Qt (ins:=[2,1]) s3 ?_ ?_|refine Qs (ins:=[2,1]) s3 ?_ ?_|refine Qq (ins:=[2,1]) s3 ?_ ?_)<;>(have au:=@pK;have aH:=@e3;have aV:=@iO;refine XM ?_;clear au aH aV;(try first|exact rfl|exact True.intro);((try (repeat' with_reducible refine And.intro ?_ ?_));(try any_goals (first|refine zm ?_|exact CL|fail)))))
   ·rfl
   (refine Qa (fun q2=>?_) (fun q2=>?_)<;>try exact q2.elim)
   refine Ut ?_
   have hz:=Au B4 26 af
   have um:=sJ c.gl (B4.drop 20) (by rw[List.length_drop];omega)
   by_cases z:w2 B4 26=0
   ·have lq:(b1 B4 26 == 0)=true:=by simp[(hz.1 z).1]
    have lz:(b1 B4 27 == 0)=true:=by simp[(hz.1 z).2]
    ((first|refine Qx (ins:=[2,1]) s4 ?_ ?_|refine Qt (ins:=[2,1]) s4 ?_ ?_|refine Qs (ins:=[2,1]) s4 ?_ ?_|refine Qq (ins:=[2,1]) s4 ?_ ?_)<;>(have au:=@iP;have aH:=@Qn;have aV:=@lq;have bD:=@lz;refine XM ?_;clear au aH aV bD;(try first|exact rfl|exact True.intro);((try (repeat' with_reducible refine And.intro ?_ ?_));(try any_goals (first|refine zm ?_|exact CL|fail)))))
    ·rfl
    have cu:RR=(B4.set 26 255).set 27 255:=(jy.out.trans (if_pos ⟨z,.inl rfl⟩)).trans (As _ _)
    rw[cu]
    clear cu
    ((first|apply Ym|apply Yb)<;>(have au:=@Qn;have aH:=@lq;have aV:=@lz;refine XG ?_;clear au aH aV;first|exact rfl|exact True.intro|((try (repeat' with_reducible refine And.intro ?_ ?_));(try any_goals (first|refine zm ?_|exact CL|fail)))))
    (refine Qa (fun q3=>?_) (fun q3=>?_)<;>try exact q3.elim)
    exact kA (An @Ar @iP)
   ·have bz:(b1 B4 26 == 0 && b1 B4 27 == 0)=false:=by
     have hn:¬ (b1 B4 26=0∧b1 B4 27=0):=fun h=>z (hz.2 h)
     rw[Bool.and_eq_false_iff,beq_eq_false_iff_ne,beq_eq_false_iff_ne];omega
    have cu:RR=B4:=jy.out.trans (if_neg fun h=>z h.1)
    rw[cu]
    clear cu
    ((first|refine Qx (ins:=[2,1]) s4 ?_ ?_|refine Qt (ins:=[2,1]) s4 ?_ ?_|refine Qs (ins:=[2,1]) s4 ?_ ?_|refine Qq (ins:=[2,1]) s4 ?_ ?_)<;>(have au:=@iP;have aH:=@Qn;have aV:=@bz;refine XM ?_;clear au aH aV;(try first|exact rfl|exact True.intro);((try (repeat' with_reducible refine And.intro ?_ ?_));(try any_goals (first|refine zm ?_|exact CL|fail)))))
    ·rfl
    ((first|apply Ym|apply Yb)<;>(have au:=@Qn;have aH:=@bz;refine XG ?_;clear au aH;first|exact rfl|exact True.intro|((try (repeat' with_reducible refine And.intro ?_ ?_));(try any_goals (first|refine zm ?_|exact CL|fail)))))
    (refine Qa (fun q3=>?_) (fun q3=>?_)<;>try exact q3.elim)
    exact Qu (An @Qn @bz)
end Go.Proofs.YtogckmommodmhaaGreatDoor
