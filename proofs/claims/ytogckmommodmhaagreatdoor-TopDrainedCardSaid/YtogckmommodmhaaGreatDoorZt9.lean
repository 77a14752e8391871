import Derived.Test.YtogckmommodmhaaGreatDoorZt8
set_option maxHeartbeats 16000000
namespace Go.Proofs.YtogckmommodmhaaGreatDoor
open Go.RowKit
set_option linter.all false
set_option linter.unusedSimpArgs false
set_option maxRecDepth 100000
theorem LN {f:List UInt8} (h:bP f=0):H6 f∧Yr (az f)=0:=by
 have h1:¬ G1 f:=fun h1=>by rw[Dl h1]at h;cases h
 have h2:¬ G2 f:=fun h2=>by rw[LF h1 h2]at h;cases h
 have h3:¬ G3 f:=fun h3=>by rw[GF h1 h2 h3]at h;cases h
 have h4:¬ G4 f:=fun h4=>by rw[LG h1 h2 h3 h4]at h;cases h
 have k:H4 f:=⟨h1,h2,h3,h4⟩
 have h5:¬ G5 f:=fun h5=>by rw[LH k h5]at h;cases h
 have h6:¬ G6 f:=fun h6=>by rw[Dm k h5 h6]at h;cases h
 have k6:H6 f:=⟨k,h5,h6⟩
 have h7:¬ G7 f:=fun h7=>by rw[Ay k6 h7]at h;cases h
 have h8:¬ G8 f:=fun h8=>by rw[Dn k6 h7 h8]at h;cases h
 have h9:¬ G9 f:=fun h9=>by rw[LI k6 h7 h8 h9]at h;cases h
 have ed:¬ qK f:=fun ed=>by rw[Dp k6 h7 h8 h9 ed]at h;cases h
 exact ⟨k6,by rw[← Dq k6 h7 h8 h9 ed];exact h⟩
theorem AD (f:List UInt8):(az f).ae=b1 f 9:=by
 unfold az
 dsimp only
 split
 ·rfl
 ·split<;>rfl
theorem Xz0 {f:List UInt8} (h:bP f=0) (h9:b1 f 9=6):40≤f.length:=by
 have:=(LN h).1.g6
 have h2:=xR h
 unfold G6 at this
 rw[h9,List.length_drop]at this
 simp only[if_true]at this
 omega
theorem AE (a:Int) (h:0≤a):a.fdiv (2 ^ min 16 64)=a / 65536:=by
 rw[Int.fdiv_eq_ediv_of_nonneg _ aR];rfl
theorem AF (a:Int) (h:0≤a∧a≤4294967295):bits .and .i64 a 65535=a % 65536:=by
 obtain ⟨x,rfl⟩:=Int.eq_ofNat_of_zero_le h.1
 show IntKind.i64.wrap (((BitVec.ofInt 64 (x:Int)) &&& (BitVec.ofInt 64 65535)).toNat:Int)=_
 rw[BitVec.toNat_and,BitVec.toNat_ofInt,BitVec.toNat_ofInt]
 have e1:((x:Int) % ((2 ^ 64:Nat):Int)).toNat=x:=by omega
 have e2:((65535:Int) % ((2 ^ 64:Nat):Int)).toNat=2 ^ 16 - 1:=by decide
 rw[e1,e2,Nat.and_two_pow_sub_one_eq_mod,IntKind.wrap_i64]
 omega
theorem AG (t p:Int) (ht:0≤t∧t≤255) (hp:0≤p∧p≤255):bits .or .i64 (t * 256) p=t * 256 + p:=by
 have h:=O9 t p hp.1 af
 rw[IntKind.wrap_i64,IntKind.wrap_i64]at h
 have e1:(t * 256 + 9223372036854775808) % 18446744073709551616 - 9223372036854775808=t * 256:=by omega
 have e2:(256 * t + p + 9223372036854775808) % 18446744073709551616 - 9223372036854775808=t * 256 + p:=by omega
 rw[e1,e2]at h;exact h
theorem pJ:(2:Int) ^ min 8 64=256:=by decide
theorem AH (l:List UInt8) (i:Nat):(Xo l).set i (.int .u8 255)=Xo (l.set i 255):=by
 have e:(.int .u8 255:AV)=.int .u8 ((255:UInt8).toNat:Int):=rfl
 rw[e,Xo,Xo,List.map_set]
theorem AI (l:List UInt8) (k:Nat):Wg l k 65535=(l.set k 255).set (k + 1) 255:=by
 unfold Wg
 rw[show Qg 65535 1=255 by decide,show Qg 65535 0=255 by decide]
theorem AJ (l:List UInt8) (k:Nat) (h:k + 2≤l.length):w2 l k=0 ↔ b1 l k=0∧b1 l (k + 1)=0:=by
 have:=Yfp l k h
 have:=sL l k
 have:=sL l (k + 1)
 omega
def kI (k:Nat):Int:=k
theorem kD:kI 0=0:=rfl
theorem kE:kI 1=1:=rfl
theorem kF:kI 2=2:=rfl
def tW (k:Nat) (a b c:List UInt8):List UInt8:=match k with|0=>a|1=>b|_=>c
theorem Wj (a b c:List UInt8):tW 0 a b c=a:=rfl
theorem Wn (a b c:List UInt8):tW 1 a b c=b:=rfl
theorem Wo (a b c:List UInt8):tW 2 a b c=c:=rfl
def qM (l:List UInt8) (side addr port:Int):AV :=
 if bP l≠0 then .aX [.str [],.int .i64 (bP l)]
 else if Un (az l) side addr port≠0 then .aX [.str [],.int .i64 (Un (az l) side addr port)]
 else .aX [.str (Yn l (az l).ae (az l).av (oC side) (oD (az l).ae side) addr port),.int .i64 0]
theorem Xz3 (l:List UInt8) (side addr port:Int):Qe 0 (qM l side addr port):=by
 unfold qM;split
 ·simp[Qe,ai]
 ·split<;>simp[Qe,ai]
theorem Xv8 {l:List UInt8} {side addr port e:Int} (h:bP l=0) (ht:Un (az l) side addr port=e) (he:e≠0):qM l side addr port=.aX [.str [],.int .i64 e]:=by
 unfold qM;rw[if_neg af,ht,if_pos he]
theorem te2 {p:Pk} {side addr port:Int} (h:side < 0∨side > 1∨¬ (0≤addr∧addr≤4294967295)∨¬ (0≤port∧port≤65535)):Un p side addr port=2:=if_pos h
theorem Ygg {p:Pk} {side addr port:Int} (h:¬ (side < 0∨side > 1∨¬ (0≤addr∧addr≤4294967295)∨¬ (0≤port∧port≤65535))) (h2:p.av=1):Un p side addr port=12:=(if_neg h).trans (if_pos h2)
theorem te4 {p:Pk} {side addr port:Int} (h:¬ (side < 0∨side > 1∨¬ (0≤addr∧addr≤4294967295)∨¬ (0≤port∧port≤65535))) (h2:¬ p.av=1) (h3:p.ae=1∧¬ (side=0 ↔ p.flags=8)):Un p side addr port=4:=(if_neg h).trans ((if_neg h2).trans (if_pos h3))
theorem te0 {p:Pk} {side addr port:Int} (h:¬ (side < 0∨side > 1∨¬ (0≤addr∧addr≤4294967295)∨¬ (0≤port∧port≤65535))) (h2:¬ p.av=1) (h3:¬ (p.ae=1∧¬ (side=0 ↔ p.flags=8))):Un p side addr port=0:=(if_neg h).trans ((if_neg h2).trans (if_neg h3))
set_option maxRecDepth 20000 in
theorem Sr (gl:Nat→AV) (l:List UInt8) (side addr port:Int) (hl:l.length≤140737488351232):PS Tryz.prog gl 94 [.str l,.int .i64 side,.int .i64 addr,.int .i64 port] (qM l side addr port):=by
 refine xN.ps (of_decide_eq_true rfl) (Xz3 l side addr port) fun c hN hg=>?_
 conv in aO _ _=>cbv
 have hP:=Wu c.gl l hl
 by_cases he:bP l=0
 rotate_left
 ·rw[Yk rfl he]at hP
  have hr:qM l side addr port=.aX [.str [],.int .i64 (bP l)]:=if_pos he
  rw[hr]
  clear hr
  generalize bP l=E at *
  unfold ew Pk.enc at hP
  dsimp only at hP
  refine Qf ?_
  refine Zg hP ?_
  (refine Qa (fun g1=>?_) (fun g1=>?_)<;>try exact g1.elim)
  ·exact Qs
  ·exact (he g1).elim
 obtain ⟨l28,l65⟩:=xR he
 have Dt:=@Xz0 l he
 have Du:=AD l
 obtain ⟨hK6,kX⟩:=LN he
 obtain ⟨hp,hr,iw,pL⟩:=Wb kX
 rw[Sm he]at hP
 have fq:=Sg c.gl [addr] au
 have GJ:=LA c.gl [port] au
 have eH:=fun e=>@Xv8 l side addr port e he
 have Dv:=@te2 (az l) side addr port
 have vz:=@Ygg (az l) side addr port
 have Dw:=@te4 (az l) side addr port
 have Dx:=@te0 (az l) side addr port
 have vA:Un (az l) side addr port=0→qM l side addr port=.aX [.str (Yn l (az l).ae (az l).av (oC side) (oD (az l).ae side) addr port),.int .i64 0]:=fun h=>by
  unfold qM;rw[if_neg af,if_neg af]
 generalize qM l side addr port=TT at *
 generalize Un (az l) side addr port=TE at *
 obtain ⟨r1,r2,r3,r4,r5,r6,r7,r8,r9,ic⟩:=hr
 clear pL iw kX hK6
 generalize az l=q at *
 obtain ⟨ae,aA,ah,dst,aj,av,id,flags,seq,aL,win,body⟩:=q
 unfold Pk.enc at hP
 dsimp only at *
 clear r1 r2 r3 r4 r5 r6 r7 r8
 have HB:=Lib.hid eH
 have AK:=Lib.hid Dv
 have tX:=Lib.hid vz
 have GK:=Lib.hid Dw
 have AL:=Lib.hid Dx
 have HG:=Lib.hid vA
 have tY:=Lib.hid Dt
 clear eH Dv vz Dw Dx vA Dt
 by_cases Ss:side < 0∨side > 1
 ·rw[HB.out _ (AK.out af) aR]
  have d1:(decide (side < 0) || decide (1 < side))=true:=by simp;omega
  refine Qf ?_
  refine Zg hP ?_
  (refine Qa (fun g1=>?_) (fun g1=>?_)<;>try exact g1.elim)
  refine Qh @d1 ?_
  ((first|apply Yo|apply Yc)<;>(have aB:=@d1;refine XG ?_;clear aB;first|exact rfl|exact True.intro|((try (repeat' with_reducible refine And.intro ?_ ?_));(try any_goals (first|refine zm ?_|exact CL|fail)))))
  ((first|apply Yo|apply Yc)<;>(have aB:=@d1;refine XG ?_;clear aB;first|exact rfl|exact True.intro|((try (repeat' with_reducible refine And.intro ?_ ?_));(try any_goals (first|refine zm ?_|exact CL|fail)))))
  ((first|apply Yo|apply Yc)<;>(have aB:=@d1;refine XG ?_;clear aB;first|exact rfl|exact True.intro|((try (repeat' with_reducible refine And.intro ?_ ?_));(try any_goals (first|refine zm ?_|exact CL|fail)))))
  ((first|apply Yo|apply Yc)<;>(have aB:=@d1;refine XG ?_;clear aB;first|exact rfl|exact True.intro|((try (repeat' with_reducible refine And.intro ?_ ?_));(try any_goals (first|refine zm ?_|exact CL|fail)))))
  (refine Qa (fun g2=>?_) (fun g2=>?_)<;>try exact g2.elim)
  exact Qs
 have d1:(decide (side < 0) || decide (1 < side))=false:=by simp;omega
 by_cases ez:0≤addr∧addr≤4294967295
 rotate_left
 ·rw[HB.out _ (AK.out af) aR]
  have hb:[addr].all (fw 4294967295)=false:=by simp[fw];omega
  rw[hb]at fq
  refine Qf ?_
  refine Zg hP ?_
  (refine Qa (fun g1=>?_) (fun g1=>?_)<;>try exact g1.elim)
  refine Qh @d1 ?_
  ((refine vn ?_ ?_ ?_);(focus (have aB:=@d1;refine XG ?_;clear aB;try first|exact rfl|exact True.intro));(focus (have aB:=@d1;refine XG ?_;clear aB;try trivial)))
  refine Zm @d1 ?_
  ((first|apply Wx|apply Ku)<;>(first|exact fq|(with_reducible (exact Jy.bool _))|(have aB:=@d1;refine XG ?_;clear aB;first|exact rfl|exact True.intro|((try (repeat' with_reducible refine And.intro ?_ ?_));(try any_goals (first|refine zm ?_|exact CL|fail))))))
  ((first|apply Yo|apply Yc)<;>(have aB:=@d1;refine XG ?_;clear aB;first|exact rfl|exact True.intro|((try (repeat' with_reducible refine And.intro ?_ ?_));(try any_goals (first|refine zm ?_|exact CL|fail)))))
  ((first|apply Yo|apply Yc)<;>(have aB:=@d1;refine XG ?_;clear aB;first|exact rfl|exact True.intro|((try (repeat' with_reducible refine And.intro ?_ ?_));(try any_goals (first|refine zm ?_|exact CL|fail)))))
  (refine Qa (fun g2=>?_) (fun g2=>?_)<;>try exact g2.elim)
  exact Qs
 have hb:[addr].all (fw 4294967295)=true:=by simp[fw];omega
 rw[hb]at fq
 by_cases Su:0≤port∧port≤65535
 rotate_left
 ·rw[HB.out _ (AK.out af) aR]
  have dE:[port].all (fw 65535)=false:=by simp[fw];omega
  rw[dE]at GJ
  refine Qf ?_
  refine Zg hP ?_
  (refine Qa (fun g1=>?_) (fun g1=>?_)<;>try exact g1.elim)
  refine Qh @d1 ?_
  ((refine vn ?_ ?_ ?_);(focus (have aB:=@d1;refine XG ?_;clear aB;try first|exact rfl|exact True.intro));(focus (have aB:=@d1;refine XG ?_;clear aB;try trivial)))
  refine Zm @d1 ?_
  ((first|apply Wx|apply Ku)<;>(first|exact fq|(with_reducible (exact Jy.bool _))|(have aB:=@d1;refine XG ?_;clear aB;first|exact rfl|exact True.intro|((try (repeat' with_reducible refine And.intro ?_ ?_));(try any_goals (first|refine zm ?_|exact CL|fail))))))
  ((refine vn ?_ ?_ ?_);(focus (have aB:=@d1;refine XG ?_;clear aB;try first|exact rfl|exact True.intro));(focus (have aB:=@d1;refine XG ?_;clear aB;try trivial)))
  refine Zm @d1 ?_
  ((first|apply Wx|apply Ku)<;>(first|exact GJ|(with_reducible (exact Jy.bool _))|(have aB:=@d1;refine XG ?_;clear aB;first|exact rfl|exact True.intro|((try (repeat' with_reducible refine And.intro ?_ ?_));(try any_goals (first|refine zm ?_|exact CL|fail))))))
  (refine Qa (fun g2=>?_) (fun g2=>?_)<;>try exact g2.elim)
  exact Qs
 have dE:[port].all (fw 65535)=true:=by simp[fw];omega
 rw[dE]at GJ
 have aU:¬ (side < 0∨side > 1∨¬ (0≤addr∧addr≤4294967295)∨¬ (0≤port∧port≤65535)):=by omega
 clear hb dE
 refine Qf ?_
 refine Zg hP ?_
 (refine Qa (fun g1=>?_) (fun g1=>?_)<;>try exact g1.elim)
 refine Qh @d1 ?_
 ((refine vn ?_ ?_ ?_);(focus (have aB:=@d1;refine XG ?_;clear aB;try first|exact rfl|exact True.intro));(focus (have aB:=@d1;refine XG ?_;clear aB;try trivial)))
 refine Zm @d1 ?_
 ((first|apply Wx|apply Ku)<;>(first|exact fq|(with_reducible (exact Jy.bool _))|(have aB:=@d1;refine XG ?_;clear aB;first|exact rfl|exact True.intro|((try (repeat' with_reducible refine And.intro ?_ ?_));(try any_goals (first|refine zm ?_|exact CL|fail))))))
 ((refine vn ?_ ?_ ?_);(focus (have aB:=@d1;refine XG ?_;clear aB;try first|exact rfl|exact True.intro));(focus (have aB:=@d1;refine XG ?_;clear aB;try trivial)))
 refine Zm @d1 ?_
 ((first|apply Wx|apply Ku)<;>(first|exact GJ|(with_reducible (exact Jy.bool _))|(have aB:=@d1;refine XG ?_;clear aB;first|exact rfl|exact True.intro|((try (repeat' with_reducible refine And.intro ?_ ?_));(try any_goals (first|refine zm ?_|exact CL|fail))))))
 (refine Qa (fun g2=>?_) (fun g2=>?_)<;>try exact g2.elim)
 refine Qf ?_
 (refine Qa (fun fa=>?_) (fun fa=>?_)<;>try exact fa.elim)
 ·rw[HB.out _ (tX.out aU fa) aR]
  exact Qs
 rcases hp with h9|h9|h9
 ·rw[h9]
  have cd:=GB c.gl 1
  have hz:nt 1=.aX [.int .i64 8,.int .i64 2]:=rfl
  rw[hz]at cd
  clear hz
  have AM:28≤l.length:=by omega
  by_cases AN:side=0 ↔ flags=8
  rotate_left
  ·rw[HB.out _ (GK.out aU fa ⟨h9,AN⟩) aR]
   have hx:((side == 0) == (flags == 8))=false:=by
    by_cases h1:side=0
    ·rw[show (side == 0)=true by simp[h1],show (flags == 8)=false by simp;exact fun h=>AN ⟨fun _=>h,fun _=>h1⟩];rfl
    ·rw[show (side == 0)=false by simp[h1],show (flags == 8)=true by simp;exact Decidable.not_not.1 fun h=>AN ⟨fun x=>(h1 x).elim,fun x=>(h x).elim⟩];rfl
   refine Qh (An @hx (An @Bool.not_true @Bool.not_false)) ?_
   (refine Qa (fun g3=>?_) (fun g3=>?_)<;>try exact g3.elim)
   exact Qs
  have hx:((side == 0) == (flags == 8))=true:=by
   by_cases h1:side=0
   ·rw[show (side == 0)=true by simp[h1],show (flags == 8)=true by simp[AN.1 h1]];rfl
   ·rw[show (side == 0)=false by simp[h1],show (flags == 8)=false by simp;exact fun h=>h1 (AN.2 h)];rfl
  rw[HG.out (AL.out aU fa (fun h=>h.2 AN)),h9]
  refine Qh (An @hx (An @Bool.not_true @Bool.not_false)) ?_
  clear HB AK tX GK AL HG tY
  obtain rfl|rfl:side=0∨side=1:=by omega
  ·have bE:Yn l 1 av (oC 0) (oD 1 0) addr port=Yn l 1 av 12 24 addr port:=rfl
   rw[bE]
   clear bE
   have e1:=AE addr ez.1
   have e2:=AF addr ez
   have e3:=AG (av - 1) 1 af af
   have t3:Yn l 1 av 12 24 addr port=(if (w2 (Ql (Ql (tl (Ql (tl (Ql l 12 10 (addr / 65536)) 1 (w2 l 12) (addr / 65536)) 14 10 (addr % 65536)) 1 (w2 (tl (Ql l 12 10 (addr / 65536)) 1 (w2 l 12) (addr / 65536)) 14) (addr % 65536)) 8 10 ((av - 1) * 256 + 1)) 24 22 port) 22=0)∧((1:Int)=17∨cj ((Ql (Ql (tl (Ql (tl (Ql l 12 10 (addr / 65536)) 1 (w2 l 12) (addr / 65536)) 14 10 (addr % 65536)) 1 (w2 (tl (Ql l 12 10 (addr / 65536)) 1 (w2 l 12) (addr / 65536)) 14) (addr % 65536)) 8 10 ((av - 1) * 256 + 1)) 24 22 port).drop 20)=0) then Wg (Ql (Ql (tl (Ql (tl (Ql l 12 10 (addr / 65536)) 1 (w2 l 12) (addr / 65536)) 14 10 (addr % 65536)) 1 (w2 (tl (Ql l 12 10 (addr / 65536)) 1 (w2 l 12) (addr / 65536)) 14) (addr % 65536)) 8 10 ((av - 1) * 256 + 1)) 24 22 port) 22 65535 else Ql (Ql (tl (Ql (tl (Ql l 12 10 (addr / 65536)) 1 (w2 l 12) (addr / 65536)) 14 10 (addr % 65536)) 1 (w2 (tl (Ql l 12 10 (addr / 65536)) 1 (w2 l 12) (addr / 65536)) 14) (addr % 65536)) 8 10 ((av - 1) * 256 + 1)) 24 22 port):=rfl
   rw[t3]
   clear t3
   obtain ⟨hi,nu⟩:∃ x,x=addr / 65536:=⟨_,rfl⟩
   obtain ⟨lo,iP⟩:∃ x,x=addr % 65536:=⟨_,rfl⟩
   rw[← nu]at e1 ⊢
   rw[← iP]at e2 ⊢
   have qN:0≤hi∧hi≤65535:=by omega
   have qO:0≤lo∧lo≤65535:=by omega
   have E1:tl (Ql l 12 10 hi) 1 (w2 l 12) hi=Ql l 12 10 hi:=rfl
   obtain ⟨B1,eV⟩:∃ x,x=tl (Ql l 12 10 hi) 1 (w2 l 12) hi:=⟨_,rfl⟩
   rw[← eV]
   rw[E1]at eV
   have E2:tl (Ql B1 14 10 lo) 1 (w2 B1 14) lo=Ql B1 14 10 lo:=rfl
   obtain ⟨B2,fP⟩:∃ x,x=tl (Ql B1 14 10 lo) 1 (w2 B1 14) lo:=⟨_,rfl⟩
   rw[← fP]
   rw[E2]at fP
   clear E1 E2
   have eA:B1.length=l.length:=by rw[eV];simp[Qq,Ju]
   have jR:B2.length=l.length:=by rw[fP];simp[Qq,Ju,eA]
   have iQ:(Ql B2 8 10 ((av - 1) * 256 + 1)).length=l.length:=by rw[Qq,jR]
   have iR:(Ql (Ql B2 8 10 ((av - 1) * 256 + 1)) 24 22 port).length=l.length:=by rw[Qq,iQ]
   have s3:=Xh c.gl B2 false 8 10 ((av - 1) * 256 + 1) af af af
   have s4:=Xh c.gl (Ql B2 8 10 ((av - 1) * 256 + 1)) false 24 22 port af af af
   rw[jR]at s3
   rw[iQ]at s4
   generalize Ql (Ql B2 8 10 ((av - 1) * 256 + 1)) 24 22 port=B4 at *
   generalize Ql B2 8 10 ((av - 1) * 256 + 1)=B3 at *
   obtain ⟨RR,iS⟩:∃ x,x=(if (w2 B4 22=0)∧((1:Int)=17∨cj (B4.drop 20)=0) then Wg B4 22 65535 else B4):=⟨_,rfl⟩
   rw[← iS]
   have jE:=Lib.hid iS
   clear iS
   (refine Qa (fun g3=>?_) (fun g3=>?_)<;>try exact g3.elim)
   refine Qf ?_
   refine Jw ?_
   have iT:addr % 65536=lo:=iP.symm
   clear iP
   refine Aj cd (An @e1 @iT) ?_
   refine Xr (fun k:Nat=>k≤2) (fun k=>⟨[(1,.int .i64 0),(3,.int .i64 port),(10,.ptr 0 0),(12,.ptr 2 0),(14,.int .i64 22),(15,.int .i64 12),(86,.agg [.int .i64 hi,.int .i64 lo]),(87,.int .i64 (kI k))],[(0,.cells [.int .i64 1,.int .i64 aA,.int .i64 ah,.int .i64 dst,.int .i64 aj,.int .i64 av,.int .i64 id,.int .i64 flags,.int .i64 seq,.int .i64 aL,.int .i64 win,.str body]),(1,.cells (Xo (tW k l B1 B2))),(2,.cells [.sl 1 1 0 l.length l.length,.bool false])],3⟩) (fun k=>2 - k) xN.mixed hN
    ⟨0,by omega,[(1,3),(2,4)],by exact Qr (An @Wj @kD)⟩ fun k hk=>?_
   obtain rfl|rfl|rfl:k=0∨k=1∨k=2:=by omega
   ·refine Zy (An @Wj @kD) ?_
    (refine Qa (fun q1=>?_) (fun q1=>?_)<;>try exact q1.elim)
    refine Zy (An @Wj @kD) ?_
    refine ox (gG c.gl l 12) ?_
    ((first|refine Xa (ins:=[2,1]) (Xh c.gl l false 12 10 hi (by omega) (by omega) (by omega)) ?_ ?_|refine Qw (ins:=[2,1]) (Xh c.gl l false 12 10 hi (by omega) (by omega) (by omega)) ?_ ?_|refine Qx (ins:=[2,1]) (Xh c.gl l false 12 10 hi (by omega) (by omega) (by omega)) ?_ ?_|refine Qt (ins:=[2,1]) (Xh c.gl l false 12 10 hi (by omega) (by omega) (by omega)) ?_ ?_)<;>(have aB:=@eA;refine XM ?_;clear aB;(try first|exact rfl|exact True.intro);((try (repeat' with_reducible refine And.intro ?_ ?_));(try any_goals (first|refine zm ?_|exact CL|fail)))))
    ·rfl
    (refine Qa (fun q2=>?_) (fun q2=>?_)<;>try exact q2.elim)
    refine Ux ?_
    refine ⟨1,by omega,⟨[],?_⟩,by omega⟩
    exact kA (An @Wn (An @kE @eV))
   ·refine Zy (An @Wn @kE) ?_
    (refine Qa (fun q1=>?_) (fun q1=>?_)<;>try exact q1.elim)
    refine Zy (An @Wn @kE) ?_
    refine ox (gG c.gl B1 14) ?_
    ((first|refine Xa (ins:=[2,1]) (Xh c.gl B1 false 14 10 lo (by omega) (by omega) (by omega)) ?_ ?_|refine Qw (ins:=[2,1]) (Xh c.gl B1 false 14 10 lo (by omega) (by omega) (by omega)) ?_ ?_|refine Qx (ins:=[2,1]) (Xh c.gl B1 false 14 10 lo (by omega) (by omega) (by omega)) ?_ ?_|refine Qt (ins:=[2,1]) (Xh c.gl B1 false 14 10 lo (by omega) (by omega) (by omega)) ?_ ?_)<;>(have aB:=@eA;refine XM ?_;clear aB;(try first|exact rfl|exact True.intro);((try (repeat' with_reducible refine And.intro ?_ ?_));(try any_goals (first|refine zm ?_|exact CL|fail)))))
    ·rfl
    (refine Qa (fun q2=>?_) (fun q2=>?_)<;>try exact q2.elim)
    refine Ux ?_
    refine ⟨2,by omega,⟨[],?_⟩,by omega⟩
    exact kA (An @Wo (An @kF @fP))
   refine Zy (An @Wo @kF) ?_
   (refine Qa (fun q1=>?_) (fun q1=>?_)<;>try exact q1.elim)
   refine Zy (An @Wo (An @kF (An @pJ @e3))) ?_
   ((first|refine Xa (ins:=[2,1]) s3 ?_ ?_|refine Qw (ins:=[2,1]) s3 ?_ ?_|refine Qx (ins:=[2,1]) s3 ?_ ?_|refine Qt (ins:=[2,1]) s3 ?_ ?_)<;>(have aB:=@pJ;have aQ:=@e3;have a8:=@iQ;refine XM ?_;clear aB aQ a8;(try first|exact rfl|exact True.intro);((try (repeat' with_reducible refine And.intro ?_ ?_));(try any_goals (first|refine zm ?_|exact CL|fail)))))
   ·rfl
   (refine Qa (fun q2=>?_) (fun q2=>?_)<;>try exact q2.elim)
   refine Ux ?_
   have hz:=AJ B4 22 af
   have tZ:=pF c.gl (B4.drop 20) (by rw[List.length_drop];omega)
   by_cases z:w2 B4 22=0
   ·have lE:(b1 B4 22 == 0)=true:=by simp[(hz.1 z).1]
    have lF:(b1 B4 23 == 0)=true:=by simp[(hz.1 z).2]
    ((first|refine Xa (ins:=[2,1]) s4 ?_ ?_|refine Qw (ins:=[2,1]) s4 ?_ ?_|refine Qx (ins:=[2,1]) s4 ?_ ?_|refine Qt (ins:=[2,1]) s4 ?_ ?_)<;>(have aB:=@iR;have aQ:=@Qn;have a8:=@lE;have bU:=@lF;refine XM ?_;clear aB aQ a8 bU;(try first|exact rfl|exact True.intro);((try (repeat' with_reducible refine And.intro ?_ ?_));(try any_goals (first|refine zm ?_|exact CL|fail)))))
    ·rfl
    refine Qy tZ (An @Qn (An @lE @lF)) ?_
    by_cases zz:cj (B4.drop 20)=0
    ·have bo:(cj (B4.drop 20) == 0)=true:=by simp[zz]
     have cy:RR=(B4.set 22 255).set 23 255:=(jE.out.trans (if_pos ⟨z,.inr zz⟩)).trans (AI _ _)
     rw[cy]
     clear cy
     (refine Qa (fun q3=>?_) (fun q3=>?_)<;>try exact q3.elim)
     ·exact kA (An @AH @iR)
     ·omega
    ·have cy:RR=B4:=jE.out.trans (if_neg fun h=>h.2.elim af zz)
     rw[cy]
     clear cy
     (refine Qa (fun q3=>?_) (fun q3=>?_)<;>try exact q3.elim)
     ·omega
     ·exact Qs
   ·have bz:(b1 B4 22 == 0 && b1 B4 23 == 0)=false:=by
     have hn:¬ (b1 B4 22=0∧b1 B4 23=0):=fun h=>z (hz.2 h)
     rw[Bool.and_eq_false_iff,beq_eq_false_iff_ne,beq_eq_false_iff_ne];omega
    have cy:RR=B4:=jE.out.trans (if_neg fun h=>z h.1)
    rw[cy]
    clear cy
    ((first|refine Xa (ins:=[2,1]) s4 ?_ ?_|refine Qw (ins:=[2,1]) s4 ?_ ?_|refine Qx (ins:=[2,1]) s4 ?_ ?_|refine Qt (ins:=[2,1]) s4 ?_ ?_)<;>(have aB:=@iR;have aQ:=@Qn;have a8:=@bz;refine XM ?_;clear aB aQ a8;(try first|exact rfl|exact True.intro);((try (repeat' with_reducible refine And.intro ?_ ?_));(try any_goals (first|refine zm ?_|exact CL|fail)))))
    ·rfl
    ((first|apply Yo|apply Yc)<;>(have aB:=@Qn;have aQ:=@bz;refine XG ?_;clear aB aQ;first|exact rfl|exact True.intro|((try (repeat' with_reducible refine And.intro ?_ ?_));(try any_goals (first|refine zm ?_|exact CL|fail)))))
    (refine Qa (fun q3=>?_) (fun q3=>?_)<;>try exact q3.elim)
    exact Qr (An @Qn @bz)
  ·have bE:Yn l 1 av (oC 1) (oD 1 1) addr port=Yn l 1 av 16 24 addr port:=rfl
   rw[bE]
   clear bE
   have e1:=AE addr ez.1
   have e2:=AF addr ez
   have e3:=AG (av - 1) 1 af af
   have t3:Yn l 1 av 16 24 addr port=(if (w2 (Ql (Ql (tl (Ql (tl (Ql l 16 10 (addr / 65536)) 1 (w2 l 16) (addr / 65536)) 18 10 (addr % 65536)) 1 (w2 (tl (Ql l 16 10 (addr / 65536)) 1 (w2 l 16) (addr / 65536)) 18) (addr % 65536)) 8 10 ((av - 1) * 256 + 1)) 24 22 port) 22=0)∧((1:Int)=17∨cj ((Ql (Ql (tl (Ql (tl (Ql l 16 10 (addr / 65536)) 1 (w2 l 16) (addr / 65536)) 18 10 (addr % 65536)) 1 (w2 (tl (Ql l 16 10 (addr / 65536)) 1 (w2 l 16) (addr / 65536)) 18) (addr % 65536)) 8 10 ((av - 1) * 256 + 1)) 24 22 port).drop 20)=0) then Wg (Ql (Ql (tl (Ql (tl (Ql l 16 10 (addr / 65536)) 1 (w2 l 16) (addr / 65536)) 18 10 (addr % 65536)) 1 (w2 (tl (Ql l 16 10 (addr / 65536)) 1 (w2 l 16) (addr / 65536)) 18) (addr % 65536)) 8 10 ((av - 1) * 256 + 1)) 24 22 port) 22 65535 else Ql (Ql (tl (Ql (tl (Ql l 16 10 (addr / 65536)) 1 (w2 l 16) (addr / 65536)) 18 10 (addr % 65536)) 1 (w2 (tl (Ql l 16 10 (addr / 65536)) 1 (w2 l 16) (addr / 65536)) 18) (addr % 65536)) 8 10 ((av - 1) * 256 + 1)) 24 22 port):=rfl
   rw[t3]
   clear t3
   obtain ⟨hi,nu⟩:∃ x,x=addr / 65536:=⟨_,rfl⟩
   obtain ⟨lo,iP⟩:∃ x,x=addr % 65536:=⟨_,rfl⟩
   rw[← nu]at e1 ⊢
   rw[← iP]at e2 ⊢
   have qN:0≤hi∧hi≤65535:=by omega
   have qO:0≤lo∧lo≤65535:=by omega
   have E1:tl (Ql l 16 10 hi) 1 (w2 l 16) hi=Ql l 16 10 hi:=rfl
   obtain ⟨B1,eV⟩:∃ x,x=tl (Ql l 16 10 hi) 1 (w2 l 16) hi:=⟨_,rfl⟩
   rw[← eV]
   rw[E1]at eV
   have E2:tl (Ql B1 18 10 lo) 1 (w2 B1 18) lo=Ql B1 18 10 lo:=rfl
   obtain ⟨B2,fP⟩:∃ x,x=tl (Ql B1 18 10 lo) 1 (w2 B1 18) lo:=⟨_,rfl⟩
   rw[← fP]
   rw[E2]at fP
   clear E1 E2
   have eA:B1.length=l.length:=by rw[eV];simp[Qq,Ju]
   have jR:B2.length=l.length:=by rw[fP];simp[Qq,Ju,eA]
   have iQ:(Ql B2 8 10 ((av - 1) * 256 + 1)).length=l.length:=by rw[Qq,jR]
   have iR:(Ql (Ql B2 8 10 ((av - 1) * 256 + 1)) 24 22 port).length=l.length:=by rw[Qq,iQ]
   have s3:=Xh c.gl B2 false 8 10 ((av - 1) * 256 + 1) af af af
   have s4:=Xh c.gl (Ql B2 8 10 ((av - 1) * 256 + 1)) false 24 22 port af af af
   rw[jR]at s3
   rw[iQ]at s4
   generalize Ql (Ql B2 8 10 ((av - 1) * 256 + 1)) 24 22 port=B4 at *
   generalize Ql B2 8 10 ((av - 1) * 256 + 1)=B3 at *
   obtain ⟨RR,iS⟩:∃ x,x=(if (w2 B4 22=0)∧((1:Int)=17∨cj (B4.drop 20)=0) then Wg B4 22 65535 else B4):=⟨_,rfl⟩
   rw[← iS]
   have jE:=Lib.hid iS
   clear iS
   (refine Qa (fun g3=>?_) (fun g3=>?_)<;>try exact g3.elim)
   refine Qf ?_
   refine Jw ?_
   have iT:addr % 65536=lo:=iP.symm
   clear iP
   refine Aj cd (An @e1 @iT) ?_
   refine Xr (fun k:Nat=>k≤2) (fun k=>⟨[(1,.int .i64 1),(3,.int .i64 port),(10,.ptr 0 0),(12,.ptr 2 0),(14,.int .i64 22),(15,.int .i64 16),(86,.agg [.int .i64 hi,.int .i64 lo]),(87,.int .i64 (kI k))],[(0,.cells [.int .i64 1,.int .i64 aA,.int .i64 ah,.int .i64 dst,.int .i64 aj,.int .i64 av,.int .i64 id,.int .i64 flags,.int .i64 seq,.int .i64 aL,.int .i64 win,.str body]),(1,.cells (Xo (tW k l B1 B2))),(2,.cells [.sl 1 1 0 l.length l.length,.bool false])],3⟩) (fun k=>2 - k) xN.mixed hN
    ⟨0,by omega,[(1,3),(2,4)],by exact Qr (An @Wj @kD)⟩ fun k hk=>?_
   obtain rfl|rfl|rfl:k=0∨k=1∨k=2:=by omega
   ·refine Zy (An @Wj @kD) ?_
    (refine Qa (fun q1=>?_) (fun q1=>?_)<;>try exact q1.elim)
    refine Zy (An @Wj @kD) ?_
    refine ox (gG c.gl l 16) ?_
    ((first|refine Xa (ins:=[2,1]) (Xh c.gl l false 16 10 hi (by omega) (by omega) (by omega)) ?_ ?_|refine Qw (ins:=[2,1]) (Xh c.gl l false 16 10 hi (by omega) (by omega) (by omega)) ?_ ?_|refine Qx (ins:=[2,1]) (Xh c.gl l false 16 10 hi (by omega) (by omega) (by omega)) ?_ ?_|refine Qt (ins:=[2,1]) (Xh c.gl l false 16 10 hi (by omega) (by omega) (by omega)) ?_ ?_)<;>(have aB:=@eA;refine XM ?_;clear aB;(try first|exact rfl|exact True.intro);((try (repeat' with_reducible refine And.intro ?_ ?_));(try any_goals (first|refine zm ?_|exact CL|fail)))))
    ·rfl
    (refine Qa (fun q2=>?_) (fun q2=>?_)<;>try exact q2.elim)
    refine Ux ?_
    refine ⟨1,by omega,⟨[],?_⟩,by omega⟩
    exact kA (An @Wn (An @kE @eV))
   ·refine Zy (An @Wn @kE) ?_
    (refine Qa (fun q1=>?_) (fun q1=>?_)<;>try exact q1.elim)
    refine Zy (An @Wn @kE) ?_
    refine ox (gG c.gl B1 18) ?_
    ((first|refine Xa (ins:=[2,1]) (Xh c.gl B1 false 18 10 lo (by omega) (by omega) (by omega)) ?_ ?_|refine Qw (ins:=[2,1]) (Xh c.gl B1 false 18 10 lo (by omega) (by omega) (by omega)) ?_ ?_|refine Qx (ins:=[2,1]) (Xh c.gl B1 false 18 10 lo (by omega) (by omega) (by omega)) ?_ ?_|refine Qt (ins:=[2,1]) (Xh c.gl B1 false 18 10 lo (by omega) (by omega) (by omega)) ?_ ?_)<;>(have aB:=@eA;refine XM ?_;clear aB;(try first|exact rfl|exact True.intro);((try (repeat' with_reducible refine And.intro ?_ ?_));(try any_goals (first|refine zm ?_|exact CL|fail)))))
    ·rfl
    (refine Qa (fun q2=>?_) (fun q2=>?_)<;>try exact q2.elim)
    refine Ux ?_
    refine ⟨2,by omega,⟨[],?_⟩,by omega⟩
    exact kA (An @Wo (An @kF @fP))
   refine Zy (An @Wo @kF) ?_
   (refine Qa (fun q1=>?_) (fun q1=>?_)<;>try exact q1.elim)
   refine Zy (An @Wo (An @kF (An @pJ @e3))) ?_
   ((first|refine Xa (ins:=[2,1]) s3 ?_ ?_|refine Qw (ins:=[2,1]) s3 ?_ ?_|refine Qx (ins:=[2,1]) s3 ?_ ?_|refine Qt (ins:=[2,1]) s3 ?_ ?_)<;>(have aB:=@pJ;have aQ:=@e3;have a8:=@iQ;refine XM ?_;clear aB aQ a8;(try first|exact rfl|exact True.intro);((try (repeat' with_reducible refine And.intro ?_ ?_));(try any_goals (first|refine zm ?_|exact CL|fail)))))
   ·rfl
   (refine Qa (fun q2=>?_) (fun q2=>?_)<;>try exact q2.elim)
   refine Ux ?_
   have hz:=AJ B4 22 af
   have tZ:=pF c.gl (B4.drop 20) (by rw[List.length_drop];omega)
   by_cases z:w2 B4 22=0
   ·have lE:(b1 B4 22 == 0)=true:=by simp[(hz.1 z).1]
    have lF:(b1 B4 23 == 0)=true:=by simp[(hz.1 z).2]
    ((first|refine Xa (ins:=[2,1]) s4 ?_ ?_|refine Qw (ins:=[2,1]) s4 ?_ ?_|refine Qx (ins:=[2,1]) s4 ?_ ?_|refine Qt (ins:=[2,1]) s4 ?_ ?_)<;>(have aB:=@iR;have aQ:=@Qn;have a8:=@lE;have bU:=@lF;refine XM ?_;clear aB aQ a8 bU;(try first|exact rfl|exact True.intro);((try (repeat' with_reducible refine And.intro ?_ ?_));(try any_goals (first|refine zm ?_|exact CL|fail)))))
    ·rfl
    refine Qy tZ (An @Qn (An @lE @lF)) ?_
    by_cases zz:cj (B4.drop 20)=0
    ·have bo:(cj (B4.drop 20) == 0)=true:=by simp[zz]
     have cy:RR=(B4.set 22 255).set 23 255:=(jE.out.trans (if_pos ⟨z,.inr zz⟩)).trans (AI _ _)
     rw[cy]
     clear cy
     (refine Qa (fun q3=>?_) (fun q3=>?_)<;>try exact q3.elim)
     ·exact kA (An @AH @iR)
     ·omega
    ·have cy:RR=B4:=jE.out.trans (if_neg fun h=>h.2.elim af zz)
     rw[cy]
     clear cy
     (refine Qa (fun q3=>?_) (fun q3=>?_)<;>try exact q3.elim)
     ·omega
     ·exact Qs
   ·have bz:(b1 B4 22 == 0 && b1 B4 23 == 0)=false:=by
     have hn:¬ (b1 B4 22=0∧b1 B4 23=0):=fun h=>z (hz.2 h)
     rw[Bool.and_eq_false_iff,beq_eq_false_iff_ne,beq_eq_false_iff_ne];omega
    have cy:RR=B4:=jE.out.trans (if_neg fun h=>z h.1)
    rw[cy]
    clear cy
    ((first|refine Xa (ins:=[2,1]) s4 ?_ ?_|refine Qw (ins:=[2,1]) s4 ?_ ?_|refine Qx (ins:=[2,1]) s4 ?_ ?_|refine Qt (ins:=[2,1]) s4 ?_ ?_)<;>(have aB:=@iR;have aQ:=@Qn;have a8:=@bz;refine XM ?_;clear aB aQ a8;(try first|exact rfl|exact True.intro);((try (repeat' with_reducible refine And.intro ?_ ?_));(try any_goals (first|refine zm ?_|exact CL|fail)))))
    ·rfl
    ((first|apply Yo|apply Yc)<;>(have aB:=@Qn;have aQ:=@bz;refine XG ?_;clear aB aQ;first|exact rfl|exact True.intro|((try (repeat' with_reducible refine And.intro ?_ ?_));(try any_goals (first|refine zm ?_|exact CL|fail)))))
    (refine Qa (fun q3=>?_) (fun q3=>?_)<;>try exact q3.elim)
    exact Qr (An @Qn @bz)
 ·rw[h9]
  have cd:=GB c.gl 6
  have hz:nt 6=.aX [.int .i64 20,.int .i64 16]:=rfl
  rw[hz]at cd
  clear hz
  have AM:40≤l.length:=by exact tY.out af
  rw[HG.out (AL.out aU fa (fun h=>by omega)),h9]
  refine Qf ?_
  clear HB AK tX GK AL HG tY
  obtain rfl|rfl:side=0∨side=1:=by omega
  ·have bE:Yn l 6 av (oC 0) (oD 6 0) addr port=Yn l 6 av 12 20 addr port:=rfl
   rw[bE]
   clear bE
   have e1:=AE addr ez.1
   have e2:=AF addr ez
   have e3:=AG (av - 1) 6 af af
   have t3:Yn l 6 av 12 20 addr port=(if (w2 (Ql (Ql (tl (Ql (tl (Ql l 12 10 (addr / 65536)) 6 (w2 l 12) (addr / 65536)) 14 10 (addr % 65536)) 6 (w2 (tl (Ql l 12 10 (addr / 65536)) 6 (w2 l 12) (addr / 65536)) 14) (addr % 65536)) 8 10 ((av - 1) * 256 + 6)) 20 36 port) 36=0)∧((6:Int)=17∨cj ((Ql (Ql (tl (Ql (tl (Ql l 12 10 (addr / 65536)) 6 (w2 l 12) (addr / 65536)) 14 10 (addr % 65536)) 6 (w2 (tl (Ql l 12 10 (addr / 65536)) 6 (w2 l 12) (addr / 65536)) 14) (addr % 65536)) 8 10 ((av - 1) * 256 + 6)) 20 36 port).drop 20)=0) then Wg (Ql (Ql (tl (Ql (tl (Ql l 12 10 (addr / 65536)) 6 (w2 l 12) (addr / 65536)) 14 10 (addr % 65536)) 6 (w2 (tl (Ql l 12 10 (addr / 65536)) 6 (w2 l 12) (addr / 65536)) 14) (addr % 65536)) 8 10 ((av - 1) * 256 + 6)) 20 36 port) 36 65535 else Ql (Ql (tl (Ql (tl (Ql l 12 10 (addr / 65536)) 6 (w2 l 12) (addr / 65536)) 14 10 (addr % 65536)) 6 (w2 (tl (Ql l 12 10 (addr / 65536)) 6 (w2 l 12) (addr / 65536)) 14) (addr % 65536)) 8 10 ((av - 1) * 256 + 6)) 20 36 port):=rfl
   rw[t3]
   clear t3
   obtain ⟨hi,nu⟩:∃ x,x=addr / 65536:=⟨_,rfl⟩
   obtain ⟨lo,iP⟩:∃ x,x=addr % 65536:=⟨_,rfl⟩
   rw[← nu]at e1 ⊢
   rw[← iP]at e2 ⊢
   have qN:0≤hi∧hi≤65535:=by omega
   have qO:0≤lo∧lo≤65535:=by omega
   have E1:tl (Ql l 12 10 hi) 6 (w2 l 12) hi=Kh (Ql l 12 10 hi) 36 (w2 l 12) hi:=rfl
   obtain ⟨B1,eV⟩:∃ x,x=tl (Ql l 12 10 hi) 6 (w2 l 12) hi:=⟨_,rfl⟩
   rw[← eV]
   rw[E1]at eV
   have E2:tl (Ql B1 14 10 lo) 6 (w2 B1 14) lo=Kh (Ql B1 14 10 lo) 36 (w2 B1 14) lo:=rfl
   obtain ⟨B2,fP⟩:∃ x,x=tl (Ql B1 14 10 lo) 6 (w2 B1 14) lo:=⟨_,rfl⟩
   rw[← fP]
   rw[E2]at fP
   clear E1 E2
   have eA:B1.length=l.length:=by rw[eV];simp[Qq,Ju]
   have jR:B2.length=l.length:=by rw[fP];simp[Qq,Ju,eA]
   have iQ:(Ql B2 8 10 ((av - 1) * 256 + 6)).length=l.length:=by rw[Qq,jR]
   have iR:(Ql (Ql B2 8 10 ((av - 1) * 256 + 6)) 20 36 port).length=l.length:=by rw[Qq,iQ]
   have s3:=Xh c.gl B2 false 8 10 ((av - 1) * 256 + 6) af af af
   have s4:=Xh c.gl (Ql B2 8 10 ((av - 1) * 256 + 6)) false 20 36 port af af af
   rw[jR]at s3
   rw[iQ]at s4
   generalize Ql (Ql B2 8 10 ((av - 1) * 256 + 6)) 20 36 port=B4 at *
   generalize Ql B2 8 10 ((av - 1) * 256 + 6)=B3 at *
   obtain ⟨RR,iS⟩:∃ x,x=(if (w2 B4 36=0)∧((6:Int)=17∨cj (B4.drop 20)=0) then Wg B4 36 65535 else B4):=⟨_,rfl⟩
   rw[← iS]
   have jE:=Lib.hid iS
   clear iS
   (refine Qa (fun g3=>?_) (fun g3=>?_)<;>try exact g3.elim)
   refine Qf ?_
   refine Jw ?_
   have iT:addr % 65536=lo:=iP.symm
   clear iP
   refine Aj cd (An @e1 @iT) ?_
   refine Xr (fun k:Nat=>k≤2) (fun k=>⟨[(1,.int .i64 0),(3,.int .i64 port),(10,.ptr 0 0),(12,.ptr 2 0),(14,.int .i64 36),(15,.int .i64 12),(86,.agg [.int .i64 hi,.int .i64 lo]),(87,.int .i64 (kI k))],[(0,.cells [.int .i64 6,.int .i64 aA,.int .i64 ah,.int .i64 dst,.int .i64 aj,.int .i64 av,.int .i64 id,.int .i64 flags,.int .i64 seq,.int .i64 aL,.int .i64 win,.str body]),(1,.cells (Xo (tW k l B1 B2))),(2,.cells [.sl 1 1 0 l.length l.length,.bool false])],3⟩) (fun k=>2 - k) xN.mixed hN
    ⟨0,by omega,[(1,3),(2,4)],by exact Qr (An @Wj @kD)⟩ fun k hk=>?_
   obtain rfl|rfl|rfl:k=0∨k=1∨k=2:=by omega
   ·refine Zy (An @Wj @kD) ?_
    (refine Qa (fun q1=>?_) (fun q1=>?_)<;>try exact q1.elim)
    refine Zy (An @Wj @kD) ?_
    refine ox (gG c.gl l 12) ?_
    ((first|refine Xa (ins:=[2,1]) (Xh c.gl l false 12 10 hi (by omega) (by omega) (by omega)) ?_ ?_|refine Qw (ins:=[2,1]) (Xh c.gl l false 12 10 hi (by omega) (by omega) (by omega)) ?_ ?_|refine Qx (ins:=[2,1]) (Xh c.gl l false 12 10 hi (by omega) (by omega) (by omega)) ?_ ?_|refine Qt (ins:=[2,1]) (Xh c.gl l false 12 10 hi (by omega) (by omega) (by omega)) ?_ ?_)<;>(have aB:=@eA;refine XM ?_;clear aB;(try first|exact rfl|exact True.intro);((try (repeat' with_reducible refine And.intro ?_ ?_));(try any_goals (first|refine zm ?_|exact CL|fail)))))
    ·rfl
    (refine Qa (fun q2=>?_) (fun q2=>?_)<;>try exact q2.elim)
    refine Ux ?_
    ((first|refine Xa (ins:=[2,1]) (Yg c.gl (Ql l 12 10 hi) false 36 (w2 l 12) hi (by rw[Qq];omega) (by rw[Qq];omega)) ?_ ?_|refine Qw (ins:=[2,1]) (Yg c.gl (Ql l 12 10 hi) false 36 (w2 l 12) hi (by rw[Qq];omega) (by rw[Qq];omega)) ?_ ?_|refine Qx (ins:=[2,1]) (Yg c.gl (Ql l 12 10 hi) false 36 (w2 l 12) hi (by rw[Qq];omega) (by rw[Qq];omega)) ?_ ?_|refine Qt (ins:=[2,1]) (Yg c.gl (Ql l 12 10 hi) false 36 (w2 l 12) hi (by rw[Qq];omega) (by rw[Qq];omega)) ?_ ?_)<;>(have aB:=@Qq;refine XM ?_;clear aB;(try first|exact rfl|exact True.intro);((try (repeat' with_reducible refine And.intro ?_ ?_));(try any_goals (first|refine zm ?_|exact CL|fail)))))
    ·rfl
    refine ⟨1,by omega,⟨[],?_⟩,by omega⟩
    exact kA (An @Wn (An @kE @eV))
   ·refine Zy (An @Wn @kE) ?_
    (refine Qa (fun q1=>?_) (fun q1=>?_)<;>try exact q1.elim)
    refine Zy (An @Wn @kE) ?_
    refine ox (gG c.gl B1 14) ?_
    ((first|refine Xa (ins:=[2,1]) (Xh c.gl B1 false 14 10 lo (by omega) (by omega) (by omega)) ?_ ?_|refine Qw (ins:=[2,1]) (Xh c.gl B1 false 14 10 lo (by omega) (by omega) (by omega)) ?_ ?_|refine Qx (ins:=[2,1]) (Xh c.gl B1 false 14 10 lo (by omega) (by omega) (by omega)) ?_ ?_|refine Qt (ins:=[2,1]) (Xh c.gl B1 false 14 10 lo (by omega) (by omega) (by omega)) ?_ ?_)<;>(have aB:=@eA;refine XM ?_;clear aB;(try first|exact rfl|exact True.intro);((try (repeat' with_reducible refine And.intro ?_ ?_));(try any_goals (first|refine zm ?_|exact CL|fail)))))
    ·rfl
    (refine Qa (fun q2=>?_) (fun q2=>?_)<;>try exact q2.elim)
    refine Ux ?_
    ((first|refine Xa (ins:=[2,1]) (Yg c.gl (Ql B1 14 10 lo) false 36 (w2 B1 14) lo (by rw[Qq];omega) (by rw[Qq];omega)) ?_ ?_|refine Qw (ins:=[2,1]) (Yg c.gl (Ql B1 14 10 lo) false 36 (w2 B1 14) lo (by rw[Qq];omega) (by rw[Qq];omega)) ?_ ?_|refine Qx (ins:=[2,1]) (Yg c.gl (Ql B1 14 10 lo) false 36 (w2 B1 14) lo (by rw[Qq];omega) (by rw[Qq];omega)) ?_ ?_|refine Qt (ins:=[2,1]) (Yg c.gl (Ql B1 14 10 lo) false 36 (w2 B1 14) lo (by rw[Qq];omega) (by rw[Qq];omega)) ?_ ?_)<;>(have aB:=@Qq;have aQ:=@eA;refine XM ?_;clear aB aQ;(try first|exact rfl|exact True.intro);((try (repeat' with_reducible refine And.intro ?_ ?_));(try any_goals (first|refine zm ?_|exact CL|fail)))))
    ·rfl
    refine ⟨2,by omega,⟨[],?_⟩,by omega⟩
    exact kA (An @Wo (An @kF @fP))
   refine Zy (An @Wo @kF) ?_
   (refine Qa (fun q1=>?_) (fun q1=>?_)<;>try exact q1.elim)
   refine Zy (An @Wo (An @kF (An @pJ @e3))) ?_
   ((first|refine Xa (ins:=[2,1]) s3 ?_ ?_|refine Qw (ins:=[2,1]) s3 ?_ ?_|refine Qx (ins:=[2,1]) s3 ?_ ?_|refine Qt (ins:=[2,1]) s3 ?_ ?_)<;>(have aB:=@pJ;have aQ:=@e3;have a8:=@iQ;refine XM ?_;clear aB aQ a8;(try first|exact rfl|exact True.intro);((try (repeat' with_reducible refine And.intro ?_ ?_));(try any_goals (first|refine zm ?_|exact CL|fail)))))
   ·rfl
   (refine Qa (fun q2=>?_) (fun q2=>?_)<;>try exact q2.elim)
   refine Ux ?_
   have hz:=AJ B4 36 af
   have tZ:=pF c.gl (B4.drop 20) (by rw[List.length_drop];omega)
   by_cases z:w2 B4 36=0
   ·have lE:(b1 B4 36 == 0)=true:=by simp[(hz.1 z).1]
    have lF:(b1 B4 37 == 0)=true:=by simp[(hz.1 z).2]
    ((first|refine Xa (ins:=[2,1]) s4 ?_ ?_|refine Qw (ins:=[2,1]) s4 ?_ ?_|refine Qx (ins:=[2,1]) s4 ?_ ?_|refine Qt (ins:=[2,1]) s4 ?_ ?_)<;>(have aB:=@iR;have aQ:=@Qn;have a8:=@lE;have bU:=@lF;refine XM ?_;clear aB aQ a8 bU;(try first|exact rfl|exact True.intro);((try (repeat' with_reducible refine And.intro ?_ ?_));(try any_goals (first|refine zm ?_|exact CL|fail)))))
    ·rfl
    refine Qy tZ (An @Qn (An @lE @lF)) ?_
    by_cases zz:cj (B4.drop 20)=0
    ·have bo:(cj (B4.drop 20) == 0)=true:=by simp[zz]
     have cy:RR=(B4.set 36 255).set 37 255:=(jE.out.trans (if_pos ⟨z,.inr zz⟩)).trans (AI _ _)
     rw[cy]
     clear cy
     (refine Qa (fun q3=>?_) (fun q3=>?_)<;>try exact q3.elim)
     ·exact kA (An @AH @iR)
     ·omega
    ·have cy:RR=B4:=jE.out.trans (if_neg fun h=>h.2.elim af zz)
     rw[cy]
     clear cy
     (refine Qa (fun q3=>?_) (fun q3=>?_)<;>try exact q3.elim)
     ·omega
     ·exact Qs
   ·have bz:(b1 B4 36 == 0 && b1 B4 37 == 0)=false:=by
     have hn:¬ (b1 B4 36=0∧b1 B4 37=0):=fun h=>z (hz.2 h)
     rw[Bool.and_eq_false_iff,beq_eq_false_iff_ne,beq_eq_false_iff_ne];omega
    have cy:RR=B4:=jE.out.trans (if_neg fun h=>z h.1)
    rw[cy]
    clear cy
    ((first|refine Xa (ins:=[2,1]) s4 ?_ ?_|refine Qw (ins:=[2,1]) s4 ?_ ?_|refine Qx (ins:=[2,1]) s4 ?_ ?_|refine Qt (ins:=[2,1]) s4 ?_ ?_)<;>(have aB:=@iR;have aQ:=@Qn;have a8:=@bz;refine XM ?_;clear aB aQ a8;(try first|exact rfl|exact True.intro);((try (repeat' with_reducible refine And.intro ?_ ?_));(try any_goals (first|refine zm ?_|exact CL|fail)))))
    ·rfl
    ((first|apply Yo|apply Yc)<;>(have aB:=@Qn;have aQ:=@bz;refine XG ?_;clear aB aQ;first|exact rfl|exact True.intro|((try (repeat' with_reducible refine And.intro ?_ ?_));(try any_goals (first|refine zm ?_|exact CL|fail)))))
    (refine Qa (fun q3=>?_) (fun q3=>?_)<;>try exact q3.elim)
    exact Qr (An @Qn @bz)
  ·have bE:Yn l 6 av (oC 1) (oD 6 1) addr port=Yn l 6 av 16 22 addr port:=rfl
   rw[bE]
   clear bE
   have e1:=AE addr ez.1
   have e2:=AF addr ez
   have e3:=AG (av - 1) 6 af af
   have t3:Yn l 6 av 16 22 addr port=(if (w2 (Ql (Ql (tl (Ql (tl (Ql l 16 10 (addr / 65536)) 6 (w2 l 16) (addr / 65536)) 18 10 (addr % 65536)) 6 (w2 (tl (Ql l 16 10 (addr / 65536)) 6 (w2 l 16) (addr / 65536)) 18) (addr % 65536)) 8 10 ((av - 1) * 256 + 6)) 22 36 port) 36=0)∧((6:Int)=17∨cj ((Ql (Ql (tl (Ql (tl (Ql l 16 10 (addr / 65536)) 6 (w2 l 16) (addr / 65536)) 18 10 (addr % 65536)) 6 (w2 (tl (Ql l 16 10 (addr / 65536)) 6 (w2 l 16) (addr / 65536)) 18) (addr % 65536)) 8 10 ((av - 1) * 256 + 6)) 22 36 port).drop 20)=0) then Wg (Ql (Ql (tl (Ql (tl (Ql l 16 10 (addr / 65536)) 6 (w2 l 16) (addr / 65536)) 18 10 (addr % 65536)) 6 (w2 (tl (Ql l 16 10 (addr / 65536)) 6 (w2 l 16) (addr / 65536)) 18) (addr % 65536)) 8 10 ((av - 1) * 256 + 6)) 22 36 port) 36 65535 else Ql (Ql (tl (Ql (tl (Ql l 16 10 (addr / 65536)) 6 (w2 l 16) (addr / 65536)) 18 10 (addr % 65536)) 6 (w2 (tl (Ql l 16 10 (addr / 65536)) 6 (w2 l 16) (addr / 65536)) 18) (addr % 65536)) 8 10 ((av - 1) * 256 + 6)) 22 36 port):=rfl
   rw[t3]
   clear t3
   obtain ⟨hi,nu⟩:∃ x,x=addr / 65536:=⟨_,rfl⟩
   obtain ⟨lo,iP⟩:∃ x,x=addr % 65536:=⟨_,rfl⟩
   rw[← nu]at e1 ⊢
   rw[← iP]at e2 ⊢
   have qN:0≤hi∧hi≤65535:=by omega
   have qO:0≤lo∧lo≤65535:=by omega
   have E1:tl (Ql l 16 10 hi) 6 (w2 l 16) hi=Kh (Ql l 16 10 hi) 36 (w2 l 16) hi:=rfl
   obtain ⟨B1,eV⟩:∃ x,x=tl (Ql l 16 10 hi) 6 (w2 l 16) hi:=⟨_,rfl⟩
   rw[← eV]
   rw[E1]at eV
   have E2:tl (Ql B1 18 10 lo) 6 (w2 B1 18) lo=Kh (Ql B1 18 10 lo) 36 (w2 B1 18) lo:=rfl
   obtain ⟨B2,fP⟩:∃ x,x=tl (Ql B1 18 10 lo) 6 (w2 B1 18) lo:=⟨_,rfl⟩
   rw[← fP]
   rw[E2]at fP
   clear E1 E2
   have eA:B1.length=l.length:=by rw[eV];simp[Qq,Ju]
   have jR:B2.length=l.length:=by rw[fP];simp[Qq,Ju,eA]
   have iQ:(Ql B2 8 10 ((av - 1) * 256 + 6)).length=l.length:=by rw[Qq,jR]
   have iR:(Ql (Ql B2 8 10 ((av - 1) * 256 + 6)) 22 36 port).length=l.length:=by rw[Qq,iQ]
   have s3:=Xh c.gl B2 false 8 10 ((av - 1) * 256 + 6) af af af
   have s4:=Xh c.gl (Ql B2 8 10 ((av - 1) * 256 + 6)) false 22 36 port af af af
   rw[jR]at s3
   rw[iQ]at s4
   generalize Ql (Ql B2 8 10 ((av - 1) * 256 + 6)) 22 36 port=B4 at *
   generalize Ql B2 8 10 ((av - 1) * 256 + 6)=B3 at *
   obtain ⟨RR,iS⟩:∃ x,x=(if (w2 B4 36=0)∧((6:Int)=17∨cj (B4.drop 20)=0) then Wg B4 36 65535 else B4):=⟨_,rfl⟩
   rw[← iS]
   have jE:=Lib.hid iS
   clear iS
   (refine Qa (fun g3=>?_) (fun g3=>?_)<;>try exact g3.elim)
   refine Qf ?_
   refine Jw ?_
   have iT:addr % 65536=lo:=iP.symm
   clear iP
   refine Aj cd (An @e1 @iT) ?_
   refine Xr (fun k:Nat=>k≤2) (fun k=>⟨[(1,.int .i64 1),(3,.int .i64 port),(10,.ptr 0 0),(12,.ptr 2 0),(14,.int .i64 36),(15,.int .i64 16),(86,.agg [.int .i64 hi,.int .i64 lo]),(87,.int .i64 (kI k))],[(0,.cells [.int .i64 6,.int .i64 aA,.int .i64 ah,.int .i64 dst,.int .i64 aj,.int .i64 av,.int .i64 id,.int .i64 flags,.int .i64 seq,.int .i64 aL,.int .i64 win,.str body]),(1,.cells (Xo (tW k l B1 B2))),(2,.cells [.sl 1 1 0 l.length l.length,.bool false])],3⟩) (fun k=>2 - k) xN.mixed hN
    ⟨0,by omega,[(1,3),(2,4)],by exact Qr (An @Wj @kD)⟩ fun k hk=>?_
   obtain rfl|rfl|rfl:k=0∨k=1∨k=2:=by omega
   ·refine Zy (An @Wj @kD) ?_
    (refine Qa (fun q1=>?_) (fun q1=>?_)<;>try exact q1.elim)
    refine Zy (An @Wj @kD) ?_
    refine ox (gG c.gl l 16) ?_
    ((first|refine Xa (ins:=[2,1]) (Xh c.gl l false 16 10 hi (by omega) (by omega) (by omega)) ?_ ?_|refine Qw (ins:=[2,1]) (Xh c.gl l false 16 10 hi (by omega) (by omega) (by omega)) ?_ ?_|refine Qx (ins:=[2,1]) (Xh c.gl l false 16 10 hi (by omega) (by omega) (by omega)) ?_ ?_|refine Qt (ins:=[2,1]) (Xh c.gl l false 16 10 hi (by omega) (by omega) (by omega)) ?_ ?_)<;>(have aB:=@eA;refine XM ?_;clear aB;(try first|exact rfl|exact True.intro);((try (repeat' with_reducible refine And.intro ?_ ?_));(try any_goals (first|refine zm ?_|exact CL|fail)))))
    ·rfl
    (refine Qa (fun q2=>?_) (fun q2=>?_)<;>try exact q2.elim)
    refine Ux ?_
    ((first|refine Xa (ins:=[2,1]) (Yg c.gl (Ql l 16 10 hi) false 36 (w2 l 16) hi (by rw[Qq];omega) (by rw[Qq];omega)) ?_ ?_|refine Qw (ins:=[2,1]) (Yg c.gl (Ql l 16 10 hi) false 36 (w2 l 16) hi (by rw[Qq];omega) (by rw[Qq];omega)) ?_ ?_|refine Qx (ins:=[2,1]) (Yg c.gl (Ql l 16 10 hi) false 36 (w2 l 16) hi (by rw[Qq];omega) (by rw[Qq];omega)) ?_ ?_|refine Qt (ins:=[2,1]) (Yg c.gl (Ql l 16 10 hi) false 36 (w2 l 16) hi (by rw[Qq];omega) (by rw[Qq];omega)) ?_ ?_)<;>(have aB:=@Qq;refine XM ?_;clear aB;(try first|exact rfl|exact True.intro);((try (repeat' with_reducible refine And.intro ?_ ?_));(try any_goals (first|refine zm ?_|exact CL|fail)))))
    ·rfl
    refine ⟨1,by omega,⟨[],?_⟩,by omega⟩
    exact kA (An @Wn (An @kE @eV))
   ·refine Zy (An @Wn @kE) ?_
    (refine Qa (fun q1=>?_) (fun q1=>?_)<;>try exact q1.elim)
    refine Zy (An @Wn @kE) ?_
    refine ox (gG c.gl B1 18) ?_
    ((first|refine Xa (ins:=[2,1]) (Xh c.gl B1 false 18 10 lo (by omega) (by omega) (by omega)) ?_ ?_|refine Qw (ins:=[2,1]) (Xh c.gl B1 false 18 10 lo (by omega) (by omega) (by omega)) ?_ ?_|refine Qx (ins:=[2,1]) (Xh c.gl B1 false 18 10 lo (by omega) (by omega) (by omega)) ?_ ?_|refine Qt (ins:=[2,1]) (Xh c.gl B1 false 18 10 lo (by omega) (by omega) (by omega)) ?_ ?_)<;>(have aB:=@eA;refine XM ?_;clear aB;(try first|exact rfl|exact True.intro);((try (repeat' with_reducible refine And.intro ?_ ?_));(try any_goals (first|refine zm ?_|exact CL|fail)))))
    ·rfl
    (refine Qa (fun q2=>?_) (fun q2=>?_)<;>try exact q2.elim)
    refine Ux ?_
    ((first|refine Xa (ins:=[2,1]) (Yg c.gl (Ql B1 18 10 lo) false 36 (w2 B1 18) lo (by rw[Qq];omega) (by rw[Qq];omega)) ?_ ?_|refine Qw (ins:=[2,1]) (Yg c.gl (Ql B1 18 10 lo) false 36 (w2 B1 18) lo (by rw[Qq];omega) (by rw[Qq];omega)) ?_ ?_|refine Qx (ins:=[2,1]) (Yg c.gl (Ql B1 18 10 lo) false 36 (w2 B1 18) lo (by rw[Qq];omega) (by rw[Qq];omega)) ?_ ?_|refine Qt (ins:=[2,1]) (Yg c.gl (Ql B1 18 10 lo) false 36 (w2 B1 18) lo (by rw[Qq];omega) (by rw[Qq];omega)) ?_ ?_)<;>(have aB:=@Qq;have aQ:=@eA;refine XM ?_;clear aB aQ;(try first|exact rfl|exact True.intro);((try (repeat' with_reducible refine And.intro ?_ ?_));(try any_goals (first|refine zm ?_|exact CL|fail)))))
    ·rfl
    refine ⟨2,by omega,⟨[],?_⟩,by omega⟩
    exact kA (An @Wo (An @kF @fP))
   refine Zy (An @Wo @kF) ?_
   (refine Qa (fun q1=>?_) (fun q1=>?_)<;>try exact q1.elim)
   refine Zy (An @Wo (An @kF (An @pJ @e3))) ?_
   ((first|refine Xa (ins:=[2,1]) s3 ?_ ?_|refine Qw (ins:=[2,1]) s3 ?_ ?_|refine Qx (ins:=[2,1]) s3 ?_ ?_|refine Qt (ins:=[2,1]) s3 ?_ ?_)<;>(have aB:=@pJ;have aQ:=@e3;have a8:=@iQ;refine XM ?_;clear aB aQ a8;(try first|exact rfl|exact True.intro);((try (repeat' with_reducible refine And.intro ?_ ?_));(try any_goals (first|refine zm ?_|exact CL|fail)))))
   ·rfl
   (refine Qa (fun q2=>?_) (fun q2=>?_)<;>try exact q2.elim)
   refine Ux ?_
   have hz:=AJ B4 36 af
   have tZ:=pF c.gl (B4.drop 20) (by rw[List.length_drop];omega)
   by_cases z:w2 B4 36=0
   ·have lE:(b1 B4 36 == 0)=true:=by simp[(hz.1 z).1]
    have lF:(b1 B4 37 == 0)=true:=by simp[(hz.1 z).2]
    ((first|refine Xa (ins:=[2,1]) s4 ?_ ?_|refine Qw (ins:=[2,1]) s4 ?_ ?_|refine Qx (ins:=[2,1]) s4 ?_ ?_|refine Qt (ins:=[2,1]) s4 ?_ ?_)<;>(have aB:=@iR;have aQ:=@Qn;have a8:=@lE;have bU:=@lF;refine XM ?_;clear aB aQ a8 bU;(try first|exact rfl|exact True.intro);((try (repeat' with_reducible refine And.intro ?_ ?_));(try any_goals (first|refine zm ?_|exact CL|fail)))))
    ·rfl
    refine Qy tZ (An @Qn (An @lE @lF)) ?_
    by_cases zz:cj (B4.drop 20)=0
    ·have bo:(cj (B4.drop 20) == 0)=true:=by simp[zz]
     have cy:RR=(B4.set 36 255).set 37 255:=(jE.out.trans (if_pos ⟨z,.inr zz⟩)).trans (AI _ _)
     rw[cy]
     clear cy
     (refine Qa (fun q3=>?_) (fun q3=>?_)<;>try exact q3.elim)
     ·exact kA (An @AH @iR)
     ·omega
    ·have cy:RR=B4:=jE.out.trans (if_neg fun h=>h.2.elim af zz)
     rw[cy]
     clear cy
     (refine Qa (fun q3=>?_) (fun q3=>?_)<;>try exact q3.elim)
     ·omega
     ·exact Qs
   ·have bz:(b1 B4 36 == 0 && b1 B4 37 == 0)=false:=by
     have hn:¬ (b1 B4 36=0∧b1 B4 37=0):=fun h=>z (hz.2 h)
     rw[Bool.and_eq_false_iff,beq_eq_false_iff_ne,beq_eq_false_iff_ne];omega
    have cy:RR=B4:=jE.out.trans (if_neg fun h=>z h.1)
    rw[cy]
    clear cy
    ((first|refine Xa (ins:=[2,1]) s4 ?_ ?_|refine Qw (ins:=[2,1]) s4 ?_ ?_|refine Qx (ins:=[2,1]) s4 ?_ ?_|refine Qt (ins:=[2,1]) s4 ?_ ?_)<;>(have aB:=@iR;have aQ:=@Qn;have a8:=@bz;refine XM ?_;clear aB aQ a8;(try first|exact rfl|exact True.intro);((try (repeat' with_reducible refine And.intro ?_ ?_));(try any_goals (first|refine zm ?_|exact CL|fail)))))
    ·rfl
    ((first|apply Yo|apply Yc)<;>(have aB:=@Qn;have aQ:=@bz;refine XG ?_;clear aB aQ;first|exact rfl|exact True.intro|((try (repeat' with_reducible refine And.intro ?_ ?_));(try any_goals (first|refine zm ?_|exact CL|fail)))))
    (refine Qa (fun q3=>?_) (fun q3=>?_)<;>try exact q3.elim)
    exact Qr (An @Qn @bz)
 ·rw[h9]
  have cd:=GB c.gl 17
  have hz:nt 17=.aX [.int .i64 8,.int .i64 6]:=rfl
  rw[hz]at cd
  clear hz
  have AM:28≤l.length:=by omega
  rw[HG.out (AL.out aU fa (fun h=>by omega)),h9]
  refine Qf ?_
  clear HB AK tX GK AL HG tY
  obtain rfl|rfl:side=0∨side=1:=by omega
  ·have bE:Yn l 17 av (oC 0) (oD 17 0) addr port=Yn l 17 av 12 20 addr port:=rfl
   rw[bE]
   clear bE
   have e1:=AE addr ez.1
   have e2:=AF addr ez
   have e3:=AG (av - 1) 17 af af
   have t3:Yn l 17 av 12 20 addr port=(if (w2 (Ql (Ql (tl (Ql (tl (Ql l 12 10 (addr / 65536)) 17 (w2 l 12) (addr / 65536)) 14 10 (addr % 65536)) 17 (w2 (tl (Ql l 12 10 (addr / 65536)) 17 (w2 l 12) (addr / 65536)) 14) (addr % 65536)) 8 10 ((av - 1) * 256 + 17)) 20 26 port) 26=0)∧((17:Int)=17∨cj ((Ql (Ql (tl (Ql (tl (Ql l 12 10 (addr / 65536)) 17 (w2 l 12) (addr / 65536)) 14 10 (addr % 65536)) 17 (w2 (tl (Ql l 12 10 (addr / 65536)) 17 (w2 l 12) (addr / 65536)) 14) (addr % 65536)) 8 10 ((av - 1) * 256 + 17)) 20 26 port).drop 20)=0) then Wg (Ql (Ql (tl (Ql (tl (Ql l 12 10 (addr / 65536)) 17 (w2 l 12) (addr / 65536)) 14 10 (addr % 65536)) 17 (w2 (tl (Ql l 12 10 (addr / 65536)) 17 (w2 l 12) (addr / 65536)) 14) (addr % 65536)) 8 10 ((av - 1) * 256 + 17)) 20 26 port) 26 65535 else Ql (Ql (tl (Ql (tl (Ql l 12 10 (addr / 65536)) 17 (w2 l 12) (addr / 65536)) 14 10 (addr % 65536)) 17 (w2 (tl (Ql l 12 10 (addr / 65536)) 17 (w2 l 12) (addr / 65536)) 14) (addr % 65536)) 8 10 ((av - 1) * 256 + 17)) 20 26 port):=rfl
   rw[t3]
   clear t3
   obtain ⟨hi,nu⟩:∃ x,x=addr / 65536:=⟨_,rfl⟩
   obtain ⟨lo,iP⟩:∃ x,x=addr % 65536:=⟨_,rfl⟩
   rw[← nu]at e1 ⊢
   rw[← iP]at e2 ⊢
   have qN:0≤hi∧hi≤65535:=by omega
   have qO:0≤lo∧lo≤65535:=by omega
   have E1:tl (Ql l 12 10 hi) 17 (w2 l 12) hi=Kh (Ql l 12 10 hi) 26 (w2 l 12) hi:=rfl
   obtain ⟨B1,eV⟩:∃ x,x=tl (Ql l 12 10 hi) 17 (w2 l 12) hi:=⟨_,rfl⟩
   rw[← eV]
   rw[E1]at eV
   have E2:tl (Ql B1 14 10 lo) 17 (w2 B1 14) lo=Kh (Ql B1 14 10 lo) 26 (w2 B1 14) lo:=rfl
   obtain ⟨B2,fP⟩:∃ x,x=tl (Ql B1 14 10 lo) 17 (w2 B1 14) lo:=⟨_,rfl⟩
   rw[← fP]
   rw[E2]at fP
   clear E1 E2
   have eA:B1.length=l.length:=by rw[eV];simp[Qq,Ju]
   have jR:B2.length=l.length:=by rw[fP];simp[Qq,Ju,eA]
   have iQ:(Ql B2 8 10 ((av - 1) * 256 + 17)).length=l.length:=by rw[Qq,jR]
   have iR:(Ql (Ql B2 8 10 ((av - 1) * 256 + 17)) 20 26 port).length=l.length:=by rw[Qq,iQ]
   have s3:=Xh c.gl B2 true 8 10 ((av - 1) * 256 + 17) af af af
   have s4:=Xh c.gl (Ql B2 8 10 ((av - 1) * 256 + 17)) true 20 26 port af af af
   rw[jR]at s3
   rw[iQ]at s4
   generalize Ql (Ql B2 8 10 ((av - 1) * 256 + 17)) 20 26 port=B4 at *
   generalize Ql B2 8 10 ((av - 1) * 256 + 17)=B3 at *
   obtain ⟨RR,iS⟩:∃ x,x=(if (w2 B4 26=0)∧((17:Int)=17∨cj (B4.drop 20)=0) then Wg B4 26 65535 else B4):=⟨_,rfl⟩
   rw[← iS]
   have jE:=Lib.hid iS
   clear iS
   (refine Qa (fun g3=>?_) (fun g3=>?_)<;>try exact g3.elim)
   refine Qf ?_
   refine Jw ?_
   have iT:addr % 65536=lo:=iP.symm
   clear iP
   refine Aj cd (An @e1 @iT) ?_
   refine Xr (fun k:Nat=>k≤2) (fun k=>⟨[(1,.int .i64 0),(3,.int .i64 port),(10,.ptr 0 0),(12,.ptr 2 0),(14,.int .i64 26),(15,.int .i64 12),(86,.agg [.int .i64 hi,.int .i64 lo]),(87,.int .i64 (kI k))],[(0,.cells [.int .i64 17,.int .i64 aA,.int .i64 ah,.int .i64 dst,.int .i64 aj,.int .i64 av,.int .i64 id,.int .i64 flags,.int .i64 seq,.int .i64 aL,.int .i64 win,.str body]),(1,.cells (Xo (tW k l B1 B2))),(2,.cells [.sl 1 1 0 l.length l.length,.bool true])],3⟩) (fun k=>2 - k) xN.mixed hN
    ⟨0,by omega,[(1,3),(2,4)],by exact Qr (An @Wj @kD)⟩ fun k hk=>?_
   obtain rfl|rfl|rfl:k=0∨k=1∨k=2:=by omega
   ·refine Zy (An @Wj @kD) ?_
    (refine Qa (fun q1=>?_) (fun q1=>?_)<;>try exact q1.elim)
    refine Zy (An @Wj @kD) ?_
    refine ox (gG c.gl l 12) ?_
    ((first|refine Xa (ins:=[2,1]) (Xh c.gl l true 12 10 hi (by omega) (by omega) (by omega)) ?_ ?_|refine Qw (ins:=[2,1]) (Xh c.gl l true 12 10 hi (by omega) (by omega) (by omega)) ?_ ?_|refine Qx (ins:=[2,1]) (Xh c.gl l true 12 10 hi (by omega) (by omega) (by omega)) ?_ ?_|refine Qt (ins:=[2,1]) (Xh c.gl l true 12 10 hi (by omega) (by omega) (by omega)) ?_ ?_)<;>(have aB:=@eA;refine XM ?_;clear aB;(try first|exact rfl|exact True.intro);((try (repeat' with_reducible refine And.intro ?_ ?_));(try any_goals (first|refine zm ?_|exact CL|fail)))))
    ·rfl
    (refine Qa (fun q2=>?_) (fun q2=>?_)<;>try exact q2.elim)
    refine Ux ?_
    ((first|refine Xa (ins:=[2,1]) (Yg c.gl (Ql l 12 10 hi) true 26 (w2 l 12) hi (by rw[Qq];omega) (by rw[Qq];omega)) ?_ ?_|refine Qw (ins:=[2,1]) (Yg c.gl (Ql l 12 10 hi) true 26 (w2 l 12) hi (by rw[Qq];omega) (by rw[Qq];omega)) ?_ ?_|refine Qx (ins:=[2,1]) (Yg c.gl (Ql l 12 10 hi) true 26 (w2 l 12) hi (by rw[Qq];omega) (by rw[Qq];omega)) ?_ ?_|refine Qt (ins:=[2,1]) (Yg c.gl (Ql l 12 10 hi) true 26 (w2 l 12) hi (by rw[Qq];omega) (by rw[Qq];omega)) ?_ ?_)<;>(have aB:=@Qq;refine XM ?_;clear aB;(try first|exact rfl|exact True.intro);((try (repeat' with_reducible refine And.intro ?_ ?_));(try any_goals (first|refine zm ?_|exact CL|fail)))))
    ·rfl
    refine ⟨1,by omega,⟨[],?_⟩,by omega⟩
    exact kA (An @Wn (An @kE @eV))
   ·refine Zy (An @Wn @kE) ?_
    (refine Qa (fun q1=>?_) (fun q1=>?_)<;>try exact q1.elim)
    refine Zy (An @Wn @kE) ?_
    refine ox (gG c.gl B1 14) ?_
    ((first|refine Xa (ins:=[2,1]) (Xh c.gl B1 true 14 10 lo (by omega) (by omega) (by omega)) ?_ ?_|refine Qw (ins:=[2,1]) (Xh c.gl B1 true 14 10 lo (by omega) (by omega) (by omega)) ?_ ?_|refine Qx (ins:=[2,1]) (Xh c.gl B1 true 14 10 lo (by omega) (by omega) (by omega)) ?_ ?_|refine Qt (ins:=[2,1]) (Xh c.gl B1 true 14 10 lo (by omega) (by omega) (by omega)) ?_ ?_)<;>(have aB:=@eA;refine XM ?_;clear aB;(try first|exact rfl|exact True.intro);((try (repeat' with_reducible refine And.intro ?_ ?_));(try any_goals (first|refine zm ?_|exact CL|fail)))))
    ·rfl
    (refine Qa (fun q2=>?_) (fun q2=>?_)<;>try exact q2.elim)
    refine Ux ?_
    ((first|refine Xa (ins:=[2,1]) (Yg c.gl (Ql B1 14 10 lo) true 26 (w2 B1 14) lo (by rw[Qq];omega) (by rw[Qq];omega)) ?_ ?_|refine Qw (ins:=[2,1]) (Yg c.gl (Ql B1 14 10 lo) true 26 (w2 B1 14) lo (by rw[Qq];omega) (by rw[Qq];omega)) ?_ ?_|refine Qx (ins:=[2,1]) (Yg c.gl (Ql B1 14 10 lo) true 26 (w2 B1 14) lo (by rw[Qq];omega) (by rw[Qq];omega)) ?_ ?_|refine Qt (ins:=[2,1]) (Yg c.gl (Ql B1 14 10 lo) true 26 (w2 B1 14) lo (by rw[Qq];omega) (by rw[Qq];omega)) ?_ ?_)<;>(have aB:=@Qq;have aQ:=@eA;refine XM ?_;clear aB aQ;(try first|exact rfl|exact True.intro);((try (repeat' with_reducible refine And.intro ?_ ?_));(try any_goals (first|refine zm ?_|exact CL|fail)))))
    ·rfl
    refine ⟨2,by omega,⟨[],?_⟩,by omega⟩
    exact kA (An @Wo (An @kF @fP))
   refine Zy (An @Wo @kF) ?_
   (refine Qa (fun q1=>?_) (fun q1=>?_)<;>try exact q1.elim)
   refine Zy (An @Wo (An @kF (An @pJ @e3))) ?_
   ((first|refine Xa (ins:=[2,1]) s3 ?_ ?_|refine Qw (ins:=[2,1]) s3 ?_ ?_|refine Qx (ins:=[2,1]) s3 ?_ ?_|refine Qt (ins:=[2,1]) s3 ?_ ?_)<;>(have aB:=@pJ;have aQ:=@e3;have a8:=@iQ;refine XM ?_;clear aB aQ a8;(try first|exact rfl|exact True.intro);((try (repeat' with_reducible refine And.intro ?_ ?_));(try any_goals (first|refine zm ?_|exact CL|fail)))))
   ·rfl
   (refine Qa (fun q2=>?_) (fun q2=>?_)<;>try exact q2.elim)
   refine Ux ?_
   have hz:=AJ B4 26 af
   have tZ:=pF c.gl (B4.drop 20) (by rw[List.length_drop];omega)
   by_cases z:w2 B4 26=0
   ·have lE:(b1 B4 26 == 0)=true:=by simp[(hz.1 z).1]
    have lF:(b1 B4 27 == 0)=true:=by simp[(hz.1 z).2]
    ((first|refine Xa (ins:=[2,1]) s4 ?_ ?_|refine Qw (ins:=[2,1]) s4 ?_ ?_|refine Qx (ins:=[2,1]) s4 ?_ ?_|refine Qt (ins:=[2,1]) s4 ?_ ?_)<;>(have aB:=@iR;have aQ:=@Qn;have a8:=@lE;have bU:=@lF;refine XM ?_;clear aB aQ a8 bU;(try first|exact rfl|exact True.intro);((try (repeat' with_reducible refine And.intro ?_ ?_));(try any_goals (first|refine zm ?_|exact CL|fail)))))
    ·rfl
    have cy:RR=(B4.set 26 255).set 27 255:=(jE.out.trans (if_pos ⟨z,.inl rfl⟩)).trans (AI _ _)
    rw[cy]
    clear cy
    ((first|apply Yo|apply Yc)<;>(have aB:=@Qn;have aQ:=@lE;have a8:=@lF;refine XG ?_;clear aB aQ a8;first|exact rfl|exact True.intro|((try (repeat' with_reducible refine And.intro ?_ ?_));(try any_goals (first|refine zm ?_|exact CL|fail)))))
    (refine Qa (fun q3=>?_) (fun q3=>?_)<;>try exact q3.elim)
    exact kA (An @AH @iR)
   ·have bz:(b1 B4 26 == 0 && b1 B4 27 == 0)=false:=by
     have hn:¬ (b1 B4 26=0∧b1 B4 27=0):=fun h=>z (hz.2 h)
     rw[Bool.and_eq_false_iff,beq_eq_false_iff_ne,beq_eq_false_iff_ne];omega
    have cy:RR=B4:=jE.out.trans (if_neg fun h=>z h.1)
    rw[cy]
    clear cy
    ((first|refine Xa (ins:=[2,1]) s4 ?_ ?_|refine Qw (ins:=[2,1]) s4 ?_ ?_|refine Qx (ins:=[2,1]) s4 ?_ ?_|refine Qt (ins:=[2,1]) s4 ?_ ?_)<;>(have aB:=@iR;have aQ:=@Qn;have a8:=@bz;refine XM ?_;clear aB aQ a8;(try first|exact rfl|exact True.intro);((try (repeat' with_reducible refine And.intro ?_ ?_));(try any_goals (first|refine zm ?_|exact CL|fail)))))
    ·rfl
    ((first|apply Yo|apply Yc)<;>(have aB:=@Qn;have aQ:=@bz;refine XG ?_;clear aB aQ;first|exact rfl|exact True.intro|((try (repeat' with_reducible refine And.intro ?_ ?_));(try any_goals (first|refine zm ?_|exact CL|fail)))))
    (refine Qa (fun q3=>?_) (fun q3=>?_)<;>try exact q3.elim)
    exact Qr (An @Qn @bz)
  ·have bE:Yn l 17 av (oC 1) (oD 17 1) addr port=Yn l 17 av 16 22 addr port:=rfl
   rw[bE]
   clear bE
   have e1:=AE addr ez.1
   have e2:=AF addr ez
   have e3:=AG (av - 1) 17 af af
   have t3:Yn l 17 av 16 22 addr port=(if (w2 (Ql (Ql (tl (Ql (tl (Ql l 16 10 (addr / 65536)) 17 (w2 l 16) (addr / 65536)) 18 10 (addr % 65536)) 17 (w2 (tl (Ql l 16 10 (addr / 65536)) 17 (w2 l 16) (addr / 65536)) 18) (addr % 65536)) 8 10 ((av - 1) * 256 + 17)) 22 26 port) 26=0)∧((17:Int)=17∨cj ((Ql (Ql (tl (Ql (tl (Ql l 16 10 (addr / 65536)) 17 (w2 l 16) (addr / 65536)) 18 10 (addr % 65536)) 17 (w2 (tl (Ql l 16 10 (addr / 65536)) 17 (w2 l 16) (addr / 65536)) 18) (addr % 65536)) 8 10 ((av - 1) * 256 + 17)) 22 26 port).drop 20)=0) then Wg (Ql (Ql (tl (Ql (tl (Ql l 16 10 (addr / 65536)) 17 (w2 l 16) (addr / 65536)) 18 10 (addr % 65536)) 17 (w2 (tl (Ql l 16 10 (addr / 65536)) 17 (w2 l 16) (addr / 65536)) 18) (addr % 65536)) 8 10 ((av - 1) * 256 + 17)) 22 26 port) 26 65535 else Ql (Ql (tl (Ql (tl (Ql l 16 10 (addr / 65536)) 17 (w2 l 16) (addr / 65536)) 18 10 (addr % 65536)) 17 (w2 (tl (Ql l 16 10 (addr / 65536)) 17 (w2 l 16) (addr / 65536)) 18) (addr % 65536)) 8 10 ((av - 1) * 256 + 17)) 22 26 port):=rfl
   rw[t3]
   clear t3
   obtain ⟨hi,nu⟩:∃ x,x=addr / 65536:=⟨_,rfl⟩
   obtain ⟨lo,iP⟩:∃ x,x=addr % 65536:=⟨_,rfl⟩
   rw[← nu]at e1 ⊢
   rw[← iP]at e2 ⊢
   have qN:0≤hi∧hi≤65535:=by omega
   have qO:0≤lo∧lo≤65535:=by omega
   have E1:tl (Ql l 16 10 hi) 17 (w2 l 16) hi=Kh (Ql l 16 10 hi) 26 (w2 l 16) hi:=rfl
   obtain ⟨B1,eV⟩:∃ x,x=tl (Ql l 16 10 hi) 17 (w2 l 16) hi:=⟨_,rfl⟩
   rw[← eV]
   rw[E1]at eV
   have E2:tl (Ql B1 18 10 lo) 17 (w2 B1 18) lo=Kh (Ql B1 18 10 lo) 26 (w2 B1 18) lo:=rfl
   obtain ⟨B2,fP⟩:∃ x,x=tl (Ql B1 18 10 lo) 17 (w2 B1 18) lo:=⟨_,rfl⟩
   rw[← fP]
   rw[E2]at fP
   clear E1 E2
   have eA:B1.length=l.length:=by rw[eV];simp[Qq,Ju]
   have jR:B2.length=l.length:=by rw[fP];simp[Qq,Ju,eA]
   have iQ:(Ql B2 8 10 ((av - 1) * 256 + 17)).length=l.length:=by rw[Qq,jR]
   have iR:(Ql (Ql B2 8 10 ((av - 1) * 256 + 17)) 22 26 port).length=l.length:=by rw[Qq,iQ]
   have s3:=Xh c.gl B2 true 8 10 ((av - 1) * 256 + 17) af af af
   have s4:=Xh c.gl (Ql B2 8 10 ((av - 1) * 256 + 17)) true 22 26 port af af af
   rw[jR]at s3
   rw[iQ]at s4
   generalize Ql (Ql B2 8 10 ((av - 1) * 256 + 17)) 22 26 port=B4 at *
   generalize Ql B2 8 10 ((av - 1) * 256 + 17)=B3 at *
   obtain ⟨RR,iS⟩:∃ x,x=(if (w2 B4 26=0)∧((17:Int)=17∨cj (B4.drop 20)=0) then Wg B4 26 65535 else B4):=⟨_,rfl⟩
   rw[← iS]
   have jE:=Lib.hid iS
   clear iS
   (refine Qa (fun g3=>?_) (fun g3=>?_)<;>try exact g3.elim)
   refine Qf ?_
   refine Jw ?_
   have iT:addr % 65536=lo:=iP.symm
   clear iP
   refine Aj cd (An @e1 @iT) ?_
   refine Xr (fun k:Nat=>k≤2) (fun k=>⟨[(1,.int .i64 1),(3,.int .i64 port),(10,.ptr 0 0),(12,.ptr 2 0),(14,.int .i64 26),(15,.int .i64 16),(86,.agg [.int .i64 hi,.int .i64 lo]),(87,.int .i64 (kI k))],[(0,.cells [.int .i64 17,.int .i64 aA,.int .i64 ah,.int .i64 dst,.int .i64 aj,.int .i64 av,.int .i64 id,.int .i64 flags,.int .i64 seq,.int .i64 aL,.int .i64 win,.str body]),(1,.cells (Xo (tW k l B1 B2))),(2,.cells [.sl 1 1 0 l.length l.length,.bool true])],3⟩) (fun k=>2 - k) xN.mixed hN
    ⟨0,by omega,[(1,3),(2,4)],by exact Qr (An @Wj @kD)⟩ fun k hk=>?_
   obtain rfl|rfl|rfl:k=0∨k=1∨k=2:=by omega
   ·refine Zy (An @Wj @kD) ?_
    (refine Qa (fun q1=>?_) (fun q1=>?_)<;>try exact q1.elim)
    refine Zy (An @Wj @kD) ?_
    refine ox (gG c.gl l 16) ?_
    ((first|refine Xa (ins:=[2,1]) (Xh c.gl l true 16 10 hi (by omega) (by omega) (by omega)) ?_ ?_|refine Qw (ins:=[2,1]) (Xh c.gl l true 16 10 hi (by omega) (by omega) (by omega)) ?_ ?_|refine Qx (ins:=[2,1]) (Xh c.gl l true 16 10 hi (by omega) (by omega) (by omega)) ?_ ?_|refine Qt (ins:=[2,1]) (Xh c.gl l true 16 10 hi (by omega) (by omega) (by omega)) ?_ ?_)<;>(have aB:=@eA;refine XM ?_;clear aB;(try first|exact rfl|exact True.intro);((try (repeat' with_reducible refine And.intro ?_ ?_));(try any_goals (first|refine zm ?_|exact CL|fail)))))
    ·rfl
    (refine Qa (fun q2=>?_) (fun q2=>?_)<;>try exact q2.elim)
    refine Ux ?_
    ((first|refine Xa (ins:=[2,1]) (Yg c.gl (Ql l 16 10 hi) true 26 (w2 l 16) hi (by rw[Qq];omega) (by rw[Qq];omega)) ?_ ?_|refine Qw (ins:=[2,1]) (Yg c.gl (Ql l 16 10 hi) true 26 (w2 l 16) hi (by rw[Qq];omega) (by rw[Qq];omega)) ?_ ?_|refine Qx (ins:=[2,1]) (Yg c.gl (Ql l 16 10 hi) true 26 (w2 l 16) hi (by rw[Qq];omega) (by rw[Qq];omega)) ?_ ?_|refine Qt (ins:=[2,1]) (Yg c.gl (Ql l 16 10 hi) true 26 (w2 l 16) hi (by rw[Qq];omega) (by rw[Qq];omega)) ?_ ?_)<;>(have aB:=@Qq;refine XM ?_;clear aB;(try first|exact rfl|exact True.intro);((try (repeat' with_reducible refine And.intro ?_ ?_));(try any_goals (first|refine zm ?_|exact CL|fail)))))
    ·rfl
    refine ⟨1,by omega,⟨[],?_⟩,by omega⟩
    exact kA (An @Wn (An @kE @eV))
   ·refine Zy (An @Wn @kE) ?_
    (refine Qa (fun q1=>?_) (fun q1=>?_)<;>try exact q1.elim)
    refine Zy (An @Wn @kE) ?_
    refine ox (gG c.gl B1 18) ?_
    ((first|refine Xa (ins:=[2,1]) (Xh c.gl B1 true 18 10 lo (by omega) (by omega) (by omega)) ?_ ?_|refine Qw (ins:=[2,1]) (Xh c.gl B1 true 18 10 lo (by omega) (by omega) (by omega)) ?_ ?_|refine Qx (ins:=[2,1]) (Xh c.gl B1 true 18 10 lo (by omega) (by omega) (by omega)) ?_ ?_|refine Qt (ins:=[2,1]) (Xh c.gl B1 true 18 10 lo (by omega) (by omega) (by omega)) ?_ ?_)<;>(have aB:=@eA;refine XM ?_;clear aB;(try first|exact rfl|exact True.intro);((try (repeat' with_reducible refine And.intro ?_ ?_));(try any_goals (first|refine zm ?_|exact CL|fail)))))
    ·rfl
    (refine Qa (fun q2=>?_) (fun q2=>?_)<;>try exact q2.elim)
    refine Ux ?_
    ((first|refine Xa (ins:=[2,1]) (Yg c.gl (Ql B1 18 10 lo) true 26 (w2 B1 18) lo (by rw[Qq];omega) (by rw[Qq];omega)) ?_ ?_|refine Qw (ins:=[2,1]) (Yg c.gl (Ql B1 18 10 lo) true 26 (w2 B1 18) lo (by rw[Qq];omega) (by rw[Qq];omega)) ?_ ?_|refine Qx (ins:=[2,1]) (Yg c.gl (Ql B1 18 10 lo) true 26 (w2 B1 18) lo (by rw[Qq];omega) (by rw[Qq];omega)) ?_ ?_|refine Qt (ins:=[2,1]) (Yg c.gl (Ql B1 18 10 lo) true 26 (w2 B1 18) lo (by rw[Qq];omega) (by rw[Qq];omega)) ?_ ?_)<;>(have aB:=@Qq;have aQ:=@eA;refine XM ?_;clear aB aQ;(try first|exact rfl|exact True.intro);((try (repeat' with_reducible refine And.intro ?_ ?_));(try any_goals (first|refine zm ?_|exact CL|fail)))))
    ·rfl
    refine ⟨2,by omega,⟨[],?_⟩,by omega⟩
    exact kA (An @Wo (An @kF @fP))
   refine Zy (An @Wo @kF) ?_
   (refine Qa (fun q1=>?_) (fun q1=>?_)<;>try exact q1.elim)
   refine Zy (An @Wo (An @kF (An @pJ @e3))) ?_
   ((first|refine Xa (ins:=[2,1]) s3 ?_ ?_|refine Qw (ins:=[2,1]) s3 ?_ ?_|refine Qx (ins:=[2,1]) s3 ?_ ?_|refine Qt (ins:=[2,1]) s3 ?_ ?_)<;>(have aB:=@pJ;have aQ:=@e3;have a8:=@iQ;refine XM ?_;clear aB aQ a8;(try first|exact rfl|exact True.intro);((try (repeat' with_reducible refine And.intro ?_ ?_));(try any_goals (first|refine zm ?_|exact CL|fail)))))
   ·rfl
   (refine Qa (fun q2=>?_) (fun q2=>?_)<;>try exact q2.elim)
   refine Ux ?_
   have hz:=AJ B4 26 af
   have tZ:=pF c.gl (B4.drop 20) (by rw[List.length_drop];omega)
   by_cases z:w2 B4 26=0
   ·have lE:(b1 B4 26 == 0)=true:=by simp[(hz.1 z).1]
    have lF:(b1 B4 27 == 0)=true:=by simp[(hz.1 z).2]
    ((first|refine Xa (ins:=[2,1]) s4 ?_ ?_|refine Qw (ins:=[2,1]) s4 ?_ ?_|refine Qx (ins:=[2,1]) s4 ?_ ?_|refine Qt (ins:=[2,1]) s4 ?_ ?_)<;>(have aB:=@iR;have aQ:=@Qn;have a8:=@lE;have bU:=@lF;refine XM ?_;clear aB aQ a8 bU;(try first|exact rfl|exact True.intro);((try (repeat' with_reducible refine And.intro ?_ ?_));(try any_goals (first|refine zm ?_|exact CL|fail)))))
    ·rfl
    have cy:RR=(B4.set 26 255).set 27 255:=(jE.out.trans (if_pos ⟨z,.inl rfl⟩)).trans (AI _ _)
    rw[cy]
    clear cy
    ((first|apply Yo|apply Yc)<;>(have aB:=@Qn;have aQ:=@lE;have a8:=@lF;refine XG ?_;clear aB aQ a8;first|exact rfl|exact True.intro|((try (repeat' with_reducible refine And.intro ?_ ?_));(try any_goals (first|refine zm ?_|exact CL|fail)))))
    (refine Qa (fun q3=>?_) (fun q3=>?_)<;>try exact q3.elim)
    exact kA (An @AH @iR)
   ·have bz:(b1 B4 26 == 0 && b1 B4 27 == 0)=false:=by
     have hn:¬ (b1 B4 26=0∧b1 B4 27=0):=fun h=>z (hz.2 h)
     rw[Bool.and_eq_false_iff,beq_eq_false_iff_ne,beq_eq_false_iff_ne];omega
    have cy:RR=B4:=jE.out.trans (if_neg fun h=>z h.1)
    rw[cy]
    clear cy
    ((first|refine Xa (ins:=[2,1]) s4 ?_ ?_|refine Qw (ins:=[2,1]) s4 ?_ ?_|refine Qx (ins:=[2,1]) s4 ?_ ?_|refine Qt (ins:=[2,1]) s4 ?_ ?_)<;>(have aB:=@iR;have aQ:=@Qn;have a8:=@bz;refine XM ?_;clear aB aQ a8;(try first|exact rfl|exact True.intro);((try (repeat' with_reducible refine And.intro ?_ ?_));(try any_goals (first|refine zm ?_|exact CL|fail)))))
    ·rfl
    ((first|apply Yo|apply Yc)<;>(have aB:=@Qn;have aQ:=@bz;refine XG ?_;clear aB aQ;first|exact rfl|exact True.intro|((try (repeat' with_reducible refine And.intro ?_ ?_));(try any_goals (first|refine zm ?_|exact CL|fail)))))
    (refine Qa (fun q3=>?_) (fun q3=>?_)<;>try exact q3.elim)
    exact Qr (An @Qn @bz)
end Go.Proofs.YtogckmommodmhaaGreatDoor
