import Derived.Test.YtogckmommodmhaaGreatDoorZw8
namespace Go.Proofs.YtogckmommodmhaaGreatDoor
open Go.RowKit
set_option linter.all false
set_option linter.unusedSimpArgs false
set_option maxRecDepth 100000
theorem LG {f:List UInt8} (h:bZ f=0):H6 f∧Yo (az f)=0:=by
 have h1:¬ G1 f:=fun h1=>by rw[C8 h1]at h;cases h
 have h2:¬ G2 f:=fun h2=>by rw[Lx h1 h2]at h;cases h
 have h3:¬ G3 f:=fun h3=>by rw[Gq h1 h2 h3]at h;cases h
 have h4:¬ G4 f:=fun h4=>by rw[Ly h1 h2 h3 h4]at h;cases h
 have k:H4 f:=⟨h1,h2,h3,h4⟩
 have h5:¬ G5 f:=fun h5=>by rw[Lz k h5]at h;cases h
 have h6:¬ G6 f:=fun h6=>by rw[C9 k h5 h6]at h;cases h
 have k6:H6 f:=⟨k,h5,h6⟩
 have h7:¬ G7 f:=fun h7=>by rw[Aq k6 h7]at h;cases h
 have h8:¬ G8 f:=fun h8=>by rw[Da k6 h7 h8]at h;cases h
 have h9:¬ G9 f:=fun h9=>by rw[LA k6 h7 h8 h9]at h;cases h
 have fC:¬ qG f:=fun fC=>by rw[Db k6 h7 h8 h9 fC]at h;cases h
 exact ⟨k6,by rw[← Dc k6 h7 h8 h9 fC];exact h⟩
theorem Aw (f:List UInt8):(az f).af=b1 f 9:=by
 unfold az
 dsimp only
 split
 ·rfl
 ·split<;>rfl
theorem Ybm {f:List UInt8} (h:bZ f=0) (h9:b1 f 9=6):40≤f.length:=by
 have:=(LG h).1.g6
 have h2:=As h
 unfold G6 at this
 rw[h9,List.length_drop]at this
 simp only[if_true]at this
 omega
theorem Ax (a:Int) (h:0≤a):a.fdiv (2 ^ min 16 64)=a / 65536:=by
 rw[Int.fdiv_eq_ediv_of_nonneg _ aI];rfl
theorem Ay (a:Int) (h:0≤a∧a≤4294967295):bits .and .i64 a 65535=a % 65536:=by
 obtain ⟨x,rfl⟩:=Int.eq_ofNat_of_zero_le h.1
 show IntKind.i64.wrap (((BitVec.ofInt 64 (x:Int)) &&& (BitVec.ofInt 64 65535)).toNat:Int)=_
 rw[BitVec.toNat_and,BitVec.toNat_ofInt,BitVec.toNat_ofInt]
 have e1:((x:Int) % ((2 ^ 64:Nat):Int)).toNat=x:=by omega
 have e2:((65535:Int) % ((2 ^ 64:Nat):Int)).toNat=2 ^ 16 - 1:=by decide
 rw[e1,e2,Nat.and_two_pow_sub_one_eq_mod,IntKind.wrap_i64]
 omega
theorem Az (t p:Int) (ht:0≤t∧t≤255) (hp:0≤p∧p≤255):bits .or .i64 (t * 256) p=t * 256 + p:=by
 have h:=Iv t p hp.1 ae
 rw[IntKind.wrap_i64,IntKind.wrap_i64]at h
 have e1:(t * 256 + 9223372036854775808) % 18446744073709551616 - 9223372036854775808=t * 256:=by omega
 have e2:(256 * t + p + 9223372036854775808) % 18446744073709551616 - 9223372036854775808=t * 256 + p:=by omega
 rw[e1,e2]at h;exact h
theorem pJ:(2:Int) ^ min 8 64=256:=by decide
theorem AA (l:List UInt8) (i:Nat):(Xg l).set i (.int .u8 255)=Xg (l.set i 255):=by
 have e:(.int .u8 255:AV)=.int .u8 ((255:UInt8).toNat:Int):=rfl
 rw[e,Xg,Xg,List.map_set]
theorem AB (l:List UInt8) (k:Nat):Wf l k 65535=(l.set k 255).set (k + 1) 255:=by
 unfold Wf
 rw[show Qg 65535 1=255 by decide,show Qg 65535 0=255 by decide]
theorem AD (l:List UInt8) (k:Nat) (h:k + 2≤l.length):w2 l k=0 ↔ b1 l k=0∧b1 l (k + 1)=0:=by
 have:=Yeh l k h
 have:=sD l k
 have:=sD l (k + 1)
 omega
def kI (k:Nat):Int:=k
theorem kz:kI 0=0:=rfl
theorem kA:kI 1=1:=rfl
theorem kB:kI 2=2:=rfl
def ud (k:Nat) (a b c:List UInt8):List UInt8:=match k with|0=>a|1=>b|_=>c
theorem Wj (a b c:List UInt8):ud 0 a b c=a:=rfl
theorem Wl (a b c:List UInt8):ud 1 a b c=b:=rfl
theorem Wi (a b c:List UInt8):ud 2 a b c=c:=rfl
def qI (l:List UInt8) (side addr port:Int):AV :=
 if bZ l≠0 then .aU [.str [],.int .i64 (bZ l)]
 else if Ug (az l) side addr port≠0 then .aU [.str [],.int .i64 (Ug (az l) side addr port)]
 else .aU [.str (Yc l (az l).af (az l).av (oE side) (oF (az l).af side) addr port),.int .i64 0]
theorem Ybf (l:List UInt8) (side addr port:Int):Qf 0 (qI l side addr port):=by
 unfold qI;split
 ·simp[Qf,ah]
 ·split<;>simp[Qf,ah]
theorem Xve {l:List UInt8} {side addr port e:Int} (h:bZ l=0) (ht:Ug (az l) side addr port=e) (he:e≠0):qI l side addr port=.aU [.str [],.int .i64 e]:=by
 unfold qI;rw[if_neg ae,ht,if_pos he]
theorem te2 {p:Pk} {side addr port:Int} (h:side < 0∨side > 1∨¬ (0≤addr∧addr≤4294967295)∨¬ (0≤port∧port≤65535)):Ug p side addr port=2:=if_pos h
theorem Yfs {p:Pk} {side addr port:Int} (h:¬ (side < 0∨side > 1∨¬ (0≤addr∧addr≤4294967295)∨¬ (0≤port∧port≤65535))) (h2:p.av=1):Ug p side addr port=12:=(if_neg h).trans (if_pos h2)
theorem te4 {p:Pk} {side addr port:Int} (h:¬ (side < 0∨side > 1∨¬ (0≤addr∧addr≤4294967295)∨¬ (0≤port∧port≤65535))) (h2:¬ p.av=1) (h3:p.af=1∧¬ (side=0 ↔ p.flags=8)):Ug p side addr port=4:=(if_neg h).trans ((if_neg h2).trans (if_pos h3))
theorem te0 {p:Pk} {side addr port:Int} (h:¬ (side < 0∨side > 1∨¬ (0≤addr∧addr≤4294967295)∨¬ (0≤port∧port≤65535))) (h2:¬ p.av=1) (h3:¬ (p.af=1∧¬ (side=0 ↔ p.flags=8))):Ug p side addr port=0:=(if_neg h).trans ((if_neg h2).trans (if_neg h3))
set_option maxHeartbeats 16000000 in
set_option maxRecDepth 20000 in
theorem Sx (gl:Nat→AV) (l:List UInt8) (side addr port:Int) (hl:l.length≤140737488351232):PS Tryz.prog gl 94 [.str l,.int .i64 side,.int .i64 addr,.int .i64 port] (qI l side addr port):=by
 refine xD.ps (of_decide_eq_true rfl) (Ybf l side addr port) fun c hN hg=>?_
 conv in aQ _ _=>cbv
 have hP:=xH c.gl l hl
 by_cases he:bZ l=0
 rotate_left
 ·rw[Yb rfl he]at hP
  have hr:qI l side addr port=.aU [.str [],.int .i64 (bZ l)]:=if_pos he
  rw[hr]
  clear hr
  generalize bZ l=E at *
  unfold eF Pk.enc at hP
  dsimp only at hP
  refine Qe ?_
  refine Zq hP ?_
  (refine Qa (fun g1=>?_) (fun g1=>?_)<;>try exact g1.elim)
  ·exact Qr
  ·exact (he g1).elim
 obtain ⟨l28,l65⟩:=As he
 have Df:=@Ybm l he
 have Dg:=Aw l
 obtain ⟨hK6,mf⟩:=LG he
 obtain ⟨hp,hr,fk,lS⟩:=Wc mf
 rw[Ss he]at hP
 have fw:=Sm c.gl [addr] au
 have Gu:=Ls c.gl [port] au
 have eO:=fun e=>@Xve l side addr port e he
 have Dh:=@te2 (az l) side addr port
 have vN:=@Yfs (az l) side addr port
 have Di:=@te4 (az l) side addr port
 have Dj:=@te0 (az l) side addr port
 have vO:Ug (az l) side addr port=0→qI l side addr port=.aU [.str (Yc l (az l).af (az l).av (oE side) (oF (az l).af side) addr port),.int .i64 0]:=fun h=>by
  unfold qI;rw[if_neg ae,if_neg ae]
 generalize qI l side addr port=TT at *
 generalize Ug (az l) side addr port=TE at *
 obtain ⟨r1,r2,r3,r4,r5,r6,r7,r8,r9,ic⟩:=hr
 clear lS fk mf hK6
 generalize az l=q at *
 obtain ⟨af,aB,ai,dst,aj,av,id,flags,seq,aL,win,body⟩:=q
 unfold Pk.enc at hP
 dsimp only at *
 clear r1 r2 r3 r4 r5 r6 r7 r8
 have HB:=Lib.hid eO
 have AE:=Lib.hid Dh
 have uf:=Lib.hid vN
 have Gv:=Lib.hid Di
 have AF:=Lib.hid Dj
 have HG:=Lib.hid vO
 have ug:=Lib.hid Df
 clear eO Dh vN Di Dj vO Df
 by_cases Sy:side < 0∨side > 1
 ·rw[HB.out _ (AE.out ae) aI]
  have d1:(decide (side < 0) || decide (1 < side))=true:=by simp;omega
  refine Qe ?_
  refine Zq hP ?_
  (refine Qa (fun g1=>?_) (fun g1=>?_)<;>try exact g1.elim)
  refine Qh @d1 ?_
  ((first|apply Yd|apply Xr)<;>(have aJ:=@d1;refine XG ?_;clear aJ;first|exact rfl|exact True.intro|((try (repeat' with_reducible refine And.intro ?_ ?_));(try any_goals (first|refine zm ?_|exact CL|fail)))))
  ((first|apply Yd|apply Xr)<;>(have aJ:=@d1;refine XG ?_;clear aJ;first|exact rfl|exact True.intro|((try (repeat' with_reducible refine And.intro ?_ ?_));(try any_goals (first|refine zm ?_|exact CL|fail)))))
  ((first|apply Yd|apply Xr)<;>(have aJ:=@d1;refine XG ?_;clear aJ;first|exact rfl|exact True.intro|((try (repeat' with_reducible refine And.intro ?_ ?_));(try any_goals (first|refine zm ?_|exact CL|fail)))))
  ((first|apply Yd|apply Xr)<;>(have aJ:=@d1;refine XG ?_;clear aJ;first|exact rfl|exact True.intro|((try (repeat' with_reducible refine And.intro ?_ ?_));(try any_goals (first|refine zm ?_|exact CL|fail)))))
  (refine Qa (fun g2=>?_) (fun g2=>?_)<;>try exact g2.elim)
  exact Qr
 have d1:(decide (side < 0) || decide (1 < side))=false:=by simp;omega
 by_cases eG:0≤addr∧addr≤4294967295
 rotate_left
 ·rw[HB.out _ (AE.out ae) aI]
  have hb:[addr].all (fB 4294967295)=false:=by simp[fB];omega
  rw[hb]at fw
  refine Qe ?_
  refine Zq hP ?_
  (refine Qa (fun g1=>?_) (fun g1=>?_)<;>try exact g1.elim)
  refine Qh @d1 ?_
  ((refine vC ?_ ?_ ?_);(focus (have aJ:=@d1;refine XG ?_;clear aJ;try first|exact rfl|exact True.intro));(focus (have aJ:=@d1;refine XG ?_;clear aJ;try trivial)))
  refine Zj @d1 ?_
  ((first|apply Kz|apply Jx)<;>(first|exact fw|(with_reducible (exact Jo.bool _))|(have aJ:=@d1;refine XG ?_;clear aJ;first|exact rfl|exact True.intro|((try (repeat' with_reducible refine And.intro ?_ ?_));(try any_goals (first|refine zm ?_|exact CL|fail))))))
  ((first|apply Yd|apply Xr)<;>(have aJ:=@d1;refine XG ?_;clear aJ;first|exact rfl|exact True.intro|((try (repeat' with_reducible refine And.intro ?_ ?_));(try any_goals (first|refine zm ?_|exact CL|fail)))))
  ((first|apply Yd|apply Xr)<;>(have aJ:=@d1;refine XG ?_;clear aJ;first|exact rfl|exact True.intro|((try (repeat' with_reducible refine And.intro ?_ ?_));(try any_goals (first|refine zm ?_|exact CL|fail)))))
  (refine Qa (fun g2=>?_) (fun g2=>?_)<;>try exact g2.elim)
  exact Qr
 have hb:[addr].all (fB 4294967295)=true:=by simp[fB];omega
 rw[hb]at fw
 by_cases Sz:0≤port∧port≤65535
 rotate_left
 ·rw[HB.out _ (AE.out ae) aI]
  have dE:[port].all (fB 65535)=false:=by simp[fB];omega
  rw[dE]at Gu
  refine Qe ?_
  refine Zq hP ?_
  (refine Qa (fun g1=>?_) (fun g1=>?_)<;>try exact g1.elim)
  refine Qh @d1 ?_
  ((refine vC ?_ ?_ ?_);(focus (have aJ:=@d1;refine XG ?_;clear aJ;try first|exact rfl|exact True.intro));(focus (have aJ:=@d1;refine XG ?_;clear aJ;try trivial)))
  refine Zj @d1 ?_
  ((first|apply Kz|apply Jx)<;>(first|exact fw|(with_reducible (exact Jo.bool _))|(have aJ:=@d1;refine XG ?_;clear aJ;first|exact rfl|exact True.intro|((try (repeat' with_reducible refine And.intro ?_ ?_));(try any_goals (first|refine zm ?_|exact CL|fail))))))
  ((refine vC ?_ ?_ ?_);(focus (have aJ:=@d1;refine XG ?_;clear aJ;try first|exact rfl|exact True.intro));(focus (have aJ:=@d1;refine XG ?_;clear aJ;try trivial)))
  refine Zj @d1 ?_
  ((first|apply Kz|apply Jx)<;>(first|exact Gu|(with_reducible (exact Jo.bool _))|(have aJ:=@d1;refine XG ?_;clear aJ;first|exact rfl|exact True.intro|((try (repeat' with_reducible refine And.intro ?_ ?_));(try any_goals (first|refine zm ?_|exact CL|fail))))))
  (refine Qa (fun g2=>?_) (fun g2=>?_)<;>try exact g2.elim)
  exact Qr
 have dE:[port].all (fB 65535)=true:=by simp[fB];omega
 rw[dE]at Gu
 have aX:¬ (side < 0∨side > 1∨¬ (0≤addr∧addr≤4294967295)∨¬ (0≤port∧port≤65535)):=by omega
 clear hb dE
 refine Qe ?_
 refine Zq hP ?_
 (refine Qa (fun g1=>?_) (fun g1=>?_)<;>try exact g1.elim)
 refine Qh @d1 ?_
 ((refine vC ?_ ?_ ?_);(focus (have aJ:=@d1;refine XG ?_;clear aJ;try first|exact rfl|exact True.intro));(focus (have aJ:=@d1;refine XG ?_;clear aJ;try trivial)))
 refine Zj @d1 ?_
 ((first|apply Kz|apply Jx)<;>(first|exact fw|(with_reducible (exact Jo.bool _))|(have aJ:=@d1;refine XG ?_;clear aJ;first|exact rfl|exact True.intro|((try (repeat' with_reducible refine And.intro ?_ ?_));(try any_goals (first|refine zm ?_|exact CL|fail))))))
 ((refine vC ?_ ?_ ?_);(focus (have aJ:=@d1;refine XG ?_;clear aJ;try first|exact rfl|exact True.intro));(focus (have aJ:=@d1;refine XG ?_;clear aJ;try trivial)))
 refine Zj @d1 ?_
 ((first|apply Kz|apply Jx)<;>(first|exact Gu|(with_reducible (exact Jo.bool _))|(have aJ:=@d1;refine XG ?_;clear aJ;first|exact rfl|exact True.intro|((try (repeat' with_reducible refine And.intro ?_ ?_));(try any_goals (first|refine zm ?_|exact CL|fail))))))
 (refine Qa (fun g2=>?_) (fun g2=>?_)<;>try exact g2.elim)
 refine Qe ?_
 (refine Qa (fun fF=>?_) (fun fF=>?_)<;>try exact fF.elim)
 ·rw[HB.out _ (uf.out aX fF) aI]
  exact Qr
 rcases hp with h9|h9|h9
 ·rw[h9]
  have cJ:=Gn c.gl 1
  have hz:ny 1=.aU [.int .i64 8,.int .i64 2]:=rfl
  rw[hz]at cJ
  clear hz
  have LH:28≤l.length:=by omega
  by_cases vP:side=0 ↔ flags=8
  rotate_left
  ·rw[HB.out _ (Gv.out aX fF ⟨h9,vP⟩) aI]
   have hx:((side == 0) == (flags == 8))=false:=by
    by_cases h1:side=0
    ·rw[show (side == 0)=true by simp[h1],show (flags == 8)=false by simp;exact fun h=>vP ⟨fun _=>h,fun _=>h1⟩];rfl
    ·rw[show (side == 0)=false by simp[h1],show (flags == 8)=true by simp;exact Decidable.not_not.1 fun h=>vP ⟨fun x=>(h1 x).elim,fun x=>(h x).elim⟩];rfl
   refine Qh (An @hx (An @Bool.not_true @Bool.not_false)) ?_
   (refine Qa (fun g3=>?_) (fun g3=>?_)<;>try exact g3.elim)
   exact Qr
  have hx:((side == 0) == (flags == 8))=true:=by
   by_cases h1:side=0
   ·rw[show (side == 0)=true by simp[h1],show (flags == 8)=true by simp[vP.1 h1]];rfl
   ·rw[show (side == 0)=false by simp[h1],show (flags == 8)=false by simp;exact fun h=>h1 (vP.2 h)];rfl
  rw[HG.out (AF.out aX fF (fun h=>h.2 vP)),h9]
  refine Qh (An @hx (An @Bool.not_true @Bool.not_false)) ?_
  clear HB AE uf Gv AF HG ug
  obtain rfl|rfl:side=0∨side=1:=by omega
  ·have bF:Yc l 1 av (oE 0) (oF 1 0) addr port=Yc l 1 av 12 24 addr port:=rfl
   rw[bF]
   clear bF
   have e1:=Ax addr eG.1
   have e2:=Ay addr eG
   have e3:=Az (av - 1) 1 ae ae
   have t3:Yc l 1 av 12 24 addr port=(if (w2 (Ql (Ql (tl (Ql (tl (Ql l 12 10 (addr / 65536)) 1 (w2 l 12) (addr / 65536)) 14 10 (addr % 65536)) 1 (w2 (tl (Ql l 12 10 (addr / 65536)) 1 (w2 l 12) (addr / 65536)) 14) (addr % 65536)) 8 10 ((av - 1) * 256 + 1)) 24 22 port) 22=0)∧((1:Int)=17∨cq ((Ql (Ql (tl (Ql (tl (Ql l 12 10 (addr / 65536)) 1 (w2 l 12) (addr / 65536)) 14 10 (addr % 65536)) 1 (w2 (tl (Ql l 12 10 (addr / 65536)) 1 (w2 l 12) (addr / 65536)) 14) (addr % 65536)) 8 10 ((av - 1) * 256 + 1)) 24 22 port).drop 20)=0) then Wf (Ql (Ql (tl (Ql (tl (Ql l 12 10 (addr / 65536)) 1 (w2 l 12) (addr / 65536)) 14 10 (addr % 65536)) 1 (w2 (tl (Ql l 12 10 (addr / 65536)) 1 (w2 l 12) (addr / 65536)) 14) (addr % 65536)) 8 10 ((av - 1) * 256 + 1)) 24 22 port) 22 65535 else Ql (Ql (tl (Ql (tl (Ql l 12 10 (addr / 65536)) 1 (w2 l 12) (addr / 65536)) 14 10 (addr % 65536)) 1 (w2 (tl (Ql l 12 10 (addr / 65536)) 1 (w2 l 12) (addr / 65536)) 14) (addr % 65536)) 8 10 ((av - 1) * 256 + 1)) 24 22 port):=rfl
   rw[t3]
   clear t3
   obtain ⟨hi,nz⟩:∃ x,x=addr / 65536:=⟨_,rfl⟩
   obtain ⟨lo,iR⟩:∃ x,x=addr % 65536:=⟨_,rfl⟩
   rw[← nz]at e1 ⊢
   rw[← iR]at e2 ⊢
   have qJ:0≤hi∧hi≤65535:=by omega
   have qK:0≤lo∧lo≤65535:=by omega
   have E1:tl (Ql l 12 10 hi) 1 (w2 l 12) hi=Ql l 12 10 hi:=rfl
   obtain ⟨B1,fq⟩:∃ x,x=tl (Ql l 12 10 hi) 1 (w2 l 12) hi:=⟨_,rfl⟩
   rw[← fq]
   rw[E1]at fq
   have E2:tl (Ql B1 14 10 lo) 1 (w2 B1 14) lo=Ql B1 14 10 lo:=rfl
   obtain ⟨B2,fQ⟩:∃ x,x=tl (Ql B1 14 10 lo) 1 (w2 B1 14) lo:=⟨_,rfl⟩
   rw[← fQ]
   rw[E2]at fQ
   clear E1 E2
   have eH:B1.length=l.length:=by rw[fq];simp[Qy,Js]
   have jQ:B2.length=l.length:=by rw[fQ];simp[Qy,Js,eH]
   have iS:(Ql B2 8 10 ((av - 1) * 256 + 1)).length=l.length:=by rw[Qy,jQ]
   have iT:(Ql (Ql B2 8 10 ((av - 1) * 256 + 1)) 24 22 port).length=l.length:=by rw[Qy,iS]
   have s3:=Jl c.gl B2 false 8 10 ((av - 1) * 256 + 1) ae ae ae
   have s4:=Jl c.gl (Ql B2 8 10 ((av - 1) * 256 + 1)) false 24 22 port ae ae ae
   rw[jQ]at s3
   rw[iS]at s4
   generalize Ql (Ql B2 8 10 ((av - 1) * 256 + 1)) 24 22 port=B4 at *
   generalize Ql B2 8 10 ((av - 1) * 256 + 1)=B3 at *
   obtain ⟨RR,iU⟩:∃ x,x=(if (w2 B4 22=0)∧((1:Int)=17∨cq (B4.drop 20)=0) then Wf B4 22 65535 else B4):=⟨_,rfl⟩
   rw[← iU]
   have jF:=Lib.hid iU
   clear iU
   (refine Qa (fun g3=>?_) (fun g3=>?_)<;>try exact g3.elim)
   refine Qe ?_
   refine Ja ?_
   have iV:addr % 65536=lo:=iR.symm
   clear iR
   refine Ab cJ (An @e1 @iV) ?_
   refine Xd (fun k:Nat=>k≤2) (fun k=>⟨[(1,.int .i64 0),(3,.int .i64 port),(10,.ptr 0 0),(12,.ptr 2 0),(14,.int .i64 22),(15,.int .i64 12),(86,.agg [.int .i64 hi,.int .i64 lo]),(87,.int .i64 (kI k))],[(0,.cells [.int .i64 1,.int .i64 aB,.int .i64 ai,.int .i64 dst,.int .i64 aj,.int .i64 av,.int .i64 id,.int .i64 flags,.int .i64 seq,.int .i64 aL,.int .i64 win,.str body]),(1,.cells (Xg (ud k l B1 B2))),(2,.cells [.sl 1 1 0 l.length l.length,.bool false])],3⟩) (fun k=>2 - k) xD.mixed hN
    ⟨0,by omega,[(1,3),(2,4)],by exact Qq (An @Wj @kz)⟩ fun k hk=>?_
   obtain rfl|rfl|rfl:k=0∨k=1∨k=2:=by omega
   ·refine Zp (An @Wj @kz) ?_
    (refine Qa (fun q1=>?_) (fun q1=>?_)<;>try exact q1.elim)
    refine Zp (An @Wj @kz) ?_
    refine oC (gL c.gl l 12) ?_
    (have zC:=(Jl c.gl l false 12 10 hi ae ae ae);refine Zy (ip [2,1]) zC @eH ?_ ?_;clear zC)
    ·rfl
    (refine Qa (fun q2=>?_) (fun q2=>?_)<;>try exact q2.elim)
    refine Uo ?_
    refine ⟨1,by omega,⟨[],?_⟩,by omega⟩
    exact kv (An @Wl (An @kA @fq))
   ·refine Zp (An @Wl @kA) ?_
    (refine Qa (fun q1=>?_) (fun q1=>?_)<;>try exact q1.elim)
    refine Zp (An @Wl @kA) ?_
    refine oC (gL c.gl B1 14) ?_
    (have zC:=(Jl c.gl B1 false 14 10 lo ae ae ae);refine Zy (ip [2,1]) zC @eH ?_ ?_;clear zC)
    ·rfl
    (refine Qa (fun q2=>?_) (fun q2=>?_)<;>try exact q2.elim)
    refine Uo ?_
    refine ⟨2,by omega,⟨[],?_⟩,by omega⟩
    exact kv (An @Wi (An @kB @fQ))
   refine Zp (An @Wi @kB) ?_
   (refine Qa (fun q1=>?_) (fun q1=>?_)<;>try exact q1.elim)
   refine Zp (An @Wi (An @kB (An @pJ @e3))) ?_
   refine Zy (ip [2,1]) s3 (An @pJ (An @e3 @iS)) ?_ ?_
   ·rfl
   (refine Qa (fun q2=>?_) (fun q2=>?_)<;>try exact q2.elim)
   refine Uo ?_
   have hz:=AD B4 22 ae
   have uh:=ss c.gl (B4.drop 20) (by rw[List.length_drop];omega)
   by_cases z:w2 B4 22=0
   ·have ll:(b1 B4 22 == 0)=true:=by simp[(hz.1 z).1]
    have ln:(b1 B4 23 == 0)=true:=by simp[(hz.1 z).2]
    refine Zy (ip [2,1]) s4 (An @iT (An @Qm (An @ll @ln))) ?_ ?_
    ·rfl
    refine Qv uh (An @Qm (An @ll @ln)) ?_
    by_cases zz:cq (B4.drop 20)=0
    ·have bo:(cq (B4.drop 20) == 0)=true:=by simp[zz]
     have cx:RR=(B4.set 22 255).set 23 255:=(jF.out.trans (if_pos ⟨z,.inr zz⟩)).trans (AB _ _)
     rw[cx]
     clear cx
     (refine Qa (fun q3=>?_) (fun q3=>?_)<;>try exact q3.elim)
     ·exact kv (An @AA @iT)
     ·omega
    ·have cx:RR=B4:=jF.out.trans (if_neg fun h=>h.2.elim ae zz)
     rw[cx]
     clear cx
     (refine Qa (fun q3=>?_) (fun q3=>?_)<;>try exact q3.elim)
     ·omega
     ·exact Qr
   ·have bz:(b1 B4 22 == 0 && b1 B4 23 == 0)=false:=by
     have hn:¬ (b1 B4 22=0∧b1 B4 23=0):=fun h=>z (hz.2 h)
     rw[Bool.and_eq_false_iff,beq_eq_false_iff_ne,beq_eq_false_iff_ne];omega
    have cx:RR=B4:=jF.out.trans (if_neg fun h=>z h.1)
    rw[cx]
    clear cx
    refine Zy (ip [2,1]) s4 (An @iT (An @Qm @bz)) ?_ ?_
    ·rfl
    ((first|apply Yd|apply Xr)<;>(have aJ:=@Qm;have bm:=@bz;refine XG ?_;clear aJ bm;first|exact rfl|exact True.intro|((try (repeat' with_reducible refine And.intro ?_ ?_));(try any_goals (first|refine zm ?_|exact CL|fail)))))
    (refine Qa (fun q3=>?_) (fun q3=>?_)<;>try exact q3.elim)
    exact Qq (An @Qm @bz)
  ·have bF:Yc l 1 av (oE 1) (oF 1 1) addr port=Yc l 1 av 16 24 addr port:=rfl
   rw[bF]
   clear bF
   have e1:=Ax addr eG.1
   have e2:=Ay addr eG
   have e3:=Az (av - 1) 1 ae ae
   have t3:Yc l 1 av 16 24 addr port=(if (w2 (Ql (Ql (tl (Ql (tl (Ql l 16 10 (addr / 65536)) 1 (w2 l 16) (addr / 65536)) 18 10 (addr % 65536)) 1 (w2 (tl (Ql l 16 10 (addr / 65536)) 1 (w2 l 16) (addr / 65536)) 18) (addr % 65536)) 8 10 ((av - 1) * 256 + 1)) 24 22 port) 22=0)∧((1:Int)=17∨cq ((Ql (Ql (tl (Ql (tl (Ql l 16 10 (addr / 65536)) 1 (w2 l 16) (addr / 65536)) 18 10 (addr % 65536)) 1 (w2 (tl (Ql l 16 10 (addr / 65536)) 1 (w2 l 16) (addr / 65536)) 18) (addr % 65536)) 8 10 ((av - 1) * 256 + 1)) 24 22 port).drop 20)=0) then Wf (Ql (Ql (tl (Ql (tl (Ql l 16 10 (addr / 65536)) 1 (w2 l 16) (addr / 65536)) 18 10 (addr % 65536)) 1 (w2 (tl (Ql l 16 10 (addr / 65536)) 1 (w2 l 16) (addr / 65536)) 18) (addr % 65536)) 8 10 ((av - 1) * 256 + 1)) 24 22 port) 22 65535 else Ql (Ql (tl (Ql (tl (Ql l 16 10 (addr / 65536)) 1 (w2 l 16) (addr / 65536)) 18 10 (addr % 65536)) 1 (w2 (tl (Ql l 16 10 (addr / 65536)) 1 (w2 l 16) (addr / 65536)) 18) (addr % 65536)) 8 10 ((av - 1) * 256 + 1)) 24 22 port):=rfl
   rw[t3]
   clear t3
   obtain ⟨hi,nz⟩:∃ x,x=addr / 65536:=⟨_,rfl⟩
   obtain ⟨lo,iR⟩:∃ x,x=addr % 65536:=⟨_,rfl⟩
   rw[← nz]at e1 ⊢
   rw[← iR]at e2 ⊢
   have qJ:0≤hi∧hi≤65535:=by omega
   have qK:0≤lo∧lo≤65535:=by omega
   have E1:tl (Ql l 16 10 hi) 1 (w2 l 16) hi=Ql l 16 10 hi:=rfl
   obtain ⟨B1,fq⟩:∃ x,x=tl (Ql l 16 10 hi) 1 (w2 l 16) hi:=⟨_,rfl⟩
   rw[← fq]
   rw[E1]at fq
   have E2:tl (Ql B1 18 10 lo) 1 (w2 B1 18) lo=Ql B1 18 10 lo:=rfl
   obtain ⟨B2,fQ⟩:∃ x,x=tl (Ql B1 18 10 lo) 1 (w2 B1 18) lo:=⟨_,rfl⟩
   rw[← fQ]
   rw[E2]at fQ
   clear E1 E2
   have eH:B1.length=l.length:=by rw[fq];simp[Qy,Js]
   have jQ:B2.length=l.length:=by rw[fQ];simp[Qy,Js,eH]
   have iS:(Ql B2 8 10 ((av - 1) * 256 + 1)).length=l.length:=by rw[Qy,jQ]
   have iT:(Ql (Ql B2 8 10 ((av - 1) * 256 + 1)) 24 22 port).length=l.length:=by rw[Qy,iS]
   have s3:=Jl c.gl B2 false 8 10 ((av - 1) * 256 + 1) ae ae ae
   have s4:=Jl c.gl (Ql B2 8 10 ((av - 1) * 256 + 1)) false 24 22 port ae ae ae
   rw[jQ]at s3
   rw[iS]at s4
   generalize Ql (Ql B2 8 10 ((av - 1) * 256 + 1)) 24 22 port=B4 at *
   generalize Ql B2 8 10 ((av - 1) * 256 + 1)=B3 at *
   obtain ⟨RR,iU⟩:∃ x,x=(if (w2 B4 22=0)∧((1:Int)=17∨cq (B4.drop 20)=0) then Wf B4 22 65535 else B4):=⟨_,rfl⟩
   rw[← iU]
   have jF:=Lib.hid iU
   clear iU
   (refine Qa (fun g3=>?_) (fun g3=>?_)<;>try exact g3.elim)
   refine Qe ?_
   refine Ja ?_
   have iV:addr % 65536=lo:=iR.symm
   clear iR
   refine Ab cJ (An @e1 @iV) ?_
   refine Xd (fun k:Nat=>k≤2) (fun k=>⟨[(1,.int .i64 1),(3,.int .i64 port),(10,.ptr 0 0),(12,.ptr 2 0),(14,.int .i64 22),(15,.int .i64 16),(86,.agg [.int .i64 hi,.int .i64 lo]),(87,.int .i64 (kI k))],[(0,.cells [.int .i64 1,.int .i64 aB,.int .i64 ai,.int .i64 dst,.int .i64 aj,.int .i64 av,.int .i64 id,.int .i64 flags,.int .i64 seq,.int .i64 aL,.int .i64 win,.str body]),(1,.cells (Xg (ud k l B1 B2))),(2,.cells [.sl 1 1 0 l.length l.length,.bool false])],3⟩) (fun k=>2 - k) xD.mixed hN
    ⟨0,by omega,[(1,3),(2,4)],by exact Qq (An @Wj @kz)⟩ fun k hk=>?_
   obtain rfl|rfl|rfl:k=0∨k=1∨k=2:=by omega
   ·refine Zp (An @Wj @kz) ?_
    (refine Qa (fun q1=>?_) (fun q1=>?_)<;>try exact q1.elim)
    refine Zp (An @Wj @kz) ?_
    refine oC (gL c.gl l 16) ?_
    (have zC:=(Jl c.gl l false 16 10 hi ae ae ae);refine Zy (ip [2,1]) zC @eH ?_ ?_;clear zC)
    ·rfl
    (refine Qa (fun q2=>?_) (fun q2=>?_)<;>try exact q2.elim)
    refine Uo ?_
    refine ⟨1,by omega,⟨[],?_⟩,by omega⟩
    exact kv (An @Wl (An @kA @fq))
   ·refine Zp (An @Wl @kA) ?_
    (refine Qa (fun q1=>?_) (fun q1=>?_)<;>try exact q1.elim)
    refine Zp (An @Wl @kA) ?_
    refine oC (gL c.gl B1 18) ?_
    (have zC:=(Jl c.gl B1 false 18 10 lo ae ae ae);refine Zy (ip [2,1]) zC @eH ?_ ?_;clear zC)
    ·rfl
    (refine Qa (fun q2=>?_) (fun q2=>?_)<;>try exact q2.elim)
    refine Uo ?_
    refine ⟨2,by omega,⟨[],?_⟩,by omega⟩
    exact kv (An @Wi (An @kB @fQ))
   refine Zp (An @Wi @kB) ?_
   (refine Qa (fun q1=>?_) (fun q1=>?_)<;>try exact q1.elim)
   refine Zp (An @Wi (An @kB (An @pJ @e3))) ?_
   refine Zy (ip [2,1]) s3 (An @pJ (An @e3 @iS)) ?_ ?_
   ·rfl
   (refine Qa (fun q2=>?_) (fun q2=>?_)<;>try exact q2.elim)
   refine Uo ?_
   have hz:=AD B4 22 ae
   have uh:=ss c.gl (B4.drop 20) (by rw[List.length_drop];omega)
   by_cases z:w2 B4 22=0
   ·have ll:(b1 B4 22 == 0)=true:=by simp[(hz.1 z).1]
    have ln:(b1 B4 23 == 0)=true:=by simp[(hz.1 z).2]
    refine Zy (ip [2,1]) s4 (An @iT (An @Qm (An @ll @ln))) ?_ ?_
    ·rfl
    refine Qv uh (An @Qm (An @ll @ln)) ?_
    by_cases zz:cq (B4.drop 20)=0
    ·have bo:(cq (B4.drop 20) == 0)=true:=by simp[zz]
     have cx:RR=(B4.set 22 255).set 23 255:=(jF.out.trans (if_pos ⟨z,.inr zz⟩)).trans (AB _ _)
     rw[cx]
     clear cx
     (refine Qa (fun q3=>?_) (fun q3=>?_)<;>try exact q3.elim)
     ·exact kv (An @AA @iT)
     ·omega
    ·have cx:RR=B4:=jF.out.trans (if_neg fun h=>h.2.elim ae zz)
     rw[cx]
     clear cx
     (refine Qa (fun q3=>?_) (fun q3=>?_)<;>try exact q3.elim)
     ·omega
     ·exact Qr
   ·have bz:(b1 B4 22 == 0 && b1 B4 23 == 0)=false:=by
     have hn:¬ (b1 B4 22=0∧b1 B4 23=0):=fun h=>z (hz.2 h)
     rw[Bool.and_eq_false_iff,beq_eq_false_iff_ne,beq_eq_false_iff_ne];omega
    have cx:RR=B4:=jF.out.trans (if_neg fun h=>z h.1)
    rw[cx]
    clear cx
    refine Zy (ip [2,1]) s4 (An @iT (An @Qm @bz)) ?_ ?_
    ·rfl
    ((first|apply Yd|apply Xr)<;>(have aJ:=@Qm;have bm:=@bz;refine XG ?_;clear aJ bm;first|exact rfl|exact True.intro|((try (repeat' with_reducible refine And.intro ?_ ?_));(try any_goals (first|refine zm ?_|exact CL|fail)))))
    (refine Qa (fun q3=>?_) (fun q3=>?_)<;>try exact q3.elim)
    exact Qq (An @Qm @bz)
 ·rw[h9]
  have cJ:=Gn c.gl 6
  have hz:ny 6=.aU [.int .i64 20,.int .i64 16]:=rfl
  rw[hz]at cJ
  clear hz
  have LH:40≤l.length:=by exact ug.out ae
  rw[HG.out (AF.out aX fF (fun h=>by omega)),h9]
  refine Qe ?_
  clear HB AE uf Gv AF HG ug
  obtain rfl|rfl:side=0∨side=1:=by omega
  ·have bF:Yc l 6 av (oE 0) (oF 6 0) addr port=Yc l 6 av 12 20 addr port:=rfl
   rw[bF]
   clear bF
   have e1:=Ax addr eG.1
   have e2:=Ay addr eG
   have e3:=Az (av - 1) 6 ae ae
   have t3:Yc l 6 av 12 20 addr port=(if (w2 (Ql (Ql (tl (Ql (tl (Ql l 12 10 (addr / 65536)) 6 (w2 l 12) (addr / 65536)) 14 10 (addr % 65536)) 6 (w2 (tl (Ql l 12 10 (addr / 65536)) 6 (w2 l 12) (addr / 65536)) 14) (addr % 65536)) 8 10 ((av - 1) * 256 + 6)) 20 36 port) 36=0)∧((6:Int)=17∨cq ((Ql (Ql (tl (Ql (tl (Ql l 12 10 (addr / 65536)) 6 (w2 l 12) (addr / 65536)) 14 10 (addr % 65536)) 6 (w2 (tl (Ql l 12 10 (addr / 65536)) 6 (w2 l 12) (addr / 65536)) 14) (addr % 65536)) 8 10 ((av - 1) * 256 + 6)) 20 36 port).drop 20)=0) then Wf (Ql (Ql (tl (Ql (tl (Ql l 12 10 (addr / 65536)) 6 (w2 l 12) (addr / 65536)) 14 10 (addr % 65536)) 6 (w2 (tl (Ql l 12 10 (addr / 65536)) 6 (w2 l 12) (addr / 65536)) 14) (addr % 65536)) 8 10 ((av - 1) * 256 + 6)) 20 36 port) 36 65535 else Ql (Ql (tl (Ql (tl (Ql l 12 10 (addr / 65536)) 6 (w2 l 12) (addr / 65536)) 14 10 (addr % 65536)) 6 (w2 (tl (Ql l 12 10 (addr / 65536)) 6 (w2 l 12) (addr / 65536)) 14) (addr % 65536)) 8 10 ((av - 1) * 256 + 6)) 20 36 port):=rfl
   rw[t3]
   clear t3
   obtain ⟨hi,nz⟩:∃ x,x=addr / 65536:=⟨_,rfl⟩
   obtain ⟨lo,iR⟩:∃ x,x=addr % 65536:=⟨_,rfl⟩
   rw[← nz]at e1 ⊢
   rw[← iR]at e2 ⊢
   have qJ:0≤hi∧hi≤65535:=by omega
   have qK:0≤lo∧lo≤65535:=by omega
   have E1:tl (Ql l 12 10 hi) 6 (w2 l 12) hi=Kh (Ql l 12 10 hi) 36 (w2 l 12) hi:=rfl
   obtain ⟨B1,fq⟩:∃ x,x=tl (Ql l 12 10 hi) 6 (w2 l 12) hi:=⟨_,rfl⟩
   rw[← fq]
   rw[E1]at fq
   have E2:tl (Ql B1 14 10 lo) 6 (w2 B1 14) lo=Kh (Ql B1 14 10 lo) 36 (w2 B1 14) lo:=rfl
   obtain ⟨B2,fQ⟩:∃ x,x=tl (Ql B1 14 10 lo) 6 (w2 B1 14) lo:=⟨_,rfl⟩
   rw[← fQ]
   rw[E2]at fQ
   clear E1 E2
   have eH:B1.length=l.length:=by rw[fq];simp[Qy,Js]
   have jQ:B2.length=l.length:=by rw[fQ];simp[Qy,Js,eH]
   have iS:(Ql B2 8 10 ((av - 1) * 256 + 6)).length=l.length:=by rw[Qy,jQ]
   have iT:(Ql (Ql B2 8 10 ((av - 1) * 256 + 6)) 20 36 port).length=l.length:=by rw[Qy,iS]
   have s3:=Jl c.gl B2 false 8 10 ((av - 1) * 256 + 6) ae ae ae
   have s4:=Jl c.gl (Ql B2 8 10 ((av - 1) * 256 + 6)) false 20 36 port ae ae ae
   rw[jQ]at s3
   rw[iS]at s4
   generalize Ql (Ql B2 8 10 ((av - 1) * 256 + 6)) 20 36 port=B4 at *
   generalize Ql B2 8 10 ((av - 1) * 256 + 6)=B3 at *
   obtain ⟨RR,iU⟩:∃ x,x=(if (w2 B4 36=0)∧((6:Int)=17∨cq (B4.drop 20)=0) then Wf B4 36 65535 else B4):=⟨_,rfl⟩
   rw[← iU]
   have jF:=Lib.hid iU
   clear iU
   (refine Qa (fun g3=>?_) (fun g3=>?_)<;>try exact g3.elim)
   refine Qe ?_
   refine Ja ?_
   have iV:addr % 65536=lo:=iR.symm
   clear iR
   refine Ab cJ (An @e1 @iV) ?_
   refine Xd (fun k:Nat=>k≤2) (fun k=>⟨[(1,.int .i64 0),(3,.int .i64 port),(10,.ptr 0 0),(12,.ptr 2 0),(14,.int .i64 36),(15,.int .i64 12),(86,.agg [.int .i64 hi,.int .i64 lo]),(87,.int .i64 (kI k))],[(0,.cells [.int .i64 6,.int .i64 aB,.int .i64 ai,.int .i64 dst,.int .i64 aj,.int .i64 av,.int .i64 id,.int .i64 flags,.int .i64 seq,.int .i64 aL,.int .i64 win,.str body]),(1,.cells (Xg (ud k l B1 B2))),(2,.cells [.sl 1 1 0 l.length l.length,.bool false])],3⟩) (fun k=>2 - k) xD.mixed hN
    ⟨0,by omega,[(1,3),(2,4)],by exact Qq (An @Wj @kz)⟩ fun k hk=>?_
   obtain rfl|rfl|rfl:k=0∨k=1∨k=2:=by omega
   ·refine Zp (An @Wj @kz) ?_
    (refine Qa (fun q1=>?_) (fun q1=>?_)<;>try exact q1.elim)
    refine Zp (An @Wj @kz) ?_
    refine oC (gL c.gl l 12) ?_
    (have zC:=(Jl c.gl l false 12 10 hi ae ae ae);refine Zy (ip [2,1]) zC @eH ?_ ?_;clear zC)
    ·rfl
    (refine Qa (fun q2=>?_) (fun q2=>?_)<;>try exact q2.elim)
    refine Uo ?_
    (have zC:=(uc c.gl (Ql l 12 10 hi) false 36 (w2 l 12) hi (by rw[Qy];omega) (by rw[Qy];omega));refine Zy (ip [2,1]) zC @Qy ?_ ?_;clear zC)
    ·rfl
    refine ⟨1,by omega,⟨[],?_⟩,by omega⟩
    exact kv (An @Wl (An @kA @fq))
   ·refine Zp (An @Wl @kA) ?_
    (refine Qa (fun q1=>?_) (fun q1=>?_)<;>try exact q1.elim)
    refine Zp (An @Wl @kA) ?_
    refine oC (gL c.gl B1 14) ?_
    (have zC:=(Jl c.gl B1 false 14 10 lo ae ae ae);refine Zy (ip [2,1]) zC @eH ?_ ?_;clear zC)
    ·rfl
    (refine Qa (fun q2=>?_) (fun q2=>?_)<;>try exact q2.elim)
    refine Uo ?_
    (have zC:=(uc c.gl (Ql B1 14 10 lo) false 36 (w2 B1 14) lo (by rw[Qy];omega) (by rw[Qy];omega));refine Zy (ip [2,1]) zC (An @Qy @eH) ?_ ?_;clear zC)
    ·rfl
    refine ⟨2,by omega,⟨[],?_⟩,by omega⟩
    exact kv (An @Wi (An @kB @fQ))
   refine Zp (An @Wi @kB) ?_
   (refine Qa (fun q1=>?_) (fun q1=>?_)<;>try exact q1.elim)
   refine Zp (An @Wi (An @kB (An @pJ @e3))) ?_
   refine Zy (ip [2,1]) s3 (An @pJ (An @e3 @iS)) ?_ ?_
   ·rfl
   (refine Qa (fun q2=>?_) (fun q2=>?_)<;>try exact q2.elim)
   refine Uo ?_
   have hz:=AD B4 36 ae
   have uh:=ss c.gl (B4.drop 20) (by rw[List.length_drop];omega)
   by_cases z:w2 B4 36=0
   ·have ll:(b1 B4 36 == 0)=true:=by simp[(hz.1 z).1]
    have ln:(b1 B4 37 == 0)=true:=by simp[(hz.1 z).2]
    refine Zy (ip [2,1]) s4 (An @iT (An @Qm (An @ll @ln))) ?_ ?_
    ·rfl
    refine Qv uh (An @Qm (An @ll @ln)) ?_
    by_cases zz:cq (B4.drop 20)=0
    ·have bo:(cq (B4.drop 20) == 0)=true:=by simp[zz]
     have cx:RR=(B4.set 36 255).set 37 255:=(jF.out.trans (if_pos ⟨z,.inr zz⟩)).trans (AB _ _)
     rw[cx]
     clear cx
     (refine Qa (fun q3=>?_) (fun q3=>?_)<;>try exact q3.elim)
     ·exact kv (An @AA @iT)
     ·omega
    ·have cx:RR=B4:=jF.out.trans (if_neg fun h=>h.2.elim ae zz)
     rw[cx]
     clear cx
     (refine Qa (fun q3=>?_) (fun q3=>?_)<;>try exact q3.elim)
     ·omega
     ·exact Qr
   ·have bz:(b1 B4 36 == 0 && b1 B4 37 == 0)=false:=by
     have hn:¬ (b1 B4 36=0∧b1 B4 37=0):=fun h=>z (hz.2 h)
     rw[Bool.and_eq_false_iff,beq_eq_false_iff_ne,beq_eq_false_iff_ne];omega
    have cx:RR=B4:=jF.out.trans (if_neg fun h=>z h.1)
    rw[cx]
    clear cx
    refine Zy (ip [2,1]) s4 (An @iT (An @Qm @bz)) ?_ ?_
    ·rfl
    ((first|apply Yd|apply Xr)<;>(have aJ:=@Qm;have bm:=@bz;refine XG ?_;clear aJ bm;first|exact rfl|exact True.intro|((try (repeat' with_reducible refine And.intro ?_ ?_));(try any_goals (first|refine zm ?_|exact CL|fail)))))
    (refine Qa (fun q3=>?_) (fun q3=>?_)<;>try exact q3.elim)
    exact Qq (An @Qm @bz)
  ·have bF:Yc l 6 av (oE 1) (oF 6 1) addr port=Yc l 6 av 16 22 addr port:=rfl
   rw[bF]
   clear bF
   have e1:=Ax addr eG.1
   have e2:=Ay addr eG
   have e3:=Az (av - 1) 6 ae ae
   have t3:Yc l 6 av 16 22 addr port=(if (w2 (Ql (Ql (tl (Ql (tl (Ql l 16 10 (addr / 65536)) 6 (w2 l 16) (addr / 65536)) 18 10 (addr % 65536)) 6 (w2 (tl (Ql l 16 10 (addr / 65536)) 6 (w2 l 16) (addr / 65536)) 18) (addr % 65536)) 8 10 ((av - 1) * 256 + 6)) 22 36 port) 36=0)∧((6:Int)=17∨cq ((Ql (Ql (tl (Ql (tl (Ql l 16 10 (addr / 65536)) 6 (w2 l 16) (addr / 65536)) 18 10 (addr % 65536)) 6 (w2 (tl (Ql l 16 10 (addr / 65536)) 6 (w2 l 16) (addr / 65536)) 18) (addr % 65536)) 8 10 ((av - 1) * 256 + 6)) 22 36 port).drop 20)=0) then Wf (Ql (Ql (tl (Ql (tl (Ql l 16 10 (addr / 65536)) 6 (w2 l 16) (addr / 65536)) 18 10 (addr % 65536)) 6 (w2 (tl (Ql l 16 10 (addr / 65536)) 6 (w2 l 16) (addr / 65536)) 18) (addr % 65536)) 8 10 ((av - 1) * 256 + 6)) 22 36 port) 36 65535 else Ql (Ql (tl (Ql (tl (Ql l 16 10 (addr / 65536)) 6 (w2 l 16) (addr / 65536)) 18 10 (addr % 65536)) 6 (w2 (tl (Ql l 16 10 (addr / 65536)) 6 (w2 l 16) (addr / 65536)) 18) (addr % 65536)) 8 10 ((av - 1) * 256 + 6)) 22 36 port):=rfl
   rw[t3]
   clear t3
   obtain ⟨hi,nz⟩:∃ x,x=addr / 65536:=⟨_,rfl⟩
   obtain ⟨lo,iR⟩:∃ x,x=addr % 65536:=⟨_,rfl⟩
   rw[← nz]at e1 ⊢
   rw[← iR]at e2 ⊢
   have qJ:0≤hi∧hi≤65535:=by omega
   have qK:0≤lo∧lo≤65535:=by omega
   have E1:tl (Ql l 16 10 hi) 6 (w2 l 16) hi=Kh (Ql l 16 10 hi) 36 (w2 l 16) hi:=rfl
   obtain ⟨B1,fq⟩:∃ x,x=tl (Ql l 16 10 hi) 6 (w2 l 16) hi:=⟨_,rfl⟩
   rw[← fq]
   rw[E1]at fq
   have E2:tl (Ql B1 18 10 lo) 6 (w2 B1 18) lo=Kh (Ql B1 18 10 lo) 36 (w2 B1 18) lo:=rfl
   obtain ⟨B2,fQ⟩:∃ x,x=tl (Ql B1 18 10 lo) 6 (w2 B1 18) lo:=⟨_,rfl⟩
   rw[← fQ]
   rw[E2]at fQ
   clear E1 E2
   have eH:B1.length=l.length:=by rw[fq];simp[Qy,Js]
   have jQ:B2.length=l.length:=by rw[fQ];simp[Qy,Js,eH]
   have iS:(Ql B2 8 10 ((av - 1) * 256 + 6)).length=l.length:=by rw[Qy,jQ]
   have iT:(Ql (Ql B2 8 10 ((av - 1) * 256 + 6)) 22 36 port).length=l.length:=by rw[Qy,iS]
   have s3:=Jl c.gl B2 false 8 10 ((av - 1) * 256 + 6) ae ae ae
   have s4:=Jl c.gl (Ql B2 8 10 ((av - 1) * 256 + 6)) false 22 36 port ae ae ae
   rw[jQ]at s3
   rw[iS]at s4
   generalize Ql (Ql B2 8 10 ((av - 1) * 256 + 6)) 22 36 port=B4 at *
   generalize Ql B2 8 10 ((av - 1) * 256 + 6)=B3 at *
   obtain ⟨RR,iU⟩:∃ x,x=(if (w2 B4 36=0)∧((6:Int)=17∨cq (B4.drop 20)=0) then Wf B4 36 65535 else B4):=⟨_,rfl⟩
   rw[← iU]
   have jF:=Lib.hid iU
   clear iU
   (refine Qa (fun g3=>?_) (fun g3=>?_)<;>try exact g3.elim)
   refine Qe ?_
   refine Ja ?_
   have iV:addr % 65536=lo:=iR.symm
   clear iR
   refine Ab cJ (An @e1 @iV) ?_
   refine Xd (fun k:Nat=>k≤2) (fun k=>⟨[(1,.int .i64 1),(3,.int .i64 port),(10,.ptr 0 0),(12,.ptr 2 0),(14,.int .i64 36),(15,.int .i64 16),(86,.agg [.int .i64 hi,.int .i64 lo]),(87,.int .i64 (kI k))],[(0,.cells [.int .i64 6,.int .i64 aB,.int .i64 ai,.int .i64 dst,.int .i64 aj,.int .i64 av,.int .i64 id,.int .i64 flags,.int .i64 seq,.int .i64 aL,.int .i64 win,.str body]),(1,.cells (Xg (ud k l B1 B2))),(2,.cells [.sl 1 1 0 l.length l.length,.bool false])],3⟩) (fun k=>2 - k) xD.mixed hN
    ⟨0,by omega,[(1,3),(2,4)],by exact Qq (An @Wj @kz)⟩ fun k hk=>?_
   obtain rfl|rfl|rfl:k=0∨k=1∨k=2:=by omega
   ·refine Zp (An @Wj @kz) ?_
    (refine Qa (fun q1=>?_) (fun q1=>?_)<;>try exact q1.elim)
    refine Zp (An @Wj @kz) ?_
    refine oC (gL c.gl l 16) ?_
    (have zC:=(Jl c.gl l false 16 10 hi ae ae ae);refine Zy (ip [2,1]) zC @eH ?_ ?_;clear zC)
    ·rfl
    (refine Qa (fun q2=>?_) (fun q2=>?_)<;>try exact q2.elim)
    refine Uo ?_
    (have zC:=(uc c.gl (Ql l 16 10 hi) false 36 (w2 l 16) hi (by rw[Qy];omega) (by rw[Qy];omega));refine Zy (ip [2,1]) zC @Qy ?_ ?_;clear zC)
    ·rfl
    refine ⟨1,by omega,⟨[],?_⟩,by omega⟩
    exact kv (An @Wl (An @kA @fq))
   ·refine Zp (An @Wl @kA) ?_
    (refine Qa (fun q1=>?_) (fun q1=>?_)<;>try exact q1.elim)
    refine Zp (An @Wl @kA) ?_
    refine oC (gL c.gl B1 18) ?_
    (have zC:=(Jl c.gl B1 false 18 10 lo ae ae ae);refine Zy (ip [2,1]) zC @eH ?_ ?_;clear zC)
    ·rfl
    (refine Qa (fun q2=>?_) (fun q2=>?_)<;>try exact q2.elim)
    refine Uo ?_
    (have zC:=(uc c.gl (Ql B1 18 10 lo) false 36 (w2 B1 18) lo (by rw[Qy];omega) (by rw[Qy];omega));refine Zy (ip [2,1]) zC (An @Qy @eH) ?_ ?_;clear zC)
    ·rfl
    refine ⟨2,by omega,⟨[],?_⟩,by omega⟩
    exact kv (An @Wi (An @kB @fQ))
   refine Zp (An @Wi @kB) ?_
   (refine Qa (fun q1=>?_) (fun q1=>?_)<;>try exact q1.elim)
   refine Zp (An @Wi (An @kB (An @pJ @e3))) ?_
   refine Zy (ip [2,1]) s3 (An @pJ (An @e3 @iS)) ?_ ?_
   ·rfl
   (refine Qa (fun q2=>?_) (fun q2=>?_)<;>try exact q2.elim)
   refine Uo ?_
   have hz:=AD B4 36 ae
   have uh:=ss c.gl (B4.drop 20) (by rw[List.length_drop];omega)
   by_cases z:w2 B4 36=0
   ·have ll:(b1 B4 36 == 0)=true:=by simp[(hz.1 z).1]
    have ln:(b1 B4 37 == 0)=true:=by simp[(hz.1 z).2]
    refine Zy (ip [2,1]) s4 (An @iT (An @Qm (An @ll @ln))) ?_ ?_
    ·rfl
    refine Qv uh (An @Qm (An @ll @ln)) ?_
    by_cases zz:cq (B4.drop 20)=0
    ·have bo:(cq (B4.drop 20) == 0)=true:=by simp[zz]
     have cx:RR=(B4.set 36 255).set 37 255:=(jF.out.trans (if_pos ⟨z,.inr zz⟩)).trans (AB _ _)
     rw[cx]
     clear cx
     (refine Qa (fun q3=>?_) (fun q3=>?_)<;>try exact q3.elim)
     ·exact kv (An @AA @iT)
     ·omega
    ·have cx:RR=B4:=jF.out.trans (if_neg fun h=>h.2.elim ae zz)
     rw[cx]
     clear cx
     (refine Qa (fun q3=>?_) (fun q3=>?_)<;>try exact q3.elim)
     ·omega
     ·exact Qr
   ·have bz:(b1 B4 36 == 0 && b1 B4 37 == 0)=false:=by
     have hn:¬ (b1 B4 36=0∧b1 B4 37=0):=fun h=>z (hz.2 h)
     rw[Bool.and_eq_false_iff,beq_eq_false_iff_ne,beq_eq_false_iff_ne];omega
    have cx:RR=B4:=jF.out.trans (if_neg fun h=>z h.1)
    rw[cx]
    clear cx
    refine Zy (ip [2,1]) s4 (An @iT (An @Qm @bz)) ?_ ?_
    ·rfl
    ((first|apply Yd|apply Xr)<;>(have aJ:=@Qm;have bm:=@bz;refine XG ?_;clear aJ bm;first|exact rfl|exact True.intro|((try (repeat' with_reducible refine And.intro ?_ ?_));(try any_goals (first|refine zm ?_|exact CL|fail)))))
    (refine Qa (fun q3=>?_) (fun q3=>?_)<;>try exact q3.elim)
    exact Qq (An @Qm @bz)
 ·rw[h9]
  have cJ:=Gn c.gl 17
  have hz:ny 17=.aU [.int .i64 8,.int .i64 6]:=rfl
  rw[hz]at cJ
  clear hz
  have LH:28≤l.length:=by omega
  rw[HG.out (AF.out aX fF (fun h=>by omega)),h9]
  refine Qe ?_
  clear HB AE uf Gv AF HG ug
  obtain rfl|rfl:side=0∨side=1:=by omega
  ·have bF:Yc l 17 av (oE 0) (oF 17 0) addr port=Yc l 17 av 12 20 addr port:=rfl
   rw[bF]
   clear bF
   have e1:=Ax addr eG.1
   have e2:=Ay addr eG
   have e3:=Az (av - 1) 17 ae ae
   have t3:Yc l 17 av 12 20 addr port=(if (w2 (Ql (Ql (tl (Ql (tl (Ql l 12 10 (addr / 65536)) 17 (w2 l 12) (addr / 65536)) 14 10 (addr % 65536)) 17 (w2 (tl (Ql l 12 10 (addr / 65536)) 17 (w2 l 12) (addr / 65536)) 14) (addr % 65536)) 8 10 ((av - 1) * 256 + 17)) 20 26 port) 26=0)∧((17:Int)=17∨cq ((Ql (Ql (tl (Ql (tl (Ql l 12 10 (addr / 65536)) 17 (w2 l 12) (addr / 65536)) 14 10 (addr % 65536)) 17 (w2 (tl (Ql l 12 10 (addr / 65536)) 17 (w2 l 12) (addr / 65536)) 14) (addr % 65536)) 8 10 ((av - 1) * 256 + 17)) 20 26 port).drop 20)=0) then Wf (Ql (Ql (tl (Ql (tl (Ql l 12 10 (addr / 65536)) 17 (w2 l 12) (addr / 65536)) 14 10 (addr % 65536)) 17 (w2 (tl (Ql l 12 10 (addr / 65536)) 17 (w2 l 12) (addr / 65536)) 14) (addr % 65536)) 8 10 ((av - 1) * 256 + 17)) 20 26 port) 26 65535 else Ql (Ql (tl (Ql (tl (Ql l 12 10 (addr / 65536)) 17 (w2 l 12) (addr / 65536)) 14 10 (addr % 65536)) 17 (w2 (tl (Ql l 12 10 (addr / 65536)) 17 (w2 l 12) (addr / 65536)) 14) (addr % 65536)) 8 10 ((av - 1) * 256 + 17)) 20 26 port):=rfl
   rw[t3]
   clear t3
   obtain ⟨hi,nz⟩:∃ x,x=addr / 65536:=⟨_,rfl⟩
   obtain ⟨lo,iR⟩:∃ x,x=addr % 65536:=⟨_,rfl⟩
   rw[← nz]at e1 ⊢
   rw[← iR]at e2 ⊢
   have qJ:0≤hi∧hi≤65535:=by omega
   have qK:0≤lo∧lo≤65535:=by omega
   have E1:tl (Ql l 12 10 hi) 17 (w2 l 12) hi=Kh (Ql l 12 10 hi) 26 (w2 l 12) hi:=rfl
   obtain ⟨B1,fq⟩:∃ x,x=tl (Ql l 12 10 hi) 17 (w2 l 12) hi:=⟨_,rfl⟩
   rw[← fq]
   rw[E1]at fq
   have E2:tl (Ql B1 14 10 lo) 17 (w2 B1 14) lo=Kh (Ql B1 14 10 lo) 26 (w2 B1 14) lo:=rfl
   obtain ⟨B2,fQ⟩:∃ x,x=tl (Ql B1 14 10 lo) 17 (w2 B1 14) lo:=⟨_,rfl⟩
   rw[← fQ]
   rw[E2]at fQ
   clear E1 E2
   have eH:B1.length=l.length:=by rw[fq];simp[Qy,Js]
   have jQ:B2.length=l.length:=by rw[fQ];simp[Qy,Js,eH]
   have iS:(Ql B2 8 10 ((av - 1) * 256 + 17)).length=l.length:=by rw[Qy,jQ]
   have iT:(Ql (Ql B2 8 10 ((av - 1) * 256 + 17)) 20 26 port).length=l.length:=by rw[Qy,iS]
   have s3:=Jl c.gl B2 true 8 10 ((av - 1) * 256 + 17) ae ae ae
   have s4:=Jl c.gl (Ql B2 8 10 ((av - 1) * 256 + 17)) true 20 26 port ae ae ae
   rw[jQ]at s3
   rw[iS]at s4
   generalize Ql (Ql B2 8 10 ((av - 1) * 256 + 17)) 20 26 port=B4 at *
   generalize Ql B2 8 10 ((av - 1) * 256 + 17)=B3 at *
   obtain ⟨RR,iU⟩:∃ x,x=(if (w2 B4 26=0)∧((17:Int)=17∨cq (B4.drop 20)=0) then Wf B4 26 65535 else B4):=⟨_,rfl⟩
   rw[← iU]
   have jF:=Lib.hid iU
   clear iU
   (refine Qa (fun g3=>?_) (fun g3=>?_)<;>try exact g3.elim)
   refine Qe ?_
   refine Ja ?_
   have iV:addr % 65536=lo:=iR.symm
   clear iR
   refine Ab cJ (An @e1 @iV) ?_
   refine Xd (fun k:Nat=>k≤2) (fun k=>⟨[(1,.int .i64 0),(3,.int .i64 port),(10,.ptr 0 0),(12,.ptr 2 0),(14,.int .i64 26),(15,.int .i64 12),(86,.agg [.int .i64 hi,.int .i64 lo]),(87,.int .i64 (kI k))],[(0,.cells [.int .i64 17,.int .i64 aB,.int .i64 ai,.int .i64 dst,.int .i64 aj,.int .i64 av,.int .i64 id,.int .i64 flags,.int .i64 seq,.int .i64 aL,.int .i64 win,.str body]),(1,.cells (Xg (ud k l B1 B2))),(2,.cells [.sl 1 1 0 l.length l.length,.bool true])],3⟩) (fun k=>2 - k) xD.mixed hN
    ⟨0,by omega,[(1,3),(2,4)],by exact Qq (An @Wj @kz)⟩ fun k hk=>?_
   obtain rfl|rfl|rfl:k=0∨k=1∨k=2:=by omega
   ·refine Zp (An @Wj @kz) ?_
    (refine Qa (fun q1=>?_) (fun q1=>?_)<;>try exact q1.elim)
    refine Zp (An @Wj @kz) ?_
    refine oC (gL c.gl l 12) ?_
    (have zC:=(Jl c.gl l true 12 10 hi ae ae ae);refine Zy (ip [2,1]) zC @eH ?_ ?_;clear zC)
    ·rfl
    (refine Qa (fun q2=>?_) (fun q2=>?_)<;>try exact q2.elim)
    refine Uo ?_
    (have zC:=(uc c.gl (Ql l 12 10 hi) true 26 (w2 l 12) hi (by rw[Qy];omega) (by rw[Qy];omega));refine Zy (ip [2,1]) zC @Qy ?_ ?_;clear zC)
    ·rfl
    refine ⟨1,by omega,⟨[],?_⟩,by omega⟩
    exact kv (An @Wl (An @kA @fq))
   ·refine Zp (An @Wl @kA) ?_
    (refine Qa (fun q1=>?_) (fun q1=>?_)<;>try exact q1.elim)
    refine Zp (An @Wl @kA) ?_
    refine oC (gL c.gl B1 14) ?_
    (have zC:=(Jl c.gl B1 true 14 10 lo ae ae ae);refine Zy (ip [2,1]) zC @eH ?_ ?_;clear zC)
    ·rfl
    (refine Qa (fun q2=>?_) (fun q2=>?_)<;>try exact q2.elim)
    refine Uo ?_
    (have zC:=(uc c.gl (Ql B1 14 10 lo) true 26 (w2 B1 14) lo (by rw[Qy];omega) (by rw[Qy];omega));refine Zy (ip [2,1]) zC (An @Qy @eH) ?_ ?_;clear zC)
    ·rfl
    refine ⟨2,by omega,⟨[],?_⟩,by omega⟩
    exact kv (An @Wi (An @kB @fQ))
   refine Zp (An @Wi @kB) ?_
   (refine Qa (fun q1=>?_) (fun q1=>?_)<;>try exact q1.elim)
   refine Zp (An @Wi (An @kB (An @pJ @e3))) ?_
   refine Zy (ip [2,1]) s3 (An @pJ (An @e3 @iS)) ?_ ?_
   ·rfl
   (refine Qa (fun q2=>?_) (fun q2=>?_)<;>try exact q2.elim)
   refine Uo ?_
   have hz:=AD B4 26 ae
   have uh:=ss c.gl (B4.drop 20) (by rw[List.length_drop];omega)
   by_cases z:w2 B4 26=0
   ·have ll:(b1 B4 26 == 0)=true:=by simp[(hz.1 z).1]
    have ln:(b1 B4 27 == 0)=true:=by simp[(hz.1 z).2]
    refine Zy (ip [2,1]) s4 (An @iT (An @Qm (An @ll @ln))) ?_ ?_
    ·rfl
    have cx:RR=(B4.set 26 255).set 27 255:=(jF.out.trans (if_pos ⟨z,.inl rfl⟩)).trans (AB _ _)
    rw[cx]
    clear cx
    ((first|apply Yd|apply Xr)<;>(have aJ:=@Qm;have bm:=@ll;have bL:=@ln;refine XG ?_;clear aJ bm bL;first|exact rfl|exact True.intro|((try (repeat' with_reducible refine And.intro ?_ ?_));(try any_goals (first|refine zm ?_|exact CL|fail)))))
    (refine Qa (fun q3=>?_) (fun q3=>?_)<;>try exact q3.elim)
    exact kv (An @AA @iT)
   ·have bz:(b1 B4 26 == 0 && b1 B4 27 == 0)=false:=by
     have hn:¬ (b1 B4 26=0∧b1 B4 27=0):=fun h=>z (hz.2 h)
     rw[Bool.and_eq_false_iff,beq_eq_false_iff_ne,beq_eq_false_iff_ne];omega
    have cx:RR=B4:=jF.out.trans (if_neg fun h=>z h.1)
    rw[cx]
    clear cx
    refine Zy (ip [2,1]) s4 (An @iT (An @Qm @bz)) ?_ ?_
    ·rfl
    ((first|apply Yd|apply Xr)<;>(have aJ:=@Qm;have bm:=@bz;refine XG ?_;clear aJ bm;first|exact rfl|exact True.intro|((try (repeat' with_reducible refine And.intro ?_ ?_));(try any_goals (first|refine zm ?_|exact CL|fail)))))
    (refine Qa (fun q3=>?_) (fun q3=>?_)<;>try exact q3.elim)
    exact Qq (An @Qm @bz)
  ·have bF:Yc l 17 av (oE 1) (oF 17 1) addr port=Yc l 17 av 16 22 addr port:=rfl
   rw[bF]
   clear bF
   have e1:=Ax addr eG.1
   have e2:=Ay addr eG
   have e3:=Az (av - 1) 17 ae ae
   have t3:Yc l 17 av 16 22 addr port=(if (w2 (Ql (Ql (tl (Ql (tl (Ql l 16 10 (addr / 65536)) 17 (w2 l 16) (addr / 65536)) 18 10 (addr % 65536)) 17 (w2 (tl (Ql l 16 10 (addr / 65536)) 17 (w2 l 16) (addr / 65536)) 18) (addr % 65536)) 8 10 ((av - 1) * 256 + 17)) 22 26 port) 26=0)∧((17:Int)=17∨cq ((Ql (Ql (tl (Ql (tl (Ql l 16 10 (addr / 65536)) 17 (w2 l 16) (addr / 65536)) 18 10 (addr % 65536)) 17 (w2 (tl (Ql l 16 10 (addr / 65536)) 17 (w2 l 16) (addr / 65536)) 18) (addr % 65536)) 8 10 ((av - 1) * 256 + 17)) 22 26 port).drop 20)=0) then Wf (Ql (Ql (tl (Ql (tl (Ql l 16 10 (addr / 65536)) 17 (w2 l 16) (addr / 65536)) 18 10 (addr % 65536)) 17 (w2 (tl (Ql l 16 10 (addr / 65536)) 17 (w2 l 16) (addr / 65536)) 18) (addr % 65536)) 8 10 ((av - 1) * 256 + 17)) 22 26 port) 26 65535 else Ql (Ql (tl (Ql (tl (Ql l 16 10 (addr / 65536)) 17 (w2 l 16) (addr / 65536)) 18 10 (addr % 65536)) 17 (w2 (tl (Ql l 16 10 (addr / 65536)) 17 (w2 l 16) (addr / 65536)) 18) (addr % 65536)) 8 10 ((av - 1) * 256 + 17)) 22 26 port):=rfl
   rw[t3]
   clear t3
   obtain ⟨hi,nz⟩:∃ x,x=addr / 65536:=⟨_,rfl⟩
   obtain ⟨lo,iR⟩:∃ x,x=addr % 65536:=⟨_,rfl⟩
   rw[← nz]at e1 ⊢
   rw[← iR]at e2 ⊢
   have qJ:0≤hi∧hi≤65535:=by omega
   have qK:0≤lo∧lo≤65535:=by omega
   have E1:tl (Ql l 16 10 hi) 17 (w2 l 16) hi=Kh (Ql l 16 10 hi) 26 (w2 l 16) hi:=rfl
   obtain ⟨B1,fq⟩:∃ x,x=tl (Ql l 16 10 hi) 17 (w2 l 16) hi:=⟨_,rfl⟩
   rw[← fq]
   rw[E1]at fq
   have E2:tl (Ql B1 18 10 lo) 17 (w2 B1 18) lo=Kh (Ql B1 18 10 lo) 26 (w2 B1 18) lo:=rfl
   obtain ⟨B2,fQ⟩:∃ x,x=tl (Ql B1 18 10 lo) 17 (w2 B1 18) lo:=⟨_,rfl⟩
   rw[← fQ]
   rw[E2]at fQ
   clear E1 E2
   have eH:B1.length=l.length:=by rw[fq];simp[Qy,Js]
   have jQ:B2.length=l.length:=by rw[fQ];simp[Qy,Js,eH]
   have iS:(Ql B2 8 10 ((av - 1) * 256 + 17)).length=l.length:=by rw[Qy,jQ]
   have iT:(Ql (Ql B2 8 10 ((av - 1) * 256 + 17)) 22 26 port).length=l.length:=by rw[Qy,iS]
   have s3:=Jl c.gl B2 true 8 10 ((av - 1) * 256 + 17) ae ae ae
   have s4:=Jl c.gl (Ql B2 8 10 ((av - 1) * 256 + 17)) true 22 26 port ae ae ae
   rw[jQ]at s3
   rw[iS]at s4
   generalize Ql (Ql B2 8 10 ((av - 1) * 256 + 17)) 22 26 port=B4 at *
   generalize Ql B2 8 10 ((av - 1) * 256 + 17)=B3 at *
   obtain ⟨RR,iU⟩:∃ x,x=(if (w2 B4 26=0)∧((17:Int)=17∨cq (B4.drop 20)=0) then Wf B4 26 65535 else B4):=⟨_,rfl⟩
   rw[← iU]
   have jF:=Lib.hid iU
   clear iU
   (refine Qa (fun g3=>?_) (fun g3=>?_)<;>try exact g3.elim)
   refine Qe ?_
   refine Ja ?_
   have iV:addr % 65536=lo:=iR.symm
   clear iR
   refine Ab cJ (An @e1 @iV) ?_
   refine Xd (fun k:Nat=>k≤2) (fun k=>⟨[(1,.int .i64 1),(3,.int .i64 port),(10,.ptr 0 0),(12,.ptr 2 0),(14,.int .i64 26),(15,.int .i64 16),(86,.agg [.int .i64 hi,.int .i64 lo]),(87,.int .i64 (kI k))],[(0,.cells [.int .i64 17,.int .i64 aB,.int .i64 ai,.int .i64 dst,.int .i64 aj,.int .i64 av,.int .i64 id,.int .i64 flags,.int .i64 seq,.int .i64 aL,.int .i64 win,.str body]),(1,.cells (Xg (ud k l B1 B2))),(2,.cells [.sl 1 1 0 l.length l.length,.bool true])],3⟩) (fun k=>2 - k) xD.mixed hN
    ⟨0,by omega,[(1,3),(2,4)],by exact Qq (An @Wj @kz)⟩ fun k hk=>?_
   obtain rfl|rfl|rfl:k=0∨k=1∨k=2:=by omega
   ·refine Zp (An @Wj @kz) ?_
    (refine Qa (fun q1=>?_) (fun q1=>?_)<;>try exact q1.elim)
    refine Zp (An @Wj @kz) ?_
    refine oC (gL c.gl l 16) ?_
    (have zC:=(Jl c.gl l true 16 10 hi ae ae ae);refine Zy (ip [2,1]) zC @eH ?_ ?_;clear zC)
    ·rfl
    (refine Qa (fun q2=>?_) (fun q2=>?_)<;>try exact q2.elim)
    refine Uo ?_
    (have zC:=(uc c.gl (Ql l 16 10 hi) true 26 (w2 l 16) hi (by rw[Qy];omega) (by rw[Qy];omega));refine Zy (ip [2,1]) zC @Qy ?_ ?_;clear zC)
    ·rfl
    refine ⟨1,by omega,⟨[],?_⟩,by omega⟩
    exact kv (An @Wl (An @kA @fq))
   ·refine Zp (An @Wl @kA) ?_
    (refine Qa (fun q1=>?_) (fun q1=>?_)<;>try exact q1.elim)
    refine Zp (An @Wl @kA) ?_
    refine oC (gL c.gl B1 18) ?_
    (have zC:=(Jl c.gl B1 true 18 10 lo ae ae ae);refine Zy (ip [2,1]) zC @eH ?_ ?_;clear zC)
    ·rfl
    (refine Qa (fun q2=>?_) (fun q2=>?_)<;>try exact q2.elim)
    refine Uo ?_
    (have zC:=(uc c.gl (Ql B1 18 10 lo) true 26 (w2 B1 18) lo (by rw[Qy];omega) (by rw[Qy];omega));refine Zy (ip [2,1]) zC (An @Qy @eH) ?_ ?_;clear zC)
    ·rfl
    refine ⟨2,by omega,⟨[],?_⟩,by omega⟩
    exact kv (An @Wi (An @kB @fQ))
   refine Zp (An @Wi @kB) ?_
   (refine Qa (fun q1=>?_) (fun q1=>?_)<;>try exact q1.elim)
   refine Zp (An @Wi (An @kB (An @pJ @e3))) ?_
   refine Zy (ip [2,1]) s3 (An @pJ (An @e3 @iS)) ?_ ?_
   ·rfl
   (refine Qa (fun q2=>?_) (fun q2=>?_)<;>try exact q2.elim)
   refine Uo ?_
   have hz:=AD B4 26 ae
   have uh:=ss c.gl (B4.drop 20) (by rw[List.length_drop];omega)
   by_cases z:w2 B4 26=0
   ·have ll:(b1 B4 26 == 0)=true:=by simp[(hz.1 z).1]
    have ln:(b1 B4 27 == 0)=true:=by simp[(hz.1 z).2]
    refine Zy (ip [2,1]) s4 (An @iT (An @Qm (An @ll @ln))) ?_ ?_
    ·rfl
    have cx:RR=(B4.set 26 255).set 27 255:=(jF.out.trans (if_pos ⟨z,.inl rfl⟩)).trans (AB _ _)
    rw[cx]
    clear cx
    ((first|apply Yd|apply Xr)<;>(have aJ:=@Qm;have bm:=@ll;have bL:=@ln;refine XG ?_;clear aJ bm bL;first|exact rfl|exact True.intro|((try (repeat' with_reducible refine And.intro ?_ ?_));(try any_goals (first|refine zm ?_|exact CL|fail)))))
    (refine Qa (fun q3=>?_) (fun q3=>?_)<;>try exact q3.elim)
    exact kv (An @AA @iT)
   ·have bz:(b1 B4 26 == 0 && b1 B4 27 == 0)=false:=by
     have hn:¬ (b1 B4 26=0∧b1 B4 27=0):=fun h=>z (hz.2 h)
     rw[Bool.and_eq_false_iff,beq_eq_false_iff_ne,beq_eq_false_iff_ne];omega
    have cx:RR=B4:=jF.out.trans (if_neg fun h=>z h.1)
    rw[cx]
    clear cx
    refine Zy (ip [2,1]) s4 (An @iT (An @Qm @bz)) ?_ ?_
    ·rfl
    ((first|apply Yd|apply Xr)<;>(have aJ:=@Qm;have bm:=@bz;refine XG ?_;clear aJ bm;first|exact rfl|exact True.intro|((try (repeat' with_reducible refine And.intro ?_ ?_));(try any_goals (first|refine zm ?_|exact CL|fail)))))
    (refine Qa (fun q3=>?_) (fun q3=>?_)<;>try exact q3.elim)
    exact Qq (An @Qm @bz)
end Go.Proofs.YtogckmommodmhaaGreatDoor
