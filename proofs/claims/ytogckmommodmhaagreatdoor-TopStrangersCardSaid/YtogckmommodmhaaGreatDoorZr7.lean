import Derived.Test.YtogckmommodmhaaGreatDoorZr6
import Derived.Deep.Slices
import Derived.Deep.Fields
import Derived.ChangeSame
import Derived.Deep.MidRow
namespace Go.Proofs.YtogckmommodmhaaGreatDoor
open Go.RowKit
set_option linter.all false
set_option linter.unusedSimpArgs false
set_option maxRecDepth 100000
theorem Qpp {f:List UInt8} (h:rdE f=0):H6 f∧Yw (rdK f)=0:=by
 have h1:¬ G1 f:=fun h1=>by rw[rd1 h1]at h;cases h
 have h2:¬ G2 f:=fun h2=>by rw[rd2 h1 h2]at h;cases h
 have h3:¬ G3 f:=fun h3=>by rw[rd3 h1 h2 h3]at h;cases h
 have h4:¬ G4 f:=fun h4=>by rw[rd4 h1 h2 h3 h4]at h;cases h
 have k:H4 f:=⟨h1,h2,h3,h4⟩
 have h5:¬ G5 f:=fun h5=>by rw[rd5 k h5]at h;cases h
 have h6:¬ G6 f:=fun h6=>by rw[rd6 k h5 h6]at h;cases h
 have k6:H6 f:=⟨k,h5,h6⟩
 have h7:¬ G7 f:=fun h7=>by rw[rd7 k6 h7]at h;cases h
 have h8:¬ G8 f:=fun h8=>by rw[rd8 k6 h7 h8]at h;cases h
 have h9:¬ G9 f:=fun h9=>by rw[rd9 k6 h7 h8 h9]at h;cases h
 have h10:¬ G10 f:=fun h10=>by rw[Xbj k6 h7 h8 h9 h10]at h;cases h
 exact ⟨k6,by rw[← Qtf k6 h7 h8 h9 h10];exact h⟩
theorem Xh4 (f:List UInt8):(rdK f).proto=b1 f 9:=by
 unfold rdK
 dsimp only
 split
 ·rfl
 ·split<;>rfl
theorem Xvo {f:List UInt8} (h:rdE f=0) (h9:b1 f 9=6):40≤f.length:=by
 have:=(Qpp h).1.g6
 have h2:=Qlc h
 unfold G6 at this
 rw[h9,List.length_drop]at this
 simp only[if_true]at this
 omega
theorem Qkj (a:Int) (h:0≤a):a.fdiv (2 ^ min 16 64)=a / 65536:=by
 rw[Int.fdiv_eq_ediv_of_nonneg _ Zde];rfl
theorem Qkq (a:Int) (h:0≤a∧a≤4294967295):bits .and .i64 a 65535=a % 65536:=by
 obtain ⟨x,rfl⟩:=Int.eq_ofNat_of_zero_le h.1
 show IntKind.i64.wrap (((BitVec.ofInt 64 (x:Int)) &&& (BitVec.ofInt 64 65535)).toNat:Int)=_
 rw[BitVec.toNat_and,BitVec.toNat_ofInt,BitVec.toNat_ofInt]
 have e1:((x:Int) % ((2 ^ 64:Nat):Int)).toNat=x:=by omega
 have e2:((65535:Int) % ((2 ^ 64:Nat):Int)).toNat=2 ^ 16 - 1:=by decide
 rw[e1,e2,Nat.and_two_pow_sub_one_eq_mod,IntKind.wrap_i64]
 omega
theorem Qkv (t p:Int) (ht:0≤t∧t≤255) (hp:0≤p∧p≤255):bits .or .i64 (t * 256) p=t * 256 + p:=by
 have h:=Xkv t p hp.1 Zom
 rw[IntKind.wrap_i64,IntKind.wrap_i64]at h
 have e1:(t * 256 + 9223372036854775808) % 18446744073709551616 - 9223372036854775808=t * 256:=by omega
 have e2:(256 * t + p + 9223372036854775808) % 18446744073709551616 - 9223372036854775808=t * 256 + p:=by omega
 rw[e1,e2]at h;exact h
theorem Qc9:(2:Int) ^ min 8 64=256:=by decide
theorem Qat (l:List UInt8) (i:Nat):(Xk l).set i (.int .u8 255)=Xk (l.set i 255):=by
 have e:(.int .u8 255:AV)=.int .u8 ((255:UInt8).toNat:Int):=rfl
 rw[e,Xk,Xk,List.map_set]
theorem Qf6 (l:List UInt8) (k:Nat):Qao l k 65535=(l.set k 255).set (k + 1) 255:=by
 unfold Qao
 rw[show Qf 65535 1=255 by decide,show Qf 65535 0=255 by decide]
theorem Qp7 (l:List UInt8) (k:Nat) (h:k + 2≤l.length):w2 l k=0 ↔ b1 l k=0∧b1 l (k + 1)=0:=by
 have:=Yae l k h
 have:=Qe7 l k
 have:=Qe7 l (k + 1)
 omega
def kI (k:Nat):Int:=k
theorem Qaz:kI 0=0:=rfl
theorem Qay:kI 1=1:=rfl
theorem Qb0:kI 2=2:=rfl
def Qid (k:Nat) (a b c:List UInt8):List UInt8:=match k with|0=>a|1=>b|_=>c
theorem Kt (a b c:List UInt8):Qid 0 a b c=a:=rfl
theorem Ku (a b c:List UInt8):Qid 1 a b c=b:=rfl
theorem Ks (a b c:List UInt8):Qid 2 a b c=c:=rfl
def Qdd (l:List UInt8) (side addr port:Int):AV :=
 if rdE l≠0 then .tup [.str [],.int .i64 (rdE l)]
 else if Qeb (rdK l) side addr port≠0 then .tup [.str [],.int .i64 (Qeb (rdK l) side addr port)]
 else .tup [.str (Kk l (rdK l).proto (rdK l).ttl (Qi6 side) (Qig (rdK l).proto side) addr port),.int .i64 0]
theorem Xvg (l:List UInt8) (side addr port:Int):Qe 0 (Qdd l side addr port):=by
 unfold Qdd;split
 ·simp[Qe,nmAll]
 ·split<;>simp[Qe,nmAll]
theorem Xqq {l:List UInt8} {side addr port e:Int} (h:rdE l=0) (ht:Qeb (rdK l) side addr port=e) (he:e≠0):Qdd l side addr port=.tup [.str [],.int .i64 e]:=by
 unfold Qdd;rw[if_neg Zom,ht,if_pos he]
theorem te2 {p:Pk} {side addr port:Int} (h:side < 0∨side > 1∨¬ (0≤addr∧addr≤4294967295)∨¬ (0≤port∧port≤65535)):Qeb p side addr port=2:=if_pos h
theorem Ybc {p:Pk} {side addr port:Int} (h:¬ (side < 0∨side > 1∨¬ (0≤addr∧addr≤4294967295)∨¬ (0≤port∧port≤65535))) (h2:p.ttl=1):Qeb p side addr port=12:=(if_neg h).trans (if_pos h2)
theorem te4 {p:Pk} {side addr port:Int} (h:¬ (side < 0∨side > 1∨¬ (0≤addr∧addr≤4294967295)∨¬ (0≤port∧port≤65535))) (h2:¬ p.ttl=1) (h3:p.proto=1∧¬ (side=0 ↔ p.flags=8)):Qeb p side addr port=4:=(if_neg h).trans ((if_neg h2).trans (if_pos h3))
theorem te0 {p:Pk} {side addr port:Int} (h:¬ (side < 0∨side > 1∨¬ (0≤addr∧addr≤4294967295)∨¬ (0≤port∧port≤65535))) (h2:¬ p.ttl=1) (h3:¬ (p.proto=1∧¬ (side=0 ↔ p.flags=8))):Qeb p side addr port=0:=(if_neg h).trans ((if_neg h2).trans (if_neg h3))
set_option maxHeartbeats 16000000 in
set_option maxRecDepth 20000 in
theorem Xa5 (gl:Nat→AV) (l:List UInt8) (side addr port:Int) (hl:l.length≤140737488351232):PS Tryz.prog gl 94 [.str l,.int .i64 side,.int .i64 addr,.int .i64 port] (Qdd l side addr port):=by
 refine Qch.ps (of_decide_eq_true rfl) (Xvg l side addr port) fun c hN hg=>?_
 conv in tcO _ _=>cbv
 have hP:=Qdl c.gl l hl
 by_cases he:rdE l=0
 rotate_left
 ·rw[Xz rfl he]at hP
  have hr:Qdd l side addr port=.tup [.str [],.int .i64 (rdE l)]:=if_pos he
  rw[hr]
  clear hr
  generalize rdE l=E at *
  unfold pk0 Pk.enc at hP
  dsimp only at hP
  refine Qd ?_
  refine Yt hP ?_
  (refine Qa (fun g1=>?_) (fun g1=>?_)<;>try exact g1.elim)
  ·exact Qs
  ·exact (he g1).elim
 obtain ⟨l28,l65⟩:=Qlc he
 have htcp:=@Xvo l he
 have hpr:=Xh4 l
 obtain ⟨hK6,hpk⟩:=Qpp he
 obtain ⟨hp,hr,hbl,hfm⟩:=Qck hpk
 rw[Qnu he]at hP
 have hlo:=Xa2 c.gl [addr] Zsi
 have hwo:=Qpa c.gl [port] Zsi
 have hbad:=fun e=>@Xqq l side addr port e he
 have hte2:=@te2 (rdK l) side addr port
 have hte12:=@Ybc (rdK l) side addr port
 have hte4:=@te4 (rdK l) side addr port
 have hte0:=@te0 (rdK l) side addr port
 have hgood:Qeb (rdK l) side addr port=0→Qdd l side addr port=.tup [.str (Kk l (rdK l).proto (rdK l).ttl (Qi6 side) (Qig (rdK l).proto side) addr port),.int .i64 0]:=fun h=>by
  unfold Qdd;rw[if_neg Zom,if_neg Zom]
 generalize Qdd l side addr port=TT at *
 generalize Qeb (rdK l) side addr port=TE at *
 obtain ⟨r1,r2,r3,r4,r5,r6,r7,r8,r9,r10⟩:=hr
 clear hfm hbl hpk hK6
 generalize rdK l=q at *
 obtain ⟨proto,frm,sport,dst,dport,ttl,id,flags,seq,ack,win,body⟩:=q
 unfold Pk.enc at hP
 dsimp only at *
 clear r1 r2 r3 r4 r5 r6 r7 r8
 have HB:=Lib.hid hbad
 have HT2:=Lib.hid hte2
 have HT12:=Lib.hid hte12
 have HT4:=Lib.hid hte4
 have HT0:=Lib.hid hte0
 have HG:=Lib.hid hgood
 have HTCP:=Lib.hid htcp
 clear hbad hte2 hte12 hte4 hte0 hgood htcp
 by_cases hside:side < 0∨side > 1
 ·rw[HB.out _ (HT2.out Zom) Zde]
  have d1:(decide (side < 0) || decide (1 < side))=true:=by simp;omega
  refine Qd ?_
  refine Yt hP ?_
  (refine Qa (fun g1=>?_) (fun g1=>?_)<;>try exact g1.elim)
  refine Qg @d1 ?_
  ((first|apply Yd|apply Xu)<;>(have zf1:=@d1;refine XG ?_;clear zf1;first|exact rfl|exact True.intro|((try (repeat' with_reducible refine And.intro ?_ ?_));(try any_goals (first|refine zm ?_|exact CL|fail)))))
  ((first|apply Yd|apply Xu)<;>(have zf1:=@d1;refine XG ?_;clear zf1;first|exact rfl|exact True.intro|((try (repeat' with_reducible refine And.intro ?_ ?_));(try any_goals (first|refine zm ?_|exact CL|fail)))))
  ((first|apply Yd|apply Xu)<;>(have zf1:=@d1;refine XG ?_;clear zf1;first|exact rfl|exact True.intro|((try (repeat' with_reducible refine And.intro ?_ ?_));(try any_goals (first|refine zm ?_|exact CL|fail)))))
  ((first|apply Yd|apply Xu)<;>(have zf1:=@d1;refine XG ?_;clear zf1;first|exact rfl|exact True.intro|((try (repeat' with_reducible refine And.intro ?_ ?_));(try any_goals (first|refine zm ?_|exact CL|fail)))))
  (refine Qa (fun g2=>?_) (fun g2=>?_)<;>try exact g2.elim)
  exact Qs
 have d1:(decide (side < 0) || decide (1 < side))=false:=by simp;omega
 by_cases haddr:0≤addr∧addr≤4294967295
 rotate_left
 ·rw[HB.out _ (HT2.out Zom) Zde]
  have hb:[addr].all (inW 4294967295)=false:=by simp[inW];omega
  rw[hb]at hlo
  refine Qd ?_
  refine Yt hP ?_
  (refine Qa (fun g1=>?_) (fun g1=>?_)<;>try exact g1.elim)
  refine Qg @d1 ?_
  ((refine Qg9 ?_ ?_ ?_);(focus (have zf1:=@d1;refine XG ?_;clear zf1;try first|exact rfl|exact True.intro));(focus (have zf1:=@d1;refine XG ?_;clear zf1;try trivial)))
  refine Zr @d1 ?_
  ((first|apply Wg|apply Ke)<;>(first|exact hlo|(with_reducible (exact Jm.bool _))|(have zf1:=@d1;refine XG ?_;clear zf1;first|exact rfl|exact True.intro|((try (repeat' with_reducible refine And.intro ?_ ?_));(try any_goals (first|refine zm ?_|exact CL|fail))))))
  ((first|apply Yd|apply Xu)<;>(have zf1:=@d1;refine XG ?_;clear zf1;first|exact rfl|exact True.intro|((try (repeat' with_reducible refine And.intro ?_ ?_));(try any_goals (first|refine zm ?_|exact CL|fail)))))
  ((first|apply Yd|apply Xu)<;>(have zf1:=@d1;refine XG ?_;clear zf1;first|exact rfl|exact True.intro|((try (repeat' with_reducible refine And.intro ?_ ?_));(try any_goals (first|refine zm ?_|exact CL|fail)))))
  (refine Qa (fun g2=>?_) (fun g2=>?_)<;>try exact g2.elim)
  exact Qs
 have hb:[addr].all (inW 4294967295)=true:=by simp[inW];omega
 rw[hb]at hlo
 by_cases hport:0≤port∧port≤65535
 rotate_left
 ·rw[HB.out _ (HT2.out Zom) Zde]
  have hb2:[port].all (inW 65535)=false:=by simp[inW];omega
  rw[hb2]at hwo
  refine Qd ?_
  refine Yt hP ?_
  (refine Qa (fun g1=>?_) (fun g1=>?_)<;>try exact g1.elim)
  refine Qg @d1 ?_
  ((refine Qg9 ?_ ?_ ?_);(focus (have zf1:=@d1;refine XG ?_;clear zf1;try first|exact rfl|exact True.intro));(focus (have zf1:=@d1;refine XG ?_;clear zf1;try trivial)))
  refine Zr @d1 ?_
  ((first|apply Wg|apply Ke)<;>(first|exact hlo|(with_reducible (exact Jm.bool _))|(have zf1:=@d1;refine XG ?_;clear zf1;first|exact rfl|exact True.intro|((try (repeat' with_reducible refine And.intro ?_ ?_));(try any_goals (first|refine zm ?_|exact CL|fail))))))
  ((refine Qg9 ?_ ?_ ?_);(focus (have zf1:=@d1;refine XG ?_;clear zf1;try first|exact rfl|exact True.intro));(focus (have zf1:=@d1;refine XG ?_;clear zf1;try trivial)))
  refine Zr @d1 ?_
  ((first|apply Wg|apply Ke)<;>(first|exact hwo|(with_reducible (exact Jm.bool _))|(have zf1:=@d1;refine XG ?_;clear zf1;first|exact rfl|exact True.intro|((try (repeat' with_reducible refine And.intro ?_ ?_));(try any_goals (first|refine zm ?_|exact CL|fail))))))
  (refine Qa (fun g2=>?_) (fun g2=>?_)<;>try exact g2.elim)
  exact Qs
 have hb2:[port].all (inW 65535)=true:=by simp[inW];omega
 rw[hb2]at hwo
 have hok:¬ (side < 0∨side > 1∨¬ (0≤addr∧addr≤4294967295)∨¬ (0≤port∧port≤65535)):=by omega
 clear hb hb2
 refine Qd ?_
 refine Yt hP ?_
 (refine Qa (fun g1=>?_) (fun g1=>?_)<;>try exact g1.elim)
 refine Qg @d1 ?_
 ((refine Qg9 ?_ ?_ ?_);(focus (have zf1:=@d1;refine XG ?_;clear zf1;try first|exact rfl|exact True.intro));(focus (have zf1:=@d1;refine XG ?_;clear zf1;try trivial)))
 refine Zr @d1 ?_
 ((first|apply Wg|apply Ke)<;>(first|exact hlo|(with_reducible (exact Jm.bool _))|(have zf1:=@d1;refine XG ?_;clear zf1;first|exact rfl|exact True.intro|((try (repeat' with_reducible refine And.intro ?_ ?_));(try any_goals (first|refine zm ?_|exact CL|fail))))))
 ((refine Qg9 ?_ ?_ ?_);(focus (have zf1:=@d1;refine XG ?_;clear zf1;try first|exact rfl|exact True.intro));(focus (have zf1:=@d1;refine XG ?_;clear zf1;try trivial)))
 refine Zr @d1 ?_
 ((first|apply Wg|apply Ke)<;>(first|exact hwo|(with_reducible (exact Jm.bool _))|(have zf1:=@d1;refine XG ?_;clear zf1;first|exact rfl|exact True.intro|((try (repeat' with_reducible refine And.intro ?_ ?_));(try any_goals (first|refine zm ?_|exact CL|fail))))))
 (refine Qa (fun g2=>?_) (fun g2=>?_)<;>try exact g2.elim)
 refine Qd ?_
 (refine Qa (fun h12=>?_) (fun h12=>?_)<;>try exact h12.elim)
 ·rw[HB.out _ (HT12.out hok h12) Zde]
  exact Qs
 rcases hp with h9|h9|h9
 ·rw[h9]
  have hsz:=Qhh c.gl 1
  have hz:Ur 1=.tup [.int .i64 8,.int .i64 2]:=rfl
  rw[hz]at hsz
  clear hz
  have hlm:28≤l.length:=by omega
  by_cases hsf:side=0 ↔ flags=8
  rotate_left
  ·rw[HB.out _ (HT4.out hok h12 ⟨h9,hsf⟩) Zde]
   have hx:((side == 0) == (flags == 8))=false:=by
    by_cases h1:side=0
    ·rw[show (side == 0)=true by simp[h1],show (flags == 8)=false by simp;exact fun h=>hsf ⟨fun _=>h,fun _=>h1⟩];rfl
    ·rw[show (side == 0)=false by simp[h1],show (flags == 8)=true by simp;exact Decidable.not_not.1 fun h=>hsf ⟨fun x=>(h1 x).elim,fun x=>(h x).elim⟩];rfl
   refine Qg (An @hx (An @Bool.not_true @Bool.not_false)) ?_
   (refine Qa (fun g3=>?_) (fun g3=>?_)<;>try exact g3.elim)
   exact Qs
  have hx:((side == 0) == (flags == 8))=true:=by
   by_cases h1:side=0
   ·rw[show (side == 0)=true by simp[h1],show (flags == 8)=true by simp[hsf.1 h1]];rfl
   ·rw[show (side == 0)=false by simp[h1],show (flags == 8)=false by simp;exact fun h=>h1 (hsf.2 h)];rfl
  rw[HG.out (HT0.out hok h12 (fun h=>h.2 hsf)),h9]
  refine Qg (An @hx (An @Bool.not_true @Bool.not_false)) ?_
  clear HB HT2 HT12 HT4 HT0 HG HTCP
  obtain rfl|rfl:side=0∨side=1:=by omega
  ·have hfin:Kk l 1 ttl (Qi6 0) (Qig 1 0) addr port=Kk l 1 ttl 12 24 addr port:=rfl
   rw[hfin]
   clear hfin
   have e1:=Qkj addr haddr.1
   have e2:=Qkq addr haddr
   have e3:=Qkv (ttl - 1) 1 Zom Zom
   have t3:Kk l 1 ttl 12 24 addr port=(if (w2 (Qk (Qk (tl (Qk (tl (Qk l 12 10 (addr / 65536)) 1 (w2 l 12) (addr / 65536)) 14 10 (addr % 65536)) 1 (w2 (tl (Qk l 12 10 (addr / 65536)) 1 (w2 l 12) (addr / 65536)) 14) (addr % 65536)) 8 10 ((ttl - 1) * 256 + 1)) 24 22 port) 22=0)∧((1:Int)=17∨ofN ((Qk (Qk (tl (Qk (tl (Qk l 12 10 (addr / 65536)) 1 (w2 l 12) (addr / 65536)) 14 10 (addr % 65536)) 1 (w2 (tl (Qk l 12 10 (addr / 65536)) 1 (w2 l 12) (addr / 65536)) 14) (addr % 65536)) 8 10 ((ttl - 1) * 256 + 1)) 24 22 port).drop 20)=0) then Qao (Qk (Qk (tl (Qk (tl (Qk l 12 10 (addr / 65536)) 1 (w2 l 12) (addr / 65536)) 14 10 (addr % 65536)) 1 (w2 (tl (Qk l 12 10 (addr / 65536)) 1 (w2 l 12) (addr / 65536)) 14) (addr % 65536)) 8 10 ((ttl - 1) * 256 + 1)) 24 22 port) 22 65535 else Qk (Qk (tl (Qk (tl (Qk l 12 10 (addr / 65536)) 1 (w2 l 12) (addr / 65536)) 14 10 (addr % 65536)) 1 (w2 (tl (Qk l 12 10 (addr / 65536)) 1 (w2 l 12) (addr / 65536)) 14) (addr % 65536)) 8 10 ((ttl - 1) * 256 + 1)) 24 22 port):=rfl
   rw[t3]
   clear t3
   obtain ⟨hi,hhi⟩:∃ x,x=addr / 65536:=⟨_,rfl⟩
   obtain ⟨lo,hlw⟩:∃ x,x=addr % 65536:=⟨_,rfl⟩
   rw[← hhi]at e1 ⊢
   rw[← hlw]at e2 ⊢
   have hhib:0≤hi∧hi≤65535:=by omega
   have hlwb:0≤lo∧lo≤65535:=by omega
   have E1:tl (Qk l 12 10 hi) 1 (w2 l 12) hi=Qk l 12 10 hi:=rfl
   obtain ⟨B1,hB1⟩:∃ x,x=tl (Qk l 12 10 hi) 1 (w2 l 12) hi:=⟨_,rfl⟩
   rw[← hB1]
   rw[E1]at hB1
   have E2:tl (Qk B1 14 10 lo) 1 (w2 B1 14) lo=Qk B1 14 10 lo:=rfl
   obtain ⟨B2,hB2⟩:∃ x,x=tl (Qk B1 14 10 lo) 1 (w2 B1 14) lo:=⟨_,rfl⟩
   rw[← hB2]
   rw[E2]at hB2
   clear E1 E2
   have hL1:B1.length=l.length:=by rw[hB1];simp[Qo,Jf]
   have hL2:B2.length=l.length:=by rw[hB2];simp[Qo,Jf,hL1]
   have hL3:(Qk B2 8 10 ((ttl - 1) * 256 + 1)).length=l.length:=by rw[Qo,hL2]
   have hL4:(Qk (Qk B2 8 10 ((ttl - 1) * 256 + 1)) 24 22 port).length=l.length:=by rw[Qo,hL3]
   have s3:=Xc c.gl B2 false 8 10 ((ttl - 1) * 256 + 1) Zom Zom Zom
   have s4:=Xc c.gl (Qk B2 8 10 ((ttl - 1) * 256 + 1)) false 24 22 port Zom Zom Zom
   rw[hL2]at s3
   rw[hL3]at s4
   generalize Qk (Qk B2 8 10 ((ttl - 1) * 256 + 1)) 24 22 port=B4 at *
   generalize Qk B2 8 10 ((ttl - 1) * 256 + 1)=B3 at *
   obtain ⟨RR,hRR⟩:∃ x,x=(if (w2 B4 22=0)∧((1:Int)=17∨ofN (B4.drop 20)=0) then Qao B4 22 65535 else B4):=⟨_,rfl⟩
   rw[← hRR]
   have HRR:=Lib.hid hRR
   clear hRR
   (refine Qa (fun g3=>?_) (fun g3=>?_)<;>try exact g3.elim)
   refine Qd ?_
   refine Jh ?_
   have hlw2:addr % 65536=lo:=hlw.symm
   clear hlw
   refine Qp8 hsz (An @e1 @hlw2) ?_
   refine Xl (fun k:Nat=>k≤2) (fun k=>⟨[(1,.int .i64 0),(3,.int .i64 port),(10,.ptr 0 0),(12,.ptr 2 0),(14,.int .i64 22),(15,.int .i64 12),(86,.agg [.int .i64 hi,.int .i64 lo]),(87,.int .i64 (kI k))],[(0,.cells [.int .i64 1,.int .i64 frm,.int .i64 sport,.int .i64 dst,.int .i64 dport,.int .i64 ttl,.int .i64 id,.int .i64 flags,.int .i64 seq,.int .i64 ack,.int .i64 win,.str body]),(1,.cells (Xk (Qid k l B1 B2))),(2,.cells [.sl 1 1 0 l.length l.length,.bool false])],3⟩) (fun k=>2 - k) Qch.mixed hN
    ⟨0,by omega,[(1,3),(2,4)],by exact Qq (An @Kt @Qaz)⟩ fun k hk=>?_
   obtain rfl|rfl|rfl:k=0∨k=1∨k=2:=by omega
   ·refine Zk (An @Kt @Qaz) ?_
    (refine Qa (fun q1=>?_) (fun q1=>?_)<;>try exact q1.elim)
    refine Zk (An @Kt @Qaz) ?_
    refine Qdm (nw2 c.gl l 12) ?_
    ((first|refine Qy (ins:=[2,1]) (Xc c.gl l false 12 10 hi (by omega) (by omega) (by omega)) ?_ ?_|refine Qv (ins:=[2,1]) (Xc c.gl l false 12 10 hi (by omega) (by omega) (by omega)) ?_ ?_|refine Qu (ins:=[2,1]) (Xc c.gl l false 12 10 hi (by omega) (by omega) (by omega)) ?_ ?_|refine Qr (ins:=[2,1]) (Xc c.gl l false 12 10 hi (by omega) (by omega) (by omega)) ?_ ?_)<;>(have zf1:=@hL1;refine XM ?_;clear zf1;(try first|exact rfl|exact True.intro);((try (repeat' with_reducible refine And.intro ?_ ?_));(try any_goals (first|refine zm ?_|exact CL|fail)))))
    ·rfl
    (refine Qa (fun q2=>?_) (fun q2=>?_)<;>try exact q2.elim)
    refine Uc ?_
    refine ⟨1,by omega,⟨[],?_⟩,by omega⟩
    exact Qb1 (An @Ku (An @Qay @hB1))
   ·refine Zk (An @Ku @Qay) ?_
    (refine Qa (fun q1=>?_) (fun q1=>?_)<;>try exact q1.elim)
    refine Zk (An @Ku @Qay) ?_
    refine Qdm (nw2 c.gl B1 14) ?_
    ((first|refine Qy (ins:=[2,1]) (Xc c.gl B1 false 14 10 lo (by omega) (by omega) (by omega)) ?_ ?_|refine Qv (ins:=[2,1]) (Xc c.gl B1 false 14 10 lo (by omega) (by omega) (by omega)) ?_ ?_|refine Qu (ins:=[2,1]) (Xc c.gl B1 false 14 10 lo (by omega) (by omega) (by omega)) ?_ ?_|refine Qr (ins:=[2,1]) (Xc c.gl B1 false 14 10 lo (by omega) (by omega) (by omega)) ?_ ?_)<;>(have zf1:=@hL1;refine XM ?_;clear zf1;(try first|exact rfl|exact True.intro);((try (repeat' with_reducible refine And.intro ?_ ?_));(try any_goals (first|refine zm ?_|exact CL|fail)))))
    ·rfl
    (refine Qa (fun q2=>?_) (fun q2=>?_)<;>try exact q2.elim)
    refine Uc ?_
    refine ⟨2,by omega,⟨[],?_⟩,by omega⟩
    exact Qb1 (An @Ks (An @Qb0 @hB2))
   refine Zk (An @Ks @Qb0) ?_
   (refine Qa (fun q1=>?_) (fun q1=>?_)<;>try exact q1.elim)
   refine Zk (An @Ks (An @Qb0 (An @Qc9 @e3))) ?_
   ((first|refine Qy (ins:=[2,1]) s3 ?_ ?_|refine Qv (ins:=[2,1]) s3 ?_ ?_|refine Qu (ins:=[2,1]) s3 ?_ ?_|refine Qr (ins:=[2,1]) s3 ?_ ?_)<;>(have zf1:=@Qc9;have zf2:=@e3;have zf3:=@hL3;refine XM ?_;clear zf1 zf2 zf3;(try first|exact rfl|exact True.intro);((try (repeat' with_reducible refine And.intro ?_ ?_));(try any_goals (first|refine zm ?_|exact CL|fail)))))
   ·rfl
   (refine Qa (fun q2=>?_) (fun q2=>?_)<;>try exact q2.elim)
   refine Uc ?_
   have hz:=Qp7 B4 22 Zom
   have hOf:=Qe8 c.gl (B4.drop 20) (by rw[List.length_drop];omega)
   by_cases z:w2 B4 22=0
   ·have bz1:(b1 B4 22 == 0)=true:=by simp[(hz.1 z).1]
    have bz2:(b1 B4 23 == 0)=true:=by simp[(hz.1 z).2]
    ((first|refine Qy (ins:=[2,1]) s4 ?_ ?_|refine Qv (ins:=[2,1]) s4 ?_ ?_|refine Qu (ins:=[2,1]) s4 ?_ ?_|refine Qr (ins:=[2,1]) s4 ?_ ?_)<;>(have zf1:=@hL4;have zf2:=@Ql;have zf3:=@bz1;have zf4:=@bz2;refine XM ?_;clear zf1 zf2 zf3 zf4;(try first|exact rfl|exact True.intro);((try (repeat' with_reducible refine And.intro ?_ ?_));(try any_goals (first|refine zm ?_|exact CL|fail)))))
    ·rfl
    refine Xa hOf (An @Ql (An @bz1 @bz2)) ?_
    by_cases zz:ofN (B4.drop 20)=0
    ·have bo:(ofN (B4.drop 20) == 0)=true:=by simp[zz]
     have hR1:RR=(B4.set 22 255).set 23 255:=(HRR.out.trans (if_pos ⟨z,.inr zz⟩)).trans (Qf6 _ _)
     rw[hR1]
     clear hR1
     (refine Qa (fun q3=>?_) (fun q3=>?_)<;>try exact q3.elim)
     ·exact Qb1 (An @Qat @hL4)
     ·omega
    ·have hR1:RR=B4:=HRR.out.trans (if_neg fun h=>h.2.elim Zom zz)
     rw[hR1]
     clear hR1
     (refine Qa (fun q3=>?_) (fun q3=>?_)<;>try exact q3.elim)
     ·omega
     ·exact Qs
   ·have bz:(b1 B4 22 == 0 && b1 B4 23 == 0)=false:=by
     have hn:¬ (b1 B4 22=0∧b1 B4 23=0):=fun h=>z (hz.2 h)
     rw[Bool.and_eq_false_iff,beq_eq_false_iff_ne,beq_eq_false_iff_ne];omega
    have hR1:RR=B4:=HRR.out.trans (if_neg fun h=>z h.1)
    rw[hR1]
    clear hR1
    ((first|refine Qy (ins:=[2,1]) s4 ?_ ?_|refine Qv (ins:=[2,1]) s4 ?_ ?_|refine Qu (ins:=[2,1]) s4 ?_ ?_|refine Qr (ins:=[2,1]) s4 ?_ ?_)<;>(have zf1:=@hL4;have zf2:=@Ql;have zf3:=@bz;refine XM ?_;clear zf1 zf2 zf3;(try first|exact rfl|exact True.intro);((try (repeat' with_reducible refine And.intro ?_ ?_));(try any_goals (first|refine zm ?_|exact CL|fail)))))
    ·rfl
    ((first|apply Yd|apply Xu)<;>(have zf1:=@Ql;have zf2:=@bz;refine XG ?_;clear zf1 zf2;first|exact rfl|exact True.intro|((try (repeat' with_reducible refine And.intro ?_ ?_));(try any_goals (first|refine zm ?_|exact CL|fail)))))
    (refine Qa (fun q3=>?_) (fun q3=>?_)<;>try exact q3.elim)
    exact Qq (An @Ql @bz)
  ·have hfin:Kk l 1 ttl (Qi6 1) (Qig 1 1) addr port=Kk l 1 ttl 16 24 addr port:=rfl
   rw[hfin]
   clear hfin
   have e1:=Qkj addr haddr.1
   have e2:=Qkq addr haddr
   have e3:=Qkv (ttl - 1) 1 Zom Zom
   have t3:Kk l 1 ttl 16 24 addr port=(if (w2 (Qk (Qk (tl (Qk (tl (Qk l 16 10 (addr / 65536)) 1 (w2 l 16) (addr / 65536)) 18 10 (addr % 65536)) 1 (w2 (tl (Qk l 16 10 (addr / 65536)) 1 (w2 l 16) (addr / 65536)) 18) (addr % 65536)) 8 10 ((ttl - 1) * 256 + 1)) 24 22 port) 22=0)∧((1:Int)=17∨ofN ((Qk (Qk (tl (Qk (tl (Qk l 16 10 (addr / 65536)) 1 (w2 l 16) (addr / 65536)) 18 10 (addr % 65536)) 1 (w2 (tl (Qk l 16 10 (addr / 65536)) 1 (w2 l 16) (addr / 65536)) 18) (addr % 65536)) 8 10 ((ttl - 1) * 256 + 1)) 24 22 port).drop 20)=0) then Qao (Qk (Qk (tl (Qk (tl (Qk l 16 10 (addr / 65536)) 1 (w2 l 16) (addr / 65536)) 18 10 (addr % 65536)) 1 (w2 (tl (Qk l 16 10 (addr / 65536)) 1 (w2 l 16) (addr / 65536)) 18) (addr % 65536)) 8 10 ((ttl - 1) * 256 + 1)) 24 22 port) 22 65535 else Qk (Qk (tl (Qk (tl (Qk l 16 10 (addr / 65536)) 1 (w2 l 16) (addr / 65536)) 18 10 (addr % 65536)) 1 (w2 (tl (Qk l 16 10 (addr / 65536)) 1 (w2 l 16) (addr / 65536)) 18) (addr % 65536)) 8 10 ((ttl - 1) * 256 + 1)) 24 22 port):=rfl
   rw[t3]
   clear t3
   obtain ⟨hi,hhi⟩:∃ x,x=addr / 65536:=⟨_,rfl⟩
   obtain ⟨lo,hlw⟩:∃ x,x=addr % 65536:=⟨_,rfl⟩
   rw[← hhi]at e1 ⊢
   rw[← hlw]at e2 ⊢
   have hhib:0≤hi∧hi≤65535:=by omega
   have hlwb:0≤lo∧lo≤65535:=by omega
   have E1:tl (Qk l 16 10 hi) 1 (w2 l 16) hi=Qk l 16 10 hi:=rfl
   obtain ⟨B1,hB1⟩:∃ x,x=tl (Qk l 16 10 hi) 1 (w2 l 16) hi:=⟨_,rfl⟩
   rw[← hB1]
   rw[E1]at hB1
   have E2:tl (Qk B1 18 10 lo) 1 (w2 B1 18) lo=Qk B1 18 10 lo:=rfl
   obtain ⟨B2,hB2⟩:∃ x,x=tl (Qk B1 18 10 lo) 1 (w2 B1 18) lo:=⟨_,rfl⟩
   rw[← hB2]
   rw[E2]at hB2
   clear E1 E2
   have hL1:B1.length=l.length:=by rw[hB1];simp[Qo,Jf]
   have hL2:B2.length=l.length:=by rw[hB2];simp[Qo,Jf,hL1]
   have hL3:(Qk B2 8 10 ((ttl - 1) * 256 + 1)).length=l.length:=by rw[Qo,hL2]
   have hL4:(Qk (Qk B2 8 10 ((ttl - 1) * 256 + 1)) 24 22 port).length=l.length:=by rw[Qo,hL3]
   have s3:=Xc c.gl B2 false 8 10 ((ttl - 1) * 256 + 1) Zom Zom Zom
   have s4:=Xc c.gl (Qk B2 8 10 ((ttl - 1) * 256 + 1)) false 24 22 port Zom Zom Zom
   rw[hL2]at s3
   rw[hL3]at s4
   generalize Qk (Qk B2 8 10 ((ttl - 1) * 256 + 1)) 24 22 port=B4 at *
   generalize Qk B2 8 10 ((ttl - 1) * 256 + 1)=B3 at *
   obtain ⟨RR,hRR⟩:∃ x,x=(if (w2 B4 22=0)∧((1:Int)=17∨ofN (B4.drop 20)=0) then Qao B4 22 65535 else B4):=⟨_,rfl⟩
   rw[← hRR]
   have HRR:=Lib.hid hRR
   clear hRR
   (refine Qa (fun g3=>?_) (fun g3=>?_)<;>try exact g3.elim)
   refine Qd ?_
   refine Jh ?_
   have hlw2:addr % 65536=lo:=hlw.symm
   clear hlw
   refine Qp8 hsz (An @e1 @hlw2) ?_
   refine Xl (fun k:Nat=>k≤2) (fun k=>⟨[(1,.int .i64 1),(3,.int .i64 port),(10,.ptr 0 0),(12,.ptr 2 0),(14,.int .i64 22),(15,.int .i64 16),(86,.agg [.int .i64 hi,.int .i64 lo]),(87,.int .i64 (kI k))],[(0,.cells [.int .i64 1,.int .i64 frm,.int .i64 sport,.int .i64 dst,.int .i64 dport,.int .i64 ttl,.int .i64 id,.int .i64 flags,.int .i64 seq,.int .i64 ack,.int .i64 win,.str body]),(1,.cells (Xk (Qid k l B1 B2))),(2,.cells [.sl 1 1 0 l.length l.length,.bool false])],3⟩) (fun k=>2 - k) Qch.mixed hN
    ⟨0,by omega,[(1,3),(2,4)],by exact Qq (An @Kt @Qaz)⟩ fun k hk=>?_
   obtain rfl|rfl|rfl:k=0∨k=1∨k=2:=by omega
   ·refine Zk (An @Kt @Qaz) ?_
    (refine Qa (fun q1=>?_) (fun q1=>?_)<;>try exact q1.elim)
    refine Zk (An @Kt @Qaz) ?_
    refine Qdm (nw2 c.gl l 16) ?_
    ((first|refine Qy (ins:=[2,1]) (Xc c.gl l false 16 10 hi (by omega) (by omega) (by omega)) ?_ ?_|refine Qv (ins:=[2,1]) (Xc c.gl l false 16 10 hi (by omega) (by omega) (by omega)) ?_ ?_|refine Qu (ins:=[2,1]) (Xc c.gl l false 16 10 hi (by omega) (by omega) (by omega)) ?_ ?_|refine Qr (ins:=[2,1]) (Xc c.gl l false 16 10 hi (by omega) (by omega) (by omega)) ?_ ?_)<;>(have zf1:=@hL1;refine XM ?_;clear zf1;(try first|exact rfl|exact True.intro);((try (repeat' with_reducible refine And.intro ?_ ?_));(try any_goals (first|refine zm ?_|exact CL|fail)))))
    ·rfl
    (refine Qa (fun q2=>?_) (fun q2=>?_)<;>try exact q2.elim)
    refine Uc ?_
    refine ⟨1,by omega,⟨[],?_⟩,by omega⟩
    exact Qb1 (An @Ku (An @Qay @hB1))
   ·refine Zk (An @Ku @Qay) ?_
    (refine Qa (fun q1=>?_) (fun q1=>?_)<;>try exact q1.elim)
    refine Zk (An @Ku @Qay) ?_
    refine Qdm (nw2 c.gl B1 18) ?_
    ((first|refine Qy (ins:=[2,1]) (Xc c.gl B1 false 18 10 lo (by omega) (by omega) (by omega)) ?_ ?_|refine Qv (ins:=[2,1]) (Xc c.gl B1 false 18 10 lo (by omega) (by omega) (by omega)) ?_ ?_|refine Qu (ins:=[2,1]) (Xc c.gl B1 false 18 10 lo (by omega) (by omega) (by omega)) ?_ ?_|refine Qr (ins:=[2,1]) (Xc c.gl B1 false 18 10 lo (by omega) (by omega) (by omega)) ?_ ?_)<;>(have zf1:=@hL1;refine XM ?_;clear zf1;(try first|exact rfl|exact True.intro);((try (repeat' with_reducible refine And.intro ?_ ?_));(try any_goals (first|refine zm ?_|exact CL|fail)))))
    ·rfl
    (refine Qa (fun q2=>?_) (fun q2=>?_)<;>try exact q2.elim)
    refine Uc ?_
    refine ⟨2,by omega,⟨[],?_⟩,by omega⟩
    exact Qb1 (An @Ks (An @Qb0 @hB2))
   refine Zk (An @Ks @Qb0) ?_
   (refine Qa (fun q1=>?_) (fun q1=>?_)<;>try exact q1.elim)
   refine Zk (An @Ks (An @Qb0 (An @Qc9 @e3))) ?_
   ((first|refine Qy (ins:=[2,1]) s3 ?_ ?_|refine Qv (ins:=[2,1]) s3 ?_ ?_|refine Qu (ins:=[2,1]) s3 ?_ ?_|refine Qr (ins:=[2,1]) s3 ?_ ?_)<;>(have zf1:=@Qc9;have zf2:=@e3;have zf3:=@hL3;refine XM ?_;clear zf1 zf2 zf3;(try first|exact rfl|exact True.intro);((try (repeat' with_reducible refine And.intro ?_ ?_));(try any_goals (first|refine zm ?_|exact CL|fail)))))
   ·rfl
   (refine Qa (fun q2=>?_) (fun q2=>?_)<;>try exact q2.elim)
   refine Uc ?_
   have hz:=Qp7 B4 22 Zom
   have hOf:=Qe8 c.gl (B4.drop 20) (by rw[List.length_drop];omega)
   by_cases z:w2 B4 22=0
   ·have bz1:(b1 B4 22 == 0)=true:=by simp[(hz.1 z).1]
    have bz2:(b1 B4 23 == 0)=true:=by simp[(hz.1 z).2]
    ((first|refine Qy (ins:=[2,1]) s4 ?_ ?_|refine Qv (ins:=[2,1]) s4 ?_ ?_|refine Qu (ins:=[2,1]) s4 ?_ ?_|refine Qr (ins:=[2,1]) s4 ?_ ?_)<;>(have zf1:=@hL4;have zf2:=@Ql;have zf3:=@bz1;have zf4:=@bz2;refine XM ?_;clear zf1 zf2 zf3 zf4;(try first|exact rfl|exact True.intro);((try (repeat' with_reducible refine And.intro ?_ ?_));(try any_goals (first|refine zm ?_|exact CL|fail)))))
    ·rfl
    refine Xa hOf (An @Ql (An @bz1 @bz2)) ?_
    by_cases zz:ofN (B4.drop 20)=0
    ·have bo:(ofN (B4.drop 20) == 0)=true:=by simp[zz]
     have hR1:RR=(B4.set 22 255).set 23 255:=(HRR.out.trans (if_pos ⟨z,.inr zz⟩)).trans (Qf6 _ _)
     rw[hR1]
     clear hR1
     (refine Qa (fun q3=>?_) (fun q3=>?_)<;>try exact q3.elim)
     ·exact Qb1 (An @Qat @hL4)
     ·omega
    ·have hR1:RR=B4:=HRR.out.trans (if_neg fun h=>h.2.elim Zom zz)
     rw[hR1]
     clear hR1
     (refine Qa (fun q3=>?_) (fun q3=>?_)<;>try exact q3.elim)
     ·omega
     ·exact Qs
   ·have bz:(b1 B4 22 == 0 && b1 B4 23 == 0)=false:=by
     have hn:¬ (b1 B4 22=0∧b1 B4 23=0):=fun h=>z (hz.2 h)
     rw[Bool.and_eq_false_iff,beq_eq_false_iff_ne,beq_eq_false_iff_ne];omega
    have hR1:RR=B4:=HRR.out.trans (if_neg fun h=>z h.1)
    rw[hR1]
    clear hR1
    ((first|refine Qy (ins:=[2,1]) s4 ?_ ?_|refine Qv (ins:=[2,1]) s4 ?_ ?_|refine Qu (ins:=[2,1]) s4 ?_ ?_|refine Qr (ins:=[2,1]) s4 ?_ ?_)<;>(have zf1:=@hL4;have zf2:=@Ql;have zf3:=@bz;refine XM ?_;clear zf1 zf2 zf3;(try first|exact rfl|exact True.intro);((try (repeat' with_reducible refine And.intro ?_ ?_));(try any_goals (first|refine zm ?_|exact CL|fail)))))
    ·rfl
    ((first|apply Yd|apply Xu)<;>(have zf1:=@Ql;have zf2:=@bz;refine XG ?_;clear zf1 zf2;first|exact rfl|exact True.intro|((try (repeat' with_reducible refine And.intro ?_ ?_));(try any_goals (first|refine zm ?_|exact CL|fail)))))
    (refine Qa (fun q3=>?_) (fun q3=>?_)<;>try exact q3.elim)
    exact Qq (An @Ql @bz)
 ·rw[h9]
  have hsz:=Qhh c.gl 6
  have hz:Ur 6=.tup [.int .i64 20,.int .i64 16]:=rfl
  rw[hz]at hsz
  clear hz
  have hlm:40≤l.length:=by exact HTCP.out Zom
  rw[HG.out (HT0.out hok h12 (fun h=>by omega)),h9]
  refine Qd ?_
  clear HB HT2 HT12 HT4 HT0 HG HTCP
  obtain rfl|rfl:side=0∨side=1:=by omega
  ·have hfin:Kk l 6 ttl (Qi6 0) (Qig 6 0) addr port=Kk l 6 ttl 12 20 addr port:=rfl
   rw[hfin]
   clear hfin
   have e1:=Qkj addr haddr.1
   have e2:=Qkq addr haddr
   have e3:=Qkv (ttl - 1) 6 Zom Zom
   have t3:Kk l 6 ttl 12 20 addr port=(if (w2 (Qk (Qk (tl (Qk (tl (Qk l 12 10 (addr / 65536)) 6 (w2 l 12) (addr / 65536)) 14 10 (addr % 65536)) 6 (w2 (tl (Qk l 12 10 (addr / 65536)) 6 (w2 l 12) (addr / 65536)) 14) (addr % 65536)) 8 10 ((ttl - 1) * 256 + 6)) 20 36 port) 36=0)∧((6:Int)=17∨ofN ((Qk (Qk (tl (Qk (tl (Qk l 12 10 (addr / 65536)) 6 (w2 l 12) (addr / 65536)) 14 10 (addr % 65536)) 6 (w2 (tl (Qk l 12 10 (addr / 65536)) 6 (w2 l 12) (addr / 65536)) 14) (addr % 65536)) 8 10 ((ttl - 1) * 256 + 6)) 20 36 port).drop 20)=0) then Qao (Qk (Qk (tl (Qk (tl (Qk l 12 10 (addr / 65536)) 6 (w2 l 12) (addr / 65536)) 14 10 (addr % 65536)) 6 (w2 (tl (Qk l 12 10 (addr / 65536)) 6 (w2 l 12) (addr / 65536)) 14) (addr % 65536)) 8 10 ((ttl - 1) * 256 + 6)) 20 36 port) 36 65535 else Qk (Qk (tl (Qk (tl (Qk l 12 10 (addr / 65536)) 6 (w2 l 12) (addr / 65536)) 14 10 (addr % 65536)) 6 (w2 (tl (Qk l 12 10 (addr / 65536)) 6 (w2 l 12) (addr / 65536)) 14) (addr % 65536)) 8 10 ((ttl - 1) * 256 + 6)) 20 36 port):=rfl
   rw[t3]
   clear t3
   obtain ⟨hi,hhi⟩:∃ x,x=addr / 65536:=⟨_,rfl⟩
   obtain ⟨lo,hlw⟩:∃ x,x=addr % 65536:=⟨_,rfl⟩
   rw[← hhi]at e1 ⊢
   rw[← hlw]at e2 ⊢
   have hhib:0≤hi∧hi≤65535:=by omega
   have hlwb:0≤lo∧lo≤65535:=by omega
   have E1:tl (Qk l 12 10 hi) 6 (w2 l 12) hi=Uy (Qk l 12 10 hi) 36 (w2 l 12) hi:=rfl
   obtain ⟨B1,hB1⟩:∃ x,x=tl (Qk l 12 10 hi) 6 (w2 l 12) hi:=⟨_,rfl⟩
   rw[← hB1]
   rw[E1]at hB1
   have E2:tl (Qk B1 14 10 lo) 6 (w2 B1 14) lo=Uy (Qk B1 14 10 lo) 36 (w2 B1 14) lo:=rfl
   obtain ⟨B2,hB2⟩:∃ x,x=tl (Qk B1 14 10 lo) 6 (w2 B1 14) lo:=⟨_,rfl⟩
   rw[← hB2]
   rw[E2]at hB2
   clear E1 E2
   have hL1:B1.length=l.length:=by rw[hB1];simp[Qo,Jf]
   have hL2:B2.length=l.length:=by rw[hB2];simp[Qo,Jf,hL1]
   have hL3:(Qk B2 8 10 ((ttl - 1) * 256 + 6)).length=l.length:=by rw[Qo,hL2]
   have hL4:(Qk (Qk B2 8 10 ((ttl - 1) * 256 + 6)) 20 36 port).length=l.length:=by rw[Qo,hL3]
   have s3:=Xc c.gl B2 false 8 10 ((ttl - 1) * 256 + 6) Zom Zom Zom
   have s4:=Xc c.gl (Qk B2 8 10 ((ttl - 1) * 256 + 6)) false 20 36 port Zom Zom Zom
   rw[hL2]at s3
   rw[hL3]at s4
   generalize Qk (Qk B2 8 10 ((ttl - 1) * 256 + 6)) 20 36 port=B4 at *
   generalize Qk B2 8 10 ((ttl - 1) * 256 + 6)=B3 at *
   obtain ⟨RR,hRR⟩:∃ x,x=(if (w2 B4 36=0)∧((6:Int)=17∨ofN (B4.drop 20)=0) then Qao B4 36 65535 else B4):=⟨_,rfl⟩
   rw[← hRR]
   have HRR:=Lib.hid hRR
   clear hRR
   (refine Qa (fun g3=>?_) (fun g3=>?_)<;>try exact g3.elim)
   refine Qd ?_
   refine Jh ?_
   have hlw2:addr % 65536=lo:=hlw.symm
   clear hlw
   refine Qp8 hsz (An @e1 @hlw2) ?_
   refine Xl (fun k:Nat=>k≤2) (fun k=>⟨[(1,.int .i64 0),(3,.int .i64 port),(10,.ptr 0 0),(12,.ptr 2 0),(14,.int .i64 36),(15,.int .i64 12),(86,.agg [.int .i64 hi,.int .i64 lo]),(87,.int .i64 (kI k))],[(0,.cells [.int .i64 6,.int .i64 frm,.int .i64 sport,.int .i64 dst,.int .i64 dport,.int .i64 ttl,.int .i64 id,.int .i64 flags,.int .i64 seq,.int .i64 ack,.int .i64 win,.str body]),(1,.cells (Xk (Qid k l B1 B2))),(2,.cells [.sl 1 1 0 l.length l.length,.bool false])],3⟩) (fun k=>2 - k) Qch.mixed hN
    ⟨0,by omega,[(1,3),(2,4)],by exact Qq (An @Kt @Qaz)⟩ fun k hk=>?_
   obtain rfl|rfl|rfl:k=0∨k=1∨k=2:=by omega
   ·refine Zk (An @Kt @Qaz) ?_
    (refine Qa (fun q1=>?_) (fun q1=>?_)<;>try exact q1.elim)
    refine Zk (An @Kt @Qaz) ?_
    refine Qdm (nw2 c.gl l 12) ?_
    ((first|refine Qy (ins:=[2,1]) (Xc c.gl l false 12 10 hi (by omega) (by omega) (by omega)) ?_ ?_|refine Qv (ins:=[2,1]) (Xc c.gl l false 12 10 hi (by omega) (by omega) (by omega)) ?_ ?_|refine Qu (ins:=[2,1]) (Xc c.gl l false 12 10 hi (by omega) (by omega) (by omega)) ?_ ?_|refine Qr (ins:=[2,1]) (Xc c.gl l false 12 10 hi (by omega) (by omega) (by omega)) ?_ ?_)<;>(have zf1:=@hL1;refine XM ?_;clear zf1;(try first|exact rfl|exact True.intro);((try (repeat' with_reducible refine And.intro ?_ ?_));(try any_goals (first|refine zm ?_|exact CL|fail)))))
    ·rfl
    (refine Qa (fun q2=>?_) (fun q2=>?_)<;>try exact q2.elim)
    refine Uc ?_
    ((first|refine Qy (ins:=[2,1]) (Xx c.gl (Qk l 12 10 hi) false 36 (w2 l 12) hi (by rw[Qo];omega) (by rw[Qo];omega)) ?_ ?_|refine Qv (ins:=[2,1]) (Xx c.gl (Qk l 12 10 hi) false 36 (w2 l 12) hi (by rw[Qo];omega) (by rw[Qo];omega)) ?_ ?_|refine Qu (ins:=[2,1]) (Xx c.gl (Qk l 12 10 hi) false 36 (w2 l 12) hi (by rw[Qo];omega) (by rw[Qo];omega)) ?_ ?_|refine Qr (ins:=[2,1]) (Xx c.gl (Qk l 12 10 hi) false 36 (w2 l 12) hi (by rw[Qo];omega) (by rw[Qo];omega)) ?_ ?_)<;>(have zf1:=@Qo;refine XM ?_;clear zf1;(try first|exact rfl|exact True.intro);((try (repeat' with_reducible refine And.intro ?_ ?_));(try any_goals (first|refine zm ?_|exact CL|fail)))))
    ·rfl
    refine ⟨1,by omega,⟨[],?_⟩,by omega⟩
    exact Qb1 (An @Ku (An @Qay @hB1))
   ·refine Zk (An @Ku @Qay) ?_
    (refine Qa (fun q1=>?_) (fun q1=>?_)<;>try exact q1.elim)
    refine Zk (An @Ku @Qay) ?_
    refine Qdm (nw2 c.gl B1 14) ?_
    ((first|refine Qy (ins:=[2,1]) (Xc c.gl B1 false 14 10 lo (by omega) (by omega) (by omega)) ?_ ?_|refine Qv (ins:=[2,1]) (Xc c.gl B1 false 14 10 lo (by omega) (by omega) (by omega)) ?_ ?_|refine Qu (ins:=[2,1]) (Xc c.gl B1 false 14 10 lo (by omega) (by omega) (by omega)) ?_ ?_|refine Qr (ins:=[2,1]) (Xc c.gl B1 false 14 10 lo (by omega) (by omega) (by omega)) ?_ ?_)<;>(have zf1:=@hL1;refine XM ?_;clear zf1;(try first|exact rfl|exact True.intro);((try (repeat' with_reducible refine And.intro ?_ ?_));(try any_goals (first|refine zm ?_|exact CL|fail)))))
    ·rfl
    (refine Qa (fun q2=>?_) (fun q2=>?_)<;>try exact q2.elim)
    refine Uc ?_
    ((first|refine Qy (ins:=[2,1]) (Xx c.gl (Qk B1 14 10 lo) false 36 (w2 B1 14) lo (by rw[Qo];omega) (by rw[Qo];omega)) ?_ ?_|refine Qv (ins:=[2,1]) (Xx c.gl (Qk B1 14 10 lo) false 36 (w2 B1 14) lo (by rw[Qo];omega) (by rw[Qo];omega)) ?_ ?_|refine Qu (ins:=[2,1]) (Xx c.gl (Qk B1 14 10 lo) false 36 (w2 B1 14) lo (by rw[Qo];omega) (by rw[Qo];omega)) ?_ ?_|refine Qr (ins:=[2,1]) (Xx c.gl (Qk B1 14 10 lo) false 36 (w2 B1 14) lo (by rw[Qo];omega) (by rw[Qo];omega)) ?_ ?_)<;>(have zf1:=@Qo;have zf2:=@hL1;refine XM ?_;clear zf1 zf2;(try first|exact rfl|exact True.intro);((try (repeat' with_reducible refine And.intro ?_ ?_));(try any_goals (first|refine zm ?_|exact CL|fail)))))
    ·rfl
    refine ⟨2,by omega,⟨[],?_⟩,by omega⟩
    exact Qb1 (An @Ks (An @Qb0 @hB2))
   refine Zk (An @Ks @Qb0) ?_
   (refine Qa (fun q1=>?_) (fun q1=>?_)<;>try exact q1.elim)
   refine Zk (An @Ks (An @Qb0 (An @Qc9 @e3))) ?_
   ((first|refine Qy (ins:=[2,1]) s3 ?_ ?_|refine Qv (ins:=[2,1]) s3 ?_ ?_|refine Qu (ins:=[2,1]) s3 ?_ ?_|refine Qr (ins:=[2,1]) s3 ?_ ?_)<;>(have zf1:=@Qc9;have zf2:=@e3;have zf3:=@hL3;refine XM ?_;clear zf1 zf2 zf3;(try first|exact rfl|exact True.intro);((try (repeat' with_reducible refine And.intro ?_ ?_));(try any_goals (first|refine zm ?_|exact CL|fail)))))
   ·rfl
   (refine Qa (fun q2=>?_) (fun q2=>?_)<;>try exact q2.elim)
   refine Uc ?_
   have hz:=Qp7 B4 36 Zom
   have hOf:=Qe8 c.gl (B4.drop 20) (by rw[List.length_drop];omega)
   by_cases z:w2 B4 36=0
   ·have bz1:(b1 B4 36 == 0)=true:=by simp[(hz.1 z).1]
    have bz2:(b1 B4 37 == 0)=true:=by simp[(hz.1 z).2]
    ((first|refine Qy (ins:=[2,1]) s4 ?_ ?_|refine Qv (ins:=[2,1]) s4 ?_ ?_|refine Qu (ins:=[2,1]) s4 ?_ ?_|refine Qr (ins:=[2,1]) s4 ?_ ?_)<;>(have zf1:=@hL4;have zf2:=@Ql;have zf3:=@bz1;have zf4:=@bz2;refine XM ?_;clear zf1 zf2 zf3 zf4;(try first|exact rfl|exact True.intro);((try (repeat' with_reducible refine And.intro ?_ ?_));(try any_goals (first|refine zm ?_|exact CL|fail)))))
    ·rfl
    refine Xa hOf (An @Ql (An @bz1 @bz2)) ?_
    by_cases zz:ofN (B4.drop 20)=0
    ·have bo:(ofN (B4.drop 20) == 0)=true:=by simp[zz]
     have hR1:RR=(B4.set 36 255).set 37 255:=(HRR.out.trans (if_pos ⟨z,.inr zz⟩)).trans (Qf6 _ _)
     rw[hR1]
     clear hR1
     (refine Qa (fun q3=>?_) (fun q3=>?_)<;>try exact q3.elim)
     ·exact Qb1 (An @Qat @hL4)
     ·omega
    ·have hR1:RR=B4:=HRR.out.trans (if_neg fun h=>h.2.elim Zom zz)
     rw[hR1]
     clear hR1
     (refine Qa (fun q3=>?_) (fun q3=>?_)<;>try exact q3.elim)
     ·omega
     ·exact Qs
   ·have bz:(b1 B4 36 == 0 && b1 B4 37 == 0)=false:=by
     have hn:¬ (b1 B4 36=0∧b1 B4 37=0):=fun h=>z (hz.2 h)
     rw[Bool.and_eq_false_iff,beq_eq_false_iff_ne,beq_eq_false_iff_ne];omega
    have hR1:RR=B4:=HRR.out.trans (if_neg fun h=>z h.1)
    rw[hR1]
    clear hR1
    ((first|refine Qy (ins:=[2,1]) s4 ?_ ?_|refine Qv (ins:=[2,1]) s4 ?_ ?_|refine Qu (ins:=[2,1]) s4 ?_ ?_|refine Qr (ins:=[2,1]) s4 ?_ ?_)<;>(have zf1:=@hL4;have zf2:=@Ql;have zf3:=@bz;refine XM ?_;clear zf1 zf2 zf3;(try first|exact rfl|exact True.intro);((try (repeat' with_reducible refine And.intro ?_ ?_));(try any_goals (first|refine zm ?_|exact CL|fail)))))
    ·rfl
    ((first|apply Yd|apply Xu)<;>(have zf1:=@Ql;have zf2:=@bz;refine XG ?_;clear zf1 zf2;first|exact rfl|exact True.intro|((try (repeat' with_reducible refine And.intro ?_ ?_));(try any_goals (first|refine zm ?_|exact CL|fail)))))
    (refine Qa (fun q3=>?_) (fun q3=>?_)<;>try exact q3.elim)
    exact Qq (An @Ql @bz)
  ·have hfin:Kk l 6 ttl (Qi6 1) (Qig 6 1) addr port=Kk l 6 ttl 16 22 addr port:=rfl
   rw[hfin]
   clear hfin
   have e1:=Qkj addr haddr.1
   have e2:=Qkq addr haddr
   have e3:=Qkv (ttl - 1) 6 Zom Zom
   have t3:Kk l 6 ttl 16 22 addr port=(if (w2 (Qk (Qk (tl (Qk (tl (Qk l 16 10 (addr / 65536)) 6 (w2 l 16) (addr / 65536)) 18 10 (addr % 65536)) 6 (w2 (tl (Qk l 16 10 (addr / 65536)) 6 (w2 l 16) (addr / 65536)) 18) (addr % 65536)) 8 10 ((ttl - 1) * 256 + 6)) 22 36 port) 36=0)∧((6:Int)=17∨ofN ((Qk (Qk (tl (Qk (tl (Qk l 16 10 (addr / 65536)) 6 (w2 l 16) (addr / 65536)) 18 10 (addr % 65536)) 6 (w2 (tl (Qk l 16 10 (addr / 65536)) 6 (w2 l 16) (addr / 65536)) 18) (addr % 65536)) 8 10 ((ttl - 1) * 256 + 6)) 22 36 port).drop 20)=0) then Qao (Qk (Qk (tl (Qk (tl (Qk l 16 10 (addr / 65536)) 6 (w2 l 16) (addr / 65536)) 18 10 (addr % 65536)) 6 (w2 (tl (Qk l 16 10 (addr / 65536)) 6 (w2 l 16) (addr / 65536)) 18) (addr % 65536)) 8 10 ((ttl - 1) * 256 + 6)) 22 36 port) 36 65535 else Qk (Qk (tl (Qk (tl (Qk l 16 10 (addr / 65536)) 6 (w2 l 16) (addr / 65536)) 18 10 (addr % 65536)) 6 (w2 (tl (Qk l 16 10 (addr / 65536)) 6 (w2 l 16) (addr / 65536)) 18) (addr % 65536)) 8 10 ((ttl - 1) * 256 + 6)) 22 36 port):=rfl
   rw[t3]
   clear t3
   obtain ⟨hi,hhi⟩:∃ x,x=addr / 65536:=⟨_,rfl⟩
   obtain ⟨lo,hlw⟩:∃ x,x=addr % 65536:=⟨_,rfl⟩
   rw[← hhi]at e1 ⊢
   rw[← hlw]at e2 ⊢
   have hhib:0≤hi∧hi≤65535:=by omega
   have hlwb:0≤lo∧lo≤65535:=by omega
   have E1:tl (Qk l 16 10 hi) 6 (w2 l 16) hi=Uy (Qk l 16 10 hi) 36 (w2 l 16) hi:=rfl
   obtain ⟨B1,hB1⟩:∃ x,x=tl (Qk l 16 10 hi) 6 (w2 l 16) hi:=⟨_,rfl⟩
   rw[← hB1]
   rw[E1]at hB1
   have E2:tl (Qk B1 18 10 lo) 6 (w2 B1 18) lo=Uy (Qk B1 18 10 lo) 36 (w2 B1 18) lo:=rfl
   obtain ⟨B2,hB2⟩:∃ x,x=tl (Qk B1 18 10 lo) 6 (w2 B1 18) lo:=⟨_,rfl⟩
   rw[← hB2]
   rw[E2]at hB2
   clear E1 E2
   have hL1:B1.length=l.length:=by rw[hB1];simp[Qo,Jf]
   have hL2:B2.length=l.length:=by rw[hB2];simp[Qo,Jf,hL1]
   have hL3:(Qk B2 8 10 ((ttl - 1) * 256 + 6)).length=l.length:=by rw[Qo,hL2]
   have hL4:(Qk (Qk B2 8 10 ((ttl - 1) * 256 + 6)) 22 36 port).length=l.length:=by rw[Qo,hL3]
   have s3:=Xc c.gl B2 false 8 10 ((ttl - 1) * 256 + 6) Zom Zom Zom
   have s4:=Xc c.gl (Qk B2 8 10 ((ttl - 1) * 256 + 6)) false 22 36 port Zom Zom Zom
   rw[hL2]at s3
   rw[hL3]at s4
   generalize Qk (Qk B2 8 10 ((ttl - 1) * 256 + 6)) 22 36 port=B4 at *
   generalize Qk B2 8 10 ((ttl - 1) * 256 + 6)=B3 at *
   obtain ⟨RR,hRR⟩:∃ x,x=(if (w2 B4 36=0)∧((6:Int)=17∨ofN (B4.drop 20)=0) then Qao B4 36 65535 else B4):=⟨_,rfl⟩
   rw[← hRR]
   have HRR:=Lib.hid hRR
   clear hRR
   (refine Qa (fun g3=>?_) (fun g3=>?_)<;>try exact g3.elim)
   refine Qd ?_
   refine Jh ?_
   have hlw2:addr % 65536=lo:=hlw.symm
   clear hlw
   refine Qp8 hsz (An @e1 @hlw2) ?_
   refine Xl (fun k:Nat=>k≤2) (fun k=>⟨[(1,.int .i64 1),(3,.int .i64 port),(10,.ptr 0 0),(12,.ptr 2 0),(14,.int .i64 36),(15,.int .i64 16),(86,.agg [.int .i64 hi,.int .i64 lo]),(87,.int .i64 (kI k))],[(0,.cells [.int .i64 6,.int .i64 frm,.int .i64 sport,.int .i64 dst,.int .i64 dport,.int .i64 ttl,.int .i64 id,.int .i64 flags,.int .i64 seq,.int .i64 ack,.int .i64 win,.str body]),(1,.cells (Xk (Qid k l B1 B2))),(2,.cells [.sl 1 1 0 l.length l.length,.bool false])],3⟩) (fun k=>2 - k) Qch.mixed hN
    ⟨0,by omega,[(1,3),(2,4)],by exact Qq (An @Kt @Qaz)⟩ fun k hk=>?_
   obtain rfl|rfl|rfl:k=0∨k=1∨k=2:=by omega
   ·refine Zk (An @Kt @Qaz) ?_
    (refine Qa (fun q1=>?_) (fun q1=>?_)<;>try exact q1.elim)
    refine Zk (An @Kt @Qaz) ?_
    refine Qdm (nw2 c.gl l 16) ?_
    ((first|refine Qy (ins:=[2,1]) (Xc c.gl l false 16 10 hi (by omega) (by omega) (by omega)) ?_ ?_|refine Qv (ins:=[2,1]) (Xc c.gl l false 16 10 hi (by omega) (by omega) (by omega)) ?_ ?_|refine Qu (ins:=[2,1]) (Xc c.gl l false 16 10 hi (by omega) (by omega) (by omega)) ?_ ?_|refine Qr (ins:=[2,1]) (Xc c.gl l false 16 10 hi (by omega) (by omega) (by omega)) ?_ ?_)<;>(have zf1:=@hL1;refine XM ?_;clear zf1;(try first|exact rfl|exact True.intro);((try (repeat' with_reducible refine And.intro ?_ ?_));(try any_goals (first|refine zm ?_|exact CL|fail)))))
    ·rfl
    (refine Qa (fun q2=>?_) (fun q2=>?_)<;>try exact q2.elim)
    refine Uc ?_
    ((first|refine Qy (ins:=[2,1]) (Xx c.gl (Qk l 16 10 hi) false 36 (w2 l 16) hi (by rw[Qo];omega) (by rw[Qo];omega)) ?_ ?_|refine Qv (ins:=[2,1]) (Xx c.gl (Qk l 16 10 hi) false 36 (w2 l 16) hi (by rw[Qo];omega) (by rw[Qo];omega)) ?_ ?_|refine Qu (ins:=[2,1]) (Xx c.gl (Qk l 16 10 hi) false 36 (w2 l 16) hi (by rw[Qo];omega) (by rw[Qo];omega)) ?_ ?_|refine Qr (ins:=[2,1]) (Xx c.gl (Qk l 16 10 hi) false 36 (w2 l 16) hi (by rw[Qo];omega) (by rw[Qo];omega)) ?_ ?_)<;>(have zf1:=@Qo;refine XM ?_;clear zf1;(try first|exact rfl|exact True.intro);((try (repeat' with_reducible refine And.intro ?_ ?_));(try any_goals (first|refine zm ?_|exact CL|fail)))))
    ·rfl
    refine ⟨1,by omega,⟨[],?_⟩,by omega⟩
    exact Qb1 (An @Ku (An @Qay @hB1))
   ·refine Zk (An @Ku @Qay) ?_
    (refine Qa (fun q1=>?_) (fun q1=>?_)<;>try exact q1.elim)
    refine Zk (An @Ku @Qay) ?_
    refine Qdm (nw2 c.gl B1 18) ?_
    ((first|refine Qy (ins:=[2,1]) (Xc c.gl B1 false 18 10 lo (by omega) (by omega) (by omega)) ?_ ?_|refine Qv (ins:=[2,1]) (Xc c.gl B1 false 18 10 lo (by omega) (by omega) (by omega)) ?_ ?_|refine Qu (ins:=[2,1]) (Xc c.gl B1 false 18 10 lo (by omega) (by omega) (by omega)) ?_ ?_|refine Qr (ins:=[2,1]) (Xc c.gl B1 false 18 10 lo (by omega) (by omega) (by omega)) ?_ ?_)<;>(have zf1:=@hL1;refine XM ?_;clear zf1;(try first|exact rfl|exact True.intro);((try (repeat' with_reducible refine And.intro ?_ ?_));(try any_goals (first|refine zm ?_|exact CL|fail)))))
    ·rfl
    (refine Qa (fun q2=>?_) (fun q2=>?_)<;>try exact q2.elim)
    refine Uc ?_
    ((first|refine Qy (ins:=[2,1]) (Xx c.gl (Qk B1 18 10 lo) false 36 (w2 B1 18) lo (by rw[Qo];omega) (by rw[Qo];omega)) ?_ ?_|refine Qv (ins:=[2,1]) (Xx c.gl (Qk B1 18 10 lo) false 36 (w2 B1 18) lo (by rw[Qo];omega) (by rw[Qo];omega)) ?_ ?_|refine Qu (ins:=[2,1]) (Xx c.gl (Qk B1 18 10 lo) false 36 (w2 B1 18) lo (by rw[Qo];omega) (by rw[Qo];omega)) ?_ ?_|refine Qr (ins:=[2,1]) (Xx c.gl (Qk B1 18 10 lo) false 36 (w2 B1 18) lo (by rw[Qo];omega) (by rw[Qo];omega)) ?_ ?_)<;>(have zf1:=@Qo;have zf2:=@hL1;refine XM ?_;clear zf1 zf2;(try first|exact rfl|exact True.intro);((try (repeat' with_reducible refine And.intro ?_ ?_));(try any_goals (first|refine zm ?_|exact CL|fail)))))
    ·rfl
    refine ⟨2,by omega,⟨[],?_⟩,by omega⟩
    exact Qb1 (An @Ks (An @Qb0 @hB2))
   refine Zk (An @Ks @Qb0) ?_
   (refine Qa (fun q1=>?_) (fun q1=>?_)<;>try exact q1.elim)
   refine Zk (An @Ks (An @Qb0 (An @Qc9 @e3))) ?_
   ((first|refine Qy (ins:=[2,1]) s3 ?_ ?_|refine Qv (ins:=[2,1]) s3 ?_ ?_|refine Qu (ins:=[2,1]) s3 ?_ ?_|refine Qr (ins:=[2,1]) s3 ?_ ?_)<;>(have zf1:=@Qc9;have zf2:=@e3;have zf3:=@hL3;refine XM ?_;clear zf1 zf2 zf3;(try first|exact rfl|exact True.intro);((try (repeat' with_reducible refine And.intro ?_ ?_));(try any_goals (first|refine zm ?_|exact CL|fail)))))
   ·rfl
   (refine Qa (fun q2=>?_) (fun q2=>?_)<;>try exact q2.elim)
   refine Uc ?_
   have hz:=Qp7 B4 36 Zom
   have hOf:=Qe8 c.gl (B4.drop 20) (by rw[List.length_drop];omega)
   by_cases z:w2 B4 36=0
   ·have bz1:(b1 B4 36 == 0)=true:=by simp[(hz.1 z).1]
    have bz2:(b1 B4 37 == 0)=true:=by simp[(hz.1 z).2]
    ((first|refine Qy (ins:=[2,1]) s4 ?_ ?_|refine Qv (ins:=[2,1]) s4 ?_ ?_|refine Qu (ins:=[2,1]) s4 ?_ ?_|refine Qr (ins:=[2,1]) s4 ?_ ?_)<;>(have zf1:=@hL4;have zf2:=@Ql;have zf3:=@bz1;have zf4:=@bz2;refine XM ?_;clear zf1 zf2 zf3 zf4;(try first|exact rfl|exact True.intro);((try (repeat' with_reducible refine And.intro ?_ ?_));(try any_goals (first|refine zm ?_|exact CL|fail)))))
    ·rfl
    refine Xa hOf (An @Ql (An @bz1 @bz2)) ?_
    by_cases zz:ofN (B4.drop 20)=0
    ·have bo:(ofN (B4.drop 20) == 0)=true:=by simp[zz]
     have hR1:RR=(B4.set 36 255).set 37 255:=(HRR.out.trans (if_pos ⟨z,.inr zz⟩)).trans (Qf6 _ _)
     rw[hR1]
     clear hR1
     (refine Qa (fun q3=>?_) (fun q3=>?_)<;>try exact q3.elim)
     ·exact Qb1 (An @Qat @hL4)
     ·omega
    ·have hR1:RR=B4:=HRR.out.trans (if_neg fun h=>h.2.elim Zom zz)
     rw[hR1]
     clear hR1
     (refine Qa (fun q3=>?_) (fun q3=>?_)<;>try exact q3.elim)
     ·omega
     ·exact Qs
   ·have bz:(b1 B4 36 == 0 && b1 B4 37 == 0)=false:=by
     have hn:¬ (b1 B4 36=0∧b1 B4 37=0):=fun h=>z (hz.2 h)
     rw[Bool.and_eq_false_iff,beq_eq_false_iff_ne,beq_eq_false_iff_ne];omega
    have hR1:RR=B4:=HRR.out.trans (if_neg fun h=>z h.1)
    rw[hR1]
    clear hR1
    ((first|refine Qy (ins:=[2,1]) s4 ?_ ?_|refine Qv (ins:=[2,1]) s4 ?_ ?_|refine Qu (ins:=[2,1]) s4 ?_ ?_|refine Qr (ins:=[2,1]) s4 ?_ ?_)<;>(have zf1:=@hL4;have zf2:=@Ql;have zf3:=@bz;refine XM ?_;clear zf1 zf2 zf3;(try first|exact rfl|exact True.intro);((try (repeat' with_reducible refine And.intro ?_ ?_));(try any_goals (first|refine zm ?_|exact CL|fail)))))
    ·rfl
    ((first|apply Yd|apply Xu)<;>(have zf1:=@Ql;have zf2:=@bz;refine XG ?_;clear zf1 zf2;first|exact rfl|exact True.intro|((try (repeat' with_reducible refine And.intro ?_ ?_));(try any_goals (first|refine zm ?_|exact CL|fail)))))
    (refine Qa (fun q3=>?_) (fun q3=>?_)<;>try exact q3.elim)
    exact Qq (An @Ql @bz)
 ·rw[h9]
  have hsz:=Qhh c.gl 17
  have hz:Ur 17=.tup [.int .i64 8,.int .i64 6]:=rfl
  rw[hz]at hsz
  clear hz
  have hlm:28≤l.length:=by omega
  rw[HG.out (HT0.out hok h12 (fun h=>by omega)),h9]
  refine Qd ?_
  clear HB HT2 HT12 HT4 HT0 HG HTCP
  obtain rfl|rfl:side=0∨side=1:=by omega
  ·have hfin:Kk l 17 ttl (Qi6 0) (Qig 17 0) addr port=Kk l 17 ttl 12 20 addr port:=rfl
   rw[hfin]
   clear hfin
   have e1:=Qkj addr haddr.1
   have e2:=Qkq addr haddr
   have e3:=Qkv (ttl - 1) 17 Zom Zom
   have t3:Kk l 17 ttl 12 20 addr port=(if (w2 (Qk (Qk (tl (Qk (tl (Qk l 12 10 (addr / 65536)) 17 (w2 l 12) (addr / 65536)) 14 10 (addr % 65536)) 17 (w2 (tl (Qk l 12 10 (addr / 65536)) 17 (w2 l 12) (addr / 65536)) 14) (addr % 65536)) 8 10 ((ttl - 1) * 256 + 17)) 20 26 port) 26=0)∧((17:Int)=17∨ofN ((Qk (Qk (tl (Qk (tl (Qk l 12 10 (addr / 65536)) 17 (w2 l 12) (addr / 65536)) 14 10 (addr % 65536)) 17 (w2 (tl (Qk l 12 10 (addr / 65536)) 17 (w2 l 12) (addr / 65536)) 14) (addr % 65536)) 8 10 ((ttl - 1) * 256 + 17)) 20 26 port).drop 20)=0) then Qao (Qk (Qk (tl (Qk (tl (Qk l 12 10 (addr / 65536)) 17 (w2 l 12) (addr / 65536)) 14 10 (addr % 65536)) 17 (w2 (tl (Qk l 12 10 (addr / 65536)) 17 (w2 l 12) (addr / 65536)) 14) (addr % 65536)) 8 10 ((ttl - 1) * 256 + 17)) 20 26 port) 26 65535 else Qk (Qk (tl (Qk (tl (Qk l 12 10 (addr / 65536)) 17 (w2 l 12) (addr / 65536)) 14 10 (addr % 65536)) 17 (w2 (tl (Qk l 12 10 (addr / 65536)) 17 (w2 l 12) (addr / 65536)) 14) (addr % 65536)) 8 10 ((ttl - 1) * 256 + 17)) 20 26 port):=rfl
   rw[t3]
   clear t3
   obtain ⟨hi,hhi⟩:∃ x,x=addr / 65536:=⟨_,rfl⟩
   obtain ⟨lo,hlw⟩:∃ x,x=addr % 65536:=⟨_,rfl⟩
   rw[← hhi]at e1 ⊢
   rw[← hlw]at e2 ⊢
   have hhib:0≤hi∧hi≤65535:=by omega
   have hlwb:0≤lo∧lo≤65535:=by omega
   have E1:tl (Qk l 12 10 hi) 17 (w2 l 12) hi=Uy (Qk l 12 10 hi) 26 (w2 l 12) hi:=rfl
   obtain ⟨B1,hB1⟩:∃ x,x=tl (Qk l 12 10 hi) 17 (w2 l 12) hi:=⟨_,rfl⟩
   rw[← hB1]
   rw[E1]at hB1
   have E2:tl (Qk B1 14 10 lo) 17 (w2 B1 14) lo=Uy (Qk B1 14 10 lo) 26 (w2 B1 14) lo:=rfl
   obtain ⟨B2,hB2⟩:∃ x,x=tl (Qk B1 14 10 lo) 17 (w2 B1 14) lo:=⟨_,rfl⟩
   rw[← hB2]
   rw[E2]at hB2
   clear E1 E2
   have hL1:B1.length=l.length:=by rw[hB1];simp[Qo,Jf]
   have hL2:B2.length=l.length:=by rw[hB2];simp[Qo,Jf,hL1]
   have hL3:(Qk B2 8 10 ((ttl - 1) * 256 + 17)).length=l.length:=by rw[Qo,hL2]
   have hL4:(Qk (Qk B2 8 10 ((ttl - 1) * 256 + 17)) 20 26 port).length=l.length:=by rw[Qo,hL3]
   have s3:=Xc c.gl B2 true 8 10 ((ttl - 1) * 256 + 17) Zom Zom Zom
   have s4:=Xc c.gl (Qk B2 8 10 ((ttl - 1) * 256 + 17)) true 20 26 port Zom Zom Zom
   rw[hL2]at s3
   rw[hL3]at s4
   generalize Qk (Qk B2 8 10 ((ttl - 1) * 256 + 17)) 20 26 port=B4 at *
   generalize Qk B2 8 10 ((ttl - 1) * 256 + 17)=B3 at *
   obtain ⟨RR,hRR⟩:∃ x,x=(if (w2 B4 26=0)∧((17:Int)=17∨ofN (B4.drop 20)=0) then Qao B4 26 65535 else B4):=⟨_,rfl⟩
   rw[← hRR]
   have HRR:=Lib.hid hRR
   clear hRR
   (refine Qa (fun g3=>?_) (fun g3=>?_)<;>try exact g3.elim)
   refine Qd ?_
   refine Jh ?_
   have hlw2:addr % 65536=lo:=hlw.symm
   clear hlw
   refine Qp8 hsz (An @e1 @hlw2) ?_
   refine Xl (fun k:Nat=>k≤2) (fun k=>⟨[(1,.int .i64 0),(3,.int .i64 port),(10,.ptr 0 0),(12,.ptr 2 0),(14,.int .i64 26),(15,.int .i64 12),(86,.agg [.int .i64 hi,.int .i64 lo]),(87,.int .i64 (kI k))],[(0,.cells [.int .i64 17,.int .i64 frm,.int .i64 sport,.int .i64 dst,.int .i64 dport,.int .i64 ttl,.int .i64 id,.int .i64 flags,.int .i64 seq,.int .i64 ack,.int .i64 win,.str body]),(1,.cells (Xk (Qid k l B1 B2))),(2,.cells [.sl 1 1 0 l.length l.length,.bool true])],3⟩) (fun k=>2 - k) Qch.mixed hN
    ⟨0,by omega,[(1,3),(2,4)],by exact Qq (An @Kt @Qaz)⟩ fun k hk=>?_
   obtain rfl|rfl|rfl:k=0∨k=1∨k=2:=by omega
   ·refine Zk (An @Kt @Qaz) ?_
    (refine Qa (fun q1=>?_) (fun q1=>?_)<;>try exact q1.elim)
    refine Zk (An @Kt @Qaz) ?_
    refine Qdm (nw2 c.gl l 12) ?_
    ((first|refine Qy (ins:=[2,1]) (Xc c.gl l true 12 10 hi (by omega) (by omega) (by omega)) ?_ ?_|refine Qv (ins:=[2,1]) (Xc c.gl l true 12 10 hi (by omega) (by omega) (by omega)) ?_ ?_|refine Qu (ins:=[2,1]) (Xc c.gl l true 12 10 hi (by omega) (by omega) (by omega)) ?_ ?_|refine Qr (ins:=[2,1]) (Xc c.gl l true 12 10 hi (by omega) (by omega) (by omega)) ?_ ?_)<;>(have zf1:=@hL1;refine XM ?_;clear zf1;(try first|exact rfl|exact True.intro);((try (repeat' with_reducible refine And.intro ?_ ?_));(try any_goals (first|refine zm ?_|exact CL|fail)))))
    ·rfl
    (refine Qa (fun q2=>?_) (fun q2=>?_)<;>try exact q2.elim)
    refine Uc ?_
    ((first|refine Qy (ins:=[2,1]) (Xx c.gl (Qk l 12 10 hi) true 26 (w2 l 12) hi (by rw[Qo];omega) (by rw[Qo];omega)) ?_ ?_|refine Qv (ins:=[2,1]) (Xx c.gl (Qk l 12 10 hi) true 26 (w2 l 12) hi (by rw[Qo];omega) (by rw[Qo];omega)) ?_ ?_|refine Qu (ins:=[2,1]) (Xx c.gl (Qk l 12 10 hi) true 26 (w2 l 12) hi (by rw[Qo];omega) (by rw[Qo];omega)) ?_ ?_|refine Qr (ins:=[2,1]) (Xx c.gl (Qk l 12 10 hi) true 26 (w2 l 12) hi (by rw[Qo];omega) (by rw[Qo];omega)) ?_ ?_)<;>(have zf1:=@Qo;refine XM ?_;clear zf1;(try first|exact rfl|exact True.intro);((try (repeat' with_reducible refine And.intro ?_ ?_));(try any_goals (first|refine zm ?_|exact CL|fail)))))
    ·rfl
    refine ⟨1,by omega,⟨[],?_⟩,by omega⟩
    exact Qb1 (An @Ku (An @Qay @hB1))
   ·refine Zk (An @Ku @Qay) ?_
    (refine Qa (fun q1=>?_) (fun q1=>?_)<;>try exact q1.elim)
    refine Zk (An @Ku @Qay) ?_
    refine Qdm (nw2 c.gl B1 14) ?_
    ((first|refine Qy (ins:=[2,1]) (Xc c.gl B1 true 14 10 lo (by omega) (by omega) (by omega)) ?_ ?_|refine Qv (ins:=[2,1]) (Xc c.gl B1 true 14 10 lo (by omega) (by omega) (by omega)) ?_ ?_|refine Qu (ins:=[2,1]) (Xc c.gl B1 true 14 10 lo (by omega) (by omega) (by omega)) ?_ ?_|refine Qr (ins:=[2,1]) (Xc c.gl B1 true 14 10 lo (by omega) (by omega) (by omega)) ?_ ?_)<;>(have zf1:=@hL1;refine XM ?_;clear zf1;(try first|exact rfl|exact True.intro);((try (repeat' with_reducible refine And.intro ?_ ?_));(try any_goals (first|refine zm ?_|exact CL|fail)))))
    ·rfl
    (refine Qa (fun q2=>?_) (fun q2=>?_)<;>try exact q2.elim)
    refine Uc ?_
    ((first|refine Qy (ins:=[2,1]) (Xx c.gl (Qk B1 14 10 lo) true 26 (w2 B1 14) lo (by rw[Qo];omega) (by rw[Qo];omega)) ?_ ?_|refine Qv (ins:=[2,1]) (Xx c.gl (Qk B1 14 10 lo) true 26 (w2 B1 14) lo (by rw[Qo];omega) (by rw[Qo];omega)) ?_ ?_|refine Qu (ins:=[2,1]) (Xx c.gl (Qk B1 14 10 lo) true 26 (w2 B1 14) lo (by rw[Qo];omega) (by rw[Qo];omega)) ?_ ?_|refine Qr (ins:=[2,1]) (Xx c.gl (Qk B1 14 10 lo) true 26 (w2 B1 14) lo (by rw[Qo];omega) (by rw[Qo];omega)) ?_ ?_)<;>(have zf1:=@Qo;have zf2:=@hL1;refine XM ?_;clear zf1 zf2;(try first|exact rfl|exact True.intro);((try (repeat' with_reducible refine And.intro ?_ ?_));(try any_goals (first|refine zm ?_|exact CL|fail)))))
    ·rfl
    refine ⟨2,by omega,⟨[],?_⟩,by omega⟩
    exact Qb1 (An @Ks (An @Qb0 @hB2))
   refine Zk (An @Ks @Qb0) ?_
   (refine Qa (fun q1=>?_) (fun q1=>?_)<;>try exact q1.elim)
   refine Zk (An @Ks (An @Qb0 (An @Qc9 @e3))) ?_
   ((first|refine Qy (ins:=[2,1]) s3 ?_ ?_|refine Qv (ins:=[2,1]) s3 ?_ ?_|refine Qu (ins:=[2,1]) s3 ?_ ?_|refine Qr (ins:=[2,1]) s3 ?_ ?_)<;>(have zf1:=@Qc9;have zf2:=@e3;have zf3:=@hL3;refine XM ?_;clear zf1 zf2 zf3;(try first|exact rfl|exact True.intro);((try (repeat' with_reducible refine And.intro ?_ ?_));(try any_goals (first|refine zm ?_|exact CL|fail)))))
   ·rfl
   (refine Qa (fun q2=>?_) (fun q2=>?_)<;>try exact q2.elim)
   refine Uc ?_
   have hz:=Qp7 B4 26 Zom
   have hOf:=Qe8 c.gl (B4.drop 20) (by rw[List.length_drop];omega)
   by_cases z:w2 B4 26=0
   ·have bz1:(b1 B4 26 == 0)=true:=by simp[(hz.1 z).1]
    have bz2:(b1 B4 27 == 0)=true:=by simp[(hz.1 z).2]
    ((first|refine Qy (ins:=[2,1]) s4 ?_ ?_|refine Qv (ins:=[2,1]) s4 ?_ ?_|refine Qu (ins:=[2,1]) s4 ?_ ?_|refine Qr (ins:=[2,1]) s4 ?_ ?_)<;>(have zf1:=@hL4;have zf2:=@Ql;have zf3:=@bz1;have zf4:=@bz2;refine XM ?_;clear zf1 zf2 zf3 zf4;(try first|exact rfl|exact True.intro);((try (repeat' with_reducible refine And.intro ?_ ?_));(try any_goals (first|refine zm ?_|exact CL|fail)))))
    ·rfl
    have hR1:RR=(B4.set 26 255).set 27 255:=(HRR.out.trans (if_pos ⟨z,.inl rfl⟩)).trans (Qf6 _ _)
    rw[hR1]
    clear hR1
    ((first|apply Yd|apply Xu)<;>(have zf1:=@Ql;have zf2:=@bz1;have zf3:=@bz2;refine XG ?_;clear zf1 zf2 zf3;first|exact rfl|exact True.intro|((try (repeat' with_reducible refine And.intro ?_ ?_));(try any_goals (first|refine zm ?_|exact CL|fail)))))
    (refine Qa (fun q3=>?_) (fun q3=>?_)<;>try exact q3.elim)
    exact Qb1 (An @Qat @hL4)
   ·have bz:(b1 B4 26 == 0 && b1 B4 27 == 0)=false:=by
     have hn:¬ (b1 B4 26=0∧b1 B4 27=0):=fun h=>z (hz.2 h)
     rw[Bool.and_eq_false_iff,beq_eq_false_iff_ne,beq_eq_false_iff_ne];omega
    have hR1:RR=B4:=HRR.out.trans (if_neg fun h=>z h.1)
    rw[hR1]
    clear hR1
    ((first|refine Qy (ins:=[2,1]) s4 ?_ ?_|refine Qv (ins:=[2,1]) s4 ?_ ?_|refine Qu (ins:=[2,1]) s4 ?_ ?_|refine Qr (ins:=[2,1]) s4 ?_ ?_)<;>(have zf1:=@hL4;have zf2:=@Ql;have zf3:=@bz;refine XM ?_;clear zf1 zf2 zf3;(try first|exact rfl|exact True.intro);((try (repeat' with_reducible refine And.intro ?_ ?_));(try any_goals (first|refine zm ?_|exact CL|fail)))))
    ·rfl
    ((first|apply Yd|apply Xu)<;>(have zf1:=@Ql;have zf2:=@bz;refine XG ?_;clear zf1 zf2;first|exact rfl|exact True.intro|((try (repeat' with_reducible refine And.intro ?_ ?_));(try any_goals (first|refine zm ?_|exact CL|fail)))))
    (refine Qa (fun q3=>?_) (fun q3=>?_)<;>try exact q3.elim)
    exact Qq (An @Ql @bz)
  ·have hfin:Kk l 17 ttl (Qi6 1) (Qig 17 1) addr port=Kk l 17 ttl 16 22 addr port:=rfl
   rw[hfin]
   clear hfin
   have e1:=Qkj addr haddr.1
   have e2:=Qkq addr haddr
   have e3:=Qkv (ttl - 1) 17 Zom Zom
   have t3:Kk l 17 ttl 16 22 addr port=(if (w2 (Qk (Qk (tl (Qk (tl (Qk l 16 10 (addr / 65536)) 17 (w2 l 16) (addr / 65536)) 18 10 (addr % 65536)) 17 (w2 (tl (Qk l 16 10 (addr / 65536)) 17 (w2 l 16) (addr / 65536)) 18) (addr % 65536)) 8 10 ((ttl - 1) * 256 + 17)) 22 26 port) 26=0)∧((17:Int)=17∨ofN ((Qk (Qk (tl (Qk (tl (Qk l 16 10 (addr / 65536)) 17 (w2 l 16) (addr / 65536)) 18 10 (addr % 65536)) 17 (w2 (tl (Qk l 16 10 (addr / 65536)) 17 (w2 l 16) (addr / 65536)) 18) (addr % 65536)) 8 10 ((ttl - 1) * 256 + 17)) 22 26 port).drop 20)=0) then Qao (Qk (Qk (tl (Qk (tl (Qk l 16 10 (addr / 65536)) 17 (w2 l 16) (addr / 65536)) 18 10 (addr % 65536)) 17 (w2 (tl (Qk l 16 10 (addr / 65536)) 17 (w2 l 16) (addr / 65536)) 18) (addr % 65536)) 8 10 ((ttl - 1) * 256 + 17)) 22 26 port) 26 65535 else Qk (Qk (tl (Qk (tl (Qk l 16 10 (addr / 65536)) 17 (w2 l 16) (addr / 65536)) 18 10 (addr % 65536)) 17 (w2 (tl (Qk l 16 10 (addr / 65536)) 17 (w2 l 16) (addr / 65536)) 18) (addr % 65536)) 8 10 ((ttl - 1) * 256 + 17)) 22 26 port):=rfl
   rw[t3]
   clear t3
   obtain ⟨hi,hhi⟩:∃ x,x=addr / 65536:=⟨_,rfl⟩
   obtain ⟨lo,hlw⟩:∃ x,x=addr % 65536:=⟨_,rfl⟩
   rw[← hhi]at e1 ⊢
   rw[← hlw]at e2 ⊢
   have hhib:0≤hi∧hi≤65535:=by omega
   have hlwb:0≤lo∧lo≤65535:=by omega
   have E1:tl (Qk l 16 10 hi) 17 (w2 l 16) hi=Uy (Qk l 16 10 hi) 26 (w2 l 16) hi:=rfl
   obtain ⟨B1,hB1⟩:∃ x,x=tl (Qk l 16 10 hi) 17 (w2 l 16) hi:=⟨_,rfl⟩
   rw[← hB1]
   rw[E1]at hB1
   have E2:tl (Qk B1 18 10 lo) 17 (w2 B1 18) lo=Uy (Qk B1 18 10 lo) 26 (w2 B1 18) lo:=rfl
   obtain ⟨B2,hB2⟩:∃ x,x=tl (Qk B1 18 10 lo) 17 (w2 B1 18) lo:=⟨_,rfl⟩
   rw[← hB2]
   rw[E2]at hB2
   clear E1 E2
   have hL1:B1.length=l.length:=by rw[hB1];simp[Qo,Jf]
   have hL2:B2.length=l.length:=by rw[hB2];simp[Qo,Jf,hL1]
   have hL3:(Qk B2 8 10 ((ttl - 1) * 256 + 17)).length=l.length:=by rw[Qo,hL2]
   have hL4:(Qk (Qk B2 8 10 ((ttl - 1) * 256 + 17)) 22 26 port).length=l.length:=by rw[Qo,hL3]
   have s3:=Xc c.gl B2 true 8 10 ((ttl - 1) * 256 + 17) Zom Zom Zom
   have s4:=Xc c.gl (Qk B2 8 10 ((ttl - 1) * 256 + 17)) true 22 26 port Zom Zom Zom
   rw[hL2]at s3
   rw[hL3]at s4
   generalize Qk (Qk B2 8 10 ((ttl - 1) * 256 + 17)) 22 26 port=B4 at *
   generalize Qk B2 8 10 ((ttl - 1) * 256 + 17)=B3 at *
   obtain ⟨RR,hRR⟩:∃ x,x=(if (w2 B4 26=0)∧((17:Int)=17∨ofN (B4.drop 20)=0) then Qao B4 26 65535 else B4):=⟨_,rfl⟩
   rw[← hRR]
   have HRR:=Lib.hid hRR
   clear hRR
   (refine Qa (fun g3=>?_) (fun g3=>?_)<;>try exact g3.elim)
   refine Qd ?_
   refine Jh ?_
   have hlw2:addr % 65536=lo:=hlw.symm
   clear hlw
   refine Qp8 hsz (An @e1 @hlw2) ?_
   refine Xl (fun k:Nat=>k≤2) (fun k=>⟨[(1,.int .i64 1),(3,.int .i64 port),(10,.ptr 0 0),(12,.ptr 2 0),(14,.int .i64 26),(15,.int .i64 16),(86,.agg [.int .i64 hi,.int .i64 lo]),(87,.int .i64 (kI k))],[(0,.cells [.int .i64 17,.int .i64 frm,.int .i64 sport,.int .i64 dst,.int .i64 dport,.int .i64 ttl,.int .i64 id,.int .i64 flags,.int .i64 seq,.int .i64 ack,.int .i64 win,.str body]),(1,.cells (Xk (Qid k l B1 B2))),(2,.cells [.sl 1 1 0 l.length l.length,.bool true])],3⟩) (fun k=>2 - k) Qch.mixed hN
    ⟨0,by omega,[(1,3),(2,4)],by exact Qq (An @Kt @Qaz)⟩ fun k hk=>?_
   obtain rfl|rfl|rfl:k=0∨k=1∨k=2:=by omega
   ·refine Zk (An @Kt @Qaz) ?_
    (refine Qa (fun q1=>?_) (fun q1=>?_)<;>try exact q1.elim)
    refine Zk (An @Kt @Qaz) ?_
    refine Qdm (nw2 c.gl l 16) ?_
    ((first|refine Qy (ins:=[2,1]) (Xc c.gl l true 16 10 hi (by omega) (by omega) (by omega)) ?_ ?_|refine Qv (ins:=[2,1]) (Xc c.gl l true 16 10 hi (by omega) (by omega) (by omega)) ?_ ?_|refine Qu (ins:=[2,1]) (Xc c.gl l true 16 10 hi (by omega) (by omega) (by omega)) ?_ ?_|refine Qr (ins:=[2,1]) (Xc c.gl l true 16 10 hi (by omega) (by omega) (by omega)) ?_ ?_)<;>(have zf1:=@hL1;refine XM ?_;clear zf1;(try first|exact rfl|exact True.intro);((try (repeat' with_reducible refine And.intro ?_ ?_));(try any_goals (first|refine zm ?_|exact CL|fail)))))
    ·rfl
    (refine Qa (fun q2=>?_) (fun q2=>?_)<;>try exact q2.elim)
    refine Uc ?_
    ((first|refine Qy (ins:=[2,1]) (Xx c.gl (Qk l 16 10 hi) true 26 (w2 l 16) hi (by rw[Qo];omega) (by rw[Qo];omega)) ?_ ?_|refine Qv (ins:=[2,1]) (Xx c.gl (Qk l 16 10 hi) true 26 (w2 l 16) hi (by rw[Qo];omega) (by rw[Qo];omega)) ?_ ?_|refine Qu (ins:=[2,1]) (Xx c.gl (Qk l 16 10 hi) true 26 (w2 l 16) hi (by rw[Qo];omega) (by rw[Qo];omega)) ?_ ?_|refine Qr (ins:=[2,1]) (Xx c.gl (Qk l 16 10 hi) true 26 (w2 l 16) hi (by rw[Qo];omega) (by rw[Qo];omega)) ?_ ?_)<;>(have zf1:=@Qo;refine XM ?_;clear zf1;(try first|exact rfl|exact True.intro);((try (repeat' with_reducible refine And.intro ?_ ?_));(try any_goals (first|refine zm ?_|exact CL|fail)))))
    ·rfl
    refine ⟨1,by omega,⟨[],?_⟩,by omega⟩
    exact Qb1 (An @Ku (An @Qay @hB1))
   ·refine Zk (An @Ku @Qay) ?_
    (refine Qa (fun q1=>?_) (fun q1=>?_)<;>try exact q1.elim)
    refine Zk (An @Ku @Qay) ?_
    refine Qdm (nw2 c.gl B1 18) ?_
    ((first|refine Qy (ins:=[2,1]) (Xc c.gl B1 true 18 10 lo (by omega) (by omega) (by omega)) ?_ ?_|refine Qv (ins:=[2,1]) (Xc c.gl B1 true 18 10 lo (by omega) (by omega) (by omega)) ?_ ?_|refine Qu (ins:=[2,1]) (Xc c.gl B1 true 18 10 lo (by omega) (by omega) (by omega)) ?_ ?_|refine Qr (ins:=[2,1]) (Xc c.gl B1 true 18 10 lo (by omega) (by omega) (by omega)) ?_ ?_)<;>(have zf1:=@hL1;refine XM ?_;clear zf1;(try first|exact rfl|exact True.intro);((try (repeat' with_reducible refine And.intro ?_ ?_));(try any_goals (first|refine zm ?_|exact CL|fail)))))
    ·rfl
    (refine Qa (fun q2=>?_) (fun q2=>?_)<;>try exact q2.elim)
    refine Uc ?_
    ((first|refine Qy (ins:=[2,1]) (Xx c.gl (Qk B1 18 10 lo) true 26 (w2 B1 18) lo (by rw[Qo];omega) (by rw[Qo];omega)) ?_ ?_|refine Qv (ins:=[2,1]) (Xx c.gl (Qk B1 18 10 lo) true 26 (w2 B1 18) lo (by rw[Qo];omega) (by rw[Qo];omega)) ?_ ?_|refine Qu (ins:=[2,1]) (Xx c.gl (Qk B1 18 10 lo) true 26 (w2 B1 18) lo (by rw[Qo];omega) (by rw[Qo];omega)) ?_ ?_|refine Qr (ins:=[2,1]) (Xx c.gl (Qk B1 18 10 lo) true 26 (w2 B1 18) lo (by rw[Qo];omega) (by rw[Qo];omega)) ?_ ?_)<;>(have zf1:=@Qo;have zf2:=@hL1;refine XM ?_;clear zf1 zf2;(try first|exact rfl|exact True.intro);((try (repeat' with_reducible refine And.intro ?_ ?_));(try any_goals (first|refine zm ?_|exact CL|fail)))))
    ·rfl
    refine ⟨2,by omega,⟨[],?_⟩,by omega⟩
    exact Qb1 (An @Ks (An @Qb0 @hB2))
   refine Zk (An @Ks @Qb0) ?_
   (refine Qa (fun q1=>?_) (fun q1=>?_)<;>try exact q1.elim)
   refine Zk (An @Ks (An @Qb0 (An @Qc9 @e3))) ?_
   ((first|refine Qy (ins:=[2,1]) s3 ?_ ?_|refine Qv (ins:=[2,1]) s3 ?_ ?_|refine Qu (ins:=[2,1]) s3 ?_ ?_|refine Qr (ins:=[2,1]) s3 ?_ ?_)<;>(have zf1:=@Qc9;have zf2:=@e3;have zf3:=@hL3;refine XM ?_;clear zf1 zf2 zf3;(try first|exact rfl|exact True.intro);((try (repeat' with_reducible refine And.intro ?_ ?_));(try any_goals (first|refine zm ?_|exact CL|fail)))))
   ·rfl
   (refine Qa (fun q2=>?_) (fun q2=>?_)<;>try exact q2.elim)
   refine Uc ?_
   have hz:=Qp7 B4 26 Zom
   have hOf:=Qe8 c.gl (B4.drop 20) (by rw[List.length_drop];omega)
   by_cases z:w2 B4 26=0
   ·have bz1:(b1 B4 26 == 0)=true:=by simp[(hz.1 z).1]
    have bz2:(b1 B4 27 == 0)=true:=by simp[(hz.1 z).2]
    ((first|refine Qy (ins:=[2,1]) s4 ?_ ?_|refine Qv (ins:=[2,1]) s4 ?_ ?_|refine Qu (ins:=[2,1]) s4 ?_ ?_|refine Qr (ins:=[2,1]) s4 ?_ ?_)<;>(have zf1:=@hL4;have zf2:=@Ql;have zf3:=@bz1;have zf4:=@bz2;refine XM ?_;clear zf1 zf2 zf3 zf4;(try first|exact rfl|exact True.intro);((try (repeat' with_reducible refine And.intro ?_ ?_));(try any_goals (first|refine zm ?_|exact CL|fail)))))
    ·rfl
    have hR1:RR=(B4.set 26 255).set 27 255:=(HRR.out.trans (if_pos ⟨z,.inl rfl⟩)).trans (Qf6 _ _)
    rw[hR1]
    clear hR1
    ((first|apply Yd|apply Xu)<;>(have zf1:=@Ql;have zf2:=@bz1;have zf3:=@bz2;refine XG ?_;clear zf1 zf2 zf3;first|exact rfl|exact True.intro|((try (repeat' with_reducible refine And.intro ?_ ?_));(try any_goals (first|refine zm ?_|exact CL|fail)))))
    (refine Qa (fun q3=>?_) (fun q3=>?_)<;>try exact q3.elim)
    exact Qb1 (An @Qat @hL4)
   ·have bz:(b1 B4 26 == 0 && b1 B4 27 == 0)=false:=by
     have hn:¬ (b1 B4 26=0∧b1 B4 27=0):=fun h=>z (hz.2 h)
     rw[Bool.and_eq_false_iff,beq_eq_false_iff_ne,beq_eq_false_iff_ne];omega
    have hR1:RR=B4:=HRR.out.trans (if_neg fun h=>z h.1)
    rw[hR1]
    clear hR1
    ((first|refine Qy (ins:=[2,1]) s4 ?_ ?_|refine Qv (ins:=[2,1]) s4 ?_ ?_|refine Qu (ins:=[2,1]) s4 ?_ ?_|refine Qr (ins:=[2,1]) s4 ?_ ?_)<;>(have zf1:=@hL4;have zf2:=@Ql;have zf3:=@bz;refine XM ?_;clear zf1 zf2 zf3;(try first|exact rfl|exact True.intro);((try (repeat' with_reducible refine And.intro ?_ ?_));(try any_goals (first|refine zm ?_|exact CL|fail)))))
    ·rfl
    ((first|apply Yd|apply Xu)<;>(have zf1:=@Ql;have zf2:=@bz;refine XG ?_;clear zf1 zf2;first|exact rfl|exact True.intro|((try (repeat' with_reducible refine And.intro ?_ ?_));(try any_goals (first|refine zm ?_|exact CL|fail)))))
    (refine Qa (fun q3=>?_) (fun q3=>?_)<;>try exact q3.elim)
    exact Qq (An @Ql @bz)
theorem Qyz (f:List UInt8) (side addr port:Int):∃ e,Qdd f side addr port=.tup [.str (Kq f side addr port),.int .i64 e]:=by
 unfold Qdd Kq
 split
 ·exact ⟨_,rfl⟩
 ·split
  ·exact ⟨_,rfl⟩
  ·exact ⟨_,rfl⟩
theorem To.natM {p:List Nat} {t t':List (Nat × AV)} {ex ex':List (Nat × Bk)} {S:NS} {T:WT} {N n k:Nat} (hT:T.wf) (H':HL (ex'++Qm S T) k) (hk:70≤k) (hkN:k≤N) (hex':∀ q ∈ ex',70≤q.1) (hex:∀ q ∈ ex,70≤q.1∧q.1 < N) (hp:∀ b ∈ p,b=67)
  (hl:∀ b,70≤b→b < k→Qb (ex++Xd (sgx id [67] N) (Qm S T)) n b=Xf (lw (sgx id [67] N) 70) (Qb (ex'++Qm S T) k b)) (ht:Qw (lw (sgx id [67] N) 70) k t t'):To p ⟨t,ex++Xd (sgx id [67] N) (Qm S T),n⟩ ⟨t',ex'++Qm S T,k⟩:=by
 have hs:∀ b,b < 70→sgx id [67] N b=67∧b=67∨sgx id [67] N b=N + b∧b≠67:=fun b hb=>by
  by_cases e:b=67
  ·subst e;exact .inl ⟨Wr Zsi,rfl⟩
  ·exact .inr ⟨Wi (by simpa using e),e⟩
 refine To.mid (Qi hT) H' hk hex' (fun b b' hb hb' e=>?_) (fun q hq b hb e=>?_) (fun b hb b' h1 h2 e=>?_) (fun b hb=>?_) hl ht
 ·rcases hs b hb with ⟨h1,h2⟩|⟨h1,h2⟩<;>rcases hs b' hb' with ⟨h3,h4⟩|⟨h3,h4⟩<;>omega
 ·have:=hex q hq
  rcases hs b hb with ⟨h1,h2⟩|⟨h1,h2⟩<;>omega
 ·rcases hs b hb with ⟨h3,h4⟩|⟨h3,h4⟩<;>omega
 ·obtain rfl:=hp b hb
  exact ⟨rfl,by omega⟩
theorem To.mid0 {p:List Nat} {t t':List (Nat × AV)} {h ex ex':List (Nat × Bk)} {m n k:Nat} (H:HL h m) (H':HL (ex'++h) k) (hmk:m≤k) (hex':∀ q ∈ ex',m≤q.1) (hex:∀ q ∈ ex,m≤q.1) (hp:∀ b ∈ p,b < k) (hl:∀ b,m≤b→b < k→Qb (ex++h) n b=Qb (ex'++h) k b) (ht:Qw id k t t'):To p ⟨t,ex++h,n⟩ ⟨t',ex'++h,k⟩:=by
 refine To.fam id H' (fun b hb=>⟨rfl,hp b hb⟩) (fun b b' _ _ e=>e) (fun b hb=>?_) ht
 rw[Wz]
 show Qb (ex++h) n b=_
 by_cases h1:b < m
 ·rw[Xn fun q hq e=>by have:=hex q hq;omega,Xn fun q hq e=>by have:=hex' q hq;omega,H.lo h1 n,H.lo h1 k]
 ·exact hl b Zom hb
def bK (S:NS) (m:Mp) (r:Int) (x:Int):Bool:=S.fl.any fun q=>q.1 == x && (decide (q.2.map=m) && q.2.rem == r)
theorem Xda {S:NS} (hd:S.fl.Pairwise fun p q=>p.1≠q.1) {q:Int × Fl} (hq:q ∈ S.fl) (m:Mp) (r:Int):bK S m r q.1=(decide (q.2.map=m) && q.2.rem == r):=by
 unfold bK
 rw[Bool.eq_iff_iff,List.any_eq_true]
 constructor
 ·rintro ⟨x,hx,h⟩
  rw[Bool.and_eq_true,beq_iff_eq]at h
  rw[← Qfd hd hx hq h.1];exact h.2
 ·intro h
  exact ⟨q,hq,by rw[h];simp⟩
theorem Xy7 {S:NS} (hd:S.fl.Pairwise fun p q=>p.1≠q.1) (m:Mp) (r:Int):S.keys.any (bK S m r)=S.fl.any fun q=>decide (q.2.map=m) && q.2.rem == r:=by
 unfold NS.keys
 rw[List.any_map,Bool.eq_iff_iff,List.any_eq_true,List.any_eq_true]
 constructor<;>rintro ⟨q,hq,h⟩
 ·exact ⟨q,hq,by rw[← Xda hd hq];exact h⟩
 ·exact ⟨q,hq,by show bK S m r q.1=true;rw[Xda hd hq];exact h⟩
theorem Qfo (N:Nat):lw (sgx id [67] N) 70 67=67:=rfl
theorem Qnt {S:NS} {T:WT} (hT:T.wf):HL ((70,Bk.cells [.ptr 67 0])::Qm S T) 71:=(Qi hT).more (by simp[nmB,nmAll,Qe])
theorem Qrb (S:NS) (f:List UInt8):S.inn f =
  if rdE f≠0 then (rpE (rdE f),S) else
  if (rdK f).dst - 3405803777 < 0∨3≤(rdK f).dst - 3405803777 then (rpE 7,S) else
  if (rdK f).proto=1∧(rdK f).flags≠0 then (rpE 4,S) else
  if (rdK f).ttl=1 then (rpE 12,S) else
  match S.tb.maps.find? (Zw (rdK f).proto ((rdK f).dst - 3405803777) (rdK f).dport) with
  | none=>(rpE 7,S)
  | some m =>
   if S.findF m (rdK f).frm (rdK f).sport≠0 then (⟨0,Kq f 1 (167772161 + m.s) m.inn,true,[]⟩,S.goes (S.findF m (rdK f).frm (rdK f).sport) (rdK f) true) else
   if S.loose=false∧(S.fl.any fun q=>decide (q.2.map=m) && q.2.rem == (rdK f).frm)=false then (rpE 11,S) else
   if (rdK f).proto≠17∨48≤S.fl.length then (rpE 11,S) else
   (⟨0,Kq f 1 (167772161 + m.s) m.inn,true,[]⟩,S.begin ⟨m,(rdK f).frm,(rdK f).sport,2,0,0⟩):=rfl
theorem Qek {S:NS} {m:Mp} {r rp:Int} (h:S.findF m r rp≠0):∃ q ∈ S.fl,S.findF m r rp=q.1∧q.2.map=m∧q.2.rem=r∧q.2.rport=rp:=by
 unfold NS.findF at h ⊢
 split
 ·rename_i q hq
  have h1:=List.find?_some hq
  simp only[Bool.and_eq_true,decide_eq_true_eq,beq_iff_eq]at h1
  exact ⟨q,List.mem_of_find?_eq_some hq,rfl,h1.1.1,h1.1.2,h1.2⟩
 ·rename_i hq
  rw[hq]at h
  exact absurd rfl h
theorem Qng (f:List UInt8):∃ (p:Pk) (e:Int),Wc f=.tup [.agg p.enc,.int .i64 e]∧(e=0→rdE f=0∧rdK f=p∧(p.proto=1∨p.proto=6∨p.proto=17)∧Kc p)∧(e≠0→rdE f=e):=by
 by_cases he:rdE f=0
 ·exact ⟨rdK f,0,by unfold Wc;rw[if_pos he],fun _=>⟨he,rfl,Qpm he⟩,fun h=>(h rfl).elim⟩
 ·exact ⟨pk0,rdE f,by unfold Wc;rw[if_neg he],fun h=>(he h).elim,fun _=>rfl⟩
set_option maxHeartbeats 16000000 in
theorem Yah (gl:Nat→AV) (S:NS) (T T1:WT) (hS:NI S) (hT:T.wf) (hT1:T1.wf) (f:List UInt8) (hf:f.length≤140737488351232) (x:Rp × NS) (hx:S.inn f=x) (ha:x.1.code≠0→T1=T)
  (hb:x.1.code=0→∀ m,S.tb.maps.find? (Zw (rdK f).proto ((rdK f).dst - 3405803777) (rdK f).dport)=some m →
   (∀ q ∈ S.fl,S.findF m (rdK f).frm (rdK f).sport=q.1→GD Tryz.prog gl 93 [.ptr 67 0,.int .i64 q.1,.agg (rdK f).enc,.bool true] (Qm S T) 70 [67] (.tup []) (Qm (S.goes q.1 (rdK f) true) T1)) ∧
   (S.findF m (rdK f).frm (rdK f).sport=0→GD Tryz.prog gl 91 [.ptr 67 0,.agg (Fl.enc ⟨m,(rdK f).frm,(rdK f).sport,2,0,0⟩)] (Qm S T) 70 [67] (.tup []) (Qm (S.begin ⟨m,(rdK f).frm,(rdK f).sport,2,0,0⟩) T1))) :
  GD Tryz.prog gl 59 [.ptr 67 0,.str f] (Qm S T) 70 [67] (.agg x.1.enc) (Qm x.2 T1):=by
 refine Xy6.gq (of_decide_eq_true rfl) (Ze hT) Zsi fun c hgh hg=>?_
 subst hg
 conv in tcO _ _=>cbv
 have hHi:=fun n b hb=>Yb (S:=S) hT n b hb
 have h67:=Jw S T
 have hcl:=NS.cells_len hS.wf
 have htk:=NS.cells_tb hS.wf
 have c31:=NS.c31 hS.wf
 have c37:=NS.c37 hS.wf
 have hl48:=hS.len
 have hP:=Qdl c.gl f hf
 obtain ⟨Z1,hZ1,hz1⟩:∃ Z:Int,(3405803776:Int)=Z∧0≤Z∧Z≤4294967296:=⟨_,rfl,by decide,by decide⟩
 obtain ⟨Z2,hZ2,hz2⟩:∃ Z:Int,(167772161:Int)=Z∧0≤Z∧Z≤4294967296:=⟨_,rfl,by decide,by decide⟩
 rw[hZ1,hZ2]
 obtain ⟨p,e,hpt,he0,he1⟩:=Qng f
 rw[hpt]at hP
 rw[Qrb]at hx
 obtain ⟨p1,p2,p3,p4,p5,p6,p7,p8,p9,p10,p11,pb⟩:=p
 unfold Pk.enc at hP
 dsimp only at hP
 refine Qg @hHi ?_
 ((first|apply Yq|apply Ya|apply Xs|apply Xm)<;>(first|exact hP|(refine XG ?_;first|exact rfl|exact True.intro|((try (repeat' with_reducible refine And.intro ?_ ?_));(try any_goals (first|refine zm ?_|exact CL|fail))))))
 exact Qq @hHi
 (refine Qa (fun h1=>?_) (fun h1=>?_)<;>try exact h1.elim)
 ·have he:=he1 h1
  subst he
  rw[if_pos h1]at hx
  subst hx
  obtain rfl:=ha (by first|exact h1|simp[rpE])
  unfold rpE Rp.enc
  refine Qg @hHi ?_
  exact ⟨(),To.drop (ex:=[(71,_),(72,_),(72,_),(71,_),(70,_)]) (Qi hT) Zsi Zsi (by simp[Qw,Qe,nmAll,look,ren,rens])⟩
 obtain ⟨he,hp,hpr,hrg⟩:=he0 h1
 rw[if_neg (by rw[he];simp)]at hx
 rw[hp]at hx hb
 unfold Kc at hrg
 dsimp only at hx hb hpr hrg
 refine Qd ?_
 (refine Qa (fun h2=>?_) (fun h2=>?_)<;>try exact h2.elim)
 ·rw[if_pos Zom]at hx
  subst hx
  obtain rfl:=ha (by first|exact h1|simp[rpE])
  unfold rpE Rp.enc
  refine Qg @hHi ?_
  exact ⟨(),To.drop (ex:=[(71,_),(72,_),(72,_),(71,_),(70,_)]) (Qi hT) Zsi Zsi (by simp[Qw,Qe,nmAll,look,ren,rens])⟩
 rw[if_neg Zom]at hx
 refine Qd ?_
 (refine Qa (fun h3=>?_) (fun h3=>?_)<;>try exact h3.elim)
 ·rw[if_pos Zom]at hx
  subst hx
  obtain rfl:=ha (by first|exact h1|simp[rpE])
  unfold rpE Rp.enc
  refine Qg @hHi ?_
  exact ⟨(),To.drop (ex:=[(71,_),(72,_),(72,_),(71,_),(70,_)]) (Qi hT) Zsi Zsi (by simp[Qw,Qe,nmAll,look,ren,rens])⟩
 rw[if_neg Zom]at hx
 refine Qd ?_
 (refine Qa (fun h4=>?_) (fun h4=>?_)<;>try exact h4.elim)
 ·rw[if_pos Zom]at hx
  subst hx
  obtain rfl:=ha (by first|exact h1|simp[rpE])
  unfold rpE Rp.enc
  refine Qg @hHi ?_
  exact ⟨(),To.drop (ex:=[(71,_),(72,_),(72,_),(71,_),(70,_)]) (Qi hT) Zsi Zsi (by simp[Qw,Qe,nmAll,look,ren,rens])⟩
 rw[if_neg Zom]at hx
 have hbk:=Que c.gl S.tb hS.wf (by have:=Qbw (Wp.2 hS.gt);omega) p1 (p4 - Z1 - 1) p5
 rw[show p4 - 3405803777=p4 - Z1 - 1 by omega]at hx hb
 refine Qg (An @h67 (An @hcl @htk)) ?_
 cases hm:S.tb.maps.find? (Zw p1 (p4 - Z1 - 1) p5) with
 | none =>
  rw[hm]at hbk hx
  unfold mpT at hbk
  dsimp only at hbk hx
  rw[show mp0.enc=[.int .i64 0,.int .i64 0,.int .i64 0,.int .i64 0,.int .i64 0] from rfl]at hbk
  refine Xa hbk @hHi ?_
  (refine Qa (fun h5=>?_) (fun h5=>?_)<;>try exact h5.elim)
  subst hx
  obtain rfl:=ha (by first|exact h1|simp[rpE])
  unfold rpE Rp.enc
  refine Qg @hHi ?_
  exact ⟨(),To.drop (ex:=[(71,_),(73,_),(73,_),(72,_),(72,_),(71,_),(70,_)]) (Qi hT) Zsi Zsi (by simp[Qw,Qe,nmAll,look,ren,rens])⟩
 | some m =>
  rw[hm]at hbk hx
  unfold mpT at hbk
  dsimp only at hbk hx
  have hb:=fun h=>hb h m hm
  have hfi:=Qtb c.gl S T hS.toNJ hT m p2 p3
  obtain ⟨tE,hTu⟩:=Qyz f 1 (Z2 + m.s) m.inn
  have hTr:=Xa5 c.gl f 1 (Z2 + m.s) m.inn hf
  rw[hTu]at hTr
  obtain ⟨_,⟨hms1,hms2⟩,_⟩:=Kx (hS.gt.maps m (List.mem_of_find?_eq_some hm)).1.1
  clear hTu
  rw[hZ2]at hx
  generalize Kq f 1 (Z2 + m.s) m.inn=tf at *
  have hkm:=@Qek S m p2 p3
  obtain ⟨mp,ms,mi,ma,mt⟩:=m
  generalize hkF:S.findF ⟨mp,ms,mi,ma,mt⟩ p2 p3=k at *
  unfold Mp.enc at hbk hfi
  dsimp only at hbk hfi hx hb hTr hms1 hms2
  have H4':∀ {S:NS} {T:WT},T.wf→HL ([(73,.cells [.int .i64 mp,.int .i64 ms,.int .i64 mi,.int .i64 ma,.int .i64 mt]),(72,.cells [.int .i64 p1,.int .i64 p2,.int .i64 p3,.int .i64 p4,.int .i64 p5,.int .i64 p6,.int .i64 p7,.int .i64 p8,.int .i64 p9,.int .i64 p10,.int .i64 p11,.str pb]),(71,.cells [.int .i64 0,.str [],.bool false,.str []]),(70,.cells [.ptr 67 0])]++Qm S T) 74:=fun hT=>((Qnt hT).more (by simp[nmB,nmAll,Qe])).more (by simp[nmB,nmAll,Qe]) |>.more (by simp[nmB,nmAll,Qe])
  refine Xa hbk @hHi ?_
  (refine Qa (fun h5=>?_) (fun h5=>?_)<;>try exact h5.elim)
  refine Qg @hHi ?_
  refine Ws (v:=false) (ex:=[(73,_),(73,_),(72,_),(72,_),(71,_),(70,_)]) hfi (Qi hT) (Qi hT) (by simp[Qe]) Zde Zsi rfl ?_ ?_
  ·exact Qq (An @Xg @hHi)
  refine Qd ?_
  (refine Qa (fun h6=>?_) (fun h6=>?_)<;>try exact h6.elim)
  ·rw[if_pos h6]at hx
   subst hx
   obtain ⟨q,hq,e,_⟩:=hkm h6
   have hgo:=(hb rfl).1 q hq e
   subst e
   generalize NS.goes S _ _ true=S1 at *
   unfold Pk.enc at hgo
   dsimp only at hgo
   refine Qd ?_
   refine Ut (v:=false) (pp:=[67]) (ex:=[(73,_),(73,_),(72,_),(72,_),(71,_),(70,_)]) (s3:=⟨[(1,.str f),(4,.ptr 71 0),(8,.ptr 73 0)],[(73,.cells [.int .i64 mp,.int .i64 ms,.int .i64 mi,.int .i64 ma,.int .i64 mt]),(72,.cells [.int .i64 p1,.int .i64 p2,.int .i64 p3,.int .i64 p4,.int .i64 p5,.int .i64 p6,.int .i64 p7,.int .i64 p8,.int .i64 p9,.int .i64 p10,.int .i64 p11,.str pb]),(71,.cells [.int .i64 0,.str [],.bool false,.str []]),(70,.cells [.ptr 67 0])]++Qm S1 T1,74⟩) hgh hgo (Qi hT) (Qi hT1) (by simp[Qe,nmAll]) Zde Zsi Zsi rfl ?_ ?_ ?_
   ·exact Qq @Xg
   ·unfold Ja
    refine To.natM hT1 (H4' hT1) Zde Zde Zsi Zsi Zsi (fun b h1 h2=>?_) ?_
    ·rcases (by omega:b=70∨b=71∨b=72∨b=73) with rfl|rfl|rfl|rfl<;>rfl
    ·simp[Qw,Qe,nmAll,look,ren,rens,Qfo,lw]
   refine Qd ?_
   refine Yt hTr ?_
   refine Qd ?_
   unfold Rp.enc
   exact ⟨(),To.drop (ex:=[(71,_),(73,_),(72,_),(71,_),(70,_)]) (Qi hT1) Zsi Zsi (by simp[Qw,Qe,nmAll,look,ren,rens])⟩
  rw[if_neg Zom]at hx
  cases hlo:S.loose with
  | false =>
   rw[hlo]at c37 hx
   refine Qg (An @h67 (An @hcl (An @c37 @c31))) ?_
   ((refine Qg9 ?_ ?_ ?_);(focus (have zf1:=@h67;have zf2:=@hcl;have zf3:=@c37;refine XG ?_;clear zf1 zf2 zf3;try first|exact rfl|exact True.intro));(focus (have zf1:=@h67;have zf2:=@hcl;have zf3:=@c37;refine XG ?_;clear zf1 zf2 zf3;try trivial)))
   have H4:=H4' (S:=S) hT
   refine Qez (p:=[67]) (s':=⟨[(1,.str f),(2,.ptr 70 0),(4,.ptr 71 0),(5,.ptr 72 0),(8,.ptr 73 0),(90,.bool true),(94,.cnd true (.sl 1 69 0 S.fl.length S.fl.length)),(95,.cnd true (.cl 97 [.ptr 70 0,.ptr 73 0,.ptr 72 0]))],[(73,.cells [.int .i64 mp,.int .i64 ms,.int .i64 mi,.int .i64 ma,.int .i64 mt]),(72,.cells [.int .i64 p1,.int .i64 p2,.int .i64 p3,.int .i64 p4,.int .i64 p5,.int .i64 p6,.int .i64 p7,.int .i64 p8,.int .i64 p9,.int .i64 p10,.int .i64 p11,.str pb]),(71,.cells [.int .i64 0,.str [],.bool false,.str []]),(70,.cells [.ptr 67 0])]++Qm S T,74⟩) hgh ?_ ?_
   ·refine To.mid0 (ex:=[(73,_),(73,_),(72,_),(72,_),(71,_),(70,_)]) (Qi hT) H4 Zde Zsi Zsi Zsi (fun b h1 h2=>?_) ?_
    ·rcases (by omega:b=70∨b=71∨b=72∨b=73) with rfl|rfl|rfl|rfl<;>rfl
    ·simp[Qw,Qe,nmAll,look,ren,rens]
   have hcon:=Qyv c.gl (l:=S.keys) (kb:=69) (f:=97) (caps:=[.ptr 70 0,.ptr 73 0,.ptr 72 0]) (b:=bK S ⟨mp,ms,mi,ma,mt⟩ p2) H4 (by simp[NS.keys];omega) Zde (fun n=>rfl) (by simp[nmAll,Qe]) (fun x hx=>by
    obtain ⟨q,hq,rfl⟩:=List.mem_map.1 hx
    rw[Xda hS.dis hq]
    exact Xv3 c.gl (p:=⟨p1,p2,p3,p4,p5,p6,p7,p8,p9,p10,p11,pb⟩) hS.toNJ H4 (fun n=>rfl) (fun n=>rfl) (fun n=>rfl) (fun n=>rfl) (fun n=>rfl) hq)
   rw[Xy7 hS.dis,show S.keys.length=S.fl.length by simp[NS.keys]]at hcon
   refine Ws (v:=false) (ex:=[]) hcon H4 H4 (by simp[Qe]) Zde Zsi rfl ?_ ?_
   ·exact Qq @Xg
   generalize (S.fl.any fun q=>decide (q.2.map=⟨mp,ms,mi,ma,mt⟩) && q.2.rem == p2)=any at *
   refine Qd ?_
   (refine Qa (fun h7=>?_) (fun h7=>?_)<;>try exact h7.elim)
   ·subst h7
    rw[if_pos ⟨rfl,rfl⟩]at hx
    subst hx
    obtain rfl:=ha (by first|exact h1|simp[rpE])
    unfold rpE Rp.enc
    refine Qg @hHi ?_
    exact ⟨(),To.drop (ex:=[(71,_),(73,_),(72,_),(71,_),(70,_)]) (Qi hT) Zsi Zsi (by simp[Qw,Qe,nmAll,look,ren,rens])⟩
   rw[if_neg (by simpa using h7)]at hx
   refine Qg (An @h67 (An @hcl @c31)) ?_
   (refine Qa (fun h8=>?_) (fun h8=>?_)<;>try exact h8.elim)
   ·rw[if_pos Zom]at hx
    subst hx
    obtain rfl:=ha (by first|exact h1|simp[rpE])
    unfold rpE Rp.enc
    refine Qg @hHi ?_
    exact ⟨(),To.drop (ex:=[(71,_),(73,_),(72,_),(71,_),(70,_)]) (Qi hT) Zsi Zsi (by simp[Qw,Qe,nmAll,look,ren,rens])⟩
   ·rw[if_neg Zom]at hx
    subst hx
    have hgo:=(hb rfl).2 Zom
    generalize NS.begin S _=S1 at *
    unfold Fl.enc Kw at hgo
    dsimp only at hgo
    refine Qg (An @h67 (An @hcl @c31)) ?_
    refine Ut (v:=false) (pp:=[67]) (ex:=[(73,_),(72,_),(71,_),(70,_)]) (s3:=⟨[(1,.str f),(4,.ptr 71 0),(8,.ptr 73 0)],[(73,.cells [.int .i64 mp,.int .i64 ms,.int .i64 mi,.int .i64 ma,.int .i64 mt]),(72,.cells [.int .i64 p1,.int .i64 p2,.int .i64 p3,.int .i64 p4,.int .i64 p5,.int .i64 p6,.int .i64 p7,.int .i64 p8,.int .i64 p9,.int .i64 p10,.int .i64 p11,.str pb]),(71,.cells [.int .i64 0,.str [],.bool false,.str []]),(70,.cells [.ptr 67 0])]++Qm S1 T1,74⟩) hgh hgo (Qi hT) (Qi hT1) (by simp[Qe,nmAll]) Zde Zsi Zsi rfl ?_ ?_ ?_
    ·exact Qq @Xg
    ·unfold Ja
     refine To.natM hT1 (H4' hT1) Zde Zde Zsi Zsi Zsi (fun b h1 h2=>?_) ?_
     ·rcases (by omega:b=70∨b=71∨b=72∨b=73) with rfl|rfl|rfl|rfl<;>rfl
     ·simp[Qw,Qe,nmAll,look,ren,rens,Qfo,lw]
    refine Qd ?_
    refine Yt hTr ?_
    refine Qd ?_
    unfold Rp.enc
    exact ⟨(),To.drop (ex:=[(71,_),(73,_),(72,_),(71,_),(70,_)]) (Qi hT1) Zsi Zsi (by simp[Qw,Qe,nmAll,look,ren,rens])⟩
  | true =>
   rw[hlo]at c37 hx
   rw[if_neg Zsi]at hx
   refine Qg (An @h67 (An @hcl @c37)) ?_
   ((first|apply Yd|apply Xu)<;>(have zf1:=@h67;have zf2:=@hcl;have zf3:=@c37;refine XG ?_;clear zf1 zf2 zf3;first|exact rfl|exact True.intro|((try (repeat' with_reducible refine And.intro ?_ ?_));(try any_goals (first|refine zm ?_|exact CL|fail)))))
   refine Qd ?_
   (refine Qa (fun h7=>?_) (fun h7=>?_)<;>try exact h7.elim)
   refine Qg (An @h67 (An @hcl @c31)) ?_
   (refine Qa (fun h8=>?_) (fun h8=>?_)<;>try exact h8.elim)
   ·rw[if_pos Zom]at hx
    subst hx
    obtain rfl:=ha (by first|exact h1|simp[rpE])
    unfold rpE Rp.enc
    refine Qg @hHi ?_
    exact ⟨(),To.drop (ex:=[(71,_),(73,_),(73,_),(72,_),(72,_),(71,_),(70,_)]) (Qi hT) Zsi Zsi (by simp[Qw,Qe,nmAll,look,ren,rens])⟩
   ·rw[if_neg Zom]at hx
    subst hx
    have hgo:=(hb rfl).2 Zom
    generalize NS.begin S _=S1 at *
    unfold Fl.enc Kw at hgo
    dsimp only at hgo
    refine Qg (An @h67 (An @hcl @c31)) ?_
    refine Ut (v:=false) (pp:=[67]) (ex:=[(73,_),(73,_),(72,_),(72,_),(71,_),(70,_)]) (s3:=⟨[(1,.str f),(4,.ptr 71 0),(8,.ptr 73 0)],[(73,.cells [.int .i64 mp,.int .i64 ms,.int .i64 mi,.int .i64 ma,.int .i64 mt]),(72,.cells [.int .i64 p1,.int .i64 p2,.int .i64 p3,.int .i64 p4,.int .i64 p5,.int .i64 p6,.int .i64 p7,.int .i64 p8,.int .i64 p9,.int .i64 p10,.int .i64 p11,.str pb]),(71,.cells [.int .i64 0,.str [],.bool false,.str []]),(70,.cells [.ptr 67 0])]++Qm S1 T1,74⟩) hgh hgo (Qi hT) (Qi hT1) (by simp[Qe,nmAll]) Zde Zsi Zsi rfl ?_ ?_ ?_
    ·exact Qq @Xg
    ·unfold Ja
     refine To.natM hT1 (H4' hT1) Zde Zde Zsi Zsi Zsi (fun b h1 h2=>?_) ?_
     ·rcases (by omega:b=70∨b=71∨b=72∨b=73) with rfl|rfl|rfl|rfl<;>rfl
     ·simp[Qw,Qe,nmAll,look,ren,rens,Qfo,lw]
    refine Qd ?_
    refine Yt hTr ?_
    refine Qd ?_
    unfold Rp.enc
    exact ⟨(),To.drop (ex:=[(71,_),(73,_),(72,_),(71,_),(70,_)]) (Qi hT1) Zsi Zsi (by simp[Qw,Qe,nmAll,look,ren,rens])⟩
def Xzr (gl:Nat→AV) (S:NS) (T:WT) (f:List UInt8) (x:Rp × NS):Prop:=∃ T' D',WI T' x.2.now D'∧D'.Perm x.2.tms∧(x.1.code≠0→T'=T)∧(x.1.code=0→∀ m,S.tb.maps.find? (Zw (rdK f).proto ((rdK f).dst - 3405803777) (rdK f).dport)=some m →
   (∀ q ∈ S.fl,S.findF m (rdK f).frm (rdK f).sport=q.1→GD Tryz.prog gl 93 [.ptr 67 0,.int .i64 q.1,.agg (rdK f).enc,.bool true] (Qm S T) 70 [67] (.tup []) (Qm (S.goes q.1 (rdK f) true) T')) ∧
   (S.findF m (rdK f).frm (rdK f).sport=0→GD Tryz.prog gl 91 [.ptr 67 0,.agg (Fl.enc ⟨m,(rdK f).frm,(rdK f).sport,2,0,0⟩)] (Qm S T) 70 [67] (.tup []) (Qm (S.begin ⟨m,(rdK f).frm,(rdK f).sport,2,0,0⟩) T')))
theorem Xli (gl:Nat→AV) (S:NS) (T:WT) (D:List Tm) (hS:NI S) (hnx:S.nxt≤1000000) (hW:WI T S.now D) (hD:D.Perm S.tms) (f:List UInt8) (hf:f.length≤140737488351232):∃ T' D',WI T' (S.inn f).2.now D'∧D'.Perm (S.inn f).2.tms ∧
  GD Tryz.prog gl 59 [.ptr 67 0,.str f] (Qm S T) 70 [67] (.agg (S.inn f).1.enc) (Qm (S.inn f).2 T'):=by
 have key:∀ x,S.inn f=x→Xzr gl S T f x:=by
  intro x hx
  have stay:∀ r:Rp,r.code≠0→x=(r,S)→Xzr gl S T f x:=fun r hr e=>by
   subst e
   exact ⟨T,D,hW,hD,fun _=>rfl,fun h=>(hr h).elim⟩
  rw[Qrb]at hx
  split at hx
  ·rename_i h;exact stay _ h hx.symm
  split at hx
  ·exact stay (rpE 7) Zde hx.symm
  split at hx
  ·exact stay (rpE 4) Zde hx.symm
  split at hx
  ·exact stay (rpE 12) Zde hx.symm
  split at hx
  ·exact stay (rpE 7) Zde hx.symm
  rename_i m hm
  split at hx
  ·rename_i hk
   obtain ⟨q,hq,e,_⟩:=Qek hk
   obtain ⟨T1,D1,hW1,hP1,hg⟩:=Quu gl S T D hS hW hD q hq (rdK f) true
   subst hx
   rw[e]
   refine ⟨T1,D1,hW1,hP1,fun h=>(h rfl).elim,fun _ m' hm'=>?_⟩
   obtain rfl:=Option.some.inj (hm.symm.trans hm')
   exact ⟨fun q' hq' e'=>by rw[show q'.1=q.1 from e'.symm.trans e];exact hg,fun e'=>(hk e').elim⟩
  rename_i hk
  split at hx
  ·exact stay (rpE 11) Zde hx.symm
  split at hx
  ·exact stay (rpE 11) Zde hx.symm
  rename_i h8
  obtain ⟨T1,D1,hW1,hP1,hg⟩:=Qpf gl S T D hS.toNJ.nb hnx hW hD Zom m (rdK f).frm (rdK f).sport 2
  subst hx
  refine ⟨T1,D1,hW1,hP1,fun h=>(h rfl).elim,fun _ m' hm'=>?_⟩
  obtain rfl:=Option.some.inj (hm.symm.trans hm')
  exact ⟨fun q' hq' e'=>absurd (by rw[e'];have:=(hS.ids q' hq').1;omega) hk,fun _=>hg⟩
 obtain ⟨T',D',h1,h2,h3,h4⟩:=key _ rfl
 exact ⟨T',D',h1,h2,Yah gl S T T' hS hW.wf h1.wf f hf _ rfl h3 h4⟩
theorem Xpi (gl:Nat→AV) (p:Int) (r:List AV):PS Tryz.prog gl 92 [.agg (.int .i64 p::r)] (.int .i64 (if p=6 then 1 else 2)):=by
 refine Xo7.ps (of_decide_eq_true rfl) (by simp[Qe]) fun c hN hg=>?_
 conv in tcO _ _=>cbv
 refine Qd ?_
 (repeat' (first|((refine Qa (fun hh=>?_) (fun hh=>?_)<;>try exact hh.elim)<;>exact Qs) ))
 all_goals simp_all
theorem Xhy (gl:Nat→AV) (p:Pk):PS Tryz.prog gl 87 [.agg p.enc] (.bool (Qfc p.proto p.flags)):=by
 refine Xgh.ps (of_decide_eq_true rfl) (by simp[Qe]) fun c hN hg=>?_
 conv in tcO _ _=>cbv
 obtain ⟨p1,p2,p3,p4,p5,p6,p7,p8,p9,p10,p11,pb⟩:=p
 unfold Pk.enc Qfc
 dsimp only
 refine Qd ?_
 (refine Qa (fun h1=>?_) (fun h1=>?_)<;>try exact h1.elim)
 ·subst h1
  exact Qs
 refine Qd ?_
 (refine Qa (fun h2=>?_) (fun h2=>?_)<;>try exact h2.elim)
 ·subst h2
  exact Qs
 refine Qd ?_
 by_cases h3:p1=17
 ·subst h3;rfl
 ·rw[if_neg h3,if_neg h1]
  simp[h2,h3]
section
variable {P:Program} {c:Cx}
theorem Qg1 {o:TOp} {r0:List TOp} {K:St→Prop} {s s2:St} (e:s.fs=s2.fs) (h:Yc P c o r0 K s2):Yc P c o r0 K s:=by
 unfold Yc Xs0 Qr6 at h ⊢
 rw[e];exact h
theorem Xhq {anc:List Nat} {o:TOp} {r0:List TOp} {fs:List Foot} {K:St→Prop} {s s2:St} (e:s.fs=s2.fs) (h:Za P c anc o r0 fs K s2):Za P c anc o r0 fs K s:=by
 unfold Za Xe5 at h ⊢
 rw[e];exact h
end
theorem Qdn {A B:List (Nat × Bk)} {S S':NS} {T:WT} {n:Nat} {t:List (Nat × AV)} (hfl:S'.fl=S.fl) (hA:∀ q ∈ A,q.1≠67) (hB:∀ q ∈ B,q.1≠67):(⟨t,A++((67,.cells S'.cells)::(B++Qm S T)),n⟩:St).fs=(⟨t,(A++B)++Qm S' T,n⟩:St).fs:=by
 refine Qap (fun _=>rfl) fun b=>?_
 show Qb _ n b=Qb _ n b
 by_cases h:b=67
 ·subst h
  rw[Xn hA,Qc,if_pos rfl,List.append_assoc,Xn hA,Xn hB]
  rfl
 ·have e1:Qb ((67,Bk.cells S'.cells)::(B++Qm S T)) n b=Qb (B++Qm S' T) n b:=by
   rw[Qc,if_neg fun e=>h e.symm]
   refine Qeh ?_
   unfold Qm NS.keys
   rw[hfl]
   show Qb ((67,_)::_) n b=Qb ((67,_)::_) n b
   rw[Qc,if_neg fun e=>h e.symm]
   conv=>rhs;rw[Qc,if_neg fun e=>h e.symm]
  rw[List.append_assoc]
  exact Qeh e1
section
variable {P:Program} {c:Cx} {h h1 ex:List (Nat × Bk)} {m n:Nat} {v:Bool} {d:Option Nat} {kk:PK} {f:FuncId} {xs:List TV} {args:List AV} {r:AV} {t:List (Nat × AV)} {r0:List TOp} {K:St→Prop}
theorem Qp9 {pp:List Nat} {s3:St} (hgh:∀ q ∈ c.gh,q.1 ∈ pp) (hq:GD P c.gl f args h m (List.range m) r h1) (H:HL h m) (H1:HL h1 m) (hr:Qe m r) (hn:m≤n) (hex:∀ q ∈ ex,m≤q.1∧q.1 < n) (hk:kk=(bif v then .callv else .call f))
  (hc:Qt none (evs c.gl (⟨t,ex++h,n⟩:St).fs xs)∧Uz v f ((evs c.gl (⟨t,ex++h,n⟩:St).fs xs).map Qj)=some (f,args)∧nmAll m args) (hto:To pp (St.putO ⟨t,ex++h1,n + m⟩ d r) s3) (hx:XP P c r0 K s3):Yc P c (.pd d kk xs none) r0 K ⟨t,ex++h,n⟩ :=
 Ut hgh hq H H1 hr hn (fun b hb=>List.mem_range.1 hb) hex hk hc (by rw[Qjm H1 hr];exact hto) hx
end
theorem NS.s_tb {S:NS} (h:S.tb.wf) {tb:Tb} (hw:tb.wf):Ym S.cells 0 tb.enc=({ S with tb:=tb }:NS).cells:=by
 unfold Ym NS.cells
 rw[List.take_zero,List.nil_append,Nat.zero_add,Tb.enc_len hw,← Tb.enc_len h,List.drop_left]
 rfl
theorem Xiy (f:List UInt8) (proto ttl:Int) (a w:Nat) (addr port:Int):(Kk f proto ttl a w addr port).length=f.length:=by
 have htl:∀ b pr m n,(tl b pr m n).length=b.length:=fun b pr m n=>by unfold tl;split<;>simp[Jf]
 unfold Kk
 dsimp only
 split<;>simp only[Qlm,Qo,htl]
theorem Xit (f:List UInt8) (side addr port:Int):(Kq f side addr port).length≤f.length:=by
 unfold Kq
 split
 ·simp
 ·split
  ·simp
  ·rw[Xiy];exact Nat.le_refl _
theorem Qea (N:Nat):sgx id [67] N 67=67:=rfl
section
variable {P:Program} {c:Cx} {h h1 ex:List (Nat × Bk)} {m n:Nat} {v:Bool} {d:Option Nat} {kk:PK} {f:FuncId} {xs:List TV} {args:List AV} {r:AV} {t:List (Nat × AV)} {r0:List TOp} {K:St→Prop}
theorem Xz7 {ι:Type} (J:ι→Prop) (st:ι→St) {A:TC} {Q:EX→St→Prop} {s:St} (h2:∀ i,J i→Q .normal (st i)) (h1:∀ Q':EX→St→Prop,(∀ i,J i→Q' .normal (st i))→(∀ s,Q .ret s→Q' .ret s)→xw P c A Q' s):xw P c A Q s:=h1 Q h2 fun _ h=>h
theorem Xyy {p:List Nat} (hq:GD P c.gl f args h m p r h1) (H:HL h m) (H1:HL h1 m) (hr:Qe m r) (hn:m≤n) (hp:∀ b ∈ p,b < m) (hex:∀ q ∈ ex,m≤q.1∧q.1 < n) (hk:kk=(bif v then .callv else .call f))
  (hc:Qt none (evs c.gl (⟨t,ex++h,n⟩:St).fs xs)∧Uz v f ((evs c.gl (⟨t,ex++h,n⟩:St).fs xs).map Qj)=some (f,args)∧nmAll m args) (hx:XP P c r0 K (Ja t ex h1 id p m n d r)):Yc P c (.pd d kk xs none) r0 K ⟨t,ex++h,n⟩:=by
 have:=Xb3 (d:=d) (r0:=r0) (K:=K) hq (gx0 (v:=v) H hn hp hex hc) hk H1 hr hx
 rw[Jn]at this;exact this
end
theorem Xa1 (S:NS) (f:List UInt8) (m:Mp) (es:List Ev):S.sent f m es =
  if 0≤(rdK f).dst - 3405803777∧(rdK f).dst - 3405803777 < 3 then
   (⟨((S.log es).inn (Kq f 0 (3405803777 + m.a) m.port)).1.code,((S.log es).inn (Kq f 0 (3405803777 + m.a) m.port)).1.frame,((S.log es).inn (Kq f 0 (3405803777 + m.a) m.port)).1.inner,Qff S.told es⟩,((S.log es).inn (Kq f 0 (3405803777 + m.a) m.port)).2)
  else (⟨0,Kq f 0 (3405803777 + m.a) m.port,false,Qff S.told es⟩,S.log es):=rfl
noncomputable def NS.out2 (S:NS) (f:List UInt8) (draw:Int):(Rp × NS) × Option (Mp × List Ev × NS) :=
 if rdE f≠0 then ((rpE (rdE f),S),none) else
 if (rdK f).frm - 167772161 < 0∨8≤(rdK f).frm - 167772161 then ((rpE 7,S),none) else
 if (rdK f).proto=1∧(rdK f).flags≠8 then ((rpE 4,S),none) else
 if (rdK f).ttl=1 then ((rpE 12,S),none) else
 if S.kOut (rdK f)≠0 then (match S.fwd (rdK f) with
  | some m=>((S.goes (S.kOut (rdK f)) (rdK f) false).sent f m [],some (m,[],S.goes (S.kOut (rdK f)) (rdK f) false))
  | none=>((rpE 0,S),none))
 else if Qfc (rdK f).proto (rdK f).flags=false then ((rpE 11,S),none) else
 if 48≤S.fl.length then (S.refuse f 6,none) else
 if (S.tb.opn (rdK f).proto ((rdK f).frm - 167772161) (rdK f).sport draw).2.2.2≠0 then (S.refuse f (S.tb.opn (rdK f).proto ((rdK f).frm - 167772161) (rdK f).sport draw).2.2.2,none) else
 (S.opened f (S.tb.opn (rdK f).proto ((rdK f).frm - 167772161) (rdK f).sport draw),some ((S.tb.opn (rdK f).proto ((rdK f).frm - 167772161) (rdK f).sport draw).2.1,
  (if (S.tb.opn (rdK f).proto ((rdK f).frm - 167772161) (rdK f).sport draw).2.2.1 then [({ S with tb:=(S.tb.opn (rdK f).proto ((rdK f).frm - 167772161) (rdK f).sport draw).1 }:NS).ev (S.tb.opn (rdK f).proto ((rdK f).frm - 167772161) (rdK f).sport draw).2.1 false] else []),
  ({ S with tb:=(S.tb.opn (rdK f).proto ((rdK f).frm - 167772161) (rdK f).sport draw).1 }:NS).begin ⟨(S.tb.opn (rdK f).proto ((rdK f).frm - 167772161) (rdK f).sport draw).2.1,(rdK f).dst,(rdK f).dport,Qc4 (rdK f).proto,0,0⟩))
theorem Xzw (S:NS) (f:List UInt8) (d:Int):(S.out2 f d).1=S.out f d:=by
 rw[Qne]
 unfold NS.out2
 (repeat' split)<;>first|rfl|(simp_all;done)
structure Sent (gl:Nat→AV) (S:NS) (T T1 T':WT) (f:List UInt8) (p:Pk) (x:Tb) (m:Mp) (es:List Ev) (S1:NS):Prop where
 nj:NJ S1
 told:S1.told≤100000
 len:es.length≤64
 good:∀ e ∈ es,Wv e.t e.s e.a e.b=true∧e.t=(es.headD ⟨0,0,0,0,false⟩).t
 a:0≤m.a∧m.a < 3
 goes:S.kOut p≠0→GD Tryz.prog gl 93 [.ptr 67 0,.int .i64 (S.kOut p),.agg p.enc,.bool false] (Qm S T) 70 [67] (.tup []) (Qm S1 T1)
 beg:S.kOut p=0→MpB m∧GD Tryz.prog gl 91 [.ptr 67 0,.agg (Fl.enc ⟨m,p.dst,p.dport,Qc4 p.proto,0,0⟩)] (Qm { S with tb:=x } T) 70 [67] (.tup []) (Qm S1 T1)
 inn:0≤p.dst - 3405803777∧p.dst - 3405803777 < 3→GD Tryz.prog gl 59 [.ptr 67 0,.str (Kq f 0 (3405803777 + m.a) m.port)] (Qm (S1.log es) T1) 70 [67] (.agg ((S1.log es).inn (Kq f 0 (3405803777 + m.a) m.port)).1.enc) (Qm ((S1.log es).inn (Kq f 0 (3405803777 + m.a) m.port)).2 T')
 out:¬ (0≤p.dst - 3405803777∧p.dst - 3405803777 < 3)→T'=T1
structure OW where
 t:List (Nat × AV)
 ex:List (Nat × Bk)
 N:Nat
 n:Nat
 m:Mp
 es:List Ev
 S1:NS
def OW.h (T1:WT) (i:OW):List (Nat × Bk):=i.ex++Xd (sgx id [67] i.N) (Qm i.S1 T1)
structure OJ (T1:WT) (f:List UInt8) (pc ac:List AV) (x:Rp × NS) (y:Option (Mp × List Ev × NS)) (i:OW):Prop where
 y:y=some (i.m,i.es,i.S1)
 x:x=i.S1.sent f i.m i.es
 k0:look i.t 0=.ptr 67 0
 k3:look i.t 3=.ptr 70 0
 k4:look i.t 4=.ptr 71 0
 k5:look i.t 5=.ptr 72 0
 k8:look i.t 8=.ptr 73 0
 k11:Wk (look i.t 11) (.isl i.es.length (Zc i.es))
 ex:∀ q ∈ i.ex,70≤q.1∧q.1 < i.N
 N:74≤i.N
 b70:∀ n,Qb (i.h T1) n 70=.cells ac
 b71:∀ n,Qb (i.h T1) n 71=.cells [.int .i64 0,.str [],.bool false,.str []]
 b72:∀ n,Qb (i.h T1) n 72=.cells pc
 b73:∀ n,Qb (i.h T1) n 73=.cells [.int .i64 i.m.proto,.int .i64 i.m.s,.int .i64 i.m.inn,.int .i64 i.m.a,.int .i64 i.m.port]
set_option maxHeartbeats 32000000 in
theorem Xyd (gl:Nat→AV) (h0:gl 0=.xp (Qp Xo) 0) (S:NS) (T T1 T':WT) (D:List Tm) (hS:NI S) (hW:WI T S.now D) (hT1:T1.wf) (hT':T'.wf) (ak an ad:Int) (f:List UInt8) (hf:f.length≤140737488351232) (x:Rp × NS) (y:Option (Mp × List Ev × NS)) (hx:S.out2 f ad=(x,y)) (hN:y=none→T'=T)
  (hY:∀ m es S1,y=some (m,es,S1)→Sent gl S T T1 T' f (rdK f) (S.tb.opn (rdK f).proto ((rdK f).frm - 167772161) (rdK f).sport ad).1 m es S1) :
  GD Tryz.prog gl 58 [.ptr 67 0,.agg [.int .i64 ak,.int .i64 an,.int .i64 ad,.str f]] (Qm S T) 70 [67] (.agg x.1.enc) (Qm x.2 T'):=by
 have hT:=hW.wf
 refine Xxh.gq (of_decide_eq_true rfl) (Ze hT) Zsi fun c hgh hg=>?_
 subst hg
 conv in tcO _ _=>cbv
 have hHi:=fun n b hb=>Yb (S:=S) hT n b hb
 have h67:=Jw S T
 have hcl:=NS.cells_len hS.wf
 have htk:=NS.cells_tb hS.wf
 have c31:=NS.c31 hS.wf
 have hl48:=hS.len
 have hP:=Qdl c.gl f hf
 obtain ⟨Z1,hZ1,hz1⟩:∃ Z:Int,(3405803776:Int)=Z∧0≤Z∧Z≤4294967296:=⟨_,rfl,by decide,by decide⟩
 obtain ⟨Z2,hZ2,hz2⟩:∃ Z:Int,(167772160:Int)=Z∧0≤Z∧Z≤4294967296:=⟨_,rfl,by decide,by decide⟩
 obtain ⟨Z3,hZ3,hz3⟩:∃ Z:Int,(3405803777:Int)=Z∧0≤Z∧Z≤4294967296:=⟨_,rfl,by decide,by decide⟩
 rw[hZ1,hZ2,hZ3]
 obtain ⟨p,e,hpt,he0,he1⟩:=Qng f
 rw[hpt]at hP
 unfold NS.out2 at hx
 obtain ⟨p1,p2,p3,p4,p5,p6,p7,p8,p9,p10,p11,pb⟩:=p
 unfold Pk.enc at hP
 dsimp only at hP
 refine Qg @hHi ?_
 ((first|apply Yq|apply Ya|apply Xs|apply Xm)<;>(first|exact hP|(refine XG ?_;first|exact rfl|exact True.intro|((try (repeat' with_reducible refine And.intro ?_ ?_));(try any_goals (first|refine zm ?_|exact CL|fail))))))
 exact Qq @hHi
 (refine Qa (fun h1=>?_) (fun h1=>?_)<;>try exact h1.elim)
 ·have he:=he1 h1
  subst he
  rw[if_pos h1]at hx
  obtain ⟨rfl,rfl⟩:=Prod.mk.inj hx
  obtain rfl:=hN rfl
  unfold rpE Rp.enc at *
  refine Qg @hHi ?_
  exact ⟨(),To.drop (ex:=[(71,_),(72,_),(72,_),(71,_),(70,_)]) (Qi hT) Zsi Zsi (by simp[Qw,Qe,nmAll,look,ren,rens])⟩
 obtain ⟨he,hp,hpr,hrg⟩:=he0 h1
 rw[if_neg (by rw[he];simp),hp]at hx
 rw[hp]at hY
 unfold Kc at hrg
 dsimp only at hx hY hpr hrg
 refine Qd ?_
 (refine Qa (fun h2=>?_) (fun h2=>?_)<;>try exact h2.elim)
 ·rw[if_pos Zom]at hx
  obtain ⟨rfl,rfl⟩:=Prod.mk.inj hx
  obtain rfl:=hN rfl
  unfold rpE Rp.enc at *
  refine Qg @hHi ?_
  exact ⟨(),To.drop (ex:=[(71,_),(72,_),(72,_),(71,_),(70,_)]) (Qi hT) Zsi Zsi (by simp[Qw,Qe,nmAll,look,ren,rens])⟩
 rw[if_neg Zom]at hx
 refine Qd ?_
 (refine Qa (fun h3=>?_) (fun h3=>?_)<;>try exact h3.elim)
 ·rw[if_pos Zom]at hx
  obtain ⟨rfl,rfl⟩:=Prod.mk.inj hx
  obtain rfl:=hN rfl
  unfold rpE Rp.enc at *
  refine Qg @hHi ?_
  exact ⟨(),To.drop (ex:=[(71,_),(72,_),(72,_),(71,_),(70,_)]) (Qi hT) Zsi Zsi (by simp[Qw,Qe,nmAll,look,ren,rens])⟩
 rw[if_neg Zom]at hx
 refine Qd ?_
 (refine Qa (fun h4=>?_) (fun h4=>?_)<;>try exact h4.elim)
 ·rw[if_pos Zom]at hx
  obtain ⟨rfl,rfl⟩:=Prod.mk.inj hx
  obtain rfl:=hN rfl
  unfold rpE Rp.enc at *
  refine Qg @hHi ?_
  exact ⟨(),To.drop (ex:=[(71,_),(72,_),(72,_),(71,_),(70,_)]) (Qi hT) Zsi Zsi (by simp[Qw,Qe,nmAll,look,ren,rens])⟩
 rw[if_neg Zom]at hx
 have hfd:=Qsb c.gl S.tb hS.wf (by have:=Qbw (Wp.2 hS.gt);omega) p1 (p2 - Z2 - 1) p3
 rw[show p2 - 167772161=p2 - Z2 - 1 by omega]at hx hY
 refine Qg (An @h67 (An @hcl @htk)) ?_
 obtain ⟨m,th,hmt,hth,htn⟩:∃ m th,mpT (S.tb.maps.find? (Zj p1 (p2 - Z2 - 1) p3))=.tup [.agg (Mp.enc m),.bool th]∧(th=true→S.fwd ⟨p1,p2,p3,p4,p5,p6,p7,p8,p9,p10,p11,pb⟩=some m∧S.kOut ⟨p1,p2,p3,p4,p5,p6,p7,p8,p9,p10,p11,pb⟩=S.findF m p4 p5)∧(th=false→S.kOut ⟨p1,p2,p3,p4,p5,p6,p7,p8,p9,p10,p11,pb⟩=0):=by
  have e1:S.fwd ⟨p1,p2,p3,p4,p5,p6,p7,p8,p9,p10,p11,pb⟩=S.tb.maps.find? (Zj p1 (p2 - Z2 - 1) p3):=by
   rw[show p2 - Z2 - 1=p2 - 167772161 by omega];rfl
  unfold NS.kOut
  rw[e1]
  cases S.tb.maps.find? (Zj p1 (p2 - Z2 - 1) p3) with
  | none=>exact ⟨mp0,false,rfl,by simp,fun _=>rfl⟩
  | some m=>exact ⟨m,true,rfl,fun _=>⟨rfl,rfl⟩,by simp⟩
 rw[hmt]at hfd
 clear hmt
 have hfi:=Qtb c.gl S T hS.toNJ hT m p4 p5
 have hkm:=fun h=>@Qek S m p4 p5 h
 generalize hkO:S.kOut ⟨p1,p2,p3,p4,p5,p6,p7,p8,p9,p10,p11,pb⟩=k at *
 obtain ⟨m1,m2,m3,m4,m5⟩:=m
 unfold Mp.enc at hfd hfi
 dsimp only at hfd hfi
 refine Xa hfd @hHi ?_
 refine Xz7 (fun y:List (Nat × AV) × Nat=>look y.1 0=.ptr 67 0∧look y.1 3=.ptr 70 0∧look y.1 4=.ptr 71 0∧look y.1 5=.ptr 72 0∧look y.1 7=.int .i64 (p2 - Z2 - 1)∧look y.1 8=.ptr 73 0∧look y.1 10=.int .i64 k∧74≤y.2)
  (fun y=>⟨y.1,[(73,.cells [.int .i64 m1,.int .i64 m2,.int .i64 m3,.int .i64 m4,.int .i64 m5]),(73,.cells [.int .i64 0,.int .i64 0,.int .i64 0,.int .i64 0,.int .i64 0]),(72,.cells [.int .i64 p1,.int .i64 p2,.int .i64 p3,.int .i64 p4,.int .i64 p5,.int .i64 p6,.int .i64 p7,.int .i64 p8,.int .i64 p9,.int .i64 p10,.int .i64 p11,.str pb]),(72,.cells [.int .i64 0,.int .i64 0,.int .i64 0,.int .i64 0,.int .i64 0,.int .i64 0,.int .i64 0,.int .i64 0,.int .i64 0,.int .i64 0,.int .i64 0,.str []]),(71,.cells [.int .i64 0,.str [],.bool false,.str []]),(70,.cells [.int .i64 ak,.int .i64 an,.int .i64 ad,.str f])]++Qm S T,y.2⟩) (fun y hy=>?_) fun Q' hQ hR=>?_
 rotate_left
 ·(refine Qa (fun h5=>?_) (fun h5=>?_)<;>try exact h5.elim)
  ·obtain ⟨hf1,hf2⟩:=hth h5
   subst hf2
   refine Qg @hHi ?_
   refine Ws (v:=false) (ex:=[(73,_),(73,_),(72,_),(72,_),(71,_),(70,_)]) hfi (Qi hT) (Qi hT) (by simp[Qe]) Zde Zsi rfl ?_ ?_
   ·exact Qq (An @Xg @hHi)
   refine Qd ?_
   exact hQ (_,_) ⟨rfl,rfl,rfl,rfl,rfl,rfl,rfl,Nat.le_of_ble_eq_true rfl⟩
  ·obtain rfl:=htn h5
   refine Qd ?_
   exact hQ (_,_) ⟨rfl,rfl,rfl,rfl,rfl,rfl,rfl,Nat.le_of_ble_eq_true rfl⟩
 obtain ⟨t,n⟩:=y
 obtain ⟨k0,k3,k4,k5,k7,k8,k10,hn⟩:=hy
 dsimp only at k0 k3 k4 k5 k7 k8 k10 hn ⊢
 refine Qg @k10 ?_
 refine Xz7 (OJ T1 f [.int .i64 p1,.int .i64 p2,.int .i64 p3,.int .i64 p4,.int .i64 p5,.int .i64 p6,.int .i64 p7,.int .i64 p8,.int .i64 p9,.int .i64 p10,.int .i64 p11,.str pb] [.int .i64 ak,.int .i64 an,.int .i64 ad,.str f] x y) (fun i=>⟨i.t,i.h T1,i.n⟩) (fun i hi=>?_) fun Q' hQ hR=>?_
 rotate_left
 ·(refine Qa (fun h6=>?_) (fun h6=>?_)<;>try exact h6.elim)
  ·subst h6
   rw[if_neg Zsi]at hx
   have H4:∀ {m:List AV},nmB 74 (.cells m)→∀ {S:NS} {T:WT},T.wf→HL ([(73,.cells m),(72,.cells [.int .i64 p1,.int .i64 p2,.int .i64 p3,.int .i64 p4,.int .i64 p5,.int .i64 p6,.int .i64 p7,.int .i64 p8,.int .i64 p9,.int .i64 p10,.int .i64 p11,.str pb]),(71,.cells [.int .i64 0,.str [],.bool false,.str []]),(70,.cells [.int .i64 ak,.int .i64 an,.int .i64 ad,.str f])]++Qm S T) 74:=fun hm _ _ hT=>(((Qi hT).more (by simp[nmB,nmAll,Qe])).more (by simp[nmB,nmAll,Qe])).more (by simp[nmB,nmAll,Qe]) |>.more hm
   refine Qg (An @hHi @k5) ?_
   refine Qez (p:=[67]) (s':=⟨[(0,.ptr 67 0),(3,.ptr 70 0),(4,.ptr 71 0),(5,.ptr 72 0),(7,.int .i64 (p2 - Z2 - 1)),(8,.ptr 73 0),(10,.int .i64 0),(11,.nils),(78,.agg [.int .i64 p1,.int .i64 p2,.int .i64 p3,.int .i64 p4,.int .i64 p5,.int .i64 p6,.int .i64 p7,.int .i64 p8,.int .i64 p9,.int .i64 p10,.int .i64 p11,.str pb])],[(73,.cells [.int .i64 m1,.int .i64 m2,.int .i64 m3,.int .i64 m4,.int .i64 m5]),(72,.cells [.int .i64 p1,.int .i64 p2,.int .i64 p3,.int .i64 p4,.int .i64 p5,.int .i64 p6,.int .i64 p7,.int .i64 p8,.int .i64 p9,.int .i64 p10,.int .i64 p11,.str pb]),(71,.cells [.int .i64 0,.str [],.bool false,.str []]),(70,.cells [.int .i64 ak,.int .i64 an,.int .i64 ad,.str f])]++Qm S T,74⟩) hgh ?_ ?_
   ·refine To.mid0 (ex:=[(73,_),(73,_),(72,_),(72,_),(71,_),(70,_)]) (Qi hT) (H4 (by simp[nmB,nmAll,Qe]) hT) Zde Zsi Zsi Zsi (fun b h1 h2=>?_) ?_
    ·rcases (by omega:b=70∨b=71∨b=72∨b=73) with rfl|rfl|rfl|rfl<;>rfl
    ·simp[Qw,Qe,nmAll,look,ren,rens,k0,k3,k4,k5,k7,k8,k10]
   have hB:=Xhy c.gl ⟨p1,p2,p3,p4,p5,p6,p7,p8,p9,p10,p11,pb⟩
   unfold Pk.enc at hB
   dsimp only at hB
   refine Yt hB ?_
   (refine Qa (fun h7=>?_) (fun h7=>?_)<;>try exact h7.elim)
   ·rw[if_pos h7]at hx
    obtain ⟨rfl,rfl⟩:=Prod.mk.inj hx
    obtain rfl:=hN rfl
    unfold rpE Rp.enc at *
    refine Qg @hHi ?_
    refine hR _ ?_
    refine Qd ?_
    exact ⟨(),To.drop (ex:=[(71,_),(73,_),(72,_),(71,_),(70,_)]) (Qi hT) Zsi Zsi (by simp[Qw,Qe,nmAll,look,ren,rens])⟩
   rw[if_neg (by rw[h7];simp)]at hx
   refine Qg (An @hHi (An @h67 (An @hcl @c31))) ?_
   (refine Qa (fun h8=>?_) (fun h8=>?_)<;>try exact h8.elim)
   ·rw[if_pos Zom]at hx
    obtain ⟨rfl,rfl⟩:=Prod.mk.inj hx
    obtain rfl:=hN rfl
    have hrf:=Qn1 c.gl S T' hS.toNJ hT f hf 6
    generalize S.refuse f 6=rr at *
    obtain ⟨⟨r1,r2,r3,r4⟩,S1⟩:=rr
    unfold Rp.enc at *
    dsimp only at *
    refine Qd ?_
    refine Ws (v:=false) (ex:=[(73,_),(72,_),(71,_),(70,_)]) hrf (Qi hT) (Qi hT) (by simp[Qe,nmAll]) Zde Zsi rfl ?_ ?_
    ·exact Qq @Xg
    refine Qd ?_
    refine hR _ ?_
    refine Qd ?_
    exact ⟨(),To.drop (ex:=(71,_)::[(73,_),(72,_),(71,_),(70,_)]) (Qi hT) Zsi Zsi (by simp[Qw,Qe,nmAll,look,ren,rens])⟩
   rw[if_neg Zom]at hx
   have hO:=Xr6 c.gl S.tb hS.ok p1 (p2 - Z2 - 1) p3 ad
   have hxw:(S.tb.opn p1 (p2 - Z2 - 1) p3 ad).1.wf:=by
    obtain ⟨S0,hS0⟩:∃ S0:Nat,p2 - Z2 - 1=S0:=⟨(p2 - Z2 - 1).toNat,by omega⟩
    rw[hS0]
    exact (opened hS.gt hS.wf (Xgw (p:=⟨p1,p2,p3,p4,p5,p6,p7,p8,p9,p10,p11,pb⟩) hpr Zom Zom hrg.2.2.2.2.1.1 hrg.2.2.2.2.1.2) ad).wf hS.wf
   have hO2:S.opened f (S.tb.opn p1 (p2 - Z2 - 1) p3 ad)=(({ S with tb:=(S.tb.opn p1 (p2 - Z2 - 1) p3 ad).1 }:NS).begin ⟨(S.tb.opn p1 (p2 - Z2 - 1) p3 ad).2.1,p4,p5,Qc4 p1,0,0⟩).sent f (S.tb.opn p1 (p2 - Z2 - 1) p3 ad).2.1 (if (S.tb.opn p1 (p2 - Z2 - 1) p3 ad).2.2.1 then [({ S with tb:=(S.tb.opn p1 (p2 - Z2 - 1) p3 ad).1 }:NS).ev (S.tb.opn p1 (p2 - Z2 - 1) p3 ad).2.1 false] else []):=by
    unfold NS.opened
    rw[hp]
   generalize S.tb.opn p1 (p2 - Z2 - 1) p3 ad=oo at *
   obtain ⟨tb,⟨x0,x1,x2,x3,x4⟩,tk,oe⟩:=oo
   unfold Qcm Jb Mp.enc at hO
   dsimp only at hO hx hY hxw hO2
   have hel:=Tb.enc_len hxw
   have hey:=Tb.enc_nm tb
   have htt:tb.enc.take 30=tb.enc:=List.take_of_length_le (by rw[hel];decide)
   refine Qg (An @hHi (An @h67 (An @hcl @htk))) ?_
   refine Xa hO (An @hHi @hel) ?_
   refine Qg (An @hHi @hel) ?_
   (refine Qa (fun h9=>?_) (fun h9=>?_)<;>try exact h9.elim)
   ·rw[if_pos h9]at hx
    obtain ⟨rfl,rfl⟩:=Prod.mk.inj hx
    obtain rfl:=hN rfl
    have hrf:=Qn1 c.gl S T' hS.toNJ hT f hf oe
    generalize S.refuse f oe=rr at *
    obtain ⟨⟨r1,r2,r3,r4⟩,S1⟩:=rr
    unfold Rp.enc at *
    dsimp only at *
    refine Qd ?_
    refine Ws (v:=false) (ex:=[(75,_),(74,_),(75,_),(74,_),(73,_),(72,_),(71,_),(70,_)]) hrf (Qi hT) (Qi hT) (by simp[Qe,nmAll]) Zde Zsi rfl ?_ ?_
    ·exact Qq @Xg
    refine Qd ?_
    refine hR _ ?_
    refine Qd ?_
    exact ⟨(),To.drop (ex:=(71,_)::[(75,_),(74,_),(75,_),(74,_),(73,_),(72,_),(71,_),(70,_)]) (Qi hT) Zsi Zsi (by simp[Qw,Qe,nmAll,look,ren,rens])⟩
   obtain rfl:=h9
   rw[if_neg Zsi,hO2]at hx
   obtain ⟨hx1,hx2⟩:=Prod.mk.inj hx
   clear hx
   have hs:=hY _ _ _ hx2.symm
   obtain ⟨hxm,hgo⟩:=hs.beg hkO
   have hst:=NS.s_tb hS.wf hxw
   have hnb:NB ({ S with tb:=tb }:NS):=hS.toNJ.nb.setTb hxw
   have hFi:=Xpi c.gl p1 [.int .i64 p2,.int .i64 p3,.int .i64 p4,.int .i64 p5,.int .i64 p6,.int .i64 p7,.int .i64 p8,.int .i64 p9,.int .i64 p10,.int .i64 p11,.str pb]
   generalize NS.begin _ _=S1 at *
   unfold Qc4 Fl.enc Kw at hgo
   dsimp only at hgo
   generalize (if p1=6 then (1:Int) else 2)=fi at *
   refine Qg (An @h67 (An @hcl (An @hel (An @htt @hst)))) ?_
   (refine Qa (fun h10=>?_) (fun h10=>?_)<;>try exact h10.elim)
   ·subst h10
    refine Qd ?_
    have hev:=Qpn c.gl { S with tb:=tb } T D hnb hW ⟨x0,x1,x2,x3,x4⟩ hxm false
    unfold Mp.enc at hev
    dsimp only at hev
    refine Qg1 (Qdn (A:=[(73,_)]) (B:=[(75,_),(74,_),(75,_),(74,_),(73,_),(72,_),(71,_),(70,_)]) (S:=S) (S':={ S with tb:=tb }) (T:=T) rfl Zsi Zsi) ?_
    refine Ws (v:=false) (ex:=(73,_)::[(75,_),(74,_),(75,_),(74,_),(73,_),(72,_),(71,_),(70,_)]) hev (Qi hT) (Qi hT) (by simp[Qe,Qbq]) Zde Zsi rfl ?_ ?_
    ·exact Qq @Xg
    refine Qd ?_
    refine Yt hFi ?_
    refine Qd ?_
    refine Qki (v:=false) (ex:=(73,_)::[(75,_),(74,_),(75,_),(74,_),(73,_),(72,_),(71,_),(70,_)]) hgo (Qi hT) (Qi hT1) (by simp[Qe,nmAll]) Zde Zsi Zsi rfl ?_ ?_
    ·exact Qq @Xg
    unfold Ja
    refine Qd ?_
    exact hQ ⟨_,(73,_)::[(75,_),(74,_),(75,_),(74,_),(73,_),(72,_),(71,_),(70,_)],_,_,_,_,S1⟩ ⟨hx2.symm,hx1.symm,rfl,rfl,rfl,rfl,rfl,Wk.refl _,by simp,Nat.le_of_ble_eq_true rfl,fun _=>rfl,fun _=>rfl,fun _=>rfl,fun _=>rfl⟩
   ·subst h10
    refine Qd ?_
    refine Yt hFi ?_
    refine Qd ?_
    refine Xhq (Qdn (A:=[(73,_)]) (B:=[(75,_),(74,_),(75,_),(74,_),(73,_),(72,_),(71,_),(70,_)]) (S:=S) (S':={ S with tb:=tb }) (T:=T) rfl Zsi Zsi) ?_
    refine Qki (v:=false) (ex:=(73,_)::[(75,_),(74,_),(75,_),(74,_),(73,_),(72,_),(71,_),(70,_)]) hgo (Qi hT) (Qi hT1) (by simp[Qe,nmAll]) Zde Zsi Zsi rfl ?_ ?_
    ·exact Qq @Xg
    unfold Ja
    refine Qd ?_
    exact hQ ⟨_,(73,_)::[(75,_),(74,_),(75,_),(74,_),(73,_),(72,_),(71,_),(70,_)],_,_,_,_,S1⟩ ⟨hx2.symm,hx1.symm,rfl,rfl,rfl,rfl,rfl,Wk.nils,by simp,Nat.le_of_ble_eq_true rfl,fun _=>rfl,fun _=>rfl,fun _=>rfl,fun _=>rfl⟩
  ·rw[if_pos h6]at hx
   have hth1:th=true:=by
    cases hx0:th with
    | true=>rfl
    | false=>exact absurd (htn hx0) h6
   obtain ⟨hf1,hf2⟩:=hth hth1
   rw[hf1]at hx
   obtain ⟨hx1,hx2⟩:=Prod.mk.inj hx
   clear hx
   have hs:=hY _ _ _ hx2.symm
   have hgo:=hs.goes (by rw[hkO];exact h6)
   rw[hkO]at hgo
   generalize NS.goes S _ _ _=S1 at *
   unfold Pk.enc at hgo
   dsimp only at hgo
   refine Qg (An @k0 (An @k5 @k10)) ?_
   refine Xyy (v:=false) (ex:=[(73,_),(73,_),(72,_),(72,_),(71,_),(70,_)]) hgo (Qi hT) (Qi hT1) (by simp[Qe,nmAll]) Zom Zsi (by simp;omega) rfl ?_ ?_
   ·exact Qq @Xg
   unfold Ja
   refine Qd ?_
   exact hQ ⟨_,[(73,_),(73,_),(72,_),(72,_),(71,_),(70,_)],_,_,_,_,S1⟩ ⟨hx2.symm,hx1.symm,k0,k3,k4,k5,k8,Wk.nils,by simp;omega,hn,fun _=>rfl,fun _=>rfl,fun _=>rfl,fun _=>rfl⟩
 obtain ⟨t,ex,N,n,m,es,S1⟩:=i
 obtain ⟨hy,hx0,k0,k3,k4,k5,k8,k11,hex,hN4,b70,b71,b72,b73⟩:=hi
 unfold OW.h at *
 have hs:=hY _ _ _ hy
 rw[Xa1,hp]at hx0
 have hlog:=Qz1 c.gl h0 S1 T1 hs.nj hT1 hs.told es hs.len hs.good
 obtain ⟨hma1,hma2⟩:=hs.a
 have hin:=hs.inn
 have hou:=hs.out
 obtain ⟨z1,z2,z3,z4,z5⟩:=m
 dsimp only at hx0 hin hou hma1 hma2 k0 k3 k4 k5 k8 k11 hex hN4 b70 b71 b72 b73 ⊢
 obtain ⟨E,hE⟩:∃ E,Zc es=E:=⟨_,rfl⟩
 have hEn:∀ n,nmAll n E:=fun n=>by rw[← hE];exact Qbq n _
 have hEr:∀ ρ,rens ρ E=E:=fun ρ=>by rw[← hE,Yf];exact (List.map_congr_left fun v hv=>Km (Xi.1 (Qbq 0 es) v hv)).trans (List.map_id _)
 rw[hE]at hlog k11
 obtain ⟨tE,hTu⟩:=Qyz f 0 (Z3 + z4) z5
 have hTr:=Xa5 c.gl f 0 (Z3 + z4) z5 hf
 rw[hTu]at hTr
 clear hTu
 rw[hZ3]at hin hx0
 generalize Kq f 0 (Z3 + z4) z5=tf at *
 generalize S1.log es=S2 at *
 generalize Qff S1.told es=L at *
 generalize es.length=le at *
 have HB:∀ {S:NS} {T:WT},T.wf→HL ([(73,.cells [.int .i64 z1,.int .i64 z2,.int .i64 z3,.int .i64 z4,.int .i64 z5]),(72,.cells [.int .i64 p1,.int .i64 p2,.int .i64 p3,.int .i64 p4,.int .i64 p5,.int .i64 p6,.int .i64 p7,.int .i64 p8,.int .i64 p9,.int .i64 p10,.int .i64 p11,.str pb]),(71,.cells [.int .i64 0,.str [],.bool false,.str []]),(70,.cells [.int .i64 ak,.int .i64 an,.int .i64 ad,.str f])]++Qm S T) 74:=fun hT=>(((Qi hT).more (by simp[nmB,nmAll,Qe])).more (by simp[nmB,nmAll,Qe])).more (by simp[nmB,nmAll,Qe]) |>.more (by simp[nmB,nmAll,Qe])
 refine Qg (An @k3 (An @b70 (An @k8 @b73))) ?_
 refine Qez hgh (To.wkT 11 (y:=.isl le E) k11) ?_
 refine Qez (p:=[67]) (s':=⟨[(0,.ptr 67 0),(3,.ptr 70 0),(4,.ptr 71 0),(5,.ptr 72 0),(8,.ptr 73 0),(11,.isl le E),(141,.str f),(144,.int .i64 (Z3 + z4)),(146,.int .i64 z5)],[(73,.cells [.int .i64 z1,.int .i64 z2,.int .i64 z3,.int .i64 z4,.int .i64 z5]),(72,.cells [.int .i64 p1,.int .i64 p2,.int .i64 p3,.int .i64 p4,.int .i64 p5,.int .i64 p6,.int .i64 p7,.int .i64 p8,.int .i64 p9,.int .i64 p10,.int .i64 p11,.str pb]),(71,.cells [.int .i64 0,.str [],.bool false,.str []]),(70,.cells [.int .i64 ak,.int .i64 an,.int .i64 ad,.str f])]++Qm S1 T1,74⟩) hgh ?_ ?_
 ·refine To.natM (ex:=ex) hT1 (HB hT1) Zde hN4 Zsi hex Zsi (fun b h1 h2=>?_) ?_
  ·rcases (by omega:b=70∨b=71∨b=72∨b=73) with rfl|rfl|rfl|rfl
   ·rw[b70];rfl
   ·rw[b71];rfl
   ·rw[b72];rfl
   ·rw[b73];rfl
  ·simp[Qw,Qe,nmAll,look,ren,rens,Qfo,lw,Qea,hEn,hEr,k0,k3,k4,k5,k8]
 refine Yt hTr ?_
 refine Qd ?_
 refine Qp9 (v:=false) (pp:=[67]) (ex:=[(73,_),(72,_),(71,_),(70,_)]) (s3:=⟨[(0,.ptr 67 0),(4,.ptr 71 0),(5,.ptr 72 0),(16,.str tf),(150,.str tf),(153,.str L)],[(73,.cells [.int .i64 z1,.int .i64 z2,.int .i64 z3,.int .i64 z4,.int .i64 z5]),(72,.cells [.int .i64 p1,.int .i64 p2,.int .i64 p3,.int .i64 p4,.int .i64 p5,.int .i64 p6,.int .i64 p7,.int .i64 p8,.int .i64 p9,.int .i64 p10,.int .i64 p11,.str pb]),(71,.cells [.int .i64 0,.str [],.bool false,.str []]),(70,.cells [.int .i64 ak,.int .i64 an,.int .i64 ad,.str f])]++Qm S2 T1,74⟩) hgh hlog (Qi hT1) (Qi hT1) (by simp[Qe]) Zde Zsi rfl ?_ ?_ ?_
 ·exact Qq (An @Xg @hEn)
 ·refine To.mid0 (ex:=[(73,_),(72,_),(71,_),(70,_)]) (Qi hT1) (HB hT1) Zde Zsi Zsi Zsi (fun b h1 h2=>?_) ?_
  ·rcases (by omega:b=70∨b=71∨b=72∨b=73) with rfl|rfl|rfl|rfl<;>rfl
  ·simp[Qw,Qe,nmAll,look,ren,rens]
 have hHj:=fun n b hb=>Yb (S:=S2) hT1 n b hb
 refine Qg @hHj ?_
 (refine Qa (fun h11=>?_) (fun h11=>?_)<;>try exact h11.elim)
 ·rw[if_pos Zom]at hx0
  subst hx0
  have hin:=hin Zom
  generalize NS.inn S2 tf=w at *
  obtain ⟨⟨r1,r2,r3,r4⟩,S3⟩:=w
  unfold Rp.enc at hin
  dsimp only at hin ⊢
  refine Qd ?_
  refine Ut (v:=false) (pp:=[67]) (ex:=(74,_)::(74,_)::[(73,_),(72,_),(71,_),(70,_)]) (s3:=⟨[(4,.ptr 71 0),(18,.ptr 74 0),(167,.agg [.int .i64 r1,.str r2,.bool r3,.str r4])],(74,.cells [.int .i64 0,.str tf,.bool false,.str L])::[(73,.cells [.int .i64 z1,.int .i64 z2,.int .i64 z3,.int .i64 z4,.int .i64 z5]),(72,.cells [.int .i64 p1,.int .i64 p2,.int .i64 p3,.int .i64 p4,.int .i64 p5,.int .i64 p6,.int .i64 p7,.int .i64 p8,.int .i64 p9,.int .i64 p10,.int .i64 p11,.str pb]),(71,.cells [.int .i64 0,.str [],.bool false,.str []]),(70,.cells [.int .i64 ak,.int .i64 an,.int .i64 ad,.str f])]++Qm S3 T',75⟩) hgh hin (Qi hT1) (Qi hT') (by simp[Qe,nmAll]) Zde Zsi Zsi rfl ?_ ?_ ?_
  ·exact Qq @Xg
  ·unfold Ja
   refine To.natM hT' ((HB hT').more (by simp[nmB,nmAll,Qe])) Zde Zde Zsi Zsi Zsi (fun b h1 h2=>?_) ?_
   ·rcases (by omega:b=70∨b=71∨b=72∨b=73∨b=74) with rfl|rfl|rfl|rfl|rfl<;>rfl
   ·simp[Qw,Qe,nmAll,look,ren,rens,Qfo,lw,Qea]
  have hHk:=fun n b hb=>Yb (S:=S3) hT' n b hb
  refine Qg @hHk ?_
  unfold Rp.enc
  exact ⟨(),To.drop (ex:=[(71,_),(74,_),(74,_),(74,_),(75,_),(75,_),(74,_),(73,_),(72,_),(71,_),(70,_)]) (Qi hT') Zsi Zsi (by simp[Qw,Qe,nmAll,look,ren,rens])⟩
 ·rw[if_neg Zom]at hx0
  subst hx0
  obtain rfl:=hou Zom
  refine Qd ?_
  unfold Rp.enc
  exact ⟨(),To.drop (ex:=[(71,_),(74,_),(74,_),(73,_),(72,_),(71,_),(70,_)]) (Qi hT1) Zsi Zsi (by simp[Qw,Qe,nmAll,look,ren,rens])⟩
theorem Xya {S:NS} (h:NI S) (es:List Ev):NI (S.log es):=h.setTold _
def Xim (gl:Nat→AV) (S:NS) (T:WT) (fn:FuncId) (args:List AV) (x:Rp × NS):Prop :=
 ∃ T' D',WI T' x.2.now D'∧D'.Perm x.2.tms∧GD Tryz.prog gl fn args (Qm S T) 70 [67] (.agg x.1.enc) (Qm x.2 T')
theorem Xwe (gl:Nat→AV) (h0:gl 0=.xp (Qp Xo) 0) (S:NS) (T:WT) (D:List Tm) (hS:NI S) (hnx:S.nxt≤900000) (htold:S.told≤90000) (hW:WI T S.now D) (hD:D.Perm S.tms) (ak an ad:Int) (f:List UInt8) (hf:f.length≤140737488351232) :
  Xim gl S T 58 [.ptr 67 0,.agg [.int .i64 ak,.int .i64 an,.int .i64 ad,.str f]] (S.out f ad):=by
 have key:∀ x y,S.out2 f ad=(x,y)→∃ T' D' T1,WI T' x.2.now D'∧D'.Perm x.2.tms∧T1.wf∧(y=none→T'=T) ∧
   ∀ m es S1,y=some (m,es,S1)→Sent gl S T T1 T' f (rdK f) (S.tb.opn (rdK f).proto ((rdK f).frm - 167772161) (rdK f).sport ad).1 m es S1:=by
  intro x y hx
  have stay:∀ r:Rp × NS,r.2.now=S.now→r.2.tms=S.tms→(r,none)=(x,y)→∃ T' D' T1,WI T' x.2.now D'∧D'.Perm x.2.tms∧T1.wf∧(y=none→T'=T) ∧
    ∀ m es S1,y=some (m,es,S1)→Sent gl S T T1 T' f (rdK f) (S.tb.opn (rdK f).proto ((rdK f).frm - 167772161) (rdK f).sport ad).1 m es S1:=fun r h1 h2 e=>by
   obtain ⟨rfl,rfl⟩:=Prod.mk.inj e
   exact ⟨T,D,T,by rw[h1];exact hW,by rw[h2];exact hD,hW.wf,fun _=>rfl,by simp⟩
  have href:∀ e,(S.refuse f e).2.now=S.now∧(S.refuse f e).2.tms=S.tms:=fun e=>by
   unfold NS.refuse;split<;>exact ⟨rfl,rfl⟩
  have go:∀ (m:Mp) (es:List Ev) (S1:NS) (T1:WT) (D1:List Tm),NI S1→WI T1 S1.now D1→D1.Perm S1.tms→S1.nxt≤1000000→S1.told≤100000→es.length≤64→(∀ e ∈ es,Wv e.t e.s e.a e.b=true∧e.t=(es.headD ⟨0,0,0,0,false⟩).t)→0≤m.a∧m.a < 3 →
    (S.kOut (rdK f)≠0→GD Tryz.prog gl 93 [.ptr 67 0,.int .i64 (S.kOut (rdK f)),.agg (rdK f).enc,.bool false] (Qm S T) 70 [67] (.tup []) (Qm S1 T1)) →
    (S.kOut (rdK f)=0→MpB m∧GD Tryz.prog gl 91 [.ptr 67 0,.agg (Fl.enc ⟨m,(rdK f).dst,(rdK f).dport,Qc4 (rdK f).proto,0,0⟩)] (Qm { S with tb:=(S.tb.opn (rdK f).proto ((rdK f).frm - 167772161) (rdK f).sport ad).1 } T) 70 [67] (.tup []) (Qm S1 T1)) →
    (S1.sent f m es,some (m,es,S1))=(x,y)→∃ T' D' T1,WI T' x.2.now D'∧D'.Perm x.2.tms∧T1.wf∧(y=none→T'=T) ∧
    ∀ m es S1,y=some (m,es,S1)→Sent gl S T T1 T' f (rdK f) (S.tb.opn (rdK f).proto ((rdK f).frm - 167772161) (rdK f).sport ad).1 m es S1:=by
   intro m es S1 T1 D1 hS1 hW1 hP1 hn1 ht1 hl hg ha h1 h2 e
   obtain ⟨rfl,rfl⟩:=Prod.mk.inj e
   rw[Xa1]
   by_cases hto:0≤(rdK f).dst - 3405803777∧(rdK f).dst - 3405803777 < 3
   ·rw[if_pos hto]
    obtain ⟨T3,D3,hW3,hP3,hi⟩:=Xli gl (S1.log es) T1 D1 (Xya hS1 es) hn1 hW1 hP1 (Kq f 0 (3405803777 + m.a) m.port) (Nat.le_trans (Xit ..) hf)
    refine ⟨T3,D3,T1,hW3,hP3,hW1.wf,by simp,fun m' es' S' e=>?_⟩
    obtain ⟨rfl,rfl,rfl⟩:m=m'∧es=es'∧S1=S':=by simpa using e
    exact ⟨hS1.toNJ,ht1,hl,hg,ha,h1,h2,fun _=>hi,fun h=>(h hto).elim⟩
   ·rw[if_neg hto]
    refine ⟨T1,D1,T1,hW1,hP1,hW1.wf,by simp,fun m' es' S' e=>?_⟩
    obtain ⟨rfl,rfl,rfl⟩:m=m'∧es=es'∧S1=S':=by simpa using e
    exact ⟨hS1.toNJ,ht1,hl,hg,ha,h1,h2,fun h=>(hto h).elim,fun _=>rfl⟩
  unfold NS.out2 at hx
  split at hx
  ·exact stay (_,S) rfl rfl hx
  rename_i he
  have he:rdE f=0:=Decidable.not_not.1 he
  split at hx
  ·exact stay (_,S) rfl rfl hx
  rename_i hs
  split at hx
  ·exact stay (_,S) rfl rfl hx
  split at hx
  ·exact stay (_,S) rfl rfl hx
  split at hx
  ·rename_i hk
   split at hx
   ·rename_i m hm
    obtain ⟨q,hq,e,_⟩:=Qek (S:=S) (m:=m) (r:=(rdK f).dst) (rp:=(rdK f).dport) (by unfold NS.kOut at hk;rw[hm]at hk;exact hk)
    have ek:S.kOut (rdK f)=q.1:=by unfold NS.kOut;rw[hm];exact e
    rw[ek]at hx
    obtain ⟨T1,D1,hW1,hP1,hg⟩:=Quu gl S T D hS hW hD q hq (rdK f) false
    have hma:=(hS.gt.maps m (List.mem_of_find?_eq_some hm)).1.2.2
    exact go m [] _ T1 D1 (hS.goes q.1 (rdK f) false) hW1 hP1 (by show S.nxt≤_;omega) (by show S.told≤_;omega) Zsi Zsi hma (fun _=>by rw[ek];exact hg) (fun h=>(hk h).elim) hx
   ·exact stay (_,S) rfl rfl hx
  rename_i hk
  have hk0:S.kOut (rdK f)=0:=Decidable.not_not.1 hk
  split at hx
  ·exact stay (_,S) rfl rfl hx
  split at hx
  ·exact stay _ (href _).1 (href _).2 hx
  rename_i hl
  split at hx
  ·exact stay _ (href _).1 (href _).2 hx
  rename_i ho
  have ho:=Decidable.not_not.1 ho
  obtain ⟨S0,hS0,_,hkn,hop,hno,hb⟩:=hS.opened he hs hk0 Zom ho
  have hb:=hb (Qc4 (rdK f).proto)
  have hxw:=hop.wf hS.wf
  have hxg:=hop.good hS.gt hS.wf hkn
  have hmem:=(hop.has (by rw[← hS0];exact ho)).1
  clear hop hno
  rw[← hS0]at hb hxw hxg hmem
  generalize S.tb.opn (rdK f).proto ((rdK f).frm - 167772161) (rdK f).sport ad=o at *
  obtain ⟨T1,D1,hW1,hP1,hg⟩:=Qpf gl { S with tb:=o.1 } T D (hS.toNJ.nb.setTb hxw) (by show S.nxt≤_;omega) hW hD (by show S.fl.length < 48;omega) o.2.1 (rdK f).dst (rdK f).dport (Qc4 (rdK f).proto)
  have hgd:=Qyh (S:={ S with tb:=o.1 }) hS.now hxg hmem false
  refine go o.2.1 (if o.2.2.1 then [({ S with tb:=o.1 }:NS).ev o.2.1 false] else []) _ T1 D1 hb hW1 hP1 (by show S.nxt + 1≤_;omega) (by show S.told≤_;omega) (by split<;>simp) (fun e he=>?_) (hxg.maps _ hmem).1.2.2 (fun h=>(h hk0).elim) (fun _=>⟨(hxg.ok hxw).bd _ hmem,hg⟩) hx
  split at he
  ·rename_i ht
   rw[if_pos ht]
   obtain rfl:=List.mem_singleton.1 he
   exact ⟨hgd,rfl⟩
  ·cases he
 have e2:=Xzw S f ad
 obtain ⟨x,hx⟩:∃ x,S.out2 f ad=x:=⟨_,rfl⟩
 rw[hx]at e2
 obtain ⟨x,y⟩:=x
 obtain ⟨T',D',T1,h1,h2,h3,h4,h5⟩:=key x y hx
 dsimp only at e2
 subst e2
 exact ⟨T',D',h1,h2,Xyd gl h0 S T T1 T' D hS hW h3 h1.wf ak an ad f hf _ y hx h4 h5⟩
theorem Qq0 (gl:Nat→AV) (t x:Int):GS Tryz.prog gl 100 [.int .i64 t,.ptr 0 0] [(0,.cells [.int .i64 x])] 1 (.bool (t == x)) [(0,.cells [.int .i64 x])] 1:=by
 refine Xhf.gs (of_decide_eq_true rfl) (by simp[Bk.live]) fun c hN hg=>?_
 conv in tcO _ _=>cbv
 refine Qd ?_
 refine ⟨[],?_⟩
 exact Qs
def ixN (x:Int):List Int→Nat→Int
 | [],_=>-1
 | t::l,k=>if t=x then k else ixN x l (k + 1)
set_option maxHeartbeats 1000000 in
theorem Xur (gl:Nat→AV) (l:List Int) (hl:l.length≤1000000) (x:Int):GS Tryz.prog gl 136 [.sl 1 0 0 l.length l.length,.cl 100 [.ptr 1 0]]
  [(0,.cells (Qp l)),(1,.cells [.int .i64 x])] 2 (.int .i64 (ixN x l 0)) [(0,.cells (Qp l)),(1,.cells [.int .i64 x])] 2:=by
 refine Qkg.gs (of_decide_eq_true rfl) (by simp[Bk.live]) fun c hN hg=>?_
 conv in tcO _ _=>cbv
 have htl:=Xw l
 refine Qd ?_
 refine Uq (fun k:Nat=>k≤l.length∧ixN x (l.drop k) k=ixN x l 0) (fun k=>⟨[(0,.sl 1 0 0 l.length l.length),(1,.cl 100 [.ptr 1 0]),(6,.sl 1 0 0 l.length l.length),(7,.int .i64 l.length),(8,.int .i64 k)],[(0,.cells (Qp l)),(1,.cells [.int .i64 x])],2⟩) (fun k=>l.length - k) Qkg.mixed 2 hN
  ⟨0,⟨by omega,rfl⟩,[],by exact Qs⟩ fun k hk=>?_
 obtain ⟨hk,hik⟩:=hk
 refine Qd ?_
 (refine Qa (fun h1=>?_) (fun h1=>?_)<;>try exact h1.elim)
 ·have hkn:k < l.length:=by omega
  have hgk:=Qcv l k hkn
  have hdr:l.drop k=l[k]::l.drop (k + 1):=List.drop_eq_getElem_cons hkn
  rw[hdr]at hik
  rw[ixN]at hik
  generalize l[k]=t at *
  have hc:=Qq0 c.gl t x
  refine Qg (An @htl @hgk) ?_
  refine Qla (ip [1]) hc (An @htl @hgk) ?_
  (refine Qa (fun h2=>?_) (fun h2=>?_)<;>try exact h2.elim)
  ·rw[if_pos (by simpa using h2)]at hik
   refine Qd ?_
   refine ⟨[],?_⟩
   exact Qq @hik
  ·rw[if_neg (by simpa using h2)]at hik
   refine Qd ?_
   refine ⟨k + 1,⟨by omega,hik⟩,⟨[],?_⟩,by omega⟩
   exact Qs
 ·have:k=l.length:=by omega
  subst this
  rw[List.drop_length]at hik
  have hik:(-1:Int)=ixN x l 0:=hik
  refine Qd ?_
  refine ⟨[],?_⟩
  exact Qq @hik
theorem Quz {x:Int}:∀ (l:List Int) (k:Nat),ixN x l k=-1→∀ t ∈ l,t≠x
 | [],_,_,t,ht=>by cases ht
 | a::l,k,h,t,ht=>by
  unfold ixN at h
  split at h
  ·omega
  ·rcases List.mem_cons.1 ht with rfl|ht
   ·assumption
   ·exact Quz l (k + 1) h t ht
theorem Qre {x:Int}:∀ (l:List Int) (k:Nat),ixN x l k≠-1→∃ i,i < l.length∧ixN x l k=((k + i:Nat):Int)∧(∀ t ∈ l.take i,t≠x)∧∃ t,l[i]?=some t∧t=x
 | [],_,h=>absurd rfl h
 | a::l,k,h=>by
  unfold ixN at h ⊢
  split at h
  ·rename_i e
   rw[if_pos e]
   exact ⟨0,by simp,by simp,by simp,a,rfl,e⟩
  ·rename_i e
   rw[if_neg e]
   obtain ⟨i,h1,h2,h3,t,h4,h5⟩:=Qre l (k + 1) h
   refine ⟨i + 1,by simpa using h1,by rw[h2];omega,fun y hy=>?_,t,by simpa using h4,h5⟩
   rw[List.take_succ_cons]at hy
   rcases List.mem_cons.1 hy with rfl|hy
   ·exact e
   ·exact h3 y hy
theorem Xo2:Qox Tryz.prog 52 1:=Qp4 (by kernel_rfl)
def offN (x:Int) (l:List Int):List Int:=l.filter fun t=>!(t == x)
theorem Xf3 (l:List Int) (k:Nat) (h:k≤l.length):(Qp l).take k=Qp (l.take k):=by simp[Qp]
set_option maxHeartbeats 2000000 in
theorem Xvr (gl:Nat→AV) (l:List Int) (hl:l.length≤1000000) (x:Int):GS Tryz.prog gl 99 [.sl 1 0 0 l.length l.length,.cl 100 [.ptr 1 0]]
  [(0,.cells (Qp l)),(1,.cells [.int .i64 x])] 2 (.sl 1 0 0 (offN x l).length l.length) [(0,.cells (Qp (offN x l))),(1,.cells [.int .i64 x])] 2:=by
 refine Qyo.gs (of_decide_eq_true rfl) (by simp[Bk.live]) fun c hN hg=>?_
 conv in tcO _ _=>cbv
 have htl:=Xw l
 have hi:=Xur c.gl l hl x
 refine Qd ?_
 ((first|refine Qy (ins:=[0,1]) hi ?_ ?_|refine Qv (ins:=[0,1]) hi ?_ ?_|refine Qu (ins:=[0,1]) hi ?_ ?_|refine Qr (ins:=[0,1]) hi ?_ ?_)<;>(have zf1:=@htl;refine XG ?_;clear zf1;(try first|exact rfl|exact True.intro);((try (repeat' with_reducible refine And.intro ?_ ?_));(try any_goals (first|refine zm ?_|exact CL|fail)))))
 ·decide
 by_cases hno:ixN x l 0=-1
 ·have hoff:offN x l=l:=List.filter_eq_self.2 fun t ht=>by simpa using Quz l 0 hno t ht
  rw[hoff]
  (refine Qa (fun h1=>?_) (fun h1=>?_)<;>try exact h1.elim)
  ·refine Qd ?_
   refine ⟨[],?_⟩
   exact Qs
  ·exact absurd hno (by simpa using h1)
 ·obtain ⟨i0,q1,q2,q3,t0,q4,q5⟩:=Qre l 0 hno
  rw[Nat.zero_add]at q2
  rw[q2]
  (refine Qa (fun h1=>?_) (fun h1=>?_)<;>try exact h1.elim)
  ·omega
  refine Qd ?_
  refine Uq (fun y:Nat × Nat × List Int=>y.1 < y.2.1∧y.2.1≤l.length∧y.2.2.length=l.length∧y.2.2.take y.1=offN x (l.take y.2.1)∧y.2.2.drop y.2.1=l.drop y.2.1)
   (fun y=>⟨[(0,.sl 1 0 0 l.length l.length),(1,.cl 100 [.ptr 1 0]),(5,.int .i64 y.1),(6,.int .i64 y.2.1)],[(0,.cells (Qp y.2.2)),(1,.cells [.int .i64 x])],2⟩) (fun y=>l.length - y.2.1) Qyo.mixed 2 hN
   ⟨(i0,i0 + 1,l),⟨by simp,by show i0 + 1≤l.length;omega,rfl,?_,rfl⟩,[],by exact Qs⟩ fun y hy=>?_
  ·have:l.take (i0 + 1)=l.take i0++[t0]:=by rw[List.take_succ,q4];rfl
   show l.take i0=offN x (l.take (i0 + 1))
   rw[this]
   unfold offN
   rw[List.filter_append,List.filter_eq_self.2 fun t ht=>by simpa using q3 t ht]
   simp[q5]
  obtain ⟨i,j,M⟩:=y
  obtain ⟨hij,hjn,hM,hpre,hsuf⟩:=hy
  dsimp only at hij hjn hM hpre hsuf ⊢
  have htM:=Xw M
  refine Qd ?_
  (refine Qa (fun h2=>?_) (fun h2=>?_)<;>try exact h2.elim)
  ·have hjl:j < l.length:=by omega
   have hjM:j < M.length:=by omega
   have hcut:=Qcv M j hjM
   have hMj:M[j]=l[j]:=by
    have e1:(M.drop j)[0]?=M[j]?:=by simp
    have e2:(l.drop j)[0]?=l[j]?:=by simp
    rw[hsuf,e2]at e1
    simpa [hjl,hjM] using e1.symm
   have htk:offN x (l.take (j + 1))=if M[j]=x then offN x (l.take j) else offN x (l.take j)++[M[j]]:=by
    have:l.take (j + 1)=l.take j++[M[j]]:=by rw[List.take_succ,hMj];simp[hjl]
    rw[this]
    unfold offN
    rw[List.filter_append]
    split<;>simp_all
   have hdr:M.drop (j + 1)=l.drop (j + 1):=by
    have:=congrArg (List.drop 1) hsuf
    simpa [List.drop_drop,Nat.add_comm] using this
   have hset:(Qp M).set i (.int .i64 M[j])=Qp (M.set i M[j]):=by simp[Qp,List.map_set]
   have hlen2:((M.set i M[j]).take (i + 1))=M.take i++[M[j]]:=by
    rw[List.take_succ,List.take_set_of_le (Nat.le_refl i)]
    simp[show i < M.length by omega]
   have hdr2:(M.set i M[j]).drop (j + 1)=M.drop (j + 1):=by rw[List.drop_set_of_lt Zom]
   have hsl:(M.set i M[j]).length=l.length:=by simp[hM]
   have htS:=Xw (M.set i M[j])
   generalize M[j]=t at *
   have hc:=Qq0 c.gl t x
   refine Qg (An @htM @hcut) ?_
   refine Qla (ip [1]) hc (An @htM @hcut) ?_
   (refine Qa (fun h3=>?_) (fun h3=>?_)<;>try exact h3.elim)
   ·rw[if_neg h3]at htk
    refine Qg (An @htM @hset) ?_
    refine ⟨(i + 1,j + 1,M.set i t),⟨by dsimp only;omega,by dsimp only;omega,hsl,by rw[hlen2,hpre,htk],by rw[hdr2,hdr]⟩,⟨[],?_⟩,by dsimp only;omega⟩
    exact Qs
   ·rw[if_pos (by simpa using h3)]at htk
    refine Qg @htM ?_
    refine ⟨(i,j + 1,M),⟨by dsimp only;omega,by dsimp only;omega,hM,by rw[hpre,htk],hdr⟩,⟨[],?_⟩,by dsimp only;omega⟩
    exact Qs
  ·obtain rfl:j=l.length:=by omega
   rw[List.take_length]at hpre
   have hlo:(offN x l).length=i:=by rw[← hpre,List.length_take];omega
   have hto:=Xf3 M i Zom
   rw[hpre]at hto
   refine Qd ?_
   (refine Qmm Xo2 ?_;(have zf1:=@hto;refine XG ?_;clear zf1;((try (repeat' with_reducible refine And.intro ?_ ?_));(try any_goals (first|refine zm ?_|exact CL|fail)))))
   refine Qd ?_
   refine ⟨[],?_⟩
   exact Qq @hlo
theorem To.natWB {p:List Nat} {t t':List (Nat × AV)} {ex ex':List (Nat × Bk)} {S:NS} {T:WT} {σ:Nat→Nat} {n k r:Nat} (hT:T.wf) (H':HL (ex'++Qm S T) k) (hk70:70≤k) (hex':∀ q ∈ ex',70≤q.1) (hp:∀ b ∈ p,b=67∨b=68) (hinj:∀ b b',b < 67→b' < 67→σ b=σ b'→b=b') (hex:∀ q ∈ ex,∀ b,b < 67→σ b≠q.1)
  (hr:r≠67∧r≠68∧(r=69∨k≤r)) (hin:∀ b,b < 67→σ b≠67∧σ b≠68∧σ b≠r∧(σ b < 67∨k≤σ b))
  (e67:Qb (ex++Xd σ T.hb) n 67=.cells (S.tb.enc++S.tlr r (σ 0))) (e68:Qb (ex++Xd σ T.hb) n 68=.mapb (kvF S.fl) false) (e69:Qb (ex++Xd σ T.hb) n r=.cells (Qp S.keys)) (hl:∀ b,70≤b→b < k→Qb (ex++Xd σ T.hb) n b=Xf (nr σ r) (Qb (ex'++Qm S T) k b)) (ht:Qw (nr σ r) k t t'):To p ⟨t,ex++Xd σ T.hb,n⟩ ⟨t',ex'++Qm S T,k⟩:=by
 have n67:nr σ r 67=67:=rfl
 have n68:nr σ r 68=68:=rfl
 have n69:nr σ r 69=r:=rfl
 have nhi:∀ b,70≤b→nr σ r b=b:=fun b hb=>by unfold nr;rw[if_neg Zom,if_neg Zom]
 have hlow:∀ b,b < 70→Qb (ex'++Qm S T) k b=Qb (Qm S T) 70 b:=fun b hb=>by
  rw[Xn fun q hq e=>by have:=hex' q hq;omega]
  exact (Qi hT).lo hb k
 refine To.fam (nr σ r) H' (fun b hb=>?_) (fun b b' hb hb' e=>?_) (fun b hb=>?_) ht
 ·rcases hp b hb with rfl|rfl<;>exact ⟨rfl,by omega⟩
 ·rcases (by omega:b < 67∨b=67∨b=68∨b=69∨70≤b) with h|rfl|rfl|rfl|h<;>rcases (by omega:b' < 67∨b'=67∨b'=68∨b'=69∨70≤b') with h'|rfl|rfl|rfl|h'
  ·rw[Ki h,Ki h']at e;exact hinj _ _ h h' e
  ·rw[Ki h]at e;exact absurd e (hin _ h).1
  ·rw[Ki h]at e;exact absurd e (hin _ h).2.1
  ·rw[Ki h]at e;exact absurd e (hin _ h).2.2.1
  ·rw[Ki h,nhi _ h']at e;have:=(hin _ h).2.2.2;omega
  ·rw[Ki h']at e;exact absurd e.symm (hin _ h').1
  ·rfl
  ·cases e
  ·rw[n67,n69]at e;omega
  ·rw[n67,nhi _ h']at e;omega
  ·rw[Ki h']at e;exact absurd e.symm (hin _ h').2.1
  ·cases e
  ·rfl
  ·rw[n68,n69]at e;omega
  ·rw[n68,nhi _ h']at e;omega
  ·rw[Ki h']at e;exact absurd e.symm (hin _ h').2.2.1
  ·rw[n67,n69]at e;omega
  ·rw[n68,n69]at e;omega
  ·rfl
  ·rw[n69,nhi _ h']at e;omega
  ·rw[Ki h',nhi _ h]at e;have:=(hin _ h').2.2.2;omega
  ·rw[n67,nhi _ h]at e;omega
  ·rw[n68,nhi _ h]at e;omega
  ·rw[n69,nhi _ h]at e;omega
  ·rw[nhi _ h,nhi _ h']at e;exact e
 ·rcases (by omega:b < 67∨b=67∨b=68∨b=69∨70≤b) with h|rfl|rfl|rfl|h
  ·rw[Ki h,Xa3 hT hinj hex h,hlow b Zom]
   have e:Qb (Qm S T) 70 b=Qb T.hb 67 b:=by
    unfold Qm
    rw[Qc,if_neg Zom,Qc,if_neg Zom,Qc,if_neg Zom]
    exact ((WT.HLb hT).live h 70).1
   rw[e]
   exact Ww (n:=67) (fun b hb=>(Ki hb).symm) (Qlu hT h).2
  ·rw[n67,e67,hlow 67 Zom,Jw]
   show _=Bk.cells (rens (nr σ r) S.cells)
   rw[NS.cells_ren,n68,n69,Ki (by decide:0 < 67)]
   rfl
  ·rw[n68,e68,hlow 68 Zom,Qgc,Qyx]
  ·rw[n69,e69,hlow 69 Zom,Qg8,Qpy]
  ·rw[nhi b h];exact hl b h hb
theorem Xns {D D':List Tm} (h:D.Perm D') (n:Nat):outT D n=outT D' n:=by
 unfold outT
 rw[Qx2 (h.filter _)]
theorem Xv0 {S:NS} (h:S.fl.Pairwise fun p q=>p.1≠q.1):S.tms.Pairwise fun a b=>a.id≠b.id:=by
 unfold NS.tms
 exact List.pairwise_map.2 h
theorem Xc4 {D:List Tm} (h:D.Pairwise fun a b=>a.id≠b.id) (n:Nat):(outT D n).Pairwise (·≠·):=by
 unfold outT
 refine List.pairwise_map.2 ?_
 have h1:=h.filter fun t=>decide (t.due < n)
 exact (List.Perm.pairwise_iff (fun {a b} (e:a.id≠b.id)=>e.symm) (Ky _)).2 h1
def NS.cut (S:NS) (k:Int):NS:={ S with fl:=S.fl.filter fun r=>!(r.1 == k) }
noncomputable def Xs2 (S:NS) (es:List Ev) (q:Int × Fl):NS × List Ev :=
 if ((S.cut q.1).fl.any fun r=>decide (r.2.map=q.2.map)) then (S.cut q.1,es) else
 ({ S.cut q.1 with tb:=(S.tb.cls q.2.map).1 },if (S.tb.cls q.2.map).2.1 then es++[(S.cut q.1).ev q.2.map true] else es)
theorem Xj5 {S:NS} (hd:S.fl.Pairwise fun p q=>p.1≠q.1) {q:Int × Fl} (hq:q ∈ S.fl) (es:List Ev):endF (S,es) q.1=Xs2 S es q:=by
 have hf:S.fl.find? (fun r=>r.1 == q.1)=some q:=by
  cases hx:S.fl.find? (fun r=>r.1 == q.1) with
  | none=>have:=List.find?_eq_none.1 hx q hq;simp at this
  | some r =>
   have h1:=List.find?_some hx
   rw[Qfd hd (List.mem_of_find?_eq_some hx) hq (by simpa using h1)]
 unfold endF Xs2 NS.cut
 dsimp only
 rw[hf]
theorem Xzh {S:NS} (h:NJ S) (k:Int):NB (S.cut k) :=
 ⟨h.wf,fun q hq=>h.ids q (List.mem_filter.1 hq).1,h.dis.sublist List.filter_sublist,h.now,h.nx0⟩
theorem Xpm (S:NS) (k:Int):(S.cut k).keys=offN k S.keys:=by
 unfold NS.keys NS.cut offN
 dsimp only
 rw[List.filter_map]
 rfl
noncomputable def NS.rnd (S:NS) (d:Int) (i:Nat):NS × List Ev:=((S.ended d).take i).foldl endF (S.later d,[])
theorem Xpe (S:NS) (d:Int) (i:Nat) (h:i < (S.ended d).length):S.rnd d (i + 1)=endF (S.rnd d i) (S.ended d)[i]:=by
 unfold NS.rnd
 rw[List.take_succ,List.getElem?_eq_getElem h,List.foldl_append]
 rfl
theorem Qsf {S:NS} (h:NI S) {d:Int} (hd:¬ (d < 1∨549755813888 - S.now < d)) (i:Nat):EndsT (S.later d) (S.rnd d i).1 ((S.ended d).take i) (S.rnd d i).2:=by
 obtain ⟨es,e,hE⟩:=Qqb (h.later hd) ((S.ended d).take i)
 unfold NS.rnd
 rw[e];exact hE
theorem Xwr {S:NS} (h:NI S) {d:Int} (hd:¬ (d < 1∨549755813888 - S.now < d)) {i:Nat} (hi:i < (S.ended d).length):∃ q ∈ (S.rnd d i).1.fl,q.1=(S.ended d)[i]:=by
 have hE:=Qsf h hd i
 obtain ⟨t,ht,_,e⟩:=Qi3.1 (List.getElem_mem hi:(S.ended d)[i] ∈ outT S.tms (S.now + d.toNat + 1))
 obtain ⟨q,hq,rfl⟩:=List.mem_map.1 ht
 refine ⟨q,?_,e⟩
 rw[hE.fl]
 refine List.mem_filter.2 ⟨hq,?_⟩
 have hnd:(S.ended d).Pairwise (·≠·):=Xc4 (Xv0 h.dis) _
 have:q.1 ∉ (S.ended d).take i:=fun hm=>by
  obtain ⟨j,hj,ej⟩:=List.getElem_of_mem hm
  rw[List.length_take]at hj
  rw[List.getElem_take]at ej
  have:=(List.pairwise_iff_getElem.1 hnd) j i Zom hi Zom
  exact this (ej.trans e)
 rw[List.contains_eq_mem]
 simpa using this
theorem Xrt {l:List (Int × Fl)} (hd:l.Pairwise fun p q=>p.1≠q.1) {q:Int × Fl} (hq:q ∈ l):Qm8 (kvF l) (.int .i64 q.1)=kvF (l.filter fun r=>!(r.1 == q.1)):=by
 obtain ⟨i,hi,rfl⟩:=List.getElem_of_mem hq
 unfold Qm8
 rw[Qkh,Xdu hd hi]
 dsimp only
 have hs:l=l.take i++l[i]::l.drop (i + 1):=by rw[← List.drop_eq_getElem_cons hi,List.take_append_drop]
 have hpw:=List.pairwise_iff_getElem.1 hd
 have hA:(l.take i).filter (fun r=>!(r.1 == l[i].1))=l.take i:=List.filter_eq_self.2 fun r hr=>by
  obtain ⟨j,hj,rfl⟩:=List.getElem_of_mem hr
  rw[List.length_take]at hj
  rw[List.getElem_take]
  simpa using hpw j i Zom hi Zom
 have hB:(l.drop (i + 1)).filter (fun r=>!(r.1 == l[i].1))=l.drop (i + 1):=List.filter_eq_self.2 fun r hr=>by
  obtain ⟨j,hj,rfl⟩:=List.getElem_of_mem hr
  rw[List.length_drop]at hj
  rw[List.getElem_drop]
  simpa using (hpw i (i + 1 + j) hi Zom Zom).symm
 have hf:(l.filter fun r=>!(r.1 == l[i].1))=l.take i++l.drop (i + 1):=by
  generalize hx:l[i]=x at *
  conv=>lhs;rw[hs]
  rw[List.filter_append,List.filter_cons,if_neg Zsi,hA,hB]
 rw[hf,List.eraseIdx_eq_take_drop_succ]
 unfold kvF
 rw[List.map_append,List.map_take,List.map_drop]
theorem To.natS {p:List Nat} {t t':List (Nat × AV)} {ex ex':List (Nat × Bk)} {S S':NS} {T:WT} {n k:Nat} (ρ:Nat→Nat) (hT:T.wf) (H':HL (ex'++Qm S' T) k) (hk:70≤k) (hex':∀ q ∈ ex',70≤q.1) (hex:∀ q ∈ ex,67≤q.1) (hp:∀ b ∈ p,b < 70) (hρ:∀ b,b < 70→ρ b=b) (hρ2:∀ b,70≤b→b < k→70≤ρ b) (hinj:∀ b b',70≤b→b < k→70≤b'→b' < k→ρ b=ρ b'→b=b')
  (e67:Qb (ex++Qm S T) n 67=.cells S'.cells) (e68:Qb (ex++Qm S T) n 68=.mapb (kvF S'.fl) false) (e69:Qb (ex++Qm S T) n 69=.cells (Qp S'.keys)) (hl:∀ b,70≤b→b < k→Qb (ex++Qm S T) n (ρ b)=Xf ρ (Qb (ex'++Qm S' T) k b)) (ht:Qw ρ k t t'):To p ⟨t,ex++Qm S T,n⟩ ⟨t',ex'++Qm S' T,k⟩:=by
 have hlow:∀ b,b < 70→Qb (ex'++Qm S' T) k b=Qb (Qm S' T) 70 b:=fun b hb=>by
  rw[Xn fun q hq e=>by have:=hex' q hq;omega]
  exact (Qi hT).lo hb k
 refine To.fam ρ H' (fun b hb=>⟨hρ b (hp b hb),by have:=hp b hb;omega⟩) (fun b b' hb hb' e=>?_) (fun b hb=>?_) ht
 ·by_cases h1:b < 70<;>by_cases h2:b' < 70
  ·rw[hρ b h1,hρ b' h2]at e;exact e
  ·rw[hρ b h1]at e;have:=hρ2 b' Zom hb';omega
  ·rw[hρ b' h2]at e;have:=hρ2 b Zom hb;omega
  ·exact hinj b b' Zom hb Zom hb' e
 ·by_cases h1:b < 70
  ·rw[hρ b h1,hlow b h1]
   have hren:Xf ρ (Qb (Qm S' T) 70 b)=Qb (Qm S' T) 70 b:=by
    rw[Ww (g:=id) (fun b hb=>hρ b hb) ((Qi hT).nm h1),Wz]
   rw[hren]
   rcases (by omega:b < 67∨b=67∨b=68∨b=69) with h|rfl|rfl|rfl
   ·rw[Xn fun q hq e=>by have:=hex q hq;omega]
    have e:∀ (X:NS) (m:Nat),Qb (Qm X T) m b=Qb T.hb 67 b:=fun X m=>by
     unfold Qm
     rw[Qc,if_neg Zom,Qc,if_neg Zom,Qc,if_neg Zom]
     exact ((WT.HLb hT).live h m).1
    rw[e,e]
   ·exact e67
   ·exact e68
   ·exact e69
  ·exact hl b Zom hb
theorem Xgf {S:NS} (h:S.tb.wf) (k:Int):(S.cut k).cells=S.cells.set 31 (.sl 1 69 0 (S.cut k).fl.length (S.cut k).fl.length):=by
 rw[NS.cells_set h 1];rfl
theorem Xpw (a b:List Ev):Zc a++Zc b=Zc (a++b):=by simp[Zc]
def bM (S:NS) (m:Mp) (x:Int):Bool:=S.fl.any fun q=>q.1 == x && decide (q.2.map=m)
theorem Xes {S:NS} (hd:S.fl.Pairwise fun p q=>p.1≠q.1) {q:Int × Fl} (hq:q ∈ S.fl) (m:Mp):bM S m q.1=decide (q.2.map=m):=by
 unfold bM
 rw[Bool.eq_iff_iff,List.any_eq_true]
 constructor
 ·rintro ⟨x,hx,h⟩
  rw[Bool.and_eq_true,beq_iff_eq]at h
  rw[← Qfd hd hx hq h.1];exact h.2
 ·intro h
  exact ⟨q,hq,by rw[h];simp⟩
theorem Xyr {S:NS} (hd:S.fl.Pairwise fun p q=>p.1≠q.1) (m:Mp):S.keys.any (bM S m)=S.fl.any fun q=>decide (q.2.map=m):=by
 unfold NS.keys
 rw[List.any_map,Bool.eq_iff_iff,List.any_eq_true,List.any_eq_true]
 constructor<;>rintro ⟨q,hq,h⟩
 ·exact ⟨q,hq,by rw[← Xes hd hq];exact h⟩
 ·exact ⟨q,hq,by show bM S m q.1=true;rw[Xes hd hq];exact h⟩
set_option maxHeartbeats 8000000 in
theorem Xi3 (gl:Nat→AV) (S:NS) (T:WT) (D:List Tm) (hS:NI S) (hW:WI T S.now D) (d:Int) (hd:d < 1∨549755813888 - S.now < d):GD Tryz.prog gl 60 [.ptr 67 0,.int .i64 d] (Qm S T) 70 [67] (.agg (rpE 2).enc) (Qm S T):=by
 have hT:=hW.wf
 refine Qlt.gq (of_decide_eq_true rfl) (Ze hT) Zsi fun c hgh hg=>?_
 subst hg
 conv in tcO _ _=>cbv
 obtain ⟨Z1,hZ1,hz1⟩:∃ Z:Int,(549755813888:Int)=Z∧0≤Z∧Z≤549755813888:=⟨_,rfl,by decide,by decide⟩
 rw[hZ1]
 have hHi:=fun n b hb=>Yb (S:=S) hT n b hb
 have h67:=Jw S T
 have hcl:=NS.cells_len hS.wf
 have c33:=NS.c33 hS.wf
 have hnow:=hW.now_gd c.gl
 have hn0:=hS.now
 refine Qg (An @hHi (An @h67 (An @hcl @c33))) ?_
 refine Qu6 (ex:=[(71,_),(70,_),(67,_),(68,_),(69,_)]) hnow hT Zde Zsi (by exact Qq (An @hcl @c33)) (by simp[Qe]) ?_
 refine Qd ?_
 (refine Qa (fun h1=>?_) (fun h1=>?_)<;>try exact h1.elim)
 rotate_left
 ·omega
 unfold rpE Rp.enc
 refine Qg @hHi ?_
 exact ⟨(),To.drop (ex:=[(71,_),(71,_),(70,_)]) (Qi hT) Zsi Zsi (by simp[Qw,Qe,nmAll,look,ren,rens])⟩
set_option maxHeartbeats 8000000 in
theorem Xo8 (gl:Nat→AV) (h0:gl 0=.xp (Qp Xo) 0) (S:NS) (T:WT) (D:List Tm) (hS:NI S) (htold:S.told≤90000) (hW:WI T S.now D) (hD:D.Perm S.tms) (d:Int) (hd:¬ (d < 1∨549755813888 - S.now < d)):∃ T' D',WI T' (S.tick d).2.now D'∧D'.Perm (S.tick d).2.tms∧GD Tryz.prog gl 60 [.ptr 67 0,.int .i64 d] (Qm S T) 70 [67] (.agg (S.tick d).1.enc) (Qm (S.tick d).2 T'):=by
 have hT:=hW.wf
 have hn0:=hS.now
 obtain ⟨dn,rfl⟩:∃ k:Nat,d=k:=⟨d.toNat,by omega⟩
 obtain ⟨T',hW',hadv⟩:=hW.adv_gd gl (S.now + dn)
 have hR:Qiw S.now D (S.now + dn)=(0,S.ended dn,S.now + dn,D.filter fun t=>decide (S.now + dn < t.due)):=by
  unfold Qiw NS.ended
  rw[if_neg Zom,Xns hD]
  have:((S.now:Int) + dn).toNat=S.now + dn:=by omega
  rw[this,Int.toNat_natCast]
 rw[hR]at hW' hadv
 dsimp only at hW' hadv
 have hT':=hW'.wf
 rw[Qke,if_neg hd]
 have hEnd:=(hS.tick1 hd).choose_spec.2.1
 refine ⟨T',D.filter fun t=>decide (S.now + dn < t.due),?_,?_,?_⟩
 ·show WI T' (List.foldl endF (S.later dn,[]) (S.ended dn)).1.now _
  rw[hEnd.now];exact hW'
 ·refine (hD.filter _).trans (List.Perm.of_eq ?_)
  show _=NS.tms (List.foldl endF (S.later dn,[]) (S.ended dn)).1
  unfold NS.tms
  rw[hEnd.fl,List.filter_map]
  show List.map _ (S.fl.filter _)=List.map _ (S.fl.filter _)
  congr 1
  refine List.filter_congr fun q hq=>?_
  show decide (S.now + dn < q.2.due.toNat)=!((S.ended dn).contains q.1)
  rw[List.contains_eq_mem,← decide_not,decide_eq_decide]
  constructor
  ·intro hlt hm
   obtain ⟨t,ht,h1,h2⟩:=Qi3.1 hm
   obtain ⟨r,hr,rfl⟩:=List.mem_map.1 ht
   rw[Qfd hS.dis hr hq h2]at h1
   simp only[Int.toNat_natCast]at h1
   omega
  ·intro hm
   refine Nat.lt_of_not_le fun hle=>hm (Qi3.2 ⟨⟨q.1,q.2.due.toNat⟩,List.mem_map.2 ⟨q,hq,rfl⟩,?_,rfl⟩)
   show q.2.due.toNat < S.now + (dn:Int).toNat + 1
   rw[Int.toNat_natCast];omega
 refine Qlt.gq (of_decide_eq_true rfl) (Ze hT) Zsi fun c hgh hg=>?_
 subst hg
 conv in tcO _ _=>cbv
 obtain ⟨Z1,hZ1,hz1⟩:∃ Z:Int,(549755813888:Int)=Z∧0≤Z∧Z≤549755813888:=⟨_,rfl,by decide,by decide⟩
 rw[hZ1]
 have hHi:=fun n b hb=>Yb (S:=S) hT n b hb
 have h67:=Jw S T
 have hcl:=NS.cells_len hS.wf
 have c33:=NS.c33 hS.wf
 have c35:=NS.c35 hS.wf
 have hnow:=hW.now_gd c.gl
 have hr4:=hS.ref
 obtain ⟨v,hv⟩:∃ v:Nat,v=min 4 (S.ref + min dn 4):=⟨_,rfl⟩
 obtain ⟨m1,hm1⟩:∃ m1:Nat,m1=min dn 4:=⟨_,rfl⟩
 have hmn1:∀ d1:Decidable ((4:Int) < (dn:Int)),@ite Int ((4:Int) < (dn:Int)) d1 4 dn=m1:=fun d1=>by split<;>omega
 have hmn2:∀ d1:Decidable ((S.ref:Int) + m1 < 4),@ite Int ((S.ref:Int) + m1 < 4) d1 (S.ref + m1) 4=v:=fun d1=>by split<;>omega
 have hSL:S.later dn={ S with now:=S.now + dn,ref:=v }:=by unfold NS.later;rw[hv,Int.toNat_natCast]
 have s35:S.cells.set 35 (.int .i64 v)=(S.later dn).cells:=by rw[hSL,NS.s35 hS.wf];rfl
 have hclL:(S.later dn).cells.length=38:=NS.cells_len (S:=S.later dn) hS.wf
 have l33:(S.later dn).cells.getD 33 .any=.ptr 0 0:=NS.c33 (S:=S.later dn) hS.wf
 refine Qg (An @hHi (An @h67 (An @hcl @c33))) ?_
 refine Qu6 (ex:=[(71,_),(70,_),(67,_),(68,_),(69,_)]) hnow hT Zde Zsi (by exact Qq (An @hcl @c33)) (by simp[Qe]) ?_
 refine Qd ?_
 (refine Qa (fun h1=>?_) (fun h1=>?_)<;>try exact h1.elim)
 ·omega
 refine Qg (An @hcl @c35) ?_
 erw [hmn1,hmn2,s35]
 refine Qg (An @hclL @l33) ?_
 have H2:HL ([(71,.cells [.int .i64 0,.str [],.bool false,.str []]),(70,.cells [.ptr 67 0])]++Qm (S.later dn) T') 72:=((Qi hT').more (by simp[nmB,nmAll,Qe])).more (by simp[nmB,nmAll,Qe])
 refine Ut (v:=false) (pp:=[67]) (ex:=[(67,_),(71,_),(70,_),(67,_),(68,_),(69,_)]) (s3:=⟨[(2,.ptr 70 0),(4,.ptr 71 0),(48,.tup [.isl (S.ended dn).length (Qp (S.ended dn)),.int .i64 0])],[(71,.cells [.int .i64 0,.str [],.bool false,.str []]),(70,.cells [.ptr 67 0])]++Qm (S.later dn) T',72⟩) hgh hadv (WT.HLb hT) (WT.HLb hT') (by simp[Qe,nmAll,Un]) Zde Zde Zsi rfl ?_ ?_ ?_
 ·exact Qq @Xg
 ·rw[Qu9 (by simp[Qe,nmAll,Un])]
  refine To.natWB (k:=72) (r:=69) hT' H2 Zde Zsi Zsi (fun b b' h h' e=>Qot Zde h h' e) ?_ Zde ?_ ?_ rfl rfl (fun b h1 h2=>?_) ?_
  ·intro q hq b hb e
   have h1:mv1 139 b < 2∨141≤mv1 139 b:=by unfold mv1;split<;>omega
   simp at hq
   rcases hq with rfl|rfl|rfl|rfl|rfl|rfl<;>dsimp only at e<;>omega
  ·intro b hb
   have h1:mv1 139 b < 2∨141≤mv1 139 b:=by unfold mv1;split<;>omega
   omega
  ·rfl
  ·rcases (by omega:b=70∨b=71) with rfl|rfl<;>rfl
  ·have hir:rens (nr (mv1 139) 69) (Qp (S.ended dn))=Qp (S.ended dn):=Qcx _ _
   simp[Qw,Qe,nmAll,look,ren,rens,Un,nr,hir]
 clear s35 hmn1 hmn2 l33
 have hEl:=Xw (S.ended dn)
 have hE48:(S.ended dn).length≤48:=Nat.le_trans (Qyq _ _) (by unfold NS.tms;rw[List.length_map];exact hS.len)
 refine Qd ?_
 have hHl:=fun n b hb=>Yb (S:=S.later dn) hT' n b hb
 refine Qdv 8 5 rfl (by exact Qq @hHl) ?_
 unfold St.named
 refine Yj (fun i:Nat=>i≤(S.ended dn).length) (fun i=>⟨[(2,.ptr 70 0),(4,.ptr 71 0),(8,.sl 5 72 0 (S.rnd dn i).2.length (S.rnd dn i).2.length),(51,.isl (S.ended dn).length (Qp (S.ended dn))),(52,.int .i64 (S.ended dn).length),(53,.int .i64 i)],[(72,.cells (Zc (S.rnd dn i).2)),(71,.cells [.int .i64 0,.str [],.bool false,.str []]),(70,.cells [.ptr 67 0])]++Qm (S.rnd dn i).1 T',73⟩) (fun i=>(S.ended dn).length - i) Qlt.mixed [67] hgh
  ⟨0,Nat.zero_le _,To.sel (by (refine XG ?_;((try (repeat' with_reducible refine And.intro ?_ ?_));(try any_goals (first|refine zm ?_|exact CL|fail))));all_goals rfl) fun b=>rfl⟩ fun i hi=>?_
 have hE:=Qsf hS hd i
 have hnext:=Xpe S dn i
 have hmem:=Xwr hS hd (i:=i)
 have hlen:(S.rnd dn i).2.length≤48:=Nat.le_trans hE.len (by rw[List.length_take];omega)
 have hlast:i=(S.ended dn).length→(S.rnd dn i)=(S.ended dn).foldl endF (S.later dn,[]):=fun e=>by unfold NS.rnd;rw[e,List.take_length]
 generalize hx:S.rnd dn i=x at *
 obtain ⟨Si,es⟩:=x
 dsimp only at hE hmem hlen hnext ⊢
 have hHi:=fun n b hb=>Yb (S:=Si) hT' n b hb
 have h67:=Jw Si T'
 have h68:=Qgc Si T'
 have h69:=Qg8 Si T'
 have hcl:=NS.cells_len hE.nj.wf
 have c30:=NS.c30 hE.nj.wf
 have c31:=NS.c31 hE.nj.wf
 have hks:=Qce Si.fl
 have hkl:=Qfl Si
 refine Qd ?_
 (refine Qa (fun h2=>?_) (fun h2=>?_)<;>try exact h2.elim)
 ·have hin:i < (S.ended dn).length:=by omega
  have hgk:=Qcv (S.ended dn) i hin
  have hnext:=hnext hin
  obtain ⟨q,hq,hqe⟩:=hmem hin
  rw[← hqe]at hgk hnext
  rw[Xj5 hE.nj.dis hq]at hnext
  have hki:=Uo q.1
  have hga:=Qi9 hE.nj.dis hq (.agg Fl.zero)
  have hqm:=hE.nj.gt.maps _ (hE.nj.inm q hq)
  have hqb:=hE.nj.ok.bd _ (hE.nj.inm q hq)
  obtain ⟨k,⟨mp,ms,mi,ma,mt⟩,g0,g1,g2,g3,g4⟩:=q
  unfold Fl.enc Kw at hga
  dsimp only at hga hgk hki hqm hqb hnext
  refine Qg (An @hgk (An @hHi (An @h67 (An @hcl @c30)))) ?_
  ((first|refine Qa3 Ko ?_|refine Ub Ko ?_);(have zf1:=@h68;have zf2:=@hks;have zf3:=@hki;have zf4:=@hga;have zf5:=@hHi;have zf6:=@h67;have zf7:=@hcl;have zf8:=@c30;refine XG ?_;clear zf1 zf2 zf3 zf4 zf5 zf6 zf7 zf8;((try (repeat' with_reducible refine And.intro ?_ ?_));(try any_goals (first|refine zm ?_|exact CL|fail)))))
  refine Qg (An @h67 (An @hcl @c30)) ?_
  have hde:=Xrt hE.nj.dis hq
  dsimp only at hde
  have hkeys:Si.keys.length=Si.fl.length:=by simp[NS.keys]
  have hSl:=hE.nj.len
  have hdl:=Xvr c.gl Si.keys Zom k
  rw[hkeys]at hdl
  have f31:(Si.cells.set 31 (.sl 1 69 0 (offN k Si.keys).length Si.fl.length)).getD 31 .any=.sl 1 69 0 (offN k Si.keys).length Si.fl.length:=by rw[Qbk (by rw[hcl];decide),if_pos rfl]
  ((first|refine Qrz Ko ?_|refine Qos Ko ?_);(have zf1:=@h68;have zf2:=@hks;have zf3:=@hki;have zf4:=@hde;have zf5:=@h67;have zf6:=@hcl;have zf7:=@c31;refine XG ?_;clear zf1 zf2 zf3 zf4 zf5 zf6 zf7;((try (repeat' with_reducible refine And.intro ?_ ?_));(try any_goals (first|refine zm ?_|exact CL|fail)))))
  ((first|refine Qy (ins:=[69,73]) hdl ?_ ?_|refine Qv (ins:=[69,73]) hdl ?_ ?_|refine Qu (ins:=[69,73]) hdl ?_ ?_|refine Qr (ins:=[69,73]) hdl ?_ ?_)<;>(have zf1:=@h69;have zf2:=@hHi;have zf3:=@h67;have zf4:=@hcl;have zf5:=@c31;have zf6:=@f31;refine XG ?_;clear zf1 zf2 zf3 zf4 zf5 zf6;(try first|exact rfl|exact True.intro);((try (repeat' with_reducible refine And.intro ?_ ?_));(try any_goals (first|refine zm ?_|exact CL|fail)))))
  ·decide
  have hck:=Xpm Si k
  have hcl2:(offN k Si.keys).length=(Si.cut k).fl.length:=by rw[← hck];simp[NS.keys]
  have hcc:=Xgf hE.nj.wf k
  rw[hcl2]
  rw[← hck]
  have hL2:(Si.cut k).fl.length≤Si.fl.length:=List.length_filter_le _ _
  have hEn:∀ n,nmAll n (Zc es):=fun n=>Qbq n es
  have hEr:∀ ρ,rens ρ (Zc es)=Zc es:=fun ρ=>by
   rw[Yf]
   exact (List.map_congr_left fun v hv=>Km (Xi.1 (hEn 0) v hv)).trans (List.map_id _)
  have H5:HL ([(74,.cells [.int .i64 mp,.int .i64 ms,.int .i64 mi,.int .i64 ma,.int .i64 mt]),(73,.cells [.int .i64 k]),(72,.cells (Zc es)),(71,.cells [.int .i64 0,.str [],.bool false,.str []]),(70,.cells [.ptr 67 0])]++Qm (Si.cut k) T') 75:=((((Qnt hT').more (by simp[nmB,nmAll,Qe])).more (by exact hEn _)).more (by simp[nmB,nmAll,Qe])).more (by simp[nmB,nmAll,Qe])
  refine Qez (p:=[67]) hgh (To.wkT 81 (y:=.sl 1 69 0 (Si.cut k).fl.length (Si.cut k).fl.length) (Wk.cap 1 69 0 _ _)) ?_
  refine Qez (p:=[67]) hgh (To.wkB (b:=67) (cs:=Si.cells.set 31 (.sl 1 69 0 (Si.cut k).fl.length Si.fl.length)) (cs':=(Si.cut k).cells) rfl (by rw[hcc];simp) fun j hj=>?_) ?_
  ·rw[hcc]
   rw[List.length_set]at hj
   by_cases e:31=j
   ·subst e
    rw[Qbk (by rw[hcl];decide),Qbk (by rw[hcl];decide),if_pos rfl,if_pos rfl]
    exact Wk.cap 1 69 0 _ _
   ·rw[Qbk (by rw[hcl];decide),Qbk (by rw[hcl];decide),if_neg e,if_neg e]
    exact Wk.refl _
  refine Qez (p:=[67]) (s':=⟨[(2,.ptr 70 0),(4,.ptr 71 0),(8,.sl 5 72 0 es.length es.length),(11,.ptr 74 0),(51,.isl (S.ended dn).length (Qp (S.ended dn))),(52,.int .i64 (S.ended dn).length),(53,.int .i64 i),(81,.sl 1 69 0 (Si.cut k).fl.length (Si.cut k).fl.length),(82,.cl 101 [.ptr 70 0,.ptr 74 0])],[(74,.cells [.int .i64 mp,.int .i64 ms,.int .i64 mi,.int .i64 ma,.int .i64 mt]),(73,.cells [.int .i64 k]),(72,.cells (Zc es)),(71,.cells [.int .i64 0,.str [],.bool false,.str []]),(70,.cells [.ptr 67 0])]++Qm (Si.cut k) T',75⟩) hgh ?_ ?_
  ·refine To.natS (ex:=[(67,_),(67,_),(73,_),(69,_),(68,_),(74,_),(74,_),(73,_),(73,_),(72,_),(71,_),(70,_)]) id hT' H5 Zde Zsi Zsi Zsi (fun _ _=>rfl) (fun b h _=>h) (fun b b' _ _ _ _ e=>e) rfl rfl rfl (fun b h1 h2=>?_) ?_
   ·rw[Wz]
    rcases (by omega:b=70∨b=71∨b=72∨b=73∨b=74) with rfl|rfl|rfl|rfl|rfl<;>rfl
   ·have hir:=Kd (Qp (S.ended dn))
    simp[Qw,Qe,nmAll,look,ren,rens,Un,hir]
  have hnb:=Xzh hE.nj k
  have hcon:=Qyv c.gl (l:=(Si.cut k).keys) (kb:=69) (f:=101) (caps:=[.ptr 70 0,.ptr 74 0]) (b:=bM (Si.cut k) ⟨mp,ms,mi,ma,mt⟩) H5 (by rw[hck,hcl2];omega) Zde (fun n=>rfl) (by simp[nmAll,Qe]) (fun x hx=>by
   obtain ⟨q,hq,rfl⟩:=List.mem_map.1 hx
   rw[Xes hnb.dis hq]
   exact Xhh c.gl hnb H5 (fun n=>rfl) (fun n=>rfl) (fun n=>rfl) (fun n=>rfl) hq)
  rw[Xyr hnb.dis,hck,hcl2]at hcon
  refine Ws (v:=false) (ex:=[]) hcon H5 H5 (by simp[Qe]) Zde Zsi rfl ?_ ?_
  ·exact Qq @Xg
  unfold Xs2 at hnext
  dsimp only at hnext
  cases hany:(Si.cut k).fl.any (fun q=>decide (q.2.map=⟨mp,ms,mi,ma,mt⟩)) with
  | true =>
   rw[hany,if_pos rfl]at hnext
   refine Qd ?_
   (refine Qa (fun h3=>?_) (fun h3=>?_)<;>try exact h3.elim)
   refine Qd ?_
   refine ⟨i + 1,by omega,?_,by omega⟩
   rw[hnext]
   have H3:HL ([(72,.cells (Zc es)),(71,.cells [.int .i64 0,.str [],.bool false,.str []]),(70,.cells [.ptr 67 0])]++Qm (Si.cut k) T') 73:=((Qnt hT').more (by simp[nmB,nmAll,Qe])).more (by exact hEn _)
   refine To.drop (ex:=[(74,_),(73,_)]) H3 Zsi Zsi ?_
   have hir:=Kd (Qp (S.ended dn))
   simp[Qw,Qe,nmAll,look,ren,rens,Un,hir]
  | false =>
   rw[hany,if_neg Zsi]at hnext
   have hC:=Xge c.gl Si.tb hE.nj.ok ⟨mp,ms,mi,ma,mt⟩
   obtain ⟨_,_,_,hg2,hw2,_,_⟩:=hE.nj.gt.cls hE.nj.wf (hE.nj.inm _ hq)
   dsimp only at hg2 hw2
   unfold Qbz Mp.enc at hC
   dsimp only at hC
   have h67:=Jw (Si.cut k) T'
   have hHi:=fun n b hb=>Yb (S:=Si.cut k) hT' n b hb
   have hclc:=NS.cells_len (S:=Si.cut k) hE.nj.wf
   have htkc:List.take 30 (Si.cut k).cells=Si.tb.enc:=NS.cells_tb (S:=Si.cut k) hE.nj.wf
   have hevg:∀ tb,GT tb→True:=fun _ _=>trivial
   generalize Si.tb.cls ⟨mp,ms,mi,ma,mt⟩=cl at *
   obtain ⟨tb2,gv,ce⟩:=cl
   dsimp only at hC hw2 hg2 hnext
   have hel:=Tb.enc_len hw2
   have hey:=Tb.enc_nm tb2
   have htt:tb2.enc.take 30=tb2.enc:=List.take_of_length_le (by rw[hel];decide)
   have hst:=NS.s_tb (S:=Si.cut k) hE.nj.wf hw2
   refine Qd ?_
   (refine Qa (fun h3=>?_) (fun h3=>?_)<;>try exact h3.elim)
   refine Qg (An @h67 (An @hclc @htkc)) ?_
   refine Xa hC (An @hHi (An @hel (An @h67 (An @hclc (An @htt @hst))))) ?_
   refine Qg (An @h67 (An @hclc (An @hel (An @htt @hst)))) ?_
   cases gv with
   | false =>
    (refine Qa (fun h4=>?_) (fun h4=>?_)<;>try exact h4.elim)
    refine Qd ?_
    refine ⟨i + 1,by omega,?_,by omega⟩
    rw[hnext,if_neg Zsi]
    have H3:HL ([(72,.cells (Zc es)),(71,.cells [.int .i64 0,.str [],.bool false,.str []]),(70,.cells [.ptr 67 0])]++Qm { Si.cut k with tb:=tb2 } T') 73:=((Qnt hT').more (by simp[nmB,nmAll,Qe])).more (by exact hEn _)
    refine To.natS (ex:=[(67,_),(150,_),(150,_),(74,_),(73,_),(72,_),(71,_),(70,_)]) id hT' H3 Zde Zsi Zsi Zsi (fun _ _=>rfl) (fun b h _=>h) (fun b b' _ _ _ _ e=>e) rfl rfl rfl (fun b h1 h2=>?_) ?_
    ·rw[Wz]
     rcases (by omega:b=70∨b=71∨b=72) with rfl|rfl|rfl<;>rfl
    ·have hir:=Kd (Qp (S.ended dn))
     simp[Qw,Qe,nmAll,look,ren,rens,Un,hir]
   | true =>
    (refine Qa (fun h4=>?_) (fun h4=>?_)<;>try exact h4.elim)
    rw[if_pos rfl]at hnext
    have hnow2:(Si.cut k).now=S.now + dn:=hE.now
    have hev:=Qpn c.gl { Si.cut k with tb:=tb2 } T' _ (hnb.setTb hw2) (by show WI T' (Si.cut k).now _;rw[hnow2];exact hW') ⟨mp,ms,mi,ma,mt⟩ hqb true
    unfold Mp.enc at hev
    dsimp only at hev
    rw[show ({ Si.cut k with tb:=tb2 }:NS).ev ⟨mp,ms,mi,ma,mt⟩ true=(Si.cut k).ev ⟨mp,ms,mi,ma,mt⟩ true from rfl]at hev
    have happ:=Xpw es [(Si.cut k).ev ⟨mp,ms,mi,ma,mt⟩ true]
    obtain ⟨E,hEe⟩:∃ E,Zc [(Si.cut k).ev ⟨mp,ms,mi,ma,mt⟩ true]=E:=⟨_,rfl⟩
    have hE1:∀ n,nmAll n E:=fun n=>by rw[← hEe];exact Qbq n _
    have hE5:E.length=1 * 5:=by rw[← hEe,Qfn];rfl
    have hE6:(Zc es).length=es.length * 5:=Qfn es
    rw[hEe]at hev happ
    refine Qd ?_
    refine Qg1 (Qdn (A:=[]) (B:=[(150,_),(150,_),(74,_),(73,_),(72,_),(71,_),(70,_)]) (S:=Si.cut k) (S':={ Si.cut k with tb:=tb2 }) (T:=T') rfl Zsi Zsi) ?_
    refine Ws (v:=false) (ex:=[(150,_),(150,_),(74,_),(73,_),(72,_),(71,_),(70,_)]) hev (Qi hT') (Qi hT') (by simp[Qe,hE1]) Zde Zsi rfl ?_ ?_
    ·exact Qq @Xg
    have hHi2:=fun n b hb=>Yb (S:={ Si.cut k with tb:=tb2 }) hT' n b hb
    refine Qd ?_
    refine Zr (An @hHi2 (An @hE5 (An @hE6 @happ))) ?_
    refine ⟨i + 1,by omega,?_,by omega⟩
    rw[hnext]
    have hE2n:∀ n,nmAll n (Zc (es++[(Si.cut k).ev ⟨mp,ms,mi,ma,mt⟩ true])):=fun n=>Qbq n _
    have hl2:(es++[(Si.cut k).ev ⟨mp,ms,mi,ma,mt⟩ true]).length=es.length + 1:=by simp
    dsimp only
    rw[hl2]
    generalize Zc (es++[(Si.cut k).ev ⟨mp,ms,mi,ma,mt⟩ true])=E2 at *
    have hE2r:∀ ρ,rens ρ E2=E2:=fun ρ=>by
     rw[Yf]
     exact (List.map_congr_left fun v hv=>Km (Xi.1 (hE2n 0) v hv)).trans (List.map_id _)
    have H3:HL ([(72,.cells E2),(71,.cells [.int .i64 0,.str [],.bool false,.str []]),(70,.cells [.ptr 67 0])]++Qm { Si.cut k with tb:=tb2 } T') 73:=((Qnt hT').more (by simp[nmB,nmAll,Qe])).more (by exact hE2n _)
    refine To.natS (ex:=[(221,_),(72,.dead),(150,_),(150,_),(74,_),(73,_),(72,_),(71,_),(70,_)]) (fun b=>if b=72 then 221 else b) hT' H3 Zde Zsi Zsi Zsi (fun b hb=>if_neg Zom) (fun b h h2=>?_) (fun b b' h1 h2 h3 h4 e=>?_) rfl rfl rfl (fun b h1 h2=>?_) ?_
    ·split<;>omega
    ·(repeat' split at e)<;>omega
    ·rcases (by omega:b=70∨b=71∨b=72) with rfl|rfl|rfl
     ·rfl
     ·rfl
     ·show Bk.cells E2=Bk.cells (rens _ E2)
      rw[hE2r]
    ·have hir:rens (fun b=>if b=72 then 221 else b) (Qp (S.ended dn))=Qp (S.ended dn):=Qcx _ _
     simp[Qw,Qe,nmAll,look,ren,rens,Un,hir]
 ·obtain rfl:i=(S.ended dn).length:=by omega
  rw[← hlast rfl]
  have htl:Si.told=S.told:=hE.told
  have hlog:=Qz1 c.gl h0 Si T' hE.nj hT' Zom es Zom (fun e he=>by
   obtain ⟨g1,g2⟩:=hE.good e he
   refine ⟨g2,?_⟩
   cases es with
   | nil=>cases he
   | cons e0 l=>exact g1.trans (hE.good e0 List.mem_cons_self).1.symm)
  rw[htl]at hlog
  have hE6:(Zc es).length=es.length * 5:=Qfn es
  have hcut5:((Zc es).drop 0).take (es.length * 5)=Zc es:=by rw[List.drop_zero,List.take_of_length_le Zom]
  have hEn:∀ n,nmAll n (Zc es):=fun n=>Qbq n es
  refine Qd ?_
  refine Qez (p:=[67]) hgh (To.frz (b:=72) (i:=106) rfl rfl) ?_
  rw[hcut5]
  refine Ws (v:=false) (n:=73) (ex:=[(72,.dead),(72,_),(71,_),(70,_)]) hlog (Qi hT') (Qi hT') (by simp[Qe]) Zde Zsi rfl ?_ ?_
  ·exact Qq (An @Xg @hEn)
  refine Qd ?_
  unfold Rp.enc
  exact ⟨(),To.drop (ex:=[(71,_),(72,.dead),(72,_),(71,_),(70,_)]) (Qi hT') Zsi Zsi (by simp[Qw,Qe,nmAll,look,ren,rens])⟩
theorem NS.s36 {S:NS} (h:S.tb.wf) (v:Nat):S.cells.set 36 (.int .i64 v)=({ S with acts:=v }:NS).cells:=NS.cells_set h 6 _
theorem NS.cells_pool {S:NS} (h:S.tb.wf):S.cells.take 21=S.tb.pool.enc:=by
 rw[← Tb.enc_pool h,← NS.cells_tb h,List.take_take];rfl
theorem NS.s_pool {S:NS} (h:S.tb.wf) {p:Pool} (hp:p.wf):Ym S.cells 0 p.enc=({ S with tb:={ S.tb with pool:=p } }:NS).cells:=by
 unfold Ym NS.cells Tb.enc Tb.hd
 rw[List.take_zero,List.nil_append,Nat.zero_add,Pool.enc_len hp,← Pool.enc_len h.pool,List.append_assoc,List.append_assoc,List.append_assoc,List.drop_left]
 simp[NS.tl]
set_option maxHeartbeats 4000000 in
theorem Xs7 (gl:Nat→AV) (S:NS) (T:WT) (hw:S.tb.wf) (hT:T.wf) (ak an ad:Int) (f:List UInt8) (ha:300≤S.acts):GD Tryz.prog gl 20 [.ptr 67 0,.agg [.int .i64 ak,.int .i64 an,.int .i64 ad,.str f]] (Qm S T) 70 [67] (.agg (rpE 6).enc) (Qm S T):=by
 refine Qej.gq (of_decide_eq_true rfl) (Ze hT) Zsi fun c hgh hg=>?_
 subst hg
 conv in tcO _ _=>cbv
 have hHi:=fun n b hb=>Yb (S:=S) hT n b hb
 have h67:=Jw S T
 have hcl:=NS.cells_len hw
 have c36:=NS.c36 hw
 refine Qg (An @hHi (An @h67 (An @hcl @c36))) ?_
 (refine Qa (fun h1=>?_) (fun h1=>?_)<;>try exact h1.elim)
 refine Qg (An @hHi (An @h67 (An @hcl @c36))) ?_
 (refine Qa (fun h2=>?_) (fun h2=>?_)<;>try exact h2.elim)
 ·unfold rpE Rp.enc
  refine Qg @hHi ?_
  exact ⟨(),To.drop (ex:=[(71,_),(71,_),(70,_)]) (Qi hT) Zsi Zsi (by simp[Qw,Qe,nmAll,look,ren,rens])⟩
 ·omega
set_option maxHeartbeats 4000000 in
theorem Yal (gl:Nat→AV) (S:NS) (T:WT) (hw:S.tb.wf) (hT:T.wf) (an ad:Int) (f:List UInt8) (ha:S.acts < 300) (r:Rp) (S1:NS) (T1:WT) (hT1:T1.wf) (ho:GD Tryz.prog gl 58 [.ptr 67 0,.agg [.int .i64 1,.int .i64 an,.int .i64 ad,.str f]] (Qm { S with acts:=S.acts + 1 } T) 70 [67] (.agg r.enc) (Qm S1 T1)):GD Tryz.prog gl 20 [.ptr 67 0,.agg [.int .i64 1,.int .i64 an,.int .i64 ad,.str f]] (Qm S T) 70 [67] (.agg r.enc) (Qm S1 T1):=by
 refine Qej.gq (of_decide_eq_true rfl) (Ze hT) Zsi fun c hgh hg=>?_
 subst hg
 conv in tcO _ _=>cbv
 have hHi:=fun n b hb=>Yb (S:=S) hT n b hb
 have h67:=Jw S T
 have hcl:=NS.cells_len hw
 have c36:=NS.c36 hw
 have s36:=NS.s36 hw (S.acts + 1)
 have hadd:(S.acts:Int) + 1=((S.acts + 1:Nat):Int):=by omega
 obtain ⟨r1,r2,r3,r4⟩:=r
 unfold Rp.enc at ho ⊢
 dsimp only at ho ⊢
 refine Qg (An @hHi (An @h67 (An @hcl @c36))) ?_
 (refine Qa (fun h1=>?_) (fun h1=>?_)<;>try exact h1.elim)
 refine Qg (An @hHi (An @h67 (An @hcl @c36))) ?_
 (refine Qa (fun h2=>?_) (fun h2=>?_)<;>try exact h2.elim)
 ·omega
 refine Qg (An @hHi (An @h67 (An @hcl (An @c36 (An @hadd @s36))))) ?_
 (refine Qa (fun h3=>?_) (fun h3=>?_)<;>try exact h3.elim)
 refine Qd ?_
 refine Qg1 (Qdn (A:=[]) (B:=[(71,_),(70,_)]) (S:=S) (S':={ S with acts:=S.acts + 1 }) (T:=T) rfl Zsi Zsi) ?_
 have H2:HL ([(71,.cells [.int .i64 0,.str [],.bool false,.str []]),(70,.cells [.int .i64 1,.int .i64 an,.int .i64 ad,.str f])]++Qm S1 T1) 72:=((Qi hT1).more (by simp[nmB,nmAll,Qe])).more (by simp[nmB,nmAll,Qe])
 refine Ut (v:=false) (pp:=[67]) (ex:=[(71,_),(70,_)]) (s3:=⟨[(4,.ptr 71 0),(31,.agg [.int .i64 r1,.str r2,.bool r3,.str r4])],[(71,.cells [.int .i64 0,.str [],.bool false,.str []]),(70,.cells [.int .i64 1,.int .i64 an,.int .i64 ad,.str f])]++Qm S1 T1,72⟩) hgh ho (Qi hT) (Qi hT1) (by simp[Qe,nmAll]) Zde Zsi Zsi rfl ?_ ?_ ?_
 ·exact Qq @Xg
 ·unfold Ja
  refine To.natM hT1 H2 Zde Zde Zsi Zsi Zsi (fun b h1 h2=>?_) ?_
  ·rcases (by omega:b=70∨b=71) with rfl|rfl<;>rfl
  ·simp[Qw,Qe,nmAll,look,ren,rens,Qfo,lw,Qea]
 have hHj:=fun n b hb=>Yb (S:=S1) hT1 n b hb
 refine Qg @hHj ?_
 exact ⟨(),To.drop (ex:=[(71,_),(71,_),(70,_)]) (Qi hT1) Zsi Zsi (by simp[Qw,Qe,nmAll,look,ren,rens])⟩
set_option maxHeartbeats 4000000 in
theorem Ya1 (gl:Nat→AV) (S:NS) (T:WT) (hw:S.tb.wf) (hT:T.wf) (an ad:Int) (f:List UInt8) (ha:S.acts < 300) (r:Rp) (S1:NS) (T1:WT) (hT1:T1.wf) (ho:GD Tryz.prog gl 59 [.ptr 67 0,.str f] (Qm { S with acts:=S.acts + 1 } T) 70 [67] (.agg r.enc) (Qm S1 T1)):GD Tryz.prog gl 20 [.ptr 67 0,.agg [.int .i64 2,.int .i64 an,.int .i64 ad,.str f]] (Qm S T) 70 [67] (.agg r.enc) (Qm S1 T1):=by
 refine Qej.gq (of_decide_eq_true rfl) (Ze hT) Zsi fun c hgh hg=>?_
 subst hg
 conv in tcO _ _=>cbv
 have hHi:=fun n b hb=>Yb (S:=S) hT n b hb
 have h67:=Jw S T
 have hcl:=NS.cells_len hw
 have c36:=NS.c36 hw
 have s36:=NS.s36 hw (S.acts + 1)
 have hadd:(S.acts:Int) + 1=((S.acts + 1:Nat):Int):=by omega
 obtain ⟨r1,r2,r3,r4⟩:=r
 unfold Rp.enc at ho ⊢
 dsimp only at ho ⊢
 refine Qg (An @hHi (An @h67 (An @hcl @c36))) ?_
 (refine Qa (fun h1=>?_) (fun h1=>?_)<;>try exact h1.elim)
 refine Qg (An @hHi (An @h67 (An @hcl @c36))) ?_
 (refine Qa (fun h2=>?_) (fun h2=>?_)<;>try exact h2.elim)
 ·omega
 refine Qg (An @hHi (An @h67 (An @hcl (An @c36 (An @hadd @s36))))) ?_
 (refine Qa (fun h3=>?_) (fun h3=>?_)<;>try exact h3.elim)
 refine Qd ?_
 (refine Qa (fun h4=>?_) (fun h4=>?_)<;>try exact h4.elim)
 refine Qd ?_
 refine Qg1 (Qdn (A:=[]) (B:=[(71,_),(70,_)]) (S:=S) (S':={ S with acts:=S.acts + 1 }) (T:=T) rfl Zsi Zsi) ?_
 have H2:HL ([(71,.cells [.int .i64 0,.str [],.bool false,.str []]),(70,.cells [.int .i64 2,.int .i64 an,.int .i64 ad,.str f])]++Qm S1 T1) 72:=((Qi hT1).more (by simp[nmB,nmAll,Qe])).more (by simp[nmB,nmAll,Qe])
 refine Ut (v:=false) (pp:=[67]) (ex:=[(71,_),(70,_)]) (s3:=⟨[(4,.ptr 71 0),(37,.agg [.int .i64 r1,.str r2,.bool r3,.str r4])],[(71,.cells [.int .i64 0,.str [],.bool false,.str []]),(70,.cells [.int .i64 2,.int .i64 an,.int .i64 ad,.str f])]++Qm S1 T1,72⟩) hgh ho (Qi hT) (Qi hT1) (by simp[Qe,nmAll]) Zde Zsi Zsi rfl ?_ ?_ ?_
 ·exact Qq @Xg
 ·unfold Ja
  refine To.natM hT1 H2 Zde Zde Zsi Zsi Zsi (fun b h1 h2=>?_) ?_
  ·rcases (by omega:b=70∨b=71) with rfl|rfl<;>rfl
  ·simp[Qw,Qe,nmAll,look,ren,rens,Qfo,lw,Qea]
 have hHj:=fun n b hb=>Yb (S:=S1) hT1 n b hb
 refine Qg @hHj ?_
 exact ⟨(),To.drop (ex:=[(71,_),(71,_),(70,_)]) (Qi hT1) Zsi Zsi (by simp[Qw,Qe,nmAll,look,ren,rens])⟩
set_option maxHeartbeats 4000000 in
theorem Xtd (gl:Nat→AV) (S:NS) (T:WT) (hw:S.tb.wf) (hT:T.wf) (an ad:Int) (f:List UInt8) (ha:S.acts < 300) (r:Rp) (S1:NS) (T1:WT) (hT1:T1.wf) (ho:GD Tryz.prog gl 60 [.ptr 67 0,.int .i64 an] (Qm { S with acts:=S.acts + 1 } T) 70 [67] (.agg r.enc) (Qm S1 T1)):GD Tryz.prog gl 20 [.ptr 67 0,.agg [.int .i64 3,.int .i64 an,.int .i64 ad,.str f]] (Qm S T) 70 [67] (.agg r.enc) (Qm S1 T1):=by
 refine Qej.gq (of_decide_eq_true rfl) (Ze hT) Zsi fun c hgh hg=>?_
 subst hg
 conv in tcO _ _=>cbv
 have hHi:=fun n b hb=>Yb (S:=S) hT n b hb
 have h67:=Jw S T
 have hcl:=NS.cells_len hw
 have c36:=NS.c36 hw
 have s36:=NS.s36 hw (S.acts + 1)
 have hadd:(S.acts:Int) + 1=((S.acts + 1:Nat):Int):=by omega
 obtain ⟨r1,r2,r3,r4⟩:=r
 unfold Rp.enc at ho ⊢
 dsimp only at ho ⊢
 refine Qg (An @hHi (An @h67 (An @hcl @c36))) ?_
 (refine Qa (fun h1=>?_) (fun h1=>?_)<;>try exact h1.elim)
 refine Qg (An @hHi (An @h67 (An @hcl @c36))) ?_
 (refine Qa (fun h2=>?_) (fun h2=>?_)<;>try exact h2.elim)
 ·omega
 refine Qg (An @hHi (An @h67 (An @hcl (An @c36 (An @hadd @s36))))) ?_
 (refine Qa (fun h3=>?_) (fun h3=>?_)<;>try exact h3.elim)
 refine Qd ?_
 (refine Qa (fun h4=>?_) (fun h4=>?_)<;>try exact h4.elim)
 refine Qd ?_
 (refine Qa (fun h5=>?_) (fun h5=>?_)<;>try exact h5.elim)
 refine Qd ?_
 refine Qg1 (Qdn (A:=[]) (B:=[(71,_),(70,_)]) (S:=S) (S':={ S with acts:=S.acts + 1 }) (T:=T) rfl Zsi Zsi) ?_
 have H2:HL ([(71,.cells [.int .i64 0,.str [],.bool false,.str []]),(70,.cells [.int .i64 3,.int .i64 an,.int .i64 ad,.str f])]++Qm S1 T1) 72:=((Qi hT1).more (by simp[nmB,nmAll,Qe])).more (by simp[nmB,nmAll,Qe])
 refine Ut (v:=false) (pp:=[67]) (ex:=[(71,_),(70,_)]) (s3:=⟨[(4,.ptr 71 0),(43,.agg [.int .i64 r1,.str r2,.bool r3,.str r4])],[(71,.cells [.int .i64 0,.str [],.bool false,.str []]),(70,.cells [.int .i64 3,.int .i64 an,.int .i64 ad,.str f])]++Qm S1 T1,72⟩) hgh ho (Qi hT) (Qi hT1) (by simp[Qe,nmAll]) Zde Zsi Zsi rfl ?_ ?_ ?_
 ·exact Qq @Xg
 ·unfold Ja
  refine To.natM hT1 H2 Zde Zde Zsi Zsi Zsi (fun b h1 h2=>?_) ?_
  ·rcases (by omega:b=70∨b=71) with rfl|rfl<;>rfl
  ·simp[Qw,Qe,nmAll,look,ren,rens,Qfo,lw,Qea]
 have hHj:=fun n b hb=>Yb (S:=S1) hT1 n b hb
 refine Qg @hHj ?_
 exact ⟨(),To.drop (ex:=[(71,_),(71,_),(70,_)]) (Qi hT1) Zsi Zsi (by simp[Qw,Qe,nmAll,look,ren,rens])⟩
set_option maxHeartbeats 4000000 in
theorem Xte (gl:Nat→AV) (S:NS) (T:WT) (hw:S.tb.wf) (hT:T.wf) (ak:Int) (an ad:Int) (f:List UInt8) (ha:S.acts < 300) (hk:ak≠1∧ak≠2∧ak≠3∧ak≠4∧ak≠5):GD Tryz.prog gl 20 [.ptr 67 0,.agg [.int .i64 ak,.int .i64 an,.int .i64 ad,.str f]] (Qm S T) 70 [67] (.agg (rpE 4).enc) (Qm { S with acts:=S.acts + 1 } T):=by
 refine Qej.gq (of_decide_eq_true rfl) (Ze hT) Zsi fun c hgh hg=>?_
 subst hg
 conv in tcO _ _=>cbv
 have hHi:=fun n b hb=>Yb (S:=S) hT n b hb
 have h67:=Jw S T
 have hcl:=NS.cells_len hw
 have c36:=NS.c36 hw
 have s36:=NS.s36 hw (S.acts + 1)
 have hadd:(S.acts:Int) + 1=((S.acts + 1:Nat):Int):=by omega
 refine Qg (An @hHi (An @h67 (An @hcl @c36))) ?_
 (refine Qa (fun h1=>?_) (fun h1=>?_)<;>try exact h1.elim)
 refine Qg (An @hHi (An @h67 (An @hcl @c36))) ?_
 (refine Qa (fun h2=>?_) (fun h2=>?_)<;>try exact h2.elim)
 ·omega
 refine Qg (An @hHi (An @h67 (An @hcl (An @c36 (An @hadd @s36))))) ?_
 (refine Qa (fun h3=>?_) (fun h3=>?_)<;>try exact h3.elim)
 ·omega
 refine Qd ?_
 (refine Qa (fun h4=>?_) (fun h4=>?_)<;>try exact h4.elim)
 ·omega
 refine Qd ?_
 (refine Qa (fun h5=>?_) (fun h5=>?_)<;>try exact h5.elim)
 ·omega
 refine Qd ?_
 (refine Qa (fun h6=>?_) (fun h6=>?_)<;>try exact h6.elim)
 ·omega
 refine Qd ?_
 (refine Qa (fun h7=>?_) (fun h7=>?_)<;>try exact h7.elim)
 ·omega
 unfold rpE Rp.enc
 refine Qg @hHi ?_
 exact ⟨(),To.natS (ex:=[(71,_),(67,_),(71,_),(70,_)]) (ex':=[]) id hT (Qi (S:={ S with acts:=S.acts + 1 }) hT) (Nat.le_refl 70) Zsi Zsi Zsi (fun _ _=>rfl) (fun b h _=>h) (fun b b' _ _ _ _ e=>e) rfl rfl rfl (fun b h1 h2=>by omega) (by simp[Qw,Qe,nmAll,look,ren,rens])⟩
set_option maxHeartbeats 4000000 in
theorem Yaq (gl:Nat→AV) (S:NS) (T:WT) (hw:S.tb.wf) (hT:T.wf) (an ad:Int) (f:List UInt8) (ha:S.acts < 300) (x:Pool × Int) (hx:S.tb.pool.drain an true=x):GD Tryz.prog gl 20 [.ptr 67 0,.agg [.int .i64 4,.int .i64 an,.int .i64 ad,.str f]] (Qm S T) 70 [67] (.agg (rpE x.2).enc) (Qm (if x.2=0 then { S with acts:=S.acts + 1,tb:={ S.tb with pool:=x.1 } } else { S with acts:=S.acts + 1 }) T):=by
 refine Qej.gq (of_decide_eq_true rfl) (Ze hT) Zsi fun c hgh hg=>?_
 subst hg
 conv in tcO _ _=>cbv
 have hHi:=fun n b hb=>Yb (S:=S) hT n b hb
 have h67:=Jw S T
 have hcl:=NS.cells_len hw
 have c36:=NS.c36 hw
 have s36:=NS.s36 hw (S.acts + 1)
 have hadd:(S.acts:Int) + 1=((S.acts + 1:Nat):Int):=by omega
 have hD1:=Qpt c.gl S.tb.pool hw.pool an
 have hxw:x.1.wf:=by rw[← hx];exact Pool.drain_wf _ hw.pool an true
 rw[hx]at hD1
 obtain ⟨p,e⟩:=x
 unfold Wl at hD1
 dsimp only at *
 have hcl1:=NS.cells_len (S:={ S with acts:=S.acts + 1 }) hw
 have hcp:List.take 21 ({ S with acts:=S.acts + 1 }:NS).cells=S.tb.pool.enc:=NS.cells_pool (S:={ S with acts:=S.acts + 1 }) hw
 have hpl:=Pool.enc_len hxw
 have hpt:p.enc.take 21=p.enc:=List.take_of_length_le (by rw[hpl];decide)
 have hsp:=NS.s_pool (S:={ S with acts:=S.acts + 1 }) hw hxw
 refine Qg (An @hHi (An @h67 (An @hcl @c36))) ?_
 (refine Qa (fun h1=>?_) (fun h1=>?_)<;>try exact h1.elim)
 refine Qg (An @hHi (An @h67 (An @hcl @c36))) ?_
 (refine Qa (fun h2=>?_) (fun h2=>?_)<;>try exact h2.elim)
 ·omega
 refine Qg (An @hHi (An @h67 (An @hcl (An @c36 (An @hadd @s36))))) ?_
 (refine Qa (fun h3=>?_) (fun h3=>?_)<;>try exact h3.elim)
 refine Qd ?_
 (refine Qa (fun h4=>?_) (fun h4=>?_)<;>try exact h4.elim)
 refine Qd ?_
 (refine Qa (fun h5=>?_) (fun h5=>?_)<;>try exact h5.elim)
 refine Qd ?_
 (refine Qa (fun h6=>?_) (fun h6=>?_)<;>try exact h6.elim)
 (refine Qa (fun h7=>?_) (fun h7=>?_)<;>try exact h7.elim)
 refine Qg (An @hcl1 @hcp) ?_
 refine Xa hD1 (An @hHi (An @hpl @hpt)) ?_
 refine Qg (An @hHi (An @hpl @hpt)) ?_
 (refine Qa (fun h8=>?_) (fun h8=>?_)<;>try exact h8.elim)
 refine Qg (An @hpl @hpt) ?_
 by_cases he:e=0
 ·subst he
  rw[if_pos rfl]
  (refine Qa (fun h9=>?_) (fun h9=>?_)<;>try exact h9.elim)
  refine Qg (An @hcl1 (An @hpl (An @hpt @hsp))) ?_
  unfold rpE Rp.enc
  exact ⟨(),To.natS (ex:=[(71,_),(67,_),(72,_),(72,_),(67,_),(71,_),(70,_)]) (ex':=[]) id hT (Qi (S:={ S with acts:=S.acts + 1,tb:={ S.tb with pool:=p } }) hT) (Nat.le_refl 70) Zsi Zsi Zsi (fun _ _=>rfl) (fun b h _=>h) (fun b b' _ _ _ _ e=>e) rfl rfl rfl (fun b h1 h2=>by omega) (by simp[Qw,Qe,nmAll,look,ren,rens])⟩
 ·rw[if_neg he]
  (refine Qa (fun h9=>?_) (fun h9=>?_)<;>try exact h9.elim)
  ·exact absurd h9 he
  refine Qd ?_
  unfold rpE Rp.enc
  exact ⟨(),To.natS (ex:=[(71,_),(72,_),(72,_),(67,_),(71,_),(70,_)]) (ex':=[]) id hT (Qi (S:={ S with acts:=S.acts + 1 }) hT) (Nat.le_refl 70) Zsi Zsi Zsi (fun _ _=>rfl) (fun b h _=>h) (fun b b' _ _ _ _ e=>e) rfl rfl rfl (fun b h1 h2=>by omega) (by simp[Qw,Qe,nmAll,look,ren,rens])⟩
set_option maxHeartbeats 4000000 in
theorem Yav (gl:Nat→AV) (S:NS) (T:WT) (hw:S.tb.wf) (hT:T.wf) (an ad:Int) (f:List UInt8) (ha:S.acts < 300) (x:Pool × Int) (hx:S.tb.pool.drain an false=x):GD Tryz.prog gl 20 [.ptr 67 0,.agg [.int .i64 5,.int .i64 an,.int .i64 ad,.str f]] (Qm S T) 70 [67] (.agg (rpE x.2).enc) (Qm (if x.2=0 then { S with acts:=S.acts + 1,tb:={ S.tb with pool:=x.1 } } else { S with acts:=S.acts + 1 }) T):=by
 refine Qej.gq (of_decide_eq_true rfl) (Ze hT) Zsi fun c hgh hg=>?_
 subst hg
 conv in tcO _ _=>cbv
 have hHi:=fun n b hb=>Yb (S:=S) hT n b hb
 have h67:=Jw S T
 have hcl:=NS.cells_len hw
 have c36:=NS.c36 hw
 have s36:=NS.s36 hw (S.acts + 1)
 have hadd:(S.acts:Int) + 1=((S.acts + 1:Nat):Int):=by omega
 have hD1:=Qpt c.gl S.tb.pool hw.pool an
 have hD2:=Qxn c.gl S.tb.pool hw.pool an
 have hxw:x.1.wf:=by rw[← hx];exact Pool.drain_wf _ hw.pool an false
 rw[hx]at hD2
 have hyw:=Pool.drain_wf _ hw.pool an true
 generalize S.tb.pool.drain an true=y at hD1 hyw
 obtain ⟨yp,ye⟩:=y
 have hyl:=Pool.enc_len hyw
 have hyt:yp.enc.take 21=yp.enc:=List.take_of_length_le (by rw[hyl];decide)
 obtain ⟨p,e⟩:=x
 unfold Wl at hD1 hD2
 dsimp only at *
 have hcl1:=NS.cells_len (S:={ S with acts:=S.acts + 1 }) hw
 have hcp:List.take 21 ({ S with acts:=S.acts + 1 }:NS).cells=S.tb.pool.enc:=NS.cells_pool (S:={ S with acts:=S.acts + 1 }) hw
 have hpl:=Pool.enc_len hxw
 have hpt:p.enc.take 21=p.enc:=List.take_of_length_le (by rw[hpl];decide)
 have hsp:=NS.s_pool (S:={ S with acts:=S.acts + 1 }) hw hxw
 refine Qg (An @hHi (An @h67 (An @hcl @c36))) ?_
 (refine Qa (fun h1=>?_) (fun h1=>?_)<;>try exact h1.elim)
 refine Qg (An @hHi (An @h67 (An @hcl @c36))) ?_
 (refine Qa (fun h2=>?_) (fun h2=>?_)<;>try exact h2.elim)
 ·omega
 refine Qg (An @hHi (An @h67 (An @hcl (An @c36 (An @hadd @s36))))) ?_
 (refine Qa (fun h3=>?_) (fun h3=>?_)<;>try exact h3.elim)
 refine Qd ?_
 (refine Qa (fun h4=>?_) (fun h4=>?_)<;>try exact h4.elim)
 refine Qd ?_
 (refine Qa (fun h5=>?_) (fun h5=>?_)<;>try exact h5.elim)
 refine Qd ?_
 (refine Qa (fun h6=>?_) (fun h6=>?_)<;>try exact h6.elim)
 refine Qd ?_
 (refine Qa (fun h7=>?_) (fun h7=>?_)<;>try exact h7.elim)
 refine Qg (An @hcl1 @hcp) ?_
 refine Xa hD1 (An @hHi (An @hyl (An @hyt (An @hcl1 @hcp)))) ?_
 refine Qg (An @hHi (An @hyl (An @hyt (An @hcl1 @hcp)))) ?_
 (refine Qa (fun h8=>?_) (fun h8=>?_)<;>try exact h8.elim)
 refine Qg (An @hcl1 @hcp) ?_
 refine Xa hD2 (An @hHi (An @hpl (An @hpt @hyl))) ?_
 refine Qg (An @hpl @hpt) ?_
 by_cases he:e=0
 ·subst he
  rw[if_pos rfl]
  (refine Qa (fun h9=>?_) (fun h9=>?_)<;>try exact h9.elim)
  refine Qg (An @hcl1 (An @hpl (An @hpt @hsp))) ?_
  unfold rpE Rp.enc
  exact ⟨(),To.natS (ex:=[(71,_),(67,_),(72,_),(72,_),(72,_),(67,_),(71,_),(70,_)]) (ex':=[]) id hT (Qi (S:={ S with acts:=S.acts + 1,tb:={ S.tb with pool:=p } }) hT) (Nat.le_refl 70) Zsi Zsi Zsi (fun _ _=>rfl) (fun b h _=>h) (fun b b' _ _ _ _ e=>e) rfl rfl rfl (fun b h1 h2=>by omega) (by simp[Qw,Qe,nmAll,look,ren,rens])⟩
 ·rw[if_neg he]
  (refine Qa (fun h9=>?_) (fun h9=>?_)<;>try exact h9.elim)
  ·exact absurd h9 he
  refine Qd ?_
  unfold rpE Rp.enc
  exact ⟨(),To.natS (ex:=[(71,_),(72,_),(72,_),(72,_),(67,_),(71,_),(70,_)]) (ex':=[]) id hT (Qi (S:={ S with acts:=S.acts + 1 }) hT) (Nat.le_refl 70) Zsi Zsi Zsi (fun _ _=>rfl) (fun b h _=>h) (fun b b' _ _ _ _ e=>e) rfl rfl rfl (fun b h1 h2=>by omega) (by simp[Qw,Qe,nmAll,look,ren,rens])⟩
theorem Qmo (gl:Nat→AV) (h0:gl 0=.xp (Qp Xo) 0) (S:NS) (T:WT) (D:List Tm) (hK:NK S) (hW:WI T S.now D) (hD:D.Perm S.tms) (a:Ac) (hf:a.frame.length≤140737488351232):Xim gl S T 20 [.ptr 67 0,.agg a.enc] (S.step a):=by
 obtain ⟨ak,an,ad,f⟩:=a
 unfold Ac.enc NS.step
 dsimp only at hf ⊢
 have hT:=hW.wf
 have hw:=hK.wf
 by_cases ha:300≤S.acts
 ·rw[if_pos ha]
  exact ⟨T,D,hW,hD,Xs7 gl S T hw hT ak an ad f ha⟩
 rw[if_neg ha]
 have ha':S.acts < 300:=by omega
 have h1:=hK.toNI.setActs (S.acts + 1)
 have hx:=hK.nx
 have ht:=hK.tld
 by_cases k1:ak=1
 ·subst k1
  rw[if_pos rfl]
  obtain ⟨T1,D1,hW1,hP1,hg⟩:=Xwe gl h0 { S with acts:=S.acts + 1 } T D h1 (by show S.nxt≤_;omega) (by show S.told≤_;omega) hW hD 1 an ad f hf
  exact ⟨T1,D1,hW1,hP1,Yal gl S T hw hT an ad f ha' _ _ T1 hW1.wf hg⟩
 rw[if_neg k1]
 by_cases k2:ak=2
 ·subst k2
  rw[if_pos rfl]
  obtain ⟨T1,D1,hW1,hP1,hg⟩:=Xli gl { S with acts:=S.acts + 1 } T D h1 (by show S.nxt≤_;omega) hW hD f hf
  exact ⟨T1,D1,hW1,hP1,Ya1 gl S T hw hT an ad f ha' _ _ T1 hW1.wf hg⟩
 rw[if_neg k2]
 by_cases k3:ak=3
 ·subst k3
  rw[if_pos rfl]
  by_cases hd:an < 1∨549755813888 - ({ S with acts:=S.acts + 1 }:NS).now < an
  ·have hb:=Xi3 gl { S with acts:=S.acts + 1 } T D h1 hW an hd
   rw[Qke,if_pos hd]
   exact ⟨T,D,hW,hD,Xtd gl S T hw hT an ad f ha' _ _ T hT hb⟩
  ·obtain ⟨T1,D1,hW1,hP1,hg⟩:=Xo8 gl h0 { S with acts:=S.acts + 1 } T D h1 (by show S.told≤_;omega) hW hD an hd
   exact ⟨T1,D1,hW1,hP1,Xtd gl S T hw hT an ad f ha' _ _ T1 hW1.wf hg⟩
 rw[if_neg k3]
 by_cases k4:ak=4
 ·subst k4
  rw[if_pos (.inl rfl)]
  have hg:=Yaq gl S T hw hT an ad f ha' _ rfl
  refine ⟨T,D,?_,?_,hg⟩
  ·dsimp only[decide_true];split<;>exact hW
  ·dsimp only[decide_true];split<;>exact hD
 by_cases k5:ak=5
 ·subst k5
  rw[if_pos (.inr rfl)]
  have hg:=Yav gl S T hw hT an ad f ha' _ rfl
  refine ⟨T,D,?_,?_,hg⟩
  ·dsimp only;split<;>exact hW
  ·dsimp only;split<;>exact hD
 rw[if_neg Zom]
 exact ⟨T,D,hW,hD,Xte gl S T hw hT ak an ad f ha' ⟨k1,k2,k3,k4,k5⟩⟩
section
variable {P:Program}
theorem PS.wk {gl:Nat→AV} {f:FuncId} {args:List AV} {r r':AV} (h:PS P gl f args r) (hr:Wk r r'):PS P gl f args r' :=
 ⟨h.1,fun w vs X hX hgl hv=>(h.2 w vs X hX hgl hv).mono fun e w' ⟨v,q1,q2,q3⟩=>⟨v,q1,hr _ _ _ _ q2,q3⟩⟩
theorem PS.empty {gl:Nat→AV} {f:FuncId} {cs:List AV} {r:AV} (h1:∀ cap,PS P gl f [.lit (.slice none 0 cap)] r) (h2:∀ a cap,PS P gl f [.lit (.slice (some a) 0 cap)] r):PS P gl f [.isl 0 cs] r:=by
 refine ⟨(h1 0).1,fun w vs X hX hgl hv=>?_⟩
 cases vs with
 | nil=>exact hv.elim
 | cons v vs =>
 cases vs with
 | cons _ _=>exact hv.2.elim
 | nil =>
 obtain ⟨hv,_⟩:=hv
 obtain ⟨a,cap,us,rfl,_⟩:=Qav hv
 cases a with
 | some a=>exact (h2 a cap).2 w [.slice (some a) 0 cap] X hX hgl ⟨.lit _,trivial⟩
 | none=>exact (h1 cap).2 w [.slice none 0 cap] X hX hgl ⟨.lit _,trivial⟩
def Xrz (m:Nat) (rs:List RS) (r:AV) (hout:List (Nat × Bk)) (n:Nat):EX→St→Prop
 | .exit _,_=>False
 | _,s=>Wd s.fs rs∧To (List.range m) ⟨[(0,rvs s.fs rs)],s.h,s.n⟩ ⟨[(0,r)],hout,n⟩
theorem Xil {gl : Nat → AV} {f : FuncId} {fn : Func} {code : Code} {t : TC} {rs : List RS} {args : List AV} {hout : List (Nat × Bk)} {n : Nat} {r : AV} (hm : P.follows .mixedOrders = true) (hf : P.funcs[f]? = some fn) (hb : fn.body = some code) (hname : (fn.name == "runtime.NumGoroutine") = false)
  (he:Zz P fn.ntmps code=some t) (hr:Qbn P fn.results.toList=some rs) (hN:args.length≤fn.ntmps)
  (h:∀ c:Cx,(∀ q ∈ c.gh,q.1 ∈ List.range 0)→c.gl=gl→xw P c t (Xrz 0 rs r hout n) ⟨Qaf 0 args,[],0⟩):GS P gl f args [] 0 r hout n:=by
 refine ⟨⟨fn,hf,by rw[hb];rfl,hname⟩,fun w vs G X g hR0 hv=>?_⟩
 refine calls_of_wp hf hb ?_
 have hR:=Qm2 (N:=fn.ntmps) (gh:=[]) hN hR0 hv (fun q hq=>by cases hq)
 have:=Qcn (c:=⟨fn.ntmps,w,G,X,gl,[]⟩) hm code t _ _ he (h _ (fun q hq=>by cases hq) rfl) _ _ _ hR
 refine wp_mono this fun e a' w' hq=>?_
 have fin:∀ (g1:Nat→GM) (s:St),R ⟨fn.ntmps,w,G,X,gl,[]⟩ g1 s.fs a' w'→(Wd s.fs rs∧To (List.range 0) ⟨[(0,rvs s.fs rs)],s.h,s.n⟩ ⟨[(0,r)],hout,n⟩) →
   a'.defers=[]∧∃ v,(results fn a'.tmps).run P w'=.ok v w'∧(∃ v_1 g',Ending.returned v=.returned v_1∧R ⟨0,w,G,X,gl,[]⟩ g' (Hst hout n) ⟨#[],[]⟩ w'∧(∀ b,b < 0→g' b=g b)∧VR g' (Qn ⟨0,w,G,X,gl,[]⟩ g' (Hst hout n)) w' r v_1):=by
  intro g1 s hR' ⟨h1,h3⟩
  obtain ⟨v,h4,h5⟩:=Qe4 hR' hr h1
  refine ⟨hR'.def_,v,h4,v,?_⟩
  have hR1:R ⟨1,w,G,X,gl,[]⟩ g1 (⟨[(0,rvs s.fs rs)],s.h,s.n⟩:St).fs ⟨#[v],[]⟩ w':=by
   refine ⟨rfl,rfl,fun i=>?_,hR'.gl,hR'.h,hR'.inj,hR'.old,hR'.fr,hR'.xs,hR'.pin⟩
   show VR g1 _ w' (look [(0,rvs s.fs rs)] i) _
   rw[Zt]
   split
   ·rename_i hi;subst hi;exact h5
   ·exact .any _
  obtain ⟨g2,hR2⟩:=h3 _ g1 _ _ (fun q hq=>by cases hq) hR1
  exact ⟨g2,rfl,⟨rfl,rfl,fun i=>.any _,hR2.gl,hR2.h,hR2.inj,hR2.old,hR2.fr,hR2.xs,fun p hp=>by cases hp⟩,fun b hb=>by omega,hR2.t 0⟩
 cases e with
 | normal=>obtain ⟨g,s,hR',hq'⟩:=hq;exact fin g s hR' hq'
 | ret=>obtain ⟨g,s,hR',hq'⟩:=hq;exact fin g s hR' hq'
 | exit i=>obtain ⟨g,s,hR',hq'⟩:=hq;exact hq'.elim
 | goto l=>exact hq.elim
 | panic ch=>exact hq.elim
 | outgrown=>exact hq.elim
theorem FT.gsT {gl:Nat→AV} {f:FuncId} {fn:Func} {t:TC} {rs:List RS} (hF:FT P f fn t rs) {args:List AV} {hout:List (Nat × Bk)} {n:Nat} {r:AV} (hN:args.length≤fn.ntmps)
  (h:∀ c:Cx,(∀ q ∈ c.gh,q.1 ∈ List.range 0)→c.gl=gl→xw P c t (Xrz 0 rs r hout n) ⟨Qaf 0 args,[],0⟩):GS P gl f args [] 0 r hout n:=by
 have hc:=hF.code
 cases hb:fn.body with
 | none=>rw[hb]at hc;simp at hc
 | some code =>
  rw[hb]at hc
  exact Xil hF.mixed hF.func hb hF.name hc hF.res hN h
theorem Xcc (m:Nat) (rs:List RS) (r:AV) (hout:List (Nat × Bk)) (n:Nat) (s:St):Xrz m rs r hout n .ret s=(Wd s.fs rs∧To (List.range m) ⟨[(0,rvs s.fs rs)],s.h,s.n⟩ ⟨[(0,r)],hout,n⟩):=rfl
attribute [go_sem] Xcc
end
theorem Xgm (gl:Nat→AV) (l:List Mp) (hn:l.length≤1000000):PS Tryz.prog gl 64 [.isl l.length (mps l)] (.isl l.length (mps l)):=by
 have hl:=Jc l
 cases l with
 | nil =>
  refine PS.empty (fun cap=>PS.wk (r:=.nils) ?_ Wk.nils) fun a cap=>?_
  ·refine Qcz.ps (of_decide_eq_true rfl) (by simp[Qe]) fun c hN hg=>?_
   conv in tcO _ _=>cbv
   refine Qd ?_
   refine Qds ?_ (Qcw (b:=true) (show Qgw (.lit (.slice none 0 cap))=some true from rfl)) ?_
   ·exact Qs
   refine Qd ?_
   (refine Qa (fun h1=>?_) (fun h1=>?_)<;>try exact h1.elim)
   exact Qs
  ·refine Qcz.ps (of_decide_eq_true rfl) (by simp[Qe,nmAll,mps]) fun c hN hg=>?_
   conv in tcO _ _=>cbv
   refine Qd ?_
   refine Qds ?_ (Qcw (b:=false) (show Qgw (.lit (.slice (some a) 0 cap))=some false from rfl)) ?_
   ·exact Qs
   refine Qd ?_
   (refine Qa (fun h1=>?_) (fun h1=>?_)<;>try exact h1.elim)
   refine Qd ?_
   refine Xa Qhq @List.length_nil.{0} ?_
   refine Jh ?_
   rfl
 | cons x l =>
 have hnq:Qgw (.isl (x::l).length (mps (x::l)))=some false:=rfl
 generalize x::l=l at *
 refine Qcz.ps (of_decide_eq_true rfl) (by simp[Qe,Qrd]) fun c hN hg=>?_
 conv in tcO _ _=>cbv
 refine Qd ?_
 refine Qds ?_ (Qcw (b:=false) hnq) ?_
 ·exact Qs
 refine Qd ?_
 (refine Qa (fun h1=>?_) (fun h1=>?_)<;>try exact h1.elim)
 refine Qd ?_
 refine Yt Qhq ?_
 exact Ybl @hl
set_option maxHeartbeats 4000000 in
theorem Qef (gl:Nat→AV) (S:NS) (T:WT) (hS:NJ S) (hT:T.wf):GD Tryz.prog gl 23 [.ptr 67 0] (Qm S T) 70 (List.range 70) (.agg S.tb.enc) (Qm S T):=by
 refine Xmj.gq (of_decide_eq_true rfl) (Ze hT) (fun b hb=>List.mem_range.1 hb) fun c hgh hg=>?_
 subst hg
 conv in tcO _ _=>cbv
 have hHi:=fun n b hb=>Yb (S:=S) hT n b hb
 have h67:=Jw S T
 have hcl:=NS.cells_len hS.wf
 have htk:=NS.cells_tb hS.wf
 have hel:=Tb.enc_len hS.wf
 have hem:=Tb.enc_maps hS.wf
 have htt:S.tb.enc.take 30=S.tb.enc:=List.take_of_length_le (by rw[hel];decide)
 have hset:S.tb.enc.set 29 (.isl S.tb.maps.length (mps S.tb.maps))=S.tb.enc:=by
  rw[← hem]
  refine List.ext_getElem Zsi fun j h1 h2=>?_
  rw[List.getElem_set]
  split
  ·rename_i e;subst e;rw[Qhd (by rw[hel];decide)]
  ·rfl
 have hl96:=Qbw (Wp.2 hS.gt)
 have hcl2:=Xgm c.gl S.tb.maps Zom
 refine Qg @hHi ?_
 (refine Qa (fun h1=>?_) (fun h1=>?_)<;>try exact h1.elim)
 refine Qg (An @hHi (An @h67 (An @hcl (An @htk (An @hel @hem))))) ?_
 refine Xa hcl2 (An @hHi (An @hel (An @hset @htt))) ?_
 have her:=Kd S.tb.enc
 exact ⟨(),To.drop (ex:=[(70,_),(71,_),(71,_),(71,_),(70,_)]) (Qi hT) Zsi Zde (by simp[Qw,Qe,look,ren,Tb.enc_nm,her])⟩
def fls (l:List Fl):List AV:=l.flatMap Fl.enc
theorem Qkr (l:List Fl):(fls l).length=l.length * 10:=by
 induction l with
 | nil=>rfl
 | cons f l ih=>simp only[fls,List.flatMap_cons,List.length_append]at ih ⊢;rw[ih];simp[Fl.enc,Kw];omega
theorem Up (n:Nat) (l:List Fl):nmAll n (fls l):=by
 rw[Xi]
 intro v hv
 obtain ⟨f,_,hf⟩:=List.mem_flatMap.1 hv
 simp[Fl.enc,Kw]at hf
 rcases hf with rfl|rfl|rfl|rfl|rfl|rfl|rfl|rfl|rfl|rfl<;>simp[Qe]
theorem Qm4 (ρ:Nat→Nat) (l:List Fl):rens ρ (fls l)=fls l:=by
 rw[Yf]
 exact (List.map_congr_left fun v hv=>Km (Xi.1 (Up 0 l) v hv)).trans (List.map_id _)
theorem Xsx (l:List Fl) (f:Fl):fls l++f.enc=fls (l++[f]):=by simp[fls]
def NS.flows (S:NS):List Fl:=S.fl.map (·.2)
set_option maxHeartbeats 4000000 in
theorem Qd5 (gl:Nat→AV) (S:NS) (T:WT) (hS:NJ S) (hT:T.wf):GD Tryz.prog gl 24 [.ptr 67 0] (Qm S T) 70 (List.range 70) (.isl S.flows.length (fls S.flows)) (Qm S T):=by
 refine Qq9.gq (of_decide_eq_true rfl) (Ze hT) (fun b hb=>List.mem_range.1 hb) fun c hgh hg=>?_
 subst hg
 conv in tcO _ _=>cbv
 have hHi:=fun n b hb=>Yb (S:=S) hT n b hb
 have h67:=Jw S T
 have h68:=Qgc S T
 have h69:=Qg8 S T
 have hcl:=NS.cells_len hS.wf
 have c30:=NS.c30 hS.wf
 have c31:=NS.c31 hS.wf
 have hkl:=Qfl S
 have hks:=Qce S.fl
 have h48:=hS.len
 have hfl:S.flows.length=S.fl.length:=by simp[NS.flows]
 refine Qg @hHi ?_
 (refine Qa (fun h1=>?_) (fun h1=>?_)<;>try exact h1.elim)
 refine Qg (An @h67 (An @hcl @c31)) ?_
 refine Qdv 3 10 rfl (by exact Qq @hHi) ?_
 unfold St.named
 refine Yj (fun k:Nat=>k≤S.fl.length) (fun k=>⟨[(0,.ptr 67 0),(3,.sl 10 70 0 k k),(11,.sl 1 69 0 S.fl.length S.fl.length),(12,.int .i64 S.fl.length),(13,.int .i64 k)],[(70,.cells (fls (S.flows.take k)))]++Qm S T,71⟩) (fun k=>S.fl.length - k) Qq9.mixed (List.range 70) hgh
  ⟨0,Nat.zero_le _,To.sel (by exact Qs) fun b=>rfl⟩ fun k hk=>?_
 refine Qd ?_
 (refine Qa (fun h2=>?_) (fun h2=>?_)<;>try exact h2.elim)
 ·have hkn:k < S.fl.length:=by omega
  have hgk:=Qio S hkn
  have hki:=Uo S.fl[k].1
  have hga:=Qld hS.dis hkn (.agg Fl.zero)
  have hsn:fls (S.flows.take k)++S.fl[k].2.enc=fls (S.flows.take (k + 1)):=by
   rw[Xsx,List.take_succ]
   congr 2
   simp[NS.flows,hkn]
  have hlk:(fls (S.flows.take k)).length=k * 10:=by rw[Qkr,List.length_take];omega
  generalize S.fl[k]=q at *
  obtain ⟨x,⟨⟨p0,p1,p2,p3,p4⟩,g0,g1,g2,g3,g4⟩⟩:=q
  unfold Fl.enc Kw at hga hsn
  dsimp only at hga hgk hki hsn
  refine Qg (An @h69 (An @hkl (An @hgk (An @h67 (An @hcl @c30))))) ?_
  ((first|refine Qa3 Ko ?_|refine Ub Ko ?_);(have zf1:=@h68;have zf2:=@hks;have zf3:=@hki;have zf4:=@hga;have zf5:=@hHi;refine XG ?_;clear zf1 zf2 zf3 zf4 zf5;((try (repeat' with_reducible refine And.intro ?_ ?_));(try any_goals (first|refine zm ?_|exact CL|fail)))))
  refine Zr @hHi ?_
  refine Zr (An @hHi (An @hlk @hsn)) ?_
  have hEn:=Up 71 (S.flows.take (k + 1))
  have hEr:=fun ρ=>Qm4 ρ (S.flows.take (k + 1))
  refine ⟨k + 1,by omega,?_,by omega⟩
  generalize fls (S.flows.take (k + 1))=E at *
  refine To.natS (ex:=[(72,_),(70,.dead),(71,_),(70,_)]) (ex':=[(70,.cells E)]) (fun b=>if b=70 then 72 else b) hT ((Qi hT).more (by exact hEn)) Zde Zsi Zsi Zde (fun b hb=>if_neg Zom) (fun b h h2=>?_) (fun b b' h1 h2 h3 h4 e=>?_) rfl rfl rfl (fun b h1 h2=>?_) ?_
  ·split<;>omega
  ·omega
  ·obtain rfl:b=70:=by omega
   show Bk.cells E=Bk.cells (rens _ E)
   rw[hEr]
  ·simp[Qw,Qe,nmAll,look,ren,rens]
 ·obtain rfl:k=S.fl.length:=by omega
  have htl:S.flows.take S.fl.length=S.flows:=List.take_of_length_le (by rw[hfl];exact Nat.le_refl _)
  have hcut:((fls S.flows).drop 0).take (S.fl.length * 10)=fls S.flows:=by rw[List.drop_zero,List.take_of_length_le (by rw[Qkr,hfl];exact Nat.le_refl _)]
  have her:=Kd (fls S.flows)
  have hnm:=Up 70 S.flows
  rw[htl]
  refine Qd ?_
  refine ⟨(),(To.frz (b:=70) (i:=0) rfl rfl).trans ?_⟩
  rw[hcut,hfl]
  exact To.drop (ex:=[(70,.dead),(70,_)]) (Qi hT) Zsi Zde (by simp[Qw,Qe,look,ren,her,hnm])
theorem To.wkM {p:List Nat} {s:St} {b:Nat} {kvs:List (AV × AV)} (hb:Qb s.h s.n b=.mapb kvs true):To p s ⟨s.t,(b,.mapb kvs false)::s.h,s.n⟩:=fun c g a w _ hR=>by
 have hH:∀ i,(⟨s.t,(b,.mapb kvs false)::s.h,s.n⟩:St).fs.H i=if b=i then .mapb kvs false else s.fs.H i:=fun i=>by
  show Qb ((b,_)::s.h) s.n i=_
  rw[Qc];rfl
 refine ⟨g,hR.resay (fun k v hv=>hv) (fun i h=>?_) fun i=>?_⟩
 ·rw[hH];split
  ·rename_i e;subst e
   rw[show s.fs.H b=.mapb kvs true from hb]at h
   generalize g b=m at h ⊢
   cases h with
   | mapb hb hs hkk hv hc ha hd=>exact .mapb hb hs hkk hv hc ha (fun h=>by cases h)
  ·exact h
 ·rw[hH];split
  ·rename_i e;subst e;rw[show s.fs.H b=.mapb kvs true from hb];exact Iff.rfl
  ·exact Iff.rfl
def zT:List AV:=Qp (List.replicate 18 0)++Yv (List.replicate 3 false)++Qp (List.replicate 8 0)
theorem To.wkC {p:List Nat} {s:St} {b:Nat} {A B:List AV} {x y:AV} (hb:Qb s.h s.n b=.cells (A++x::B)) (h:Wk x y):To p s ⟨s.t,(b,.cells (A++y::B))::s.h,s.n⟩:=To.wkB hb (by simp) fun j hj=>by
 have e:∀ z:AV,(A++z::B).getD j .any=if j < A.length then A.getD j .any else if j=A.length then z else B.getD (j - A.length - 1) .any:=fun z=>by
  simp only[List.getD]
  by_cases h1:j < A.length
  ·rw[if_pos h1,List.getElem?_append_left h1]
  ·rw[if_neg h1,List.getElem?_append_right Zom]
   by_cases h2:j=A.length
   ·subst h2;simp
   ·rw[if_neg h2,show j - A.length=(j - A.length - 1) + 1 by omega,List.getElem?_cons_succ]
    simp
 rw[e,e]
 split
 ·exact Wk.refl _
 ·split
  ·exact h
  ·exact Wk.refl _
set_option maxHeartbeats 8000000 in
theorem Qzl (gl:Nat→AV) (b:Bool):GS Tryz.prog gl 28 [.bool b] [] 0 (.ptr 67 0) (Qm (NS.new b) (Jq 0 (.mapb [] true))) 70:=by
 have hnew:=Xs8 gl 0 Zde
 have hw0:=Qj9 0 Zde
 have hT:=hw0.wf
 refine Xu5.gsT (of_decide_eq_true rfl) fun c hgh hg=>?_
 subst hg
 conv in tcO _ _=>cbv
 generalize Jq 0 (.mapb [] true)=T0 at *
 have hH0:=Ybi hT (σ:=fun b=>b) (m:=67) fun b hb=>hb
 refine Qd ?_
 refine Qka hnew (WT.HLb hT) ?_ Zsi ?_
 ·exact Qs
 dsimp only[List.nil_append]
 have hid:Xd (fun b=>0 + b) T0.hb=T0.hb:=by
  have e:(fun b:Nat=>0 + b)=id:=by funext b;exact Nat.zero_add b
  rw[e,Jn]
 have hH1:=fun n b hb=>WT.hbHi hT n (b:=b) hb
 rw[hid]
 refine Qd ?_
 (refine Xgs Ko ?_;(have zf1:=@hH1;refine XG ?_;clear zf1;((try (repeat' with_reducible refine And.intro ?_ ?_));(try any_goals (first|refine zm ?_|exact CL|fail)))))
 refine (To.wkC (b:=68) (A:=zT) (x:=.nils) (y:=.isl 0 []) (B:=[.mp 67,.nils,.int .i64 0,.ptr 0 0,.int .i64 0,.int .i64 4,.int .i64 0,.bool b]) rfl Wk.nils).trans ?_
 refine (To.nilB (b:=68) (j:=31) (es:=1) (cs:=zT++.isl 0 []::[.mp 67,.nils,.int .i64 0,.ptr 0 0,.int .i64 0,.int .i64 4,.int .i64 0,.bool b]) rfl rfl ?_).trans ?_
 ·change Qb _ _ _=Bk.free
  dsimp only
  rw[Qc,if_neg Zde,Qc,if_neg Zde,Qc,if_neg Zde,hH1 69 69 Zde]
  rfl
 refine (To.wkM (b:=67) (kvs:=[]) rfl).trans ?_
 refine To.fam (fun i=>if i=67 then 68 else if i=68 then 67 else i) (Qi hT) (fun i hi=>by simp at hi) (fun i j h1 h2 e=>?_) (fun i hi=>?_) ?_
 ·(repeat' split at e)<;>omega
 ·rcases (by omega:i < 67∨i=67∨i=68∨i=69) with h|rfl|rfl|rfl
  ·have e1:(if i=67 then 68 else if i=68 then 67 else i)=i:=by rw[if_neg Zom,if_neg Zom]
   have e2:Qb (Qm (NS.new b) T0) 70 i=Qb T0.hb 67 i:=by
    unfold Qm
    rw[Qc,if_neg Zom,Qc,if_neg Zom,Qc,if_neg Zom]
    exact ((WT.HLb hT).live h 70).1
   rw[e1,e2,Ww (g:=id) (fun j hj=>by rw[if_neg Zom,if_neg Zom];rfl) (Qlu hT h).2,Wz]
   dsimp only
   rw[Qc,if_neg Zom,Qc,if_neg Zom,Qc,if_neg Zom,Qc,if_neg Zom,Qc,if_neg Zom,Qc,if_neg Zom]
   exact ((WT.HLb hT).live h _).1
  ·rfl
  ·rfl
  ·rfl
 ·simp[Qw,Qe,look,ren]
def alP:Pk:=⟨17,167772161,5,9,6,9,0,0,0,0,0,[]⟩
def alF:List UInt8:=[69,0,0,28,0,0,0,0,9,17,167,200,10,0,0,1,0,0,0,9,0,5,0,6,0,8,245,201]
def alG:List UInt8:=[69,0,0,28,0,0,0,0,8,17,118,199,203,0,113,1,0,0,0,9,4,0,0,6,0,8,191,205]
def alM:Mp:=⟨17,0,5,0,1024⟩
def alT:Tb:=⟨⟨1::List.replicate 17 0,List.replicate 3 false⟩,1::List.replicate 7 0,[alM]⟩
def alS:NS:=⟨alT,[(1,⟨alM,9,6,2,0,20⟩)],1,0,1,4,1,false⟩
def alL:List UInt8:=Qff 0 [⟨0,0,0,0,false⟩]
theorem Xzy:Yn alP=alF:=by decide +kernel
theorem Xxn:Yw alP=0:=by decide +kernel
theorem Yb2:rdE alF=0:=by decide +kernel
theorem Xpy:rdK alF=alP:=by
 have h:(rdK alF).enc=alP.enc:=rfl
 rfl
theorem Ybe:Kq alF 0 3405803777 1024=alG:=by decide +kernel
theorem Yak:rdE alG=0:=by decide +kernel
theorem Yar:(rdK alG).frm=3405803777∧(rdK alG).sport=1024:=by decide +kernel
theorem Ybj:alL.length=89:=by decide +kernel
theorem Xzs:(NS.new false).tb.opn 17 0 5 0=(alT,alM,true,0):=by
 have hg:Wa (NS.new false).tb=true:=(Qct _).2 (Wp.2 (NK.new false).gt)
 unfold Tb.opn
 rw[hg]
 rfl
theorem Qyu:(NS.new false).step ⟨1,0,0,alF⟩=(⟨0,alG,false,alL⟩,alS):=by
 have e:(NS.new false).step ⟨1,0,0,alF⟩=NS.out { (NS.new false) with acts:=1 } alF 0:=rfl
 rw[e,Qne,Yb2,Xpy]
 have ho:({ (NS.new false) with acts:=1 }:NS).tb.opn 17 0 5 0=(alT,alM,true,0):=Xzs
 have ho':({ (NS.new false) with acts:=1 }:NS).tb.opn alP.proto (alP.frm - 167772161) alP.sport 0=(alT,alM,true,0):=ho
 rw[ho']
 rw[if_neg Zsi,if_neg Zde,if_neg Zde,if_neg Zde,if_neg Zde,if_neg Zde,if_neg Zde,if_neg Zde]
 unfold NS.opened
 rw[Xpy]
 unfold NS.sent
 rw[Xpy]
 dsimp only
 rw[if_neg Zde]
 show ((⟨0,Kq alF 0 3405803777 1024,false,_⟩:Rp),_)=_
 rw[Ybe]
 rfl
theorem Qt7:FT Tryz.prog 30 Tryz.f30 (tcO Tryz.prog Tryz.f30) [.t 6,.t 7]:=.of Tryz.func30
theorem Xkd:FT Tryz.prog 31 Tryz.f31 (tcO Tryz.prog Tryz.f31) [.t 6]:=.of Tryz.func31
theorem Xir:FT Tryz.prog 33 Tryz.f33 (tcO Tryz.prog Tryz.f33) [.t 2]:=.of Tryz.func33
theorem Xif:FT Tryz.prog 50 Tryz.f50 (tcO Tryz.prog Tryz.f50) [.t 0]:=.of Tryz.func50
theorem Qps:FT Tryz.prog 43 Tryz.f43 (tcO Tryz.prog Tryz.f43) [.t 4]:=.of Tryz.func43
theorem Qpj:FT Tryz.prog 45 Tryz.f45 (tcO Tryz.prog Tryz.f45) [.t 4]:=.of Tryz.func45
theorem Qzn:FT Tryz.prog 11 Tryz.f11 (tcO Tryz.prog Tryz.f11) [.t 10]:=.of Tryz.func11
theorem Xt1:FT Tryz.prog 44 Tryz.f44 (tcO Tryz.prog Tryz.f44) [.t 4]:=.of Tryz.func44
theorem Qsm:FT Tryz.prog 13 Tryz.f13 (tcO Tryz.prog Tryz.f13) [.t 6]:=.of Tryz.func13
theorem Xws:FT Tryz.prog 17 Tryz.f17 (tcO Tryz.prog Tryz.f17) [.t 6]:=.of Tryz.func17
theorem Qtv (gl:Nat→AV) (p:Pk) (h:Yw p=0):PS Tryz.prog gl 33 [.agg p.enc] (.str (Yn p)):=by
 refine Xir.ps (of_decide_eq_true rfl) (by simp[Qe]) fun c hN hg=>?_
 conv in tcO _ _=>cbv
 have hb:=Xqx c.gl p
 unfold Qts at hb
 rw[if_pos h]at hb
 generalize Yn p=B at *
 obtain ⟨p1,p2,p3,p4,p5,p6,p7,p8,p9,p10,p11,pb⟩:=p
 unfold Pk.enc at hb ⊢
 dsimp only at hb ⊢
 refine Qd ?_
 exact Xy2 hb
def tpu (d:Option Nat) (r:AV) (t:List (Nat × AV)):List (Nat × AV):=match d with
 | some d=>(d,r)::t
 | none=>t
theorem To.nhome {p:List Nat} {S:NS} {T:WT} {t t':List (Nat × AV)} {ex:List (Nat × Bk)} {n:Nat} {d:Option Nat} {r:AV} (hT:T.wf) (hn:70≤n) (hp:∀ b ∈ p,b=67) (hex:∀ q ∈ ex,70≤q.1∧q.1 < n)
  (ht:Qw (sgx id [67] n) 70 (tpu d (ren (sgx id [67] n) r) t) t'):To p (Ja t ex (Qm S T) id [67] 70 n d r) ⟨t',Qm S T,70⟩:=by
 have hoff:∀ q ∈ ex,Qal (sgx id [67] n) 70 q.1:=fun q hq=>Xvt (fun b hb _ e=>by have:=(hex q hq).1;have e:b=q.1:=e;omega) (hex q hq).2
 have hinj:∀ b b',b < 70→b' < 70→sgx id [67] n b=sgx id [67] n b'→b=b':=fun b b' h1 h2 e=>Qog (m:=70) (fun b b' _ _ e=>e) (fun b hb=>by show b < n;omega) h1 h2 e
 have:=To.home (p:=p) (t:=tpu d (ren (sgx id [67] n) r) t) (t':=t') (ex:=ex) (n:=n + 70) (Qi (S:=S) hT) hinj hoff (fun b hb=>by rw[hp b hb];exact ⟨rfl,by decide⟩) ht
 cases d<;>exact this
theorem Xe8 {hh:List (Nat × Bk)}:Xd (fun b=>0 + b) hh=hh:=by
 have e:(fun b:Nat=>0 + b)=id:=by funext b;exact Nat.zero_add b
 rw[e,Jn]
section
variable {P:Program} {c:Cx} {h h1 ex:List (Nat × Bk)} {m n:Nat} {v:Bool} {d:Option Nat} {kk:PK} {f:FuncId} {xs:List TV} {args:List AV} {r:AV} {t:List (Nat × AV)} {r0:List TOp} {K:St→Prop} {gd:Option (Nat × Bool)}
theorem Xv5 (hq:GD P c.gl f args h m (List.range m) r h1) (H:HL h m) (H1:HL h1 m) (hr:Qe m r) (hn:m≤n) (hex:∀ q ∈ ex,m≤q.1∧q.1 < n) (hk:kk=(bif v then .callv else .call f))
  (hb:gB (⟨t,ex++h,n⟩:St).fs gd=some true∧gOk (⟨t,ex++h,n⟩:St).fs gd)
  (hc:Qt none (evs c.gl (⟨t,ex++h,n⟩:St).fs xs)∧Uz v f ((evs c.gl (⟨t,ex++h,n⟩:St).fs xs).map Qj)=some (f,args)∧nmAll m args) (hx:XP P c r0 K (St.putO ⟨t,ex++h1,n + m⟩ d r)):Yc P c (.pd d kk xs gd) r0 K ⟨t,ex++h,n⟩:=by
 have hok:=gx0 (v:=v) H hn (fun b hb=>List.mem_range.1 hb) hex hc
 have hA:=Qhg (d:=d) hq hok hk H1 hr
 rw[Jn,Qjm H1 hr]at hA
 exact .inl ⟨_,_,Qk5 hb.1 hb.2 hA,hx⟩
theorem Qco {anc:List Nat} {fs:List Foot} (hq:GD P c.gl f args h m (List.range m) r h1) (H:HL h m) (H1:HL h1 m) (hr:Qe m r) (hn:m≤n) (hex:∀ q ∈ ex,m≤q.1∧q.1 < n) (hk:kk=(bif v then .callv else .call f))
  (hb:gB (⟨t,ex++h,n⟩:St).fs gd=some true∧gOk (⟨t,ex++h,n⟩:St).fs gd)
  (hc:Qt none (evs c.gl (⟨t,ex++h,n⟩:St).fs xs)∧Uz v f ((evs c.gl (⟨t,ex++h,n⟩:St).fs xs).map Qj)=some (f,args)∧nmAll m args) (hx:XD P c anc r0 (⟨gdT gd++Xj xs,gxN id m n,d.toList,gxN id m n⟩::fs) K (St.putO ⟨t,ex++h1,n + m⟩ d r)):Za P c anc (.pd d kk xs gd) r0 fs K ⟨t,ex++h,n⟩:=by
 have hok:=gx0 (v:=v) H hn (fun b hb=>List.mem_range.1 hb) hex hc
 have hA:=Qhg (d:=d) hq hok hk H1 hr
 rw[Jn,Qjm H1 hr]at hA
 exact ⟨_,_,Qk5 hb.1 hb.2 hA,hx⟩
end
set_option maxHeartbeats 4000000 in
theorem Xpk (gl:Nat→AV) (h0:gl 0=.xp (Qp Xo) 0):PS Tryz.prog gl 50 [] (.bool true):=by
 have hnew:=Qzl gl false
 have hw0:=Qj9 0 Zde
 have hT:=hw0.wf
 obtain ⟨T1,D1,hW1,hP1,hdo⟩:=Qmo gl h0 (NS.new false) _ [] (NK.new false) hw0 (by exact List.Perm.refl _) ⟨1,0,0,alF⟩ Zde
 have hT1:=hW1.wf
 rw[Qyu]at hdo hW1
 dsimp only[Ac.enc,Rp.enc]at hdo
 have hfl:=Qd5 gl alS T1 (by have:=(NK.new false).step ⟨1,0,0,alF⟩;rw[Qyu]at this;exact this.toNI.toNJ) hT1
 have hps:=Qdl gl alG Zde
 have hpt:Wc alG=.tup [.agg (rdK alG).enc,.int .i64 0]:=by
  unfold Wc;rw[Yak];rfl
 rw[hpt]at hps
 have hfr:=Qtv gl alP Xxn
 rw[Xzy]at hfr
 simp only[Pk.enc,alP]at hfr
 obtain ⟨k2,k3⟩:=Yar
 have hL:=Ybj
 generalize rdK alG=K at *
 obtain ⟨K1,K2,K3,K4,K5,K6,K7,K8,K9,K10,K11,K12⟩:=K
 dsimp only at k2 k3
 subst k2 k3
 unfold Pk.enc at hps
 dsimp only at hps
 generalize alF=F at *
 generalize alG=G at *
 generalize alL=L at *
 generalize Jq 0 (.mapb [] true)=T0 at *
 refine Xif.ps (of_decide_eq_true rfl) (by simp[Qe]) fun c hN hg=>?_
 subst hg
 conv in tcO _ _=>cbv
 refine Qd ?_
 refine Qka hnew (Qi hT) ?_ Zsi ?_
 ·exact Qs
 dsimp only[List.nil_append]
 rw[Xe8]
 refine Qd ?_
 (refine Qa (fun h1=>?_) (fun h1=>?_)<;>try exact h1.elim)
 refine Qd ?_
 refine Yt hfr ?_
 refine Ut (v:=false) (pp:=[]) (ex:=[]) (s3:=⟨[(1,.ptr 67 0),(12,.agg [.int .i64 0,.str G,.bool false,.str L])],Qm alS T1,70⟩) (by rw[hN];simp) hdo (Qi hT) (Qi hT1) (by simp[Qe,nmAll]) Zde Zsi Zsi rfl ?_ ?_ ?_
 ·exact Qq @Xg
 ·refine To.nhome hT1 Zde Zsi Zsi ?_
  simp[tpu,Qw,Qe,nmAll,look,ren,rens,Qea]
 have hHi:=fun n b hb=>Yb (S:=alS) hT1 n b hb
 refine Qg @hHi ?_
 have hL2:(L.length:Int)=89:=by omega
 have hfn:alS.flows.length=1:=rfl
 rw[hfn]at hfl
 refine Xa hps (An @hHi @hL2) ?_
 have hfm:=Up 70 alS.flows
 generalize fls alS.flows=fz at *
 refine Xv5 (v:=false) (ex:=[(71,_),(71,_),(70,_),(70,_)]) hfl (Qi hT1) (Qi hT1) (by simpa [Qe] using hfm) Zde Zsi rfl ?_ ?_ ?_
 ·exact Qs
 ·exact Qq @Xg
 exact Qs
def ac0:Ac:=⟨0,0,0,[]⟩
noncomputable def Zv (b:Bool) (l:List Ac):Nat→NS
 | 0=>NS.new b
 | i + 1=>((Zv b l i).step (l.getD i ac0)).2
noncomputable def Xbm (b:Bool) (l:List Ac) (i:Nat):Rp:=((Zv b l i).step (l.getD i ac0)).1
theorem Qcr (b:Bool) (l:List Ac):∀ i,NK (Zv b l i)
 | 0=>NK.new b
 | i + 1=>(Qcr b l i).step _
theorem Xj6 {S:NS} (h:NK S) (a:Ac):(S.step a).2.acts≤S.acts + 1:=by
 unfold NS.step
 split
 ·exact Nat.le_succ _
 have h1:=h.toNI.setActs (S.acts + 1)
 dsimp only
 split
 ·exact Nat.le_of_eq (h1.out a.frame a.draw).2.act
 split
 ·exact Nat.le_of_eq (h1.inn a.frame).2.act
 split
 ·exact Nat.le_of_eq (h1.tick a.n).2.act
 split
 ·split<;>exact Nat.le_refl _
 ·exact Nat.le_refl _
theorem Qpq (b:Bool) (l:List Ac):∀ i,(Zv b l i).acts≤i
 | 0=>Nat.le_refl _
 | i + 1=>Nat.le_trans (Xj6 (Qcr b l i) _) (Nat.succ_le_succ (Qpq b l i))
def Qhw (l:List Ac):Prop:=∀ a ∈ l,a.frame.length≤140737488351232
theorem Xi6 {l:List Ac} (h:Qhw l) (i:Nat):(l.getD i ac0).frame.length≤140737488351232:=by
 by_cases hi:i < l.length
 ·simp only[List.getD,List.getElem?_eq_getElem hi,Option.getD_some];exact h _ (List.getElem_mem hi)
 ·simp[List.getD,List.getElem?_eq_none (Nat.le_of_not_lt hi),ac0]
theorem Xug (gl:Nat→AV) (h0:gl 0=.xp (Qp Xo) 0) (b:Bool) (l:List Ac) (hl:Qhw l) :
  ∃ Ts:Nat→WT,Ts 0=Jq 0 (.mapb [] true)∧(∀ i,∃ D,WI (Ts i) (Zv b l i).now D∧D.Perm (Zv b l i).tms) ∧
   ∀ i,GD Tryz.prog gl 20 [.ptr 67 0,.agg (l.getD i ac0).enc] (Qm (Zv b l i) (Ts i)) 70 [67] (.agg (Xbm b l i).enc) (Qm (Zv b l (i + 1)) (Ts (i + 1))):=by
 have step:∀ i (T:{T:WT // ∃ D,WI T (Zv b l i).now D∧D.Perm (Zv b l i).tms}),∃ T':{T:WT // ∃ D,WI T (Zv b l (i + 1)).now D∧D.Perm (Zv b l (i + 1)).tms},
   GD Tryz.prog gl 20 [.ptr 67 0,.agg (l.getD i ac0).enc] (Qm (Zv b l i) T.1) 70 [67] (.agg (Xbm b l i).enc) (Qm (Zv b l (i + 1)) T'.1):=fun i ⟨T,D,hW,hP⟩=>by
  obtain ⟨T1,D1,hW1,hP1,hg⟩:=Qmo gl h0 (Zv b l i) T D (Qcr b l i) hW hP (l.getD i ac0) (Xi6 hl i)
  exact ⟨⟨T1,D1,hW1,hP1⟩,hg⟩
 let f:∀ i,{T:WT // ∃ D,WI T (Zv b l i).now D∧D.Perm (Zv b l i).tms}→{T:WT // ∃ D,WI T (Zv b l (i + 1)).now D∧D.Perm (Zv b l (i + 1)).tms}:=fun i T=>Classical.choose (step i T)
 have hf:=fun i T=>Classical.choose_spec (step i T)
 let T0:{T:WT // ∃ D,WI T (Zv b l 0).now D∧D.Perm (Zv b l 0).tms}:=⟨Jq 0 (.mapb [] true),[],Qj9 0 Zde,List.Perm.refl _⟩
 let g:∀ i,{T:WT // ∃ D,WI T (Zv b l i).now D∧D.Perm (Zv b l i).tms}:=fun i=>Nat.rec T0 (fun i T=>f i T) i
 exact ⟨fun i=>(g i).1,rfl,fun i=>(g i).2,fun i=>hf i (g i)⟩
def acs (l:List Ac):List AV:=l.flatMap Ac.enc
theorem Xtr (l:List Ac):(acs l).length=l.length * 4:=by
 induction l with
 | nil=>rfl
 | cons f l ih=>simp only[acs,List.flatMap_cons,List.length_append]at ih ⊢;rw[ih];simp[Ac.enc];omega
theorem Qc5 (n:Nat) (l:List Ac):nmAll n (acs l):=by
 rw[Xi]
 intro v hv
 obtain ⟨f,_,hf⟩:=List.mem_flatMap.1 hv
 simp[Ac.enc]at hf
 rcases hf with rfl|rfl|rfl|rfl<;>simp[Qe]
theorem Xuf (l:List Ac) {i:Nat} (h:i < l.length):((acs l).drop (i * 4)).take 4=(l.getD i ac0).enc:=by
 induction l generalizing i with
 | nil=>simp at h
 | cons a l ih =>
  cases i with
  | zero=>simp[acs,Ac.enc]
  | succ i =>
   have:=ih (i:=i) (by simpa using h)
   rw[show (i + 1) * 4=4 + i * 4 by omega,← List.drop_drop]
   simpa [acs,Ac.enc] using this
def Zh (l:List Ac):Nat:=min l.length 100
set_option maxHeartbeats 4000000 in
theorem Qm3 (gl:Nat→AV) (h0:gl 0=.xp (Qp Xo) 0) (b:Bool) (l:List Ac) (hl:Qhw l) (hlen:l.length≤140737488351232) (lk:FuncId)
  (hlk:∀ i,i < Zh l→∀ T:WT,T.wf→GD Tryz.prog gl lk [.ptr 67 0,.agg (l.getD i ac0).enc,.agg (Xbm b l i).enc] (Qm (Zv b l (i + 1)) T) 70 (List.range 70) (.bool true) (Qm (Zv b l (i + 1)) T)) :
  ∃ T D,WI T (Zv b l (Zh l)).now D∧D.Perm (Zv b l (Zh l)).tms∧GS Tryz.prog gl 30 [.bool b,.isl l.length (acs l),.cl lk []] [] 0 (.tup [.ptr 67 0,.bool true]) (Qm (Zv b l (Zh l)) T) 70:=by
 obtain ⟨Ts,ht0,hts,hdo⟩:=Xug gl h0 b l hl
 obtain ⟨D,hD⟩:=hts (Zh l)
 refine ⟨Ts (Zh l),D,hD.1,hD.2,?_⟩
 have hwf:∀ i,(Ts i).wf:=fun i=>by
  obtain ⟨D,hD⟩:=hts i
  exact hD.1.wf
 have hal:=Xpk gl h0
 have hnew:=Qzl gl b
 rw[← ht0]at hnew
 refine Qt7.gsT (of_decide_eq_true rfl) fun c hgh hg=>?_
 subst hg
 conv in tcO _ _=>cbv
 refine Qd ?_
 refine Yt hal ?_
 (refine Qa (fun h1=>?_) (fun h1=>?_)<;>try exact h1.elim)
 refine Qd ?_
 refine Qka hnew (Qi (hwf 0)) ?_ Zsi ?_
 ·exact Qs
 dsimp only[List.nil_append]
 rw[Xe8]
 refine Qd ?_
 have hcl:=Xtr l
 have hcn:=fun n=>Qc5 n l
 have hcr:=fun ρ:Nat→Nat=>Kd (acs l)
 have hpl:Zh l≤l.length∧Zh l≤100:=⟨Nat.min_le_left _ _,Nat.min_le_right _ _⟩
 refine Yj (fun i:Nat=>i≤Zh l) (fun i=>⟨[(1,.isl l.length (acs l)),(2,.cl lk []),(8,.ptr 67 0),(9,.int .i64 i)],Qm (Zv b l i) (Ts i),70⟩) (fun i=>Zh l - i) Qt7.mixed (List.range 0) hgh
  ⟨0,Nat.zero_le _,To.sel (by exact Qs) fun b=>rfl⟩ fun i hi=>?_
 refine Qd ?_
 (refine Qa (fun h2=>?_) (fun h2=>?_)<;>try exact h2.elim)
 ·have hil:i < l.length:=by omega
  have hip:i < Zh l:=by unfold Zh;omega
  have hge:=Xuf l hil
  have hd:=hdo i
  have hlk1:=hlk i hip (Ts (i + 1)) (hwf (i + 1))
  have hT:=hwf i
  have hT1:=hwf (i + 1)
  generalize l.getD i ac0=a at *
  obtain ⟨a1,a2,a3,a4⟩:=a
  have hrr:∃ r1 r2 r3 r4,Xbm b l i=⟨r1,r2,r3,r4⟩:=⟨_,_,_,_,rfl⟩
  obtain ⟨r1,r2,r3,r4,hrr⟩:=hrr
  rw[hrr]at hd hlk1
  dsimp only[Ac.enc,Rp.enc]at hge hd hlk1
  refine Qg (An @hcl @hge) ?_
  have hcn70:=hcn 70
  have hcrs:=fun ρ:Nat→Nat=>show rens ρ (acs l)=acs l by rw[Yf];exact (List.map_congr_left fun v hv=>Km (Xi.1 (Qc5 0 l) v hv)).trans (List.map_id _)
  refine Ut (v:=false) (pp:=List.range 0) (ex:=[]) (s3:=⟨[(1,.isl l.length (acs l)),(2,.cl lk []),(8,.ptr 67 0),(9,.int .i64 i),(30,.agg [.int .i64 r1,.str r2,.bool r3,.str r4])],Qm (Zv b l (i + 1)) (Ts (i + 1)),70⟩) hgh hd (Qi hT) (Qi hT1) (by simp[Qe,nmAll]) Zde Zsi Zsi rfl ?_ ?_ ?_
  ·exact Qq @Xg
  ·refine To.nhome hT1 Zde Zsi Zsi ?_
   simp[tpu,Qw,Qe,nmAll,look,ren,rens,Qea,hcn70,hcrs]
  have hHi:=fun n j hj=>Yb (S:=Zv b l (i + 1)) hT1 n j hj
  refine Qg (An @hHi (An @hcl @hge)) ?_
  refine Qzj (v:=true) (ex:=[(70,_),(70,_)]) hlk1 (Qi hT1) (Qi hT1) (by simp[Qe]) Zde Zsi rfl ?_ ?_
  ·refine Qd ?_
   exact rfl
  refine Qg @hHi ?_
  (refine Qa (fun h3=>?_) (fun h3=>?_)<;>try exact h3.elim)
  refine Qd ?_
  exact ⟨i + 1,by omega,To.drop (ex:=[(70,_),(70,_)]) (Qi hT1) Zsi Zsi (by simp[Qw,Qe,nmAll,look,ren,rens,hcn70,hcrs]),by omega⟩
 ·have e:i=Zh l:=by unfold Zh at hi ⊢;omega
  subst e
  refine Qd ?_
  exact To.drop (ex:=[]) (Qi (hwf _)) Zsi Zsi (by simp[Qw,Qe,nmAll,look,ren,rens])
set_option maxHeartbeats 2000000 in
theorem Qln (gl:Nat→AV) (t:Tb) (ht:t.wf) (hl:t.maps.length≤4611686018427387904):PS Tryz.prog gl 43 [.agg t.enc,.agg t.enc] (.bool true):=by
 refine Qps.ps (of_decide_eq_true rfl) (by simp[Qe]) fun c hN hg=>?_
 conv in tcO _ _=>cbv
 have e2:=Tb.enc_len ht
 have e3:=Tb.enc_maps ht
 have e4:=Tb.enc_pool ht
 have e5:=Tb.enc_homes ht
 have hel:=Jc t.maps
 have hp:=@Xlm c true t.pool ht.pool
 have hh:=@Xky c true t.home ht.home
 refine Qg (An @e2 @e4) ?_
 refine Xa hp (An @e2 (An @e4 @e5)) ?_
 refine Xa hh (An @e2 @e3) ?_
 (refine Qa (fun h1=>?_) (fun h1=>?_)<;>try exact h1.elim)
 refine Qd ?_
 refine Xl (fun k:Nat=>k≤t.maps.length) (fun k=>⟨[(2,.ptr 0 0),(3,.ptr 1 0),(5,.int .i64 k)],[(0,.cells t.enc),(1,.cells t.enc)],2⟩) (fun k=>t.maps.length - k) Qps.mixed hN
  ⟨0,by omega,[],by exact Qs⟩ fun k hk=>?_
 refine Qg (An @e2 @e3) ?_
 (refine Qa (fun h2=>?_) (fun h2=>?_)<;>try exact h2.elim)
 ·have hkn:k < t.maps.length:=by omega
  have hcut:=Qd0 t.maps k hkn
  generalize t.maps[k]=x at *
  have heq:=@Qnc c true x x
  rw[decide_eq_true rfl]at heq
  refine Qg (An @e2 (An @e3 (An @hel @hcut))) ?_
  refine Xa heq (An @e2 (An @e3 (An @hel @hcut))) ?_
  (refine Qa (fun h3=>?_) (fun h3=>?_)<;>try exact h3.elim)
  refine Qd ?_
  refine ⟨k + 1,by omega,⟨[],?_⟩,by omega⟩
  exact Qs
 ·have:k=t.maps.length:=by omega
  subst this
  exact Qs
theorem Xm4:Um Tryz.prog 100 73=some (List.replicate 10 (.int .i64)):=by kernel_rfl
theorem Qtp (f:Fl):f.enc.map Yx=(List.replicate 10 (SK.int .i64)).map some:=rfl
theorem Xvd {c:Cx} {ne:Bool} (f:Fl):Qae Tryz.prog c (.cA ne 73) [.agg f.enc,.agg f.enc] (.bool (ne != true)) :=
 Qjb Xm4 (by kernel_rfl) (by kernel_rfl) (Qtp f) (Qtp f) Zsi
theorem Qz9 (l:List Fl) (k:Nat) (h:k < l.length):((fls l).drop (k * 10)).take 10=l[k].enc:=by
 induction l generalizing k with
 | nil=>simp at h
 | cons a l ih =>
  cases k with
  | zero=>simp[fls,Fl.enc,Kw]
  | succ k =>
   have:=ih k (by simpa using h)
   rw[show (k + 1) * 10=10 + k * 10 by omega,← List.drop_drop]
   simpa [fls,Fl.enc,Kw] using this
set_option maxHeartbeats 2000000 in
theorem Qjn (gl:Nat→AV) (l:List Fl) (hl:l.length≤1000000):PS Tryz.prog gl 45 [.isl l.length (fls l),.isl l.length (fls l)] (.bool true):=by
 refine Qpj.ps (of_decide_eq_true rfl) (by simp[Qe]) fun c hN hg=>?_
 conv in tcO _ _=>cbv
 have hel:=Qkr l
 have hnm:=Up 0 l
 refine Qd ?_
 (refine Qa (fun h1=>?_) (fun h1=>?_)<;>try exact h1.elim)
 refine Qd ?_
 refine Xl (fun k:Nat=>k≤l.length) (fun k=>⟨[(0,.isl l.length (fls l)),(1,.isl l.length (fls l)),(5,.int .i64 k)],[],0⟩) (fun k=>l.length - k) Qpj.mixed hN
  ⟨0,by omega,[],by exact Qq @hnm⟩ fun k hk=>?_
 refine Qd ?_
 (refine Qa (fun h2=>?_) (fun h2=>?_)<;>try exact h2.elim)
 ·have hkn:k < l.length:=by omega
  have hcut:=Qz9 l k hkn
  generalize l[k]=x at *
  have heq:=@Xvd c true x
  refine Qg (An @hel @hcut) ?_
  refine Xa heq (An @hel @hcut) ?_
  (refine Qa (fun h3=>?_) (fun h3=>?_)<;>try exact h3.elim)
  refine Qd ?_
  refine ⟨k + 1,by omega,⟨[],?_⟩,by omega⟩
  exact Qq @hnm
 ·have:k=l.length:=by omega
  subst this
  exact Qs
theorem Qlv (gl:Nat→AV) (S:NS) (T:WT) (hT:T.wf) (a:Ac) (r:Rp):GD Tryz.prog gl 31 [.ptr 67 0,.agg a.enc,.agg r.enc] (Qm S T) 70 (List.range 70) (.bool true) (Qm S T):=by
 refine Xkd.gq (of_decide_eq_true rfl) (Ze hT) (fun b hb=>List.mem_range.1 hb) fun c hgh hg=>?_
 conv in tcO _ _=>cbv
 have hHi:=fun n b hb=>Yb (S:=S) hT n b hb
 obtain ⟨a1,a2,a3,a4⟩:=a
 obtain ⟨r1,r2,r3,r4⟩:=r
 unfold Ac.enc Rp.enc
 refine Qg @hHi ?_
 exact ⟨(),To.drop (ex:=[(71,_),(70,_)]) (Qi hT) Zsi Zsi (by simp[Qw,Qe,nmAll,look,ren,rens])⟩
theorem Qs8 {S:NS} (h:NK S) (a:Ac) (ha:S.acts < 300):(S.step a).2.acts=S.acts + 1:=by
 unfold NS.step
 rw[if_neg Zom]
 have h1:=h.toNI.setActs (S.acts + 1)
 dsimp only
 split
 ·exact (h1.out a.frame a.draw).2.act
 split
 ·exact (h1.inn a.frame).2.act
 split
 ·exact (h1.tick a.n).2.act
 split
 ·split<;>rfl
 ·rfl
theorem Qjd (b:Bool) (l:List Ac):∀ i,i≤300→(Zv b l i).acts=i
 | 0,_=>rfl
 | i + 1,h=>by
  have ih:=Qjd b l i Zom
  have:=Qs8 (Qcr b l i) (l.getD i ac0) Zom
  rw[ih]at this
  exact this
set_option maxHeartbeats 4000000 in
theorem Xh8 (gl:Nat→AV) (S:NS) (T:WT) (hw:S.tb.wf) (hT:T.wf) (ak an ad:Int) (f:List UInt8) (ha:300≤S.acts):GD Tryz.prog gl 20 [.ptr 67 0,.agg [.int .i64 ak,.int .i64 an,.int .i64 ad,.str f]] (Qm S T) 70 (List.range 70) (.agg (rpE 6).enc) (Qm S T):=by
 refine Qej.gq (of_decide_eq_true rfl) (Ze hT) (fun b hb=>List.mem_range.1 hb) fun c hgh hg=>?_
 subst hg
 conv in tcO _ _=>cbv
 have hHi:=fun n b hb=>Yb (S:=S) hT n b hb
 have h67:=Jw S T
 have hcl:=NS.cells_len hw
 have c36:=NS.c36 hw
 refine Qg (An @hHi (An @h67 (An @hcl @c36))) ?_
 (refine Qa (fun h1=>?_) (fun h1=>?_)<;>try exact h1.elim)
 refine Qg (An @hHi (An @h67 (An @hcl @c36))) ?_
 (refine Qa (fun h2=>?_) (fun h2=>?_)<;>try exact h2.elim)
 ·unfold rpE Rp.enc
  refine Qg @hHi ?_
  exact ⟨(),To.drop (ex:=[(71,_),(71,_),(70,_)]) (Qi hT) Zsi Zde (by simp[Qw,Qe,nmAll,look,ren,rens])⟩
 ·omega
theorem Xd4:Um Tryz.prog 100 27=some [.int .i64,.str,.bool,.str]:=by kernel_rfl
theorem Xw0 {c:Cx} {ne:Bool} (r:Rp):Qae Tryz.prog c (.cA ne 27) [.agg r.enc,.agg r.enc] (.bool (ne != true)) :=
 Qjb Xd4 (by kernel_rfl) (by kernel_rfl) rfl rfl Zsi
theorem To.one {S:NS} {T:WT} {t t':List (Nat × AV)} {x:Bk} (hT:T.wf) (hx:nmB 0 x) (ht:Qw (fun i=>if i=70 then 0 else 1 + i) 71 t t'):To [] ⟨t,[(0,x)]++Xd (fun b=>1 + b) (Qm S T),71⟩ ⟨t',[(70,x)]++Qm S T,71⟩:=by
 refine To.fam (fun i=>if i=70 then 0 else 1 + i) ((Qi hT).more (Qc7 (Nat.zero_le _) hx)) (fun b hb=>by cases hb) (fun b b' h1 h2 e=>?_) (fun b hb=>?_) ht
 ·(repeat' split at e)<;>omega
 ·by_cases h:b=70
  ·subst h
   show Qb ((0,x)::Xd (fun b=>1 + b) (Qm S T)) 71 (if 70=70 then 0 else 1 + 70)=Xf _ (Qb ((70,x)::Qm S T) 71 70)
   rw[if_pos rfl,Qc,if_pos rfl,Qc,if_pos rfl,Ww (g:=id) (fun j hj=>by omega) hx,Wz]
  ·show Qb ((0,x)::Xd (fun b=>1 + b) (Qm S T)) 71 (if b=70 then 0 else 1 + b)=Xf _ (Qb ((70,x)::Qm S T) 71 b)
   rw[if_neg h,Qc,if_neg Zom,Qc,if_neg fun e=>h e.symm]
   have hb70:b < 70:=by omega
   rw[(Qi hT).lo hb70 71,Kz (m:=70) (fun b b' h1 h2 e=>by omega) hb70 (fun q hq=>((Qi hT).mem q hq).1) ((Qi hT).cov b hb70)]
   exact Ww (fun j hj=>by rw[if_neg Zom]) ((Qi hT).nm hb70)
section
variable {P:Program} {c:Cx}
theorem Qvw {pp:List Nat} {s3:St} {r0:List TOp} {K:St→Prop} {s:St} {d:Option Nat} {f:FuncId} {xs:List TV} {args:List AV} {r:AV} {hout:List (Nat × Bk)} {m:Nat} (hgh:∀ q ∈ c.gh,q.1 ∈ pp) (hgs:GS P c.gl f args [] 0 r hout m) (hHL:HL hout m) (hc:Qt none (evs c.gl s.fs xs)∧(evs c.gl s.fs xs).map Qj=args∧nmAll 0 args∧Qe m r) (hs:∀ q ∈ s.h,q.1 < s.n)
  (hto:To pp (St.putO ⟨s.t,s.h++Xd (fun b=>s.n + b) hout,s.n + m⟩ d (ren (fun b=>s.n + b) r)) s3) (hx:XP P c r0 K s3):Yc P c (.pd d (.call f) xs none) r0 K s:=by
 refine .inr fun ops io he g a w hR K' Q' hK=>?_
 have hA:=Qq3 (d:=d) hgs hHL hc.1 hc.2.1 hc.2.2.1 hc.2.2.2 hs ops io he
 refine hA.step _ (fun _ _=>rfl) (fun _ _=>rfl) g a w hR K' Q' fun g2 a' w' hR2=>?_
 rw[Qfj hA.outT hA.outH]at hR2
 obtain ⟨g3,hR3⟩:=hto c g2 a' w' hgh hR2
 exact hK g3 s3 a' w' hx hR3
end
set_option maxHeartbeats 8000000 in
theorem Xad (gl:Nat→AV) (h0:gl 0=.xp (Qp Xo) 0) (b:Bool) (l:List Ac) (a:Ac) (hl:Qhw l) (hlen:l.length≤140737488351232):PS Tryz.prog gl 13 [.bool b,.isl l.length (acs l),.agg a.enc] (.bool true):=by
 obtain ⟨T,D,hW,hP,hpl⟩:=Qm3 gl h0 b l hl hlen 31 fun i hi T hT=>Qlv gl _ T hT _ _
 have hK:=Qcr b l (Zh l)
 have hac:=Qjd b l (Zh l) (by unfold Zh;omega)
 have hp1:Zh l≤100:=by unfold Zh;omega
 have hT:=hW.wf
 generalize Zv b l (Zh l)=S at *
 have hid:=fun i (hi:i < 300)=>Xte gl { S with acts:=i } T hK.wf hT 0 0 0 [] hi Zde
 obtain ⟨a1,a2,a3,a4⟩:=a
 have hfull:=Xh8 gl { S with acts:=300 } T hK.wf hT a1 a2 a3 a4 (Nat.le_refl _)
 have hN:NJ { S with acts:=300 }:=(hK.toNI.setActs 300).toNJ
 have htb:=Qef gl _ T hN hT
 have hfl:=Qd5 gl _ T hN hT
 have hsm:=Qln gl S.tb hK.wf (by have:=Qbw (Wp.2 hK.gt);omega)
 have hsf:=Qjn gl S.flows (by have:=hK.len;simp[NS.flows];omega)
 have hS:S={ S with acts:=Zh l }:=by rw[← hac]
 unfold Ac.enc rpE Rp.enc at *
 dsimp only at *
 refine Qsm.ps (of_decide_eq_true rfl) (by simp[Qe]) fun c hN hg=>?_
 subst hg
 conv in tcO _ _=>cbv
 have hcn:=Qc5 0 l
 refine Qd ?_
 have hcr:=fun ρ:Nat→Nat=>show rens ρ (acs l)=acs l by rw[Yf];exact (List.map_congr_left fun v hv=>Km (Xi.1 (Qc5 0 l) v hv)).trans (List.map_id _)
 have hcn71:=Qc5 71 l
 refine Qvw (pp:=[]) (s3:=⟨[(15,.tup [.ptr 67 0,.bool true]),(1,.isl l.length (acs l)),(5,.ptr 70 0)],[(70,.cells [.int .i64 a1,.int .i64 a2,.int .i64 a3,.str a4])]++Qm S T,71⟩) (by rw[hN];simp) hpl (Qi hT) ?_ Zsi ?_ ?_
 ·exact Qs
 ·refine To.one hT (by simp[nmB,nmAll,Qe]) ?_
  simp[Qw,Qe,nmAll,look,ren,rens,hcr,hcn71]
 have hmn1:(if ((l.length:Nat):Int) < 100 then ((l.length:Nat):Int) else 100)=(Zh l:Nat):=by unfold Zh;split<;>omega
 refine Qd ?_
 (refine Qa (fun h1=>?_) (fun h1=>?_)<;>try exact h1.elim)
 refine Qd ?_
 refine Yj (fun i:Nat=>Zh l≤i∧i≤300) (fun i=>⟨[(5,.ptr 70 0),(7,.ptr 67 0),(9,.int .i64 i)],[(70,.cells [.int .i64 a1,.int .i64 a2,.int .i64 a3,.str a4])]++Qm { S with acts:=i } T,71⟩) (fun i=>300 - i) Qsm.mixed [] (by rw[hN];simp)
  ⟨Zh l,⟨Nat.le_refl _,by omega⟩,?_⟩ fun i hi=>?_
 ·rw[← hS]
  refine To.sel ?_ fun b=>rfl
  exact Qs
 obtain ⟨hi1,hi2⟩:=hi
 refine Qd ?_
 (refine Qa (fun h2=>?_) (fun h2=>?_)<;>try exact h2.elim)
 ·have hd:=hid i Zom
  have H2:HL ([(70,.cells [.int .i64 a1,.int .i64 a2,.int .i64 a3,.str a4])]++Qm { S with acts:=i + 1 } T) 71:=(Qi hT).more (by simp[nmB,nmAll,Qe])
  refine Qd ?_
  refine Ut (v:=false) (pp:=[]) (ex:=[(70,_)]) (s3:=⟨[(5,.ptr 70 0),(7,.ptr 67 0),(9,.int .i64 i),(29,.agg [.int .i64 4,.str [],.bool false,.str []])],[(70,.cells [.int .i64 a1,.int .i64 a2,.int .i64 a3,.str a4])]++Qm { S with acts:=i + 1 } T,71⟩) (by rw[hN];simp) hd (Qi hT) (Qi hT) (by simp[Qe,nmAll]) Zde Zsi Zsi rfl ?_ ?_ ?_
  ·exact Qq @Xg
  ·unfold Ja
   refine To.natM hT H2 Zde Zde Zsi Zsi Zsi (fun b h1 h2=>?_) ?_
   ·obtain rfl:b=70:=by omega
    rfl
   ·simp[Qw,Qe,nmAll,look,ren,rens,Qfo,lw,Qea]
  refine Qd ?_
  (refine Qa (fun h3=>?_) (fun h3=>?_)<;>try exact h3.elim)
  refine Qd ?_
  exact ⟨i + 1,⟨by omega,by omega⟩,To.sel (by exact Qs) (fun b=>rfl),by omega⟩
 ·obtain rfl:i=300:=by omega
  generalize hS9:({ S with acts:=300 }:NS)=S1 at *
  have hHi:=fun n j hj=>Yb (S:=S1) hT n j hj
  have hfl2:S1.flows=S.flows:=by rw[← hS9];rfl
  rw[hfl2]at hfl
  have e2:=Tb.enc_len hK.wf
  have htt:S.tb.enc.take 30=S.tb.enc:=List.take_of_length_le (by rw[e2];decide)
  have htn:=Tb.enc_nm (t:=S.tb) 70
  have hfn:=Up 70 S.flows
  refine Qd ?_
  refine Ws (v:=false) (ex:=[(70,_)]) htb (Qi hT) (Qi hT) (by simpa [Qe] using htn) Zde Zsi rfl ?_ ?_
  ·exact Qq @Xg
  refine Qd ?_
  refine Ws (v:=false) (ex:=[(70,_)]) hfl (Qi hT) (Qi hT) (by simpa [Qe] using hfn) Zde Zsi rfl ?_ ?_
  ·exact Qq @Xg
  refine Qg (An @hHi (An @e2 @htt)) ?_
  have hrp:=@Xw0 c false ⟨6,[],false,[]⟩
  unfold Rp.enc at hrp
  dsimp only at hrp
  refine Qzj (v:=false) (ex:=[(211,_),(211,_),(70,_)]) hfull (Qi hT) (Qi hT) (by simp[Qe,nmAll]) Zde Zsi rfl ?_ ?_
  ·exact Qq @Xg
  refine Qd ?_
  refine Xa hrp (An @e2 @htt) ?_
  refine Qco (v:=false) (ex:=[(211,_),(211,_),(70,_)]) htb (Qi hT) (Qi hT) (by simpa [Qe] using htn) Zde Zsi rfl ?_ ?_ ?_
  ·exact Qs
  ·exact Qq @Xg
  refine Yt hsm ?_
  refine Qco (v:=false) (ex:=[(211,_),(211,_),(70,_)]) hfl (Qi hT) (Qi hT) (by simpa [Qe] using hfn) Zde Zsi rfl ?_ ?_ ?_
  ·exact Qs
  ·exact Qq @Xg
  have hf0:=Up 0 S.flows
  exact Qjq hsf @hf0
end Go.Proofs.YtogckmommodmhaaGreatDoor
namespace Go.Proofs.YtogckmommodmhaaGreatDoor
open Go.ChangeShapes Go.WideShapes Go.Deep Go.RowKit
open Go.RowKit
set_option linter.all false
set_option linter.unusedSimpArgs false
set_option maxRecDepth 100000
section
variable {H:Type} {enc:TypeId × Value→H} {P:Program} {w:World} {base:Nat} {spare:Nat→Bool} {held:Bool}
theorem Qky {t e:TypeId} {fs:Array Field} {fuel:Nat} {cs:List Value} {x:DataW H × List MemPlace} (ht:P.underlying t=some (.slice e)) (he:P.underlying e=some (.struct fs))
  (hone:oneCellFields P fs=true) (hC:P.cellsOf e=fs.size) (h:DataW.trod enc P w base spare held fuel t cs=some x) :
  (cs=[.slice none 0 0]∧x=(.nil,[])) ∨
  ∃ (a:Addr) (len cap m:Nat) (D:Nat→DataW H) (Pl:Nat→List MemPlace),cs=[.slice (some a) len cap]∧base≤a.block∧len≤cap∧cap≤maxLen∧m=(if spare a.block then cap else len) ∧
   x=(.slice ((List.range len).map D) ((List.range (m - len)).map fun j=>D (len + j)),MemPlace.row a (m * fs.size)++(List.range m).flatMap Pl) ∧
   ∀ i,i < m→∃ (ys:List (DataW H × List MemPlace)) (n:Nat),D i=.agg (ys.map (·.1))∧Pl i=ys.flatMap (·.2)∧ys.length=fs.size ∧
    ∀ (j:Nat) (f:Field),fs[j]?=some f→∃ (v:Value) (y:DataW H × List MemPlace),w.cell? (a.add (i * fs.size + j))=some v∧ys[j]?=some y∧DataW.trod enc P w base spare held n f.type [v]=some y:=by
 rcases open_slice ht h with h0|⟨a,len,cap,m,n,D,Pl,hcs,hb,hl,hm,hmm,hx,hi⟩
 ·exact .inl h0
 ·refine .inr ⟨a,len,cap,m,D,Pl,hcs,hb,hl,hm,hmm,by rw[hC]at hx;exact hx,fun i him=>?_⟩
  obtain ⟨cs',hc,ht'⟩:=hi i him
  rw[hC]at hc
  obtain ⟨ys,n',hn',hy,hlen,hyl,hf⟩:=DataW.trod_struct he ht'
  obtain ⟨_,hcl,hat⟩:=World.cells?_some hc
  simp only[Prod.mk.injEq]at hy
  refine ⟨ys,n',hy.1,hy.2,hyl,fun j f hj=>?_⟩
  obtain ⟨ho,hk⟩:=hone_of hone j f hj
  have hjl:j < fs.size:=(Array.getElem?_eq_some_iff.1 hj).1
  have hcell:=hat j hjl
  have hv:cs'[j]?=some (cs'[j]'Zom):=List.getElem?_eq_getElem Zom
  have h1:=hf j f hj
  rw[ho,hk]at h1
  have hone':(cs'.drop j).take 1=[cs'[j]'Zom]:=by
   rw[List.drop_eq_getElem_cons Zom]
   rfl
  rw[hone']at h1
  have hys:ys[j]?=some (ys[j]'Zom):=List.getElem?_eq_getElem Zom
  refine ⟨_,_,?_,hys,h1.trans hys⟩
  rw[← Go.Deep.add_add,hcell,hv]
structure InSl (w:World) (v:Value) (n sz:Nat) (R:Nat→Nat→Value→Prop):Prop where
 form:∃ A cap,v=.slice A n cap∧n≤cap∧cap≤maxLen∧(0 < n→∃ b o,A=some ⟨b,o,none⟩∧b < w.heap.size∧∀ i,i < n→∀ j,j < sz→∃ u,w.cell? ⟨b,o + (i * sz + j),none⟩=some u∧R i j u)
end
end Go.Proofs.YtogckmommodmhaaGreatDoor
namespace Go.Proofs.YtogckmommodmhaaGreatDoor
open Go.RowKit
open Go.RowKit Go.ChangeShapes Go.WideShapes Go.Deep
set_option linter.all false
set_option linter.unusedSimpArgs false
set_option maxRecDepth 100000
theorem InSl.isl {W:World} {v:Value} {n sz:Nat} {R:Nat→Nat→Value→Prop} (hsz:0 < sz) (h:InSl W v n sz R) (h1:∀ i j u,R i j u→u.oneCell'=true) :
  ∃ us:Nat→Value,(∀ i,i < n→∀ j,j < sz→R i j (us (i * sz + j)))∧VR (fun _=>.un) (fun _=>False) W (.isl n ((List.range (n * sz)).map fun m=>ofS (us m))) v:=by
 obtain ⟨A,cap,rfl,hn,hm,hc⟩:=h.form
 rcases Nat.eq_zero_or_pos n with rfl|hpos
 ·exact ⟨fun _=>undef,fun i hi=>absurd hi Zom,.isl (us:=fun _=>undef) hn hm (fun j hj=>by simp at hj) fun j hj=>by simp at hj⟩
 ·obtain ⟨b,o,rfl,hb,hcell⟩:=hc hpos
  have key:∀ i,i < n→∀ j,j < sz→W.cell? ⟨b,o + (i * sz + j),none⟩=some ((W.cell? ⟨b,o + (i * sz + j),none⟩).getD undef)∧R i j ((W.cell? ⟨b,o + (i * sz + j),none⟩).getD undef):=by
   intro i hi j hj
   obtain ⟨u,hu,hr⟩:=hcell i hi j hj
   rw[hu];exact ⟨rfl,hr⟩
  refine ⟨fun m=>(W.cell? ⟨b,o + m,none⟩).getD undef,fun i hi j hj=>(key i hi j hj).2,?_⟩
  have at_:∀ m,m < n * sz→W.cell? ⟨b,o + m,none⟩=some ((W.cell? ⟨b,o + m,none⟩).getD undef)∧((W.cell? ⟨b,o + m,none⟩).getD undef).oneCell'=true:=by
   intro m hm
   have hd:m / sz < n:=Nat.div_lt_of_lt_mul (by rw[Nat.mul_comm];exact hm)
   have hr:=Nat.mod_lt m hsz
   have e:m / sz * sz + m % sz=m:=by rw[Nat.mul_comm];exact Nat.div_add_mod m sz
   have:=key _ hd _ hr
   rw[e]at this
   exact ⟨this.1,h1 _ _ _ this.2⟩
  refine .isl (us:=fun m=>(W.cell? ⟨b,o + m,none⟩).getD undef) hn hm (fun j hj=>⟨b,o,rfl,?_,id,?_⟩) fun j hj=>?_
  ·simp only[List.length_map,List.length_range]at hj;exact (at_ j hj).1
  ·simp only[List.length_map,List.length_range]at hj;exact (at_ j hj).2
  ·simp only[List.length_map,List.length_range]at hj
   have:((List.range (n * sz)).map fun m=>ofS ((W.cell? ⟨b,o + m,none⟩).getD undef)).getD j .any=ofS ((W.cell? ⟨b,o + j,none⟩).getD undef):=by simp[List.getD,hj]
   rw[this]
   exact Qms _
end Go.Proofs.YtogckmommodmhaaGreatDoor
namespace Go.Proofs.YtogckmommodmhaaGreatDoor
open Go.RowKit
open Go.RowKit Go.ChangeShapes Go.WideShapes
set_option linter.all false
set_option linter.unusedSimpArgs false
set_option maxRecDepth 100000
theorem Xyz (l:List UInt8):Fix (.str l) (.string ⟨l.toArray⟩):=fun _ _ _ u=>⟨fun h=>by cases h;rfl,fun h=>by subst h;exact .str _⟩
theorem Tryz.cellTypes_act:Tryz.prog.cellTypes Tryz.prog.depth 23=some [3,3,3,9]:=by kernel_rfl
theorem Tryz.cellsOf_act:Tryz.prog.cellsOf 23=4:=by kernel_rfl
end Go.Proofs.YtogckmommodmhaaGreatDoor
namespace Go.Proofs.YtogckmommodmhaaGreatDoor
open Go.RowKit
open Go.RowKit Go.ChangeShapes Go.WideShapes Go.Deep
set_option linter.all false
set_option linter.unusedSimpArgs false
set_option maxRecDepth 100000
theorem Quf:((Tryz.prog.fieldsOf 23).toList.map (·.type))=[3,3,3,9]:=by kernel_rfl
theorem Qj1:Tryz.prog.underlying 23=some (.struct (Tryz.prog.fieldsOf 23)):=by kernel_rfl
theorem Qyj:(Tryz.prog.fieldsOf 23).size=4:=by kernel_rfl
theorem Xji:oneCellFields Tryz.prog (Tryz.prog.fieldsOf 23)=true:=by kernel_rfl
theorem Xrv:Tryz.prog.cellsOf 23=(Tryz.prog.fieldsOf 23).size:=by kernel_rfl
theorem Xp2:Tryz.prog.bytesOf 23=40:=by kernel_rfl
def Xei {H:Type} (a:Ac) (d:DataW H):Prop:=∃ parts,d=.agg parts∧parts[3]?=some (.lit (.string a.frame))
theorem Ql1 {H:Type} {P:Program} {e:TypeId} {d:DataW H} {n:Nat}:∀ {es:List (DataW H)},d ∈ es→n ∈ d.weights P e→n ∈ DataW.weightsAll P e es
 | d0::es,hd,hn=>by
  simp only[DataW.weightsAll,List.mem_append]
  rcases List.mem_cons.1 hd with rfl|hd
  ·exact .inl hn
  ·exact .inr (Ql1 hd hn)
theorem Xei.weight {H:Type} {a:Ac} {d:DataW H} (h:Xei a d):a.frame.length ∈ d.weights Tryz.prog 23:=by
 obtain ⟨parts,rfl,h3⟩:=h
 simp only[DataW.weights,Qj1,Quf]
 exact DataW.weights_mem_each (j:=3) rfl h3 _ (by simp[DataW.weights])
theorem Qut {j:Nat} {f:Field} (h:(Tryz.prog.fieldsOf 23)[j]?=some f):[3,3,3,9][j]?=some f.type:=by
 rw[← Quf,List.getElem?_map,Array.getElem?_toList,h];rfl
section
variable {H:Type} {enc:TypeId × Value→H} {w:World} {base:Nat} {spare:Nat→Bool} {held:Bool}
set_option maxRecDepth 100000 in
theorem Qua {b0:Nat} {v:Value} {d:DataW H} {p:List MemPlace} (hval:Value.okWide Tryz.prog w .any b0 23 v) (h:DataW.Trod enc Tryz.prog w base spare held 23 v d p) :
  ∃ a:Ac,Xei a d∧VR (fun _=>.un) (fun _=>False) w (.agg a.enc) v:=by
 obtain ⟨cs,rfl,hs,hall⟩:=Xku (.inl ⟨_,Tryz.underlying23⟩) Tryz.cellTypes_act Tryz.cellsOf_act rfl hval
 obtain ⟨x0,e0,c0⟩:=hall 0 _ rfl
 obtain ⟨n0,rfl,lo0,hi0⟩:=Qlf c0 Tryz.underlying3
 obtain ⟨x1,e1,c1⟩:=hall 1 _ rfl
 obtain ⟨n1,rfl,lo1,hi1⟩:=Qlf c1 Tryz.underlying3
 obtain ⟨x2,e2,c2⟩:=hall 2 _ rfl
 obtain ⟨n2,rfl,lo2,hi2⟩:=Qlf c2 Tryz.underlying3
 obtain ⟨x3,e3,c3⟩:=hall 3 _ rfl
 obtain ⟨s3,rfl,z3⟩:=Qw1 c3 Tryz.underlying9
 obtain rfl:cs=#[.int .i64 n0,.int .i64 n1,.int .i64 n2,.string s3]:=by
  apply Array.ext_getElem?
  intro i
  by_cases hi:i < 4
  ·match i,hi with
   | 0,_=>exact e0
   | 1,_=>exact e1
   | 2,_=>exact e2
   | 3,_=>exact e3
  ·rw[Array.getElem?_eq_none Zom,Array.getElem?_eq_none (by simp;omega)]
 refine ⟨⟨n0,n1,n2,s3.data.toList⟩,?_,?_⟩
 ·obtain ⟨fuel,h⟩:=h
  obtain ⟨xs,n,_,hx,_,hxl,hf⟩:=DataW.trod_struct Qj1 h
  have hsz:=Qyj
  have h3:(Tryz.prog.fieldsOf 23)[3]?=some ((Tryz.prog.fieldsOf 23)[3]'(by rw[hsz];decide)):=Array.getElem?_eq_getElem _
  generalize (Tryz.prog.fieldsOf 23)[3]'(by rw[hsz];decide)=f at h3
  obtain ⟨ho,hk⟩:=hone_of Xji 3 f h3
  have ht:=Qut h3
  have ht:f.type=9:=by simpa using ht.symm
  have hd:=hf 3 f h3
  rw[ho,hk,ht]at hd
  have hl:((Value.agg #[.int .i64 n0,.int .i64 n1,.int .i64 n2,.string s3]).cells.toList.drop 3).take 1=[.string s3]:=rfl
  rw[hl,List.getElem?_eq_getElem Zom]at hd
  obtain ⟨s,q1,q2,_⟩:=DataW.trod_string Tryz.underlying9 hd
  obtain rfl:s3=s:=by simpa using q1
  refine ⟨_,(Prod.mk.inj hx).1,?_⟩
  rw[List.getElem?_map,List.getElem?_eq_getElem Zom,q2]
  rfl
 ·have hs:Value.string s3=.string ⟨s3.data.toList.toArray⟩:=by cases s3;simp
  rw[hs]
  exact (Fix.agg (xs:=[.int .i64 n0,.int .i64 n1,.int .i64 n2,.str s3.data.toList]) (vs:=[.int .i64 n0,.int .i64 n1,.int .i64 n2,.string ⟨s3.data.toList.toArray⟩])
   ⟨.int _ _,rfl,.int _ _,rfl,.int _ _,rfl,Xyz _,rfl,trivial⟩ _ _ _ _).2 rfl
def Xzj (d:DataW H) (i j:Nat) (u:Value):Prop:=∃ es sp parts,d=.slice es sp∧es[i]?=some (.agg parts) ∧
 ((j < 3∧∃ z,u=.int .i64 z)∨(j=3∧∃ s:ByteArray,u=.string s∧parts[3]?=some (.lit (.string s.data.toList))))
set_option maxRecDepth 100000 in
theorem Qj4 {b0:Nat} {v:Value} {d:DataW H} {p:List MemPlace} (hval:Value.okWide Tryz.prog w .any b0 44 v) (h:DataW.Trod enc Tryz.prog w base spare held 44 v d p) :
  ∃ n,(d=.nil∧n=0∨∃ es sp,d=.slice es sp∧es.length=n)∧InSl w v n 4 (Xzj d):=by
 obtain ⟨A,len,cap,rfl⟩:=okWide_slice Tryz.underlying44 hval
 obtain ⟨fuel,h⟩:=h
 have hsz:=Qyj
 rcases Qky Tryz.underlying44 Qj1 Xji Xrv h with ⟨h0,h1⟩|⟨a,len',cap',m,D,Pl,hcs,hb,hl,hm,hmm,hx,hi⟩
 ·simp[Value.cells]at h0
  obtain ⟨rfl,rfl,rfl⟩:=h0
  exact ⟨0,.inl ⟨(Prod.mk.inj h1).1,rfl⟩,⟨none,0,rfl,Nat.le_refl _,by unfold maxLen;omega,fun h=>by omega⟩⟩
 ·simp[Value.cells]at hcs
  obtain ⟨rfl,rfl,rfl⟩:=hcs
  refine ⟨len,.inr ⟨_,_,(Prod.mk.inj hx).1,by simp⟩,⟨some a,cap,rfl,hl,hm,fun h0=>?_⟩⟩
  have hlm:len≤m:=by rw[hmm];split<;>omega
  obtain ⟨ab,ao,asp⟩:=a
  obtain ⟨ys,n',_,_,_,hf⟩:=hi 0 Zom
  obtain ⟨v0,y0,hc0,_,_⟩:=hf 0 _ (Array.getElem?_eq_getElem (by rw[hsz];decide))
  have hsp:asp=none:=by
   simp only[Nat.zero_mul,Nat.add_zero,Addr.add,if_pos]at hc0
   unfold World.cell? at hc0
   cases asp with
   | none=>rfl
   | some s=>revert hc0;cases w.heap[ab]? with
    | none=>simp
    | some o=>cases o<;>simp
  subst hsp
  refine ⟨ab,ao,rfl,?_,fun i hin j hj=>?_⟩
  ·rcases Nat.lt_or_ge ab w.heap.size with h|h
   ·exact h
   ·simp only[Nat.zero_mul,Nat.add_zero,Addr.add,if_pos]at hc0
    unfold World.cell? at hc0
    rw[Array.getElem?_eq_none h]at hc0
    cases hc0
  ·obtain ⟨ys,n',hD,_,hyl,hf⟩:=hi i Zom
   have hj2:j < (Tryz.prog.fieldsOf 23).size:=by rw[hsz];exact hj
   obtain ⟨u,y,hc,hy,ht'⟩:=hf j _ (Array.getElem?_eq_getElem hj2)
   rw[Addr.add_mid,hsz]at hc
   refine ⟨u,hc,_,_,ys.map (·.1),(Prod.mk.inj hx).1,by simp[hin,hD],?_⟩
   have ht:=Qut (Array.getElem?_eq_getElem hj2)
   generalize (Tryz.prog.fieldsOf 23)[j]=f at ht ht'
   rcases (by omega:j=0∨j=1∨j=2∨j=3) with rfl|rfl|rfl|rfl
   ·have e:f.type=3:=by simpa using ht.symm
    rw[e]at ht'
    obtain ⟨z,hz,_⟩:=DataW.trod_int Tryz.underlying3 ht'
    exact .inl ⟨by decide,z,by simpa using hz⟩
   ·have e:f.type=3:=by simpa using ht.symm
    rw[e]at ht'
    obtain ⟨z,hz,_⟩:=DataW.trod_int Tryz.underlying3 ht'
    exact .inl ⟨by decide,z,by simpa using hz⟩
   ·have e:f.type=3:=by simpa using ht.symm
    rw[e]at ht'
    obtain ⟨z,hz,_⟩:=DataW.trod_int Tryz.underlying3 ht'
    exact .inl ⟨by decide,z,by simpa using hz⟩
   ·have e:f.type=9:=by simpa using ht.symm
    rw[e]at ht'
    obtain ⟨s,hz,he,_⟩:=DataW.trod_string Tryz.underlying9 ht'
    exact .inr ⟨rfl,s,by simpa using hz,by rw[List.getElem?_map,hy,he];rfl⟩
theorem InSl.acts {v:Value} {d:DataW H} {n:Nat} (h:InSl w v n 4 (Xzj d)) (hn:d=.nil∧n=0∨∃ es sp,d=.slice es sp∧es.length=n) {ts:List TypeId} {ds:List (DataW H)} (hsz:(DataW.weightsEach Tryz.prog ts ds).all (·≤reachBytes)=true) {j:Nat} (ht:ts[j]?=some 44) (hd:ds[j]?=some d) :
  ∃ l:List Ac,l.length=n∧Qhw l∧l.length≤140737488351232∧VR (fun _=>.un) (fun _=>False) w (.isl n (acs l)) v:=by
 obtain ⟨us,hu,hv⟩:=h.isl Zde fun i j u ⟨es,sp,parts,_,_,hr⟩=>by
  rcases hr with ⟨_,z,rfl⟩|⟨_,s,rfl,_⟩<;>rfl
 let gi (v:Value):Int:=match v with|.int _ z=>z|_=>0
 let gs (v:Value):List UInt8:=match v with|.string s=>s.data.toList|_=>[]
 let ac (i:Nat):Ac:=⟨gi (us (i * 4 + 0)),gi (us (i * 4 + 1)),gi (us (i * 4 + 2)),gs (us (i * 4 + 3))⟩
 have heq:∀ k,k≤n→(List.range (k * 4)).map (fun m=>ofS (us m))=acs ((List.range k).map ac):=fun k=>by
  induction k with
  | zero=>intro _;rfl
  | succ k ih =>
   intro hk
   rw[show (k + 1) * 4=k * 4 + 1 + 1 + 1 + 1 by omega,List.range_succ,List.range_succ,List.range_succ,List.range_succ,List.range_succ]
   simp only[List.map_append,List.map_cons,List.map_nil,List.append_assoc]
   rw[ih Zom]
   simp only[acs,List.flatMap_append,List.flatMap_cons,List.flatMap_nil,List.append_nil,Ac.enc]
   congr 1
   obtain ⟨_,_,_,_,_,h0⟩:=hu k Zom 0 Zde
   obtain ⟨_,_,_,_,_,h1⟩:=hu k Zom 1 Zde
   obtain ⟨_,_,_,_,_,h2⟩:=hu k Zom 2 Zde
   obtain ⟨_,_,_,_,_,h3⟩:=hu k Zom 3 Zde
   obtain ⟨_,z0,e0⟩:=h0.resolve_right Zsi
   obtain ⟨_,z1,e1⟩:=h1.resolve_right Zsi
   obtain ⟨_,z2,e2⟩:=h2.resolve_right Zsi
   obtain ⟨_,s3,e3,_⟩:=h3.resolve_left Zsi
   have e0:us (k * 4)=_:=e0
   have e2:us (k * 4 + 1 + 1)=_:=e2
   have e3:us (k * 4 + 1 + 1 + 1)=_:=e3
   simp only[ac,gi,gs,e0,e1,e2,e3,ofS]
   rw[show us (k * 4 + 0)=_ from e0]
   rfl
 refine ⟨(List.range n).map ac,by simp,fun a ha=>?_,?_,?_⟩
 ·obtain ⟨i,hi,rfl⟩:=List.mem_map.1 ha
  rw[List.mem_range]at hi
  obtain ⟨es,sp,parts,e1,e2,h3⟩:=hu i hi 3 Zde
  obtain ⟨_,s3,e3,e4⟩:=h3.resolve_left Zsi
  have hf:(ac i).frame=s3.data.toList:=by simp only[ac,gs,e3]
  have hw:(ac i).frame.length ∈ d.weights Tryz.prog 44:=by
   subst e1
   simp only[DataW.weights,Tryz.underlying44]
   refine List.mem_cons_of_mem _ (List.mem_append_left _ (Ql1 (List.mem_of_getElem? e2) (Xei.weight ⟨parts,rfl,?_⟩)))
   rw[hf];exact e4
  have:=List.all_eq_true.1 hsz _ (DataW.weights_mem_each ht hd _ hw)
  simp only[reachBytes]at this
  exact of_decide_eq_true this
 ·rcases hn with ⟨_,rfl⟩|⟨es,sp,rfl,rfl⟩
  ·simp
  ·have:=sized_slice hsz ht hd Tryz.underlying44
   rw[Xp2]at this
   simp only[reachBytes]at this
   simp;omega
 ·rw[heq n (Nat.le_refl n)]at hv
  exact hv
end
end Go.Proofs.YtogckmommodmhaaGreatDoor
namespace Go.Proofs.YtogckmommodmhaaGreatDoor
open Go.RowKit
open Go.RowKit Go.ChangeShapes Go.WideShapes
set_option linter.all false
set_option linter.unusedSimpArgs false
set_option maxRecDepth 100000
theorem PS.law {f:FuncId} {args:List AV} {vs:List Value} {W:World} (h:PS Tryz.prog glF f args (.bool true)) (hg:∀ i,VR (fun _=>.un) (fun _=>False) W (glF i) (.pointer (some ⟨i,0,none⟩))) (hv:VRs (fun _=>.un) (fun _=>False) W args vs) :
  Calls Tryz.prog f vs.toArray W fun e W'=>e=.returned (.bool true)∧Below W.heap.size W W' :=
 (h.2 W vs (fun _=>False) (fun _ h=>h.elim) hg hv).mono fun e w' ⟨u,e1,e2,e3⟩=>by
  cases e2
  exact ⟨e1,⟨e3.os,e3.tape,e3.output,e3.size,fun k hk=>e3.keep k hk fun h=>h.elim⟩⟩
end Go.Proofs.YtogckmommodmhaaGreatDoor
namespace Go.Proofs.YtogckmommodmhaaGreatDoor
open Go.RowKit
set_option linter.all false
set_option linter.unusedSimpArgs false
set_option maxRecDepth 100000
structure Still (S S':NS):Prop where
 tb:S'.tb=S.tb
 fl:S'.fl=S.fl
 now:S'.now=S.now
theorem Still.refl (S:NS):Still S S:=⟨rfl,rfl,rfl⟩
def Qn0 (a:Ac):Bool:=a.kind == 1 && (decide (rdE a.frame=0) && (decide (3405803776 < (rdK a.frame).dst) && decide ((rdK a.frame).dst≤3405803779)))
theorem Qjw (S:NS) (f:List UInt8) (e:Int):(S.refuse f e).1.log=[]∧Still S (S.refuse f e).2:=by
 unfold NS.refuse
 split
 ·exact ⟨rfl,.refl S⟩
 ·exact ⟨rfl,rfl,rfl,rfl⟩
theorem Xlc (S:NS) (f:List UInt8):(S.inn f).1.code≠0→(S.inn f).1.log=[]∧Still S (S.inn f).2:=by
 have hS:∀ e:Int,(rpE e).code≠0→(rpE e).log=[]∧Still S S:=fun e _=>⟨rfl,.refl S⟩
 unfold NS.inn
 split
 ·exact hS _
 dsimp only
 split
 ·exact hS _
 split
 ·exact hS _
 split
 ·exact hS _
 split
 ·exact hS _
 split
 ·exact fun h=>(h rfl).elim
 split
 ·exact hS _
 split
 ·exact hS _
 ·exact fun h=>(h rfl).elim
theorem Qo2 (S:NS) (f:List UInt8) (m:Mp) (es:List Ev) (hd:¬ (0≤(rdK f).dst - 3405803777∧(rdK f).dst - 3405803777 < 3)):(S.sent f m es).1.code=0:=by
 unfold NS.sent
 dsimp only
 rw[if_neg hd]
theorem Xno (S:NS) (f:List UInt8) (d:Int) (hi:rdE f=0→¬ (0≤(rdK f).dst - 3405803777∧(rdK f).dst - 3405803777 < 3)):(S.out f d).1.code≠0→(S.out f d).1.log=[]∧Still S (S.out f d).2:=by
 have hS:∀ e:Int,(rpE e).code≠0→(rpE e).log=[]∧Still S S:=fun e _=>⟨rfl,.refl S⟩
 rw[Qne]
 split
 ·exact hS _
 rename_i he
 have hi:=hi (Decidable.not_not.1 he)
 split
 ·exact hS _
 split
 ·exact hS _
 split
 ·exact hS _
 split
 ·split
  ·exact fun h=>(h (Qo2 _ f _ _ hi)).elim
  ·exact hS _
 split
 ·exact hS _
 split
 ·exact fun _=>Qjw ..
 split
 ·exact fun _=>Qjw ..
 ·unfold NS.opened
  exact fun h=>(h (Qo2 _ f _ _ hi)).elim
theorem Xbw (S:NS) (d:Int):(S.tick d).1.code≠0→(S.tick d).1.log=[]∧Still S (S.tick d).2:=by
 rw[Qke]
 split
 ·exact fun _=>⟨rfl,.refl S⟩
 ·exact fun h=>(h rfl).elim
theorem Xb9 (S:NS) (a:Ac) (hi:Qn0 a=false) (h:(S.step a).1.code≠0):(S.step a).1.log=[]∧Still S (S.step a).2:=by
 have up:∀ S':NS,Still { S with acts:=S.acts + 1 } S'→Still S S':=fun S' h=>⟨h.tb,h.fl,h.now⟩
 revert h
 unfold NS.step
 split
 ·exact fun _=>⟨rfl,.refl S⟩
 dsimp only
 split
 ·rename_i hk
  intro h
  have:=Xno { S with acts:=S.acts + 1 } a.frame a.draw (fun he hd=>by
   unfold Qn0 at hi
   rw[hk,he]at hi
   simp at hi
   omega) h
  exact ⟨this.1,up _ this.2⟩
 split
 ·intro h
  have:=Xlc { S with acts:=S.acts + 1 } a.frame h
  exact ⟨this.1,up _ this.2⟩
 split
 ·intro h
  have:=Xbw { S with acts:=S.acts + 1 } a.n h
  exact ⟨this.1,up _ this.2⟩
 split
 ·intro h
  have h:(S.tb.pool.drain a.n (decide (a.kind=4))).2≠0:=h
  rw[if_neg h]
  exact ⟨rfl,rfl,rfl,rfl⟩
 ·exact fun _=>⟨rfl,rfl,rfl,rfl⟩
theorem To.keep {p:List Nat} {t t':List (Nat × AV)} {ex0 ex:List (Nat × Bk)} {S:NS} {T:WT} {N k:Nat} (H:HL (ex++Qm S T) k) (hT:T.wf) (hp:∀ b ∈ p,b < k) (h0:∀ q ∈ ex0,70≤q.1) (h1:∀ q ∈ ex,70≤q.1) (hl:∀ b,70≤b→b < k→Qb (ex0++Qm S T) N b=Qb (ex++Qm S T) k b) (ht:Qw id k t t') :
  To p ⟨t,ex0++Qm S T,N⟩ ⟨t',ex++Qm S T,k⟩ :=
 To.fam id H (fun b hb=>⟨rfl,hp b hb⟩) (fun b b' _ _ e=>e) (fun b hb=>by
  rw[Wz]
  show Qb (ex0++Qm S T) N b=_
  by_cases h:b < 70
  ·rw[Xn fun q hq e=>by have:=h0 q hq;omega,Xn fun q hq e=>by have:=h1 q hq;omega,(Qi hT).lo h N,(Qi hT).lo h k]
  ·exact hl b Zom hb) ht
set_option maxHeartbeats 8000000 in
theorem Qqp (gl:Nat→AV) (h0:gl 0=.xp (Qp Xo) 0) (b:Bool) (l:List Ac) (a:Ac) (hl:Qhw l) (hlen:l.length≤140737488351232) (hf:a.frame.length≤140737488351232):PS Tryz.prog gl 17 [.bool b,.isl l.length (acs l),.agg a.enc] (.bool true):=by
 obtain ⟨T,D,hW,hP,hpl⟩:=Qm3 gl h0 b l hl hlen 31 fun i hi T hT=>Qlv gl _ T hT _ _
 have hK:=Qcr b l (Zh l)
 have hT:=hW.wf
 generalize Zv b l (Zh l)=S at *
 have hst:=Xb9 S a
 have hK1:=hK.step a
 obtain ⟨T1,D1,hW1,hP1,hdo⟩:=Qmo gl h0 S T D hK hW hP a hf
 have hin:Qn0 a=(a.kind == 1 && (decide (rdE a.frame=0) && (decide (3405803776 < (rdK a.frame).dst) && decide ((rdK a.frame).dst≤3405803779)))):=rfl
 have hps:=Qdl gl a.frame hf
 generalize Qn0 a=inn at hin hst
 generalize S.step a=x at *
 obtain ⟨⟨r1,r2,r3,r4⟩,S1⟩:=x
 have hT1:=hW1.wf
 dsimp only at hst hK1 hW1 hP1 hT1 hdo
 have htb:=Qef gl S T hK.toNI.toNJ hT
 have hfl:=Qd5 gl S T hK.toNI.toNJ hT
 have hnw:=Qz0 gl S T D hK.toNI.toNJ hW
 have htb1:=Qef gl S1 T1 hK1.toNI.toNJ hT1
 have hfl1:=Qd5 gl S1 T1 hK1.toNI.toNJ hT1
 have hnw1:=Qz0 gl S1 T1 D1 hK1.toNI.toNJ hW1
 have hsm:=Qln gl S.tb hK.wf (by have:=Qbw (Wp.2 hK.gt);omega)
 have hsf:=Qjn gl S.flows (by have:=hK.len;simp[NS.flows];omega)
 obtain ⟨K,e,hpt,hin⟩:∃ (K:Pk) (e:Int),Wc a.frame=.tup [.agg K.enc,.int .i64 e]∧inn=(a.kind == 1 && (decide (3405803776 < K.dst) && decide (K.dst≤3405803779))):=by
  by_cases he:rdE a.frame=0
  ·exact ⟨rdK a.frame,0,by unfold Wc;rw[if_pos he],by rw[hin,he];simp⟩
  ·exact ⟨pk0,rdE a.frame,by unfold Wc;rw[if_neg he],by rw[hin];simp[he,pk0]⟩
 rw[hpt]at hps
 clear hpt
 obtain ⟨K1,K2,K3,K4,K5,K6,K7,K8,K9,K10,K11,K12⟩:=K
 obtain ⟨a1,a2,a3,a4⟩:=a
 unfold Ac.enc at *
 unfold Pk.enc at hps
 unfold Rp.enc at hdo
 dsimp only at *
 refine Xws.ps (of_decide_eq_true rfl) (by simp[Qe]) fun c hN hg=>?_
 subst hg
 conv in tcO _ _=>cbv
 obtain ⟨Z1,hZ1,hz1⟩:∃ Z:Int,(3405803776:Int)=Z∧0≤Z∧Z≤4294967296:=⟨_,rfl,by decide,by decide⟩
 obtain ⟨Z2,hZ2,hz2⟩:∃ Z:Int,(3405803779:Int)=Z∧0≤Z∧Z≤4294967296:=⟨_,rfl,by decide,by decide⟩
 rw[hZ1,hZ2]at hin ⊢
 have hcn:=Qc5 0 l
 have hcr:=fun ρ:Nat→Nat=>show rens ρ (acs l)=acs l by rw[Yf];exact (List.map_congr_left fun v hv=>Km (Xi.1 (Qc5 0 l) v hv)).trans (List.map_id _)
 have hcn71:=Qc5 71 l
 refine Qd ?_
 refine Qvw (pp:=[]) (s3:=⟨[(19,.tup [.ptr 67 0,.bool true]),(5,.ptr 70 0)],[(70,.cells [.int .i64 a1,.int .i64 a2,.int .i64 a3,.str a4])]++Qm S T,71⟩) (by rw[hN];simp) hpl (Qi hT) ?_ Zsi ?_ ?_
 ·exact Qs
 ·refine To.one hT (by simp[nmB,nmAll,Qe]) ?_
  simp[Qw,Qe,nmAll,look,ren,rens,hcr,hcn71]
 have hHi:=fun n j hj=>Yb (S:=S) hT n j hj
 have hHj:=fun n j hj=>Yb (S:=S1) hT1 n j hj
 have e2:=Tb.enc_len hK.wf
 have htt:S.tb.enc.take 30=S.tb.enc:=List.take_of_length_le (by rw[e2];decide)
 have htn:=Tb.enc_nm (t:=S.tb) 70
 have htn1:=Tb.enc_nm (t:=S1.tb) 70
 have htn71:=Tb.enc_nm (t:=S.tb) 71
 have hfn:=Up 70 S.flows
 have hfn1:=Up 70 S1.flows
 have hfn71:=Up 71 S.flows
 have hfr:=fun ρ=>Qm4 ρ S.flows
 have hter:=fun ρ:Nat→Nat=>show rens ρ S.tb.enc=S.tb.enc by rw[Yf];exact (List.map_congr_left fun v hv=>Km (Xi.1 (of_eq_true (Tb.enc_nm (t:=S.tb) 0)) v hv)).trans (List.map_id _)
 refine Qd ?_
 (refine Qa (fun h1=>?_) (fun h1=>?_)<;>try exact h1.elim)
 refine Qd ?_
 refine Ws (v:=false) (ex:=[(70,_)]) htb (Qi hT) (Qi hT) (by simpa [Qe] using htn) Zde Zsi rfl ?_ ?_
 ·exact Qq @Xg
 refine Qd ?_
 refine Ws (v:=false) (ex:=[(70,_)]) hfl (Qi hT) (Qi hT) (by simpa [Qe] using hfn) Zde Zsi rfl ?_ ?_
 ·exact Qq @Xg
 refine Qd ?_
 have H1:HL ([(70,.cells [.int .i64 a1,.int .i64 a2,.int .i64 a3,.str a4])]++Qm S T) 71:=(Qi hT).more (by simp[nmB,nmAll,Qe])
 refine Qp9 (v:=false) (pp:=[]) (ex:=[(70,_)]) (s3:=⟨[(5,.ptr 70 0),(7,.ptr 67 0),(25,.agg S.tb.enc),(27,.isl S.flows.length (fls S.flows)),(29,.int .i64 S.now)],[(70,.cells [.int .i64 a1,.int .i64 a2,.int .i64 a3,.str a4])]++Qm S T,71⟩) (by rw[hN];simp) hnw (Qi hT) (Qi hT) (by simp[Qe]) Zde Zsi rfl ?_ ?_ ?_
 ·exact Qq @Xg
 ·refine To.keep (ex0:=[(70,_)]) H1 hT Zsi Zsi Zsi (fun b h1 h2=>?_) ?_
  ·obtain rfl:b=70:=by omega
   rfl
  ·simp[Qw,Qe,nmAll,look,ren,rens,hfr,hter,htn71,hfn71]
 refine Qg (An @hHi (An @e2 @htt)) ?_
 refine Xa hps @hHi ?_
 refine Qd ?_
 have H2:HL ([(71,.cells S.tb.enc),(70,.cells [.int .i64 a1,.int .i64 a2,.int .i64 a3,.str a4])]++Qm S1 T1) 72:=((Qi hT1).more (by simp[nmB,nmAll,Qe])).more (by simpa [nmB] using Tb.enc_nm (t:=S.tb) 72)
 refine Ut (v:=false) (pp:=[]) (ex:=[(72,_),(72,_),(71,_),(71,_),(70,_)]) (s3:=⟨[(5,.ptr 70 0),(7,.ptr 67 0),(9,.ptr 71 0),(10,.isl S.flows.length (fls S.flows)),(11,.int .i64 S.now),(14,.bool inn),(51,.agg [.int .i64 r1,.str r2,.bool r3,.str r4])],[(71,.cells S.tb.enc),(70,.cells [.int .i64 a1,.int .i64 a2,.int .i64 a3,.str a4])]++Qm S1 T1,72⟩) (by rw[hN];simp) hdo (Qi hT) (Qi hT1) (by simp[Qe,nmAll]) Zde Zsi Zsi rfl ?_ ?_ ?_
 ·exact Qq @Xg
 ·unfold Ja
  refine To.natM hT1 H2 Zde Zde Zsi Zsi Zsi (fun b h1 h2=>?_) ?_
  ·rcases (by omega:b=70∨b=71) with rfl|rfl
   ·rfl
   ·show Bk.cells S.tb.enc=Bk.cells (rens _ S.tb.enc)
    rw[hter]
  ·simp[Qw,Qe,nmAll,look,ren,rens,Qfo,lw,Qea,hfr,Up 72 S.flows,hin,Bool.and_assoc]
 refine Qg @hHj ?_
 (refine Qa (fun h2=>?_) (fun h2=>?_)<;>try exact h2.elim)
 ·exact Qs
 ·obtain ⟨h3,h4⟩:=h2
  obtain ⟨rfl,hs⟩:=hst h4 h3
  have hs1:S1.flows=S.flows:=by unfold NS.flows;rw[hs.fl]
  rw[hs.tb]at htb1
  rw[hs1]at hfl1
  rw[hs.now]at hnw1
  refine Qg (An @hHj (An @e2 @htt)) ?_
  refine Qco (v:=false) (ex:=[(72,_),(72,_),(71,_),(70,_)]) htb1 (Qi hT1) (Qi hT1) (by simpa [Qe] using htn) Zde Zsi rfl ?_ ?_ ?_
  ·exact Qs
  ·exact Qq @Xg
  refine Yt hsm ?_
  refine Qco (v:=false) (ex:=[(72,_),(72,_),(71,_),(70,_)]) hfl1 (Qi hT1) (Qi hT1) (by simpa [Qe] using hfn) Zde Zsi rfl ?_ ?_ ?_
  ·exact Qs
  ·exact Qq @Xg
  have hf0:=Up 0 S.flows
  refine Xa hsf @hf0 ?_
  refine Qco (v:=false) (ex:=[(72,_),(72,_),(71,_),(70,_)]) hnw1 (Qi hT1) (Qi hT1) (by simp[Qe]) Zde Zsi rfl ?_ ?_ ?_
  ·exact Qs
  ·exact Qq @Xg
  exact Qs
theorem Xdp {S:NS} (h:NK S) (a:Ac):(S.step a).2.loose=S.loose:=by
 unfold NS.step
 split
 ·rfl
 have h1:=h.toNI.setActs (S.acts + 1)
 dsimp only
 split
 ·exact (h1.out a.frame a.draw).2.loose
 split
 ·exact (h1.inn a.frame).2.loose
 split
 ·exact (h1.tick a.n).2.loose
 split
 ·split<;>rfl
 ·rfl
theorem Qnx (b:Bool) (l:List Ac):∀ i,(Zv b l i).loose=b
 | 0=>rfl
 | i + 1=>(Xdp (Qcr b l i) _).trans (Qnx b l i)
def Qlp (S:NS) (a port frm:Int):Bool:=S.flows.any fun f=>f.map.proto == 17 && f.map.a == a && f.map.port == port && f.rem == frm
theorem Xsh {S:NS} (h:NJ S) {m:Mp} (hm:m ∈ S.tb.maps) (hp:m.proto=17) (frm:Int):Qlp S m.a m.port frm=S.fl.any fun q=>decide (q.2.map=m) && q.2.rem == frm:=by
 unfold Qlp NS.flows
 rw[List.any_map]
 refine Bool.eq_iff_iff.2 ?_
 simp only[List.any_eq_true,Function.comp,Bool.and_eq_true,beq_iff_eq,decide_eq_true_eq]
 constructor
 ·rintro ⟨q,hq,⟨⟨h1,h2⟩,h3⟩,h4⟩
  refine ⟨q,hq,?_,h4⟩
  have e1:=h.gt.back hm
  have e2:=h.gt.back (h.inm q hq)
  rw[h1,h2,h3,← hp]at e2
  rw[e1]at e2
  exact (Option.some.inj e2).symm
 ·rintro ⟨q,hq,h1,h2⟩
  exact ⟨q,hq,⟨⟨by rw[h1,hp],by rw[h1]⟩,by rw[h1]⟩,h2⟩
theorem Xtj {S:NS} (h:NJ S) (hl:S.loose=false) (a port frm sport:Int) (ha:0≤a∧a < 3) (f:List UInt8) (he:rdE f=0) (hk:rdK f=⟨17,frm,sport,3405803777 + a,port,9,0,0,0,0,0,[]⟩) :
  (Qlp S a port frm=false→((S.inn f).1.code=7∨(S.inn f).1.code=11)∧(S.inn f).1.frame=[]∧(S.inn f).2=S) ∧
  (Qlp S a port frm=true→(S.inn f).1.code=0∨(S.inn f).1.code=11∧S.flows.length=48):=by
 rw[Qrb,he,hk]
 rw[if_neg Zsi,if_neg (by show ¬ (3405803777 + a - 3405803777 < 0∨3≤3405803777 + a - 3405803777);omega),if_neg (by show ¬ ((17:Int)=1∧(0:Int)≠0);simp),if_neg (by show ¬ (9:Int)=1;decide)]
 have ea:(3405803777 + a - 3405803777:Int)=a:=by omega
 dsimp only
 rw[ea]
 split
 ·rename_i hn
  refine ⟨fun _=>⟨.inl rfl,rfl,rfl⟩,fun hm=>?_⟩
  unfold Qlp at hm
  obtain ⟨f,hf,h1⟩:=List.any_eq_true.1 hm
  obtain ⟨q,hq,rfl⟩:=List.mem_map.1 hf
  have:=List.find?_eq_none.1 hn _ (h.inm q hq)
  simp[Zw]at this h1
  exact (this h1.1.1.1 h1.1.1.2 h1.1.2).elim
 rename_i m hm
 have hmm:=List.mem_of_find?_eq_some hm
 have hb:=List.find?_some hm
 simp only[Zw,Bool.and_eq_true,beq_iff_eq]at hb
 obtain ⟨⟨b1,b2⟩,b3⟩:=hb
 have hmet:=Xsh h hmm b1 frm
 rw[b2,b3]at hmet
 rw[hmet]
 split
 ·rename_i hff
  obtain ⟨q,hq,_,q1,q2,_⟩:=Qek hff
  have ht:(S.fl.any fun q=>decide (q.2.map=m) && q.2.rem == frm)=true:=List.any_eq_true.2 ⟨q,hq,by simp[q1,q2]⟩
  rw[ht]
  exact ⟨fun h=>(by cases h),fun _=>.inl rfl⟩
 split
 ·rename_i hx
  refine ⟨fun _=>⟨.inr rfl,rfl,rfl⟩,fun ht=>?_⟩
  rw[hx.2]at ht;cases ht
 rename_i hx
 have ht:(S.fl.any fun q=>decide (q.2.map=m) && q.2.rem == frm)=true:=by
  by_cases h9:(S.fl.any fun q=>decide (q.2.map=m) && q.2.rem == frm)=true
  ·exact h9
  ·exact (hx ⟨hl,by simpa using h9⟩).elim
 rw[ht]
 refine ⟨fun h=>(by cases h),fun _=>?_⟩
 split
 ·rename_i hy
  have hy:48≤S.fl.length:=hy.resolve_left Zsi
  have:=h.len
  exact .inr ⟨rfl,by unfold NS.flows;rw[List.length_map];omega⟩
 ·exact .inl rfl
def Qo7 (x:Int):Prop:=-9223372036854775808≤x∧x≤9223372036854775807
theorem Yab (x n:Int) (hn:0 < n):(x.tmod n + n).tmod n=Qeu x n:=by
 have hb:=Qhm x n hn
 unfold Qeu
 rw[Int.tmod_eq_emod_of_nonneg Zom,Int.add_emod_right]
 have h0:x % n=(x.tmod n) % n:=by
  have h1:=Int.mul_tdiv_add_tmod x n
  conv=>lhs;rw[← h1,Int.add_comm,Int.add_mul_emod_self_left]
 exact h0.symm
set_option maxHeartbeats 1000000 in
theorem Qim (gl:Nat→AV) (x n:Int) (hx:Qo7 x) (hn:0 < n∧n≤4294967296):PS Tryz.prog gl 44 [.int .i64 x,.int .i64 n] (.int .i64 (Qeu x n)):=by
 refine Xt1.ps (of_decide_eq_true rfl) (by simp[Qe]) fun c hN hg=>?_
 conv in tcO _ _=>cbv
 have hb:=Qhm x n hn.1
 have hp:=Yab x n hn.1
 have hq:-n < (x.tmod n + n).tmod n∧(x.tmod n + n).tmod n < n:=Qhm _ n hn.1
 unfold Qo7 at hx
 exact Qq @hp
set_option maxHeartbeats 16000000 in
theorem Qmw (gl:Nat→AV) (h0:gl 0=.xp (Qp Xo) 0) (l:List Ac) (a port frm fport:Int) (ha:Qo7 a) (hpo:Qo7 port) (hfr:Qo7 frm) (hfp:Qo7 fport) (hl:Qhw l) (hlen:l.length≤140737488351232):PS Tryz.prog gl 11 [.isl l.length (acs l),.int .i64 a,.int .i64 port,.int .i64 frm,.int .i64 fport] (.bool true):=by
 obtain ⟨T,D,hW,hP,hpl⟩:=Qm3 gl h0 false l hl hlen 31 fun i hi T hT=>Qlv gl _ T hT _ _
 have hK:=Qcr false l (Zh l)
 have hT:=hW.wf
 have hlo:=Qnx false l (Zh l)
 have hac:(Zv false l (Zh l)).acts≤100:=Nat.le_trans (Qpq false l (Zh l)) (Nat.min_le_right _ _)
 generalize Zv false l (Zh l)=S at *
 have pk1:=Qim gl a 3 ha Zde
 have pk2:=Qim gl port 48 hpo Zde
 have pk3:=Qim gl fport 65536 hfp Zde
 have pk4:=Qim gl frm 4294967296 hfr Zde
 have b1:=Qks a (n:=3) Zde
 have b2:=Qks port (n:=48) Zde
 have b3:=Qks fport (n:=65536) Zde
 have b4:=Qks frm (n:=4294967296) Zde
 generalize Qeu a 3=a' at *
 generalize Qeu port 48=p' at *
 generalize Qeu fport 65536=s' at *
 generalize Qeu frm 4294967296=f' at *
 have hpe:Yw ⟨17,f',s',3405803777 + a',1024 + p',9,0,0,0,0,0,[]⟩=0 :=
  Qtw Zsi (by simp only[Kc];omega) Zsi (by simp[Qd6])
 obtain ⟨hbE,hbK⟩:=Qwi _ hpe
 have hfrm:=Qtv gl _ hpe
 have hlF:(Yn ⟨17,f',s',3405803777 + a',1024 + p',9,0,0,0,0,0,[]⟩).length≤140737488351232:=by
  rw[Qmy,Qlq _ Zsi];simp
 unfold Pk.enc at hfrm
 dsimp only at hfrm
 generalize Yn ⟨17,f',s',3405803777 + a',1024 + p',9,0,0,0,0,0,[]⟩=F at *
 obtain ⟨T1,D1,hW1,hP1,hdo⟩:=Qmo gl h0 S T D hK hW hP ⟨2,0,0,F⟩ hlF
 have hK1:=hK.step ⟨2,0,0,F⟩
 have hstp:S.step ⟨2,0,0,F⟩=({ S with acts:=S.acts + 1 }:NS).inn F:=by
  unfold NS.step
  rw[if_neg Zom]
  rfl
 have hsg:=Xtj (S:={ S with acts:=S.acts + 1 }) (hK.toNI.setActs (S.acts + 1)).toNJ hlo a' (1024 + p') f' s' b1 F hbE hbK
 rw[← hstp]at hsg
 clear hstp
 generalize S.step ⟨2,0,0,F⟩=x at *
 obtain ⟨⟨r1,r2,r3,r4⟩,S1⟩:=x
 have hT1:=hW1.wf
 unfold Rp.enc Ac.enc at hdo
 dsimp only at hsg hK1 hW1 hP1 hT1 hdo
 have hmt:Qlp { S with acts:=S.acts + 1 } a' (1024 + p') f'=S.flows.any fun f=>f.map.proto == 17 && f.map.a == a' && f.map.port == 1024 + p' && f.rem == f':=rfl
 have hfl0:NS.flows { S with acts:=S.acts + 1 }=S.flows:=rfl
 rw[hfl0]at hsg
 generalize Qlp { S with acts:=S.acts + 1 } a' (1024 + p') f'=met at *
 have htb:=Qef gl S T hK.toNI.toNJ hT
 have hfl:=Qd5 gl S T hK.toNI.toNJ hT
 have htb1:=Qef gl S1 T1 hK1.toNI.toNJ hT1
 have hfl1:=Qd5 gl S1 T1 hK1.toNI.toNJ hT1
 have hsm:=Qln gl S.tb hK.wf (by have:=Qbw (Wp.2 hK.gt);omega)
 have hsf:=Qjn gl S.flows (by have:=hK.len;simp[NS.flows];omega)
 have hfll:S.flows.length≤48:=by have:=hK.len;simp[NS.flows];omega
 refine Qzn.ps (of_decide_eq_true rfl) (by simp[Qe]) fun c hN hg=>?_
 subst hg
 conv in tcO _ _=>cbv
 have q1:Qae Tryz.prog c .callv [.cl 44 [],.int .i64 a,.int .i64 3] (.int .i64 a'):=Qnz (caps:=[]) pk1 (by simp[nmAll,Qe])
 have q2:Qae Tryz.prog c .callv [.cl 44 [],.int .i64 port,.int .i64 48] (.int .i64 p'):=Qnz (caps:=[]) pk2 (by simp[nmAll,Qe])
 have q3:Qae Tryz.prog c .callv [.cl 44 [],.int .i64 fport,.int .i64 65536] (.int .i64 s'):=Qnz (caps:=[]) pk3 (by simp[nmAll,Qe])
 have q4:Qae Tryz.prog c .callv [.cl 44 [],.int .i64 frm,.int .i64 4294967296] (.int .i64 f'):=Qnz (caps:=[]) pk4 (by simp[nmAll,Qe])
 have hcn:=fun n=>Qc5 n l
 have hcr:=fun ρ:Nat→Nat=>show rens ρ (acs l)=acs l by rw[Yf];exact (List.map_congr_left fun v hv=>Km (Xi.1 (Qc5 0 l) v hv)).trans (List.map_id _)
 have e2:=Tb.enc_len hK.wf
 have htt:S.tb.enc.take 30=S.tb.enc:=List.take_of_length_le (by rw[e2];decide)
 have htn:=fun n=>Tb.enc_nm (t:=S.tb) n
 have htn1:=fun n=>Tb.enc_nm (t:=S1.tb) n
 have hfn:=fun n=>Up n S.flows
 have hfr:=fun ρ=>Qm4 ρ S.flows
 have hter:=fun ρ:Nat→Nat=>show rens ρ S.tb.enc=S.tb.enc by rw[Yf];exact (List.map_congr_left fun v hv=>Km (Xi.1 (of_eq_true (Tb.enc_nm (t:=S.tb) 0)) v hv)).trans (List.map_id _)
 have hHi:=fun n j hj=>Yb (S:=S) hT n j hj
 have hHj:=fun n j hj=>Yb (S:=S1) hT1 n j hj
 have hfe:=Qkr S.flows
 refine Qd ?_
 refine Qka hpl (Qi hT) ?_ Zsi ?_
 ·exact Qq @hcn
 dsimp only[List.nil_append]
 rw[Xe8]
 refine Qd ?_
 (refine Qa (fun h1=>?_) (fun h1=>?_)<;>try exact h1.elim)
 refine Qd ?_
 refine Yt q1 ?_
 refine Yt q2 ?_
 refine Yt q3 ?_
 refine Yt q4 ?_
 refine Ws (v:=false) (ex:=[]) htb (Qi hT) (Qi hT) (by simpa [Qe] using htn 70) Zde Zsi rfl ?_ ?_
 ·exact Qq @Xg
 refine Qd ?_
 refine Qp9 (v:=false) (pp:=[]) (ex:=[]) (s3:=⟨[(1,.int .i64 a'),(2,.int .i64 (1024 + p')),(3,.int .i64 f'),(4,.int .i64 s'),(10,.bool false),(11,.ptr 67 0),(41,.agg S.tb.enc),(43,.isl S.flows.length (fls S.flows))],Qm S T,70⟩) (by rw[hN];simp) hfl (Qi hT) (Qi hT) (by simpa [Qe] using hfn 70) Zde Zsi rfl ?_ ?_ ?_
 ·exact Qq @Xg
 ·exact To.drop (ex:=[]) (Qi hT) Zsi Zsi (by simp[St.putO,Qw,Qe,nmAll,look,ren,rens,hter,hfr,htn,hfn])
 refine Qg (An @hHi (An @e2 @htt)) ?_
 refine Xa hfrm @hHi ?_
 refine Ut (v:=false) (pp:=[]) (ex:=[(70,_),(70,_)]) (s3:=⟨[(1,.int .i64 a'),(2,.int .i64 (1024 + p')),(3,.int .i64 f'),(4,.int .i64 s'),(10,.bool false),(11,.ptr 67 0),(14,.ptr 70 0),(15,.isl S.flows.length (fls S.flows)),(53,.agg [.int .i64 r1,.str r2,.bool r3,.str r4])],[(70,.cells S.tb.enc)]++Qm S1 T1,71⟩) (by rw[hN];simp) hdo (Qi hT) (Qi hT1) (by simp[Qe,nmAll]) Zde Zsi Zsi rfl ?_ ?_ ?_
 ·exact Qq @Xg
 ·unfold Ja
  refine To.natM hT1 ((Qi hT1).more (by simpa [nmB] using htn 71)) Zde Zde Zsi Zsi Zsi (fun b h1 h2=>?_) ?_
  ·obtain rfl:b=70:=by omega
   show Bk.cells S.tb.enc=Bk.cells (rens _ S.tb.enc)
   rw[hter]
  ·simp[Qw,Qe,nmAll,look,ren,rens,Qfo,lw,Qea,hfr,hfn]
 refine Qg @hHj ?_
 have H2:HL ([(71,.cells [.int .i64 r1,.str r2,.bool r3,.str r4]),(70,.cells S.tb.enc)]++Qm S1 T1) 72:=((Qi hT1).more (by simpa [nmB] using htn 71)).more (by simp[nmB,nmAll,Qe])
 refine Yj (fun k:Nat=>k≤S.flows.length) (fun k=>⟨[(1,.int .i64 a'),(2,.int .i64 (1024 + p')),(3,.int .i64 f'),(10,.bool false),(11,.ptr 67 0),(14,.ptr 70 0),(15,.isl S.flows.length (fls S.flows)),(16,.ptr 71 0),(17,.bool ((S.flows.take k).any fun f=>f.map.proto == 17 && f.map.a == a' && f.map.port == 1024 + p' && f.rem == f')),(54,.isl S.flows.length (fls S.flows)),(55,.int .i64 S.flows.length),(56,.int .i64 k)],[(71,.cells [.int .i64 r1,.str r2,.bool r3,.str r4]),(70,.cells S.tb.enc)]++Qm S1 T1,72⟩) (fun k=>S.flows.length - k) Qzn.mixed [] (by rw[hN];simp)
  ⟨0,Nat.zero_le _,?_⟩ fun k hk=>?_
 ·refine To.keep (ex0:=[(71,_),(71,_),(70,_)]) H2 hT1 Zsi Zsi Zsi (fun b h1 h2=>?_) ?_
  ·rcases (by omega:b=70∨b=71) with rfl|rfl<;>rfl
  ·simp[Qw,Qe,nmAll,look,ren,rens,hfr,hfn]
 refine Qd ?_
 (refine Qa (fun h2=>?_) (fun h2=>?_)<;>try exact h2.elim)
 ·have hkn:k < S.flows.length:=by omega
  have hcut:=Qz9 S.flows k hkn
  have htk:((S.flows.take (k + 1)).any fun f=>f.map.proto == 17 && f.map.a == a' && f.map.port == 1024 + p' && f.rem == f')=(((S.flows.take k).any fun f=>f.map.proto == 17 && f.map.a == a' && f.map.port == 1024 + p' && f.rem == f') || (S.flows[k].map.proto == 17 && S.flows[k].map.a == a' && S.flows[k].map.port == 1024 + p' && S.flows[k].rem == f')):=by
   rw[List.take_succ,List.getElem?_eq_getElem hkn,List.any_append];simp
  generalize ((S.flows.take k).any fun f=>f.map.proto == 17 && f.map.a == a' && f.map.port == 1024 + p' && f.rem == f')=mk at *
  generalize S.flows[k]=y at *
  obtain ⟨⟨y1,y2,y3,y4,y5⟩,y6,y7,y8,y9,y10⟩:=y
  unfold Fl.enc Kw at hcut
  dsimp only at hcut htk
  refine Qg (An @hHj (An @hfe @hcut)) ?_
  refine ⟨k + 1,by omega,?_,by omega⟩
  rw[htk]
  refine To.keep (ex0:=[(72,_),(72,_),(71,_),(70,_)]) H2 hT1 Zsi Zsi Zsi (fun b h1 h2=>?_) ?_
  ·rcases (by omega:b=70∨b=71) with rfl|rfl<;>rfl
  ·simp[Qw,Qe,nmAll,look,ren,rens,hfr,hfn]
 ·obtain rfl:k=S.flows.length:=by omega
  rw[List.take_length,← hmt]
  have ht1:S1.tb=S.tb→S1.flows=S.flows→GD Tryz.prog c.gl 23 [.ptr 67 0] (Qm S1 T1) 70 (List.range 70) (.agg S.tb.enc) (Qm S1 T1)∧GD Tryz.prog c.gl 24 [.ptr 67 0] (Qm S1 T1) 70 (List.range 70) (.isl S.flows.length (fls S.flows)) (Qm S1 T1):=fun h1 h2=>by
   rw[h1]at htb1
   rw[h2]at hfl1
   exact ⟨htb1,hfl1⟩
  cases met with
  | false =>
   obtain ⟨hr1,hr2,hS1⟩:=hsg.1 rfl
   obtain ⟨htb2,hfl2⟩:=ht1 (by rw[hS1]) (by rw[hS1];rfl)
   clear hS1
   subst hr2
   rcases hr1 with rfl|rfl
   all_goals
    refine Qd ?_
    (refine Qa (fun h3=>?_) (fun h3=>?_)<;>try exact h3.elim)
    refine Qg (An @hHj (An @e2 @htt)) ?_
    refine Qco (v:=false) (ex:=[(71,_),(70,_)]) htb2 (Qi hT1) (Qi hT1) (by simpa [Qe] using htn 70) Zde Zsi rfl ?_ ?_ ?_
    ·exact Qs
    ·exact Qq @Xg
    refine Yt hsm ?_
    refine Qco (v:=false) (ex:=[(71,_),(70,_)]) hfl2 (Qi hT1) (Qi hT1) (by simpa [Qe] using hfn 70) Zde Zsi rfl ?_ ?_ ?_
    ·exact Qs
    ·exact Qq @Xg
    have hf0:=Up 0 S.flows
    exact Qjq hsf @hf0
  | true =>
   rcases hsg.2 rfl with rfl|⟨rfl,h48⟩
   ·refine Qd ?_
    (refine Qa (fun h3=>?_) (fun h3=>?_)<;>try exact h3.elim)
    exact Qq @hHj
   ·rw[h48]
    refine Qd ?_
    (refine Qa (fun h3=>?_) (fun h3=>?_)<;>try exact h3.elim)
    exact Qq @hHj
end Go.Proofs.YtogckmommodmhaaGreatDoor
