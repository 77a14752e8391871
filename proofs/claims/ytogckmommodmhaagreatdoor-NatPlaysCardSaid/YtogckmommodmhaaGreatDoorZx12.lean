import Derived.Test.YtogckmommodmhaaGreatDoorZx7
import Derived.Test.YtogckmommodmhaaGreatDoorZx11
namespace Go.Proofs.YtogckmommodmhaaGreatDoor
open List (getElem?_eq_getElem take_of_length_le mem_or_eq_of_mem_set mem_append mem_singleton mem_map getElem_mem length_take take_add_one filter_append map_append length_map countP_map countP_congr mem_reverse take_length filter_cons length_set append_assoc)
open Go.RowKit
set_option linter.all false
set_option maxHeartbeats 16000000
set_option maxRecDepth 100000
variable {wide:Bool}{k:Nat}{dn:Bool}(gl:Nat->AV)(n:Nat)(l:List Mp)(p:aq)(t:Tb)(m:Mp)(kvs:List (AV×AV))
def QW (hp:p.wf):PS Tryz.prog gl 170 [.agg p.enc] (.bool p.bR):=by
 refine OS.ps (ap rfl) (by simp[Qe]) fun c hN hg=>?_
 conv in aG _ _=>cbv
 have e2:=aq.au hp;have e3:=PH p hp;refine Qd (An @e2 @e3) ?_
 refine Qv (fun a:Nat=>a≤3∧(p.own.take (a * 6)).all Ui=true) (fun a=>⟨[(8,.agg (Ql p.own)),(9,.int .i64 a)],[],0⟩) (fun a=>3 - a) OS.mixed hN
  ⟨0,⟨by omega,rfl⟩,[],by exact Qp⟩ fun a hI=>?_
 obtain ⟨ha,bl⟩:=id hI;clear hI;refine Qa ?_;refine Qc ?_ ?_<;>intro h1
 ·have jG:a < 3:=by omega
  have hr:=PJ p a;have fQ:=Zn p hp a jG;refine Qd (An @hr @hp.own) ?_
  refine Qv (fun k:Nat=>k≤6∧(p.own.take (a * 6 + k)).all Ui=true) (fun k=>⟨[(8,.agg (Ql p.own)),(9,.int .i64 a),(12,.agg (Ql (p.row a))),(13,.int .i64 k)],[],0⟩) (fun k=>6 - k) OS.mixed hN
   ⟨0,⟨by omega,bl⟩,[],by exact Qp⟩ fun k hJ=>?_
  obtain ⟨hk,fY⟩:=id hJ;clear hJ;refine Qa ?_;refine Qc ?_ ?_<;>intro h2
  ·have fo:k < 6:=by omega
   have hv:=xH p a k fo;have ho:p.own[a*6+k]?=some (p.ow a k):=by
    unfold aq.ow;rw[List.getD_eq_getElem?_getD,getElem?_eq_getElem (by rw[hp.own];omega)];rfl
   generalize p.ow a k=x at *
   refine Qd (An @fQ @hv) ?_;refine Qc ?_ ?_<;>intro h3
   ·have hb:Ui x=false:=h3.elim (ZV x) (ZW x);exact Qi (ZT p _ x ho hb)
   ·refine Qa ?_;refine ⟨k+1,⟨by omega,ZU p _ x ho fY (ZX x h3.1 h3.2)⟩,⟨[],?_⟩,by omega⟩;exact Qp
  ·have:k=6:=by omega
   subst this;refine Qa ?_;refine ⟨a+1,⟨by omega,by rw[show (a+1)*6=a*6+6 by omega];exact fY⟩,⟨[],?_⟩,by omega⟩;exact Qp
 ·have:a=3:=by omega
  subst this;exact Qi (ZS p bl hp)
def Qr6 (k n:Int)(hn:0<n)(kZ:n<=4611686018427387904):PS Tryz.prog gl 172 [.int .i64 k,.int .i64 n] (.int .i64 (k%n)):=by
 refine Xka.ps (ap rfl) (by simp[Qe]) fun c hN hg=>?_
 conv in aG _ _=>cbv
 have hb:=ZQ k n hn;have he:(k.tmod n+n).tmod n=k%n:=by
  rw[Int.tmod_eq_emod_of_nonneg af,Int.add_emod_right];have h1:=Int.mul_tdiv_add_tmod k n
  conv=>rhs;rw[<- h1,Int.add_comm,Int.add_mul_emod_self_left]
 exact Qi @he
def Qvx (hp:p.wf)(a:Nat)(ha:a<3):PS Tryz.prog gl 171 [.agg p.enc,.int .i64 a] (.isl (Zz (p.row a) 6).length (Ql (ed (Zz (p.row a) 6)))):=by
 refine X5.ps (ap rfl) (by simp[Qe,Eg]) fun c hN hg=>?_
 conv in aG _ _=>cbv
 have e2:=aq.au hp;have sG:=Fw p hp a ha;have fQ:=Zn p hp a ha;refine Qd @e2 ?_;refine Qc ?_ ?_<;>intro h1
 ·omega
 refine Qd (An @e2 @sG) ?_;refine vB 5 1 rfl rfl ?_
 refine Qv (fun k:Nat=>k≤6) (fun k=>⟨[(5,.sl 1 1 0 (Zz (p.row a) k).length (Zz (p.row a) k).length),(17,.agg (Ql (p.row a))),(18,.int .i64 k)],[(0,.cells p.enc),(1,.cells (Ql (ed (Zz (p.row a) k))))],2⟩) (fun k=>6 - k) X5.mixed hN
  ⟨0,by omega,[],by (have aQ:=@St.named.eq_1;refine XG ?_;clear aQ;((try with_reducible and_intros);all_goals try first|refine zm ?_|exact CL))<;>exact rfl⟩ fun k hk=>?_
 have gH:=uo (Zz (p.row a) k);have ib:(Zz (p.row a) k).length<=k:=by have:=List.length_filter_le (fun j=>(p.row a).getD j 1==0) (List.range k);simpa [Zz] using this
 refine Qa ?_;refine Qc ?_ ?_<;>intro g2
 ·have fo:k < 6:=by omega
  have hv:=xH p a k fo;have hs:=PB (p.row a) k;have kh:(p.row a).getD k 1=(p.row a).getD k 0:=by simp[List.getD,show k<(p.row a).length by omega]
  rw[kh,hv]at hs;generalize p.ow a k=x at *
  refine Qd (An @fQ @hv) ?_;refine Qc ?_ ?_<;>intro g3
  ·have nJ:Zz (p.row a) (k + 1)=Zz (p.row a) k++[k]:=by rw[hs,am g3]
   have hsn:=KU (Zz (p.row a) k) k;have qx:(Zz (p.row a) k++[k]).length=(Zz (p.row a) k).length+1:=by simp
   refine Qa ?_;refine Ke ?_;refine Yp @gH ?_;refine ⟨k+1,by omega,⟨[(1,3)],?_⟩,by omega⟩;exact Qi (An @nJ (An @hsn @qx))
  ·have nJ:Zz (p.row a) (k + 1)=Zz (p.row a) k:=by rw[hs,aa g3,List.append_nil]
   refine Qa ?_;refine ⟨k+1,by omega,⟨[],?_⟩,by omega⟩;exact Qi @nJ
 ·have:k=6:=by omega
  subst this;exact Qi @gH
def Qt7 (hp:p.wf)(a:Nat)(ha:a<3):(Zz (p.row a) 6).length=p.left a:=by
 rw[Fu _ 6 (by rw[Zn p hp a ha];omega),Ak p a ha,take_of_length_le (by rw[Zn p hp a ha];omega)]
def Xxe (hp:p.wf)(draw:Int):PS Tryz.prog gl 158 [.agg p.enc,.int .i64 draw] (.aR [.int .i64 (p.pick draw).1,.int .i64 (p.pick draw).2]):=by
 refine X6.ps (ap rfl) (by simp[Qe,ah]) fun c hN hg=>?_
 conv in aG _ _=>cbv
 have e2:=aq.au hp;have hG:=QW c.gl p hp;by_cases aX:p.bR=true;rotate_left
 ·have hr:p.pick draw=(0,2):=aa aX;have aX:p.bR=false:=by simpa using aX
  rw[aX]at hG;rw[hr];refine Qd @e2 ?_;refine Qj hG @e2 ?_;refine Yc ?_;exact Qp
 have hr:p.pick draw=(if (p.opens 3).length=0 then ((0:Int),(10:Int)) else ((((p.opens 3).getD (draw%((p.opens 3).length:Int)).toNat 0:Nat):Int),(0:Int))):=am aX;rw[aX]at hG;rw[hr];clear hr;refine Qd @e2 ?_;refine Qj hG @e2 ?_;refine Yc ?_;refine Qa ?_;refine vB 6 1 rfl rfl ?_
 refine Qv (fun k:Nat=>k≤3) (fun k=>⟨[(1,.int .i64 draw),(2,.ptr 0 0),(6,.sl 1 1 0 (p.opens k).length (p.opens k).length),(11,.int .i64 k)],[(0,.cells p.enc),(1,.cells (Ql (ed (p.opens k))))],2⟩) (fun k=>3 - k) X6.mixed hN
  ⟨0,by omega,[],by (have aQ:=@St.named.eq_1;refine XG ?_;clear aQ;((try with_reducible and_intros);all_goals try first|refine zm ?_|exact CL))<;>exact rfl⟩ fun k hk=>?_
 have rj:=ZZ p k;refine Qa ?_;refine Qc ?_ ?_<;>intro h2
 ·have Am:k < 3:=by omega
  have hd:=aq.iw hp Am;have hL:=Qvx c.gl p hp k Am;have ig:=ZY p k;unfold aq.open_ at ig;have ib:=Qt7 p hp k Am;rw[<- ib]at ig;have gH:=uo (p.opens k);generalize Zz (p.row k) 6=W at *
  have Mz:=uo W;cases vN:p.lb k with
  | true =>
   rw[vN]at hd ig;have ig:p.opens (k+1)=p.opens k:=by simpa using ig
   refine Qd @e2 ?_;refine Qj hL (An @e2 @hd) ?_;refine Yc ?_;refine Qa ?_;refine ⟨k+1,by omega,⟨[],?_⟩,by omega⟩;exact Qi @ig
  | false =>
   rw[vN]at hd ig;refine Qd @e2 ?_;refine Qj hL (An @e2 @hd) ?_;refine Qc ?_ ?_<;>intro h3
   ·have ig:p.opens (k + 1)=p.opens k++[k]:=by rw[ig,decide_eq_true (by omega:0 < W.length)];rfl
    have hsn:=KU (p.opens k) k;have qx:(p.opens k++[k]).length=(p.opens k).length+1:=by simp
    refine Qa ?_;refine Ke ?_;refine Yp @gH ?_;refine ⟨k+1,by omega,⟨[(1,3)],?_⟩,by omega⟩;exact Qi (An @ig (An @hsn @qx))
   ·have ig:p.opens (k + 1)=p.opens k:=by rw[ig,decide_eq_false (by omega:¬ 0 < W.length)];simp
    refine Qa ?_;refine ⟨k+1,by omega,⟨[],?_⟩,by omega⟩;exact Qi @ig
 ·have:k=3:=by omega
  subst this;have gH:=uo (p.opens 3);by_cases hz:(p.opens 3).length=0
  ·rw[am hz];refine Qa ?_;refine Qc ?_ ?_<;>intro h3
   ·exact Qp
   ·omega
  ·rw[aa hz];have hC:=Qr6 c.gl draw (p.opens 3).length af af;have m0:=Int.emod_nonneg draw (show ((p.opens 3).length:Int)≠0 by omega);have m1:=Int.emod_lt_of_pos draw (show (0:Int) < (p.opens 3).length by omega);have ep:=KT (p.opens 3) (draw % ((p.opens 3).length:Int)).toNat af;generalize draw % ((p.opens 3).length:Int)=d at *
   refine Qa ?_;refine Qc ?_ ?_<;>intro h3
   ·omega
   refine Qa ?_;exact vw hC (An @gH @ep)
def Qwl (hp:p.wf)(s a draw:Int):PS Tryz.prog gl 159 [.agg p.enc,.int .i64 s,.int .i64 a,.int .i64 draw] (lU (p.take s a draw)):=by
 refine Xwy.ps (ap rfl) (by simp[Qe,ah,lU,aq.bY]) fun c hN hg=>?_
 conv in aG _ _=>cbv
 have e2:=aq.au hp;have hG:=QW c.gl p hp;by_cases aX:p.bR=true;rotate_left
 ·have hr:p.take s a draw=(p,0,2):=aa aX;have aX:p.bR=false:=by simpa using aX
  rw[aX]at hG;rw[hr];unfold lU;refine Qd @e2 ?_;refine Qj hG @e2 ?_;refine Yc ?_;exact Qi @e2
 by_cases has:Kl a=true/\0<=s/\s<8;rotate_left
 ·have hr:p.take s a draw=(p,0,7):=(am aX).trans (aa has);rw[hr];rw[aX]at hG;unfold lU;refine Qd @e2 ?_;refine Qj hG @e2 ?_;refine Yc ?_;refine Qd @e2 ?_;refine Qc ?_ ?_<;>intro h2
  ·exact Qi @e2
  ·exfalso;refine has ⟨?_,by omega,by omega⟩;unfold Kl;simp;omega
 obtain ⟨ha,fT,lY⟩:=has;obtain ⟨b,rfl,hb⟩:=Al a ha;have hF:=Qvx c.gl p hp b hb;have ib:=Qt7 p hp b hb;have zx:=aq.iw hp hb;have hr:p.take s b draw=if p.lb b=true then (p,(0:Int),(9:Int)) else if p.left b=0 then (p,0,10) else (p.put b (p.nG b draw) (s+1),((p.nG b draw:Nat):Int),0):=by
  have:p.take s b draw=_:=(am aX).trans (am ⟨ha,fT,lY⟩);rw[this,Int.toNat_natCast]
 rw[hr];rw[aX]at hG;cases hd:p.lb b with
 | true =>
  rw[hd]at zx;rw[am rfl];unfold lU;refine Qd @e2 ?_;refine Qj hG @e2 ?_;refine Yc ?_;refine Qd @e2 ?_;refine Qc ?_ ?_<;>intro h2
  ·omega
  refine Qd (An @e2 @zx) ?_;refine Yc ?_;exact Qi @e2
 | false =>
  rw[hd]at zx;rw[aa av];by_cases hl:p.left b=0
  ·rw[am hl];rw[hl]at ib;generalize Zz (p.row b) 6=W at *
   unfold lU;refine Qd @e2 ?_;refine Qj hG @e2 ?_;refine Yc ?_;refine Qd @e2 ?_;refine Qc ?_ ?_<;>intro h2
   ·omega
   refine Qd (An @e2 @zx) ?_;refine Yc ?_;refine Qd @e2 ?_;refine Qj hF @e2 ?_;refine Qc ?_ ?_<;>intro h4
   ·exact Qi @e2
   ·omega
  ·rw[aa hl];obtain ⟨fo,hko⟩:=Z4 p hp b draw hb hl;have hC:=Qr6 c.gl draw (p.left b) af (by have:=KO (p.row b) 6;have h3:=Ak p b hb;rw[h3];rw[take_of_length_le (by rw[Zn p hp b hb];omega)]at this;omega);have m0:=Int.emod_nonneg draw (show (p.left b:Int)≠0 by omega);have m1:=Int.emod_lt_of_pos draw (show (0:Int) < p.left b by omega);have hkd:p.nG b draw=(Zz (p.row b) 6).getD (draw % (p.left b:Int)).toNat 0:=rfl;have ep:=KT (Zz (p.row b) 6) (draw % (p.left b:Int)).toNat af;rw[← hkd]at ep;rw[← ib]at hC m1 m0 ep;have gH:=uo (Zz (p.row b) 6);generalize hdv:draw % ((Zz (p.row b) 6).length:Int)=d at *
   generalize Zz (p.row b) 6=W at *
   generalize p.nG b draw=k at *
   have nI:=PL p b k (s+1) (by rw[hp.own];omega);have e3:=aq.au (p.cL hp b k (s+1));unfold lU;refine Qd @e2 ?_;refine Qj hG @e2 ?_;refine Yc ?_;refine Qd @e2 ?_;refine Qc ?_ ?_<;>intro h2
   ·omega
   refine Qd (An @e2 @zx) ?_;refine Yc ?_;refine Qd @e2 ?_;refine Qj hF @e2 ?_;refine Qc ?_ ?_<;>intro h4
   ·omega
   refine Qa ?_;exact vw hC (An @gH (An @ep (An @e2 (An @nI @e3))))
def C5 (port:Int)(hp:-9223372036854775808<=port/\port<=9223372036854775807):PS Tryz.prog gl 111 [.int .i64 port] (lV port):=by
 refine Xb3.ps (ap rfl) (by simp[lV,Qe,ah]) fun c hN hg=>?_
 conv in aG _ _=>cbv
 by_cases h:Yq port=true
 ·have h':=h;unfold Yq at h';simp at h';have e1:(port - 1024).tdiv 8=(port - 1024) / 8:=Int.tdiv_eq_ediv_of_nonneg af;have e2:(port - 1024).tmod 8=(port - 1024) % 8:=Int.tmod_eq_emod_of_nonneg af;unfold lV Xd;rw[am h,am h,h];refine Qa ?_;refine Qc ?_ ?_<;>intro h1
  ·omega
  exact Qi (An @e1 @e2)
 ·have h':=h;unfold Yq at h';simp at h';have hb:Yq port=false:=by simpa using h
  unfold lV Xd;rw[aa h,aa h,hb];by_cases fH:port<1024
  ·have d1:decide (port < 1024)=true:=by simpa using fH
   have e0:∃ x,IntKind.i64.wrap (port-1024)=x:=⟨_,rfl⟩
   obtain ⟨x,hx⟩:=e0;refine Qd (An @d1 @hx) ?_;refine Yc ?_;exact Qp
  ·refine Qa ?_;refine Qc ?_ ?_<;>intro h1
   ·exact Qp
   ·omega
def vW (n:Int):Bool:=n==1||n==6||n==17
def QX (n:Int):PS Tryz.prog gl 155 [.int .i64 n] (.bool (vW n)):=by
 refine Xbv.ps (ap rfl) (by simp[Qe]) fun c hN hg=>?_
 conv in aG _ _=>cbv
 unfold vW;exact Qp
def Xw0 (ht:t.wf)(hl:t.maps.length<=4611686018427387904)(ae s aH:Int):PS Tryz.prog gl 156 [.agg t.enc,.int .i64 ae,.int .i64 s,.int .i64 aH] (gu (t.maps.find? (Ya ae s aH))):=by
 refine X7.ps (ap rfl) (by cases t.maps.find? (Ya ae s aH)<;>simp[gu,Qe,ah,Mp.enc]) fun c hN hg=>?_
 conv in aG _ _=>cbv
 have e2:=Tb.au ht;have e3:=Tb.bS ht;have aE:=Yi t.maps;generalize hR:t.maps.find? (Ya ae s aH)=R;refine Qd (An @e2 @e3) ?_
 refine Qv (fun k:Nat=>k≤t.maps.length∧(t.maps.drop k).find? (Ya ae s aH)=R) (fun k=>⟨[(1,.int .i64 ae),(2,.int .i64 s),(3,.int .i64 aH),(8,.ptr 1 0),(13,.isl t.maps.length (bE t.maps)),(14,.int .i64 t.maps.length),(15,.int .i64 k)],[(0,.cells t.enc),(1,.cells [.int .i64 0,.int .i64 0,.int .i64 0,.int .i64 0,.int .i64 0])],2⟩) (fun k=>t.maps.length - k) X7.mixed hN
  ⟨0,⟨by omega,by rw[List.drop_zero];exact hR⟩,[],by exact Qp⟩ fun k hI=>?_
 obtain ⟨hk,hf⟩:=id hI;clear hI;refine Qa ?_;refine Qc ?_ ?_<;>intro h1
 ·have bg:k < t.maps.length:=by omega
  have aK:=qw t.maps k bg;rw[List.drop_eq_getElem_cons bg,List.find?_cons]at hf;generalize t.maps[k]=m at *
  obtain ⟨mp,ms,mi,ma,mt⟩:=m;unfold Ya at hf;simp only[Mp.enc]at aK;dsimp only at hf;refine Qd (An @aE @aK) ?_;refine Qc ?_ ?_<;>intro h2
  ·have hc:(mp == ae && ms == s && mi == aH)=true:=by simp[h2]
   rw[hc]at hf;dsimp only at hf;subst hf;unfold gu Mp.enc;exact Qp
  ·have hc:(mp==ae&&ms==s&&mi==aH)=false:=by
    cases hb:(mp==ae&&ms==s&&mi==aH)
    ·rfl
    ·simp at hb;omega
   rw[hc]at hf;dsimp only at hf;refine Qa ?_;refine ⟨k+1,⟨by omega,hf⟩,⟨[],?_⟩,by omega⟩;exact Qp
 ·have:k=t.maps.length:=by omega
  subst this;rw[List.drop_length]at hf;subst hf;unfold gu cQ Mp.enc;refine Qa ?_;exact rfl
def Qwq (ht:t.wf)(hl:t.maps.length<=4611686018427387904)(ae a port:Int):PS Tryz.prog gl 117 [.agg t.enc,.int .i64 ae,.int .i64 a,.int .i64 port] (gu (t.maps.find? (Jd ae a port))):=by
 refine X8.ps (ap rfl) (by cases t.maps.find? (Jd ae a port)<;>simp[gu,Qe,ah,Mp.enc]) fun c hN hg=>?_
 conv in aG _ _=>cbv
 have e2:=Tb.au ht;have e3:=Tb.bS ht;have aE:=Yi t.maps;generalize hR:t.maps.find? (Jd ae a port)=R;refine Qd (An @e2 @e3) ?_
 refine Qv (fun k:Nat=>k≤t.maps.length∧(t.maps.drop k).find? (Jd ae a port)=R) (fun k=>⟨[(1,.int .i64 ae),(2,.int .i64 a),(3,.int .i64 port),(8,.ptr 1 0),(13,.isl t.maps.length (bE t.maps)),(14,.int .i64 t.maps.length),(15,.int .i64 k)],[(0,.cells t.enc),(1,.cells [.int .i64 0,.int .i64 0,.int .i64 0,.int .i64 0,.int .i64 0])],2⟩) (fun k=>t.maps.length - k) X8.mixed hN
  ⟨0,⟨by omega,by rw[List.drop_zero];exact hR⟩,[],by exact Qp⟩ fun k hI=>?_
 obtain ⟨hk,hf⟩:=id hI;clear hI;refine Qa ?_;refine Qc ?_ ?_<;>intro h1
 ·have bg:k < t.maps.length:=by omega
  have aK:=qw t.maps k bg;rw[List.drop_eq_getElem_cons bg,List.find?_cons]at hf;generalize t.maps[k]=m at *
  obtain ⟨mp,ms,mi,ma,mt⟩:=m;unfold Jd at hf;simp only[Mp.enc]at aK;dsimp only at hf;refine Qd (An @aE @aK) ?_;refine Qc ?_ ?_<;>intro h2
  ·have hc:(mp == ae && ma == a && mt == port)=true:=by simp[h2]
   rw[hc]at hf;dsimp only at hf;subst hf;unfold gu Mp.enc;exact Qp
  ·have hc:(mp==ae&&ma==a&&mt==port)=false:=by
    cases hb:(mp==ae&&ma==a&&mt==port)
    ·rfl
    ·simp at hb;omega
   rw[hc]at hf;dsimp only at hf;refine Qa ?_;refine ⟨k+1,⟨by omega,hf⟩,⟨[],?_⟩,by omega⟩;exact Qp
 ·have:k=t.maps.length:=by omega
  subst this;rw[List.drop_length]at hf;subst hf;unfold gu cQ Mp.enc;refine Qa ?_;exact rfl
def Xvq {kvs:List (AV×AV)}{x:AV}(h:fA kvs x=none):∀ p ∈ kvs,p.1≠x:=by
 unfold fA at h;intro p hp e;have:=List.findIdx?_eq_none_iff.1 h p hp;simp[e]at this
def Qo2 (x v:AV)(kvs:List (AV×AV)):fA ((x,v)::kvs) x=some 0:=by
 unfold fA;rw[List.findIdx?_cons];simp
def Qo5 {x y v:AV}(h:y≠x)(kvs:List (AV×AV)):fA ((y,v)::kvs) x=(fA kvs x).map (· + 1):=by
 unfold fA;rw[List.findIdx?_cons];simp[h]
def FV (x v z:AV)(kvs:List (AV×AV)):Kk ((x,v)::kvs) x z=v:=by
 unfold Kk;rw[Qo2];rfl
def C6 {x y v z:AV}(h:y≠x)(kvs:List (AV×AV)):Kk ((y,v)::kvs) x z=Kk kvs x z:=by
 unfold Kk;rw[Qo5 h];cases fA kvs x<;>rfl
theorem Xu7 (x z:AV):Kk [] x z=z:=rfl
def Xaa (x u v:AV)(kvs:List (AV×AV)):Jy ((x,u)::kvs) x v=(x,v)::kvs:=by
 unfold Jy;rw[Qo2];rfl
def Qw0 {x y u v:AV}(h:y≠x)(kvs:List (AV×AV)):Jy ((y,u)::kvs) x v=(y,u)::Jy kvs x v:=by
 unfold Jy;rw[Qo5 h];cases fA kvs x<;>rfl
open Classical in
def Qto (x v y z:AV):Kk (Jy kvs x v) y z=if y=x then v else Kk kvs y z:=by
 induction kvs with
 | nil =>
  have e:Jy [] x v=[(x,v)]:=rfl;rw[e];by_cases h:y=x
  ·subst h;rw[FV,am rfl]
  ·rw[C6 (fun e=>h e.symm),aa h]
 | cons p kvs ih =>
  obtain ⟨k,u⟩:=p;by_cases h:k=x
  ·subst h;rw[Xaa];by_cases hy:y=k
   ·subst hy;rw[FV,am rfl]
   ·rw[C6 (fun e=>hy e.symm),aa hy,C6 (fun e=>hy e.symm)]
  ·rw[Qw0 h];by_cases hy:y=k
   ·subst hy;rw[FV,FV,aa h]
   ·rw[C6 (fun e=>hy e.symm),C6 (fun e=>hy e.symm)];exact ih
def Qt2 {ks:List SK}{kvs:List (AV×AV)}{x v:AV}(h:Wy wide ks kvs)(hx:Zs wide ks x):Wy wide ks (Jy kvs x v):=by
 intro p hp;unfold Jy at hp;split at hp
 ·rcases mem_or_eq_of_mem_set hp with h1|h1
  ·exact h p h1
  ·rw[h1];exact hx
 ·rcases mem_append.1 hp with h1|h1
  ·exact h p h1
  ·rw[mem_singleton.1 h1];exact hx
def Yab (x z v:AV):(qi kvs x z).set (nh kvs x) (((qi kvs x z).getD (nh kvs x) (.any,.any)).1,v)=Jy kvs x v:=by
 unfold qi nh Jy;cases h:fA kvs x with
 | none=>simp[List.getD]
 | some i =>
  obtain ⟨hi,he⟩:=Cr h;simp only[Option.getD_some];rw[he]
def Yhc (x z:AV):nh kvs x<(qi kvs x z).length:=by
 unfold qi nh;cases h:fA kvs x with
 | none=>simp
 | some i=>exact (Cr h).1
def Xxr (x z:AV):Kk (qi kvs x z) x z=Kk kvs x z:=by
 unfold qi;cases h:fA kvs x with
 | some i=>rfl
 | none =>
  have e:Kk (kvs++[(x,z)]) x z=z:=by
   have hn:=Xvq h;clear h
   induction kvs with
   | nil=>exact FV ..
   | cons p kvs ih =>
    obtain ⟨k,u⟩:=p;rw[List.cons_append,C6 (hn (k,u) av)];exact ih fun q hq=>hn q (by simp[hq])
  rw[e];unfold Kk;rw[h]
def Xzn {ks:List SK}{kvs:List (AV×AV)}{x z:AV}(h:Wy wide ks kvs)(hx:Zs wide ks x):Wy wide ks (qi kvs x z):=by
 intro p hp;unfold qi at hp;split at hp
 ·exact h p hp
 ·rcases mem_append.1 hp with h1|h1
  ·exact h p h1
  ·rw[mem_singleton.1 h1];exact hx
open Classical in
noncomputable def ku (l:List AV)(x:AV):Nat:=l.countP fun y=>decide (y=x)
noncomputable def kv:List AV->List (AV×AV)
 | []=>[]
 | x::l=>Jy (kv l) x (.int .i64 ((ku l x:Nat)+1))
open Classical in
def Xpe (x y:AV)(l:List AV):ku (x::l) y=ku l y+if x=y then 1 else 0:=by
 unfold ku;rw[List.countP_cons];by_cases h:x=y<;>simp[h]
def C7 (l:List AV)(x:AV):Kk (kv l) x (.int .i64 0)=.int .i64 (ku l x:Nat):=by
 induction l with
 | nil=>rfl
 | cons y l ih =>
  show Kk (Jy (kv l) y _) x _=_;rw[Qto,Xpe];by_cases h:x=y
  ·subst h;rw[am rfl,am rfl];rfl
  ·rw[aa h,aa fun e=>h e.symm,ih];rfl
def QY {wide:Bool}{ks:List SK}:∀ {l:List AV},(∀ x ∈ l,Zs wide ks x)->Wy wide ks (kv l)
 | [],_=>fun p hp=>by cases hp
 | x::l,h=>Qt2 (QY fun y hy=>h y (by simp[hy])) (h x av)
noncomputable def kx:List AV->List (AV×AV)
 | []=>[]
 | x::l=>Jy (kx l) x (.bool true)
open Classical in
def Xut (l:List AV)(x:AV):Kk (kx l) x (.bool false)=.bool (decide (x ∈ l)):=by
 induction l with
 | nil=>simp[kx,Xu7]
 | cons y l ih =>
  show Kk (Jy (kx l) y _) x _=_;rw[Qto,ih];by_cases h:x=y
  ·subst h;simp
  ·simp[h]
open Classical in
def Qvb (l:List AV)(x:AV):∃ b,Kk (kx l) x (.bool false)=.bool b/\(b=true ↔ x ∈ l):=⟨_,Xut l x,by rw[decide_eq_true_eq]⟩
def QZ {wide:Bool}{ks:List SK}:∀ {l:List AV},(∀ x ∈ l,Zs wide ks x)->Wy wide ks (kx l)
 | [],_=>fun p hp=>by cases hp
 | x::l,h=>Qt2 (QZ fun y hy=>h y (by simp[hy])) (h x av)
def Xf1 (l:List AV)(h:∀ x ∈ l,Qe n x):∀ p ∈ kv l,Qe n p.1/\Qe n p.2:=by
 induction l with
 | nil=>intro p hp;cases hp
 | cons x l ih =>
  intro p hp;unfold kv Jy at hp;have ih:=ih fun y hy=>h y (by simp[hy]);split at hp
  ·rcases mem_or_eq_of_mem_set hp with h1|h1
   ·exact ih p h1
   ·rw[h1];exact ⟨h x av,by simp[Qe]⟩
  ·rcases mem_append.1 hp with h1|h1
   ·exact ih p h1
   ·rw[mem_singleton.1 h1];exact ⟨h x av,by simp[Qe]⟩
def Xeb (l:List AV)(h:∀ x ∈ l,Qe n x):∀ p ∈ kx l,Qe n p.1/\Qe n p.2:=by
 induction l with
 | nil=>intro p hp;cases hp
 | cons x l ih =>
  intro p hp;unfold kx Jy at hp;have ih:=ih fun y hy=>h y (by simp[hy]);split at hp
  ·rcases mem_or_eq_of_mem_set hp with h1|h1
   ·exact ih p h1
   ·rw[h1];exact ⟨h x av,by simp[Qe]⟩
  ·rcases mem_append.1 hp with h1|h1
   ·exact ih p h1
   ·rw[mem_singleton.1 h1];exact ⟨h x av,by simp[Qe]⟩
def Li (kvs:List (AV×AV)):Prop:=∀ ρ:Nat->Nat,(kvs.map fun p=>(aB ρ p.1,aB ρ p.2))=kvs
def Qu7 {kvs:List (AV×AV)}(h:∀ p ∈ kvs,∀ ρ,aB ρ p.1=p.1/\aB ρ p.2=p.2):Li kvs:=fun ρ=>by
 refine (List.map_congr_left (g:=id) fun p hp=>?_).trans (List.map_id _);obtain ⟨h1,h2⟩:=h p hp ρ;rw[h1,h2];rfl
def Qug {l:List AV}(h:∀ x ∈ l,∀ ρ,aB ρ x=x):Li (kv l):=by
 refine Qu7 ?_
 induction l with
 | nil=>intro p hp;cases hp
 | cons x l ih =>
  intro p hp ρ;unfold kv Jy at hp;have ih:=ih fun y hy=>h y (by simp[hy]);split at hp
  ·rcases mem_or_eq_of_mem_set hp with h1|h1
   ·exact ih p h1 ρ
   ·rw[h1];exact ⟨h x av ρ,by simp[aB]⟩
  ·rcases mem_append.1 hp with h1|h1
   ·exact ih p h1 ρ
   ·rw[mem_singleton.1 h1];exact ⟨h x av ρ,by simp[aB]⟩
def Qtt {l:List AV}(h:∀ x ∈ l,∀ ρ,aB ρ x=x):Li (kx l):=by
 refine Qu7 ?_
 induction l with
 | nil=>intro p hp;cases hp
 | cons x l ih =>
  intro p hp ρ;unfold kx Jy at hp;have ih:=ih fun y hy=>h y (by simp[hy]);split at hp
  ·rcases mem_or_eq_of_mem_set hp with h1|h1
   ·exact ih p h1 ρ
   ·rw[h1];exact ⟨h x av ρ,by simp[aB]⟩
  ·rcases mem_append.1 hp with h1|h1
   ·exact ih p h1 ρ
   ·rw[mem_singleton.1 h1];exact ⟨h x av ρ,by simp[aB]⟩
section
variable {P:Program}{c:Cx}
def FW {anc:List Nat}{fs:List bc}{r0:List bB}{K:St->Prop}{s:St}{d:Nat}{t:TypeId}{ok:Bool}{xs:List TV}{gd:Option (Nat×Bool)}{wide:Bool}{ks:List SK}{z:AV}(hT:cu P t wide ks z)(hb:gB s.fs gd=some true)(aS:gg s.fs gd)
  (h:Qr none (aD c.gl s.fs xs)/\qj s.fs wide ks ((aD c.gl s.fs xs).map Qh)/\XD P c anc r0 (⟨jQ gd++Xe xs,[eK ((aD c.gl s.fs xs).map Qh)],[d],[]⟩::fs) K (s.put d (zV s.fs z ok ((aD c.gl s.fs xs).map Qh)))) :
  Yz P c anc (.pd (some d) (.wR t ok) xs gd) r0 fs K s:=⟨_,_,IW hb aS (JA hT h.1 h.2.1),h.2.2⟩
end
def FX:cu Tryz.prog 190 true [.int .i64,.int .i64,.int .i64] (.bool false):=cu.mk' (by kernel_rfl)
def FY:cu Tryz.prog 191 true [.int .i64,.int .i64,.int .i64] (.bool false):=cu.mk' (by kernel_rfl)
def vX:cu Tryz.prog 192 true [.int .i64,.int .i64] (.int .i64 0):=cu.mk' (by kernel_rfl)
def pE:cu Tryz.prog 147 false [.int .i64] (.int .i64 0):=cu.mk' (by kernel_rfl)
def kP (m:Mp):AV:=.agg [.int .i64 m.ae,.int .i64 m.a,.int .i64 m.port]
def kF (m:Mp):AV:=.agg [.int .i64 m.ae,.int .i64 m.s,.int .i64 m.aH]
def kM (m:Mp):AV:=.agg [.int .i64 m.a,.int .i64 (Xd m.port)]
def jJ (n:Int):AV:=.int .i64 n
noncomputable def bP (l:List Mp):Bk:=.az (kx (l.map kP)) true
noncomputable def bF (l:List Mp):Bk:=.az (kx (l.map kF)) true
noncomputable def sM (l:List Mp):Bk:=.az (kv (l.map kM)) true
noncomputable def bI (l:List Int):Bk:=.az (kv (l.map jJ)) true
theorem Yj7:iY (bP l)=kx (l.map kP):=rfl
theorem Yji:iY (bF l)=kx (l.map kF):=rfl
theorem Yje:iY (sM l)=kv (l.map kM):=rfl
theorem Yhz (l:List Int):iY (bI l)=kv (l.map jJ):=rfl
theorem Yj8:sv (bP l)=true:=rfl
theorem Yj1:sv (bF l)=true:=rfl
theorem Yiy:sv (sM l)=true:=rfl
theorem Yjh (l:List Int):sv (bI l)=true:=rfl
theorem Yi6:xn (bP l)=True:=rfl
theorem Yij:xn (bF l)=True:=rfl
theorem Yig:xn (sM l)=True:=rfl
theorem Yj3 (l:List Int):xn (bI l)=True:=rfl
def Lj {n:Nat}{kvs:List (AV×AV)}  (h:∀ p ∈ kvs,Qe n p.1/\Qe n p.2):bX n (.az kvs dn)=True:=eq_true h
def Lk {ρ:Nat->Nat}{kvs:List (AV×AV)}  (h:Li kvs):Qw ρ (.az kvs dn)=.az kvs dn:=by
 show Bk.az (kvs.map fun p=>(aB ρ p.1,aB ρ p.2)) dn=_;rw[h]
def rA {α:Type}{f:α->AV}{p:AV->Prop}(h:∀ a,p (f a))(l:List α):∀ x ∈ l.map f,p x:=fun x hx=>by obtain ⟨a,_,rfl⟩:=mem_map.1 hx;exact h a
def Yjf:bX n (bP l)=True:=Lj (Xeb n _ (rA (fun m=>by simp[kP,Qe,ah]) l))
def Yi5:bX n (bF l)=True:=Lj (Xeb n _ (rA (fun m=>by simp[kF,Qe,ah]) l))
def Yik:bX n (sM l)=True:=Lj (Xf1 n _ (rA (fun m=>by simp[kM,Qe,ah]) l))
theorem Yj5 (l:List Int):bX n (bI l)=True:=Lj (Xf1 n _ (rA (fun m=>by simp[jJ,Qe]) l))
theorem Yjp (ρ:Nat->Nat)(l:List Mp):Qw ρ (bP l)=bP l:=Lk (Qtt (rA (p:=fun x=>∀ ρ,aB ρ x=x) (fun m ρ=>by simp[kP,aB,ay]) l))
theorem Yi0 (ρ:Nat->Nat)(l:List Mp):Qw ρ (bF l)=bF l:=Lk (Qtt (rA (p:=fun x=>∀ ρ,aB ρ x=x) (fun m ρ=>by simp[kF,aB,ay]) l))
theorem Yjg (ρ:Nat->Nat)(l:List Mp):Qw ρ (sM l)=sM l:=Lk (Qug (rA (p:=fun x=>∀ ρ,aB ρ x=x) (fun m ρ=>by simp[kM,aB,ay]) l))
theorem Yj4 (ρ:Nat->Nat)(l:List Int):Qw ρ (bI l)=bI l:=Lk (Qug (rA (p:=fun x=>∀ ρ,aB ρ x=x) (fun m ρ=>by simp[jJ,aB]) l))
def Yiq:Wy true [.int .i64,.int .i64,.int .i64] (kx (l.map kP))=True:=eq_true (QZ (rA (fun m=>by simp[kP,Zs,Wz,Yt]) l))
def Yic:Wy true [.int .i64,.int .i64,.int .i64] (kx (l.map kF))=True:=eq_true (QZ (rA (fun m=>by simp[kF,Zs,Wz,Yt]) l))
def Xzy:Wy true [.int .i64,.int .i64] (kv (l.map kM))=True:=eq_true (QY (rA (fun m=>by simp[kM,Zs,Wz,Yt]) l))
theorem Yii (l:List Int):Wy false [.int .i64] (kv (l.map jJ))=True:=eq_true (QY (rA (fun m=>by simp[jJ,Zs,Wz,Yt]) l))
attribute [go_sem ↓] Yjf Yi5 Yik Yj5 Yjp Yi0 Yjg Yj4
attribute [go_sem] Yj7 Yji Yje Yhz Yj8 Yj1 Yiy Yjh Yi6 Yij Yig Yj3 Yiq Yic Xzy Yii
def uD {t:Tb}(h:¬ GT t):Zr t=false:=by
 cases hb:Zr t with
 | false=>rfl
 | true=>exact (h (Kb.1 ((vQ t).1 hb))).elim
def Yfn {l:List Mp}{m:Mp}:kP m ∈ l.map kP ↔ ∃ o ∈ l,o.ae=m.ae/\o.a=m.a/\o.port=m.port:=by
 rw[mem_map];constructor
 ·rintro ⟨o,ho,he⟩;simp[kP]at he;exact ⟨o,ho,he.1,he.2.1,he.2.2⟩
 ·rintro ⟨o,ho,h1,h2,h3⟩;exact ⟨o,ho,by simp[kP,h1,h2,h3]⟩
def Yer {l:List Mp}{m:Mp}:kF m ∈ l.map kF ↔ ∃ o ∈ l,o.ae=m.ae/\o.s=m.s/\o.aH=m.aH:=by
 rw[mem_map];constructor
 ·rintro ⟨o,ho,he⟩;simp[kF]at he;exact ⟨o,ho,he.1,he.2.1,he.2.2⟩
 ·rintro ⟨o,ho,h1,h2,h3⟩;exact ⟨o,ho,by simp[kF,h1,h2,h3]⟩
def Q0 (o m:Mp):Ys o m=true ↔ o.ae=m.ae/\(o.a=m.a/\o.port=m.port\/o.s=m.s/\o.aH=m.aH):=by
 unfold Ys;simp only[Bool.and_eq_true,Bool.or_eq_true,beq_iff_eq];constructor
 ·rintro ⟨h1,⟨h2,h3⟩|⟨h2,h3⟩⟩
  ·exact ⟨h1.symm,.inl ⟨h2.symm,h3.symm⟩⟩
  ·exact ⟨h1.symm,.inr ⟨h2.symm,h3.symm⟩⟩
 ·rintro ⟨h1,⟨h2,h3⟩|⟨h2,h3⟩⟩
  ·exact ⟨h1.symm,.inl ⟨h2.symm,h3.symm⟩⟩
  ·exact ⟨h1.symm,.inr ⟨h2.symm,h3.symm⟩⟩
def xQ (t:Tb)(l:List Mp):Prop:=(∀ m ∈ l,Up t m)/\l.Pairwise fun x y=>Ys x y=false
def xQ.not {t:Tb}  (hk:k<t.maps.length)(h:¬ (Up t t.maps[k]/\∀ o ∈ t.maps.take k,Ys o t.maps[k]=false)):¬ GT t:=by
 intro hg;refine h ⟨hg.maps _ (getElem_mem hk),fun o ho=>?_⟩;obtain ⟨i,hi,rfl⟩:=List.getElem_of_mem ho;rw[length_take]at hi;rw[List.getElem_take];exact List.pairwise_iff_getElem.1 hg.apart i k af hk af
def xQ.succ {t:Tb}  (hk:k<t.maps.length)(h:xQ t (t.maps.take k))(h1:Up t t.maps[k])(h2:∀ o ∈ t.maps.take k,Ys o t.maps[k]=false):xQ t (t.maps.take (k+1)):=by
 have e:t.maps.take (k+1)=t.maps.take k++[t.maps[k]]:=by rw[take_add_one,getElem?_eq_getElem hk];rfl
 rw[e];refine ⟨fun m hm=>?_,QM h.2 h2⟩;rcases mem_append.1 hm with hm|hm
 ·exact h.1 m hm
 ·rw[mem_singleton.1 hm];exact h1
def Xw7 {t:Tb}  (hk:k<t.maps.length):(t.maps.take (k+1)).reverse=t.maps[k]::(t.maps.take k).reverse:=by
 rw[take_add_one,getElem?_eq_getElem hk];simp
theorem Ykb (l:List Mp):Bk.az (Jy (kx (l.map kP)) (.agg [.int .i64 m.ae,.int .i64 m.a,.int .i64 m.port]) (.bool true)) true=bP (m::l):=rfl
theorem Yjw (l:List Mp):Bk.az (Jy (kx (l.map kF)) (.agg [.int .i64 m.ae,.int .i64 m.s,.int .i64 m.aH]) (.bool true)) true=bF (m::l):=rfl
theorem Yjy (l:List Mp):Bk.az (Jy (kv (l.map kM)) (kM m) (.int .i64 ((ku (l.map kM) (kM m):Nat)+1))) true=sM (m::l):=rfl
theorem Yfv (n:Int)(l:List Int):Bk.az (Jy (kv (l.map jJ)) (.int .i64 n) (.int .i64 ((ku (l.map jJ) (jJ n):Nat)+1))) true=bI (n::l):=rfl
def Q2 (l:List AV)(x:AV):ku l x<=l.length:=List.countP_le_length
def Qyp (a:Int)(n:Nat):(a==0)=((n:Int)==0) ↔ (a=0 ↔ n=0):=by
 show decide (a=0)=decide ((n:Int)=0) ↔ _;rw[decide_eq_decide];omega
def mS (own:List Int)(i:Nat):List Int:=(((own.take i).filter fun o=>decide (0<o)).map fun o=>o-1).reverse
def Xlv {own:List Int}{i:Nat}(h:i<own.length):mS own (i+1)=if 0<own.getD i 0 then (own.getD i 0-1)::mS own i else mS own i:=by
 have e:own.getD i 0=own[i]:=by simp[List.getD,h]
 rw[e];unfold mS;rw[take_add_one,getElem?_eq_getElem h,filter_append,map_append,List.reverse_append];by_cases ho:0<own[i]<;>simp[ho]
def Xv3 (own:List Int)(i:Nat):(mS own i).length<=i:=by
 unfold mS;rw[List.length_reverse,length_map];exact Nat.le_trans (List.length_filter_le _ _) (by rw[length_take];omega)
def Xos (l:List Int)(n:Int):ku (l.map jJ) (.int .i64 n)=l.countP fun o=>decide (o=n):=by
 unfold ku;rw[countP_map];refine countP_congr fun o _=>?_;simp[jJ]
def Ydr {p:aq}(hw:p.wf)(s:Nat):ku ((mS p.own 18).map jJ) (.int .i64 s)=Zk p.own s:=by
 rw[Xos];unfold mS Zk;rw[List.countP_reverse,countP_map,List.countP_filter,take_of_length_le (by rw[hw.own];omega)];refine countP_congr fun o _=>?_;simp only[Function.comp,Bool.and_eq_true,decide_eq_true_eq,beq_iff_eq];omega
def Xmk (s:Nat):ku ((l.reverse.map Mp.s).map jJ) (.int .i64 s)=Ye l s:=by
 rw[Xos,countP_map,List.countP_reverse];unfold Ye;refine countP_congr fun m _=>?_;simp
def Xoh {t:Tb}(hp:∀ m ∈ t.maps,Up t m){a k:Nat}(ha:a<3)(hk:k<6):0<ku (t.maps.reverse.map kM) (.agg [.int .i64 a,.int .i64 k]) ↔ ∃ m ∈ t.maps,Yx m=a*6+k:=by
 unfold ku;rw[List.countP_pos_iff];constructor
 ·rintro ⟨x,hx,he⟩;obtain ⟨m,hm,rfl⟩:=mem_map.1 hx;have he:=@of_decide_eq_true _ (Classical.propDecidable _) he;simp[kM]at he;refine ⟨m,mem_reverse.1 hm,?_⟩;unfold Yx;rw[he.1,he.2];simp
 ·rintro ⟨m,hm,he⟩;have h1:=(hp m hm).1.2.2;have h2:=vV m.port;refine ⟨kM m,List.mem_map_of_mem (mem_reverse.2 hm),?_⟩;unfold Yx at he;have e1:m.a=(a:Int):=by omega
  have e2:Xd m.port=(k:Int):=by omega
  simp[kM,e1,e2]
set_option maxRecDepth 20000 in
def Ll (ht:t.ok)(hh:Hid (∀ s,s<8->-9223372036854775808<=t.aT s/\t.aT s<=9223372036854775807)):PS Tryz.prog gl 154 [.agg t.enc] (.bool (Zr t)):=by
 refine E5.ps (ap rfl) (by simp[Qe]) fun c hN hg=>?_
 conv in aG _ _=>cbv
 have e2:=Tb.au ht.wf;have e3:=Tb.bS ht.wf;have e4:=Tb.cZ ht.wf;have hG:=QW c.gl t.ai ht.wf.ai;have aE:=Yi t.maps;have hlen:=ht.len;cases uE:t.ai.bR with
 | false =>
  rw[uE]at hG;have hb:=uD (t:=t) fun h=>by have:=h.ai;rw[uE]at this;cases this
  refine Qd (An @e2 @e4) ?_;refine Xc hG ?_;refine Yc ?_;exact Qi @hb
 | true =>
 rw[uE]at hG;refine Qd (An @e2 @e4) ?_;refine Xc hG ?_;refine Yc ?_;refine Qa ?_
 (refine zW FX ?_;(refine XG ?_;((try with_reducible and_intros);all_goals try first|refine zm ?_|exact CL)))
 (refine zW FY ?_;(refine XG ?_;((try with_reducible and_intros);all_goals try first|refine zm ?_|exact CL)))
 (refine zW vX ?_;(refine XG ?_;((try with_reducible and_intros);all_goals try first|refine zm ?_|exact CL)))
 (refine zW pE ?_;(have aQ:=@e2;have bu:=@e3;refine XG ?_;clear aQ bu;((try with_reducible and_intros);all_goals try first|refine zm ?_|exact CL)))
 refine Qv (fun k:Nat=>k≤t.maps.length∧xQ t (t.maps.take k))
  (fun k=>⟨[(1,.ptr 0 0),(3,.mp 1),(4,.mp 2),(5,.mp 3),(6,.mp 4),(28,.isl t.maps.length (bE t.maps)),(29,.int .i64 t.maps.length),(30,.int .i64 k)],
   [(0,.cells t.enc),(1,bP (t.maps.take k).reverse),(2,bF (t.maps.take k).reverse),(3,sM (t.maps.take k).reverse),(4,bI ((t.maps.take k).reverse.map Mp.s))],5⟩) (fun k=>t.maps.length-k) E5.mixed hN
  ⟨0,⟨by omega,fun m hm=>(by simp at hm),by simp⟩,[],by (refine XG ?_;((try with_reducible and_intros);all_goals try first|refine zm ?_|exact CL))<;>exact rfl⟩ fun k hI=>?_
 obtain ⟨hk,FZ⟩:=id hI;clear hI;refine Qa ?_;refine Qc ?_ ?_<;>intro h2
 ·have bg:k < t.maps.length:=by omega
  have aK:=qw t.maps k bg;have n5:=ht.bd _ (getElem_mem bg);have sN:=xQ.not (t:=t) bg;have xR:=xQ.succ (t:=t) bg FZ;have F3:=Xw7 (t:=t) bg;generalize t.maps[k]=m at *
  have il:=C5 c.gl m.port n5.2.2.2.2;unfold lV at il;have vY:=QX c.gl m.ae;obtain ⟨mp,ms,mi,ma,mt⟩:=m;simp only[Mp.enc]at aK;dsimp only at il vY;have AD:uq t ⟨mp,ms,mi,ma,mt⟩ ↔ (vW mp=true/\0<=ms/\ms<8/\0<=mi/\mi<=65535)/\Yq mt=true/\0<=ma/\ma<3:=by
   unfold uq Yu vW;simp only[Bool.and_eq_true,decide_eq_true_eq];constructor
   ·rintro ⟨⟨⟨⟨⟨h1,h2⟩,h3⟩,h4⟩,h5⟩,h6⟩;exact ⟨⟨h1,h2,h3,h4,h5⟩,h6⟩
   ·rintro ⟨⟨h1,h2,h3,h4,h5⟩,h6⟩;exact ⟨⟨⟨⟨⟨h1,h2⟩,h3⟩,h4⟩,h5⟩,h6⟩
  generalize j4:(if Yq mt=true then (mt-1024)%8 else 0)=oj at *
  have hbl:=vV mt;have F4:=Yfn (l:=(t.maps.take k).reverse) (m:=⟨mp,ms,mi,ma,mt⟩);have F5:=Yer (l:=(t.maps.take k).reverse) (m:=⟨mp,ms,mi,ma,mt⟩);by_cases b6:uq t ⟨mp,ms,mi,ma,mt⟩;rotate_left
  ·have hb:=uD (sN fun h=>b6 h.1.1);rw[AD]at b6;cases sK:Yq mt with
   | false =>
    rw[sK]at il;refine Qd (An @aE @aK) ?_;refine Xc il ?_;refine Yb ?_;refine Yc ?_;exact Qi @hb
   | true =>
    rw[sK]at il b6;cases hq:vW mp with
    | false =>
     rw[hq]at vY;refine Qd (An @aE @aK) ?_;refine Xc il ?_;refine Xc vY ?_;refine Yc ?_;exact Qi @hb
    | true =>
     rw[hq]at vY b6;refine Qd (An @aE @aK) ?_;refine Xc il ?_;refine Xc vY ?_;refine Qc ?_ ?_<;>intro h3
     ·exact Qi @hb
     ·exfalso;simp at b6;omega
  ·obtain ⟨⟨hq,fT,lY,hi0,n7⟩,sK,xJ,jG⟩:=AD.1 b6;rw[sK]at il;rw[hq]at vY;obtain ⟨S,rfl⟩:=Int.eq_ofNat_of_zero_le fT;obtain ⟨A,rfl⟩:=Int.eq_ofNat_of_zero_le xJ;obtain ⟨B,hB⟩:=Int.eq_ofNat_of_zero_le hbl.1;have PZ:B < 6:=by omega
   have uu:A<3:=by omega
   have je:S<8:=by omega
   have eh:=Tb.dT ht.wf je;have eo:=Tb.lh ht.wf uu PZ;have hog:=aq.lf t.ai uE A B;have F6:Up t ⟨mp,S,mi,A,mt⟩ ↔ t.aT S=(A:Int)+1/\t.ai.ow A B=(S:Int)+1:=by
    unfold Up;dsimp only;rw[hB,Int.toNat_natCast,Int.toNat_natCast,Int.toNat_natCast];exact ⟨fun h=>h.2,fun h=>⟨b6,h⟩⟩
   have hwv:∃ v,IntKind.i64.wrap (t.aT S-1)=v/\(v=(A:Int) ↔ t.aT S=(A:Int)+1):=by
    have:=hh.out S je;refine ⟨_,rfl,?_⟩;rw[IntKind.wrap_i64];omega
   obtain ⟨v,kh,ec⟩:=hwv;rw[hB]at il
   obtain ⟨cP,Q3,Lm⟩:∃ b,Kk (kx ((t.maps.take k).reverse.map kP)) (.agg [.int .i64 mp,.int .i64 A,.int .i64 mt]) (.bool false)=.bool b∧(b=true ↔ kP ⟨mp,S,mi,A,mt⟩ ∈ (t.maps.take k).reverse.map kP) :=
    Qvb _ _
   obtain ⟨cF,uF,Ln⟩:∃ b,Kk (kx ((t.maps.take k).reverse.map kF)) (.agg [.int .i64 mp,.int .i64 S,.int .i64 mi]) (.bool false)=.bool b∧(b=true ↔ kF ⟨mp,S,mi,A,mt⟩ ∈ (t.maps.take k).reverse.map kF) :=
    Qvb _ _
   rw[F4]at Lm;rw[F5]at Ln;have fO:(∀ o ∈ t.maps.take k,Ys o ⟨mp,S,mi,A,mt⟩=false) ↔ cP=false/\cF=false:=by
    constructor
    ·intro h;constructor
     ·cases hb:cP with
      | false=>rfl
      | true =>
       obtain ⟨o,ho,h1,h2,h3⟩:=Lm.1 hb;have:=h o (mem_reverse.1 ho);rw[(Q0 _ _).2 ⟨h1,.inl ⟨h2,h3⟩⟩]at this;cases this
     ·cases hb:cF with
      | false=>rfl
      | true =>
       obtain ⟨o,ho,h1,h2,h3⟩:=Ln.1 hb;have:=h o (mem_reverse.1 ho);rw[(Q0 _ _).2 ⟨h1,.inr ⟨h2,h3⟩⟩]at this;cases this
    ·rintro ⟨h1,h2⟩ o ho;cases hk:Ys o ⟨mp,S,mi,A,mt⟩ with
     | false=>rfl
     | true =>
      obtain ⟨h3,h4⟩:=(Q0 _ _).1 hk;rcases h4 with ⟨h5,h6⟩|⟨h5,h6⟩
      ·have:=Lm.2 ⟨o,mem_reverse.2 ho,h3,h5,h6⟩;rw[h1]at this;cases this
      ·have:=Ln.2 ⟨o,mem_reverse.2 ho,h3,h5,h6⟩;rw[h2]at this;cases this
   rw[F6,fO]at sN xR;clear Lm Ln F4 F5 F6 fO AD hbl;have Lp:=Q2 ((t.maps.take k).reverse.map kM) (.agg [.int .i64 A,.int .i64 B]);have AE:=C7 ((t.maps.take k).reverse.map kM) (.agg [.int .i64 A,.int .i64 B]);have hcS:=Q2 (((t.maps.take k).reverse.map Mp.s).map jJ) (.int .i64 S);have hgS:=C7 (((t.maps.take k).reverse.map Mp.s).map jJ) (.int .i64 S);rw[length_map,List.length_reverse,length_take]at Lp;rw[length_map,length_map,List.length_reverse,length_take]at hcS;have Q4:=Yjy ⟨mp,S,mi,A,mt⟩ (t.maps.take k).reverse;have Q5:=Yfv S ((t.maps.take k).reverse.map Mp.s);have huP:=Ykb ⟨mp,S,mi,A,mt⟩ (t.maps.take k).reverse;have huF:=Yjw ⟨mp,S,mi,A,mt⟩ (t.maps.take k).reverse;have hkM:kM ⟨mp,S,mi,A,mt⟩=.agg [.int .i64 A,.int .i64 B]:=by unfold kM;dsimp only;rw[hB]
   rw[hkM]at Q4;have Q6:jJ S=.int .i64 S:=rfl;rw[Q6]at Q5;dsimp only at huP huF;generalize ku ((t.maps.take k).reverse.map kM) (.agg [.int .i64 A,.int .i64 B])=nM at *
   generalize ku (((t.maps.take k).reverse.map Mp.s).map jJ) (.int .i64 S)=nS at *
   generalize t.aT S=hm at *
   generalize t.ai.ow A B=ow at *
   cases cP with
   | true =>
    have hb:=uD (sN fun h=>by cases h.2.1);refine Qd (An @aE @aK) ?_;refine Xc il ?_;refine Xc vY ?_;refine Qc ?_ ?_<;>intro h3
    ·omega
    refine Qa ?_;refine Ul FX @Q3 ?_;refine Yb ?_;refine Yc ?_;exact Qi @hb
   | false =>
   cases cF with
   | true =>
    have hb:=uD (sN fun h=>by cases h.2.2);refine Qd (An @aE @aK) ?_;refine Xc il ?_;refine Xc vY ?_;refine Qc ?_ ?_<;>intro h3
    ·omega
    refine Qa ?_;refine Ul FX @Q3 ?_
    ((refine FW FY ?_ ?_ ?_);(focus (have aQ:=@uF;refine XG ?_;clear aQ;try first|exact rfl|exact True.intro));(focus (have aQ:=@uF;refine XG ?_;clear aQ;try trivial));(have aQ:=@uF;refine XG ?_;clear aQ;((try with_reducible and_intros);all_goals try first|refine zm ?_|exact CL)))
    refine Yc ?_;exact Qi @hb
   | false =>
    refine Qd (An @aE @aK) ?_;refine Xc il ?_;refine Xc vY ?_;refine Qc ?_ ?_<;>intro h3
    ·omega
    refine Qa ?_;refine Ul FX @Q3 ?_
    ((refine FW FY ?_ ?_ ?_);(focus (have aQ:=@uF;have bu:=@e2;have bO:=@eh;have cy:=@eo;have dc:=@kh;refine XG ?_;clear aQ bu bO cy dc;try first|exact rfl|exact True.intro));(focus (have aQ:=@uF;have bu:=@e2;have bO:=@eh;have cy:=@eo;have dc:=@kh;refine XG ?_;clear aQ bu bO cy dc;try trivial));(have aQ:=@uF;have bu:=@e2;have bO:=@eh;have cy:=@eo;have dc:=@kh;refine XG ?_;clear aQ bu bO cy dc;((try with_reducible and_intros);all_goals try first|refine zm ?_|exact CL)))
    refine Qc ?_ ?_<;>intro h4
    ·have hb:=uD (sN fun h=>by omega);exact Qi @hb
    have ry:=Yab (kv ((t.maps.take k).reverse.map kM)) (.agg [.int .i64 A,.int .i64 B]) (.int .i64 0) (.int .i64 ((nM:Int)+1));have Lq:=Xxr (kv ((t.maps.take k).reverse.map kM)) (.agg [.int .i64 A,.int .i64 B]) (.int .i64 0);have uv:=Yhc (kv ((t.maps.take k).reverse.map kM)) (.agg [.int .i64 A,.int .i64 B]) (.int .i64 0);have Lr:Wy true [.int .i64,.int .i64] (qi (kv ((t.maps.take k).reverse.map kM)) (.agg [.int .i64 A,.int .i64 B]) (.int .i64 0))=True:=eq_true (Xzn (of_eq_true (Xzy _)) (by simp[Zs,Wz,Yt]));rw[AE]at Lq;have nK:∀ n:Nat,((n:Int)).toNat=n:=fun n=>Int.toNat_natCast n;have xS:xQ t (t.maps.take (k+1)):=xR af ⟨rfl,rfl⟩;refine Qa ?_;refine xq FX @huP ?_
    ((first|refine Oz FY ?_|refine OA FY ?_);(have aQ:=@huF;refine XG ?_;clear aQ;((try with_reducible and_intros);all_goals try first|refine zm ?_|exact CL)))
    ·refine Ul vX @AE ?_
     ((first|refine XF vX ?_|refine XH vX ?_);(have aQ:=@AE;refine XG ?_;clear aQ;((try with_reducible and_intros);all_goals try first|refine zm ?_|exact CL)))
     (refine XI ?_;(have aQ:=@ry;have bu:=@Q4;have bO:=@nK;refine XG ?_;clear aQ bu bO;((try with_reducible and_intros);all_goals try first|refine zm ?_|exact CL)))
     refine Ul pE @hgS ?_;refine xq pE @Q5 ?_;refine ⟨k+1,⟨by omega,xS⟩,⟨[],?_⟩,by omega⟩;exact Qi @F3
    ·((first|refine XF vX ?_|refine XH vX ?_);(have aQ:=@AE;refine XG ?_;clear aQ;((try with_reducible and_intros);all_goals try first|refine zm ?_|exact CL)))
     refine Ul vX (An @Lq @Lr) ?_
     (refine XI ?_;(have aQ:=@ry;have bu:=@Q4;have bO:=@nK;refine XG ?_;clear aQ bu bO;((try with_reducible and_intros);all_goals try first|refine zm ?_|exact CL)))
     refine Ul pE @hgS ?_;refine xq pE @Q5 ?_;refine ⟨k+1,⟨by omega,xS⟩,⟨[],?_⟩,by omega⟩;exact Qi @F3
 ·have:k=t.maps.length:=by omega
  subst this;rw[take_length]at FZ ⊢;have h5:Bk.az [] true=bI (mS t.ai.own 0):=rfl;have rj:=ht.wf.ai.own;refine Qa ?_
  (refine zW pE ?_;(have aQ:=@h5;refine XG ?_;clear aQ;((try with_reducible and_intros);all_goals try first|refine zm ?_|exact CL)))
  refine Qv (fun a:Nat=>a≤3∧∀ i,i < a * 6→(0 < t.ai.own.getD i 0 ↔ ∃ m ∈ t.maps,Yx m=i))
   (fun a=>⟨[(1,.ptr 0 0),(5,.mp 3),(6,.mp 4),(14,.mp 5),(146,.int .i64 a)],
    [(0,.cells t.enc),(1,bP t.maps.reverse),(2,bF t.maps.reverse),(3,sM t.maps.reverse),(4,bI (t.maps.reverse.map Mp.s)),(5,bI (mS t.ai.own (a*6)))],6⟩) (fun a=>3-a) E5.mixed hN
   ⟨0,⟨by omega,fun i hi=>by omega⟩,[],by exact Qp⟩ fun a hI=>?_
  obtain ⟨ha,hua⟩:=id hI;clear hI;refine Qa ?_;refine Qc ?_ ?_<;>intro h3
  ·have jG:a < 3:=by omega
   refine Qa ?_
   refine Qv (fun k:Nat=>k≤6∧∀ i,i < a * 6 + k→(0 < t.ai.own.getD i 0 ↔ ∃ m ∈ t.maps,Yx m=i))
    (fun k=>⟨[(1,.ptr 0 0),(5,.mp 3),(6,.mp 4),(14,.mp 5),(15,.int .i64 a),(146,.int .i64 a),(149,.int .i64 k)],
     [(0,.cells t.enc),(1,bP t.maps.reverse),(2,bF t.maps.reverse),(3,sM t.maps.reverse),(4,bI (t.maps.reverse.map Mp.s)),(5,bI (mS t.ai.own (a*6+k)))],6⟩) (fun k=>6-k) E5.mixed hN
    ⟨0,⟨by omega,hua⟩,[],by exact Qp⟩ fun k hI=>?_
   obtain ⟨hk,huk⟩:=id hI;clear hI;refine Qa ?_;refine Qc ?_ ?_<;>intro h4
   ·have fo:k < 6:=by omega
    have eo:=Tb.lh ht.wf jG fo;have hog:=aq.lf t.ai uE a k;have uw:=Xlv (own:=t.ai.own) (i:=a*6+k) af;rw[show a*6+k+1=a*6+(k+1) by omega]at uw;have AE:=C7 (t.maps.reverse.map kM) (.agg [.int .i64 a,.int .i64 k]);have Lp:=Xoh FZ.1 jG fo;have kN:=Xv3 t.ai.own (a*6+k);have gT:t.ai.own.getD (a*6+k) 0=t.ai.ow a k:=rfl;have pF:(0<t.ai.ow a k ↔ 0<ku (t.maps.reverse.map kM) (.agg [.int .i64 a,.int .i64 k]))->∀ i,i<a*6+(k+1)->(0<t.ai.own.getD i 0 ↔ ∃ m ∈ t.maps,Yx m=i):=fun h i hi=>by
     by_cases e:i=a*6+k
     ·subst e;rw[gT,h,Lp]
     ·exact huk i af
    have qF:¬ (0<t.ai.ow a k ↔ 0<ku (t.maps.reverse.map kM) (.agg [.int .i64 a,.int .i64 k]))->¬ GT t:=fun h hg=>h (by
     rw[Lp];have:=hg.used (a*6+k) af;rw[gT]at this;rw[<- this];omega)
    rw[gT]at uw;generalize ku (t.maps.reverse.map kM) (.agg [.int .i64 a,.int .i64 k])=nM at *
    have hcH:=Q2 ((mS t.ai.own (a*6+k)).map jJ) (.int .i64 (t.ai.ow a k-1));have hgH:=C7 ((mS t.ai.own (a*6+k)).map jJ) (.int .i64 (t.ai.ow a k-1));have huH:=Yfv (t.ai.ow a k-1) (mS t.ai.own (a*6+k));rw[length_map]at hcH;have Q6:jJ (t.ai.ow a k-1)=.int .i64 (t.ai.ow a k-1):=rfl;rw[Q6]at huH;generalize ku ((mS t.ai.own (a*6+k)).map jJ) (.int .i64 (t.ai.ow a k-1))=nH at *
    generalize t.ai.ow a k=o at *
    refine Qd (An @e2 @eo) ?_;refine Qc ?_ ?_<;>intro F7
    ·rw[am af]at uw;refine Qa ?_;refine Ul pE @hgH ?_;refine xq pE @huH ?_;refine Ul vX @AE ?_;refine Qc ?_ ?_<;>intro h6
     ·have hb:=uD (qF (by simp at h6;omega));exact Qi @hb
     ·refine Qa ?_;refine ⟨k+1,⟨by omega,pF (by simp at h6;omega)⟩,⟨[],?_⟩,by omega⟩;exact Qi @uw
    ·rw[aa af]at uw;refine Qa ?_;refine Ul vX @AE ?_;refine Qc ?_ ?_<;>intro h6
     ·have hb:=uD (qF (by simp at h6;omega));exact Qi @hb
     ·refine Qa ?_;refine ⟨k+1,⟨by omega,pF (by simp at h6;omega)⟩,⟨[],?_⟩,by omega⟩;exact Qi @uw
   ·have:k=6:=by omega
    subst this;refine Qa ?_;have e6:(a+1)*6=a*6+6:=by omega
    refine ⟨a+1,⟨by omega,by rw[e6];exact huk⟩,⟨[],?_⟩,by omega⟩;exact Qi @e6
  ·have:a=3:=by omega
   subst this;refine Qa ?_
   refine Qv (fun s:Nat=>s≤8∧∀ u,u < s→Zk t.ai.own u≤2∧Ye t.maps (u:Int)≤12∧(t.aT u≠0 ↔ 0 < Zk t.ai.own u))
    (fun s=>⟨[(1,.ptr 0 0),(6,.mp 4),(14,.mp 5),(177,.int .i64 s)],
     [(0,.cells t.enc),(1,bP t.maps.reverse),(2,bF t.maps.reverse),(3,sM t.maps.reverse),(4,bI (t.maps.reverse.map Mp.s)),(5,bI (mS t.ai.own 18))],6⟩) (fun s=>8-s) E5.mixed hN
    ⟨0,⟨by omega,fun u hu=>by omega⟩,[],by exact Qp<;>exact rfl⟩ fun s hI=>?_
   obtain ⟨hs,oY⟩:=id hI;clear hI;refine Qa ?_;refine Qc ?_ ?_<;>intro h4
   ·have lY:s < 8:=by omega
    have eh:=Tb.dT ht.wf lY;have j1:=C7 ((mS t.ai.own 18).map jJ) (.int .i64 s);have j2:=C7 ((t.maps.reverse.map Mp.s).map jJ) (.int .i64 s);rw[Ydr ht.wf.ai]at j1;rw[Xmk]at j2;have pF:Zk t.ai.own s<=2/\Ye t.maps (s:Int)<=12/\(t.aT s≠0 ↔ 0<Zk t.ai.own s)->∀ u,u<s+1->Zk t.ai.own u<=2/\Ye t.maps (u:Int)<=12/\(t.aT u≠0 ↔ 0<Zk t.ai.own u):=fun h u hu=>by
     by_cases e:u=s
     ·subst e;exact h
     ·exact oY u af
    have qF:¬ (Zk t.ai.own s<=2/\Ye t.maps (s:Int)<=12/\(t.aT s≠0 ↔ 0<Zk t.ai.own s))->¬ GT t:=fun h hg=>h ⟨hg.two s lY,hg.many s lY,hg.home s lY⟩;generalize Zk t.ai.own s=nB at *
    generalize Ye t.maps (s:Int)=nO at *
    generalize t.aT s=hm at *
    by_cases c1:2<nB
    ·have d1:decide (2 < (nB:Int))=true:=by rw[decide_eq_true_eq];omega
     have hb:=uD (qF af);refine Qa ?_;refine Ul pE (An @j1 @d1) ?_;refine jz @d1 ?_;refine jz @d1 ?_;refine Yc ?_;exact Qi @hb
    ·have d1:decide (2 < (nB:Int))=false:=by rw[decide_eq_false_iff_not];omega
     by_cases c2:12<nO
     ·have d2:decide (12 < (nO:Int))=true:=by rw[decide_eq_true_eq];omega
      have hb:=uD (qF af);refine Qa ?_;refine Ul pE (An @j1 @d1) ?_
      ((refine FW pE ?_ ?_ ?_);(focus (have aQ:=@j2;have bu:=@d1;have bO:=@d2;refine XG ?_;clear aQ bu bO;try first|exact rfl|exact True.intro));(focus (have aQ:=@j2;have bu:=@d1;have bO:=@d2;refine XG ?_;clear aQ bu bO;try trivial));(have aQ:=@j2;have bu:=@d1;have bO:=@d2;refine XG ?_;clear aQ bu bO;((try with_reducible and_intros);all_goals try first|refine zm ?_|exact CL)))
      refine jz (An @d1 @d2) ?_;refine Yc ?_;exact Qi @hb
     ·have d2:decide (12 < (nO:Int))=false:=by rw[decide_eq_false_iff_not];omega
      refine Qa ?_;refine Ul pE (An @j1 @d1) ?_
      ((refine FW pE ?_ ?_ ?_);(focus (have aQ:=@j2;have bu:=@d1;have bO:=@d2;have cy:=@e2;have dc:=@eh;refine XG ?_;clear aQ bu bO cy dc;try first|exact rfl|exact True.intro));(focus (have aQ:=@j2;have bu:=@d1;have bO:=@d2;have cy:=@e2;have dc:=@eh;refine XG ?_;clear aQ bu bO cy dc;try trivial));(have aQ:=@j2;have bu:=@d1;have bO:=@d2;have cy:=@e2;have dc:=@eh;refine XG ?_;clear aQ bu bO cy dc;((try with_reducible and_intros);all_goals try first|refine zm ?_|exact CL)))
      ((refine FW pE ?_ ?_ ?_);(focus (have aQ:=@j1;have bu:=@d1;have bO:=@d2;refine XG ?_;clear aQ bu bO;try first|exact rfl|exact True.intro));(focus (have aQ:=@j1;have bu:=@d1;have bO:=@d2;refine XG ?_;clear aQ bu bO;try trivial));(have aQ:=@j1;have bu:=@d1;have bO:=@d2;refine XG ?_;clear aQ bu bO;((try with_reducible and_intros);all_goals try first|refine zm ?_|exact CL)))
      refine Qc ?_ ?_<;>intro F7
      ·have hb:=uD (qF (by rw[Qyp]at F7;omega));exact Qi @hb
      ·refine Qa ?_;refine ⟨s+1,⟨by omega,pF (by rw[Qyp]at F7;omega)⟩,⟨[],?_⟩,by omega⟩;exact Qp
   ·have:s=8:=by omega
    subst this;have hb:Zr t=true:=(vQ t).2 (Kb.2 ⟨uE,FZ.1,FZ.2,fun i hi=>(by
     have h1:=hua i hi;have h2:0<=t.ai.own.getD i 0:=by
      have mR:i<t.ai.own.length:=by omega
      rw[List.getD_eq_getElem?_getD,getElem?_eq_getElem mR];exact (Qz1 uE (getElem_mem mR)).1
     rw[<- h1];omega),fun u hu=>(oY u hu).1,fun u hu=>(oY u hu).2.1,fun u hu=>(oY u hu).2.2⟩)
    exact Qi @hb
def Xuz (ht:t.wf)(hl:t.maps.length<=4611686018427387904):PS Tryz.prog gl 22 [.agg t.enc,.agg t.enc] (.bool true):=by
 refine X9.ps (ap rfl) (by simp[Qe]) fun c hN hg=>?_
 conv in aG _ _=>cbv
 have e2:=Tb.au ht;have e3:=Tb.bS ht;have e4:=Tb.cZ ht;have e5:=Tb.qE ht;have aE:=Yi t.maps;have hp:=@Xp8 c true t.ai ht.ai;have hh:=@Xrs c true t.home ht.home;refine Qd (An @e2 @e4) ?_;refine Qj hp (An @e2 (An @e4 @e5)) ?_;refine Qj hh (An @e2 @e3) ?_;refine Yc ?_;refine Qd (An @e2 @e3) ?_
 refine Qv (fun k:Nat=>k≤t.maps.length) (fun k=>⟨[(2,.ptr 0 0),(3,.ptr 1 0),(29,.int .i64 t.maps.length),(30,.int .i64 k)],[(0,.cells t.enc),(1,.cells t.enc)],2⟩) (fun k=>t.maps.length - k) X9.mixed hN
  ⟨0,by omega,[],by exact Qp⟩ fun k hk=>?_
 refine Qa ?_;refine Qc ?_ ?_<;>intro h2
 ·have bg:k < t.maps.length:=by omega
  have aK:=qw t.maps k bg;generalize t.maps[k]=x at *
  have heq:=@xL c true x x;rw[decide_eq_true rfl]at heq;refine Qd (An @e2 (An @e3 (An @aE @aK))) ?_;refine Qj heq (An @e2 (An @e3 (An @aE @aK))) ?_;refine Yc ?_;refine Qa ?_;refine ⟨k+1,by omega,⟨[],?_⟩,by omega⟩;exact Qp
 ·have:k=t.maps.length:=by omega
  subst this;exact Qp
def F8 {t:Tb}(h:t.wf)(x y:AV):(t.hd++[x]).set 29 y=t.hd++[y]:=by
 rw[List.set_append_right _ _ (by rw[Tb.bW h];exact Nat.le_refl _),Tb.bW h];rfl
def Xzp (ht:t.wf)(hl:t.maps.length<=3518437208780):GS Tryz.prog gl 157 [.agg t.enc] [] 0 (.agg (t.hd++[.sl 5 0 0 t.maps.length t.maps.length])) [(0,.cells (bE t.maps))] 1:=by
 refine Xyz.gs (ap rfl) av fun c hN hg=>?_
 conv in aG _ _=>cbv
 have e2:=Tb.au ht;have e3:=Tb.bS ht;have aE:=Yi t.maps;have hs:=Tb.jf ht;have fX:=Tb.bW ht;have cx:(bE t.maps).take (t.maps.length*5)=bE t.maps:=take_of_length_le af;refine Qd (An @e2 @e3) ?_;refine Yp (An @aE @cx) ?_;refine Qd (An @hs (An @fX @e2)) ?_;refine ⟨[(0,2)],?_⟩;exact Qp
def uG (t:Tb)(S:Nat)(k:Nat):List Nat:=(List.range' k (6-k)).filter fun q=>t.ai.ow (t.aT S-1).toNat q==(S:Int)+1
def sO (t:Tb)(S k i:Nat):List Int:=(if t.ai.ow (t.aT S-1).toNat k=(S:Int)+1/\k<6 then (Zq k).drop i else [])++(uG t S (k+1)).flatMap Zq
def Xuu (S:Nat):uG t S 0=Zo t S 6:=by unfold uG Zo;rw[List.range_eq_range']
def Qu2 (S k:Nat)(hk:k<6):(uG t S k).flatMap Zq=sO t S k 0:=by
 unfold sO;have e:uG t S k=(if t.ai.ow (t.aT S-1).toNat k=(S:Int)+1/\k<6 then [k] else [])++uG t S (k+1):=by
  unfold uG;rw[show 6-k=(6-(k+1))+1 by omega,List.range'_succ,filter_cons];generalize t.ai.ow (t.aT S-1).toNat k=x;by_cases h:x=(S:Int)+1<;>simp[h,hk]
 rw[e,List.flatMap_append];split<;>simp
set_option maxRecDepth 20000 in
def Xsc (ht:t.ok)(hh:Hid (∀ s,s<8->-9223372036854775808<=t.aT s/\t.aT s<=9223372036854775807))(ae s aH draw:Int)(h:Zr t=false\/Yu ae s aH=false):PS Tryz.prog gl 110 [.agg t.enc,.int .i64 ae,.int .i64 s,.int .i64 aH,.int .i64 draw] (Xr t cQ false 2):=by
 refine JN.ps (ap rfl) (by simp[KY]) fun c hN hg=>?_
 conv in aG _ _=>cbv
 have e2:=Tb.au ht.wf;have hG:=Ll c.gl t ht hh;have hK:=QX c.gl ae;by_cases aX:Zr t=true
 ·rw[aX]at hG;have hk:Yu ae s aH=false:=h.resolve_left (by rw[aX];simp);have Ft:Yu ae s aH=(vW ae&&decide (0<=s)&&decide (s<8)&&decide (0<=aH)&&decide (aH<=65535)):=rfl;rw[Ft]at hk;cases hp:vW ae with
  | false =>
   rw[hp]at hK;refine Qd @e2 ?_;refine Qj hG @e2 ?_;refine Xc hK ?_;refine Yc ?_;exact Qi (An @e2 (An @Xr.eq_1 (An @Mp.enc.eq_1 @cQ.eq_1)))
  | true =>
   rw[hp]at hK hk;refine Qd @e2 ?_;refine Qj hG @e2 ?_;refine Xc hK ?_;refine Qc ?_ ?_<;>intro h1
   ·exact Qi (An @e2 (An @Xr.eq_1 (An @Mp.enc.eq_1 @cQ.eq_1)))
   ·exfalso;simp at hk;omega
 ·have aX:Zr t=false:=by simpa using aX
  rw[aX]at hG;refine Qd @e2 ?_;refine Qj hG @e2 ?_;refine Yb ?_;refine Yc ?_;exact Qi (An @e2 (An @Xr.eq_1 (An @Mp.enc.eq_1 @cQ.eq_1)))
set_option maxRecDepth 20000 in
def Xuv (gl:Nat->AV)(t:Tb)(ht:t.ok)(hh:Hid (∀ s,s<8->-9223372036854775808<=t.aT s/\t.aT s<=9223372036854775807))(ep:dy t)(ae:Int)(S:Nat)(aH draw:Int)(bg:Yu ae S aH=true)(R:AV)(fU:Qe 0 R)
  (H1:Hid (∀ m,t.maps.find? (Ya ae S aH)=some m->R=Xr t m false 0))
  (H2:Hid (t.maps.find? (Ya ae S aH)=none->12<=Ye t.maps S->R=Xr t cQ false 6))
  (H3:Hid (t.maps.find? (Ya ae S aH)=none→¬ 12≤Ye t.maps S→(∀ port,Jm t ae (t.aT S - 1) (Jt t S)=some port→R=Xr (t.add ⟨ae,S,aH,t.aT S - 1,port⟩) ⟨ae,S,aH,t.aT S - 1,port⟩ false 0) ∧
   (Jm t ae (t.aT S - 1) (Jt t S)=none→(2≤(Jt t S).length→R=Xr t cQ false 6)∧(¬ 2≤(Jt t S).length→(1≤t.aT S→R=Uf (t.tk ae S aH (t.aT S - 1) draw)) ∧
    (¬ 1<=t.aT S->((t.ai.pick draw).2≠0->R=Xr t cQ false (t.ai.pick draw).2)/\((t.ai.pick draw).2=0->R=Uf (t.tk ae S aH (t.ai.pick draw).1 draw))))))) :
  PS Tryz.prog gl 110 [.agg t.enc,.int .i64 ae,.int .i64 S,.int .i64 aH,.int .i64 draw] R:=by
 refine JN.ps (ap rfl) fU fun c hN hg=>?_
 conv in aG _ _=>cbv
 have e2:=Tb.au ht.wf;have e3:=Tb.bS ht.wf;have hG:=Ll c.gl t ht hh;rw[Fz ep]at hG;have hK:=QX c.gl ae;have Ft:Yu ae S aH=(vW ae&&decide ((0:Int)<=S)&&decide ((S:Int)<8)&&decide (0<=aH)&&decide (aH<=65535)):=rfl;have mg:vW ae=true:=by rw[Ft]at bg;simp only[Bool.and_eq_true]at bg;exact bg.1.1.1.1
 rw[mg]at hK;have hF:=Xw0 c.gl t ht.wf ht.len ae S aH;have aE:=Yi t.maps;obtain ⟨_,⟨_,je⟩,hi0,n7⟩:=Ka bg;have je:S<8:=by omega
 have CZ:=Tb.jH ep ht.wf je;have ur:=uz ep;have eh:=Tb.dT ht.wf je;have Q7:=Kb.1 ep;have uEa:=Q7.many S je;have Q8:=C4 (Q7.dq S) ht.wf;have ny:=Q7.two S je;rw[Q8]at ny;cases jq:t.maps.find? (Ya ae S aH) with
 | some m =>
  have hR:=H1.out m jq;rw[jq]at hF;unfold gu Mp.enc at hF;subst hR;refine Qd @e2 ?_;refine Qj hG @e2 ?_;refine Xc hK ?_;refine Qc ?_ ?_<;>intro h1
  ·omega
  refine Qd @e2 ?_;refine Qj hF @e2 ?_;refine Yc ?_;exact Qi (An @e2 (An @Xr.eq_1 @Mp.enc.eq_1))
 | none =>
  rw[jq]at hF;unfold gu cQ Mp.enc at hF;dsimp only at hF;refine Qd @e2 ?_;refine Qj hG @e2 ?_;refine Xc hK ?_;refine Qc ?_ ?_<;>intro h1
  ·omega
  refine Qd @e2 ?_;refine Qj hF @e2 ?_;refine Yc ?_;refine Qd (An @e2 @e3) ?_
  refine Qv (fun k:Nat=>k≤t.maps.length)
   (fun k=>⟨[(1,.int .i64 ae),(2,.int .i64 S),(3,.int .i64 aH),(4,.int .i64 draw),(5,.ptr 0 0),(10,.ptr 1 0),(11,.ptr 2 0),(14,.ptr 3 0),(17,.int .i64 (Ye (t.maps.take k) S)),(18,.int .i64 0),(74,.isl t.maps.length (bE t.maps)),(75,.int .i64 t.maps.length),(76,.int .i64 k)],[(0,.cells t.enc),(1,.cells Wm),(2,.cells z5),(3,.cells z5)],4⟩) (fun k=>t.maps.length-k) JN.mixed hN
   ⟨0,by omega,[],by exact Qi (An @Wm.eq_1 (An @eL.eq_1 @z5.eq_1))⟩ fun k hk=>?_
  refine Qa ?_;refine Qc ?_ ?_<;>intro h3
  ·have bg:k < t.maps.length:=by omega
   have aK:=qw t.maps k bg;have oE:=Qtc t.maps k bg S;have As:=P6 t.maps k S;generalize t.maps[k]=m at *
   obtain ⟨mp,ms,mi,ma,mt⟩:=m;simp only[Mp.enc]at aK;dsimp only at oE;refine Qd (An @aE @aK) ?_;refine Qc ?_ ?_<;>intro h4
   ·rw[am af]at oE;refine Qa ?_;refine ⟨k+1,by omega,⟨[],?_⟩,by omega⟩;exact Qi @oE
   ·rw[aa af]at oE;refine Qa ?_;refine ⟨k+1,by omega,⟨[],?_⟩,by omega⟩;exact Qi @oE
  ·have:k=t.maps.length:=by omega
   subst this;have dH:t.maps.take t.maps.length=t.maps:=take_length;rw[dH];have xK:=Lib.hid (H2.out jq);have FG:=Lib.hid (H3.out jq);clear H1 H2 H3;generalize Ye t.maps S=many at *
   refine Qa ?_;refine Qc ?_ ?_<;>intro h4
   ·have hR:=xK.out af;subst hR;exact Qi (An @e2 (An @Xr.eq_1 (An @Mp.enc.eq_1 (An @cQ.eq_1 (An @Wm.eq_1 (An @eL.eq_1 @z5.eq_1))))))
   have mQ:=Lib.hid (FG.out af);clear FG xK;have hCp:=Xzp c.gl t ht.wf af;have fX:=Tb.bW ht.wf;have aX:=fun x=>FI ht.wf x;refine Qd @e2 ?_;refine Jo (ip []) hCp (An @e2 (An @fX @eh)) ?_;have nt:Jm t ae (t.aT S-1) (Jt t S)=if 1<=t.aT S then (sO t S 0 0).find? (mP t ae (t.aT S-1)) else none:=by
    unfold Jm Jt;split
    ·rw[<- Xuu,Qu2 t S 0 af]
    ·rfl
   have sH:(Jt t S).length=if 1<=t.aT S then (Zo t S 6).length else 0:=by unfold Jt;split<;>rfl
   refine Qv (fun j:Nat=>j≤48∧(¬ 1≤t.aT S→j=0)∧(1≤t.aT S→(sO t S (j / 8) (j % 8)).find? (mP t ae (t.aT S - 1))=Jm t ae (t.aT S - 1) (Jt t S)))
    (fun j=>⟨[(1,.int .i64 ae),(2,.int .i64 S),(3,.int .i64 aH),(4,.int .i64 draw),(5,.ptr 0 0),(10,.ptr 1 0),(11,.ptr 2 0),(14,.ptr 3 0),(18,.int .i64 (if 1<=t.aT S then (Zo t S ((j+7)/8)).length else 0:Nat)),(21,.ptr 5 0),(22,.int .i64 (t.aT S-1)),(23,.int .i64 (1024+j))],[(0,.cells t.enc),(1,.cells Wm),(2,.cells z5),(3,.cells z5),(4,.cells (bE t.maps)),(5,.cells (t.hd++[.sl 5 4 0 t.maps.length t.maps.length]))],6⟩) (fun j=>48-j) JN.mixed hN
    ⟨0,⟨by omega,fun _=>rfl,fun h=>by rw[nt,am h]⟩,[],by refine Qa ?_<;>first|omega|(simp[Zo];done)⟩ fun j hj=>?_
   obtain ⟨hj,hj0,vZ⟩:=hj;by_cases ik:1<=t.aT S;rotate_left
   ·-- no home
    have:=hj0 ik;subst this;rw[aa ik]at sH;rw[aa ik];have qB:=Lib.hid (mQ.out.2 (by rw[nt,aa ik]));refine Qa ?_;refine Qc ?_ ?_<;>intro h5
    ·omega
    refine Qa ?_;refine Yc ?_;refine Qa ?_;refine Qc ?_ ?_<;>intro h7;rotate_left
    ·omega
    have Av:=(qB.out.2 af).2 ik;have qC:=Lib.hid Av.1;have qD:=Lib.hid Av.2;clear mQ qB Av;have e4:=Tb.cZ ht.wf;have hP:=Xxe c.gl t.ai ht.wf.ai draw;have F9:=Z5 t.ai draw;generalize t.ai.pick draw=pk at *
    obtain ⟨pa,pe⟩:=pk;dsimp only at qC qD hP;refine Qd (An @e2 @e4) ?_;refine Qj hP @e2 ?_;refine Qc ?_ ?_<;>intro h8
    ·have hR:=qC.out h8;subst hR;exact Qi (An @e2 (An @Xr.eq_1 (An @Mp.enc.eq_1 (An @cQ.eq_1 (An @Wm.eq_1 (An @eL.eq_1 @z5.eq_1))))))
    have nI:pe=0:=by simpa using h8
    subst nI;have oH:=Lib.hid (qD.out rfl);have hpa:0<=pa/\pa<3:=by
     cases F9 with
     | no e he=>exact (he rfl).elim
     | yes b j9 _ _ _=>omega
    clear h8 F9 qC qD;refine Qa ?_;have hT:=Qwl c.gl t.ai ht.wf.ai S pa draw;have oI:=Fv t.ai ht.wf.ai S pa draw;have lj:=aq.jc t.ai ht.wf.ai S pa draw;generalize hx:t.ai.take S pa draw=x at *
    obtain ⟨tp,tk,te⟩:=x;unfold lU at hT;dsimp only at hT lj;have vR:=aq.au lj;refine Qd (An @e2 @e4) ?_;refine Qj hT (An @e2 @vR) ?_;refine Qc ?_ ?_<;>intro h9
    ·have hR:=oH.out.trans (show Uf (t.tk ae S aH pa draw)=Xr t cQ false te by unfold Tb.tk Uf;rw[hx];simp[h9]);subst hR;exact Qi (An @e2 (An @Xr.eq_1 (An @Mp.enc.eq_1 (An @cQ.eq_1 (An @Wm.eq_1 (An @eL.eq_1 @z5.eq_1))))))
    have Au:te=0:=by simpa using h9
    subst Au;cases oI with
    | no _ he=>exact (he rfl).elim
    | yes b kk AF j9 fo _ _ en _ _ _ =>
    have hR:=oH.out.trans (show Uf (t.tk ae S aH pa draw)=Xr (Tb.add ⟨t.ai.put b kk (S+1),t.home.set S (pa+1),t.maps⟩ ⟨ae,S,aH,pa,1024+(kk:Int)*8⟩) ⟨ae,S,aH,pa,1024+(kk:Int)*8⟩ true 0 by unfold Tb.tk Uf;rw[hx];rfl);subst hR;clear oH;have eg:=fun x=>QD ht.wf lj x;have fV:(⟨t.ai.put b kk (S+1),t.home,t.maps⟩:Tb).wf:=⟨lj,ht.wf.home⟩
    have sL:=fun x=>KZ fV je (pa+1) x;have dW:(⟨t.ai.put b kk (S+1),t.home.set S (pa+1),t.maps⟩:Tb).wf:=⟨lj,by rw[length_set];exact ht.wf.home⟩
    have jg:=Tb.bW fV;have hl2:=Tb.bW dW;have mA:=fun x=>FI dW x;have yS:=fun x y=>F8 dW x y;dsimp only at sL;have hmul:(8:Int)*(kk:Int)=(kk:Int)*8:=Int.mul_comm _ _;have hq:Xr (Tb.add ⟨t.ai.put b kk (S+1),t.home.set S (pa+1),t.maps⟩ ⟨ae,S,aH,pa,1024+(kk:Int)*8⟩) ⟨ae,S,aH,pa,1024+(kk:Int)*8⟩ true 0=.aR [.agg ((⟨t.ai.put b kk (S+1),t.home.set S (pa+1),t.maps⟩:Tb).hd++[.isl (t.maps.length+1) (bE t.maps++[.int .i64 ae,.int .i64 S,.int .i64 aH,.int .i64 pa,.int .i64 (1024+(kk:Int)*8)])]),.agg [.int .i64 ae,.int .i64 S,.int .i64 aH,.int .i64 pa,.int .i64 (1024+(kk:Int)*8)],.bool true,.int .i64 0]:=by
     have:=CR t.maps ⟨ae,S,aH,pa,1024+(kk:Int)*8⟩;dsimp only at this;rw[this];simp[Xr,Tb.add,Tb.enc,Tb.hd,Mp.enc]
    have ea:(bE t.maps++[AV.int .i64 ae,.int .i64 S,.int .i64 aH,.int .i64 pa,.int .i64 (1024+(kk:Int)*8)]).take ((t.maps.length+1)*5)=bE t.maps++[.int .i64 ae,.int .i64 S,.int .i64 aH,.int .i64 pa,.int .i64 (1024+(kk:Int)*8)]:=take_of_length_le (by simp[Yi];omega);have cx:(bE t.maps).take (t.maps.length*5)=bE t.maps:=take_of_length_le af;rw[hq];generalize (⟨t.ai.put b kk (S+1),t.home.set S (pa+1),t.maps⟩:Tb)=T2 at *
    generalize (⟨t.ai.put b kk (S+1),t.home,t.maps⟩:Tb)=T1 at *
    refine Qd (An @fX (An @eg (An @sL (An @vR (An @jg (An @hl2 (An @mA @hmul))))))) ?_;refine Yp (An @hl2 @mA) ?_;exact Ez (An @aE (An @cx (An @hl2 (An @yS (An @map_append.{0,0} (An @ea (An @Wm.eq_1 (An @eL.eq_1 @z5.eq_1))))))))
   ·rw[am ik]at sH;rw[am ik];have vZ:=vZ ik;obtain ⟨a,ha⟩:=Int.eq_ofNat_of_zero_le (show 0≤t.aT S - 1 by omega);have jG:a < 3:=by omega
    have uf:(t.aT S-1).toNat=a:=by omega
    rw[ha]at vZ nt;rw[ha];have AG:=mQ.out;rw[ha]at AG;have mQ:=Lib.hid AG;clear AG;by_cases uHa:j<48
    ·have fo:j / 8 < 6:=by omega
     have pA:=Lf (i:=j%8) fo af;rw[show (1024+((j/8:Nat):Int)*8+((j%8:Nat):Int))=1024+(j:Int) by omega]at pA;have il:=C5 c.gl (1024+(j:Int)) af;unfold lV at il;rw[pA.1,pA.2]at il;simp only[if_true]at il;have hm8:(1024+(j:Int)-1024)%8=((j%8:Nat):Int):=by omega
     rw[hm8]at il;have eo:=Tb.lh ht.wf jG fo;have gR:=PR t S (j/8);rw[uf]at gR;have sP:sO t S (j/8) (j%8)=(if t.ai.ow a (j/8)=(S:Int)+1/\j/8<6 then (Zq (j/8)).drop (j%8) else [])++(uG t S (j/8+1)).flatMap Zq:=by unfold sO;rw[uf]
     have cj:sO t S ((j+1)/8) ((j+1)%8)=(if t.ai.ow a (j/8)=(S:Int)+1/\j/8<6 then (Zq (j/8)).drop (j%8+1) else [])++(uG t S (j/8+1)).flatMap Zq:=by
      by_cases h8:j%8=7
      ·rw[show (j + 1) / 8=j / 8 + 1 by omega,show (j + 1) % 8=0 by omega];by_cases h5:j / 8 + 1 < 6
       ·rw[<- Qu2 t S _ h5];rw[h8];split<;>simp[Zq]
       ·have:j / 8=5:=by omega
        rw[h8,this];unfold sO;rw[aa af];split<;>simp[Zq,uG]
      ·rw[show (j+1)/8=j/8 by omega,show (j+1)%8=j%8+1 by omega];unfold sO;rw[uf]
     have xT:j%8=0->Zo t S ((j+1+7)/8)=Zo t S ((j+7)/8)++(if t.ai.ow a (j/8)=(S:Int)+1 then [j/8] else []):=fun h=>by
      rw[show (j+1+7)/8=j/8+1 by omega,show (j+7)/8=j/8 by omega];exact gR
     have xU:j%8≠0->(j+1+7)/8=(j+7)/8:=fun h=>by omega
     have uJa:=PT t S ((j+7)/8);refine Qa ?_;refine Qc ?_ ?_<;>intro h5;rotate_left
     ·omega
     refine Qa ?_;refine Qj il (An @e2 @eo) ?_;have Q9:∀ x:Nat,(if 1<=t.aT S then x else 0)=x:=fun x=>am ik;have hB:=Qwq c.gl t ht.wf ht.len ae a (1024+(j:Int));have Ga:=fun r=>Qwz (j/8) t ae a r (j%8) af;rw[show (1024+((j/8:Nat):Int)*8+((j%8:Nat):Int))=1024+(j:Int) by omega]at Ga;have AH:(1024:Int)+(j:Int)+1=1024+((j+1:Nat):Int):=by omega
     generalize t.ai.ow a (j/8)=ow at *
     refine Qc ?_ ?_<;>intro qG
     ·have mT:(Zo t S ((j+1+7)/8)).length=(Zo t S ((j+7)/8)).length:=by
       by_cases h0:j%8=0
       ·rw[xT h0,aa qG,List.append_nil]
       ·rw[xU h0]
      refine Qa ?_;refine ⟨j+1,⟨by omega,fun h=>(h ik).elim,fun _=>?_⟩,⟨[],?_⟩,by omega⟩
      ·rw[cj,aa fun h=>qG h.1,<- vZ,sP,aa fun h=>qG h.1]
      ·exact Qi (An @Q9 (An @mT @AH))
     ·have qG:ow=(S:Int) + 1:=by simpa using qG
      refine Qa ?_;refine Qc ?_ ?_<;>intro h7
      ·have xV:j % 8=0:=by omega
       have mT:(Zo t S ((j+1+7)/8)).length=(Zo t S ((j+7)/8)).length+1:=by
        rw[xT xV,am qG,List.length_append];rfl
       refine Qa ?_;cases rz:t.maps.find? (Jd ae a (1024+(j:Int))) with
       | some m =>
        rw[rz]at hB;unfold gu Mp.enc at hB;refine Qd @e2 ?_;refine Qj hB @e2 ?_;refine Yc ?_;refine Qa ?_;refine ⟨j+1,⟨by omega,fun h=>(h ik).elim,fun _=>?_⟩,⟨[],?_⟩,by omega⟩
        ·rw[cj,am ⟨qG,fo⟩,← vZ,sP,am ⟨qG,fo⟩,Ga];have:mP t ae a (1024 + (j:Int))=false:=by unfold mP;rw[rz];rfl
         rw[this,aa av]
        ·exact Qi (An @Q9 (An @mT @AH))
       | none =>
        rw[rz]at hB;unfold gu cQ Mp.enc at hB;dsimp only at hB;have hF:Jm t ae a (Jt t S)=some (1024+(j:Int)):=by
         rw[<- vZ,sP,am ⟨qG,fo⟩,Ga];have:mP t ae a (1024+(j:Int))=true:=by unfold mP;rw[rz];rfl
         rw[am this]
        have hR:=mQ.out.1 _ hF;have hq:Xr (t.add ⟨ae,S,aH,a,1024+(j:Int)⟩) ⟨ae,S,aH,a,1024+(j:Int)⟩ false 0=.aR [.agg (t.hd++[.isl (t.maps.length+1) (bE t.maps++[.int .i64 ae,.int .i64 S,.int .i64 aH,.int .i64 a,.int .i64 (1024+(j:Int))])]),.agg [.int .i64 ae,.int .i64 S,.int .i64 aH,.int .i64 a,.int .i64 (1024+(j:Int))],.bool false,.int .i64 0]:=by
         have:=CR t.maps ⟨ae,S,aH,a,1024+(j:Int)⟩;dsimp only at this;rw[this];simp[Xr,Tb.add,Tb.enc,Tb.hd,Mp.enc]
        have ea:(bE t.maps++[AV.int .i64 ae,.int .i64 S,.int .i64 aH,.int .i64 a,.int .i64 (1024+(j:Int))]).take ((t.maps.length+1)*5)=bE t.maps++[.int .i64 ae,.int .i64 S,.int .i64 aH,.int .i64 a,.int .i64 (1024+(j:Int))]:=take_of_length_le (by simp[Yi];omega);have cx:(bE t.maps).take (t.maps.length*5)=bE t.maps:=take_of_length_le af;have sQ:=fun x y=>F8 ht.wf x y;rw[hq]at hR;subst hR;refine Qd @e2 ?_;refine Qj hB @e2 ?_;refine Yc ?_;refine Qd (An @aX @fX) ?_;refine Yp (An @aX @fX) ?_;exact Ez (An @aE (An @cx (An @fX (An @sQ (An @map_append.{0,0} (An @ea (An @Wm.eq_1 (An @eL.eq_1 @z5.eq_1))))))))
      ·have xV:j % 8≠0:=by omega
       have mT:(Zo t S ((j+1+7)/8)).length=(Zo t S ((j+7)/8)).length:=by rw[xU xV]
       cases rz:t.maps.find? (Jd ae a (1024+(j:Int))) with
       | some m =>
        rw[rz]at hB;unfold gu Mp.enc at hB;refine Qd @e2 ?_;refine Qj hB @e2 ?_;refine Yc ?_;refine Qa ?_;refine ⟨j+1,⟨by omega,fun h=>(h ik).elim,fun _=>?_⟩,⟨[],?_⟩,by omega⟩
        ·rw[cj,am ⟨qG,fo⟩,← vZ,sP,am ⟨qG,fo⟩,Ga];have:mP t ae a (1024 + (j:Int))=false:=by unfold mP;rw[rz];rfl
         rw[this,aa av]
        ·exact Qi (An @Q9 (An @mT @AH))
       | none =>
        rw[rz]at hB;unfold gu cQ Mp.enc at hB;dsimp only at hB;have hF:Jm t ae a (Jt t S)=some (1024+(j:Int)):=by
         rw[<- vZ,sP,am ⟨qG,fo⟩,Ga];have:mP t ae a (1024+(j:Int))=true:=by unfold mP;rw[rz];rfl
         rw[am this]
        have hR:=mQ.out.1 _ hF;have hq:Xr (t.add ⟨ae,S,aH,a,1024+(j:Int)⟩) ⟨ae,S,aH,a,1024+(j:Int)⟩ false 0=.aR [.agg (t.hd++[.isl (t.maps.length+1) (bE t.maps++[.int .i64 ae,.int .i64 S,.int .i64 aH,.int .i64 a,.int .i64 (1024+(j:Int))])]),.agg [.int .i64 ae,.int .i64 S,.int .i64 aH,.int .i64 a,.int .i64 (1024+(j:Int))],.bool false,.int .i64 0]:=by
         have:=CR t.maps ⟨ae,S,aH,a,1024+(j:Int)⟩;dsimp only at this;rw[this];simp[Xr,Tb.add,Tb.enc,Tb.hd,Mp.enc]
        have ea:(bE t.maps++[AV.int .i64 ae,.int .i64 S,.int .i64 aH,.int .i64 a,.int .i64 (1024+(j:Int))]).take ((t.maps.length+1)*5)=bE t.maps++[.int .i64 ae,.int .i64 S,.int .i64 aH,.int .i64 a,.int .i64 (1024+(j:Int))]:=take_of_length_le (by simp[Yi];omega);have cx:(bE t.maps).take (t.maps.length*5)=bE t.maps:=take_of_length_le af;have sQ:=fun x y=>F8 ht.wf x y;rw[hq]at hR;subst hR;refine Qd @e2 ?_;refine Qj hB @e2 ?_;refine Yc ?_;refine Qd (An @aX @fX) ?_;refine Yp (An @aX @fX) ?_;exact Ez (An @aE (An @cx (An @fX (An @sQ (An @map_append.{0,0} (An @ea (An @Wm.eq_1 (An @eL.eq_1 @z5.eq_1))))))))
    ·have:j=48:=by omega
     subst this;have e48:(48+7)/8=6:=rfl;rw[e48,<- sH]at *
     have Gb:Jm t ae a (Jt t S)=none:=by
      rw[<- vZ];show (sO t S 6 0).find? _=none;unfold sO;rw[aa af];rfl
     have qB:=Lib.hid (mQ.out.2 Gb);have qC:=Lib.hid qB.out.1;have qD:=Lib.hid qB.out.2;clear mQ qB;refine Qa ?_;refine Qc ?_ ?_<;>intro h5
     ·omega
     refine Qa ?_;refine Qc ?_ ?_<;>intro h6
     ·have hR:=qC.out af;subst hR;exact Qi (An @e2 (An @Xr.eq_1 (An @Mp.enc.eq_1 (An @cQ.eq_1 (An @Wm.eq_1 (An @eL.eq_1 @z5.eq_1))))))
     have oH:=Lib.hid ((qD.out af).1 ik);clear qC qD;have e4:=Tb.cZ ht.wf;refine Qa ?_;refine Qc ?_ ?_<;>intro h7
     ·omega
     refine Qa ?_;have hT:=Qwl c.gl t.ai ht.wf.ai S a draw;have oI:=Fv t.ai ht.wf.ai S a draw;have lj:=aq.jc t.ai ht.wf.ai S a draw;generalize hx:t.ai.take S a draw=x at *
     obtain ⟨tp,tk,te⟩:=x;unfold lU at hT;dsimp only at hT lj;have vR:=aq.au lj;refine Qd (An @e2 @e4) ?_;refine Qj hT (An @e2 @vR) ?_;refine Qc ?_ ?_<;>intro h9
     ·have hR:=oH.out.trans (show Uf (t.tk ae S aH a draw)=Xr t cQ false te by unfold Tb.tk Uf;rw[hx];simp[h9]);subst hR;exact Qi (An @e2 (An @Xr.eq_1 (An @Mp.enc.eq_1 (An @cQ.eq_1 (An @Wm.eq_1 (An @eL.eq_1 @z5.eq_1))))))
     have Au:te=0:=by simpa using h9
     subst Au;cases oI with
     | no _ he=>exact (he rfl).elim
     | yes b kk AF j9 fo _ _ en _ _ _ =>
     have hR:=oH.out.trans (show Uf (t.tk ae S aH a draw)=Xr (Tb.add ⟨t.ai.put b kk (S+1),t.home.set S (a+1),t.maps⟩ ⟨ae,S,aH,a,1024+(kk:Int)*8⟩) ⟨ae,S,aH,a,1024+(kk:Int)*8⟩ true 0 by unfold Tb.tk Uf;rw[hx];rfl);subst hR;clear oH;have eg:=fun x=>QD ht.wf lj x;have fV:(⟨t.ai.put b kk (S+1),t.home,t.maps⟩:Tb).wf:=⟨lj,ht.wf.home⟩
     have sL:=fun x=>KZ fV je ((a:Int)+1) x;have dW:(⟨t.ai.put b kk (S+1),t.home.set S (a+1),t.maps⟩:Tb).wf:=⟨lj,by rw[length_set];exact ht.wf.home⟩
     have jg:=Tb.bW fV;have hl2:=Tb.bW dW;have mA:=fun x=>FI dW x;have yS:=fun x y=>F8 dW x y;dsimp only at sL;have hmul:(8:Int)*(kk:Int)=(kk:Int)*8:=Int.mul_comm _ _;have hq:Xr (Tb.add ⟨t.ai.put b kk (S+1),t.home.set S (a+1),t.maps⟩ ⟨ae,S,aH,a,1024+(kk:Int)*8⟩) ⟨ae,S,aH,a,1024+(kk:Int)*8⟩ true 0=.aR [.agg ((⟨t.ai.put b kk (S+1),t.home.set S (a+1),t.maps⟩:Tb).hd++[.isl (t.maps.length+1) (bE t.maps++[.int .i64 ae,.int .i64 S,.int .i64 aH,.int .i64 a,.int .i64 (1024+(kk:Int)*8)])]),.agg [.int .i64 ae,.int .i64 S,.int .i64 aH,.int .i64 a,.int .i64 (1024+(kk:Int)*8)],.bool true,.int .i64 0]:=by
      have:=CR t.maps ⟨ae,S,aH,a,1024+(kk:Int)*8⟩;dsimp only at this;rw[this];simp[Xr,Tb.add,Tb.enc,Tb.hd,Mp.enc]
     have ea:(bE t.maps++[AV.int .i64 ae,.int .i64 S,.int .i64 aH,.int .i64 a,.int .i64 (1024+(kk:Int)*8)]).take ((t.maps.length+1)*5)=bE t.maps++[.int .i64 ae,.int .i64 S,.int .i64 aH,.int .i64 a,.int .i64 (1024+(kk:Int)*8)]:=take_of_length_le (by simp[Yi];omega);have cx:(bE t.maps).take (t.maps.length*5)=bE t.maps:=take_of_length_le af;rw[hq];generalize (⟨t.ai.put b kk (S+1),t.home.set S (a+1),t.maps⟩:Tb)=T2 at *
     generalize (⟨t.ai.put b kk (S+1),t.home,t.maps⟩:Tb)=T1 at *
     refine Qd (An @fX (An @eg (An @sL (An @vR (An @jg (An @hl2 (An @mA @hmul))))))) ?_;refine Yp (An @hl2 @mA) ?_;exact Ez (An @aE (An @cx (An @hl2 (An @yS (An @map_append.{0,0} (An @ea (An @Wm.eq_1 (An @eL.eq_1 @z5.eq_1))))))))
def Xvs (ht:t.ok)(hh:Hid (∀ s,s<8->-9223372036854775808<=t.aT s/\t.aT s<=9223372036854775807))(ae s aH draw:Int):PS Tryz.prog gl 110 [.agg t.enc,.int .i64 ae,.int .i64 s,.int .i64 aH,.int .i64 draw] (Uf (t.cd ae s aH draw)):=by
 by_cases hb:Zr t=false\/Yu ae s aH=false
 ·have e:t.cd ae s aH draw=(t,cQ,false,2):=am hb;rw[e];exact Xsc gl t ht hh ae s aH draw hb
 have e:t.cd ae s aH draw=match t.maps.find? (Ya ae s aH) with
  | some m=>(t,m,false,0)
  | none =>
   if 12<=Ye t.maps s then (t,cQ,false,6) else
   match Jm t ae (t.aT s.toNat-1) (Jt t s.toNat) with
   | some port=>(t.add ⟨ae,s,aH,t.aT s.toNat-1,port⟩,⟨ae,s,aH,t.aT s.toNat-1,port⟩,false,0)
   | none =>
    if 2<=(Jt t s.toNat).length then (t,cQ,false,6) else
    if 1<=t.aT s.toNat then t.tk ae s aH (t.aT s.toNat-1) draw else
    if (t.ai.pick draw).2≠0 then (t,cQ,false,(t.ai.pick draw).2) else t.tk ae s aH (t.ai.pick draw).1 draw:=aa hb
 have hg:Zr t=true:=by
  cases h:Zr t
  ·exact (hb (Or.inl h)).elim
  ·rfl
 have hk:Yu ae s aH=true:=by
  cases h:Yu ae s aH
  ·exact (hb (Or.inr h)).elim
  ·rfl
 obtain ⟨_,⟨fT,lY⟩,_⟩:=Ka hk;obtain ⟨S,rfl⟩:=Int.eq_ofNat_of_zero_le fT;rw[Int.toNat_natCast]at e;refine Xuv gl t ht hh ((vQ t).1 hg) ae S aH draw hk _ (by rw[QA];trivial) (Lib.hid fun m hm=>?_) (Lib.hid fun hm fu=>?_) (Lib.hid fun hm fu=>⟨fun port hp=>?_,fun hp=>⟨fun h2=>?_,fun h2=>⟨fun h1=>?_,fun h1=>⟨fun hz=>?_,fun hz=>?_⟩⟩⟩⟩)
 ·rw[e,hm];rfl
 ·rw[e,hm];dsimp only;rw[am fu];rfl
 ·rw[e,hm];dsimp only;rw[aa fu,hp];rfl
 ·rw[e,hm];dsimp only;rw[aa fu,hp];dsimp only;rw[am h2];rfl
 ·rw[e,hm];dsimp only;rw[aa fu,hp];dsimp only;rw[aa h2,am h1]
 ·rw[e,hm];dsimp only;rw[aa fu,hp];dsimp only;rw[aa h2,aa h1,am hz];rfl
 ·rw[e,hm];dsimp only;rw[aa fu,hp];dsimp only;rw[aa h2,aa h1,aa (by simp[hz])]
section
variable {P:Program}{c:Cx}{s:St}
def R.Gc {g:Nat->GM}{s:FS}{a:Act}{w:World}(hR:R c g s a w){b:Nat}{cs:List AV}{x y:AV}(hb:s.H b=.cells (cs++[x]))(OL:∀ (W:Nat->Prop) (v:Value),VR g W w x v->VR g W w y v):R c g (s.aI b (.cells (cs++[y]))) a w:=by
 have dk:=hR.h b;rw[hb]at dk;have aO:(s.H b).live:=by rw[hb];trivial
 generalize bZ:g b=m at dk;generalize hL:cs++[x]=L at dk;cases dk with
 | ph=>simp at hL
 | cells h1 h2 h3 h4 h5 =>
  subst hL;rename_i k cur e fz;refine hR.setBlock bZ aO trivial (Fr.refl w _) (.cells h1 (by simpa using h2) (fun j hj=>h3 j (by simpa using hj)) (fun j hj=>?_) h5);have h6:=h4 j (by simpa using hj);by_cases eJ:j<cs.length
  ·rw[List.getD_eq_getElem?_getD,List.getElem?_append_left eJ]at h6 ⊢;exact h6
  ·have hje:j=cs.length:=by simp at hj;omega
   subst hje;rw[List.getD_eq_getElem?_getD,List.getElem?_append_right (Nat.le_refl _),Nat.sub_self]at h6 ⊢;exact OL _ _ h6
def Xag {b:TC}{Q:EX->St->Prop}(i es:Nat)(cs:List AV)(hb:s.fs.H i=.cells (cs++[.nils]))(hf:s.fs.H s.n=.free)
  (h:rf P c b Q ((⟨s.t,(s.n,.cells [])::s.h,s.n+1⟩:St).aI i (.cells (cs++[.sl es s.n 0 0 0])))):rf P c b Q s:=by
 intro code he g a w hR;have e:(⟨s.t,(s.n,.cells [])::s.h,s.n+1⟩:St).fs=s.fs.aI s.n (.cells []):=by
  refine pj (fun j=>rfl) (fun j=>?_);show Qb ((s.n,_)::s.h) (s.n+1) j=(s.fs.aI s.n _).H j;rw[Qf];unfold FS.aI;by_cases hj:j=s.n
  ·subst hj;simp
  ·have eJ:¬ s.n=j:=fun q=>hj q.symm;simp only[hj,eJ,if_false];exact Wa _ _ _ hj
 have hi:i≠s.n:=by rintro rfl;rw[hb]at hf;cases hf
 have h1:=hR.kT hf;refine h code he (Zh g s.n .ph) a w ?_;rw[St.cg,e];refine h1.Gc (x:=.nils) ?_ fun W v hv=>?_
 ·show (if s.n=i then _ else s.fs.H i)=_;rw[aa (fun q=>hi q.symm)];exact hb
 ·obtain ⟨ad,rfl⟩:=DK hv;exact .kH Cd rfl
end
def nL (l:List Mp)(m:Mp)(k:Nat):List Mp:=(l.take k).filter fun o=>!decide (o=m)
def mU (l:List Mp)(m:Mp)(k:Nat):Bool:=(l.take k).any fun o=>decide (o=m)
def Qtu (k:Nat)(h:k<l.length):l.take (k+1)=l.take k++[l[k]]:=by rw[List.take_succ,getElem?_eq_getElem h];rfl
def Xvk {l:List Mp}{m:Mp}{k:Nat}(h:k<l.length)(he:l[k]=m):nL l m (k+1)=nL l m k/\mU l m (k+1)=true:=by
 unfold nL mU;rw[Qtu l k h,filter_append,List.any_append];simp[filter_cons,he]
def Yc2 {l:List Mp}{m:Mp}{k:Nat}(h:k<l.length)(he:l[k]≠m):nL l m (k+1)=nL l m k++[l[k]]/\mU l m (k+1)=mU l m k:=by
 unfold nL mU;rw[Qtu l k h,filter_append,List.any_append];simp[filter_cons,he]
def Xeg (k:Nat):(nL l m k).length<=k:=Nat.le_trans (List.length_filter_le _ _) (by rw[length_take];omega)
def Xjz {t:Tb}(h:t.wf){A K:Nat}(hA:A<3)(hK:K<6)(v:Int)(x:AV):(t.hd++[x]).set (A*6+K) (.int .i64 v)=(⟨t.ai.put A K v,t.home,t.maps⟩:Tb).hd++[x]:=by
 have hl:=h.ai.own;unfold Tb.hd aq.enc aq.put;rw[append_assoc,append_assoc,List.set_append_left _ _ (by rw[Xp,hl];omega),append_assoc,append_assoc];simp[Ql,List.map_set]
def Yg4 {t:Tb}(h:t.wf)(x:AV){a:Nat}(ha:a<3):((t.hd++[x]).drop (a*6)).take 6=Ql (t.ai.row a):=by
 have e:=Fw t.ai h.ai a ha;unfold Tb.hd;rw[append_assoc,List.drop_append_of_le_length (by rw[aq.au h.ai];omega),List.take_append_of_le_length (by rw[List.length_drop,aq.au h.ai];omega),e]
set_option maxRecDepth 20000 in
def Xhg (ht:t.ok)(hh:Hid (∀ s,s<8->-9223372036854775808<=t.aT s/\t.aT s<=9223372036854775807))(m:Mp)(h:Zr t=false):PS Tryz.prog gl 118 [.agg t.enc,.agg m.enc] (Ud (t,false,2)):=by
 refine JO.ps (ap rfl) (by simp[Aw]) fun c hN hg=>?_
 conv in aG _ _=>cbv
 have e2:=Tb.au ht.wf;have hG:=Ll c.gl t ht hh;rw[h]at hG;unfold Mp.enc;refine Qd @e2 ?_;refine Qj hG @e2 ?_;refine Yc ?_;exact Qi (An @e2 @Ud.eq_1)
set_option maxRecDepth 20000 in
def Qsu (gl:Nat->AV)(t:Tb)(ht:t.ok)(hh:Hid (∀ s,s<8->-9223372036854775808<=t.aT s/\t.aT s<=9223372036854775807))(ep:dy t)(m:Mp)(eG:-9223372036854775808<=m.port/\m.port<=9223372036854775807)(L:List Mp)(hL:nL t.maps m t.maps.length=L)(R:AV)(fU:Qe 0 R)
  (H0:Hid (mU t.maps m t.maps.length=false->R=Ud (t,false,7)))
  (H1:Hid (mU t.maps m t.maps.length=true->0<L.countP (Jq m)->R=Ud (⟨t.ai,t.home,L⟩,false,0)))
  (H2:Hid (mU t.maps m t.maps.length=true->¬ 0<L.countP (Jq m)->R=Ud ((⟨t.ai,t.home,L⟩:Tb).bV m,true,0))) :
  PS Tryz.prog gl 118 [.agg t.enc,.agg m.enc] R:=by
 refine JO.ps (ap rfl) fU fun c hN hg=>?_
 conv in aG _ _=>cbv
 have e2:=Tb.au ht.wf;have e3:=Tb.bS ht.wf;have hG:=Ll c.gl t ht hh;rw[Fz ep]at hG;have ur:=uz ep;have aE:=Yi t.maps;have hs:=Tb.jf ht.wf;have fX:=Tb.bW ht.wf;have aX:=fun x=>FI ht.wf x;have sQ:=fun x y=>F8 ht.wf x y;have jU:=C5 c.gl m.port eG;have uB:∀ o:Mp,Jq m o=(decide (o.a=m.a)&&decide (Xd o.port=Xd m.port)):=fun _=>rfl;have hbl:=vV m.port;unfold lV at jU;obtain ⟨mp,ms,mi,ma,mt⟩:=m;dsimp only at *
 unfold Mp.enc;generalize (if Yq mt=true then (mt-1024)%8 else 0)=mj at *
 generalize C8:Yq mt=mq at *
 generalize BW:Xd mt=mk at *
 refine Qd @e2 ?_;refine Qj hG @e2 ?_;refine Yc ?_;refine Qd (An @hs (An @fX @e2)) ?_;refine Qj jU (An @fX (An @e2 @e3)) ?_;refine Xag 3 5 t.hd ?_ ?_ ?_
 ·exact rfl
 ·exact rfl
 refine Qv (fun k:Nat=>k≤t.maps.length)
  (fun k=>⟨[(2,.ptr 0 0),(3,.ptr 1 0),(4,.ptr 2 0),(7,.ptr 3 0),(8,.int .i64 mk),(11,.int .i64 ((nL t.maps ⟨mp,ms,mi,ma,mt⟩ k).countP (Jq ⟨mp,ms,mi,ma,mt⟩):Nat)),(12,.bool (mU t.maps ⟨mp,ms,mi,ma,mt⟩ k)),(35,.isl t.maps.length (bE t.maps)),(36,.int .i64 t.maps.length),(37,.int .i64 k)],
   [(0,.cells t.enc),(1,.cells [.int .i64 mp,.int .i64 ms,.int .i64 mi,.int .i64 ma,.int .i64 mt]),(2,.cells Wm),(3,.cells (t.hd++[.sl 5 4 0 (nL t.maps ⟨mp,ms,mi,ma,mt⟩ k).length (nL t.maps ⟨mp,ms,mi,ma,mt⟩ k).length])),(4,.cells (bE (nL t.maps ⟨mp,ms,mi,ma,mt⟩ k)))],5⟩) (fun k=>t.maps.length-k) JO.mixed hN
  ⟨0,by omega,[],by (have aQ:=@St.aI.eq_1;have bu:=@Wm.eq_1;have bO:=@eL.eq_1;refine XG ?_;clear aQ bu bO;((try with_reducible and_intros);all_goals try first|refine zm ?_|exact CL))<;>exact rfl⟩ fun k hk=>?_
 refine Qa ?_;refine Qc ?_ ?_<;>intro h2
 ·have bg:k < t.maps.length:=by omega
  have aK:=qw t.maps k bg;have Ls:=(ep.maps k bg).1.2.1;have Ls:-9223372036854775808<=t.maps[k].port/\t.maps[k].port<=9223372036854775807:=by
   unfold Yq at Ls;simp only[Bool.and_eq_true,decide_eq_true_eq]at Ls;omega
  have Ra:=C5 c.gl t.maps[k].port Ls;have heq:=@xL c false t.maps[k] ⟨mp,ms,mi,ma,mt⟩;have hky:=@Xvk t.maps ⟨mp,ms,mi,ma,mt⟩ k bg;have Rb:=@Yc2 t.maps ⟨mp,ms,mi,ma,mt⟩ k bg;have eb:=uB t.maps[k];have hle:=Xeg t.maps ⟨mp,ms,mi,ma,mt⟩ k;generalize hK:nL t.maps ⟨mp,ms,mi,ma,mt⟩ k=K at *
  generalize mU t.maps ⟨mp,ms,mi,ma,mt⟩ k=F at *
  have uUa:=List.countP_le_length (p:=Jq ⟨mp,ms,mi,ma,mt⟩) (l:=K);generalize t.maps[k]=o at *
  obtain ⟨op,os,oi,oa,ot⟩:=o;simp only[Mp.enc]at aK heq;dsimp only at Ra eb;unfold lV at Ra;generalize (if Yq ot=true then (ot-1024)%8 else 0)=oj at *
  generalize Xd ot=ob at *
  generalize Yq ot=oq at *
  by_cases Lt:(⟨op,os,oi,oa,ot⟩:Mp)=⟨mp,ms,mi,ma,mt⟩
  ·obtain ⟨po,hk2⟩:=hky Lt;rw[decide_eq_true Lt]at heq;refine Qd (An @aE @aK) ?_;refine Qj heq (An @aE @aK) ?_;refine Yc ?_;refine Qa ?_;refine ⟨k+1,by omega,⟨[],?_⟩,by omega⟩;exact Qi (An @po @hk2)
  ·obtain ⟨po,hk2⟩:=Rb Lt;rw[decide_eq_false Lt]at heq;have hlK:=Yi K;have Gd:(bE K).take (K.length * 5)=bE K:=take_of_length_le af;have hsn:=CR K ⟨op,os,oi,oa,ot⟩;have qx:(K++[(⟨op,os,oi,oa,ot⟩:Mp)]).length=K.length + 1:=by simp
   have kr:(K++[(⟨op,os,oi,oa,ot⟩:Mp)]).countP (Jq ⟨mp,ms,mi,ma,mt⟩)=K.countP (Jq ⟨mp,ms,mi,ma,mt⟩)+if Jq ⟨mp,ms,mi,ma,mt⟩ ⟨op,os,oi,oa,ot⟩=true then 1 else 0:=by
    rw[List.countP_append,List.countP_cons];simp
   rw[eb]at kr;dsimp only at hsn;refine Qd (An @aE @aK) ?_;refine Qj heq (An @aE @aK) ?_;refine Yc ?_;refine Qd (An @aX @fX) ?_;refine Yp (An @aX @fX) ?_;refine Yp (An @hlK (An @Gd (An @fX @sQ))) ?_;refine Qj Ra @fX ?_;refine Qc ?_ ?_<;>intro h4
   ·have kr:(K++[(⟨op,os,oi,oa,ot⟩:Mp)]).countP (Jq ⟨mp,ms,mi,ma,mt⟩)=K.countP (Jq ⟨mp,ms,mi,ma,mt⟩) + 1:=by rw[kr];simp[h4]
    refine Qa ?_;refine ⟨k+1,by omega,⟨[(4,7)],?_⟩,by omega⟩;exact Qi (An @po (An @hk2 (An @kr (An @hsn @qx))))
   ·have kr:(K++[(⟨op,os,oi,oa,ot⟩:Mp)]).countP (Jq ⟨mp,ms,mi,ma,mt⟩)=K.countP (Jq ⟨mp,ms,mi,ma,mt⟩):=by rw[kr];simp;omega
    refine Qa ?_;refine ⟨k+1,by omega,⟨[(4,7)],?_⟩,by omega⟩;exact Qi (An @po (An @hk2 (An @kr (An @hsn @qx))))
 ·have:k=t.maps.length:=by omega
  subst this;rw[hL];have hlK:=Yi L;have hle:=Xeg t.maps ⟨mp,ms,mi,ma,mt⟩ t.maps.length;rw[hL]at hle;have Gd:(bE L).take (L.length*5)=bE L:=take_of_length_le af;by_cases hF:mU t.maps ⟨mp,ms,mi,ma,mt⟩ t.maps.length=false
  ·have hR:=H0.out hF;subst hR;clear H0 H1 H2;rw[hF];refine Qa ?_;refine Yc ?_;exact Qi (An @e2 (An @Ud.eq_1 (An @Wm.eq_1 @eL.eq_1)))
  have hF:mU t.maps ⟨mp,ms,mi,ma,mt⟩ t.maps.length=true:=by simpa using hF
  have HH1:=Lib.hid (H1.out hF);have xK:=Lib.hid (H2.out hF);rw[hF];clear H0 H1 H2;generalize L.countP (Jq ⟨mp,ms,mi,ma,mt⟩)=cn at *
  refine Qa ?_;refine Yc ?_;refine Qa ?_;refine Qc ?_ ?_<;>intro h4
  ·have hR:=HH1.out af;subst hR;rw[show Ud (⟨t.ai,t.home,L⟩,false,0)=.aR [.agg (t.hd++[.isl L.length (bE L)]),.bool false,.int .i64 0] from rfl];exact Qi (An @fX (An @Wm.eq_1 (An @eL.eq_1 (An @map_append.{0,0} @Gd))))
  have hR:=xK.out af;clear HH1 xK;subst hR;obtain ⟨i,mR,xt⟩:∃ i,∃ h:i<t.maps.length,t.maps[i]=⟨mp,ms,mi,ma,mt⟩:=by
   unfold mU at hF;rw[take_length,List.any_eq_true]at hF;obtain ⟨o,ho,he⟩:=hF;obtain ⟨i,hi,rfl⟩:=List.getElem_of_mem ho;exact ⟨i,hi,ap he⟩
  have aS:=ep.maps i mR;rw[xt]at aS;clear hF xt;obtain ⟨⟨bg,sK,xJ,jG⟩,oF,gT⟩:=aS;obtain ⟨_,⟨fT,lY⟩,_⟩:=Ka bg;dsimp only at bg sK xJ jG oF gT fT lY;rw[BW]at gT;have C0:(⟨t.ai,t.home,L⟩:Tb).bV ⟨mp,ms,mi,ma,mt⟩=if Jt ⟨(t.ai.bV ms ma mk).1,t.home,L⟩ ms.toNat=[] then ⟨(t.ai.bV ms ma mk).1,t.home.set ms.toNat 0,L⟩ else ⟨(t.ai.bV ms ma mk).1,t.home,L⟩:=by unfold Tb.bV;rw[BW]
  rw[C0];clear C0 hL bg uB;obtain ⟨A,rfl⟩:=Int.eq_ofNat_of_zero_le xJ;obtain ⟨K,rfl⟩:=Int.eq_ofNat_of_zero_le hbl.1;obtain ⟨S,rfl⟩:=Int.eq_ofNat_of_zero_le fT;have uu:A<3:=by omega
  have KE:K<6:=by omega
  have je:S<8:=by omega
  rw[Int.toNat_natCast]at oF;rw[Int.toNat_natCast,Int.toNat_natCast]at gT;rw[Int.toNat_natCast,QT (Kb.1 ep).ai uu KE fT gT];dsimp only;have ig:∀ x,(t.hd++[x]).set (A*6+K) (.int .i64 0)=(⟨t.ai.put A K 0,t.home,L⟩:Tb).hd++[x]:=fun x=>Xjz ht.wf uu KE 0 x;have fV:(⟨t.ai.put A K 0,t.home,L⟩:Tb).wf:=⟨aq.cL _ ht.wf.ai _ _ _,ht.wf.home⟩
  have dW:(⟨t.ai.put A K 0,t.home.set S 0,L⟩:Tb).wf:=⟨aq.cL _ ht.wf.ai _ _ _,by rw[length_set];exact ht.wf.home⟩
  have sG:=fun x=>Yg4 fV x uu;have fQ:=Zn _ fV.ai A uu;have ra:=fun k h=>xH (t.ai.put A K 0) A k h;have rj:Jt (⟨t.ai.put A K 0,t.home,L⟩:Tb) S=Zo (⟨t.ai.put A K 0,t.home,L⟩:Tb) S 6:=am (show 1<=t.aT S by omega);rw[rj];have gR:=PR (⟨t.ai.put A K 0,t.home,L⟩:Tb) S;have Lu:(Tb.aT ⟨t.ai.put A K 0,t.home,L⟩ S-1).toNat=A:=by show (t.aT S-1).toNat=A;omega
  rw[Lu]at gR;have hW0:Zo (⟨t.ai.put A K 0,t.home,L⟩:Tb) S 0=[]:=rfl;generalize Zo (⟨t.ai.put A K 0,t.home,L⟩:Tb) S=W at *
  have Rc:decide (W 0≠[])=false:=by rw[hW0];simp
  have sL:=fun x=>KZ fV je 0 x;have jg:=Tb.bW fV;have hl2:=Tb.bW dW;dsimp only at sL gR sG fQ;generalize t.ai.put A K 0=P' at *
  refine Qd (An @fX @ig) ?_;refine Qd (An @jg @sG) ?_
  refine Qv (fun k:Nat=>k≤6)
   (fun k=>⟨[(2,.ptr 0 0),(3,.ptr 1 0),(4,.ptr 2 0),(7,.ptr 3 0),(18,.bool (decide (W k≠[]))),(88,.agg (Ql (P'.row A))),(89,.int .i64 k)],
    [(0,.cells t.enc),(1,.cells [.int .i64 mp,.int .i64 S,.int .i64 mi,.int .i64 A,.int .i64 mt]),(2,.cells Wm),(3,.cells ((⟨P',t.home,L⟩:Tb).hd++[.sl 5 4 0 L.length L.length])),(4,.cells (bE L))],5⟩) (fun k=>6-k) JO.mixed hN
   ⟨0,by omega,[],by exact Qi @Rc⟩ fun k hk=>?_
  refine Qa ?_;refine Qc ?_ ?_<;>intro h5
  ·have fo:k < 6:=by omega
   have hv:=ra k fo;have nJ:=gR k;generalize P'.ow A k=x at *
   by_cases Cf:W k=[]
   ·have e1:decide (W k≠[])=false:=by simp[Cf]
    rw[e1];by_cases hx:x=(S:Int)+1
    ·have dP:(decide (W (k + 1)≠[]))=true:=by rw[nJ,am hx];simp
     refine Qd (An @fQ @hv) ?_;refine ⟨k+1,by omega,⟨[],?_⟩,by omega⟩;refine Qd @dP ?_<;>simp[hx]
    ·have dP:(decide (W (k + 1)≠[]))=false:=by rw[nJ,aa hx,Cf];simp
     refine Qd (An @fQ @hv) ?_;refine ⟨k+1,by omega,⟨[],?_⟩,by omega⟩;refine Qd @dP ?_<;>simp[hx]
   ·have e1:(decide (W k≠[]))=true:=by simp[Cf]
    have dP:(decide (W (k+1)≠[]))=true:=by rw[nJ];simp[Cf]
    rw[e1];refine Qd (An @fQ @hv) ?_;refine ⟨k+1,by omega,⟨[],?_⟩,by omega⟩;exact Qi @dP
  ·have:k=6:=by omega
   subst this;by_cases hW:W 6=[]
   ·have e1:decide (W 6≠[])=false:=by simp[hW]
    rw[am hW,e1];refine Qa ?_;refine Yc ?_;rw[show Ud ((⟨P',t.home.set S 0,L⟩:Tb),true,0)=.aR [.agg ((⟨P',t.home.set S 0,L⟩:Tb).hd++[.isl L.length (bE L)]),.bool true,.int .i64 0] from rfl];exact Qi (An @jg (An @sL (An @hl2 (An @Wm.eq_1 (An @eL.eq_1 (An @map_append.{0,0} @Gd))))))
   ·have e1:(decide (W 6≠[]))=true:=by simp[hW]
    rw[aa hW,e1];refine Qa ?_;refine Yc ?_;rw[show Ud ((⟨P',t.home,L⟩:Tb),true,0)=.aR [.agg ((⟨P',t.home,L⟩:Tb).hd++[.isl L.length (bE L)]),.bool true,.int .i64 0] from rfl];exact Qi (An @jg (An @Wm.eq_1 (An @eL.eq_1 (An @map_append.{0,0} @Gd))))
end Go.Proofs.YtogckmommodmhaaGreatDoor
