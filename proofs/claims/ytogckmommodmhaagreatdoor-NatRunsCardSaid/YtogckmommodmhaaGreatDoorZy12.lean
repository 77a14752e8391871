import Derived.Test.YtogckmommodmhaaGreatDoorZy7
import Derived.Test.YtogckmommodmhaaGreatDoorZy11
namespace Go.Proofs.YtogckmommodmhaaGreatDoor
open List (getElem?_eq_getElem take_of_length_le mem_or_eq_of_mem_set mem_append mem_singleton mem_map getElem_mem length_take take_add_one filter_append map_append length_map countP_map countP_congr mem_reverse take_length filter_cons length_set append_assoc)
open Go.RowKit
set_option linter.all false
set_option maxHeartbeats 16000000
set_option maxRecDepth 100000
variable {wide:Bool}{ks:List SK}{k:Nat}{dn:Bool}(gl:Nat->AV)(n:Nat)(l:List Mp)(t:Tb)(p:aq)(m:Mp)(kvs:List (AV×AV))
def QN (hp:p.wf):PS Tryz.prog gl 170 [.agg p.enc] (.bool p.bO):=by
 refine OK.ps (ap rfl) (by simp[Qe]) fun c hN hg=>?_
 conv in aG _ _=>cbv
 have e2:=aq.au hp;have e3:=Py p hp;refine Qd (An @e2 @e3) ?_
 refine Qu (fun a:Nat=>a≤3∧(p.own.take (a * 6)).all Ua=true) (fun a=>⟨[(8,.agg (Ql p.own)),(9,.int .i64 a)],[],0⟩) (fun a=>3 - a) OK.mixed hN
  ⟨0,⟨by omega,rfl⟩,[],by exact Qp⟩ fun a hI=>?_
 obtain ⟨ha,bl⟩:=id hI;clear hI;refine Qa ?_;refine Qb ?_ ?_<;>intro h1
 ·have jD:a < 3:=by omega
  have hr:=Pz p a;have fH:=Zk p hp a jD;refine Qd (An @hr @hp.own) ?_
  refine Qu (fun k:Nat=>k≤6∧(p.own.take (a * 6 + k)).all Ua=true) (fun k=>⟨[(8,.agg (Ql p.own)),(9,.int .i64 a),(12,.agg (Ql (p.row a))),(13,.int .i64 k)],[],0⟩) (fun k=>6 - k) OK.mixed hN
   ⟨0,⟨by omega,bl⟩,[],by exact Qp⟩ fun k hJ=>?_
  obtain ⟨hk,fQ⟩:=id hJ;clear hJ;refine Qa ?_;refine Qb ?_ ?_<;>intro h2
  ·have fg:k < 6:=by omega
   have hv:=xC p a k fg;have ho:p.own[a*6+k]?=some (p.ow a k):=by
    unfold aq.ow;rw[List.getD_eq_getElem?_getD,getElem?_eq_getElem (by rw[hp.own];omega)];rfl
   generalize p.ow a k=x at *
   refine Qd (An @fH @hv) ?_;refine Qb ?_ ?_<;>intro h3
   ·have hb:Ua x=false:=h3.elim (ZL x) (ZM x);exact Qi (ZJ p _ x ho hb)
   ·refine Qa ?_;refine ⟨k+1,⟨by omega,ZK p _ x ho fQ (ZN x h3.1 h3.2)⟩,⟨[],?_⟩,by omega⟩;exact Qp
  ·have:k=6:=by omega
   subst this;refine Qa ?_;refine ⟨a+1,⟨by omega,by rw[show (a+1)*6=a*6+6 by omega];exact fQ⟩,⟨[],?_⟩,by omega⟩;exact Qp
 ·have:a=3:=by omega
  subst this;exact Qi (ZI p bl hp)
def Qpq (k n:Int)(hn:0<n)(kU:n<=4611686018427387904):PS Tryz.prog gl 172 [.int .i64 k,.int .i64 n] (.int .i64 (k%n)):=by
 refine Xh4.ps (ap rfl) (by simp[Qe]) fun c hN hg=>?_
 conv in aG _ _=>cbv
 have hb:=ZG k n hn;have he:(k.tmod n+n).tmod n=k%n:=by
  rw[Int.tmod_eq_emod_of_nonneg af,Int.add_emod_right];have h1:=Int.mul_tdiv_add_tmod k n
  conv=>rhs;rw[<- h1,Int.add_comm,Int.add_mul_emod_self_left]
 exact Qi @he
def Qv5 (hp:p.wf)(a:Nat)(ha:a<3):PS Tryz.prog gl 171 [.agg p.enc,.int .i64 a] (.isl (Zy (p.row a) 6).length (Ql (eb (Zy (p.row a) 6)))):=by
 refine XT.ps (ap rfl) (by simp[Qe,D6]) fun c hN hg=>?_
 conv in aG _ _=>cbv
 have e2:=aq.au hp;have sB:=Fg p hp a ha;have fH:=Zk p hp a ha;refine Qd @e2 ?_;refine Qb ?_ ?_<;>intro h1
 ·omega
 refine Qd (An @e2 @sB) ?_;refine vn 5 1 rfl rfl ?_
 refine Qu (fun k:Nat=>k≤6) (fun k=>⟨[(5,.sl 1 1 0 (Zy (p.row a) k).length (Zy (p.row a) k).length),(17,.agg (Ql (p.row a))),(18,.int .i64 k)],[(0,.cells p.enc),(1,.cells (Ql (eb (Zy (p.row a) k))))],2⟩) (fun k=>6 - k) XT.mixed hN
  ⟨0,by omega,[],by (have aQ:=@St.named.eq_1;refine XG ?_;clear aQ;((try with_reducible and_intros);all_goals try first|refine zm ?_|exact CL))<;>exact rfl⟩ fun k hk=>?_
 have gA:=uc (Zy (p.row a) k);have jO:(Zy (p.row a) k).length<=k:=by have:=List.length_filter_le (fun j=>(p.row a).getD j 1==0) (List.range k);simpa [Zy] using this
 refine Qa ?_;refine Qb ?_ ?_<;>intro g2
 ·have fg:k < 6:=by omega
  have hv:=xC p a k fg;have hs:=Pt (p.row a) k;have j7:(p.row a).getD k 1=(p.row a).getD k 0:=by simp[List.getD,show k<(p.row a).length by omega]
  rw[j7,hv]at hs;generalize p.ow a k=x at *
  refine Qd (An @fH @hv) ?_;refine Qb ?_ ?_<;>intro g3
  ·have nz:Zy (p.row a) (k + 1)=Zy (p.row a) k++[k]:=by rw[hs,am g3]
   have hsn:=KH (Zy (p.row a) k) k;have qq:(Zy (p.row a) k++[k]).length=(Zy (p.row a) k).length+1:=by simp
   refine Qa ?_;refine Jx ?_;refine Ym @gA ?_;refine ⟨k+1,by omega,⟨[(1,3)],?_⟩,by omega⟩;exact Qi (An @nz (An @hsn @qq))
  ·have nz:Zy (p.row a) (k + 1)=Zy (p.row a) k:=by rw[hs,aa g3,List.append_nil]
   refine Qa ?_;refine ⟨k+1,by omega,⟨[],?_⟩,by omega⟩;exact Qi @nz
 ·have:k=6:=by omega
  subst this;exact Qi @gA
def Qsq (hp:p.wf)(a:Nat)(ha:a<3):(Zy (p.row a) 6).length=p.left a:=by
 rw[Fe _ 6 (by rw[Zk p hp a ha];omega),z7 p a ha,take_of_length_le (by rw[Zk p hp a ha];omega)]
def Xu0 (hp:p.wf)(draw:Int):PS Tryz.prog gl 158 [.agg p.enc,.int .i64 draw] (.aR [.int .i64 (p.pick draw).1,.int .i64 (p.pick draw).2]):=by
 refine XU.ps (ap rfl) (by simp[Qe,ah]) fun c hN hg=>?_
 conv in aG _ _=>cbv
 have e2:=aq.au hp;have hG:=QN c.gl p hp;by_cases aV:p.bO=true;rotate_left
 ·have hr:p.pick draw=(0,2):=aa aV;have aV:p.bO=false:=by simpa using aV
  rw[aV]at hG;rw[hr];refine Qd @e2 ?_;refine Qk hG @e2 ?_;refine Yc ?_;exact Qp
 have hr:p.pick draw=(if (p.opens 3).length=0 then ((0:Int),(10:Int)) else ((((p.opens 3).getD (draw%((p.opens 3).length:Int)).toNat 0:Nat):Int),(0:Int))):=am aV;rw[aV]at hG;rw[hr];clear hr;refine Qd @e2 ?_;refine Qk hG @e2 ?_;refine Yc ?_;refine Qa ?_;refine vn 6 1 rfl rfl ?_
 refine Qu (fun k:Nat=>k≤3) (fun k=>⟨[(1,.int .i64 draw),(2,.ptr 0 0),(6,.sl 1 1 0 (p.opens k).length (p.opens k).length),(11,.int .i64 k)],[(0,.cells p.enc),(1,.cells (Ql (eb (p.opens k))))],2⟩) (fun k=>3 - k) XU.mixed hN
  ⟨0,by omega,[],by (have aQ:=@St.named.eq_1;refine XG ?_;clear aQ;((try with_reducible and_intros);all_goals try first|refine zm ?_|exact CL))<;>exact rfl⟩ fun k hk=>?_
 have qU:=ZP p k;refine Qa ?_;refine Qb ?_ ?_<;>intro h2
 ·have Aa:k < 3:=by omega
  have hd:=aq.il hp Aa;have hL:=Qv5 c.gl p hp k Aa;have ia:=ZO p k;unfold aq.open_ at ia;have jO:=Qsq p hp k Aa;rw[<- jO]at ia;have gA:=uc (p.opens k);generalize Zy (p.row k) 6=W at *
  have Mn:=uc W;cases vD:p.kW k with
  | true =>
   rw[vD]at hd ia;have ia:p.opens (k+1)=p.opens k:=by simpa using ia
   refine Qd @e2 ?_;refine Qk hL (An @e2 @hd) ?_;refine Yc ?_;refine Qa ?_;refine ⟨k+1,by omega,⟨[],?_⟩,by omega⟩;exact Qi @ia
  | false =>
   rw[vD]at hd ia;refine Qd @e2 ?_;refine Qk hL (An @e2 @hd) ?_;refine Qb ?_ ?_<;>intro h3
   ·have ia:p.opens (k + 1)=p.opens k++[k]:=by rw[ia,decide_eq_true (by omega:0 < W.length)];rfl
    have hsn:=KH (p.opens k) k;have qq:(p.opens k++[k]).length=(p.opens k).length+1:=by simp
    refine Qa ?_;refine Jx ?_;refine Ym @gA ?_;refine ⟨k+1,by omega,⟨[(1,3)],?_⟩,by omega⟩;exact Qi (An @ia (An @hsn @qq))
   ·have ia:p.opens (k + 1)=p.opens k:=by rw[ia,decide_eq_false (by omega:¬ 0 < W.length)];simp
    refine Qa ?_;refine ⟨k+1,by omega,⟨[],?_⟩,by omega⟩;exact Qi @ia
 ·have:k=3:=by omega
  subst this;have gA:=uc (p.opens 3);by_cases hz:(p.opens 3).length=0
  ·rw[am hz];refine Qa ?_;refine Qb ?_ ?_<;>intro h3
   ·exact Qp
   ·omega
  ·rw[aa hz];have hC:=Qpq c.gl draw (p.opens 3).length af af;have m0:=Int.emod_nonneg draw (show ((p.opens 3).length:Int)≠0 by omega);have m1:=Int.emod_lt_of_pos draw (show (0:Int) < (p.opens 3).length by omega);have ep:=KG (p.opens 3) (draw % ((p.opens 3).length:Int)).toNat af;generalize draw % ((p.opens 3).length:Int)=d at *
   refine Qa ?_;refine Qb ?_ ?_<;>intro h3
   ·omega
   refine Qa ?_;exact vi hC (An @gA @ep)
def Xao (hp:p.wf)(s a draw:Int):PS Tryz.prog gl 159 [.agg p.enc,.int .i64 s,.int .i64 a,.int .i64 draw] (lK (p.take s a draw)):=by
 refine Xtx.ps (ap rfl) (by simp[Qe,ah,lK,aq.cg]) fun c hN hg=>?_
 conv in aG _ _=>cbv
 have e2:=aq.au hp;have hG:=QN c.gl p hp;by_cases aV:p.bO=true;rotate_left
 ·have hr:p.take s a draw=(p,0,2):=aa aV;have aV:p.bO=false:=by simpa using aV
  rw[aV]at hG;rw[hr];unfold lK;refine Qd @e2 ?_;refine Qk hG @e2 ?_;refine Yc ?_;exact Qi @e2
 by_cases has:Ki a=true/\0<=s/\s<8;rotate_left
 ·have hr:p.take s a draw=(p,0,7):=(am aV).trans (aa has);rw[hr];rw[aV]at hG;unfold lK;refine Qd @e2 ?_;refine Qk hG @e2 ?_;refine Yc ?_;refine Qd @e2 ?_;refine Qb ?_ ?_<;>intro h2
  ·exact Qi @e2
  ·exfalso;refine has ⟨?_,by omega,by omega⟩;unfold Ki;simp;omega
 obtain ⟨ha,fL,lO⟩:=has;obtain ⟨b,rfl,hb⟩:=z8 a ha;have hF:=Qv5 c.gl p hp b hb;have jO:=Qsq p hp b hb;have zd:=aq.il hp hb;have hr:p.take s b draw=if p.kW b=true then (p,(0:Int),(9:Int)) else if p.left b=0 then (p,0,10) else (p.put b (p.nv b draw) (s+1),((p.nv b draw:Nat):Int),0):=by
  have:p.take s b draw=_:=(am aV).trans (am ⟨ha,fL,lO⟩);rw[this,Int.toNat_natCast]
 rw[hr];rw[aV]at hG;cases hd:p.kW b with
 | true =>
  rw[hd]at zd;rw[am rfl];unfold lK;refine Qd @e2 ?_;refine Qk hG @e2 ?_;refine Yc ?_;refine Qd @e2 ?_;refine Qb ?_ ?_<;>intro h2
  ·omega
  refine Qd (An @e2 @zd) ?_;refine Yc ?_;exact Qi @e2
 | false =>
  rw[hd]at zd;rw[aa aw];by_cases hl:p.left b=0
  ·rw[am hl];rw[hl]at jO;generalize Zy (p.row b) 6=W at *
   unfold lK;refine Qd @e2 ?_;refine Qk hG @e2 ?_;refine Yc ?_;refine Qd @e2 ?_;refine Qb ?_ ?_<;>intro h2
   ·omega
   refine Qd (An @e2 @zd) ?_;refine Yc ?_;refine Qd @e2 ?_;refine Qk hF @e2 ?_;refine Qb ?_ ?_<;>intro h4
   ·exact Qi @e2
   ·omega
  ·rw[aa hl];obtain ⟨fg,hko⟩:=ZR p hp b draw hb hl;have hC:=Qpq c.gl draw (p.left b) af (by have:=KB (p.row b) 6;have h3:=z7 p b hb;rw[h3];rw[take_of_length_le (by rw[Zk p hp b hb];omega)]at this;omega);have m0:=Int.emod_nonneg draw (show (p.left b:Int)≠0 by omega);have m1:=Int.emod_lt_of_pos draw (show (0:Int) < p.left b by omega);have hkd:p.nv b draw=(Zy (p.row b) 6).getD (draw % (p.left b:Int)).toNat 0:=rfl;have ep:=KG (Zy (p.row b) 6) (draw % (p.left b:Int)).toNat af;rw[← hkd]at ep;rw[← jO]at hC m1 m0 ep;have gA:=uc (Zy (p.row b) 6);generalize hdv:draw % ((Zy (p.row b) 6).length:Int)=d at *
   generalize Zy (p.row b) 6=W at *
   generalize p.nv b draw=k at *
   have ny:=PA p b k (s+1) (by rw[hp.own];omega);have e3:=aq.au (p.cI hp b k (s+1));unfold lK;refine Qd @e2 ?_;refine Qk hG @e2 ?_;refine Yc ?_;refine Qd @e2 ?_;refine Qb ?_ ?_<;>intro h2
   ·omega
   refine Qd (An @e2 @zd) ?_;refine Yc ?_;refine Qd @e2 ?_;refine Qk hF @e2 ?_;refine Qb ?_ ?_<;>intro h4
   ·omega
   refine Qa ?_;exact vi hC (An @gA (An @ep (An @e2 (An @ny @e3))))
def CS (port:Int)(hp:-9223372036854775808<=port/\port<=9223372036854775807):PS Tryz.prog gl 111 [.int .i64 port] (lL port):=by
 refine Xbc.ps (ap rfl) (by simp[lL,Qe,ah]) fun c hN hg=>?_
 conv in aG _ _=>cbv
 by_cases h:Yo port=true
 ·have h':=h;unfold Yo at h';simp at h';have e1:(port - 1024).tdiv 8=(port - 1024) / 8:=Int.tdiv_eq_ediv_of_nonneg af;have e2:(port - 1024).tmod 8=(port - 1024) % 8:=Int.tmod_eq_emod_of_nonneg af;unfold lL Xc;rw[am h,am h,h];refine Qa ?_;refine Qb ?_ ?_<;>intro h1
  ·omega
  exact Qi (An @e1 @e2)
 ·have h':=h;unfold Yo at h';simp at h';have hb:Yo port=false:=by simpa using h
  unfold lL Xc;rw[aa h,aa h,hb];by_cases fA:port<1024
  ·have d1:decide (port < 1024)=true:=by simpa using fA
   have e0:∃ x,IntKind.i64.wrap (port-1024)=x:=⟨_,rfl⟩
   obtain ⟨x,hx⟩:=e0;refine Qd (An @d1 @hx) ?_;refine Yc ?_;exact Qp
  ·refine Qa ?_;refine Qb ?_ ?_<;>intro h1
   ·exact Qp
   ·omega
def vN (n:Int):Bool:=n==1||n==6||n==17
def QO (n:Int):PS Tryz.prog gl 155 [.int .i64 n] (.bool (vN n)):=by
 refine Xbk.ps (ap rfl) (by simp[Qe]) fun c hN hg=>?_
 conv in aG _ _=>cbv
 unfold vN;exact Qp
def Xyj (ht:t.wf)(hl:t.maps.length<=4611686018427387904)(ae s aF:Int):PS Tryz.prog gl 156 [.agg t.enc,.int .i64 ae,.int .i64 s,.int .i64 aF] (gb (t.maps.find? (Xz ae s aF))):=by
 refine XV.ps (ap rfl) (by cases t.maps.find? (Xz ae s aF)<;>simp[gb,Qe,ah,Mp.enc]) fun c hN hg=>?_
 conv in aG _ _=>cbv
 have e2:=Tb.au ht;have e3:=Tb.b6 ht;have aD:=Yl t.maps;generalize hR:t.maps.find? (Xz ae s aF)=R;refine Qd (An @e2 @e3) ?_
 refine Qu (fun k:Nat=>k≤t.maps.length∧(t.maps.drop k).find? (Xz ae s aF)=R) (fun k=>⟨[(1,.int .i64 ae),(2,.int .i64 s),(3,.int .i64 aF),(8,.ptr 1 0),(13,.isl t.maps.length (bH t.maps)),(14,.int .i64 t.maps.length),(15,.int .i64 k)],[(0,.cells t.enc),(1,.cells [.int .i64 0,.int .i64 0,.int .i64 0,.int .i64 0,.int .i64 0])],2⟩) (fun k=>t.maps.length - k) XV.mixed hN
  ⟨0,⟨by omega,by rw[List.drop_zero];exact hR⟩,[],by exact Qp⟩ fun k hI=>?_
 obtain ⟨hk,hf⟩:=id hI;clear hI;refine Qa ?_;refine Qb ?_ ?_<;>intro h1
 ·have bh:k < t.maps.length:=by omega
  have aL:=rf t.maps k bh;rw[List.drop_eq_getElem_cons bh,List.find?_cons]at hf;generalize t.maps[k]=m at *
  obtain ⟨mp,ms,mi,ma,mt⟩:=m;unfold Xz at hf;simp only[Mp.enc]at aL;dsimp only at hf;refine Qd (An @aD @aL) ?_;refine Qb ?_ ?_<;>intro h2
  ·have hc:(mp == ae && ms == s && mi == aF)=true:=by simp[h2]
   rw[hc]at hf;dsimp only at hf;subst hf;unfold gb Mp.enc;exact Qp
  ·have hc:(mp==ae&&ms==s&&mi==aF)=false:=by
    cases hb:(mp==ae&&ms==s&&mi==aF)
    ·rfl
    ·simp at hb;omega
   rw[hc]at hf;dsimp only at hf;refine Qa ?_;refine ⟨k+1,⟨by omega,hf⟩,⟨[],?_⟩,by omega⟩;exact Qp
 ·have:k=t.maps.length:=by omega
  subst this;rw[List.drop_length]at hf;subst hf;unfold gb cM Mp.enc;refine Qa ?_;exact rfl
def Qz4 (ht:t.wf)(hl:t.maps.length<=4611686018427387904)(ae a port:Int):PS Tryz.prog gl 117 [.agg t.enc,.int .i64 ae,.int .i64 a,.int .i64 port] (gb (t.maps.find? (Ja ae a port))):=by
 refine XW.ps (ap rfl) (by cases t.maps.find? (Ja ae a port)<;>simp[gb,Qe,ah,Mp.enc]) fun c hN hg=>?_
 conv in aG _ _=>cbv
 have e2:=Tb.au ht;have e3:=Tb.b6 ht;have aD:=Yl t.maps;generalize hR:t.maps.find? (Ja ae a port)=R;refine Qd (An @e2 @e3) ?_
 refine Qu (fun k:Nat=>k≤t.maps.length∧(t.maps.drop k).find? (Ja ae a port)=R) (fun k=>⟨[(1,.int .i64 ae),(2,.int .i64 a),(3,.int .i64 port),(8,.ptr 1 0),(13,.isl t.maps.length (bH t.maps)),(14,.int .i64 t.maps.length),(15,.int .i64 k)],[(0,.cells t.enc),(1,.cells [.int .i64 0,.int .i64 0,.int .i64 0,.int .i64 0,.int .i64 0])],2⟩) (fun k=>t.maps.length - k) XW.mixed hN
  ⟨0,⟨by omega,by rw[List.drop_zero];exact hR⟩,[],by exact Qp⟩ fun k hI=>?_
 obtain ⟨hk,hf⟩:=id hI;clear hI;refine Qa ?_;refine Qb ?_ ?_<;>intro h1
 ·have bh:k < t.maps.length:=by omega
  have aL:=rf t.maps k bh;rw[List.drop_eq_getElem_cons bh,List.find?_cons]at hf;generalize t.maps[k]=m at *
  obtain ⟨mp,ms,mi,ma,mt⟩:=m;unfold Ja at hf;simp only[Mp.enc]at aL;dsimp only at hf;refine Qd (An @aD @aL) ?_;refine Qb ?_ ?_<;>intro h2
  ·have hc:(mp == ae && ma == a && mt == port)=true:=by simp[h2]
   rw[hc]at hf;dsimp only at hf;subst hf;unfold gb Mp.enc;exact Qp
  ·have hc:(mp==ae&&ma==a&&mt==port)=false:=by
    cases hb:(mp==ae&&ma==a&&mt==port)
    ·rfl
    ·simp at hb;omega
   rw[hc]at hf;dsimp only at hf;refine Qa ?_;refine ⟨k+1,⟨by omega,hf⟩,⟨[],?_⟩,by omega⟩;exact Qp
 ·have:k=t.maps.length:=by omega
  subst this;rw[List.drop_length]at hf;subst hf;unfold gb cM Mp.enc;refine Qa ?_;exact rfl
def Xy0 {kvs:List (AV×AV)}{x:AV}(h:fu kvs x=none):∀ p ∈ kvs,p.1≠x:=by
 unfold fu at h;intro p hp e;have:=List.findIdx?_eq_none_iff.1 h p hp;simp[e]at this
def Qo8 (x v:AV)(kvs:List (AV×AV)):fu ((x,v)::kvs) x=some 0:=by
 unfold fu;rw[List.findIdx?_cons];simp
def Qo4 {x y v:AV}(h:y≠x)(kvs:List (AV×AV)):fu ((y,v)::kvs) x=(fu kvs x).map (· + 1):=by
 unfold fu;rw[List.findIdx?_cons];simp[h]
def FF (x v z:AV)(kvs:List (AV×AV)):Kg ((x,v)::kvs) x z=v:=by
 unfold Kg;rw[Qo8];rfl
def CT {x y v z:AV}(h:y≠x)(kvs:List (AV×AV)):Kg ((y,v)::kvs) x z=Kg kvs x z:=by
 unfold Kg;rw[Qo4 h];cases fu kvs x<;>rfl
theorem Xxl (x z:AV):Kg [] x z=z:=rfl
def Qyq (x u v:AV)(kvs:List (AV×AV)):Jy ((x,u)::kvs) x v=(x,v)::kvs:=by
 unfold Jy;rw[Qo8];rfl
def Qyw {x y u v:AV}(h:y≠x)(kvs:List (AV×AV)):Jy ((y,u)::kvs) x v=(y,u)::Jy kvs x v:=by
 unfold Jy;rw[Qo4 h];cases fu kvs x<;>rfl
open Classical in
def Qsu (x v y z:AV):Kg (Jy kvs x v) y z=if y=x then v else Kg kvs y z:=by
 induction kvs with
 | nil =>
  have e:Jy [] x v=[(x,v)]:=rfl;rw[e];by_cases h:y=x
  ·subst h;rw[FF,am rfl]
  ·rw[CT (fun e=>h e.symm),aa h]
 | cons p kvs ih =>
  obtain ⟨k,u⟩:=p;by_cases h:k=x
  ·subst h;rw[Qyq];by_cases hy:y=k
   ·subst hy;rw[FF,am rfl]
   ·rw[CT (fun e=>hy e.symm),aa hy,CT (fun e=>hy e.symm)]
  ·rw[Qyw h];by_cases hy:y=k
   ·subst hy;rw[FF,FF,aa h]
   ·rw[CT (fun e=>hy e.symm),CT (fun e=>hy e.symm)];exact ih
def Qu8 {kvs:List (AV×AV)}{x v:AV}(h:Wt wide ks kvs)(hx:Zo wide ks x):Wt wide ks (Jy kvs x v):=by
 intro p hp;unfold Jy at hp;split at hp
 ·rcases mem_or_eq_of_mem_set hp with h1|h1
  ·exact h p h1
  ·rw[h1];exact hx
 ·rcases mem_append.1 hp with h1|h1
  ·exact h p h1
  ·rw[mem_singleton.1 h1];exact hx
def Yc1 (x z v:AV):(qg kvs x z).set (mZ kvs x) (((qg kvs x z).getD (mZ kvs x) (.any,.any)).1,v)=Jy kvs x v:=by
 unfold qg mZ Jy;cases h:fu kvs x with
 | none=>simp[List.getD]
 | some i =>
  obtain ⟨hi,he⟩:=Ci h;simp only[Option.getD_some];rw[he]
def Yha (x z:AV):mZ kvs x<(qg kvs x z).length:=by
 unfold qg mZ;cases h:fu kvs x with
 | none=>simp
 | some i=>exact (Ci h).1
def Xxd (x z:AV):Kg (qg kvs x z) x z=Kg kvs x z:=by
 unfold qg;cases h:fu kvs x with
 | some i=>rfl
 | none =>
  have e:Kg (kvs++[(x,z)]) x z=z:=by
   have hn:=Xy0 h;clear h
   induction kvs with
   | nil=>exact FF ..
   | cons p kvs ih =>
    obtain ⟨k,u⟩:=p;rw[List.cons_append,CT (hn (k,u) aw)];exact ih fun q hq=>hn q (by simp[hq])
  rw[e];unfold Kg;rw[h]
def Xy3 {kvs:List (AV×AV)}{x z:AV}(h:Wt wide ks kvs)(hx:Zo wide ks x):Wt wide ks (qg kvs x z):=by
 intro p hp;unfold qg at hp;split at hp
 ·exact h p hp
 ·rcases mem_append.1 hp with h1|h1
  ·exact h p h1
  ·rw[mem_singleton.1 h1];exact hx
open Classical in
noncomputable def kh (l:List AV)(x:AV):Nat:=l.countP fun y=>decide (y=x)
noncomputable def ki:List AV->List (AV×AV)
 | []=>[]
 | x::l=>Jy (ki l) x (.int .i64 ((kh l x:Nat)+1))
open Classical in
def Xq4 (x y:AV)(l:List AV):kh (x::l) y=kh l y+if x=y then 1 else 0:=by
 unfold kh;rw[List.countP_cons];by_cases h:x=y<;>simp[h]
def CU (l:List AV)(x:AV):Kg (ki l) x (.int .i64 0)=.int .i64 (kh l x:Nat):=by
 induction l with
 | nil=>rfl
 | cons y l ih =>
  show Kg (Jy (ki l) y _) x _=_;rw[Qsu,Xq4];by_cases h:x=y
  ·subst h;rw[am rfl,am rfl];rfl
  ·rw[aa h,aa fun e=>h e.symm,ih];rfl
def QP {wide:Bool}{ks:List SK}:∀ {l:List AV},(∀ x ∈ l,Zo wide ks x)->Wt wide ks (ki l)
 | [],_=>fun p hp=>by cases hp
 | x::l,h=>Qu8 (QP fun y hy=>h y (by simp[hy])) (h x aw)
noncomputable def kj:List AV->List (AV×AV)
 | []=>[]
 | x::l=>Jy (kj l) x (.bool true)
open Classical in
def Xwc (l:List AV)(x:AV):Kg (kj l) x (.bool false)=.bool (decide (x ∈ l)):=by
 induction l with
 | nil=>simp[kj,Xxl]
 | cons y l ih =>
  show Kg (Jy (kj l) y _) x _=_;rw[Qsu,ih];by_cases h:x=y
  ·subst h;simp
  ·simp[h]
open Classical in
def Qxf (l:List AV)(x:AV):∃ b,Kg (kj l) x (.bool false)=.bool b/\(b=true ↔ x ∈ l):=⟨_,Xwc l x,by rw[decide_eq_true_eq]⟩
def QQ {wide:Bool}{ks:List SK}:∀ {l:List AV},(∀ x ∈ l,Zo wide ks x)->Wt wide ks (kj l)
 | [],_=>fun p hp=>by cases hp
 | x::l,h=>Qu8 (QQ fun y hy=>h y (by simp[hy])) (h x aw)
def Xdr (l:List AV)(h:∀ x ∈ l,Qe n x):∀ p ∈ ki l,Qe n p.1/\Qe n p.2:=by
 induction l with
 | nil=>intro p hp;cases hp
 | cons x l ih =>
  intro p hp;unfold ki Jy at hp;have ih:=ih fun y hy=>h y (by simp[hy]);split at hp
  ·rcases mem_or_eq_of_mem_set hp with h1|h1
   ·exact ih p h1
   ·rw[h1];exact ⟨h x aw,by simp[Qe]⟩
  ·rcases mem_append.1 hp with h1|h1
   ·exact ih p h1
   ·rw[mem_singleton.1 h1];exact ⟨h x aw,by simp[Qe]⟩
def Xdo (l:List AV)(h:∀ x ∈ l,Qe n x):∀ p ∈ kj l,Qe n p.1/\Qe n p.2:=by
 induction l with
 | nil=>intro p hp;cases hp
 | cons x l ih =>
  intro p hp;unfold kj Jy at hp;have ih:=ih fun y hy=>h y (by simp[hy]);split at hp
  ·rcases mem_or_eq_of_mem_set hp with h1|h1
   ·exact ih p h1
   ·rw[h1];exact ⟨h x aw,by simp[Qe]⟩
  ·rcases mem_append.1 hp with h1|h1
   ·exact ih p h1
   ·rw[mem_singleton.1 h1];exact ⟨h x aw,by simp[Qe]⟩
def KV (kvs:List (AV×AV)):Prop:=∀ ρ:Nat->Nat,(kvs.map fun p=>(aA ρ p.1,aA ρ p.2))=kvs
def Qsy {kvs:List (AV×AV)}(h:∀ p ∈ kvs,∀ ρ,aA ρ p.1=p.1/\aA ρ p.2=p.2):KV kvs:=fun ρ=>by
 refine (List.map_congr_left (g:=id) fun p hp=>?_).trans (List.map_id _);obtain ⟨h1,h2⟩:=h p hp ρ;rw[h1,h2];rfl
def Qt9 {l:List AV}(h:∀ x ∈ l,∀ ρ,aA ρ x=x):KV (ki l):=by
 refine Qsy ?_
 induction l with
 | nil=>intro p hp;cases hp
 | cons x l ih =>
  intro p hp ρ;unfold ki Jy at hp;have ih:=ih fun y hy=>h y (by simp[hy]);split at hp
  ·rcases mem_or_eq_of_mem_set hp with h1|h1
   ·exact ih p h1 ρ
   ·rw[h1];exact ⟨h x aw ρ,by simp[aA]⟩
  ·rcases mem_append.1 hp with h1|h1
   ·exact ih p h1 ρ
   ·rw[mem_singleton.1 h1];exact ⟨h x aw ρ,by simp[aA]⟩
def Qu3 {l:List AV}(h:∀ x ∈ l,∀ ρ,aA ρ x=x):KV (kj l):=by
 refine Qsy ?_
 induction l with
 | nil=>intro p hp;cases hp
 | cons x l ih =>
  intro p hp ρ;unfold kj Jy at hp;have ih:=ih fun y hy=>h y (by simp[hy]);split at hp
  ·rcases mem_or_eq_of_mem_set hp with h1|h1
   ·exact ih p h1 ρ
   ·rw[h1];exact ⟨h x aw ρ,by simp[aA]⟩
  ·rcases mem_append.1 hp with h1|h1
   ·exact ih p h1 ρ
   ·rw[mem_singleton.1 h1];exact ⟨h x aw ρ,by simp[aA]⟩
section
variable {P:Program}{c:Cx}
def FG {anc:List Nat}{fs:List bg}{r0:List bD}{K:St->Prop}{s:St}{d:Nat}{t:TypeId}{ok:Bool}{xs:List TV}{gd:Option (Nat×Bool)}{wide:Bool}{ks:List SK}{z:AV}(hT:cu P t wide ks z)(hb:gB s.fs gd=some true)(aS:gn s.fs gd)
  (h:Qq none (aC c.gl s.fs xs)/\qh s.fs wide ks ((aC c.gl s.fs xs).map Qh)/\XD P c anc r0 (⟨jU gd++Xf xs,[eJ ((aC c.gl s.fs xs).map Qh)],[d],[]⟩::fs) K (s.put d (zJ s.fs z ok ((aC c.gl s.fs xs).map Qh)))) :
  Zm P c anc (.pd (some d) (.wM t ok) xs gd) r0 fs K s:=⟨_,_,NZ hb aS (IW hT h.1 h.2.1),h.2.2⟩
end
def FH:cu Tryz.prog 190 true [.int .i64,.int .i64,.int .i64] (.bool false):=cu.mk' (by kernel_rfl)
def FI:cu Tryz.prog 191 true [.int .i64,.int .i64,.int .i64] (.bool false):=cu.mk' (by kernel_rfl)
def vO:cu Tryz.prog 192 true [.int .i64,.int .i64] (.int .i64 0):=cu.mk' (by kernel_rfl)
def pz:cu Tryz.prog 147 false [.int .i64] (.int .i64 0):=cu.mk' (by kernel_rfl)
def kP (m:Mp):AV:=.agg [.int .i64 m.ae,.int .i64 m.a,.int .i64 m.port]
def kF (m:Mp):AV:=.agg [.int .i64 m.ae,.int .i64 m.s,.int .i64 m.aF]
def kM (m:Mp):AV:=.agg [.int .i64 m.a,.int .i64 (Xc m.port)]
def jG (n:Int):AV:=.int .i64 n
noncomputable def bP (l:List Mp):Bk:=.az (kj (l.map kP)) true
noncomputable def bF (l:List Mp):Bk:=.az (kj (l.map kF)) true
noncomputable def sG (l:List Mp):Bk:=.az (ki (l.map kM)) true
noncomputable def bI (l:List Int):Bk:=.az (ki (l.map jG)) true
theorem Yic:iU (bP l)=kj (l.map kP):=rfl
theorem Yiu:iU (bF l)=kj (l.map kF):=rfl
theorem Yhp:iU (sG l)=ki (l.map kM):=rfl
theorem Yhi (l:List Int):iU (bI l)=ki (l.map jG):=rfl
theorem Yj6:sj (bP l)=true:=rfl
theorem Yi1:sj (bF l)=true:=rfl
theorem Yho:sj (sG l)=true:=rfl
theorem Yi8 (l:List Int):sj (bI l)=true:=rfl
theorem Yid:xh (bP l)=True:=rfl
theorem Yhz:xh (bF l)=True:=rfl
theorem Yia:xh (sG l)=True:=rfl
theorem Yi6 (l:List Int):xh (bI l)=True:=rfl
def KW {n:Nat}{kvs:List (AV×AV)}  (h:∀ p ∈ kvs,Qe n p.1/\Qe n p.2):bV n (.az kvs dn)=True:=eq_true h
def KX {ρ:Nat->Nat}{kvs:List (AV×AV)}  (h:KV kvs):Qw ρ (.az kvs dn)=.az kvs dn:=by
 show Bk.az (kvs.map fun p=>(aA ρ p.1,aA ρ p.2)) dn=_;rw[h]
def rj {α:Type}{f:α->AV}{p:AV->Prop}(h:∀ a,p (f a))(l:List α):∀ x ∈ l.map f,p x:=fun x hx=>by obtain ⟨a,_,rfl⟩:=mem_map.1 hx;exact h a
def Yiv:bV n (bP l)=True:=KW (Xdo n _ (rj (fun m=>by simp[kP,Qe,ah]) l))
def Yhx:bV n (bF l)=True:=KW (Xdo n _ (rj (fun m=>by simp[kF,Qe,ah]) l))
def Yih:bV n (sG l)=True:=KW (Xdr n _ (rj (fun m=>by simp[kM,Qe,ah]) l))
theorem Yhn (l:List Int):bV n (bI l)=True:=KW (Xdr n _ (rj (fun m=>by simp[jG,Qe]) l))
theorem Yi0 (ρ:Nat->Nat)(l:List Mp):Qw ρ (bP l)=bP l:=KX (Qu3 (rj (p:=fun x=>∀ ρ,aA ρ x=x) (fun m ρ=>by simp[kP,aA,ay]) l))
theorem Yhu (ρ:Nat->Nat)(l:List Mp):Qw ρ (bF l)=bF l:=KX (Qu3 (rj (p:=fun x=>∀ ρ,aA ρ x=x) (fun m ρ=>by simp[kF,aA,ay]) l))
theorem Yiq (ρ:Nat->Nat)(l:List Mp):Qw ρ (sG l)=sG l:=KX (Qt9 (rj (p:=fun x=>∀ ρ,aA ρ x=x) (fun m ρ=>by simp[kM,aA,ay]) l))
theorem Yib (ρ:Nat->Nat)(l:List Int):Qw ρ (bI l)=bI l:=KX (Qt9 (rj (p:=fun x=>∀ ρ,aA ρ x=x) (fun m ρ=>by simp[jG,aA]) l))
def Yig:Wt true [.int .i64,.int .i64,.int .i64] (kj (l.map kP))=True:=eq_true (QQ (rj (fun m=>by simp[kP,Zo,Wx,Zw]) l))
def Yif:Wt true [.int .i64,.int .i64,.int .i64] (kj (l.map kF))=True:=eq_true (QQ (rj (fun m=>by simp[kF,Zo,Wx,Zw]) l))
def Xzp:Wt true [.int .i64,.int .i64] (ki (l.map kM))=True:=eq_true (QP (rj (fun m=>by simp[kM,Zo,Wx,Zw]) l))
theorem Yit (l:List Int):Wt false [.int .i64] (ki (l.map jG))=True:=eq_true (QP (rj (fun m=>by simp[jG,Zo,Wx,Zw]) l))
attribute [go_sem ↓] Yiv Yhx Yih Yhn Yi0 Yhu Yiq Yib
attribute [go_sem] Yic Yiu Yhp Yhi Yj6 Yi1 Yho Yi8 Yid Yhz Yia Yi6 Yig Yif Xzp Yit
def uq {t:Tb}(h:¬ GT t):Zp t=false:=by
 cases hb:Zp t with
 | false=>rfl
 | true=>exact (h (Kv.1 ((vG t).1 hb))).elim
def Yfe {l:List Mp}{m:Mp}:kP m ∈ l.map kP ↔ ∃ o ∈ l,o.ae=m.ae/\o.a=m.a/\o.port=m.port:=by
 rw[mem_map];constructor
 ·rintro ⟨o,ho,he⟩;simp[kP]at he;exact ⟨o,ho,he.1,he.2.1,he.2.2⟩
 ·rintro ⟨o,ho,h1,h2,h3⟩;exact ⟨o,ho,by simp[kP,h1,h2,h3]⟩
def Yg2 {l:List Mp}{m:Mp}:kF m ∈ l.map kF ↔ ∃ o ∈ l,o.ae=m.ae/\o.s=m.s/\o.aF=m.aF:=by
 rw[mem_map];constructor
 ·rintro ⟨o,ho,he⟩;simp[kF]at he;exact ⟨o,ho,he.1,he.2.1,he.2.2⟩
 ·rintro ⟨o,ho,h1,h2,h3⟩;exact ⟨o,ho,by simp[kF,h1,h2,h3]⟩
def QR (o m:Mp):Yq o m=true ↔ o.ae=m.ae/\(o.a=m.a/\o.port=m.port\/o.s=m.s/\o.aF=m.aF):=by
 unfold Yq;simp only[Bool.and_eq_true,Bool.or_eq_true,beq_iff_eq];constructor
 ·rintro ⟨h1,⟨h2,h3⟩|⟨h2,h3⟩⟩
  ·exact ⟨h1.symm,.inl ⟨h2.symm,h3.symm⟩⟩
  ·exact ⟨h1.symm,.inr ⟨h2.symm,h3.symm⟩⟩
 ·rintro ⟨h1,⟨h2,h3⟩|⟨h2,h3⟩⟩
  ·exact ⟨h1.symm,.inl ⟨h2.symm,h3.symm⟩⟩
  ·exact ⟨h1.symm,.inr ⟨h2.symm,h3.symm⟩⟩
def xL (t:Tb)(l:List Mp):Prop:=(∀ m ∈ l,Uk t m)/\l.Pairwise fun x y=>Yq x y=false
def xL.not {t:Tb}  (hk:k<t.maps.length)(h:¬ (Uk t t.maps[k]/\∀ o ∈ t.maps.take k,Yq o t.maps[k]=false)):¬ GT t:=by
 intro hg;refine h ⟨hg.maps _ (getElem_mem hk),fun o ho=>?_⟩;obtain ⟨i,hi,rfl⟩:=List.getElem_of_mem ho;rw[length_take]at hi;rw[List.getElem_take];exact List.pairwise_iff_getElem.1 hg.apart i k af hk af
def xL.succ {t:Tb}  (hk:k<t.maps.length)(h:xL t (t.maps.take k))(h1:Uk t t.maps[k])(h2:∀ o ∈ t.maps.take k,Yq o t.maps[k]=false):xL t (t.maps.take (k+1)):=by
 have e:t.maps.take (k+1)=t.maps.take k++[t.maps[k]]:=by rw[take_add_one,getElem?_eq_getElem hk];rfl
 rw[e];refine ⟨fun m hm=>?_,QD h.2 h2⟩;rcases mem_append.1 hm with hm|hm
 ·exact h.1 m hm
 ·rw[mem_singleton.1 hm];exact h1
def Xxj {t:Tb}  (hk:k<t.maps.length):(t.maps.take (k+1)).reverse=t.maps[k]::(t.maps.take k).reverse:=by
 rw[take_add_one,getElem?_eq_getElem hk];simp
theorem Yji (l:List Mp):Bk.az (Jy (kj (l.map kP)) (.agg [.int .i64 m.ae,.int .i64 m.a,.int .i64 m.port]) (.bool true)) true=bP (m::l):=rfl
theorem Yjg (l:List Mp):Bk.az (Jy (kj (l.map kF)) (.agg [.int .i64 m.ae,.int .i64 m.s,.int .i64 m.aF]) (.bool true)) true=bF (m::l):=rfl
theorem Yjw (l:List Mp):Bk.az (Jy (ki (l.map kM)) (kM m) (.int .i64 ((kh (l.map kM) (kM m):Nat)+1))) true=sG (m::l):=rfl
theorem Yhg (n:Int)(l:List Int):Bk.az (Jy (ki (l.map jG)) (.int .i64 n) (.int .i64 ((kh (l.map jG) (jG n):Nat)+1))) true=bI (n::l):=rfl
def QS (l:List AV)(x:AV):kh l x<=l.length:=List.countP_le_length
def Xa2 (a:Int)(n:Nat):(a==0)=((n:Int)==0) ↔ (a=0 ↔ n=0):=by
 show decide (a=0)=decide ((n:Int)=0) ↔ _;rw[decide_eq_decide];omega
def mK (own:List Int)(i:Nat):List Int:=(((own.take i).filter fun o=>decide (0<o)).map fun o=>o-1).reverse
def Xq7 {own:List Int}{i:Nat}(h:i<own.length):mK own (i+1)=if 0<own.getD i 0 then (own.getD i 0-1)::mK own i else mK own i:=by
 have e:own.getD i 0=own[i]:=by simp[List.getD,h]
 rw[e];unfold mK;rw[take_add_one,getElem?_eq_getElem h,filter_append,map_append,List.reverse_append];by_cases ho:0<own[i]<;>simp[ho]
def Xvd (own:List Int)(i:Nat):(mK own i).length<=i:=by
 unfold mK;rw[List.length_reverse,length_map];exact Nat.le_trans (List.length_filter_le _ _) (by rw[length_take];omega)
def Xn1 (l:List Int)(n:Int):kh (l.map jG) (.int .i64 n)=l.countP fun o=>decide (o=n):=by
 unfold kh;rw[countP_map];refine countP_congr fun o _=>?_;simp[jG]
def Yd8 {p:aq}(hw:p.wf)(s:Nat):kh ((mK p.own 18).map jG) (.int .i64 s)=Ze p.own s:=by
 rw[Xn1];unfold mK Ze;rw[List.countP_reverse,countP_map,List.countP_filter,take_of_length_le (by rw[hw.own];omega)];refine countP_congr fun o _=>?_;simp only[Function.comp,Bool.and_eq_true,decide_eq_true_eq,beq_iff_eq];omega
def Xs5 (s:Nat):kh ((l.reverse.map Mp.s).map jG) (.int .i64 s)=Yb l s:=by
 rw[Xn1,countP_map,List.countP_reverse];unfold Yb;refine countP_congr fun m _=>?_;simp
def Xod {t:Tb}(hp:∀ m ∈ t.maps,Uk t m){a k:Nat}(ha:a<3)(hk:k<6):0<kh (t.maps.reverse.map kM) (.agg [.int .i64 a,.int .i64 k]) ↔ ∃ m ∈ t.maps,Yu m=a*6+k:=by
 unfold kh;rw[List.countP_pos_iff];constructor
 ·rintro ⟨x,hx,he⟩;obtain ⟨m,hm,rfl⟩:=mem_map.1 hx;have he:=@of_decide_eq_true _ (Classical.propDecidable _) he;simp[kM]at he;refine ⟨m,mem_reverse.1 hm,?_⟩;unfold Yu;rw[he.1,he.2];simp
 ·rintro ⟨m,hm,he⟩;have h1:=(hp m hm).1.2.2;have h2:=vM m.port;refine ⟨kM m,List.mem_map_of_mem (mem_reverse.2 hm),?_⟩;unfold Yu at he;have e1:m.a=(a:Int):=by omega
  have e2:Xc m.port=(k:Int):=by omega
  simp[kM,e1,e2]
set_option maxRecDepth 20000 in
def KY (ht:t.ok)(hh:Hid (∀ s,s<8->-9223372036854775808<=t.aT s/\t.aT s<=9223372036854775807)):PS Tryz.prog gl 154 [.agg t.enc] (.bool (Zp t)):=by
 refine ER.ps (ap rfl) (by simp[Qe]) fun c hN hg=>?_
 conv in aG _ _=>cbv
 have e2:=Tb.au ht.wf;have e3:=Tb.b6 ht.wf;have e4:=Tb.dw ht.wf;have hG:=QN c.gl t.ai ht.wf.ai;have aD:=Yl t.maps;have hlen:=ht.len;cases ur:t.ai.bO with
 | false =>
  rw[ur]at hG;have hb:=uq (t:=t) fun h=>by have:=h.ai;rw[ur]at this;cases this
  refine Qd (An @e2 @e4) ?_;refine Xd hG ?_;refine Yc ?_;exact Qi @hb
 | true =>
 rw[ur]at hG;refine Qd (An @e2 @e4) ?_;refine Xd hG ?_;refine Yc ?_;refine Qa ?_
 (refine zK FH ?_;(refine XG ?_;((try with_reducible and_intros);all_goals try first|refine zm ?_|exact CL)))
 (refine zK FI ?_;(refine XG ?_;((try with_reducible and_intros);all_goals try first|refine zm ?_|exact CL)))
 (refine zK vO ?_;(refine XG ?_;((try with_reducible and_intros);all_goals try first|refine zm ?_|exact CL)))
 (refine zK pz ?_;(have aQ:=@e2;have bw:=@e3;refine XG ?_;clear aQ bw;((try with_reducible and_intros);all_goals try first|refine zm ?_|exact CL)))
 refine Qu (fun k:Nat=>k≤t.maps.length∧xL t (t.maps.take k))
  (fun k=>⟨[(1,.ptr 0 0),(3,.mp 1),(4,.mp 2),(5,.mp 3),(6,.mp 4),(28,.isl t.maps.length (bH t.maps)),(29,.int .i64 t.maps.length),(30,.int .i64 k)],
   [(0,.cells t.enc),(1,bP (t.maps.take k).reverse),(2,bF (t.maps.take k).reverse),(3,sG (t.maps.take k).reverse),(4,bI ((t.maps.take k).reverse.map Mp.s))],5⟩) (fun k=>t.maps.length-k) ER.mixed hN
  ⟨0,⟨by omega,fun m hm=>(by simp at hm),by simp⟩,[],by (refine XG ?_;((try with_reducible and_intros);all_goals try first|refine zm ?_|exact CL))<;>exact rfl⟩ fun k hI=>?_
 obtain ⟨hk,FJ⟩:=id hI;clear hI;refine Qa ?_;refine Qb ?_ ?_<;>intro h2
 ·have bh:k < t.maps.length:=by omega
  have aL:=rf t.maps k bh;have nR:=ht.bd _ (getElem_mem bh);have sH:=xL.not (t:=t) bh;have xM:=xL.succ (t:=t) bh FJ;have FK:=Xxj (t:=t) bh;generalize t.maps[k]=m at *
  have ic:=CS c.gl m.port nR.2.2.2.2;unfold lL at ic;have vP:=QO c.gl m.ae;obtain ⟨mp,ms,mi,ma,mt⟩:=m;simp only[Mp.enc]at aL;dsimp only at ic vP;have Aq:ud t ⟨mp,ms,mi,ma,mt⟩ ↔ (vN mp=true/\0<=ms/\ms<8/\0<=mi/\mi<=65535)/\Yo mt=true/\0<=ma/\ma<3:=by
   unfold ud Yr vN;simp only[Bool.and_eq_true,decide_eq_true_eq];constructor
   ·rintro ⟨⟨⟨⟨⟨h1,h2⟩,h3⟩,h4⟩,h5⟩,h6⟩;exact ⟨⟨h1,h2,h3,h4,h5⟩,h6⟩
   ·rintro ⟨⟨h1,h2,h3,h4,h5⟩,h6⟩;exact ⟨⟨⟨⟨⟨h1,h2⟩,h3⟩,h4⟩,h5⟩,h6⟩
  generalize jY:(if Yo mt=true then (mt-1024)%8 else 0)=oj at *
  have hbl:=vM mt;have FL:=Yfe (l:=(t.maps.take k).reverse) (m:=⟨mp,ms,mi,ma,mt⟩);have FM:=Yg2 (l:=(t.maps.take k).reverse) (m:=⟨mp,ms,mi,ma,mt⟩);by_cases bX:ud t ⟨mp,ms,mi,ma,mt⟩;rotate_left
  ·have hb:=uq (sH fun h=>bX h.1.1);rw[Aq]at bX;cases vJ:Yo mt with
   | false =>
    rw[vJ]at ic;refine Qd (An @aD @aL) ?_;refine Xd ic ?_;refine Xy ?_;refine Yc ?_;exact Qi @hb
   | true =>
    rw[vJ]at ic bX;cases hq:vN mp with
    | false =>
     rw[hq]at vP;refine Qd (An @aD @aL) ?_;refine Xd ic ?_;refine Xd vP ?_;refine Yc ?_;exact Qi @hb
    | true =>
     rw[hq]at vP bX;refine Qd (An @aD @aL) ?_;refine Xd ic ?_;refine Xd vP ?_;refine Qb ?_ ?_<;>intro h3
     ·exact Qi @hb
     ·exfalso;simp at bX;omega
  ·obtain ⟨⟨hq,fL,lO,hi0,nU⟩,vJ,xE,jD⟩:=Aq.1 bX;rw[vJ]at ic;rw[hq]at vP;obtain ⟨S,rfl⟩:=Int.eq_ofNat_of_zero_le fL;obtain ⟨A,rfl⟩:=Int.eq_ofNat_of_zero_le xE;obtain ⟨B,hB⟩:=Int.eq_ofNat_of_zero_le hbl.1;have PO:B < 6:=by omega
   have ug:A<3:=by omega
   have jb:S<8:=by omega
   have eh:=Tb.dR ht.wf jb;have eo:=Tb.kZ ht.wf ug PO;have hog:=aq.kX t.ai ur A B;have FN:Uk t ⟨mp,S,mi,A,mt⟩ ↔ t.aT S=(A:Int)+1/\t.ai.ow A B=(S:Int)+1:=by
    unfold Uk;dsimp only;rw[hB,Int.toNat_natCast,Int.toNat_natCast,Int.toNat_natCast];exact ⟨fun h=>h.2,fun h=>⟨bX,h⟩⟩
   have hwv:∃ v,IntKind.i64.wrap (t.aT S-1)=v/\(v=(A:Int) ↔ t.aT S=(A:Int)+1):=by
    have:=hh.out S jb;refine ⟨_,rfl,?_⟩;rw[IntKind.wrap_i64];omega
   obtain ⟨v,j7,ea⟩:=hwv;rw[hB]at ic
   obtain ⟨cP,QT,KZ⟩:∃ b,Kg (kj ((t.maps.take k).reverse.map kP)) (.agg [.int .i64 mp,.int .i64 A,.int .i64 mt]) (.bool false)=.bool b∧(b=true ↔ kP ⟨mp,S,mi,A,mt⟩ ∈ (t.maps.take k).reverse.map kP) :=
    Qxf _ _
   obtain ⟨cF,uu,La⟩:∃ b,Kg (kj ((t.maps.take k).reverse.map kF)) (.agg [.int .i64 mp,.int .i64 S,.int .i64 mi]) (.bool false)=.bool b∧(b=true ↔ kF ⟨mp,S,mi,A,mt⟩ ∈ (t.maps.take k).reverse.map kF) :=
    Qxf _ _
   rw[FL]at KZ;rw[FM]at La;have fY:(∀ o ∈ t.maps.take k,Yq o ⟨mp,S,mi,A,mt⟩=false) ↔ cP=false/\cF=false:=by
    constructor
    ·intro h;constructor
     ·cases hb:cP with
      | false=>rfl
      | true =>
       obtain ⟨o,ho,h1,h2,h3⟩:=KZ.1 hb;have:=h o (mem_reverse.1 ho);rw[(QR _ _).2 ⟨h1,.inl ⟨h2,h3⟩⟩]at this;cases this
     ·cases hb:cF with
      | false=>rfl
      | true =>
       obtain ⟨o,ho,h1,h2,h3⟩:=La.1 hb;have:=h o (mem_reverse.1 ho);rw[(QR _ _).2 ⟨h1,.inr ⟨h2,h3⟩⟩]at this;cases this
    ·rintro ⟨h1,h2⟩ o ho;cases hk:Yq o ⟨mp,S,mi,A,mt⟩ with
     | false=>rfl
     | true =>
      obtain ⟨h3,h4⟩:=(QR _ _).1 hk;rcases h4 with ⟨h5,h6⟩|⟨h5,h6⟩
      ·have:=KZ.2 ⟨o,mem_reverse.2 ho,h3,h5,h6⟩;rw[h1]at this;cases this
      ·have:=La.2 ⟨o,mem_reverse.2 ho,h3,h5,h6⟩;rw[h2]at this;cases this
   rw[FN,fY]at sH xM;clear KZ La FL FM FN fY Aq hbl;have Lb:=QS ((t.maps.take k).reverse.map kM) (.agg [.int .i64 A,.int .i64 B]);have Ar:=CU ((t.maps.take k).reverse.map kM) (.agg [.int .i64 A,.int .i64 B]);have hcS:=QS (((t.maps.take k).reverse.map Mp.s).map jG) (.int .i64 S);have hgS:=CU (((t.maps.take k).reverse.map Mp.s).map jG) (.int .i64 S);rw[length_map,List.length_reverse,length_take]at Lb;rw[length_map,length_map,List.length_reverse,length_take]at hcS;have QU:=Yjw ⟨mp,S,mi,A,mt⟩ (t.maps.take k).reverse;have QV:=Yhg S ((t.maps.take k).reverse.map Mp.s);have huP:=Yji ⟨mp,S,mi,A,mt⟩ (t.maps.take k).reverse;have huF:=Yjg ⟨mp,S,mi,A,mt⟩ (t.maps.take k).reverse;have hkM:kM ⟨mp,S,mi,A,mt⟩=.agg [.int .i64 A,.int .i64 B]:=by unfold kM;dsimp only;rw[hB]
   rw[hkM]at QU;have QW:jG S=.int .i64 S:=rfl;rw[QW]at QV;dsimp only at huP huF;generalize kh ((t.maps.take k).reverse.map kM) (.agg [.int .i64 A,.int .i64 B])=nM at *
   generalize kh (((t.maps.take k).reverse.map Mp.s).map jG) (.int .i64 S)=nS at *
   generalize t.aT S=hm at *
   generalize t.ai.ow A B=ow at *
   cases cP with
   | true =>
    have hb:=uq (sH fun h=>by cases h.2.1);refine Qd (An @aD @aL) ?_;refine Xd ic ?_;refine Xd vP ?_;refine Qb ?_ ?_<;>intro h3
    ·omega
    refine Qa ?_;refine Up FH @QT ?_;refine Xy ?_;refine Yc ?_;exact Qi @hb
   | false =>
   cases cF with
   | true =>
    have hb:=uq (sH fun h=>by cases h.2.2);refine Qd (An @aD @aL) ?_;refine Xd ic ?_;refine Xd vP ?_;refine Qb ?_ ?_<;>intro h3
    ·omega
    refine Qa ?_;refine Up FH @QT ?_
    ((refine FG FI ?_ ?_ ?_);(focus (have aQ:=@uu;refine XG ?_;clear aQ;try first|exact rfl|exact True.intro));(focus (have aQ:=@uu;refine XG ?_;clear aQ;try trivial));(have aQ:=@uu;refine XG ?_;clear aQ;((try with_reducible and_intros);all_goals try first|refine zm ?_|exact CL)))
    refine Yc ?_;exact Qi @hb
   | false =>
    refine Qd (An @aD @aL) ?_;refine Xd ic ?_;refine Xd vP ?_;refine Qb ?_ ?_<;>intro h3
    ·omega
    refine Qa ?_;refine Up FH @QT ?_
    ((refine FG FI ?_ ?_ ?_);(focus (have aQ:=@uu;have bw:=@e2;have bQ:=@eh;have cy:=@eo;have dh:=@j7;refine XG ?_;clear aQ bw bQ cy dh;try first|exact rfl|exact True.intro));(focus (have aQ:=@uu;have bw:=@e2;have bQ:=@eh;have cy:=@eo;have dh:=@j7;refine XG ?_;clear aQ bw bQ cy dh;try trivial));(have aQ:=@uu;have bw:=@e2;have bQ:=@eh;have cy:=@eo;have dh:=@j7;refine XG ?_;clear aQ bw bQ cy dh;((try with_reducible and_intros);all_goals try first|refine zm ?_|exact CL)))
    refine Qb ?_ ?_<;>intro h4
    ·have hb:=uq (sH fun h=>by omega);exact Qi @hb
    have ra:=Yc1 (ki ((t.maps.take k).reverse.map kM)) (.agg [.int .i64 A,.int .i64 B]) (.int .i64 0) (.int .i64 ((nM:Int)+1));have Lc:=Xxd (ki ((t.maps.take k).reverse.map kM)) (.agg [.int .i64 A,.int .i64 B]) (.int .i64 0);have uh:=Yha (ki ((t.maps.take k).reverse.map kM)) (.agg [.int .i64 A,.int .i64 B]) (.int .i64 0);have Ld:Wt true [.int .i64,.int .i64] (qg (ki ((t.maps.take k).reverse.map kM)) (.agg [.int .i64 A,.int .i64 B]) (.int .i64 0))=True:=eq_true (Xy3 (of_eq_true (Xzp _)) (by simp[Zo,Wx,Zw]));rw[Ar]at Lc;have nA:∀ n:Nat,((n:Int)).toNat=n:=fun n=>Int.toNat_natCast n;have xN:xL t (t.maps.take (k+1)):=xM af ⟨rfl,rfl⟩;refine Qa ?_;refine xj FH @huP ?_
    ((first|refine Oo FI ?_|refine Oq FI ?_);(have aQ:=@huF;refine XG ?_;clear aQ;((try with_reducible and_intros);all_goals try first|refine zm ?_|exact CL)))
    ·refine Up vO @Ar ?_
     ((first|refine W4 vO ?_|refine W5 vO ?_);(have aQ:=@Ar;refine XG ?_;clear aQ;((try with_reducible and_intros);all_goals try first|refine zm ?_|exact CL)))
     (refine W6 ?_;(have aQ:=@ra;have bw:=@QU;have bQ:=@nA;refine XG ?_;clear aQ bw bQ;((try with_reducible and_intros);all_goals try first|refine zm ?_|exact CL)))
     refine Up pz @hgS ?_;refine xj pz @QV ?_;refine ⟨k+1,⟨by omega,xN⟩,⟨[],?_⟩,by omega⟩;exact Qi @FK
    ·((first|refine W4 vO ?_|refine W5 vO ?_);(have aQ:=@Ar;refine XG ?_;clear aQ;((try with_reducible and_intros);all_goals try first|refine zm ?_|exact CL)))
     refine Up vO (An @Lc @Ld) ?_
     (refine W6 ?_;(have aQ:=@ra;have bw:=@QU;have bQ:=@nA;refine XG ?_;clear aQ bw bQ;((try with_reducible and_intros);all_goals try first|refine zm ?_|exact CL)))
     refine Up pz @hgS ?_;refine xj pz @QV ?_;refine ⟨k+1,⟨by omega,xN⟩,⟨[],?_⟩,by omega⟩;exact Qi @FK
 ·have:k=t.maps.length:=by omega
  subst this;rw[take_length]at FJ ⊢;have h5:Bk.az [] true=bI (mK t.ai.own 0):=rfl;have qU:=ht.wf.ai.own;refine Qa ?_
  (refine zK pz ?_;(have aQ:=@h5;refine XG ?_;clear aQ;((try with_reducible and_intros);all_goals try first|refine zm ?_|exact CL)))
  refine Qu (fun a:Nat=>a≤3∧∀ i,i < a * 6→(0 < t.ai.own.getD i 0 ↔ ∃ m ∈ t.maps,Yu m=i))
   (fun a=>⟨[(1,.ptr 0 0),(5,.mp 3),(6,.mp 4),(14,.mp 5),(146,.int .i64 a)],
    [(0,.cells t.enc),(1,bP t.maps.reverse),(2,bF t.maps.reverse),(3,sG t.maps.reverse),(4,bI (t.maps.reverse.map Mp.s)),(5,bI (mK t.ai.own (a*6)))],6⟩) (fun a=>3-a) ER.mixed hN
   ⟨0,⟨by omega,fun i hi=>by omega⟩,[],by exact Qp⟩ fun a hI=>?_
  obtain ⟨ha,hua⟩:=id hI;clear hI;refine Qa ?_;refine Qb ?_ ?_<;>intro h3
  ·have jD:a < 3:=by omega
   refine Qa ?_
   refine Qu (fun k:Nat=>k≤6∧∀ i,i < a * 6 + k→(0 < t.ai.own.getD i 0 ↔ ∃ m ∈ t.maps,Yu m=i))
    (fun k=>⟨[(1,.ptr 0 0),(5,.mp 3),(6,.mp 4),(14,.mp 5),(15,.int .i64 a),(146,.int .i64 a),(149,.int .i64 k)],
     [(0,.cells t.enc),(1,bP t.maps.reverse),(2,bF t.maps.reverse),(3,sG t.maps.reverse),(4,bI (t.maps.reverse.map Mp.s)),(5,bI (mK t.ai.own (a*6+k)))],6⟩) (fun k=>6-k) ER.mixed hN
    ⟨0,⟨by omega,hua⟩,[],by exact Qp⟩ fun k hI=>?_
   obtain ⟨hk,huk⟩:=id hI;clear hI;refine Qa ?_;refine Qb ?_ ?_<;>intro h4
   ·have fg:k < 6:=by omega
    have eo:=Tb.kZ ht.wf jD fg;have hog:=aq.kX t.ai ur a k;have ui:=Xq7 (own:=t.ai.own) (i:=a*6+k) af;rw[show a*6+k+1=a*6+(k+1) by omega]at ui;have Ar:=CU (t.maps.reverse.map kM) (.agg [.int .i64 a,.int .i64 k]);have Lb:=Xod FJ.1 jD fg;have kE:=Xvd t.ai.own (a*6+k);have gM:t.ai.own.getD (a*6+k) 0=t.ai.ow a k:=rfl;have pA:(0<t.ai.ow a k ↔ 0<kh (t.maps.reverse.map kM) (.agg [.int .i64 a,.int .i64 k]))->∀ i,i<a*6+(k+1)->(0<t.ai.own.getD i 0 ↔ ∃ m ∈ t.maps,Yu m=i):=fun h i hi=>by
     by_cases e:i=a*6+k
     ·subst e;rw[gM,h,Lb]
     ·exact huk i af
    have qz:¬ (0<t.ai.ow a k ↔ 0<kh (t.maps.reverse.map kM) (.agg [.int .i64 a,.int .i64 k]))->¬ GT t:=fun h hg=>h (by
     rw[Lb];have:=hg.used (a*6+k) af;rw[gM]at this;rw[<- this];omega)
    rw[gM]at ui;generalize kh (t.maps.reverse.map kM) (.agg [.int .i64 a,.int .i64 k])=nM at *
    have hcH:=QS ((mK t.ai.own (a*6+k)).map jG) (.int .i64 (t.ai.ow a k-1));have hgH:=CU ((mK t.ai.own (a*6+k)).map jG) (.int .i64 (t.ai.ow a k-1));have huH:=Yhg (t.ai.ow a k-1) (mK t.ai.own (a*6+k));rw[length_map]at hcH;have QW:jG (t.ai.ow a k-1)=.int .i64 (t.ai.ow a k-1):=rfl;rw[QW]at huH;generalize kh ((mK t.ai.own (a*6+k)).map jG) (.int .i64 (t.ai.ow a k-1))=nH at *
    generalize t.ai.ow a k=o at *
    refine Qd (An @e2 @eo) ?_;refine Qb ?_ ?_<;>intro FO
    ·rw[am af]at ui;refine Qa ?_;refine Up pz @hgH ?_;refine xj pz @huH ?_;refine Up vO @Ar ?_;refine Qb ?_ ?_<;>intro h6
     ·have hb:=uq (qz (by simp at h6;omega));exact Qi @hb
     ·refine Qa ?_;refine ⟨k+1,⟨by omega,pA (by simp at h6;omega)⟩,⟨[],?_⟩,by omega⟩;exact Qi @ui
    ·rw[aa af]at ui;refine Qa ?_;refine Up vO @Ar ?_;refine Qb ?_ ?_<;>intro h6
     ·have hb:=uq (qz (by simp at h6;omega));exact Qi @hb
     ·refine Qa ?_;refine ⟨k+1,⟨by omega,pA (by simp at h6;omega)⟩,⟨[],?_⟩,by omega⟩;exact Qi @ui
   ·have:k=6:=by omega
    subst this;refine Qa ?_;have e6:(a+1)*6=a*6+6:=by omega
    refine ⟨a+1,⟨by omega,by rw[e6];exact huk⟩,⟨[],?_⟩,by omega⟩;exact Qi @e6
  ·have:a=3:=by omega
   subst this;refine Qa ?_
   refine Qu (fun s:Nat=>s≤8∧∀ u,u < s→Ze t.ai.own u≤2∧Yb t.maps (u:Int)≤12∧(t.aT u≠0 ↔ 0 < Ze t.ai.own u))
    (fun s=>⟨[(1,.ptr 0 0),(6,.mp 4),(14,.mp 5),(177,.int .i64 s)],
     [(0,.cells t.enc),(1,bP t.maps.reverse),(2,bF t.maps.reverse),(3,sG t.maps.reverse),(4,bI (t.maps.reverse.map Mp.s)),(5,bI (mK t.ai.own 18))],6⟩) (fun s=>8-s) ER.mixed hN
    ⟨0,⟨by omega,fun u hu=>by omega⟩,[],by exact Qp<;>exact rfl⟩ fun s hI=>?_
   obtain ⟨hs,oU⟩:=id hI;clear hI;refine Qa ?_;refine Qb ?_ ?_<;>intro h4
   ·have lO:s < 8:=by omega
    have eh:=Tb.dR ht.wf lO;have jV:=CU ((mK t.ai.own 18).map jG) (.int .i64 s);have jW:=CU ((t.maps.reverse.map Mp.s).map jG) (.int .i64 s);rw[Yd8 ht.wf.ai]at jV;rw[Xs5]at jW;have pA:Ze t.ai.own s<=2/\Yb t.maps (s:Int)<=12/\(t.aT s≠0 ↔ 0<Ze t.ai.own s)->∀ u,u<s+1->Ze t.ai.own u<=2/\Yb t.maps (u:Int)<=12/\(t.aT u≠0 ↔ 0<Ze t.ai.own u):=fun h u hu=>by
     by_cases e:u=s
     ·subst e;exact h
     ·exact oU u af
    have qz:¬ (Ze t.ai.own s<=2/\Yb t.maps (s:Int)<=12/\(t.aT s≠0 ↔ 0<Ze t.ai.own s))->¬ GT t:=fun h hg=>h ⟨hg.two s lO,hg.many s lO,hg.home s lO⟩;generalize Ze t.ai.own s=nB at *
    generalize Yb t.maps (s:Int)=nO at *
    generalize t.aT s=hm at *
    by_cases c1:2<nB
    ·have d1:decide (2 < (nB:Int))=true:=by rw[decide_eq_true_eq];omega
     have hb:=uq (qz af);refine Qa ?_;refine Up pz (An @jV @d1) ?_;refine jw @d1 ?_;refine jw @d1 ?_;refine Yc ?_;exact Qi @hb
    ·have d1:decide (2 < (nB:Int))=false:=by rw[decide_eq_false_iff_not];omega
     by_cases c2:12<nO
     ·have d2:decide (12 < (nO:Int))=true:=by rw[decide_eq_true_eq];omega
      have hb:=uq (qz af);refine Qa ?_;refine Up pz (An @jV @d1) ?_
      ((refine FG pz ?_ ?_ ?_);(focus (have aQ:=@jW;have bw:=@d1;have bQ:=@d2;refine XG ?_;clear aQ bw bQ;try first|exact rfl|exact True.intro));(focus (have aQ:=@jW;have bw:=@d1;have bQ:=@d2;refine XG ?_;clear aQ bw bQ;try trivial));(have aQ:=@jW;have bw:=@d1;have bQ:=@d2;refine XG ?_;clear aQ bw bQ;((try with_reducible and_intros);all_goals try first|refine zm ?_|exact CL)))
      refine jw (An @d1 @d2) ?_;refine Yc ?_;exact Qi @hb
     ·have d2:decide (12 < (nO:Int))=false:=by rw[decide_eq_false_iff_not];omega
      refine Qa ?_;refine Up pz (An @jV @d1) ?_
      ((refine FG pz ?_ ?_ ?_);(focus (have aQ:=@jW;have bw:=@d1;have bQ:=@d2;have cy:=@e2;have dh:=@eh;refine XG ?_;clear aQ bw bQ cy dh;try first|exact rfl|exact True.intro));(focus (have aQ:=@jW;have bw:=@d1;have bQ:=@d2;have cy:=@e2;have dh:=@eh;refine XG ?_;clear aQ bw bQ cy dh;try trivial));(have aQ:=@jW;have bw:=@d1;have bQ:=@d2;have cy:=@e2;have dh:=@eh;refine XG ?_;clear aQ bw bQ cy dh;((try with_reducible and_intros);all_goals try first|refine zm ?_|exact CL)))
      ((refine FG pz ?_ ?_ ?_);(focus (have aQ:=@jV;have bw:=@d1;have bQ:=@d2;refine XG ?_;clear aQ bw bQ;try first|exact rfl|exact True.intro));(focus (have aQ:=@jV;have bw:=@d1;have bQ:=@d2;refine XG ?_;clear aQ bw bQ;try trivial));(have aQ:=@jV;have bw:=@d1;have bQ:=@d2;refine XG ?_;clear aQ bw bQ;((try with_reducible and_intros);all_goals try first|refine zm ?_|exact CL)))
      refine Qb ?_ ?_<;>intro FO
      ·have hb:=uq (qz (by rw[Xa2]at FO;omega));exact Qi @hb
      ·refine Qa ?_;refine ⟨s+1,⟨by omega,pA (by rw[Xa2]at FO;omega)⟩,⟨[],?_⟩,by omega⟩;exact Qp
   ·have:s=8:=by omega
    subst this;have hb:Zp t=true:=(vG t).2 (Kv.2 ⟨ur,FJ.1,FJ.2,fun i hi=>(by
     have h1:=hua i hi;have h2:0<=t.ai.own.getD i 0:=by
      have kf:i<t.ai.own.length:=by omega
      rw[List.getD_eq_getElem?_getD,getElem?_eq_getElem kf];exact (Qvu ur (getElem_mem kf)).1
     rw[<- h1];omega),fun u hu=>(oU u hu).1,fun u hu=>(oU u hu).2.1,fun u hu=>(oU u hu).2.2⟩)
    exact Qi @hb
def FQ {t:Tb}(h:t.wf)(x y:AV):(t.hd++[x]).set 29 y=t.hd++[y]:=by
 rw[List.set_append_right _ _ (by rw[Tb.bU h];exact Nat.le_refl _),Tb.bU h];rfl
def Xw2 (ht:t.wf)(hl:t.maps.length<=3518437208780):GS Tryz.prog gl 157 [.agg t.enc] [] 0 (.agg (t.hd++[.sl 5 0 0 t.maps.length t.maps.length])) [(0,.cells (bH t.maps))] 1:=by
 refine Xwz.gs (ap rfl) aw fun c hN hg=>?_
 conv in aG _ _=>cbv
 have e2:=Tb.au ht;have e3:=Tb.b6 ht;have aD:=Yl t.maps;have hs:=Tb.jc ht;have fP:=Tb.bU ht;have cx:(bH t.maps).take (t.maps.length*5)=bH t.maps:=take_of_length_le af;refine Qd (An @e2 @e3) ?_;refine Ym (An @aD @cx) ?_;refine Qd (An @hs (An @fP @e2)) ?_;refine ⟨[(0,2)],?_⟩;exact Qp
def uv (t:Tb)(S:Nat)(k:Nat):List Nat:=(List.range' k (6-k)).filter fun q=>t.ai.ow (t.aT S-1).toNat q==(S:Int)+1
def sI (t:Tb)(S k i:Nat):List Int:=(if t.ai.ow (t.aT S-1).toNat k=(S:Int)+1/\k<6 then (Zn k).drop i else [])++(uv t S (k+1)).flatMap Zn
def Xvl (S:Nat):uv t S 0=Zl t S 6:=by unfold uv Zl;rw[List.range_eq_range']
def Qu4 (S k:Nat)(hk:k<6):(uv t S k).flatMap Zn=sI t S k 0:=by
 unfold sI;have e:uv t S k=(if t.ai.ow (t.aT S-1).toNat k=(S:Int)+1/\k<6 then [k] else [])++uv t S (k+1):=by
  unfold uv;rw[show 6-k=(6-(k+1))+1 by omega,List.range'_succ,filter_cons];generalize t.ai.ow (t.aT S-1).toNat k=x;by_cases h:x=(S:Int)+1<;>simp[h,hk]
 rw[e,List.flatMap_append];split<;>simp
set_option maxRecDepth 20000 in
def Xm6 (ht:t.ok)(hh:Hid (∀ s,s<8->-9223372036854775808<=t.aT s/\t.aT s<=9223372036854775807))(ae s aF draw:Int)(h:Zp t=false\/Yr ae s aF=false):PS Tryz.prog gl 110 [.agg t.enc,.int .i64 ae,.int .i64 s,.int .i64 aF,.int .i64 draw] (Xr t cM false 2):=by
 refine JA.ps (ap rfl) (by simp[KL]) fun c hN hg=>?_
 conv in aG _ _=>cbv
 have e2:=Tb.au ht.wf;have hG:=KY c.gl t ht hh;have hK:=QO c.gl ae;by_cases aV:Zp t=true
 ·rw[aV]at hG;have hk:Yr ae s aF=false:=h.resolve_left (by rw[aV];simp);have Fc:Yr ae s aF=(vN ae&&decide (0<=s)&&decide (s<8)&&decide (0<=aF)&&decide (aF<=65535)):=rfl;rw[Fc]at hk;cases hp:vN ae with
  | false =>
   rw[hp]at hK;refine Qd @e2 ?_;refine Qk hG @e2 ?_;refine Xd hK ?_;refine Yc ?_;exact Qi (An @e2 (An @Xr.eq_1 (An @Mp.enc.eq_1 @cM.eq_1)))
  | true =>
   rw[hp]at hK hk;refine Qd @e2 ?_;refine Qk hG @e2 ?_;refine Xd hK ?_;refine Qb ?_ ?_<;>intro h1
   ·exact Qi (An @e2 (An @Xr.eq_1 (An @Mp.enc.eq_1 @cM.eq_1)))
   ·exfalso;simp at hk;omega
 ·have aV:Zp t=false:=by simpa using aV
  rw[aV]at hG;refine Qd @e2 ?_;refine Qk hG @e2 ?_;refine Xy ?_;refine Yc ?_;exact Qi (An @e2 (An @Xr.eq_1 (An @Mp.enc.eq_1 @cM.eq_1)))
set_option maxRecDepth 20000 in
def Xuu (gl:Nat->AV)(t:Tb)(ht:t.ok)(hh:Hid (∀ s,s<8->-9223372036854775808<=t.aT s/\t.aT s<=9223372036854775807))(ep:dx t)(ae:Int)(S:Nat)(aF draw:Int)(bh:Yr ae S aF=true)(R:AV)(ik:Qe 0 R)
  (H1:Hid (∀ m,t.maps.find? (Xz ae S aF)=some m->R=Xr t m false 0))
  (H2:Hid (t.maps.find? (Xz ae S aF)=none->12<=Yb t.maps S->R=Xr t cM false 6))
  (H3:Hid (t.maps.find? (Xz ae S aF)=none→¬ 12≤Yb t.maps S→(∀ port,Jl t ae (t.aT S - 1) (Js t S)=some port→R=Xr (t.add ⟨ae,S,aF,t.aT S - 1,port⟩) ⟨ae,S,aF,t.aT S - 1,port⟩ false 0) ∧
   (Jl t ae (t.aT S - 1) (Js t S)=none→(2≤(Js t S).length→R=Xr t cM false 6)∧(¬ 2≤(Js t S).length→(1≤t.aT S→R=Ww (t.tk ae S aF (t.aT S - 1) draw)) ∧
    (¬ 1<=t.aT S->((t.ai.pick draw).2≠0->R=Xr t cM false (t.ai.pick draw).2)/\((t.ai.pick draw).2=0->R=Ww (t.tk ae S aF (t.ai.pick draw).1 draw))))))) :
  PS Tryz.prog gl 110 [.agg t.enc,.int .i64 ae,.int .i64 S,.int .i64 aF,.int .i64 draw] R:=by
 refine JA.ps (ap rfl) ik fun c hN hg=>?_
 conv in aG _ _=>cbv
 have e2:=Tb.au ht.wf;have e3:=Tb.b6 ht.wf;have hG:=KY c.gl t ht hh;rw[Fj ep]at hG;have hK:=QO c.gl ae;have Fc:Yr ae S aF=(vN ae&&decide ((0:Int)<=S)&&decide ((S:Int)<8)&&decide (0<=aF)&&decide (aF<=65535)):=rfl;have lY:vN ae=true:=by rw[Fc]at bh;simp only[Bool.and_eq_true]at bh;exact bh.1.1.1.1
 rw[lY]at hK;have hF:=Xyj c.gl t ht.wf ht.len ae S aF;have aD:=Yl t.maps;obtain ⟨_,⟨_,jb⟩,hi0,nU⟩:=Jv bh;have jb:S<8:=by omega
 have CN:=Tb.jE ep ht.wf jb;have uf:=xF ep;have eh:=Tb.dR ht.wf jb;have QX:=Kv.1 ep;have uma:=QX.many S jb;have QY:=CR (QX.dk S) ht.wf;have nf:=QX.two S jb;rw[QY]at nf;cases jm:t.maps.find? (Xz ae S aF) with
 | some m =>
  have hR:=H1.out m jm;rw[jm]at hF;unfold gb Mp.enc at hF;subst hR;refine Qd @e2 ?_;refine Qk hG @e2 ?_;refine Xd hK ?_;refine Qb ?_ ?_<;>intro h1
  ·omega
  refine Qd @e2 ?_;refine Qk hF @e2 ?_;refine Yc ?_;exact Qi (An @e2 (An @Xr.eq_1 @Mp.enc.eq_1))
 | none =>
  rw[jm]at hF;unfold gb cM Mp.enc at hF;dsimp only at hF;refine Qd @e2 ?_;refine Qk hG @e2 ?_;refine Xd hK ?_;refine Qb ?_ ?_<;>intro h1
  ·omega
  refine Qd @e2 ?_;refine Qk hF @e2 ?_;refine Yc ?_;refine Qd (An @e2 @e3) ?_
  refine Qu (fun k:Nat=>k≤t.maps.length)
   (fun k=>⟨[(1,.int .i64 ae),(2,.int .i64 S),(3,.int .i64 aF),(4,.int .i64 draw),(5,.ptr 0 0),(10,.ptr 1 0),(11,.ptr 2 0),(14,.ptr 3 0),(17,.int .i64 (Yb (t.maps.take k) S)),(18,.int .i64 0),(74,.isl t.maps.length (bH t.maps)),(75,.int .i64 t.maps.length),(76,.int .i64 k)],[(0,.cells t.enc),(1,.cells Wh),(2,.cells z5),(3,.cells z5)],4⟩) (fun k=>t.maps.length-k) JA.mixed hN
   ⟨0,by omega,[],by exact Qi (An @Wh.eq_1 (An @eK.eq_1 @z5.eq_1))⟩ fun k hk=>?_
  refine Qa ?_;refine Qb ?_ ?_<;>intro h3
  ·have bh:k < t.maps.length:=by omega
   have aL:=rf t.maps k bh;have ox:=Qu0 t.maps k bh S;have Ag:=PX t.maps k S;generalize t.maps[k]=m at *
   obtain ⟨mp,ms,mi,ma,mt⟩:=m;simp only[Mp.enc]at aL;dsimp only at ox;refine Qd (An @aD @aL) ?_;refine Qb ?_ ?_<;>intro h4
   ·rw[am af]at ox;refine Qa ?_;refine ⟨k+1,by omega,⟨[],?_⟩,by omega⟩;exact Qi @ox
   ·rw[aa af]at ox;refine Qa ?_;refine ⟨k+1,by omega,⟨[],?_⟩,by omega⟩;exact Qi @ox
  ·have:k=t.maps.length:=by omega
   subst this;have dN:t.maps.take t.maps.length=t.maps:=take_length;rw[dN];have xG:=Lib.hid (H2.out jm);have Ft:=Lib.hid (H3.out jm);clear H1 H2 H3;generalize Yb t.maps S=many at *
   refine Qa ?_;refine Qb ?_ ?_<;>intro h4
   ·have hR:=xG.out af;subst hR;exact Qi (An @e2 (An @Xr.eq_1 (An @Mp.enc.eq_1 (An @cM.eq_1 (An @Wh.eq_1 (An @eK.eq_1 @z5.eq_1))))))
   have mJ:=Lib.hid (Ft.out af);clear Ft xG;have hCp:=Xw2 c.gl t ht.wf af;have fP:=Tb.bU ht.wf;have aV:=fun x=>Fv ht.wf x;refine Qd @e2 ?_;refine Zv (ip []) hCp (An @e2 (An @fP @eh)) ?_;have m9:Jl t ae (t.aT S-1) (Js t S)=if 1<=t.aT S then (sI t S 0 0).find? (mI t ae (t.aT S-1)) else none:=by
    unfold Jl Js;split
    ·rw[<- Xvl,Qu4 t S 0 af]
    ·rfl
   have sC:(Js t S).length=if 1<=t.aT S then (Zl t S 6).length else 0:=by unfold Js;split<;>rfl
   refine Qu (fun j:Nat=>j≤48∧(¬ 1≤t.aT S→j=0)∧(1≤t.aT S→(sI t S (j / 8) (j % 8)).find? (mI t ae (t.aT S - 1))=Jl t ae (t.aT S - 1) (Js t S)))
    (fun j=>⟨[(1,.int .i64 ae),(2,.int .i64 S),(3,.int .i64 aF),(4,.int .i64 draw),(5,.ptr 0 0),(10,.ptr 1 0),(11,.ptr 2 0),(14,.ptr 3 0),(18,.int .i64 (if 1<=t.aT S then (Zl t S ((j+7)/8)).length else 0:Nat)),(21,.ptr 5 0),(22,.int .i64 (t.aT S-1)),(23,.int .i64 (1024+j))],[(0,.cells t.enc),(1,.cells Wh),(2,.cells z5),(3,.cells z5),(4,.cells (bH t.maps)),(5,.cells (t.hd++[.sl 5 4 0 t.maps.length t.maps.length]))],6⟩) (fun j=>48-j) JA.mixed hN
    ⟨0,⟨by omega,fun _=>rfl,fun h=>by rw[m9,am h]⟩,[],by refine Qa ?_<;>first|omega|(simp[Zl];done)⟩ fun j hj=>?_
   obtain ⟨hj,hj0,vQ⟩:=hj;by_cases ib:1<=t.aT S;rotate_left
   ·-- no home
    have:=hj0 ib;subst this;rw[aa ib]at sC;rw[aa ib];have qw:=Lib.hid (mJ.out.2 (by rw[m9,aa ib]));refine Qa ?_;refine Qb ?_ ?_<;>intro h5
    ·omega
    refine Qa ?_;refine Yc ?_;refine Qa ?_;refine Qb ?_ ?_<;>intro h7;rotate_left
    ·omega
    have Ai:=(qw.out.2 af).2 ib;have qx:=Lib.hid Ai.1;have qy:=Lib.hid Ai.2;clear mJ qw Ai;have e4:=Tb.dw ht.wf;have hP:=Xu0 c.gl t.ai ht.wf.ai draw;have FR:=ZS t.ai draw;generalize t.ai.pick draw=pk at *
    obtain ⟨pa,pe⟩:=pk;dsimp only at qx qy hP;refine Qd (An @e2 @e4) ?_;refine Qk hP @e2 ?_;refine Qb ?_ ?_<;>intro h8
    ·have hR:=qx.out h8;subst hR;exact Qi (An @e2 (An @Xr.eq_1 (An @Mp.enc.eq_1 (An @cM.eq_1 (An @Wh.eq_1 (An @eK.eq_1 @z5.eq_1))))))
    have ny:pe=0:=by simpa using h8
    subst ny;have oA:=Lib.hid (qy.out rfl);have hpa:0<=pa/\pa<3:=by
     cases FR with
     | no e he=>exact (he rfl).elim
     | yes b j3 _ _ _=>omega
    clear h8 FR qx qy;refine Qa ?_;have hT:=Xao c.gl t.ai ht.wf.ai S pa draw;have oB:=Ff t.ai ht.wf.ai S pa draw;have la:=aq.iX t.ai ht.wf.ai S pa draw;generalize hx:t.ai.take S pa draw=x at *
    obtain ⟨tp,tk,te⟩:=x;unfold lK at hT;dsimp only at hT la;have vH:=aq.au la;refine Qd (An @e2 @e4) ?_;refine Qk hT (An @e2 @vH) ?_;refine Qb ?_ ?_<;>intro h9
    ·have hR:=oA.out.trans (show Ww (t.tk ae S aF pa draw)=Xr t cM false te by unfold Tb.tk Ww;rw[hx];simp[h9]);subst hR;exact Qi (An @e2 (An @Xr.eq_1 (An @Mp.enc.eq_1 (An @cM.eq_1 (An @Wh.eq_1 (An @eK.eq_1 @z5.eq_1))))))
    have Ah:te=0:=by simpa using h9
    subst Ah;cases oB with
    | no _ he=>exact (he rfl).elim
    | yes b kk As j3 fg _ _ en _ _ _ =>
    have hR:=oA.out.trans (show Ww (t.tk ae S aF pa draw)=Xr (Tb.add ⟨t.ai.put b kk (S+1),t.home.set S (pa+1),t.maps⟩ ⟨ae,S,aF,pa,1024+(kk:Int)*8⟩) ⟨ae,S,aF,pa,1024+(kk:Int)*8⟩ true 0 by unfold Tb.tk Ww;rw[hx];rfl);subst hR;clear oA;have ef:=fun x=>P4 ht.wf la x;have fM:(⟨t.ai.put b kk (S+1),t.home,t.maps⟩:Tb).wf:=⟨la,ht.wf.home⟩
    have sF:=fun x=>KM fM jb (pa+1) x;have dV:(⟨t.ai.put b kk (S+1),t.home.set S (pa+1),t.maps⟩:Tb).wf:=⟨la,by rw[length_set];exact ht.wf.home⟩
    have oD:=Tb.bU fM;have hl2:=Tb.bU dV;have oX:=fun x=>Fv dV x;have yG:=fun x y=>FQ dV x y;dsimp only at sF;have hmul:(8:Int)*(kk:Int)=(kk:Int)*8:=Int.mul_comm _ _;have hq:Xr (Tb.add ⟨t.ai.put b kk (S+1),t.home.set S (pa+1),t.maps⟩ ⟨ae,S,aF,pa,1024+(kk:Int)*8⟩) ⟨ae,S,aF,pa,1024+(kk:Int)*8⟩ true 0=.aR [.agg ((⟨t.ai.put b kk (S+1),t.home.set S (pa+1),t.maps⟩:Tb).hd++[.isl (t.maps.length+1) (bH t.maps++[.int .i64 ae,.int .i64 S,.int .i64 aF,.int .i64 pa,.int .i64 (1024+(kk:Int)*8)])]),.agg [.int .i64 ae,.int .i64 S,.int .i64 aF,.int .i64 pa,.int .i64 (1024+(kk:Int)*8)],.bool true,.int .i64 0]:=by
     have:=CG t.maps ⟨ae,S,aF,pa,1024+(kk:Int)*8⟩;dsimp only at this;rw[this];simp[Xr,Tb.add,Tb.enc,Tb.hd,Mp.enc]
    have ec:(bH t.maps++[AV.int .i64 ae,.int .i64 S,.int .i64 aF,.int .i64 pa,.int .i64 (1024+(kk:Int)*8)]).take ((t.maps.length+1)*5)=bH t.maps++[.int .i64 ae,.int .i64 S,.int .i64 aF,.int .i64 pa,.int .i64 (1024+(kk:Int)*8)]:=take_of_length_le (by simp[Yl];omega);have cx:(bH t.maps).take (t.maps.length*5)=bH t.maps:=take_of_length_le af;rw[hq];generalize (⟨t.ai.put b kk (S+1),t.home.set S (pa+1),t.maps⟩:Tb)=T2 at *
    generalize (⟨t.ai.put b kk (S+1),t.home,t.maps⟩:Tb)=T1 at *
    refine Qd (An @fP (An @ef (An @sF (An @vH (An @oD (An @hl2 (An @oX @hmul))))))) ?_;refine Ym (An @hl2 @oX) ?_;exact II (An @aD (An @cx (An @hl2 (An @yG (An @map_append.{0,0} (An @ec (An @Wh.eq_1 (An @eK.eq_1 @z5.eq_1))))))))
   ·rw[am ib]at sC;rw[am ib];have vQ:=vQ ib;obtain ⟨a,ha⟩:=Int.eq_ofNat_of_zero_le (show 0≤t.aT S - 1 by omega);have jD:a < 3:=by omega
    have tV:(t.aT S-1).toNat=a:=by omega
    rw[ha]at vQ m9;rw[ha];have Au:=mJ.out;rw[ha]at Au;have mJ:=Lib.hid Au;clear Au;by_cases upa:j<48
    ·have fg:j / 8 < 6:=by omega
     have pq:=KS (i:=j%8) fg af;rw[show (1024+((j/8:Nat):Int)*8+((j%8:Nat):Int))=1024+(j:Int) by omega]at pq;have ic:=CS c.gl (1024+(j:Int)) af;unfold lL at ic;rw[pq.1,pq.2]at ic;simp only[if_true]at ic;have hm8:(1024+(j:Int)-1024)%8=((j%8:Nat):Int):=by omega
     rw[hm8]at ic;have eo:=Tb.kZ ht.wf jD fg;have gL:=PG t S (j/8);rw[tV]at gL;have sJ:sI t S (j/8) (j%8)=(if t.ai.ow a (j/8)=(S:Int)+1/\j/8<6 then (Zn (j/8)).drop (j%8) else [])++(uv t S (j/8+1)).flatMap Zn:=by unfold sI;rw[tV]
     have cp:sI t S ((j+1)/8) ((j+1)%8)=(if t.ai.ow a (j/8)=(S:Int)+1/\j/8<6 then (Zn (j/8)).drop (j%8+1) else [])++(uv t S (j/8+1)).flatMap Zn:=by
      by_cases h8:j%8=7
      ·rw[show (j + 1) / 8=j / 8 + 1 by omega,show (j + 1) % 8=0 by omega];by_cases h5:j / 8 + 1 < 6
       ·rw[<- Qu4 t S _ h5];rw[h8];split<;>simp[Zn]
       ·have:j / 8=5:=by omega
        rw[h8,this];unfold sI;rw[aa af];split<;>simp[Zn,uv]
      ·rw[show (j+1)/8=j/8 by omega,show (j+1)%8=j%8+1 by omega];unfold sI;rw[tV]
     have xO:j%8=0->Zl t S ((j+1+7)/8)=Zl t S ((j+7)/8)++(if t.ai.ow a (j/8)=(S:Int)+1 then [j/8] else []):=fun h=>by
      rw[show (j+1+7)/8=j/8+1 by omega,show (j+7)/8=j/8 by omega];exact gL
     have xP:j%8≠0->(j+1+7)/8=(j+7)/8:=fun h=>by omega
     have ura:=PH t S ((j+7)/8);refine Qa ?_;refine Qb ?_ ?_<;>intro h5;rotate_left
     ·omega
     refine Qa ?_;refine Qk ic (An @e2 @eo) ?_;have QZ:∀ x:Nat,(if 1<=t.aT S then x else 0)=x:=fun x=>am ib;have hB:=Qz4 c.gl t ht.wf ht.len ae a (1024+(j:Int));have FU:=fun r=>Xa9 (j/8) t ae a r (j%8) af;rw[show (1024+((j/8:Nat):Int)*8+((j%8:Nat):Int))=1024+(j:Int) by omega]at FU;have Av:(1024:Int)+(j:Int)+1=1024+((j+1:Nat):Int):=by omega
     generalize t.ai.ow a (j/8)=ow at *
     refine Qb ?_ ?_<;>intro qA
     ·have mL:(Zl t S ((j+1+7)/8)).length=(Zl t S ((j+7)/8)).length:=by
       by_cases h0:j%8=0
       ·rw[xO h0,aa qA,List.append_nil]
       ·rw[xP h0]
      refine Qa ?_;refine ⟨j+1,⟨by omega,fun h=>(h ib).elim,fun _=>?_⟩,⟨[],?_⟩,by omega⟩
      ·rw[cp,aa fun h=>qA h.1,<- vQ,sJ,aa fun h=>qA h.1]
      ·exact Qi (An @QZ (An @mL @Av))
     ·have qA:ow=(S:Int) + 1:=by simpa using qA
      refine Qa ?_;refine Qb ?_ ?_<;>intro h7
      ·have CV:j % 8=0:=by omega
       have mL:(Zl t S ((j+1+7)/8)).length=(Zl t S ((j+7)/8)).length+1:=by
        rw[xO CV,am qA,List.length_append];rfl
       refine Qa ?_;cases rh:t.maps.find? (Ja ae a (1024+(j:Int))) with
       | some m =>
        rw[rh]at hB;unfold gb Mp.enc at hB;refine Qd @e2 ?_;refine Qk hB @e2 ?_;refine Yc ?_;refine Qa ?_;refine ⟨j+1,⟨by omega,fun h=>(h ib).elim,fun _=>?_⟩,⟨[],?_⟩,by omega⟩
        ·rw[cp,am ⟨qA,fg⟩,← vQ,sJ,am ⟨qA,fg⟩,FU];have:mI t ae a (1024 + (j:Int))=false:=by unfold mI;rw[rh];rfl
         rw[this,aa aw]
        ·exact Qi (An @QZ (An @mL @Av))
       | none =>
        rw[rh]at hB;unfold gb cM Mp.enc at hB;dsimp only at hB;have hF:Jl t ae a (Js t S)=some (1024+(j:Int)):=by
         rw[<- vQ,sJ,am ⟨qA,fg⟩,FU];have:mI t ae a (1024+(j:Int))=true:=by unfold mI;rw[rh];rfl
         rw[am this]
        have hR:=mJ.out.1 _ hF;have hq:Xr (t.add ⟨ae,S,aF,a,1024+(j:Int)⟩) ⟨ae,S,aF,a,1024+(j:Int)⟩ false 0=.aR [.agg (t.hd++[.isl (t.maps.length+1) (bH t.maps++[.int .i64 ae,.int .i64 S,.int .i64 aF,.int .i64 a,.int .i64 (1024+(j:Int))])]),.agg [.int .i64 ae,.int .i64 S,.int .i64 aF,.int .i64 a,.int .i64 (1024+(j:Int))],.bool false,.int .i64 0]:=by
         have:=CG t.maps ⟨ae,S,aF,a,1024+(j:Int)⟩;dsimp only at this;rw[this];simp[Xr,Tb.add,Tb.enc,Tb.hd,Mp.enc]
        have ec:(bH t.maps++[AV.int .i64 ae,.int .i64 S,.int .i64 aF,.int .i64 a,.int .i64 (1024+(j:Int))]).take ((t.maps.length+1)*5)=bH t.maps++[.int .i64 ae,.int .i64 S,.int .i64 aF,.int .i64 a,.int .i64 (1024+(j:Int))]:=take_of_length_le (by simp[Yl];omega);have cx:(bH t.maps).take (t.maps.length*5)=bH t.maps:=take_of_length_le af;have sK:=fun x y=>FQ ht.wf x y;rw[hq]at hR;subst hR;refine Qd @e2 ?_;refine Qk hB @e2 ?_;refine Yc ?_;refine Qd (An @aV @fP) ?_;refine Ym (An @aV @fP) ?_;exact II (An @aD (An @cx (An @fP (An @sK (An @map_append.{0,0} (An @ec (An @Wh.eq_1 (An @eK.eq_1 @z5.eq_1))))))))
      ·have CV:j % 8≠0:=by omega
       have mL:(Zl t S ((j+1+7)/8)).length=(Zl t S ((j+7)/8)).length:=by rw[xP CV]
       cases rh:t.maps.find? (Ja ae a (1024+(j:Int))) with
       | some m =>
        rw[rh]at hB;unfold gb Mp.enc at hB;refine Qd @e2 ?_;refine Qk hB @e2 ?_;refine Yc ?_;refine Qa ?_;refine ⟨j+1,⟨by omega,fun h=>(h ib).elim,fun _=>?_⟩,⟨[],?_⟩,by omega⟩
        ·rw[cp,am ⟨qA,fg⟩,← vQ,sJ,am ⟨qA,fg⟩,FU];have:mI t ae a (1024 + (j:Int))=false:=by unfold mI;rw[rh];rfl
         rw[this,aa aw]
        ·exact Qi (An @QZ (An @mL @Av))
       | none =>
        rw[rh]at hB;unfold gb cM Mp.enc at hB;dsimp only at hB;have hF:Jl t ae a (Js t S)=some (1024+(j:Int)):=by
         rw[<- vQ,sJ,am ⟨qA,fg⟩,FU];have:mI t ae a (1024+(j:Int))=true:=by unfold mI;rw[rh];rfl
         rw[am this]
        have hR:=mJ.out.1 _ hF;have hq:Xr (t.add ⟨ae,S,aF,a,1024+(j:Int)⟩) ⟨ae,S,aF,a,1024+(j:Int)⟩ false 0=.aR [.agg (t.hd++[.isl (t.maps.length+1) (bH t.maps++[.int .i64 ae,.int .i64 S,.int .i64 aF,.int .i64 a,.int .i64 (1024+(j:Int))])]),.agg [.int .i64 ae,.int .i64 S,.int .i64 aF,.int .i64 a,.int .i64 (1024+(j:Int))],.bool false,.int .i64 0]:=by
         have:=CG t.maps ⟨ae,S,aF,a,1024+(j:Int)⟩;dsimp only at this;rw[this];simp[Xr,Tb.add,Tb.enc,Tb.hd,Mp.enc]
        have ec:(bH t.maps++[AV.int .i64 ae,.int .i64 S,.int .i64 aF,.int .i64 a,.int .i64 (1024+(j:Int))]).take ((t.maps.length+1)*5)=bH t.maps++[.int .i64 ae,.int .i64 S,.int .i64 aF,.int .i64 a,.int .i64 (1024+(j:Int))]:=take_of_length_le (by simp[Yl];omega);have cx:(bH t.maps).take (t.maps.length*5)=bH t.maps:=take_of_length_le af;have sK:=fun x y=>FQ ht.wf x y;rw[hq]at hR;subst hR;refine Qd @e2 ?_;refine Qk hB @e2 ?_;refine Yc ?_;refine Qd (An @aV @fP) ?_;refine Ym (An @aV @fP) ?_;exact II (An @aD (An @cx (An @fP (An @sK (An @map_append.{0,0} (An @ec (An @Wh.eq_1 (An @eK.eq_1 @z5.eq_1))))))))
    ·have:j=48:=by omega
     subst this;have e48:(48+7)/8=6:=rfl;rw[e48,<- sC]at *
     have FV:Jl t ae a (Js t S)=none:=by
      rw[<- vQ];show (sI t S 6 0).find? _=none;unfold sI;rw[aa af];rfl
     have qw:=Lib.hid (mJ.out.2 FV);have qx:=Lib.hid qw.out.1;have qy:=Lib.hid qw.out.2;clear mJ qw;refine Qa ?_;refine Qb ?_ ?_<;>intro h5
     ·omega
     refine Qa ?_;refine Qb ?_ ?_<;>intro h6
     ·have hR:=qx.out af;subst hR;exact Qi (An @e2 (An @Xr.eq_1 (An @Mp.enc.eq_1 (An @cM.eq_1 (An @Wh.eq_1 (An @eK.eq_1 @z5.eq_1))))))
     have oA:=Lib.hid ((qy.out af).1 ib);clear qx qy;have e4:=Tb.dw ht.wf;refine Qa ?_;refine Qb ?_ ?_<;>intro h7
     ·omega
     refine Qa ?_;have hT:=Xao c.gl t.ai ht.wf.ai S a draw;have oB:=Ff t.ai ht.wf.ai S a draw;have la:=aq.iX t.ai ht.wf.ai S a draw;generalize hx:t.ai.take S a draw=x at *
     obtain ⟨tp,tk,te⟩:=x;unfold lK at hT;dsimp only at hT la;have vH:=aq.au la;refine Qd (An @e2 @e4) ?_;refine Qk hT (An @e2 @vH) ?_;refine Qb ?_ ?_<;>intro h9
     ·have hR:=oA.out.trans (show Ww (t.tk ae S aF a draw)=Xr t cM false te by unfold Tb.tk Ww;rw[hx];simp[h9]);subst hR;exact Qi (An @e2 (An @Xr.eq_1 (An @Mp.enc.eq_1 (An @cM.eq_1 (An @Wh.eq_1 (An @eK.eq_1 @z5.eq_1))))))
     have Ah:te=0:=by simpa using h9
     subst Ah;cases oB with
     | no _ he=>exact (he rfl).elim
     | yes b kk As j3 fg _ _ en _ _ _ =>
     have hR:=oA.out.trans (show Ww (t.tk ae S aF a draw)=Xr (Tb.add ⟨t.ai.put b kk (S+1),t.home.set S (a+1),t.maps⟩ ⟨ae,S,aF,a,1024+(kk:Int)*8⟩) ⟨ae,S,aF,a,1024+(kk:Int)*8⟩ true 0 by unfold Tb.tk Ww;rw[hx];rfl);subst hR;clear oA;have ef:=fun x=>P4 ht.wf la x;have fM:(⟨t.ai.put b kk (S+1),t.home,t.maps⟩:Tb).wf:=⟨la,ht.wf.home⟩
     have sF:=fun x=>KM fM jb ((a:Int)+1) x;have dV:(⟨t.ai.put b kk (S+1),t.home.set S (a+1),t.maps⟩:Tb).wf:=⟨la,by rw[length_set];exact ht.wf.home⟩
     have oD:=Tb.bU fM;have hl2:=Tb.bU dV;have oX:=fun x=>Fv dV x;have yG:=fun x y=>FQ dV x y;dsimp only at sF;have hmul:(8:Int)*(kk:Int)=(kk:Int)*8:=Int.mul_comm _ _;have hq:Xr (Tb.add ⟨t.ai.put b kk (S+1),t.home.set S (a+1),t.maps⟩ ⟨ae,S,aF,a,1024+(kk:Int)*8⟩) ⟨ae,S,aF,a,1024+(kk:Int)*8⟩ true 0=.aR [.agg ((⟨t.ai.put b kk (S+1),t.home.set S (a+1),t.maps⟩:Tb).hd++[.isl (t.maps.length+1) (bH t.maps++[.int .i64 ae,.int .i64 S,.int .i64 aF,.int .i64 a,.int .i64 (1024+(kk:Int)*8)])]),.agg [.int .i64 ae,.int .i64 S,.int .i64 aF,.int .i64 a,.int .i64 (1024+(kk:Int)*8)],.bool true,.int .i64 0]:=by
      have:=CG t.maps ⟨ae,S,aF,a,1024+(kk:Int)*8⟩;dsimp only at this;rw[this];simp[Xr,Tb.add,Tb.enc,Tb.hd,Mp.enc]
     have ec:(bH t.maps++[AV.int .i64 ae,.int .i64 S,.int .i64 aF,.int .i64 a,.int .i64 (1024+(kk:Int)*8)]).take ((t.maps.length+1)*5)=bH t.maps++[.int .i64 ae,.int .i64 S,.int .i64 aF,.int .i64 a,.int .i64 (1024+(kk:Int)*8)]:=take_of_length_le (by simp[Yl];omega);have cx:(bH t.maps).take (t.maps.length*5)=bH t.maps:=take_of_length_le af;rw[hq];generalize (⟨t.ai.put b kk (S+1),t.home.set S (a+1),t.maps⟩:Tb)=T2 at *
     generalize (⟨t.ai.put b kk (S+1),t.home,t.maps⟩:Tb)=T1 at *
     refine Qd (An @fP (An @ef (An @sF (An @vH (An @oD (An @hl2 (An @oX @hmul))))))) ?_;refine Ym (An @hl2 @oX) ?_;exact II (An @aD (An @cx (An @hl2 (An @yG (An @map_append.{0,0} (An @ec (An @Wh.eq_1 (An @eK.eq_1 @z5.eq_1))))))))
def Xz7 (ht:t.ok)(hh:Hid (∀ s,s<8->-9223372036854775808<=t.aT s/\t.aT s<=9223372036854775807))(ae s aF draw:Int):PS Tryz.prog gl 110 [.agg t.enc,.int .i64 ae,.int .i64 s,.int .i64 aF,.int .i64 draw] (Ww (t.ca ae s aF draw)):=by
 by_cases hb:Zp t=false\/Yr ae s aF=false
 ·have e:t.ca ae s aF draw=(t,cM,false,2):=am hb;rw[e];exact Xm6 gl t ht hh ae s aF draw hb
 have e:t.ca ae s aF draw=match t.maps.find? (Xz ae s aF) with
  | some m=>(t,m,false,0)
  | none =>
   if 12<=Yb t.maps s then (t,cM,false,6) else
   match Jl t ae (t.aT s.toNat-1) (Js t s.toNat) with
   | some port=>(t.add ⟨ae,s,aF,t.aT s.toNat-1,port⟩,⟨ae,s,aF,t.aT s.toNat-1,port⟩,false,0)
   | none =>
    if 2<=(Js t s.toNat).length then (t,cM,false,6) else
    if 1<=t.aT s.toNat then t.tk ae s aF (t.aT s.toNat-1) draw else
    if (t.ai.pick draw).2≠0 then (t,cM,false,(t.ai.pick draw).2) else t.tk ae s aF (t.ai.pick draw).1 draw:=aa hb
 have hg:Zp t=true:=by
  cases h:Zp t
  ·exact (hb (Or.inl h)).elim
  ·rfl
 have hk:Yr ae s aF=true:=by
  cases h:Yr ae s aF
  ·exact (hb (Or.inr h)).elim
  ·rfl
 obtain ⟨_,⟨fL,lO⟩,_⟩:=Jv hk;obtain ⟨S,rfl⟩:=Int.eq_ofNat_of_zero_le fL;rw[Int.toNat_natCast]at e;refine Xuu gl t ht hh ((vG t).1 hg) ae S aF draw hk _ (by rw[P1];trivial) (Lib.hid fun m hm=>?_) (Lib.hid fun hm fk=>?_) (Lib.hid fun hm fk=>⟨fun port hp=>?_,fun hp=>⟨fun h2=>?_,fun h2=>⟨fun h1=>?_,fun h1=>⟨fun hz=>?_,fun hz=>?_⟩⟩⟩⟩)
 ·rw[e,hm];rfl
 ·rw[e,hm];dsimp only;rw[am fk];rfl
 ·rw[e,hm];dsimp only;rw[aa fk,hp];rfl
 ·rw[e,hm];dsimp only;rw[aa fk,hp];dsimp only;rw[am h2];rfl
 ·rw[e,hm];dsimp only;rw[aa fk,hp];dsimp only;rw[aa h2,am h1]
 ·rw[e,hm];dsimp only;rw[aa fk,hp];dsimp only;rw[aa h2,aa h1,am hz];rfl
 ·rw[e,hm];dsimp only;rw[aa fk,hp];dsimp only;rw[aa h2,aa h1,aa (by simp[hz])]
section
variable {P:Program}{c:Cx}{s:St}
def R.FW {g:Nat->GM}{s:FS}{a:Act}{w:World}(hR:R c g s a w){b:Nat}{cs:List AV}{x y:AV}(hb:s.H b=.cells (cs++[x]))(OC:∀ (W:Nat->Prop) (v:Value),VR g W w x v->VR g W w y v):R c g (s.aH b (.cells (cs++[y]))) a w:=by
 have di:=hR.h b;rw[hb]at di;have aO:(s.H b).live:=by rw[hb];trivial
 generalize bW:g b=m at di;generalize hL:cs++[x]=L at di;cases di with
 | ph=>simp at hL
 | cells h1 h2 h3 h4 h5 =>
  subst hL;rename_i k cur e fz;refine hR.setBlock bW aO trivial (Fr.refl w _) (.cells h1 (by simpa using h2) (fun j hj=>h3 j (by simpa using hj)) (fun j hj=>?_) h5);have h6:=h4 j (by simpa using hj);by_cases eI:j<cs.length
  ·rw[List.getD_eq_getElem?_getD,List.getElem?_append_left eI]at h6 ⊢;exact h6
  ·have hje:j=cs.length:=by simp at hj;omega
   subst hje;rw[List.getD_eq_getElem?_getD,List.getElem?_append_right (Nat.le_refl _),Nat.sub_self]at h6 ⊢;exact OC _ _ h6
def Xa0 {b:TC}{Q:EX->St->Prop}(i es:Nat)(cs:List AV)(hb:s.fs.H i=.cells (cs++[.nils]))(hf:s.fs.H s.n=.free)
  (h:qS P c b Q ((⟨s.t,(s.n,.cells [])::s.h,s.n+1⟩:St).aH i (.cells (cs++[.sl es s.n 0 0 0])))):qS P c b Q s:=by
 intro code he g a w hR;have e:(⟨s.t,(s.n,.cells [])::s.h,s.n+1⟩:St).fs=s.fs.aH s.n (.cells []):=by
  refine qc (fun j=>rfl) (fun j=>?_);show Qc ((s.n,_)::s.h) (s.n+1) j=(s.fs.aH s.n _).H j;rw[Qf];unfold FS.aH;by_cases hj:j=s.n
  ·subst hj;simp
  ·have eI:¬ s.n=j:=fun q=>hj q.symm;simp only[hj,eI,if_false];exact Ku _ _ _ hj
 have hi:i≠s.n:=by rintro rfl;rw[hb]at hf;cases hf
 have h1:=hR.kL hf;refine h code he (Zg g s.n .ph) a w ?_;rw[St.cj,e];refine h1.FW (x:=.nils) ?_ fun W v hv=>?_
 ·show (if s.n=i then _ else s.fs.H i)=_;rw[aa (fun q=>hi q.symm)];exact hb
 ·obtain ⟨ad,rfl⟩:=DA hv;exact .kz B6 rfl
end
def nC (l:List Mp)(m:Mp)(k:Nat):List Mp:=(l.take k).filter fun o=>!decide (o=m)
def mM (l:List Mp)(m:Mp)(k:Nat):Bool:=(l.take k).any fun o=>decide (o=m)
def Qtw (k:Nat)(h:k<l.length):l.take (k+1)=l.take k++[l[k]]:=by rw[List.take_succ,getElem?_eq_getElem h];rfl
def Xx4 {l:List Mp}{m:Mp}{k:Nat}(h:k<l.length)(he:l[k]=m):nC l m (k+1)=nC l m k/\mM l m (k+1)=true:=by
 unfold nC mM;rw[Qtw l k h,filter_append,List.any_append];simp[filter_cons,he]
def Ycn {l:List Mp}{m:Mp}{k:Nat}(h:k<l.length)(he:l[k]≠m):nC l m (k+1)=nC l m k++[l[k]]/\mM l m (k+1)=mM l m k:=by
 unfold nC mM;rw[Qtw l k h,filter_append,List.any_append];simp[filter_cons,he]
def Xfd (k:Nat):(nC l m k).length<=k:=Nat.le_trans (List.length_filter_le _ _) (by rw[length_take];omega)
def Xlb {t:Tb}(h:t.wf){A K:Nat}(hA:A<3)(hK:K<6)(v:Int)(x:AV):(t.hd++[x]).set (A*6+K) (.int .i64 v)=(⟨t.ai.put A K v,t.home,t.maps⟩:Tb).hd++[x]:=by
 have hl:=h.ai.own;unfold Tb.hd aq.enc aq.put;rw[append_assoc,append_assoc,List.set_append_left _ _ (by rw[Xw,hl];omega),append_assoc,append_assoc];simp[Ql,List.map_set]
def Yef {t:Tb}(h:t.wf)(x:AV){a:Nat}(ha:a<3):((t.hd++[x]).drop (a*6)).take 6=Ql (t.ai.row a):=by
 have e:=Fg t.ai h.ai a ha;unfold Tb.hd;rw[append_assoc,List.drop_append_of_le_length (by rw[aq.au h.ai];omega),List.take_append_of_le_length (by rw[List.length_drop,aq.au h.ai];omega),e]
set_option maxRecDepth 20000 in
def Xi0 (ht:t.ok)(hh:Hid (∀ s,s<8->-9223372036854775808<=t.aT s/\t.aT s<=9223372036854775807))(m:Mp)(h:Zp t=false):PS Tryz.prog gl 118 [.agg t.enc,.agg m.enc] (Wu (t,false,2)):=by
 refine JB.ps (ap rfl) (by simp[Ak]) fun c hN hg=>?_
 conv in aG _ _=>cbv
 have e2:=Tb.au ht.wf;have hG:=KY c.gl t ht hh;rw[h]at hG;unfold Mp.enc;refine Qd @e2 ?_;refine Qk hG @e2 ?_;refine Yc ?_;exact Qi (An @e2 @Wu.eq_1)
set_option maxRecDepth 20000 in
def Qt7 (gl:Nat->AV)(t:Tb)(ht:t.ok)(hh:Hid (∀ s,s<8->-9223372036854775808<=t.aT s/\t.aT s<=9223372036854775807))(ep:dx t)(m:Mp)(eG:-9223372036854775808<=m.port/\m.port<=9223372036854775807)(L:List Mp)(hL:nC t.maps m t.maps.length=L)(R:AV)(ik:Qe 0 R)
  (H0:Hid (mM t.maps m t.maps.length=false->R=Wu (t,false,7)))
  (H1:Hid (mM t.maps m t.maps.length=true->0<L.countP (Jo m)->R=Wu (⟨t.ai,t.home,L⟩,false,0)))
  (H2:Hid (mM t.maps m t.maps.length=true->¬ 0<L.countP (Jo m)->R=Wu ((⟨t.ai,t.home,L⟩:Tb).bT m,true,0))) :
  PS Tryz.prog gl 118 [.agg t.enc,.agg m.enc] R:=by
 refine JB.ps (ap rfl) ik fun c hN hg=>?_
 conv in aG _ _=>cbv
 have e2:=Tb.au ht.wf;have e3:=Tb.b6 ht.wf;have hG:=KY c.gl t ht hh;rw[Fj ep]at hG;have uf:=xF ep;have aD:=Yl t.maps;have hs:=Tb.jc ht.wf;have fP:=Tb.bU ht.wf;have aV:=fun x=>Fv ht.wf x;have sK:=fun x y=>FQ ht.wf x y;have jP:=CS c.gl m.port eG;have um:∀ o:Mp,Jo m o=(decide (o.a=m.a)&&decide (Xc o.port=Xc m.port)):=fun _=>rfl;have hbl:=vM m.port;unfold lL at jP;obtain ⟨mp,ms,mi,ma,mt⟩:=m;dsimp only at *
 unfold Mp.enc;generalize (if Yo mt=true then (mt-1024)%8 else 0)=mj at *
 generalize CW:Yo mt=mq at *
 generalize BO:Xc mt=mk at *
 refine Qd @e2 ?_;refine Qk hG @e2 ?_;refine Yc ?_;refine Qd (An @hs (An @fP @e2)) ?_;refine Qk jP (An @fP (An @e2 @e3)) ?_;refine Xa0 3 5 t.hd ?_ ?_ ?_
 ·exact rfl
 ·exact rfl
 refine Qu (fun k:Nat=>k≤t.maps.length)
  (fun k=>⟨[(2,.ptr 0 0),(3,.ptr 1 0),(4,.ptr 2 0),(7,.ptr 3 0),(8,.int .i64 mk),(11,.int .i64 ((nC t.maps ⟨mp,ms,mi,ma,mt⟩ k).countP (Jo ⟨mp,ms,mi,ma,mt⟩):Nat)),(12,.bool (mM t.maps ⟨mp,ms,mi,ma,mt⟩ k)),(35,.isl t.maps.length (bH t.maps)),(36,.int .i64 t.maps.length),(37,.int .i64 k)],
   [(0,.cells t.enc),(1,.cells [.int .i64 mp,.int .i64 ms,.int .i64 mi,.int .i64 ma,.int .i64 mt]),(2,.cells Wh),(3,.cells (t.hd++[.sl 5 4 0 (nC t.maps ⟨mp,ms,mi,ma,mt⟩ k).length (nC t.maps ⟨mp,ms,mi,ma,mt⟩ k).length])),(4,.cells (bH (nC t.maps ⟨mp,ms,mi,ma,mt⟩ k)))],5⟩) (fun k=>t.maps.length-k) JB.mixed hN
  ⟨0,by omega,[],by (have aQ:=@St.aH.eq_1;have bw:=@Wh.eq_1;have bQ:=@eK.eq_1;refine XG ?_;clear aQ bw bQ;((try with_reducible and_intros);all_goals try first|refine zm ?_|exact CL))<;>exact rfl⟩ fun k hk=>?_
 refine Qa ?_;refine Qb ?_ ?_<;>intro h2
 ·have bh:k < t.maps.length:=by omega
  have aL:=rf t.maps k bh;have Le:=(ep.maps k bh).1.2.1;have Le:-9223372036854775808<=t.maps[k].port/\t.maps[k].port<=9223372036854775807:=by
   unfold Yo at Le;simp only[Bool.and_eq_true,decide_eq_true_eq]at Le;omega
  have Q0:=CS c.gl t.maps[k].port Le;have heq:=@Aj c false t.maps[k] ⟨mp,ms,mi,ma,mt⟩;have hky:=@Xx4 t.maps ⟨mp,ms,mi,ma,mt⟩ k bh;have Q2:=@Ycn t.maps ⟨mp,ms,mi,ma,mt⟩ k bh;have ei:=um t.maps[k];have hle:=Xfd t.maps ⟨mp,ms,mi,ma,mt⟩ k;generalize hK:nC t.maps ⟨mp,ms,mi,ma,mt⟩ k=K at *
  generalize mM t.maps ⟨mp,ms,mi,ma,mt⟩ k=F at *
  have uCa:=List.countP_le_length (p:=Jo ⟨mp,ms,mi,ma,mt⟩) (l:=K);generalize t.maps[k]=o at *
  obtain ⟨op,os,oi,oa,ot⟩:=o;simp only[Mp.enc]at aL heq;dsimp only at Q0 ei;unfold lL at Q0;generalize (if Yo ot=true then (ot-1024)%8 else 0)=oj at *
  generalize Xc ot=ob at *
  generalize Yo ot=oq at *
  by_cases Lf:(⟨op,os,oi,oa,ot⟩:Mp)=⟨mp,ms,mi,ma,mt⟩
  ·obtain ⟨oZ,hk2⟩:=hky Lf;rw[decide_eq_true Lf]at heq;refine Qd (An @aD @aL) ?_;refine Qk heq (An @aD @aL) ?_;refine Yc ?_;refine Qa ?_;refine ⟨k+1,by omega,⟨[],?_⟩,by omega⟩;exact Qi (An @oZ @hk2)
  ·obtain ⟨oZ,hk2⟩:=Q2 Lf;rw[decide_eq_false Lf]at heq;have hlK:=Yl K;have FX:(bH K).take (K.length * 5)=bH K:=take_of_length_le af;have hsn:=CG K ⟨op,os,oi,oa,ot⟩;have qq:(K++[(⟨op,os,oi,oa,ot⟩:Mp)]).length=K.length + 1:=by simp
   have kg:(K++[(⟨op,os,oi,oa,ot⟩:Mp)]).countP (Jo ⟨mp,ms,mi,ma,mt⟩)=K.countP (Jo ⟨mp,ms,mi,ma,mt⟩)+if Jo ⟨mp,ms,mi,ma,mt⟩ ⟨op,os,oi,oa,ot⟩=true then 1 else 0:=by
    rw[List.countP_append,List.countP_cons];simp
   rw[ei]at kg;dsimp only at hsn;refine Qd (An @aD @aL) ?_;refine Qk heq (An @aD @aL) ?_;refine Yc ?_;refine Qd (An @aV @fP) ?_;refine Ym (An @aV @fP) ?_;refine Ym (An @hlK (An @FX (An @fP @sK))) ?_;refine Qk Q0 @fP ?_;refine Qb ?_ ?_<;>intro h4
   ·have kg:(K++[(⟨op,os,oi,oa,ot⟩:Mp)]).countP (Jo ⟨mp,ms,mi,ma,mt⟩)=K.countP (Jo ⟨mp,ms,mi,ma,mt⟩) + 1:=by rw[kg];simp[h4]
    refine Qa ?_;refine ⟨k+1,by omega,⟨[(4,7)],?_⟩,by omega⟩;exact Qi (An @oZ (An @hk2 (An @kg (An @hsn @qq))))
   ·have kg:(K++[(⟨op,os,oi,oa,ot⟩:Mp)]).countP (Jo ⟨mp,ms,mi,ma,mt⟩)=K.countP (Jo ⟨mp,ms,mi,ma,mt⟩):=by rw[kg];simp;omega
    refine Qa ?_;refine ⟨k+1,by omega,⟨[(4,7)],?_⟩,by omega⟩;exact Qi (An @oZ (An @hk2 (An @kg (An @hsn @qq))))
 ·have:k=t.maps.length:=by omega
  subst this;rw[hL];have hlK:=Yl L;have hle:=Xfd t.maps ⟨mp,ms,mi,ma,mt⟩ t.maps.length;rw[hL]at hle;have FX:(bH L).take (L.length*5)=bH L:=take_of_length_le af;by_cases hF:mM t.maps ⟨mp,ms,mi,ma,mt⟩ t.maps.length=false
  ·have hR:=H0.out hF;subst hR;clear H0 H1 H2;rw[hF];refine Qa ?_;refine Yc ?_;exact Qi (An @e2 (An @Wu.eq_1 (An @Wh.eq_1 @eK.eq_1)))
  have hF:mM t.maps ⟨mp,ms,mi,ma,mt⟩ t.maps.length=true:=by simpa using hF
  have HH1:=Lib.hid (H1.out hF);have xG:=Lib.hid (H2.out hF);rw[hF];clear H0 H1 H2;generalize L.countP (Jo ⟨mp,ms,mi,ma,mt⟩)=cn at *
  refine Qa ?_;refine Yc ?_;refine Qa ?_;refine Qb ?_ ?_<;>intro h4
  ·have hR:=HH1.out af;subst hR;rw[show Wu (⟨t.ai,t.home,L⟩,false,0)=.aR [.agg (t.hd++[.isl L.length (bH L)]),.bool false,.int .i64 0] from rfl];exact Qi (An @fP (An @Wh.eq_1 (An @eK.eq_1 (An @map_append.{0,0} @FX))))
  have hR:=xG.out af;clear HH1 xG;subst hR;obtain ⟨i,kf,xm⟩:∃ i,∃ h:i<t.maps.length,t.maps[i]=⟨mp,ms,mi,ma,mt⟩:=by
   unfold mM at hF;rw[take_length,List.any_eq_true]at hF;obtain ⟨o,ho,he⟩:=hF;obtain ⟨i,hi,rfl⟩:=List.getElem_of_mem ho;exact ⟨i,hi,ap he⟩
  have aS:=ep.maps i kf;rw[xm]at aS;clear hF xm;obtain ⟨⟨bh,vJ,xE,jD⟩,oy,gM⟩:=aS;obtain ⟨_,⟨fL,lO⟩,_⟩:=Jv bh;dsimp only at bh vJ xE jD oy gM fL lO;rw[BO]at gM;have CO:(⟨t.ai,t.home,L⟩:Tb).bT ⟨mp,ms,mi,ma,mt⟩=if Js ⟨(t.ai.bT ms ma mk).1,t.home,L⟩ ms.toNat=[] then ⟨(t.ai.bT ms ma mk).1,t.home.set ms.toNat 0,L⟩ else ⟨(t.ai.bT ms ma mk).1,t.home,L⟩:=by unfold Tb.bT;rw[BO]
  rw[CO];clear CO hL bh um;obtain ⟨A,rfl⟩:=Int.eq_ofNat_of_zero_le xE;obtain ⟨K,rfl⟩:=Int.eq_ofNat_of_zero_le hbl.1;obtain ⟨S,rfl⟩:=Int.eq_ofNat_of_zero_le fL;have ug:A<3:=by omega
  have J1:K<6:=by omega
  have jb:S<8:=by omega
  rw[Int.toNat_natCast]at oy;rw[Int.toNat_natCast,Int.toNat_natCast]at gM;rw[Int.toNat_natCast,QK (Kv.1 ep).ai ug J1 fL gM];dsimp only;have ia:∀ x,(t.hd++[x]).set (A*6+K) (.int .i64 0)=(⟨t.ai.put A K 0,t.home,L⟩:Tb).hd++[x]:=fun x=>Xlb ht.wf ug J1 0 x;have fM:(⟨t.ai.put A K 0,t.home,L⟩:Tb).wf:=⟨aq.cI _ ht.wf.ai _ _ _,ht.wf.home⟩
  have dV:(⟨t.ai.put A K 0,t.home.set S 0,L⟩:Tb).wf:=⟨aq.cI _ ht.wf.ai _ _ _,by rw[length_set];exact ht.wf.home⟩
  have sB:=fun x=>Yef fM x ug;have fH:=Zk _ fM.ai A ug;have qR:=fun k h=>xC (t.ai.put A K 0) A k h;have qU:Js (⟨t.ai.put A K 0,t.home,L⟩:Tb) S=Zl (⟨t.ai.put A K 0,t.home,L⟩:Tb) S 6:=am (show 1<=t.aT S by omega);rw[qU];have gL:=PG (⟨t.ai.put A K 0,t.home,L⟩:Tb) S;have Lg:(Tb.aT ⟨t.ai.put A K 0,t.home,L⟩ S-1).toNat=A:=by show (t.aT S-1).toNat=A;omega
  rw[Lg]at gL;have hW0:Zl (⟨t.ai.put A K 0,t.home,L⟩:Tb) S 0=[]:=rfl;generalize Zl (⟨t.ai.put A K 0,t.home,L⟩:Tb) S=W at *
  have Q3:decide (W 0≠[])=false:=by rw[hW0];simp
  have sF:=fun x=>KM fM jb 0 x;have oD:=Tb.bU fM;have hl2:=Tb.bU dV;dsimp only at sF gL sB fH;generalize t.ai.put A K 0=P' at *
  refine Qd (An @fP @ia) ?_;refine Qd (An @oD @sB) ?_
  refine Qu (fun k:Nat=>k≤6)
   (fun k=>⟨[(2,.ptr 0 0),(3,.ptr 1 0),(4,.ptr 2 0),(7,.ptr 3 0),(18,.bool (decide (W k≠[]))),(88,.agg (Ql (P'.row A))),(89,.int .i64 k)],
    [(0,.cells t.enc),(1,.cells [.int .i64 mp,.int .i64 S,.int .i64 mi,.int .i64 A,.int .i64 mt]),(2,.cells Wh),(3,.cells ((⟨P',t.home,L⟩:Tb).hd++[.sl 5 4 0 L.length L.length])),(4,.cells (bH L))],5⟩) (fun k=>6-k) JB.mixed hN
   ⟨0,by omega,[],by exact Qi @Q3⟩ fun k hk=>?_
  refine Qa ?_;refine Qb ?_ ?_<;>intro h5
  ·have fg:k < 6:=by omega
   have hv:=qR k fg;have nz:=gL k;generalize P'.ow A k=x at *
   by_cases B8:W k=[]
   ·have e1:decide (W k≠[])=false:=by simp[B8]
    rw[e1];by_cases hx:x=(S:Int)+1
    ·have dO:(decide (W (k + 1)≠[]))=true:=by rw[nz,am hx];simp
     refine Qd (An @fH @hv) ?_;refine ⟨k+1,by omega,⟨[],?_⟩,by omega⟩;refine Qd @dO ?_<;>simp[hx]
    ·have dO:(decide (W (k + 1)≠[]))=false:=by rw[nz,aa hx,B8];simp
     refine Qd (An @fH @hv) ?_;refine ⟨k+1,by omega,⟨[],?_⟩,by omega⟩;refine Qd @dO ?_<;>simp[hx]
   ·have e1:(decide (W k≠[]))=true:=by simp[B8]
    have dO:(decide (W (k+1)≠[]))=true:=by rw[nz];simp[B8]
    rw[e1];refine Qd (An @fH @hv) ?_;refine ⟨k+1,by omega,⟨[],?_⟩,by omega⟩;exact Qi @dO
  ·have:k=6:=by omega
   subst this;by_cases hW:W 6=[]
   ·have e1:decide (W 6≠[])=false:=by simp[hW]
    rw[am hW,e1];refine Qa ?_;refine Yc ?_;rw[show Wu ((⟨P',t.home.set S 0,L⟩:Tb),true,0)=.aR [.agg ((⟨P',t.home.set S 0,L⟩:Tb).hd++[.isl L.length (bH L)]),.bool true,.int .i64 0] from rfl];exact Qi (An @oD (An @sF (An @hl2 (An @Wh.eq_1 (An @eK.eq_1 (An @map_append.{0,0} @FX))))))
   ·have e1:(decide (W 6≠[]))=true:=by simp[hW]
    rw[aa hW,e1];refine Qa ?_;refine Yc ?_;rw[show Wu ((⟨P',t.home,L⟩:Tb),true,0)=.aR [.agg ((⟨P',t.home,L⟩:Tb).hd++[.isl L.length (bH L)]),.bool true,.int .i64 0] from rfl];exact Qi (An @oD (An @Wh.eq_1 (An @eK.eq_1 (An @map_append.{0,0} @FX))))
end Go.Proofs.YtogckmommodmhaaGreatDoor
