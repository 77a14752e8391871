import Derived.Test.YtogckmommodmhaaGreatDoorZy10
namespace Go.Proofs.YtogckmommodmhaaGreatDoor
open List (all_eq_true getElem_of_mem any_eq_true getElem_mem any_eq_false mem_singleton mem_append eraseIdx_sublist mem_range getD_eq_getElem?_getD find?_eq_none find?_some getElem?_eq_getElem length_set set_set)
open Go.RowKit
set_option linter.all false
set_option maxRecDepth 100000
variable {l:List Mp}{p:aq}{t:Tb}{o m:Mp}{i s:Nat}{ae:Int}{S:Nat}{x:Tb×Mp×Bool×Int}
def Ze (own:List Int)(s:Nat):Nat:=own.countP fun o=>o==(s:Int)+1
structure GT (t:Tb):Prop where
 ai:t.ai.bO=true
 maps:∀ m ∈ t.maps,Uk t m
 apart:t.maps.Pairwise fun x y=>Yq x y=false
 used:∀ i,i<18->(t.ai.own.getD i 0≠0 ↔ ∃ m ∈ t.maps,Yu m=i)
 two:∀ s,s<8->Ze t.ai.own s<=2
 many:∀ s:Nat,s<8->Yb t.maps (s:Int)<=12
 home:∀ s,s<8->(t.aT s≠0 ↔ 0<Ze t.ai.own s)
def KO (x y:Mp):Yq x y=Yq y x:=by
 have hb:∀ a b:Int,(a==b)=(b==a):=fun a b=>by
  by_cases h:a=b
  ·subst h;rfl
  ·have h2:¬ b=a:=fun e=>h e.symm;rw[beq_eq_false_iff_ne.2 h,beq_eq_false_iff_ne.2 h2]
 unfold Yq;rw[hb y.ae,hb y.a,hb y.port,hb y.s,hb y.aF]
def Qvu (h:p.bO=true){o:Int}(ho:o ∈ p.own):0<=o/\o<=8:=by
 have:=all_eq_true.1 h o ho;unfold Ua at this;simp at this;omega
def KP (h:p.bO=true)  (hs:s<8):(Uf p.own).getD s 0=Ze p.own s:=by
 rw[Xde _ _ hs];unfold Ze;congr 1;refine List.countP_congr fun o ho=>?_;have:=Qvu h ho;simp only[Bool.and_eq_true,Bool.not_eq_true',beq_eq_false_iff_ne,beq_iff_eq,ne_eq];omega
def Xak (h:∀ m ∈ l,0<=m.s)  (hs:s<8):(lM l).getD s 0=Yb l s:=by
 rw[Qy2 _ _ hs];unfold Yb;congr 1;refine List.countP_congr fun o ho=>?_;have:=h o ho;simp only[beq_iff_eq];omega
def Al (h:Uk t m):0<=m.s/\m.s<8:=by
 obtain ⟨_,h2,_⟩:=Jv h.1.1;exact h2
def Kv:dx t ↔ GT t:=by
 constructor
 ·intro h;have hm:∀ m ∈ t.maps,Uk t m:=fun m hm=>by
   obtain ⟨i,hi,rfl⟩:=getElem_of_mem hm;exact h.maps i hi
  refine ⟨h.ai,hm,List.pairwise_iff_getElem.2 fun i j hi hj fX=>?_,fun i hi=>?_,fun s hs=>?_,fun s hs=>?_,fun s hs=>?_⟩
  ·rw[KO];exact h.apart j i hj fX
  ·have:=h.used i hi;rw[PW _ _ hi]at this;rw[<- bne_iff_ne,this,any_eq_true];simp
  ·have:=(h.qt s hs).1;rw[KP h.ai hs]at this;omega
  ·have:=(h.qt s hs).2.1;rw[Xak (fun m Am=>(Al (hm m Am)).1) hs]at this;omega
  ·have:=(h.qt s hs).2.2;rw[KP h.ai hs]at this;rw[<- bne_iff_ne,this,decide_eq_true_eq];omega
 ·intro h;refine ⟨h.ai,fun i hi=>h.maps _ (getElem_mem hi),fun i j hi hj=>?_,fun i hi=>?_,fun s hs=>⟨?_,?_,?_⟩⟩
  ·rw[KO];exact List.pairwise_iff_getElem.1 h.apart j i af hi hj
  ·rw[PW _ _ hi];have:=h.used i hi;rw[← bne_iff_ne]at this;by_cases h2:(t.ai.own.getD i 0 != 0)=true
   ·rw[h2];obtain ⟨m,hm,he⟩:=this.1 h2;exact (any_eq_true.2 ⟨m,hm,by simp[he]⟩).symm
   ·have h3:(t.ai.own.getD i 0 != 0)=false:=by simpa using h2
    rw[h3];symm;rw[any_eq_false];intro m hm he;exact h2 (this.2 ⟨m,hm,by simpa using he⟩)
  ·rw[KP h.ai hs];have:=h.two s hs;omega
  ·rw[Xak (fun m Am=>(Al (h.maps m Am)).1) hs];have:=h.many s hs;omega
  ·rw[KP h.ai hs];have:=h.home s hs;rw[← bne_iff_ne]at this;by_cases h2:(t.aT s != 0)=true
   ·rw[h2];have:=this.1 h2;simp;omega
   ·have h3:(t.aT s != 0)=false:=by simpa using h2
    rw[h3];symm;rw[decide_eq_false_iff_not];intro h4;exact h2 (this.2 af)
def vM (port:Int):0<=Xc port/\Xc port<6:=by
 unfold Xc;split
 ·rename_i h;unfold Yo at h;simp at h;omega
 ·omega
def Ydz (hm:0<=m.a)(ho:0<=o.a):Yu m=Yu o ↔ m.a=o.a/\Xc m.port=Xc o.port:=by
 have h1:=vM m.port;have h2:=vM o.port;unfold Yu;constructor
 ·intro h;omega
 ·rintro ⟨h3,h4⟩;rw[h3,h4]
def QC (h:ud t m):Yu m<18:=by
 have h1:=vM m.port;have:=h.2.2;unfold Yu;omega
theorem KQ (t:Tb)(m:Mp):t.ai.ow m.a.toNat (Xc m.port).toNat=t.ai.own.getD (Yu m) 0:=rfl
def Xfh (h:Yq m o=false):m≠o:=by
 rintro rfl;simp[Yq]at h
def Qw2 (l:List Mp)(m:Mp)(s:Int):Yb (l++[m]) s=Yb l s+(if m.s=s then 1 else 0):=by
 unfold Yb;rw[List.countP_append];by_cases h:m.s=s<;>simp[h]
def QD (h:l.Pairwise fun x y=>Yq x y=false)(hm:∀ o ∈ l,Yq o m=false):(l++[m]).Pairwise fun x y=>Yq x y=false:=by
 rw[List.pairwise_append];exact ⟨h,List.pairwise_singleton _ _,fun a ha b hb=>by rw[mem_singleton.1 hb];exact hm a ha⟩
def GT.add (h:GT t)  (hm:Uk t m)(hk:∀ o ∈ t.maps,Yq o m=false)(hn:Yb t.maps m.s<12):GT (t.add m):=by
 refine ⟨h.ai,fun o ho=>?_,QD h.apart hk,fun i hi=>?_,h.two,fun s hs=>?_,h.home⟩
 ·rcases mem_append.1 ho with ho|ho
  ·exact h.maps o ho
  ·rw[mem_singleton.1 ho];exact hm
 ·refine (h.used i hi).trans ⟨fun ⟨o,ho,he⟩=>⟨o,List.mem_append_left _ ho,he⟩,fun ⟨o,ho,he⟩=>?_⟩;rcases mem_append.1 ho with ho|ho
  ·exact ⟨o,ho,he⟩
  ·rw[mem_singleton.1 ho]at he;refine (h.used i hi).1 ?_;rw[<- he,<- KQ t m,hm.2.2];have:=Al hm;omega
 ·show Yb (t.maps++[m]) s≤12;rw[Qw2];have:=h.many s hs;split
  ·rename_i e;rw[e]at hn;omega
  ·omega
def Ao {l:List Int}  (h:i<l.length)(v:Int)(j:Nat):(l.set i v).getD j 0=if j=i then v else l.getD j 0:=by
 by_cases e:j=i
 ·subst e;simp[List.getD,h]
 ·rw[aa e];simp[List.getD,List.getElem?_set_ne (fun q=>e q.symm)]
def QE {l:List Int}  (h:i<l.length)(v:Int)(s:Nat):Ze (l.set i v) s=(Ze l s-if l.getD i 0=(s:Int)+1 then 1 else 0)+if v=(s:Int)+1 then 1 else 0:=by
 unfold Ze;rw[List.countP_set h];have e:l.getD i 0=l[i]:=by simp[List.getD,h]
 rw[e];simp only[beq_iff_eq]
def QF {l:List Int}  (h:i<l.length)(he:l.getD i 0=(s:Int)+1):0<Ze l s:=by
 unfold Ze;rw[List.countP_pos_iff];refine ⟨l[i],getElem_mem h,?_⟩;have e:l.getD i 0=l[i]:=by simp[List.getD,h]
 rw[e]at he;simp[he]
def QG (h:p.bO=true)(a k:Nat){o:Int}(ho:0<=o/\o<=8):(p.put a k o).bO=true:=by
 refine all_eq_true.2 fun x hx=>?_;rcases List.mem_or_eq_of_mem_set hx with h2|h2
 ·exact all_eq_true.1 h x h2
 ·subst h2;unfold Ua;simp;omega
def GT.take {t:Tb}(h:GT t)(hw:t.wf){b k S:Nat}(hb:b<3)(hk:k<6)(hS:S<8)(hz:t.ai.ow b k=0)(hh:t.aT S=0\/t.aT S=b+1)(hc:Ze t.ai.own S<=1){m:Mp}(hs:m.s=S)(ha:m.a=b)(eG:(Xc m.port).toNat=k)
  (bX:ud t m) (fY:∀ o ∈ t.maps,Yq o m=false) (hn:Yb t.maps m.s<12):GT ((⟨t.ai.put b k (S+1),t.home.set S (b+1),t.maps⟩:Tb).add m):=by
 have hl:b*6+k<t.ai.own.length:=by rw[hw.ai.own];omega
 have xJ:S<t.home.length:=by rw[hw.home];exact hS
 have Ap:Yu m=b*6+k:=by unfold Yu;rw[eG,ha,Int.toNat_natCast]
 have CP:t.ai.own.getD (b*6+k) 0=0:=hz;have oy:∀ u,(⟨t.ai.put b k (S+1),t.home.set S (b+1),t.maps⟩:Tb).aT u=if u=S then (b:Int)+1 else t.aT u:=fun u=>Ao xJ _ _;have gM:∀ i,(t.ai.own.set (b*6+k) ((S:Int)+1)).getD i 0=if i=b*6+k then (S:Int)+1 else t.ai.own.getD i 0:=fun i=>Ao hl _ _;have hold:∀ o ∈ t.maps,Yu o≠b*6+k:=fun o ho he=>by
  exact (h.used _ af).2 ⟨o,ho,he⟩ CP
 refine ⟨QG h.ai _ _ af,fun o ho=>?_,QD h.apart fY,fun i hi=>?_,fun s rH=>?_,fun s rH=>?_,fun s rH=>?_⟩
 ·rcases mem_append.1 ho with ho|ho
  ·have:=h.maps o ho;have h8:=Al this;have h3:=this.1.2.2;refine ⟨this.1,?_,?_⟩
   ·show (⟨t.ai.put b k (S + 1),t.home.set S (b + 1),t.maps⟩:Tb).aT _=_;rw[oy];split
    ·rename_i e;have:=this.2.1;rw[e]at this;omega
    ·exact this.2.1
   ·show (t.ai.own.set (b*6+k) ((S:Int)+1)).getD (Yu o) 0=_;rw[gM,aa (hold o ho)];exact this.2.2
  ·rw[mem_singleton.1 ho];refine ⟨bX,?_,?_⟩
   ·show (⟨t.ai.put b k (S+1),t.home.set S (b+1),t.maps⟩:Tb).aT _=_;rw[oy,am af,ha]
   ·show (t.ai.own.set (b*6+k) ((S:Int)+1)).getD (Yu m) 0=_;rw[gM,am Ap,hs]
 ·show (t.ai.own.set (b * 6 + k) ((S:Int) + 1)).getD i 0≠0 ↔ ∃ o ∈ t.maps++[m],Yu o=i;rw[gM];by_cases e:i=b * 6 + k
  ·rw[am e];exact ⟨fun _=>⟨m,by simp,by rw[Ap,e]⟩,fun _=>by omega⟩
  ·rw[aa e];refine (h.used i hi).trans ⟨fun ⟨o,ho,he⟩=>⟨o,List.mem_append_left _ ho,he⟩,fun ⟨o,ho,he⟩=>?_⟩;rcases mem_append.1 ho with ho|ho
   ·exact ⟨o,ho,he⟩
   ·rw[mem_singleton.1 ho]at he;exact (e (by rw[<- he,Ap])).elim
 ·show Ze (t.ai.own.set (b * 6 + k) ((S:Int) + 1)) s≤2;rw[QE hl,CP,aa af];have:=h.two s rH;split
  ·rename_i e;have:s=S:=by omega
   subst this;omega
  ·omega
 ·show Yb (t.maps++[m]) s≤12;rw[Qw2];have:=h.many s rH;split
  ·rename_i e;rw[e]at hn;omega
  ·omega
 ·show (⟨t.ai.put b k (S + 1),t.home.set S (b + 1),t.maps⟩:Tb).aT s≠0 ↔ 0 < Ze (t.ai.own.set (b * 6 + k) ((S:Int) + 1)) s;rw[oy,QE hl,CP,aa (show ¬ (0:Int)=(s:Int) + 1 by omega)];by_cases e:s=S
  ·subst e;rw[am rfl,am rfl];omega
  ·rw[aa e,aa af];have:=h.home s rH;omega
def GT.del (h:GT t)  (hi:i<t.maps.length)(ho:∃ o ∈ t.maps.eraseIdx i,Yu o=Yu t.maps[i]):GT (t.del i):=by
 have cz:∀ o ∈ t.maps.eraseIdx i,o ∈ t.maps:=fun o ho=>List.mem_of_mem_eraseIdx ho;refine ⟨h.ai,fun o ho=>h.maps o (cz o ho),h.apart.sublist (eraseIdx_sublist _ _),fun j hj=>?_,h.two,fun s hs=>?_,h.home⟩
 ·refine (h.used j hj).trans ⟨fun ⟨o,oV,he⟩=>?_,fun ⟨o,oV,he⟩=>⟨o,cz o oV,he⟩⟩;obtain ⟨n,hn,rfl⟩:=getElem_of_mem oV;by_cases e:n=i
  ·subst e;obtain ⟨q,hq,QH⟩:=ho;exact ⟨q,hq,QH.trans he⟩
  ·exact ⟨_,List.mem_eraseIdx_iff_getElem.2 ⟨n,hn,e,rfl⟩,he⟩
 ·have:=h.many s hs;exact Nat.le_trans (List.Sublist.countP_le (eraseIdx_sublist _ _)) this
def uo (own:List Int)(s a:Nat):Nat:=(List.range 6).countP fun k=>own.getD (a*6+k) 0==(s:Int)+1
def Xv6 {own:List Int}(h:own.length=18)(s:Nat):Ze own s=uo own s 0+uo own s 1+uo own s 2:=by
 match own,h with
 | [o0,o1,o2,o3,o4,o5,o6,o7,o8,o9,o10,o11,o12,o13,o14,o15,o16,o17],_ =>
  have e:List.range 6=[0,1,2,3,4,5]:=rfl;unfold Ze uo;rw[e];simp only[List.countP_cons,List.countP_nil,List.getD,List.getElem?_cons_zero,List.getElem?_cons_succ,Option.getD_some,Nat.zero_add,Nat.zero_mul,Nat.one_mul,Nat.reduceMul,Nat.reduceAdd,Nat.add_zero]
  ac_rfl
def GT.owner (h:GT t)  (hi:i<18)(ho:t.ai.own.getD i 0=(s:Int)+1):1<=t.aT s/\(t.aT s-1).toNat=i/6/\t.aT s<=3:=by
 obtain ⟨m,hm,he⟩:=(h.used i hi).1 af;have aS:=h.maps m hm;have hs:=Al aS;have hb:=vM m.port;have h1:=aS.2.2;rw[KQ,he,ho]at h1;have h2:=aS.2.1;rw[show m.s.toNat=s by omega]at h2;have ha:=aS.1.2.2;unfold Yu at he;omega
def dk (t:Tb)(s:Nat):Prop:=∀ i,i<18->t.ai.own.getD i 0=(s:Int)+1->1<=t.aT s/\(t.aT s-1).toNat=i/6/\t.aT s<=3
def GT.dk (h:GT t)(s:Nat):dk t s:=fun _ hi ho=>h.owner hi ho
def CQ (h:dk t s)(a:Nat)(ha:a<3)(hn:¬ (1<=t.aT s/\(t.aT s-1).toNat=a)):uo t.ai.own s a=0:=by
 unfold uo;rw[List.countP_eq_zero];intro k hk he;have hk:=mem_range.1 hk;have:=h (a*6+k) af (by simpa using he);omega
def CR (h:dk t s)(hw:t.wf):Ze t.ai.own s=(Js t s).length:=by
 rw[Xv6 hw.ai.own];unfold Js;split
 ·rename_i h1;have e:(Zl t s 6).length=uo t.ai.own s (t.aT s-1).toNat:=by
   unfold Zl uo;rw[<- List.countP_eq_length_filter];rfl
  rw[e];have h0:=CQ h 0 af;have tI:=CQ h 1 af;have h2:=CQ h 2 af;by_cases e0:(t.aT s-1).toNat=0
  ·rw[e0,tI af,h2 af];omega
  ·by_cases e1:(t.aT s - 1).toNat=1
   ·rw[e1,h0 af,h2 af];omega
   ·by_cases e2:(t.aT s - 1).toNat=2
    ·rw[e2,h0 af,tI af];omega
    ·rw[h0 af,tI af,h2 af];have:uo t.ai.own s (t.aT s-1).toNat=0:=by
      unfold uo;rw[List.countP_eq_zero];intro k hk he;rw[getD_eq_getElem?_getD,List.getElem?_eq_none (by have:=hw.ai.own;omega)]at he;simp at he;omega
     omega
 ·rw[CQ h 0 af af,CQ h 1 af af,CQ h 2 af af];rfl
def Qpl (m:Mp):Xz m.ae m.s m.aF m=true:=by simp[Xz]
def Quc (h:Xz m.ae m.s m.aF o=true):Yq o m=true:=by
 unfold Xz at h;unfold Yq;simp at h ⊢;exact ⟨h.1.1.symm,Or.inr ⟨h.1.2.symm,h.2.symm⟩⟩
def Xxf (h:l.Pairwise fun x y=>Yq x y=false){x y:Mp}(hx:x ∈ l)(hy:y ∈ l)(hk:Yq x y=true):x=y:=by
 obtain ⟨i,hi,rfl⟩:=getElem_of_mem hx;obtain ⟨j,hj,rfl⟩:=getElem_of_mem hy;have hp:=List.pairwise_iff_getElem.1 h;rcases Nat.lt_trichotomy i j with fX|rfl|fX
 ·have:=hp i j hi hj fX;rw[this]at hk;cases hk
 ·rfl
 ·have:=hp j i hj hi fX;rw[KO,this]at hk;cases hk
def Xvv (p:Mp->Bool)(m:Mp)(hm:m ∈ l)(hp:p m=true)(hu:∀ o ∈ l,p o=true->o=m):l.find? p=some m:=by
 cases h:l.find? p with
 | none=>exact absurd hp (by have:=find?_eq_none.1 h m hm;simpa using this)
 | some o=>rw[hu o (List.mem_of_find?_eq_some h) (find?_some h)]
def GT.fwd (h:GT t)  (hm:m ∈ t.maps):t.maps.find? (Xz m.ae m.s m.aF)=some m :=
 Xvv _ m hm (Qpl m) fun o ho hp=>Xxf h.apart ho hm (Quc hp)
def KR (h1:l.find? (Xz m.ae m.s m.aF)=none)(h2:l.find? (Ja m.ae m.a m.port)=none):∀ o ∈ l,Yq o m=false:=by
 intro o ho;have h1:=find?_eq_none.1 h1 o ho;have h2:=find?_eq_none.1 h2 o ho;cases hk:Yq o m with
 | false=>rfl
 | true =>
  exfalso;unfold Yq at hk;unfold Xz at h1;unfold Ja at h2;simp at hk h1 h2;rcases hk with ⟨hp,⟨ha,hq⟩|⟨ha,hq⟩⟩
  ·exact h2 hp.symm ha.symm hq.symm
  ·exact h1 hp.symm ha.symm hq.symm
inductive cJ (t:Tb)(ae:Int)(S:Nat)(aF:Int):Tb×Mp×Bool×Int->Prop
 | no (e:Int) (he:e≠0):cJ t ae S aF (t,cM,false,e)
 | old (m:Mp) (hf:t.maps.find? (Xz ae S aF)=some m):cJ t ae S aF (t,m,false,0)
 | own (port:Int) (hf:t.maps.find? (Xz ae S aF)=none) (aS:Uk t ⟨ae,S,aF,t.aT S - 1,port⟩) (hb:t.maps.find? (Ja ae (t.aT S - 1) port)=none) (hn:Yb t.maps S < 12) :
   cJ t ae S aF (t.add ⟨ae,S,aF,t.aT S-1,port⟩,⟨ae,S,aF,t.aT S-1,port⟩,false,0)
 | new (b k:Nat) (hf:t.maps.find? (Xz ae S aF)=none) (hb:b < 3) (hk:k < 6) (hz:t.ai.ow b k=0) (hh:t.aT S=0∨t.aT S=b + 1) (hc:Ze t.ai.own S≤1) (hd:t.ai.kW b=false) (hn:Yb t.maps S < 12) :
   cJ t ae S aF ((⟨t.ai.put b k (S+1),t.home.set S (b+1),t.maps⟩:Tb).add ⟨ae,S,aF,b,1024+(k:Int)*8⟩,⟨ae,S,aF,b,1024+(k:Int)*8⟩,true,0)
def KS {q i:Nat}(hq:q<6)(hi:i<8):Yo (1024+(q:Int)*8+i)=true/\Xc (1024+(q:Int)*8+i)=q:=by
 have h:Yo (1024+(q:Int)*8+i)=true:=by unfold Yo;simp;omega
 refine ⟨h,?_⟩;unfold Xc;rw[am h];omega
def Qtx (h:GT t)(hw:t.wf)   {aF:Int}(hf:t.maps.find? (Xz ae S aF)=none)(hn:Yb t.maps S<12)(a draw:Int)(hh:t.aT S=0\/t.aT S=a+1)(hc:Ze t.ai.own S<=1):cJ t ae S aF (t.tk ae S aF a draw):=by
 have ec:=Ff t.ai hw.ai S a draw;unfold Tb.tk;generalize t.ai.take S a draw=x at *
 cases ec with
 | no e he=>rw[am he];exact .no e he
 | yes b k ha hb hk _ _ _ hd _ ho =>
  rw[aa aw];subst ha;exact .new b k hf hb hk ho af hc hd hn
def opened (h:GT t)(hw:t.wf)   {aF:Int}(bh:Yr ae S aF=true)(draw:Int):cJ t ae S aF (t.ca ae S aF draw):=by
 have bW:¬ (Zp t=false\/Yr ae S aF=false):=by
  rw[(vG t).2 (Kv.2 h),bh];simp
 obtain ⟨_,⟨_,jb⟩,_⟩:=Jv bh;unfold Tb.ca;rw[aa bW];cases hf:t.maps.find? (Xz ae S aF) with
 | some m=>exact .old m hf
 | none =>
  dsimp only;split
  ·exact .no 6 aJ
  rename_i hn;have hn:Yb t.maps S<12:=by omega
  rw[Int.toNat_natCast];cases CF:Jl t ae (t.aT S-1) (Js t S) with
  | some port =>
   dsimp only;unfold Jl at CF;have hm:=List.mem_of_find?_eq_some CF;have m9:=find?_some CF;obtain ⟨q,hq,hp⟩:=List.mem_flatMap.1 hm;have h1:1<=t.aT S:=by
    rcases Int.lt_or_le (t.aT S) 1 with h2|h2
    ·have e:Js t S=[]:=aa af;rw[e]at hq;cases hq
    ·exact h2
   have e:Js t S=Zl t S 6:=am h1;rw[e]at hq;unfold Zl at hq;obtain ⟨QI,hqo⟩:=List.mem_filter.1 hq;have QI:=mem_range.1 QI;unfold Zn at hp;obtain ⟨i,hi,rfl⟩:=List.mem_map.1 hp;have hi:=mem_range.1 hi;obtain ⟨b1,b2⟩:=KS QI hi;have h3:=(h.dk S)
   have oy:t.ai.ow (t.aT S-1).toNat q=(S:Int)+1:=by simpa using hqo
   have h3:t.aT S<=3:=by
    obtain ⟨x,hx⟩:=List.exists_mem_of_ne_nil _ (show Js t S≠[] by rw[e];intro h0;unfold Zl at h0;rw[h0]at hq;cases hq);have kg:0<Ze t.ai.own S:=by
     rw[CR (h.dk S) hw,List.length_pos_iff];intro h0;rw[h0]at hx;cases hx
    unfold Ze at kg;obtain ⟨o,ho,he⟩:=List.countP_pos_iff.1 kg;obtain ⟨j,hj,rfl⟩:=getElem_of_mem ho;have QJ:j<18:=by have:=hw.ai.own;omega
    exact (h.dk S j QJ (by rw[getD_eq_getElem?_getD,getElem?_eq_getElem hj];simpa using he)).2.2
   refine .own _ hf ⟨⟨bh,b1,by show 0<=t.aT S-1;omega,by show t.aT S-1<3;omega⟩,?_,?_⟩ ?_ hn
   ·show t.aT (S:Int).toNat=t.aT S-1+1;rw[Int.toNat_natCast];omega
   ·show t.ai.ow (t.aT S-1).toNat (Xc _).toNat=(S:Int)+1;rw[b2,Int.toNat_natCast];exact oy
   ·unfold mI at m9;simpa using m9
  | none =>
   dsimp only;split
   ·exact .no 6 aJ
   rename_i h2;have hc:Ze t.ai.own S<=1:=by rw[CR (h.dk S) hw];omega
   split
   ·rename_i h1;exact Qtx h hw hf hn _ draw af hc
   ·rename_i h1;have h0:t.aT S=0:=by
     have:=Tb.jE (Kv.2 h) hw (s:=S) af;omega
    split
    ·rename_i hp;exact .no _ hp
    ·exact Qtx h hw hf hn _ draw (.inl h0) hc
def cJ.bO (h:GT t)(hw:t.wf)   {aF:Int}(bh:Yr ae S aF=true)  (ho:cJ t ae S aF x):GT x.1:=by
 obtain ⟨_,⟨_,jb⟩,_⟩:=Jv bh;cases ho with
 | no e he=>exact h
 | old m hf=>exact h
 | own port hf aS hb hn=>exact h.add aS (KR hf hb) hn
 | new b k hf hb hk hz hh hc hd hn =>
  obtain ⟨b1,b2⟩:=KS (i:=0) hk af;rw[show (1024+(k:Int)*8+(0:Nat))=1024+(k:Int)*8 by omega]at b1 b2;refine h.take hw hb hk af hz hh hc rfl rfl (by show (Xc (1024+(k:Int)*8)).toNat=k;rw[b2];omega) ⟨bh,b1,by show 0<=(b:Int);omega,by show (b:Int)<3;omega⟩ (KR hf ?_) hn;rw[find?_eq_none];intro o oV hp;unfold Ja at hp;simp at hp;have aS:=h.maps o oV;have:Yu o=b*6+k:=by
   unfold Yu;rw[hp.1.2,hp.2,b2];omega
  exact (h.used _ af).2 ⟨o,oV,this⟩ hz
def cJ.wf (hw:t.wf)   {aF:Int}  (ho:cJ t ae S aF x):x.1.wf:=by
 cases ho with
 | no e he=>exact hw
 | old m hf=>exact hw
 | own port hf aS hb hn=>exact ⟨hw.ai,hw.home⟩
 | new b k hf hb hk hz hh hc hd hn=>exact ⟨aq.cI _ hw.ai _ _ _,by show (t.home.set _ _).length=8;rw[length_set];exact hw.home⟩
def GT.ok (h:GT t)(hw:t.wf):t.ok:=by
 refine ⟨hw,fun m hm=>?_,by have:=xF (Kv.2 h);omega⟩;have aS:=h.maps m hm;obtain ⟨h1,h2,h3⟩:=Jv aS.1.1;have h4:=aS.1.2;have h5:=h4.1;unfold Yo at h5;simp only[Bool.and_eq_true,decide_eq_true_eq]at h5;unfold Fh;refine ⟨?_,?_,?_,?_,?_⟩<;>omega
def KT (hm:ud t m)(ho:ud t o):Jo m o=true ↔ Yu o=Yu m:=by
 rw[Ydz ho.2.2.1 hm.2.2.1];unfold Jo;simp
def QK (hg:p.bO=true){s:Int}{b k:Nat}(hb:b<3)(hk:k<6)(hs:0<=s)(ho:p.ow b k=s+1):p.bT s b k=(p.put b k 0,0):=by
 unfold aq.bT;rw[am hg,am]
 ·simp
 ·have ha:Ki (b:Int)=true:=by unfold Ki;simp;omega
  exact ⟨ha,by omega,by omega,hs,by simpa using ho⟩
def GT.bT (h:GT t)(hw:t.wf)  (hi:i<t.maps.length)(br:(t.maps.eraseIdx i).any (Jo t.maps[i])=false):GT ((t.del i).bT t.maps[i])/\((t.del i).bT t.maps[i]).wf/\((t.del i).bT t.maps[i]).maps=t.maps.eraseIdx i:=by
 have hm:=getElem_mem hi;have cz:∀ o ∈ t.maps.eraseIdx i,o ∈ t.maps:=fun o ho=>List.mem_of_mem_eraseIdx ho;have aS:=h.maps _ hm;have lO:=Al aS;have hbl:=vM t.maps[i].port;have tja:=QC aS.1;have n6:∀ o ∈ t.maps.eraseIdx i,Yu o≠Yu t.maps[i]:=fun o ho he=>by
  have h1:=any_eq_false.1 br o ho;exact h1 ((KT aS.1 (h.maps o (cz o ho)).1).2 he)
 have aD:∀ o ∈ t.maps,o≠t.maps[i]->o ∈ t.maps.eraseIdx i:=fun o ho cb=>by
  obtain ⟨n,hn,rfl⟩:=getElem_of_mem ho;exact List.mem_eraseIdx_iff_getElem.2 ⟨n,hn,fun e=>cb (by subst e;rfl),rfl⟩
 generalize t.maps[i]=m at *
 obtain ⟨A,hA⟩:=Int.eq_ofNat_of_zero_le aS.1.2.2.1;obtain ⟨K,hK⟩:=Int.eq_ofNat_of_zero_le hbl.1;obtain ⟨S,hS⟩:=Int.eq_ofNat_of_zero_le lO.1;have ug:A<3:=by have:=aS.1.2.2.2;omega
 have gM:=aS.2.2;rw[hA,hK,Int.toNat_natCast,Int.toNat_natCast]at gM;have QL:t.ai.bT m.s m.a (Xc m.port)=(t.ai.put A K 0,0):=by
  rw[hA,hK];exact QK h.ai ug af lO.1 gM
 have uh:Yu m=A*6+K:=by unfold Yu;rw[hA,hK];simp
 have oy:=aS.2.1;rw[hS,Int.toNat_natCast]at oy;have hl:A*6+K<t.ai.own.length:=by rw[hw.ai.own];omega
 have xJ:S<t.home.length:=by rw[hw.home];omega
 have Fz:t.ai.own.getD (A*6+K) 0=(S:Int)+1:=by rw[hS]at gM;exact gM
 have aY:∀ j,(t.ai.own.set (A*6+K) 0).getD j 0=if j=A*6+K then 0 else t.ai.own.getD j 0:=fun j=>Ao hl _ _;have iA:(t.ai.put A K 0).wf:=aq.cI _ hw.ai _ _ _;have iQ:∀ s,Ze (t.ai.own.set (A*6+K) 0) s=Ze t.ai.own s-if s=S then 1 else 0:=fun s=>by
  rw[QE hl,Fz,aa (show ¬ (0:Int)=(s:Int)+1 by omega)];by_cases e:s=S
  ·subst e;simp
  ·rw[aa af,aa e];rfl
 have eW:=QF hl Fz;have hH:_root_.Go.Proofs.YtogckmommodmhaaGreatDoor.dk ⟨t.ai.put A K 0,t.home,t.maps.eraseIdx i⟩ S:=fun j hj jY=>by
  have jY:(t.ai.own.set (A*6+K) 0).getD j 0=(S:Int)+1:=jY;rw[aY]at jY;split at jY
  ·omega
  ·exact h.dk S j hj jY
 have lP:=CR hH ⟨iA,hw.home⟩;have lP:Ze (t.ai.own.set (A*6+K) 0) S=(Js ⟨t.ai.put A K 0,t.home,t.maps.eraseIdx i⟩ S).length:=lP;have ik:(t.maps.eraseIdx i).any (fun o=>decide (o.s=(S:Int)))=true->Ze (t.ai.own.set (A*6+K) 0) S≠0:=fun ha=>by
  obtain ⟨o,ho,he⟩:=any_eq_true.1 ha;have he:o.s=(S:Int):=by simpa using he
  have xK:=h.maps o (cz o ho);have h1:=xK.2.2;rw[KQ,he]at h1;have h2:=n6 o ho;have h3:(t.ai.own.set (A*6+K) 0).getD (Yu o) 0=(S:Int)+1:=by rw[aY,aa (by rw[<- uh];exact h2)];exact h1
  have:=QF (by rw[length_set,hw.ai.own];exact QC xK.1) h3;omega
 -- Nc holds FA the homes
 have key:∀ H:List Int,H.length=8->(∀ s,s<8->s≠S->H.getD s 0=t.aT s)->(H.getD S 0=if Ze (t.ai.own.set (A*6+K) 0) S=0 then 0 else t.aT S)->GT ⟨t.ai.put A K 0,H,t.maps.eraseIdx i⟩:=by
  intro H hHl FB pg;refine ⟨QG h.ai _ _ af,fun o ho=>?_,h.apart.sublist (eraseIdx_sublist _ _),fun j hj=>?_,fun s hs=>?_,fun s hs=>?_,fun s hs=>?_⟩
  ·have xK:=h.maps o (cz o ho);have FC:=Al xK;refine ⟨xK.1,?_,?_⟩
   ·show H.getD o.s.toNat 0=o.a + 1;by_cases e:o.s=(S:Int)
    ·have hz:=ik (any_eq_true.2 ⟨o,ho,by simp[e]⟩);rw[e,Int.toNat_natCast,pg,aa hz];have:=xK.2.1;rw[e,Int.toNat_natCast]at this;exact this
    ·rw[FB _ af af];exact xK.2.1
   ·show (t.ai.own.set (A*6+K) 0).getD (Yu o) 0=o.s+1;rw[aY,aa (by rw[<- uh];exact n6 o ho)];exact xK.2.2
  ·show (t.ai.own.set (A * 6 + K) 0).getD j 0≠0 ↔ ∃ o ∈ t.maps.eraseIdx i,Yu o=j;rw[aY];by_cases e:j=A * 6 + K
   ·rw[am e];refine ⟨fun h0=>(h0 rfl).elim,fun ⟨o,ho,he⟩=>?_⟩;exact (n6 o ho (by rw[he,uh,e])).elim
   ·rw[aa e];refine (h.used j hj).trans ⟨fun ⟨o,ho,he⟩=>⟨o,aD o ho (fun q=>e (by rw[<- he,q,uh])),he⟩,fun ⟨o,ho,he⟩=>⟨o,cz o ho,he⟩⟩
  ·show Ze (t.ai.own.set (A*6+K) 0) s<=2;rw[iQ];have:=h.two s hs;omega
  ·exact Nat.le_trans (List.Sublist.countP_le (eraseIdx_sublist _ _)) (h.many s hs)
  ·show H.getD s 0≠0 ↔ 0 < Ze (t.ai.own.set (A * 6 + K) 0) s;by_cases e:s=S
   ·subst e;rw[pg];have:=aS.1.2.2.1;split<;>omega
   ·rw[FB s hs e,iQ,aa e];exact h.home s hs
 unfold Tb.bT;have e1:(t.del i).ai=t.ai:=rfl;have e2:(t.del i).home=t.home:=rfl;have e3:(t.del i).maps=t.maps.eraseIdx i:=rfl;rw[e1,e2,e3,QL,hS,Int.toNat_natCast];dsimp only;split
 ·rename_i h0;rw[h0]at lP;refine ⟨key _ (by rw[length_set];exact hw.home) (fun s _ cb=>?_) ?_,⟨iA,by show (t.home.set _ _).length=8;rw[length_set];exact hw.home⟩,rfl⟩
  ·rw[Ao xJ,aa cb];rfl
  ·rw[Ao xJ,am rfl,am (by simpa using lP)]
 ·rename_i h0;refine ⟨key _ hw.home (fun s _ _=>rfl) ?_,⟨iA,hw.home⟩,rfl⟩;rw[aa]
  ·rfl
  ·rw[lP];intro h1;exact h0 (List.eq_nil_of_length_eq_zero h1)
def GT.cls (h:GT t)(hw:t.wf)  (hm:m ∈ t.maps):∃ i,i<t.maps.length/\t.maps[i]?=some m/\GT (t.cls m).1/\(t.cls m).1.wf/\(t.cls m).1.maps=t.maps.eraseIdx i/\(t.cls m).2.2=0:=by
 have hg:¬ Zp t=false:=by rw[(vG t).2 (Kv.2 h)];simp
 unfold Tb.cls;rw[aa hg];cases hf:t.maps.findIdx? (fun x=>decide (m=x)) with
 | none =>
  have:=List.findIdx?_eq_none_iff.1 hf m hm;simp at this
 | some i =>
  obtain ⟨hi,he⟩:=P3 hf;refine ⟨i,hi,by rw[getElem?_eq_getElem hi,he],?_⟩;dsimp only;split
  ·rename_i ha;obtain ⟨o,ho,FC⟩:=any_eq_true.1 ha;have:=h.del hi ⟨o,ho,by rw[he];exact (KT (h.maps m hm).1 (h.maps o (List.mem_of_mem_eraseIdx ho)).1).1 FC⟩;exact ⟨this,⟨hw.ai,hw.home⟩,rfl,rfl⟩
  ·rename_i ha;have:=h.bT hw hi (by rw[he];simpa using ha);rw[he]at this;exact ⟨this.1,this.2.1,this.2.2,rfl⟩
def round (h:GT t)(hw:t.wf)   {aF:Int}(bh:Yr ae S aF=true)  (ho:cJ t ae S aF x)(hf:t.maps.find? (Xz ae S aF)=none)(he:x.2.2.2=0) :
  x.1.cls x.2.1=(t,x.2.2.1,0):=by
 have KU:=ho.bO h hw bh;obtain ⟨_,⟨_,jb⟩,_⟩:=Jv bh;have last:∀ (T:Tb) (m:Mp),GT (T.add m)->(∀ o ∈ T.maps,Yq o m=false)->(T.add m).cls m=if T.maps.any (Jo m)=true then (T,false,0) else (T.bT m,true,0):=by
  intro T m hg hk;unfold Tb.cls;rw[aa (by rw[(vG _).2 (Kv.2 hg)];simp)];have e1:(T.add m).maps.findIdx? (fun x=>decide (m=x))=some T.maps.length:=by
   show (T.maps++[m]).findIdx? _=_;rw[List.findIdx?_append];have:T.maps.findIdx? (fun x=>decide (m=x))=none:=by
    rw[List.findIdx?_eq_none_iff];intro o ho;have:=Xfh (hk o ho);simp;exact fun e=>this e.symm
   rw[this];simp
  have e2:(T.add m).maps.eraseIdx T.maps.length=T.maps:=by
   show (T.maps++[m]).eraseIdx T.maps.length=_;rw[List.eraseIdx_append_of_length_le (Nat.le_refl _)];simp
  have e3:(T.add m).del T.maps.length=T:=by unfold Tb.del;rw[e2];rfl
  rw[e1];dsimp only;rw[e2,e3]
 cases ho with
 | no e lC=>exact (lC he).elim
 | old m nK=>rw[hf]at nK;cases nK
 | own port nK aS hb hn =>
  dsimp only at KU ⊢;rw[last t _ KU (KR hf hb),am];have h1:t.ai.own.getD (Yu ⟨ae,S,aF,t.aT S-1,port⟩) 0≠0:=by
   rw[<- KQ t,aS.2.2];show (S:Int)+1≠0;omega
  obtain ⟨o,ho,he⟩:=(h.used _ (QC aS.1)).1 h1;exact any_eq_true.2 ⟨o,ho,(KT aS.1 (h.maps o ho).1).2 he⟩
 | new b k nK hb hk hz hh hc hd hn =>
  dsimp only at KU ⊢;obtain ⟨b1,b2⟩:=KS (i:=0) hk af;rw[show (1024+(k:Int)*8+(0:Nat))=1024+(k:Int)*8 by omega]at b1 b2;have bX:ud t ⟨ae,S,aF,b,1024+(k:Int)*8⟩:=⟨bh,b1,by show 0<=(b:Int);omega,by show (b:Int)<3;omega⟩
  have uh:Yu ⟨ae,S,aF,b,1024+(k:Int)*8⟩=b*6+k:=by
   unfold Yu;rw[b2];simp
  have FD:∀ o ∈ t.maps,Yu o≠b*6+k:=fun o ho he=>(h.used _ af).2 ⟨o,ho,he⟩ hz;have fY:∀ o ∈ t.maps,Yq o ⟨ae,S,aF,b,1024+(k:Int)*8⟩=false:=by
   refine KR hf ?_;rw[find?_eq_none];intro o oV hp;unfold Ja at hp;simp at hp;refine FD o oV ?_;unfold Yu;rw[hp.1.2,hp.2,b2];omega
  have hl:b*6+k<t.ai.own.length:=by rw[hw.ai.own];omega
  have CP:t.ai.own.getD (b*6+k) 0=0:=hz;rw[last _ _ KU fY,aa]
  ·have hpb:(t.ai.put b k ((S:Int)+1)).put b k 0=t.ai:=by
    unfold aq.put;dsimp only;rw[set_set];have:t.ai.own.set (b*6+k) 0=t.ai.own:=by
     have e:t.ai.own[b*6+k]=0:=by rw[getD_eq_getElem?_getD,getElem?_eq_getElem hl]at CP;exact CP
     rw[<- e,List.set_getElem_self]
    rw[this]
   have QL:(t.ai.put b k ((S:Int)+1)).bT S b k=(t.ai,0):=by
    rw[QK (QG h.ai _ _ af) hb hk af,hpb];show (t.ai.own.set (b*6+k) ((S:Int)+1)).getD (b*6+k) 0=_;rw[Ao hl,am rfl]
   unfold Tb.bT;dsimp only;rw[b2,QL,Int.toNat_natCast];dsimp only;have xJ:S<t.home.length:=by rw[hw.home];omega
   have oy:(⟨t.ai,t.home.set S ((b:Int)+1),t.maps⟩:Tb).aT S=b+1:=by
    show (t.home.set S ((b:Int)+1)).getD S 0=_;rw[Ao xJ,am rfl]
   have hcz:=CR (h.dk S) hw;rcases hh with hh|hh
   ·have iE:Ze t.ai.own S=0:=by
     have:=h.home S af;rcases Nat.eq_zero_or_pos (Ze t.ai.own S) with h0|h0
     ·exact h0
     ·exact (this.2 h0 hh).elim
    rw[am]
    ·rw[set_set];have:t.home.set S 0=t.home:=by
      have e:t.home[S]=0:=by
       unfold Tb.aT at hh;rw[getD_eq_getElem?_getD,getElem?_eq_getElem xJ]at hh;exact hh
      rw[<- e,List.set_getElem_self]
     rw[this]
    ·have vl:dk ⟨t.ai,t.home.set S ((b:Int)+1),t.maps⟩ S:=fun j hj jY=>by
      exfalso;have:=QF (s:=S) (by have:=hw.ai.own;omega:j<t.ai.own.length) jY;omega
     have:=CR vl ⟨hw.ai,by show (t.home.set _ _).length=8;rw[length_set];exact hw.home⟩;have e:(Js ⟨t.ai,t.home.set S ((b:Int)+1),t.maps⟩ S).length=0:=by rw[<- this];exact iE
     exact List.eq_nil_of_length_eq_zero e
   ·have cW:t.home.set S ((b:Int)+1)=t.home:=by
     have e:t.home[S]=(b:Int)+1:=by
      unfold Tb.aT at hh;rw[getD_eq_getElem?_getD,getElem?_eq_getElem xJ]at hh;exact hh
     rw[<- e,List.set_getElem_self]
    rw[cW,aa];intro h0;rw[h0]at hcz;have:=(h.home S af).1 af;simp at hcz;omega
  ·rw[Bool.not_eq_true,any_eq_false];intro o ho hs;exact FD o ho (by rw[(KT bX (h.maps o ho).1).1 hs,uh])
def QM:aq:=⟨List.replicate 18 0,List.replicate 3 false⟩
def tb0:Tb:=⟨QM,List.replicate 8 0,[]⟩
def Xwi:QM.wf:=⟨rfl,rfl⟩
def Yes:tb0.wf:=⟨Xwi,rfl⟩
def Yfl (n i:Nat):(List.replicate n (0:Int)).getD i 0=0:=Fi n i
def GT.none (h:p.bO=true)(ho:∀ i,p.own.getD i 0=0){H:List Int}(hH:∀ i,H.getD i 0=0)(hc:∀ s,Ze p.own s=0):GT ⟨p,H,[]⟩:=by
 refine ⟨h,fun m hm=>(by cases hm),List.Pairwise.nil,fun i _=>⟨fun h=>(h (ho i)).elim,fun ⟨m,hm,_⟩=>(by cases hm)⟩,fun s _=>(by show Ze p.own s<=2;rw[hc];omega),fun s _=>Nat.zero_le _,fun s _=>⟨fun h=>(h (hH s)).elim,fun h=>?_⟩⟩;have h:0<Ze p.own s:=h;rw[hc]at h;omega
def Yft:GT tb0:=GT.none (by decide) (fun i=>Yfl 18 i) (fun i=>Yfl 8 i) fun s=>by
 unfold Ze QM;rw[List.countP_eq_zero];intro o ho;rw[(List.mem_replicate.1 ho).2];simp;omega
def cJ.has {aF:Int}  (h:cJ t ae S aF x)(he:x.2.2.2=0):x.2.1 ∈ x.1.maps/\x.2.1.ae=ae/\x.2.1.s=S/\x.2.1.aF=aF/\(x.2.2.1=true->∃ b,b<3/\x.2.1.a=(b:Nat)/\t.ai.kW b=false):=by
 cases h with
 | no e lC=>exact (lC he).elim
 | old m hf =>
  have:=find?_some hf;unfold Xz at this;simp at this;exact ⟨List.mem_of_find?_eq_some hf,this.1.1,this.1.2,this.2,fun h=>by cases h⟩
 | own port hf aS hb hn=>exact ⟨List.mem_append_right _ (mem_singleton.2 rfl),rfl,rfl,rfl,fun h=>by cases h⟩
 | new b k hf hb hk hz hh hc hd hn=>exact ⟨List.mem_append_right _ (mem_singleton.2 rfl),rfl,rfl,rfl,fun _=>⟨b,hb,rfl,hd⟩⟩
def Yjd (h:GT t)   (hi:t.maps[i]?=some m):(t.maps.eraseIdx i).find? (Xz m.ae m.s m.aF)=none:=by
 rw[find?_eq_none];intro o ho hp;obtain ⟨n,hn,cb,rfl⟩:=List.mem_eraseIdx_iff_getElem.1 ho;obtain ⟨m7,he⟩:=List.getElem?_eq_some_iff.1 hi;have hk:=Quc hp;have hp:=List.pairwise_iff_getElem.1 h.apart;rcases Nat.lt_or_gt_of_ne cb with h1|h1
 ·have:=hp n i hn m7 h1;rw[he]at this;rw[this]at hk;cases hk
 ·have:=hp i n m7 hn h1;rw[he,KO]at this;rw[this]at hk;cases hk
def GT.drain (h:GT t)(a:Int)(to:Bool):GT ⟨(t.ai.drain a to).1,t.home,t.maps⟩:=by
 have ho:(t.ai.drain a to).1.own=t.ai.own:=by
  unfold aq.drain;split
  ·split<;>rfl
  ·rfl
 have gM:∀ a' k,(t.ai.drain a to).1.ow a' k=t.ai.ow a' k:=fun a' k=>by unfold aq.ow;rw[ho]
 refine ⟨?_,fun m hm=>?_,h.apart,fun i hi=>?_,fun s hs=>?_,h.many,fun s hs=>?_⟩
 ·unfold aq.bO;rw[ho];exact h.ai
 ·have:=h.maps m hm;exact ⟨this.1,this.2.1,by show (t.ai.drain a to).1.ow _ _=_;rw[gM];exact this.2.2⟩
 ·show (t.ai.drain a to).1.own.getD i 0≠0 ↔ _;rw[ho];exact h.used i hi
 ·show Ze (t.ai.drain a to).1.own s<=2;rw[ho];exact h.two s hs
 ·show _ ↔ 0<Ze (t.ai.drain a to).1.own s;rw[ho];exact h.home s hs
def FE:List AV:=[.int .i64 1,.int .i64 6,.int .i64 17]
theorem Xsc (n:Nat):ah n FE=True:=by simp[FE,ah,Qe]
theorem Xcs (ρ:Nat->Nat):ay ρ FE=FE:=by simp[FE,ay,aA]
attribute [go_sem] Xsc Xcs
end Go.Proofs.YtogckmommodmhaaGreatDoor
