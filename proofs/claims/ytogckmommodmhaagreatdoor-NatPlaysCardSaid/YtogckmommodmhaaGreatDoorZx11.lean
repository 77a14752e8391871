import Derived.Test.YtogckmommodmhaaGreatDoorZx10
namespace Go.Proofs.YtogckmommodmhaaGreatDoor
open List (all_eq_true getElem_of_mem any_eq_true getElem_mem any_eq_false mem_singleton mem_append eraseIdx_sublist mem_range getD_eq_getElem?_getD find?_eq_none find?_some getElem?_eq_getElem length_set set_set)
open Go.RowKit
set_option linter.all false
set_option maxRecDepth 100000
variable {l:List Mp}{p:aq}{t:Tb}{o m:Mp}{i s:Nat}{ae:Int}{S:Nat}{x:Tb×Mp×Bool×Int}
def Zk (own:List Int)(s:Nat):Nat:=own.countP fun o=>o==(s:Int)+1
structure GT (t:Tb):Prop where
 ai:t.ai.bR=true
 maps:∀ m ∈ t.maps,Up t m
 apart:t.maps.Pairwise fun x y=>Ys x y=false
 used:∀ i,i<18->(t.ai.own.getD i 0≠0 ↔ ∃ m ∈ t.maps,Yx m=i)
 two:∀ s,s<8->Zk t.ai.own s<=2
 many:∀ s:Nat,s<8->Ye t.maps (s:Int)<=12
 home:∀ s,s<8->(t.aT s≠0 ↔ 0<Zk t.ai.own s)
def Lb (x y:Mp):Ys x y=Ys y x:=by
 have hb:∀ a b:Int,(a==b)=(b==a):=fun a b=>by
  by_cases h:a=b
  ·subst h;rfl
  ·have h2:¬ b=a:=fun e=>h e.symm;rw[beq_eq_false_iff_ne.2 h,beq_eq_false_iff_ne.2 h2]
 unfold Ys;rw[hb y.ae,hb y.a,hb y.port,hb y.s,hb y.aH]
def Qz1 (h:p.bR=true){o:Int}(ho:o ∈ p.own):0<=o/\o<=8:=by
 have:=all_eq_true.1 h o ho;unfold Ui at this;simp at this;omega
def Lc (h:p.bR=true)  (hs:s<8):(Um p.own).getD s 0=Zk p.own s:=by
 rw[Xfi _ _ hs];unfold Zk;congr 1;refine List.countP_congr fun o ho=>?_;have:=Qz1 h ho;simp only[Bool.and_eq_true,Bool.not_eq_true',beq_eq_false_iff_ne,beq_iff_eq,ne_eq];omega
def Qya (h:∀ m ∈ l,0<=m.s)  (hs:s<8):(lW l).getD s 0=Ye l s:=by
 rw[Qx5 _ _ hs];unfold Ye;congr 1;refine List.countP_congr fun o ho=>?_;have:=h o ho;simp only[beq_iff_eq];omega
def Ax (h:Up t m):0<=m.s/\m.s<8:=by
 obtain ⟨_,h2,_⟩:=Ka h.1.1;exact h2
def Kb:dy t ↔ GT t:=by
 constructor
 ·intro h;have hm:∀ m ∈ t.maps,Up t m:=fun m hm=>by
   obtain ⟨i,hi,rfl⟩:=getElem_of_mem hm;exact h.maps i hi
  refine ⟨h.ai,hm,List.pairwise_iff_getElem.2 fun i j hi hj gn=>?_,fun i hi=>?_,fun s hs=>?_,fun s hs=>?_,fun s hs=>?_⟩
  ·rw[Lb];exact h.apart j i hj gn
  ·have:=h.used i hi;rw[P5 _ _ hi]at this;rw[<- bne_iff_ne,this,any_eq_true];simp
  ·have:=(h.qz s hs).1;rw[Lc h.ai hs]at this;omega
  ·have:=(h.qz s hs).2.1;rw[Qya (fun m Ay=>(Ax (hm m Ay)).1) hs]at this;omega
  ·have:=(h.qz s hs).2.2;rw[Lc h.ai hs]at this;rw[<- bne_iff_ne,this,decide_eq_true_eq];omega
 ·intro h;refine ⟨h.ai,fun i hi=>h.maps _ (getElem_mem hi),fun i j hi hj=>?_,fun i hi=>?_,fun s hs=>⟨?_,?_,?_⟩⟩
  ·rw[Lb];exact List.pairwise_iff_getElem.1 h.apart j i af hi hj
  ·rw[P5 _ _ hi];have:=h.used i hi;rw[← bne_iff_ne]at this;by_cases h2:(t.ai.own.getD i 0 != 0)=true
   ·rw[h2];obtain ⟨m,hm,he⟩:=this.1 h2;exact (any_eq_true.2 ⟨m,hm,by simp[he]⟩).symm
   ·have h3:(t.ai.own.getD i 0 != 0)=false:=by simpa using h2
    rw[h3];symm;rw[any_eq_false];intro m hm he;exact h2 (this.2 ⟨m,hm,by simpa using he⟩)
  ·rw[Lc h.ai hs];have:=h.two s hs;omega
  ·rw[Qya (fun m Ay=>(Ax (h.maps m Ay)).1) hs];have:=h.many s hs;omega
  ·rw[Lc h.ai hs];have:=h.home s hs;rw[← bne_iff_ne]at this;by_cases h2:(t.aT s != 0)=true
   ·rw[h2];have:=this.1 h2;simp;omega
   ·have h3:(t.aT s != 0)=false:=by simpa using h2
    rw[h3];symm;rw[decide_eq_false_iff_not];intro h4;exact h2 (this.2 af)
def vV (port:Int):0<=Xd port/\Xd port<6:=by
 unfold Xd;split
 ·rename_i h;unfold Yq at h;simp at h;omega
 ·omega
def Ycl (hm:0<=m.a)(ho:0<=o.a):Yx m=Yx o ↔ m.a=o.a/\Xd m.port=Xd o.port:=by
 have h1:=vV m.port;have h2:=vV o.port;unfold Yx;constructor
 ·intro h;omega
 ·rintro ⟨h3,h4⟩;rw[h3,h4]
def QL (h:uq t m):Yx m<18:=by
 have h1:=vV m.port;have:=h.2.2;unfold Yx;omega
theorem Ld (t:Tb)(m:Mp):t.ai.ow m.a.toNat (Xd m.port).toNat=t.ai.own.getD (Yx m) 0:=rfl
def Xh4 (h:Ys m o=false):m≠o:=by
 rintro rfl;simp[Ys]at h
def Qzt (l:List Mp)(m:Mp)(s:Int):Ye (l++[m]) s=Ye l s+(if m.s=s then 1 else 0):=by
 unfold Ye;rw[List.countP_append];by_cases h:m.s=s<;>simp[h]
def QM (h:l.Pairwise fun x y=>Ys x y=false)(hm:∀ o ∈ l,Ys o m=false):(l++[m]).Pairwise fun x y=>Ys x y=false:=by
 rw[List.pairwise_append];exact ⟨h,List.pairwise_singleton _ _,fun a ha b hb=>by rw[mem_singleton.1 hb];exact hm a ha⟩
def GT.add (h:GT t)  (hm:Up t m)(hk:∀ o ∈ t.maps,Ys o m=false)(hn:Ye t.maps m.s<12):GT (t.add m):=by
 refine ⟨h.ai,fun o ho=>?_,QM h.apart hk,fun i hi=>?_,h.two,fun s hs=>?_,h.home⟩
 ·rcases mem_append.1 ho with ho|ho
  ·exact h.maps o ho
  ·rw[mem_singleton.1 ho];exact hm
 ·refine (h.used i hi).trans ⟨fun ⟨o,ho,he⟩=>⟨o,List.mem_append_left _ ho,he⟩,fun ⟨o,ho,he⟩=>?_⟩;rcases mem_append.1 ho with ho|ho
  ·exact ⟨o,ho,he⟩
  ·rw[mem_singleton.1 ho]at he;refine (h.used i hi).1 ?_;rw[<- he,<- Ld t m,hm.2.2];have:=Ax hm;omega
 ·show Ye (t.maps++[m]) s≤12;rw[Qzt];have:=h.many s hs;split
  ·rename_i e;rw[e]at hn;omega
  ·omega
def Az {l:List Int}  (h:i<l.length)(v:Int)(j:Nat):(l.set i v).getD j 0=if j=i then v else l.getD j 0:=by
 by_cases e:j=i
 ·subst e;simp[List.getD,h]
 ·rw[aa e];simp[List.getD,List.getElem?_set_ne (fun q=>e q.symm)]
def QN {l:List Int}  (h:i<l.length)(v:Int)(s:Nat):Zk (l.set i v) s=(Zk l s-if l.getD i 0=(s:Int)+1 then 1 else 0)+if v=(s:Int)+1 then 1 else 0:=by
 unfold Zk;rw[List.countP_set h];have e:l.getD i 0=l[i]:=by simp[List.getD,h]
 rw[e];simp only[beq_iff_eq]
def QO {l:List Int}  (h:i<l.length)(he:l.getD i 0=(s:Int)+1):0<Zk l s:=by
 unfold Zk;rw[List.countP_pos_iff];refine ⟨l[i],getElem_mem h,?_⟩;have e:l.getD i 0=l[i]:=by simp[List.getD,h]
 rw[e]at he;simp[he]
def QP (h:p.bR=true)(a k:Nat){o:Int}(ho:0<=o/\o<=8):(p.put a k o).bR=true:=by
 refine all_eq_true.2 fun x hx=>?_;rcases List.mem_or_eq_of_mem_set hx with h2|h2
 ·exact all_eq_true.1 h x h2
 ·subst h2;unfold Ui;simp;omega
def GT.take {t:Tb}(h:GT t)(hw:t.wf){b k S:Nat}(hb:b<3)(hk:k<6)(hS:S<8)(hz:t.ai.ow b k=0)(hh:t.aT S=0\/t.aT S=b+1)(hc:Zk t.ai.own S<=1){m:Mp}(hs:m.s=S)(ha:m.a=b)(eG:(Xd m.port).toNat=k)
  (b6:uq t m) (fO:∀ o ∈ t.maps,Ys o m=false) (hn:Ye t.maps m.s<12):GT ((⟨t.ai.put b k (S+1),t.home.set S (b+1),t.maps⟩:Tb).add m):=by
 have hl:b*6+k<t.ai.own.length:=by rw[hw.ai.own];omega
 have xO:S<t.home.length:=by rw[hw.home];exact hS
 have AA:Yx m=b*6+k:=by unfold Yx;rw[eG,ha,Int.toNat_natCast]
 have C2:t.ai.own.getD (b*6+k) 0=0:=hz;have oF:∀ u,(⟨t.ai.put b k (S+1),t.home.set S (b+1),t.maps⟩:Tb).aT u=if u=S then (b:Int)+1 else t.aT u:=fun u=>Az xO _ _;have gT:∀ i,(t.ai.own.set (b*6+k) ((S:Int)+1)).getD i 0=if i=b*6+k then (S:Int)+1 else t.ai.own.getD i 0:=fun i=>Az hl _ _;have hold:∀ o ∈ t.maps,Yx o≠b*6+k:=fun o ho he=>by
  exact (h.used _ af).2 ⟨o,ho,he⟩ C2
 refine ⟨QP h.ai _ _ af,fun o ho=>?_,QM h.apart fO,fun i hi=>?_,fun s rQ=>?_,fun s rQ=>?_,fun s rQ=>?_⟩
 ·rcases mem_append.1 ho with ho|ho
  ·have:=h.maps o ho;have h8:=Ax this;have h3:=this.1.2.2;refine ⟨this.1,?_,?_⟩
   ·show (⟨t.ai.put b k (S + 1),t.home.set S (b + 1),t.maps⟩:Tb).aT _=_;rw[oF];split
    ·rename_i e;have:=this.2.1;rw[e]at this;omega
    ·exact this.2.1
   ·show (t.ai.own.set (b*6+k) ((S:Int)+1)).getD (Yx o) 0=_;rw[gT,aa (hold o ho)];exact this.2.2
  ·rw[mem_singleton.1 ho];refine ⟨b6,?_,?_⟩
   ·show (⟨t.ai.put b k (S+1),t.home.set S (b+1),t.maps⟩:Tb).aT _=_;rw[oF,am af,ha]
   ·show (t.ai.own.set (b*6+k) ((S:Int)+1)).getD (Yx m) 0=_;rw[gT,am AA,hs]
 ·show (t.ai.own.set (b * 6 + k) ((S:Int) + 1)).getD i 0≠0 ↔ ∃ o ∈ t.maps++[m],Yx o=i;rw[gT];by_cases e:i=b * 6 + k
  ·rw[am e];exact ⟨fun _=>⟨m,by simp,by rw[AA,e]⟩,fun _=>by omega⟩
  ·rw[aa e];refine (h.used i hi).trans ⟨fun ⟨o,ho,he⟩=>⟨o,List.mem_append_left _ ho,he⟩,fun ⟨o,ho,he⟩=>?_⟩;rcases mem_append.1 ho with ho|ho
   ·exact ⟨o,ho,he⟩
   ·rw[mem_singleton.1 ho]at he;exact (e (by rw[<- he,AA])).elim
 ·show Zk (t.ai.own.set (b * 6 + k) ((S:Int) + 1)) s≤2;rw[QN hl,C2,aa af];have:=h.two s rQ;split
  ·rename_i e;have:s=S:=by omega
   subst this;omega
  ·omega
 ·show Ye (t.maps++[m]) s≤12;rw[Qzt];have:=h.many s rQ;split
  ·rename_i e;rw[e]at hn;omega
  ·omega
 ·show (⟨t.ai.put b k (S + 1),t.home.set S (b + 1),t.maps⟩:Tb).aT s≠0 ↔ 0 < Zk (t.ai.own.set (b * 6 + k) ((S:Int) + 1)) s;rw[oF,QN hl,C2,aa (show ¬ (0:Int)=(s:Int) + 1 by omega)];by_cases e:s=S
  ·subst e;rw[am rfl,am rfl];omega
  ·rw[aa e,aa af];have:=h.home s rQ;omega
def GT.del (h:GT t)  (hi:i<t.maps.length)(ho:∃ o ∈ t.maps.eraseIdx i,Yx o=Yx t.maps[i]):GT (t.del i):=by
 have cD:∀ o ∈ t.maps.eraseIdx i,o ∈ t.maps:=fun o ho=>List.mem_of_mem_eraseIdx ho;refine ⟨h.ai,fun o ho=>h.maps o (cD o ho),h.apart.sublist (eraseIdx_sublist _ _),fun j hj=>?_,h.two,fun s hs=>?_,h.home⟩
 ·refine (h.used j hj).trans ⟨fun ⟨o,pf,he⟩=>?_,fun ⟨o,pf,he⟩=>⟨o,cD o pf,he⟩⟩;obtain ⟨n,hn,rfl⟩:=getElem_of_mem pf;by_cases e:n=i
  ·subst e;obtain ⟨q,hq,QQ⟩:=ho;exact ⟨q,hq,QQ.trans he⟩
  ·exact ⟨_,List.mem_eraseIdx_iff_getElem.2 ⟨n,hn,e,rfl⟩,he⟩
 ·have:=h.many s hs;exact Nat.le_trans (List.Sublist.countP_le (eraseIdx_sublist _ _)) this
def uC (own:List Int)(s a:Nat):Nat:=(List.range 6).countP fun k=>own.getD (a*6+k) 0==(s:Int)+1
def Xw6 {own:List Int}(h:own.length=18)(s:Nat):Zk own s=uC own s 0+uC own s 1+uC own s 2:=by
 match own,h with
 | [o0,o1,o2,o3,o4,o5,o6,o7,o8,o9,o10,o11,o12,o13,o14,o15,o16,o17],_ =>
  have e:List.range 6=[0,1,2,3,4,5]:=rfl;unfold Zk uC;rw[e];simp only[List.countP_cons,List.countP_nil,List.getD,List.getElem?_cons_zero,List.getElem?_cons_succ,Option.getD_some,Nat.zero_add,Nat.zero_mul,Nat.one_mul,Nat.reduceMul,Nat.reduceAdd,Nat.add_zero]
  ac_rfl
def GT.owner (h:GT t)  (hi:i<18)(ho:t.ai.own.getD i 0=(s:Int)+1):1<=t.aT s/\(t.aT s-1).toNat=i/6/\t.aT s<=3:=by
 obtain ⟨m,hm,he⟩:=(h.used i hi).1 af;have aS:=h.maps m hm;have hs:=Ax aS;have hb:=vV m.port;have h1:=aS.2.2;rw[Ld,he,ho]at h1;have h2:=aS.2.1;rw[show m.s.toNat=s by omega]at h2;have ha:=aS.1.2.2;unfold Yx at he;omega
def dq (t:Tb)(s:Nat):Prop:=∀ i,i<18->t.ai.own.getD i 0=(s:Int)+1->1<=t.aT s/\(t.aT s-1).toNat=i/6/\t.aT s<=3
def GT.dq (h:GT t)(s:Nat):dq t s:=fun _ hi ho=>h.owner hi ho
def C3 (h:dq t s)(a:Nat)(ha:a<3)(hn:¬ (1<=t.aT s/\(t.aT s-1).toNat=a)):uC t.ai.own s a=0:=by
 unfold uC;rw[List.countP_eq_zero];intro k hk he;have hk:=mem_range.1 hk;have:=h (a*6+k) af (by simpa using he);omega
def C4 (h:dq t s)(hw:t.wf):Zk t.ai.own s=(Jt t s).length:=by
 rw[Xw6 hw.ai.own];unfold Jt;split
 ·rename_i h1;have e:(Zo t s 6).length=uC t.ai.own s (t.aT s-1).toNat:=by
   unfold Zo uC;rw[<- List.countP_eq_length_filter];rfl
  rw[e];have h0:=C3 h 0 af;have mz:=C3 h 1 af;have h2:=C3 h 2 af;by_cases e0:(t.aT s-1).toNat=0
  ·rw[e0,mz af,h2 af];omega
  ·by_cases e1:(t.aT s - 1).toNat=1
   ·rw[e1,h0 af,h2 af];omega
   ·by_cases e2:(t.aT s - 1).toNat=2
    ·rw[e2,h0 af,mz af];omega
    ·rw[h0 af,mz af,h2 af];have:uC t.ai.own s (t.aT s-1).toNat=0:=by
      unfold uC;rw[List.countP_eq_zero];intro k hk he;rw[getD_eq_getElem?_getD,List.getElem?_eq_none (by have:=hw.ai.own;omega)]at he;simp at he;omega
     omega
 ·rw[C3 h 0 af af,C3 h 1 af af,C3 h 2 af af];rfl
def Qpw (m:Mp):Ya m.ae m.s m.aH m=true:=by simp[Ya]
def Qss (h:Ya m.ae m.s m.aH o=true):Ys o m=true:=by
 unfold Ya at h;unfold Ys;simp at h ⊢;exact ⟨h.1.1.symm,Or.inr ⟨h.1.2.symm,h.2.symm⟩⟩
def Xv2 (h:l.Pairwise fun x y=>Ys x y=false){x y:Mp}(hx:x ∈ l)(hy:y ∈ l)(hk:Ys x y=true):x=y:=by
 obtain ⟨i,hi,rfl⟩:=getElem_of_mem hx;obtain ⟨j,hj,rfl⟩:=getElem_of_mem hy;have hp:=List.pairwise_iff_getElem.1 h;rcases Nat.lt_trichotomy i j with gn|rfl|gn
 ·have:=hp i j hi hj gn;rw[this]at hk;cases hk
 ·rfl
 ·have:=hp j i hj hi gn;rw[Lb,this]at hk;cases hk
def Xxi (p:Mp->Bool)(m:Mp)(hm:m ∈ l)(hp:p m=true)(hu:∀ o ∈ l,p o=true->o=m):l.find? p=some m:=by
 cases h:l.find? p with
 | none=>exact absurd hp (by have:=find?_eq_none.1 h m hm;simpa using this)
 | some o=>rw[hu o (List.mem_of_find?_eq_some h) (find?_some h)]
def GT.fwd (h:GT t)  (hm:m ∈ t.maps):t.maps.find? (Ya m.ae m.s m.aH)=some m :=
 Xxi _ m hm (Qpw m) fun o ho hp=>Xv2 h.apart ho hm (Qss hp)
def Le (h1:l.find? (Ya m.ae m.s m.aH)=none)(h2:l.find? (Jd m.ae m.a m.port)=none):∀ o ∈ l,Ys o m=false:=by
 intro o ho;have h1:=find?_eq_none.1 h1 o ho;have h2:=find?_eq_none.1 h2 o ho;cases hk:Ys o m with
 | false=>rfl
 | true =>
  exfalso;unfold Ys at hk;unfold Ya at h1;unfold Jd at h2;simp at hk h1 h2;rcases hk with ⟨hp,⟨ha,hq⟩|⟨ha,hq⟩⟩
  ·exact h2 hp.symm ha.symm hq.symm
  ·exact h1 hp.symm ha.symm hq.symm
inductive cM (t:Tb)(ae:Int)(S:Nat)(aH:Int):Tb×Mp×Bool×Int->Prop
 | no (e:Int) (he:e≠0):cM t ae S aH (t,cQ,false,e)
 | old (m:Mp) (hf:t.maps.find? (Ya ae S aH)=some m):cM t ae S aH (t,m,false,0)
 | own (port:Int) (hf:t.maps.find? (Ya ae S aH)=none) (aS:Up t ⟨ae,S,aH,t.aT S - 1,port⟩) (hb:t.maps.find? (Jd ae (t.aT S - 1) port)=none) (hn:Ye t.maps S < 12) :
   cM t ae S aH (t.add ⟨ae,S,aH,t.aT S-1,port⟩,⟨ae,S,aH,t.aT S-1,port⟩,false,0)
 | new (b k:Nat) (hf:t.maps.find? (Ya ae S aH)=none) (hb:b < 3) (hk:k < 6) (hz:t.ai.ow b k=0) (hh:t.aT S=0∨t.aT S=b + 1) (hc:Zk t.ai.own S≤1) (hd:t.ai.lb b=false) (hn:Ye t.maps S < 12) :
   cM t ae S aH ((⟨t.ai.put b k (S+1),t.home.set S (b+1),t.maps⟩:Tb).add ⟨ae,S,aH,b,1024+(k:Int)*8⟩,⟨ae,S,aH,b,1024+(k:Int)*8⟩,true,0)
def Lf {q i:Nat}(hq:q<6)(hi:i<8):Yq (1024+(q:Int)*8+i)=true/\Xd (1024+(q:Int)*8+i)=q:=by
 have h:Yq (1024+(q:Int)*8+i)=true:=by unfold Yq;simp;omega
 refine ⟨h,?_⟩;unfold Xd;rw[am h];omega
def Qtn (h:GT t)(hw:t.wf)   {aH:Int}(hf:t.maps.find? (Ya ae S aH)=none)(hn:Ye t.maps S<12)(a draw:Int)(hh:t.aT S=0\/t.aT S=a+1)(hc:Zk t.ai.own S<=1):cM t ae S aH (t.tk ae S aH a draw):=by
 have ea:=Fv t.ai hw.ai S a draw;unfold Tb.tk;generalize t.ai.take S a draw=x at *
 cases ea with
 | no e he=>rw[am he];exact .no e he
 | yes b k ha hb hk _ _ _ hd _ ho =>
  rw[aa av];subst ha;exact .new b k hf hb hk ho af hc hd hn
def opened (h:GT t)(hw:t.wf)   {aH:Int}(bg:Yu ae S aH=true)(draw:Int):cM t ae S aH (t.cd ae S aH draw):=by
 have bZ:¬ (Zr t=false\/Yu ae S aH=false):=by
  rw[(vQ t).2 (Kb.2 h),bg];simp
 obtain ⟨_,⟨_,je⟩,_⟩:=Ka bg;unfold Tb.cd;rw[aa bZ];cases hf:t.maps.find? (Ya ae S aH) with
 | some m=>exact .old m hf
 | none =>
  dsimp only;split
  ·exact .no 6 aJ
  rename_i hn;have hn:Ye t.maps S<12:=by omega
  rw[Int.toNat_natCast];cases CQ:Jm t ae (t.aT S-1) (Jt t S) with
  | some port =>
   dsimp only;unfold Jm at CQ;have hm:=List.mem_of_find?_eq_some CQ;have nt:=find?_some CQ;obtain ⟨q,hq,hp⟩:=List.mem_flatMap.1 hm;have h1:1<=t.aT S:=by
    rcases Int.lt_or_le (t.aT S) 1 with h2|h2
    ·have e:Jt t S=[]:=aa af;rw[e]at hq;cases hq
    ·exact h2
   have e:Jt t S=Zo t S 6:=am h1;rw[e]at hq;unfold Zo at hq;obtain ⟨QR,hqo⟩:=List.mem_filter.1 hq;have QR:=mem_range.1 QR;unfold Zq at hp;obtain ⟨i,hi,rfl⟩:=List.mem_map.1 hp;have hi:=mem_range.1 hi;obtain ⟨b1,b2⟩:=Lf QR hi;have h3:=(h.dq S)
   have oF:t.ai.ow (t.aT S-1).toNat q=(S:Int)+1:=by simpa using hqo
   have h3:t.aT S<=3:=by
    obtain ⟨x,hx⟩:=List.exists_mem_of_ne_nil _ (show Jt t S≠[] by rw[e];intro h0;unfold Zo at h0;rw[h0]at hq;cases hq);have kr:0<Zk t.ai.own S:=by
     rw[C4 (h.dq S) hw,List.length_pos_iff];intro h0;rw[h0]at hx;cases hx
    unfold Zk at kr;obtain ⟨o,ho,he⟩:=List.countP_pos_iff.1 kr;obtain ⟨j,hj,rfl⟩:=getElem_of_mem ho;have QS:j<18:=by have:=hw.ai.own;omega
    exact (h.dq S j QS (by rw[getD_eq_getElem?_getD,getElem?_eq_getElem hj];simpa using he)).2.2
   refine .own _ hf ⟨⟨bg,b1,by show 0<=t.aT S-1;omega,by show t.aT S-1<3;omega⟩,?_,?_⟩ ?_ hn
   ·show t.aT (S:Int).toNat=t.aT S-1+1;rw[Int.toNat_natCast];omega
   ·show t.ai.ow (t.aT S-1).toNat (Xd _).toNat=(S:Int)+1;rw[b2,Int.toNat_natCast];exact oF
   ·unfold mP at nt;simpa using nt
  | none =>
   dsimp only;split
   ·exact .no 6 aJ
   rename_i h2;have hc:Zk t.ai.own S<=1:=by rw[C4 (h.dq S) hw];omega
   split
   ·rename_i h1;exact Qtn h hw hf hn _ draw af hc
   ·rename_i h1;have h0:t.aT S=0:=by
     have:=Tb.jH (Kb.2 h) hw (s:=S) af;omega
    split
    ·rename_i hp;exact .no _ hp
    ·exact Qtn h hw hf hn _ draw (.inl h0) hc
def cM.bR (h:GT t)(hw:t.wf)   {aH:Int}(bg:Yu ae S aH=true)  (ho:cM t ae S aH x):GT x.1:=by
 obtain ⟨_,⟨_,je⟩,_⟩:=Ka bg;cases ho with
 | no e he=>exact h
 | old m hf=>exact h
 | own port hf aS hb hn=>exact h.add aS (Le hf hb) hn
 | new b k hf hb hk hz hh hc hd hn =>
  obtain ⟨b1,b2⟩:=Lf (i:=0) hk af;rw[show (1024+(k:Int)*8+(0:Nat))=1024+(k:Int)*8 by omega]at b1 b2;refine h.take hw hb hk af hz hh hc rfl rfl (by show (Xd (1024+(k:Int)*8)).toNat=k;rw[b2];omega) ⟨bg,b1,by show 0<=(b:Int);omega,by show (b:Int)<3;omega⟩ (Le hf ?_) hn;rw[find?_eq_none];intro o pf hp;unfold Jd at hp;simp at hp;have aS:=h.maps o pf;have:Yx o=b*6+k:=by
   unfold Yx;rw[hp.1.2,hp.2,b2];omega
  exact (h.used _ af).2 ⟨o,pf,this⟩ hz
def cM.wf (hw:t.wf)   {aH:Int}  (ho:cM t ae S aH x):x.1.wf:=by
 cases ho with
 | no e he=>exact hw
 | old m hf=>exact hw
 | own port hf aS hb hn=>exact ⟨hw.ai,hw.home⟩
 | new b k hf hb hk hz hh hc hd hn=>exact ⟨aq.cL _ hw.ai _ _ _,by show (t.home.set _ _).length=8;rw[length_set];exact hw.home⟩
def GT.ok (h:GT t)(hw:t.wf):t.ok:=by
 refine ⟨hw,fun m hm=>?_,by have:=uz (Kb.2 h);omega⟩;have aS:=h.maps m hm;obtain ⟨h1,h2,h3⟩:=Ka aS.1.1;have h4:=aS.1.2;have h5:=h4.1;unfold Yq at h5;simp only[Bool.and_eq_true,decide_eq_true_eq]at h5;unfold Fx;refine ⟨?_,?_,?_,?_,?_⟩<;>omega
def Lg (hm:uq t m)(ho:uq t o):Jq m o=true ↔ Yx o=Yx m:=by
 rw[Ycl ho.2.2.1 hm.2.2.1];unfold Jq;simp
def QT (hg:p.bR=true){s:Int}{b k:Nat}(hb:b<3)(hk:k<6)(hs:0<=s)(ho:p.ow b k=s+1):p.bV s b k=(p.put b k 0,0):=by
 unfold aq.bV;rw[am hg,am]
 ·simp
 ·have ha:Kl (b:Int)=true:=by unfold Kl;simp;omega
  exact ⟨ha,by omega,by omega,hs,by simpa using ho⟩
def GT.bV (h:GT t)(hw:t.wf)  (hi:i<t.maps.length)(br:(t.maps.eraseIdx i).any (Jq t.maps[i])=false):GT ((t.del i).bV t.maps[i])/\((t.del i).bV t.maps[i]).wf/\((t.del i).bV t.maps[i]).maps=t.maps.eraseIdx i:=by
 have hm:=getElem_mem hi;have cD:∀ o ∈ t.maps.eraseIdx i,o ∈ t.maps:=fun o ho=>List.mem_of_mem_eraseIdx ho;have aS:=h.maps _ hm;have lY:=Ax aS;have hbl:=vV t.maps[i].port;have twa:=QL aS.1;have oh:∀ o ∈ t.maps.eraseIdx i,Yx o≠Yx t.maps[i]:=fun o ho he=>by
  have h1:=any_eq_false.1 br o ho;exact h1 ((Lg aS.1 (h.maps o (cD o ho)).1).2 he)
 have aE:∀ o ∈ t.maps,o≠t.maps[i]->o ∈ t.maps.eraseIdx i:=fun o ho cf=>by
  obtain ⟨n,hn,rfl⟩:=getElem_of_mem ho;exact List.mem_eraseIdx_iff_getElem.2 ⟨n,hn,fun e=>cf (by subst e;rfl),rfl⟩
 generalize t.maps[i]=m at *
 obtain ⟨A,hA⟩:=Int.eq_ofNat_of_zero_le aS.1.2.2.1;obtain ⟨K,hK⟩:=Int.eq_ofNat_of_zero_le hbl.1;obtain ⟨S,hS⟩:=Int.eq_ofNat_of_zero_le lY.1;have uu:A<3:=by have:=aS.1.2.2.2;omega
 have gT:=aS.2.2;rw[hA,hK,Int.toNat_natCast,Int.toNat_natCast]at gT;have QU:t.ai.bV m.s m.a (Xd m.port)=(t.ai.put A K 0,0):=by
  rw[hA,hK];exact QT h.ai uu af lY.1 gT
 have uv:Yx m=A*6+K:=by unfold Yx;rw[hA,hK];simp
 have oF:=aS.2.1;rw[hS,Int.toNat_natCast]at oF;have hl:A*6+K<t.ai.own.length:=by rw[hw.ai.own];omega
 have xO:S<t.home.length:=by rw[hw.home];omega
 have FM:t.ai.own.getD (A*6+K) 0=(S:Int)+1:=by rw[hS]at gT;exact gT
 have a6:∀ j,(t.ai.own.set (A*6+K) 0).getD j 0=if j=A*6+K then 0 else t.ai.own.getD j 0:=fun j=>Az hl _ _;have iG:(t.ai.put A K 0).wf:=aq.cL _ hw.ai _ _ _;have iV:∀ s,Zk (t.ai.own.set (A*6+K) 0) s=Zk t.ai.own s-if s=S then 1 else 0:=fun s=>by
  rw[QN hl,FM,aa (show ¬ (0:Int)=(s:Int)+1 by omega)];by_cases e:s=S
  ·subst e;simp
  ·rw[aa af,aa e];rfl
 have fa:=QO hl FM;have hH:_root_.Go.Proofs.YtogckmommodmhaaGreatDoor.dq ⟨t.ai.put A K 0,t.home,t.maps.eraseIdx i⟩ S:=fun j hj j4=>by
  have j4:(t.ai.own.set (A*6+K) 0).getD j 0=(S:Int)+1:=j4;rw[a6]at j4;split at j4
  ·omega
  ·exact h.dq S j hj j4
 have AB:=C4 hH ⟨iG,hw.home⟩;have AB:Zk (t.ai.own.set (A*6+K) 0) S=(Jt ⟨t.ai.put A K 0,t.home,t.maps.eraseIdx i⟩ S).length:=AB;have fU:(t.maps.eraseIdx i).any (fun o=>decide (o.s=(S:Int)))=true->Zk (t.ai.own.set (A*6+K) 0) S≠0:=fun ha=>by
  obtain ⟨o,ho,he⟩:=any_eq_true.1 ha;have he:o.s=(S:Int):=by simpa using he
  have xP:=h.maps o (cD o ho);have h1:=xP.2.2;rw[Ld,he]at h1;have h2:=oh o ho;have h3:(t.ai.own.set (A*6+K) 0).getD (Yx o) 0=(S:Int)+1:=by rw[a6,aa (by rw[<- uv];exact h2)];exact h1
  have:=QO (by rw[length_set,hw.ai.own];exact QL xP.1) h3;omega
 -- Np holds FN the homes
 have key:∀ H:List Int,H.length=8->(∀ s,s<8->s≠S->H.getD s 0=t.aT s)->(H.getD S 0=if Zk (t.ai.own.set (A*6+K) 0) S=0 then 0 else t.aT S)->GT ⟨t.ai.put A K 0,H,t.maps.eraseIdx i⟩:=by
  intro H hHl FO pw;refine ⟨QP h.ai _ _ af,fun o ho=>?_,h.apart.sublist (eraseIdx_sublist _ _),fun j hj=>?_,fun s hs=>?_,fun s hs=>?_,fun s hs=>?_⟩
  ·have xP:=h.maps o (cD o ho);have FQ:=Ax xP;refine ⟨xP.1,?_,?_⟩
   ·show H.getD o.s.toNat 0=o.a + 1;by_cases e:o.s=(S:Int)
    ·have hz:=fU (any_eq_true.2 ⟨o,ho,by simp[e]⟩);rw[e,Int.toNat_natCast,pw,aa hz];have:=xP.2.1;rw[e,Int.toNat_natCast]at this;exact this
    ·rw[FO _ af af];exact xP.2.1
   ·show (t.ai.own.set (A*6+K) 0).getD (Yx o) 0=o.s+1;rw[a6,aa (by rw[<- uv];exact oh o ho)];exact xP.2.2
  ·show (t.ai.own.set (A * 6 + K) 0).getD j 0≠0 ↔ ∃ o ∈ t.maps.eraseIdx i,Yx o=j;rw[a6];by_cases e:j=A * 6 + K
   ·rw[am e];refine ⟨fun h0=>(h0 rfl).elim,fun ⟨o,ho,he⟩=>?_⟩;exact (oh o ho (by rw[he,uv,e])).elim
   ·rw[aa e];refine (h.used j hj).trans ⟨fun ⟨o,ho,he⟩=>⟨o,aE o ho (fun q=>e (by rw[<- he,q,uv])),he⟩,fun ⟨o,ho,he⟩=>⟨o,cD o ho,he⟩⟩
  ·show Zk (t.ai.own.set (A*6+K) 0) s<=2;rw[iV];have:=h.two s hs;omega
  ·exact Nat.le_trans (List.Sublist.countP_le (eraseIdx_sublist _ _)) (h.many s hs)
  ·show H.getD s 0≠0 ↔ 0 < Zk (t.ai.own.set (A * 6 + K) 0) s;by_cases e:s=S
   ·subst e;rw[pw];have:=aS.1.2.2.1;split<;>omega
   ·rw[FO s hs e,iV,aa e];exact h.home s hs
 unfold Tb.bV;have e1:(t.del i).ai=t.ai:=rfl;have e2:(t.del i).home=t.home:=rfl;have e3:(t.del i).maps=t.maps.eraseIdx i:=rfl;rw[e1,e2,e3,QU,hS,Int.toNat_natCast];dsimp only;split
 ·rename_i h0;rw[h0]at AB;refine ⟨key _ (by rw[length_set];exact hw.home) (fun s _ cf=>?_) ?_,⟨iG,by show (t.home.set _ _).length=8;rw[length_set];exact hw.home⟩,rfl⟩
  ·rw[Az xO,aa cf];rfl
  ·rw[Az xO,am rfl,am (by simpa using AB)]
 ·rename_i h0;refine ⟨key _ hw.home (fun s _ _=>rfl) ?_,⟨iG,hw.home⟩,rfl⟩;rw[aa]
  ·rfl
  ·rw[AB];intro h1;exact h0 (List.eq_nil_of_length_eq_zero h1)
def GT.cls (h:GT t)(hw:t.wf)  (hm:m ∈ t.maps):∃ i,i<t.maps.length/\t.maps[i]?=some m/\GT (t.cls m).1/\(t.cls m).1.wf/\(t.cls m).1.maps=t.maps.eraseIdx i/\(t.cls m).2.2=0:=by
 have hg:¬ Zr t=false:=by rw[(vQ t).2 (Kb.2 h)];simp
 unfold Tb.cls;rw[aa hg];cases hf:t.maps.findIdx? (fun x=>decide (m=x)) with
 | none =>
  have:=List.findIdx?_eq_none_iff.1 hf m hm;simp at this
 | some i =>
  obtain ⟨hi,he⟩:=QC hf;refine ⟨i,hi,by rw[getElem?_eq_getElem hi,he],?_⟩;dsimp only;split
  ·rename_i ha;obtain ⟨o,ho,FQ⟩:=any_eq_true.1 ha;have:=h.del hi ⟨o,ho,by rw[he];exact (Lg (h.maps m hm).1 (h.maps o (List.mem_of_mem_eraseIdx ho)).1).1 FQ⟩;exact ⟨this,⟨hw.ai,hw.home⟩,rfl,rfl⟩
  ·rename_i ha;have:=h.bV hw hi (by rw[he];simpa using ha);rw[he]at this;exact ⟨this.1,this.2.1,this.2.2,rfl⟩
def round (h:GT t)(hw:t.wf)   {aH:Int}(bg:Yu ae S aH=true)  (ho:cM t ae S aH x)(hf:t.maps.find? (Ya ae S aH)=none)(he:x.2.2.2=0) :
  x.1.cls x.2.1=(t,x.2.2.1,0):=by
 have Lh:=ho.bR h hw bg;obtain ⟨_,⟨_,je⟩,_⟩:=Ka bg;have last:∀ (T:Tb) (m:Mp),GT (T.add m)->(∀ o ∈ T.maps,Ys o m=false)->(T.add m).cls m=if T.maps.any (Jq m)=true then (T,false,0) else (T.bV m,true,0):=by
  intro T m hg hk;unfold Tb.cls;rw[aa (by rw[(vQ _).2 (Kb.2 hg)];simp)];have e1:(T.add m).maps.findIdx? (fun x=>decide (m=x))=some T.maps.length:=by
   show (T.maps++[m]).findIdx? _=_;rw[List.findIdx?_append];have:T.maps.findIdx? (fun x=>decide (m=x))=none:=by
    rw[List.findIdx?_eq_none_iff];intro o ho;have:=Xh4 (hk o ho);simp;exact fun e=>this e.symm
   rw[this];simp
  have e2:(T.add m).maps.eraseIdx T.maps.length=T.maps:=by
   show (T.maps++[m]).eraseIdx T.maps.length=_;rw[List.eraseIdx_append_of_length_le (Nat.le_refl _)];simp
  have e3:(T.add m).del T.maps.length=T:=by unfold Tb.del;rw[e2];rfl
  rw[e1];dsimp only;rw[e2,e3]
 cases ho with
 | no e lL=>exact (lL he).elim
 | old m nV=>rw[hf]at nV;cases nV
 | own port nV aS hb hn =>
  dsimp only at Lh ⊢;rw[last t _ Lh (Le hf hb),am];have h1:t.ai.own.getD (Yx ⟨ae,S,aH,t.aT S-1,port⟩) 0≠0:=by
   rw[<- Ld t,aS.2.2];show (S:Int)+1≠0;omega
  obtain ⟨o,ho,he⟩:=(h.used _ (QL aS.1)).1 h1;exact any_eq_true.2 ⟨o,ho,(Lg aS.1 (h.maps o ho).1).2 he⟩
 | new b k nV hb hk hz hh hc hd hn =>
  dsimp only at Lh ⊢;obtain ⟨b1,b2⟩:=Lf (i:=0) hk af;rw[show (1024+(k:Int)*8+(0:Nat))=1024+(k:Int)*8 by omega]at b1 b2;have b6:uq t ⟨ae,S,aH,b,1024+(k:Int)*8⟩:=⟨bg,b1,by show 0<=(b:Int);omega,by show (b:Int)<3;omega⟩
  have uv:Yx ⟨ae,S,aH,b,1024+(k:Int)*8⟩=b*6+k:=by
   unfold Yx;rw[b2];simp
  have FR:∀ o ∈ t.maps,Yx o≠b*6+k:=fun o ho he=>(h.used _ af).2 ⟨o,ho,he⟩ hz;have fO:∀ o ∈ t.maps,Ys o ⟨ae,S,aH,b,1024+(k:Int)*8⟩=false:=by
   refine Le hf ?_;rw[find?_eq_none];intro o pf hp;unfold Jd at hp;simp at hp;refine FR o pf ?_;unfold Yx;rw[hp.1.2,hp.2,b2];omega
  have hl:b*6+k<t.ai.own.length:=by rw[hw.ai.own];omega
  have C2:t.ai.own.getD (b*6+k) 0=0:=hz;rw[last _ _ Lh fO,aa]
  ·have hpb:(t.ai.put b k ((S:Int)+1)).put b k 0=t.ai:=by
    unfold aq.put;dsimp only;rw[set_set];have:t.ai.own.set (b*6+k) 0=t.ai.own:=by
     have e:t.ai.own[b*6+k]=0:=by rw[getD_eq_getElem?_getD,getElem?_eq_getElem hl]at C2;exact C2
     rw[<- e,List.set_getElem_self]
    rw[this]
   have QU:(t.ai.put b k ((S:Int)+1)).bV S b k=(t.ai,0):=by
    rw[QT (QP h.ai _ _ af) hb hk af,hpb];show (t.ai.own.set (b*6+k) ((S:Int)+1)).getD (b*6+k) 0=_;rw[Az hl,am rfl]
   unfold Tb.bV;dsimp only;rw[b2,QU,Int.toNat_natCast];dsimp only;have xO:S<t.home.length:=by rw[hw.home];omega
   have oF:(⟨t.ai,t.home.set S ((b:Int)+1),t.maps⟩:Tb).aT S=b+1:=by
    show (t.home.set S ((b:Int)+1)).getD S 0=_;rw[Az xO,am rfl]
   have hcz:=C4 (h.dq S) hw;rcases hh with hh|hh
   ·have iK:Zk t.ai.own S=0:=by
     have:=h.home S af;rcases Nat.eq_zero_or_pos (Zk t.ai.own S) with h0|h0
     ·exact h0
     ·exact (this.2 h0 hh).elim
    rw[am]
    ·rw[set_set];have:t.home.set S 0=t.home:=by
      have e:t.home[S]=0:=by
       unfold Tb.aT at hh;rw[getD_eq_getElem?_getD,getElem?_eq_getElem xO]at hh;exact hh
      rw[<- e,List.set_getElem_self]
     rw[this]
    ·have vA:dq ⟨t.ai,t.home.set S ((b:Int)+1),t.maps⟩ S:=fun j hj j4=>by
      exfalso;have:=QO (s:=S) (by have:=hw.ai.own;omega:j<t.ai.own.length) j4;omega
     have:=C4 vA ⟨hw.ai,by show (t.home.set _ _).length=8;rw[length_set];exact hw.home⟩;have e:(Jt ⟨t.ai,t.home.set S ((b:Int)+1),t.maps⟩ S).length=0:=by rw[<- this];exact iK
     exact List.eq_nil_of_length_eq_zero e
   ·have cX:t.home.set S ((b:Int)+1)=t.home:=by
     have e:t.home[S]=(b:Int)+1:=by
      unfold Tb.aT at hh;rw[getD_eq_getElem?_getD,getElem?_eq_getElem xO]at hh;exact hh
     rw[<- e,List.set_getElem_self]
    rw[cX,aa];intro h0;rw[h0]at hcz;have:=(h.home S af).1 af;simp at hcz;omega
  ·rw[Bool.not_eq_true,any_eq_false];intro o ho hs;exact FR o ho (by rw[(Lg b6 (h.maps o ho).1).1 hs,uv])
def Xor:jT Tryz.prog 100 35=some aq.ks:=by kernel_rfl
def Xp8 {c:Cx}{ne:Bool}(p:aq)(h:p.wf):kS Tryz.prog c (.cA ne 35) [.agg p.enc,.agg p.enc] (.bool (ne != true)) :=
 Ei Xor (by kernel_rfl) (by kernel_rfl) (aq.kp h) (aq.kp h) av
def Xrj:jT Tryz.prog 100 36=some (List.replicate 8 (.int .i64)):=by kernel_rfl
def Qqg {l:List Int}(h:l.length=8):(Ql l).map Yt=(List.replicate 8 (SK.int .i64)).map some:=by
 rw[<- h];apply List.ext_getElem<;>simp[Ql,Yt]
def Xrs {c:Cx}{ne:Bool}(l:List Int)(h:l.length=8):kS Tryz.prog c (.cA ne 36) [.agg (Ql l),.agg (Ql l)] (.bool (ne != true)) :=
 Ei Xrj (by kernel_rfl) (by kernel_rfl) (Qqg h) (Qqg h) av
def Tb.qE (h:t.wf):(t.enc.drop 21).take 8=Ql t.home:=by
 unfold Tb.enc Tb.hd;rw[List.append_assoc,<- aq.au h.ai,List.drop_left,List.take_append_of_le_length (by rw[Xp,h.home];decide),List.take_of_length_le (by rw[Xp,h.home];decide)]
def QV:aq:=⟨List.replicate 18 0,List.replicate 3 false⟩
def tb0:Tb:=⟨QV,List.replicate 8 0,[]⟩
def Xwi:QV.wf:=⟨rfl,rfl⟩
def Yew:tb0.wf:=⟨Xwi,rfl⟩
def Yf2 (n i:Nat):(List.replicate n (0:Int)).getD i 0=0:=Fy n i
def GT.none (h:p.bR=true)(ho:∀ i,p.own.getD i 0=0){H:List Int}(hH:∀ i,H.getD i 0=0)(hc:∀ s,Zk p.own s=0):GT ⟨p,H,[]⟩:=by
 refine ⟨h,fun m hm=>(by cases hm),List.Pairwise.nil,fun i _=>⟨fun h=>(h (ho i)).elim,fun ⟨m,hm,_⟩=>(by cases hm)⟩,fun s _=>(by show Zk p.own s<=2;rw[hc];omega),fun s _=>Nat.zero_le _,fun s _=>⟨fun h=>(h (hH s)).elim,fun h=>?_⟩⟩;have h:0<Zk p.own s:=h;rw[hc]at h;omega
def Yhl:GT tb0:=GT.none (by decide) (fun i=>Yf2 18 i) (fun i=>Yf2 8 i) fun s=>by
 unfold Zk QV;rw[List.countP_eq_zero];intro o ho;rw[(List.mem_replicate.1 ho).2];simp;omega
def cM.has {aH:Int}  (h:cM t ae S aH x)(he:x.2.2.2=0):x.2.1 ∈ x.1.maps/\x.2.1.ae=ae/\x.2.1.s=S/\x.2.1.aH=aH/\(x.2.2.1=true->∃ b,b<3/\x.2.1.a=(b:Nat)/\t.ai.lb b=false):=by
 cases h with
 | no e lL=>exact (lL he).elim
 | old m hf =>
  have:=find?_some hf;unfold Ya at this;simp at this;exact ⟨List.mem_of_find?_eq_some hf,this.1.1,this.1.2,this.2,fun h=>by cases h⟩
 | own port hf aS hb hn=>exact ⟨List.mem_append_right _ (mem_singleton.2 rfl),rfl,rfl,rfl,fun h=>by cases h⟩
 | new b k hf hb hk hz hh hc hd hn=>exact ⟨List.mem_append_right _ (mem_singleton.2 rfl),rfl,rfl,rfl,fun _=>⟨b,hb,rfl,hd⟩⟩
def Yk2 (h:GT t)   (hi:t.maps[i]?=some m):(t.maps.eraseIdx i).find? (Ya m.ae m.s m.aH)=none:=by
 rw[find?_eq_none];intro o ho hp;obtain ⟨n,hn,cf,rfl⟩:=List.mem_eraseIdx_iff_getElem.1 ho;obtain ⟨nn,he⟩:=List.getElem?_eq_some_iff.1 hi;have hk:=Qss hp;have hp:=List.pairwise_iff_getElem.1 h.apart;rcases Nat.lt_or_gt_of_ne cf with h1|h1
 ·have:=hp n i hn nn h1;rw[he]at this;rw[this]at hk;cases hk
 ·have:=hp i n nn hn h1;rw[he,Lb]at this;rw[this]at hk;cases hk
def GT.drain (h:GT t)(a:Int)(to:Bool):GT ⟨(t.ai.drain a to).1,t.home,t.maps⟩:=by
 have ho:(t.ai.drain a to).1.own=t.ai.own:=by
  unfold aq.drain;split
  ·split<;>rfl
  ·rfl
 have gT:∀ a' k,(t.ai.drain a to).1.ow a' k=t.ai.ow a' k:=fun a' k=>by unfold aq.ow;rw[ho]
 refine ⟨?_,fun m hm=>?_,h.apart,fun i hi=>?_,fun s hs=>?_,h.many,fun s hs=>?_⟩
 ·unfold aq.bR;rw[ho];exact h.ai
 ·have:=h.maps m hm;exact ⟨this.1,this.2.1,by show (t.ai.drain a to).1.ow _ _=_;rw[gT];exact this.2.2⟩
 ·show (t.ai.drain a to).1.own.getD i 0≠0 ↔ _;rw[ho];exact h.used i hi
 ·show Zk (t.ai.drain a to).1.own s<=2;rw[ho];exact h.two s hs
 ·show _ ↔ 0<Zk (t.ai.drain a to).1.own s;rw[ho];exact h.home s hs
def FU:List AV:=[.int .i64 1,.int .i64 6,.int .i64 17]
theorem Xqw (n:Nat):ah n FU=True:=by simp[FU,ah,Qe]
theorem Xdi (ρ:Nat->Nat):ay ρ FU=FU:=by simp[FU,ay,aB]
attribute [go_sem] Xqw Xdi
end Go.Proofs.YtogckmommodmhaaGreatDoor
