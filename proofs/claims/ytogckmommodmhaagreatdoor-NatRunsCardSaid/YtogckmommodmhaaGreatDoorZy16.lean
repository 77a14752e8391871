import Derived.Test.YtogckmommodmhaaGreatDoorZy15
namespace Go.Proofs.YtogckmommodmhaaGreatDoor
open List (mem_append mem_singleton filter_eq_self append_assoc nil_append mem_map mem_filter any_eq_true mem_cons take_succ length_drop cons_append)
open Go.RowKit
set_option linter.all false
set_option maxHeartbeats 32000000
set_option maxRecDepth 100000
variable {p:Pk}{o:bD}{r0:List bD}{n:Nat}{K:St->Prop}(N:Nat)(gl:Nat->AV)(l:List UInt8)(k:Nat)(f:List UInt8)
structure NK (S:NS):Prop extends NI S where
 nx:S.bG<=2*S.bm
 uA:S.told<=64*S.bm
 act:S.bm<=300
def NI.A5 {S:NS}(h:NJ S):∀ q ∈ S.fl,1<=q.1:=fun q hq=>(h.ids q hq).1
def NI.setRef {S:NS}(h:NI S){r:Nat}(hr:r<=4):NI { S with ref:=r } :=
 ⟨⟨h.gt,h.wf,h.ids,h.dS,h.len,h.kp,h.has,h.rA,h.now,h.lg,hr⟩,h.due⟩
def NI.ll {S:NS}(h:NI S)(r:Nat):NI { S with told:=r } :=
 ⟨⟨h.gt,h.wf,h.ids,h.dS,h.len,h.kp,h.has,h.rA,h.now,h.lg,h.ref⟩,h.due⟩
def NI.ln {S:NS}(h:NI S)(r:Nat):NI { S with bm:=r } :=
 ⟨⟨h.gt,h.wf,h.ids,h.dS,h.len,h.kp,h.has,h.rA,h.now,h.lg,h.ref⟩,h.due⟩
structure kx (S S':NS)(a b:Nat):Prop where
 nx:S'.bG<=S.bG+a
 uA:S'.told<=S.told+b
 act:S'.bm=S.bm
 loose:S'.loose=S.loose
def kx.refl (S:NS)(a b:Nat):kx S S a b:=⟨by omega,by omega,rfl,rfl⟩
def NI.refuse {S:NS}(h:NI S)(f:List UInt8)(e:Int):NI (S.refuse f e).2/\kx S (S.refuse f e).2 0 0:=by
 unfold NS.refuse;split
 ·exact ⟨h,kx.refl ..⟩
 ·exact ⟨h.setRef (by have:=h.ref;omega),⟨by show S.bG<=_;omega,Nat.le_refl _,rfl,rfl⟩⟩
def NI.A6 {S:NS}(h:NI S){f:Fl}(aK:f.map ∈ S.tb.maps)(br:∀ q ∈ S.fl,¬ (q.2.map=f.map/\q.2.rem=f.rem/\q.2.rport=f.rport))(hl:S.fl.length<48):NI (S.begin f) :=
 h.begin h.gt h.wf (fun _ hm=>hm) (fun _ hm=>.inl hm) aK br hl
def NI.aF {S:NS}(h:NI S)(f:List UInt8):NI (S.aF f).2/\kx S (S.aF f).2 1 0:=by
 have hS:NI S/\kx S S 1 0:=⟨h,kx.refl ..⟩
 unfold NS.aF;split
 ·exact hS
 dsimp only;split
 ·exact hS
 split
 ·exact hS
 split
 ·exact hS
 split
 ·exact hS
 rename_i m hm;have ra:=List.mem_of_find?_eq_some hm;split
 ·exact ⟨h.goes ..,⟨by show S.bG<=_;omega,Nat.le_refl _,rfl,rfl⟩⟩
 rename_i hk;split
 ·exact hS
 split
 ·exact hS
 rename_i hlen;refine ⟨h.A6 ra (RU (NI.A5 h.toNJ) (Decidable.not_not.1 hk)) af,⟨?_,Nat.le_refl _,rfl,rfl⟩⟩;show S.bG+1<=_;omega
def NI.eZ {S:NS}(h:NI S)(f:List UInt8)(m:Mp)(es:List Ev):NI (S.eZ f m es).2/\kx S (S.eZ f m es).2 1 es.length:=by
 have h1:NI (S.log es):=h.ll _;unfold NS.eZ;dsimp only;split
 ·obtain ⟨g1,g2⟩:=h1.aF (Wr f 0 (3405803777+m.a) m.port);exact ⟨g1,⟨g2.nx,g2.uA,g2.act,g2.loose⟩⟩
 ·exact ⟨h1,⟨by show S.bG<=_;omega,Nat.le_refl _,rfl,rfl⟩⟩
def R7 (hp:p.ae=1\/p.ae=6\/p.ae=17){s i:Int}(h1:0<=s)(h2:s<8)(h3:0<=i)(h4:i<=65535):Yr p.ae s i=true:=by
 unfold Yr;simp only[Bool.and_eq_true,Bool.or_eq_true,beq_iff_eq,decide_eq_true_eq];omega
def R8 {S:NS}(hn:S.now<=549755813888){t:Tb}(h:GT t){m:Mp}(hm:m ∈ t.maps)(b:Bool):Jd (S.ev m b).t (S.ev m b).s (S.ev m b).a (S.ev m b).b=true:=by
 have aS:=h.maps m hm;obtain ⟨_,⟨h3,h4⟩,_⟩:=Jv aS.1.1;have h5:=aS.1.2.2;have h6:=vM m.port;show Jd S.now m.s m.a (Xc m.port)=true;unfold Jd;simp only[Bool.and_eq_true,decide_eq_true_eq];omega
def NI.A7 {S:NS}(h:NI S){p:Pk}{S0:Nat}{aF:Int}(bh:Yr p.ae S0 aF=true){x:Tb×Mp×Bool×Int}(ho:cJ S.tb p.ae S0 aF x)(he:x.2.2.2=0)
  (br:∀ q ∈ S.fl,¬ (q.2.map=x.2.1/\q.2.rem=p.dst/\q.2.rport=p.av)) (hl:S.fl.length<48) (st:Int):NI (({ S with tb:=x.1 }:NS).begin ⟨x.2.1,p.dst,p.av,st,0,0⟩):=by
 have hg:=ho.bO h.gt h.wf bh;have hw:=ho.wf h.wf;have aK:=(ho.has he).1;refine h.begin hg hw ?_ ?_ aK br hl
 ·cases ho with
  | no e lC=>exact fun m hm=>hm
  | old m hf=>exact fun m hm=>hm
  | own port=>exact fun m hm=>List.mem_append_left _ hm
  | new b k=>exact fun m hm=>List.mem_append_left _ hm
 ·cases ho with
  | no e lC=>exact fun m hm=>.inl hm
  | old m hf=>exact fun m hm=>.inl hm
  | own port=>exact fun m hm=>(mem_append.1 hm).imp id fun h=>mem_singleton.1 h
  | new b k=>exact fun m hm=>(mem_append.1 hm).imp id fun h=>mem_singleton.1 h
def R9 {f:List UInt8}(h:cD f=0):((aB f).ae=1\/(aB f).ae=6\/(aB f).ae=17)/\Jj (aB f):=by
 have he:Zh (aB f)=0:=by
  unfold cD at h;dsimp only at h
  (repeat' split at h)<;>first|cases h|exact h
 have:=We he;exact ⟨this.1,this.2.1⟩
def NS.fwd (S:NS)(p:Pk):Option Mp:=S.tb.maps.find? (Xz p.ae (p.aE-167772161) p.aj)
def NS.cY (S:NS)(p:Pk):Int:=match S.fwd p with
 | some m=>S.findF m p.dst p.av
 | none=>0
noncomputable def NS.opened (S:NS)(f:List UInt8)(o:Tb×Mp×Bool×Int):Rp×NS :=
 (({ S with tb:=o.1 }:NS).begin ⟨o.2.1,(aB f).dst,(aB f).av,Wc (aB f).ae,0,0⟩).eZ f o.2.1 (if o.2.2.1 then [({ S with tb:=o.1 }:NS).ev o.2.1 false] else [])
theorem Sa (S:NS)(f:List UInt8)(draw:Int):S.out f draw =
  if cD f≠0 then (bJ (cD f),S) else
  if (aB f).aE-167772161<0\/8<=(aB f).aE-167772161 then (bJ 7,S) else
  if (aB f).ae=1/\(aB f).flags≠8 then (bJ 4,S) else
  if (aB f).aN=1 then (bJ 12,S) else
  if S.cY (aB f)≠0 then (match S.fwd (aB f) with
   | some m=>(S.goes (S.cY (aB f)) (aB f) false).eZ f m []
   | none=>(bJ 0,S))
  else if xX (aB f).ae (aB f).flags=false then (bJ 11,S) else
  if 48<=S.fl.length then S.refuse f 6 else
  if (S.tb.ca (aB f).ae ((aB f).aE-167772161) (aB f).aj draw).2.2.2≠0 then S.refuse f (S.tb.ca (aB f).ae ((aB f).aE-167772161) (aB f).aj draw).2.2.2 else
  S.opened f (S.tb.ca (aB f).ae ((aB f).aE-167772161) (aB f).aj draw):=rfl
def NI.opened {S:NS}(h:NI S){f:List UInt8}(he:cD f=0){draw:Int}(hs:¬ ((aB f).aE-167772161<0\/8<=(aB f).aE-167772161))(hk:S.cY (aB f)=0)(hl:S.fl.length<48)(ho:(S.tb.ca (aB f).ae ((aB f).aE-167772161) (aB f).aj draw).2.2.2=0) :
  ∃ S0:Nat,(aB f).aE-167772161=S0/\S0<8/\Yr (aB f).ae S0 (aB f).aj=true/\cJ S.tb (aB f).ae S0 (aB f).aj (S.tb.ca (aB f).ae S0 (aB f).aj draw)/\(∀ q ∈ S.fl,¬ (q.2.map=(S.tb.ca (aB f).ae S0 (aB f).aj draw).2.1/\q.2.rem=(aB f).dst/\q.2.rport=(aB f).av)) /\
  ∀ st,NI (({ S with tb:=(S.tb.ca (aB f).ae S0 (aB f).aj draw).1 }:NS).begin ⟨(S.tb.ca (aB f).ae S0 (aB f).aj draw).2.1,(aB f).dst,(aB f).av,st,0,0⟩):=by
 obtain ⟨hp,hr⟩:=R9 he;obtain ⟨S0,oJ⟩:∃ S0:Nat,(aB f).aE-167772161=S0:=⟨((aB f).aE-167772161).toNat,by omega⟩
 unfold NS.cY NS.fwd at hk;rw[oJ]at ho hk hs;have bh:Yr (aB f).ae S0 (aB f).aj=true:=R7 hp af af hr.2.2.2.2.1.1 hr.2.2.2.2.1.2;have hop:=Proofs.YtogckmommodmhaaGreatDoor.opened h.gt h.wf bh draw;have br:∀ q ∈ S.fl,¬ (q.2.map=(S.tb.ca (aB f).ae S0 (aB f).aj draw).2.1/\q.2.rem=(aB f).dst/\q.2.rport=(aB f).av):=by
  intro q hq ⟨e1,e2,e3⟩;have aK:=h.kp q hq;have yb:=h.gt.fwd aK;obtain ⟨_,k1,k2,k3,_⟩:=hop.has ho;rw[e1]at aK yb;rw[k1,k2,k3]at yb;rw[yb]at hk;exact RU (NI.A5 h.toNJ) hk q hq ⟨e1,e2,e3⟩
 exact ⟨S0,oJ,by omega,bh,hop,br,fun st=>h.A7 bh hop ho br hl st⟩
def NI.out {S:NS}(h:NI S)(f:List UInt8)(draw:Int):NI (S.out f draw).2/\kx S (S.out f draw).2 2 1:=by
 have hS:∀ r,NI ((r,S):Rp×NS).2/\kx S ((r,S):Rp×NS).2 2 1:=fun r=>⟨h,kx.refl ..⟩
 have hR:∀ e,NI (S.refuse f e).2/\kx S (S.refuse f e).2 2 1:=fun e=>by
  obtain ⟨g1,g2⟩:=h.refuse f e;exact ⟨g1,⟨by have:=g2.nx;omega,by have:=g2.uA;omega,g2.act,g2.loose⟩⟩
 rw[Sa];by_cases he:cD f=0
 case neg=>rw[am he];exact hS _
 rw[aa (by simpa using he)];by_cases hs:(aB f).aE-167772161<0\/8<=(aB f).aE-167772161
 ·rw[am hs];exact hS _
 rw[aa hs];by_cases h2:(aB f).ae=1/\(aB f).flags≠8
 ·rw[am h2];exact hS _
 rw[aa h2];by_cases h3:(aB f).aN=1
 ·rw[am h3];exact hS _
 rw[aa h3];by_cases hk:S.cY (aB f)=0
 case neg =>
  rw[am hk];cases S.fwd (aB f) with
  | none=>exact hS _
  | some m =>
   obtain ⟨g1,g2⟩:=(h.goes (S.cY (aB f)) (aB f) false).eZ f m [];dsimp only;refine ⟨g1,⟨?_,?_,g2.act,g2.loose⟩⟩
   ·have h3:_<=S.bG+1:=g2.nx;omega
   ·have h3:_<=S.told+0:=g2.uA;omega
 rw[aa (by simpa using hk)];by_cases h4:xX (aB f).ae (aB f).flags=false
 ·rw[am h4];exact hS _
 rw[aa h4];by_cases hl:48<=S.fl.length
 ·rw[am hl];exact hR _
 rw[aa hl];by_cases ho:(S.tb.ca (aB f).ae ((aB f).aE-167772161) (aB f).aj draw).2.2.2=0
 case neg=>rw[am ho];exact hR _
 rw[aa (by simpa using ho)];obtain ⟨S0,oJ,_,bh,hop,br,hb⟩:=h.opened he hs hk af ho;rw[oJ];unfold NS.opened;have hb:=hb (Wc (aB f).ae);generalize S.tb.ca (aB f).ae S0 (aB f).aj draw=o at *
 obtain ⟨g1,g2⟩:=hb.eZ f o.2.1 (if o.2.2.1 then [({ S with tb:=o.1 }:NS).ev o.2.1 false] else []);have hlen:(if o.2.2.1=true then [({ S with tb:=o.1 }:NS).ev o.2.1 false] else []).length<=1:=by split<;>simp
 refine ⟨g1,⟨?_,?_,g2.act,g2.loose⟩⟩
 ·have h2:=g2.nx;have h3:_<=S.bG+1+1:=h2;omega
 ·have h2:=g2.uA;have h3:_<=S.told+_:=h2;omega
def Xf5 (x:NS×List Ev)(k:Int):∃ tb es,cN x k=({ x.1 with fl:=x.1.fl.filter fun r=>!(r.1==k),tb:=tb },x.2++es)/\es.length<=1/\(NJ x.1->∀ e ∈ es,e.t=x.1.now/\Jd e.t e.s e.a e.b=true):=by
 obtain ⟨S,l⟩:=x;unfold cN;dsimp only;cases hf:S.fl.find? (fun q=>q.1==k) with
 | none =>
  have:(S.fl.filter fun r=>!(r.1==k))=S.fl:=filter_eq_self.2 fun q hq=>by have:=List.find?_eq_none.1 hf q hq;simpa using this
  rw[this];exact ⟨S.tb,[],by simp,by simp,by simp⟩
 | some q =>
  dsimp only;split
  ·exact ⟨S.tb,[],by simp,by simp,by simp⟩
  ·refine ⟨(S.tb.cls q.2.map).1,if (S.tb.cls q.2.map).2.1 then [({ S with fl:=S.fl.filter fun r=>!(r.1 == k) }:NS).ev q.2.map true] else [],?_,by split<;>simp,fun h e he=>?_⟩
   ·split<;>simp
   ·split at he
    ·obtain rfl:=mem_singleton.1 he;exact ⟨rfl,R8 (S:={ S with fl:=S.fl.filter fun r=>!(r.1==k) }) h.now h.gt (h.kp q (List.mem_of_find?_eq_some hf)) true⟩
    ·cases he
structure mV (S S':NS)(K:List Int)(es:List Ev):Prop where
 nj:NJ S'
 fl:S'.fl=S.fl.filter fun q=>!(K.contains q.1)
 now:S'.now=S.now
 nx:S'.bG=S.bG
 told:S'.told=S.told
 ref:S'.ref=S.ref
 bm:S'.bm=S.bm
 loose:S'.loose=S.loose
 len:es.length<=K.length
 bO:∀ e ∈ es,e.t=S.now/\Jd e.t e.s e.a e.b=true
def Qtc {S:NS}(h:NJ S):∀ K:List Int,∃ es,(K.foldl cN (S,[])).2=es/\mV S (K.foldl cN (S,[])).1 K es:=by
 have key:∀ (K K0:List Int) (x:NS×List Ev),mV S x.1 K0 x.2->mV S (K.foldl cN x).1 (K0++K) (K.foldl cN x).2:=by
  intro K
  induction K with
  | nil=>intro K0 x hx;rw[List.append_nil];exact hx
  | cons k K ih =>
   intro K0 x hx;have:=ih (K0++[k]) (cN x k) ?_
   ·rw[append_assoc]at this;exact this
   ·obtain ⟨tb,es,e,hl,hg⟩:=Xf5 x k;have GF:=hx.nj.d4 k;rw[e]at GF ⊢;refine ⟨GF,?_,hx.now,hx.nx,hx.told,hx.ref,hx.bm,hx.loose,?_,?_⟩
    ·show x.1.fl.filter _=_;rw[hx.fl,List.filter_filter];refine List.filter_congr fun q _=>?_;rw[List.contains_eq_mem,List.contains_eq_mem];by_cases e1:q.1=k<;>by_cases e2:q.1 ∈ K0<;>simp[e1,e2]<;>simp[<- e1,e2]
    ·have:=hx.len;simp;omega
    ·intro e' lC;rcases mem_append.1 lC with lC|lC
     ·exact hx.bO e' lC
     ·have:=hg hx.nj e' lC;rw[hx.now]at this;exact this
 intro K;refine ⟨_,rfl,?_⟩;have:=key K [] (S,[]) ⟨h,(filter_eq_self.2 fun q _=>rfl).symm,rfl,rfl,rfl,rfl,rfl,rfl,by simp,by simp⟩;rw[nil_append]at this;exact this
def LM {D:List Tm}  {k:Int}:k ∈ a6 D n ↔ ∃ t ∈ D,t.due<n/\t.id=k:=by
 unfold a6;rw[mem_map];constructor
 ·rintro ⟨t,ht,rfl⟩;have:=(Ks _).mem_iff.1 ht;rw[mem_filter]at this;exact ⟨t,this.1,by simpa using this.2,rfl⟩
 ·rintro ⟨t,ht,hd,rfl⟩;exact ⟨t,(Ks _).mem_iff.2 (mem_filter.2 ⟨ht,by simpa using hd⟩),rfl⟩
def LN (D:List Tm)(n:Nat):(a6 D n).length<=D.length:=by
 unfold a6;rw[List.length_map,(Ks _).length_eq];exact List.length_filter_le _ _
def NS.later (S:NS)(d:Int):NS:={ S with now:=S.now+d.toNat,ref:=min 4 (S.ref+min d.toNat 4) }
def NI.later {S:NS}(h:NI S){d:Int}(hd:¬ (d<1\/549755813888-S.now<d)):NJ (S.later d) :=
 ⟨h.gt,h.wf,h.ids,h.dS,h.len,h.kp,h.has,h.rA,by show S.now+d.toNat<=549755813888;omega,h.lg,by show min 4 _<=4;omega⟩
def NS.ended (S:NS)(d:Int):List Int:=a6 S.aX (S.now+d.toNat+1)
def NI.yc {S:NS}(h:NI S){d:Int}(hd:¬ (d<1\/549755813888-S.now<d)):∃ es,((S.ended d).foldl cN (S.later d,[])).2=es/\mV (S.later d) ((S.ended d).foldl cN (S.later d,[])).1 (S.ended d) es/\NI ((S.ended d).foldl cN (S.later d,[])).1/\es.length<=48:=by
 obtain ⟨es,e,hE⟩:=Qtc (h.later hd) (S.ended d);refine ⟨es,e,hE,⟨hE.nj,fun q hq=>?_⟩,?_⟩
 ·rw[hE.fl]at hq;obtain ⟨pD,ng⟩:=mem_filter.1 hq;have iM:=h.due q pD;rw[hE.now];have hn:(S.later d).now=S.now+d.toNat:=rfl;rw[hn];have Sb:q.1 ∉ S.ended d:=fun hm=>by
   rw[List.contains_iff_mem.2 hm]at ng;cases ng
  have:¬ q.2.due.toNat<S.now+d.toNat+1:=fun hlt=>Sb (LM.2 ⟨⟨q.1,q.2.due.toNat⟩,mem_map.2 ⟨q,pD,rfl⟩,hlt,rfl⟩);omega
 ·refine Nat.le_trans hE.len (Nat.le_trans (LN _ _) ?_);unfold NS.aX;rw[List.length_map];exact h.len
theorem LO (S:NS)(d:Int):S.tick d=if d<1\/549755813888-S.now<d then (bJ 2,S) else (⟨0,[],false,nE S.told ((S.ended d).foldl cN (S.later d,[])).2⟩,(((S.ended d).foldl cN (S.later d,[])).1.log ((S.ended d).foldl cN (S.later d,[])).2)):=rfl
def NI.tick {S:NS}(h:NI S)(d:Int):NI (S.tick d).2/\kx S (S.tick d).2 0 48:=by
 rw[LO];split
 ·exact ⟨h,kx.refl ..⟩
 ·rename_i hd;obtain ⟨es,e,hE,hN,hl⟩:=h.yc hd;rw[e];refine ⟨hN.ll _,⟨?_,?_,hE.bm,hE.loose⟩⟩
  ·show NS.bG (List.foldl cN (S.later d,[]) (S.ended d)).1<=_;rw[hE.nx];show S.bG<=_;omega
  ·show NS.told (List.foldl cN (S.later d,[]) (S.ended d)).1+es.length<=_;rw[hE.told];show S.told+_<=_;omega
def NI.wq {S:NS}(h:NI S)(a:Int)(to:Bool):NI { S with tb:={ S.tb with ai:=(S.tb.ai.drain a to).1 } } :=
 ⟨⟨h.gt.drain a to,⟨aq.eF _ h.wf.ai a to,h.wf.home⟩,h.ids,h.dS,h.len,h.kp,h.has,h.rA,h.now,h.lg,h.ref⟩,h.due⟩
def NK.of {S S':NS}(h:NK S)(ha:S.bm<300)(hn:NI S')(hc:kx { S with bm:=S.bm+1 } S' 2 64):NK S' :=
 ⟨hn,by have h1:=hc.nx;have h2:=hc.act;have h3:=h.nx;have h1:S'.bG≤S.bG + 2:=h1;rw[h2];show S'.bG≤2 * ((S.bm + 1:Nat):Int);omega,
  by have h1:=hc.uA;have h2:=hc.act;have h3:=h.uA;have h1:S'.told<=S.told+64:=h1;rw[h2];show S'.told<=64*(S.bm+1);omega,
  by rw[hc.act];exact ha⟩
def kx.up {S S':NS}{a b a' b':Nat}(h:kx S S' a b)(h1:a<=a')(h2:b<=b'):kx S S' a' b':=⟨by have:=h.nx;omega,by have:=h.uA;omega,h.act,h.loose⟩
def NK.step {S:NS}(h:NK S)(a:Ac):NK (S.step a).2:=by
 unfold NS.step;split
 ·exact h
 rename_i ha;have ha:S.bm<300:=by omega
 have h1:=h.toNI.ln (S.bm+1);dsimp only;split
 ·exact h.of ha (h1.out a.frame a.draw).1 ((h1.out a.frame a.draw).2.up aJ aJ)
 split
 ·exact h.of ha (h1.aF a.frame).1 ((h1.aF a.frame).2.up aJ aJ)
 split
 ·exact h.of ha (h1.tick a.n).1 ((h1.tick a.n).2.up aJ aJ)
 split
 ·split
  ·exact h.of ha (h1.wq a.n _) ⟨by show S.bG<=S.bG+(2:Nat);omega,by show S.told<=S.told+64;omega,rfl,rfl⟩
  ·exact h.of ha h1 (kx.refl ..)
 ·exact h.of ha h1 (kx.refl ..)
def NK.new (b:Bool):NK (NS.new b):=by
 refine ⟨⟨⟨Yft,Yes,by simp[NS.new],by simp[NS.new],by simp[NS.new],by simp[NS.new],by simp[NS.new],by simp[NS.new],by simp[NS.new],by simp[NS.new],by simp[NS.new]⟩,by simp[NS.new]⟩,by simp[NS.new],by simp[NS.new],by simp[NS.new]⟩
def Xer (side addr port:Int):∃ e,sw f side addr port=.aR [.str (Wr f side addr port),.int .i64 e]:=by
 unfold sw Wr;split
 ·exact ⟨_,rfl⟩
 ·split
  ·exact ⟨_,rfl⟩
  ·exact ⟨_,rfl⟩
def To.oK {p:List Nat}{t t':List (Nat×AV)}{ex ex':List (Nat×Bk)}{S:NS}{T:WT}{N n k:Nat}(hT:T.wf)(H':HL (ex'++Qo S T) k)(hk:70<=k)(hkN:k<=N)(jI:∀ q ∈ ex',70<=q.1)(hex:∀ q ∈ ex,70<=q.1/\q.1<N)(hp:∀ b ∈ p,b=67)
  (hl:∀ b,70<=b->b<k->Qc (ex++Xa (dz id [67] N) (Qo S T)) n b=Qw (lw (dz id [67] N) 70) (Qc (ex'++Qo S T) k b)) (ht:Qr (lw (dz id [67] N) 70) k t t'):To p ⟨t,ex++Xa (dz id [67] N) (Qo S T),n⟩ ⟨t',ex'++Qo S T,k⟩:=by
 have hs:∀ b,b<70->dz id [67] N b=67/\b=67\/dz id [67] N b=N+b/\b≠67:=fun b hb=>by
  by_cases e:b=67
  ·subst e;exact .inl ⟨Us aw,rfl⟩
  ·exact .inr ⟨Uh (by simpa using e),e⟩
 refine To.mid (Qn hT) H' hk jI (fun b b' hb bL e=>?_) (fun q hq b hb e=>?_) (fun b hb b' h1 h2 e=>?_) (fun b hb=>?_) hl ht
 ·rcases hs b hb with ⟨h1,h2⟩|⟨h1,h2⟩<;>rcases hs b' bL with ⟨h3,h4⟩|⟨h3,h4⟩<;>omega
 ·have:=hex q hq;rcases hs b hb with ⟨h1,h2⟩|⟨h1,h2⟩<;>omega
 ·rcases hs b hb with ⟨h3,h4⟩|⟨h3,h4⟩<;>omega
 ·obtain rfl:=hp b hb;exact ⟨rfl,by omega⟩
def To.A8 {p:List Nat}{t t':List (Nat×AV)}{h ex ex':List (Nat×Bk)}{m n k:Nat}(H:HL h m)(H':HL (ex'++h) k)(BO:m<=k)(jI:∀ q ∈ ex',m<=q.1)(hex:∀ q ∈ ex,m<=q.1)(hp:∀ b ∈ p,b<k)(hl:∀ b,m<=b->b<k->Qc (ex++h) n b=Qc (ex'++h) k b)(ht:Qr id k t t'):To p ⟨t,ex++h,n⟩ ⟨t',ex'++h,k⟩:=by
 refine To.pL id H' (fun b hb=>⟨rfl,hp b hb⟩) (fun b b' _ _ e=>e) (fun b hb=>?_) ht;rw[qZ];show Qc (ex++h) n b=_;by_cases h1:b<m
 ·rw[Xo fun q hq e=>by have:=hex q hq;omega,Xo fun q hq e=>by have:=jI q hq;omega,H.lo h1 n,H.lo h1 k]
 ·exact hl b af hb
def bK (S:NS)(m:Mp)(r:Int)(x:Int):Bool:=S.fl.any fun q=>q.1==x&&(decide (q.2.map=m)&&q.2.rem==r)
def Sc {S:NS}(hd:S.fl.Pairwise fun p q=>p.1≠q.1){q:Int×Fl}(hq:q ∈ S.fl)(m:Mp)(r:Int):bK S m r q.1=(decide (q.2.map=m)&&q.2.rem==r):=by
 unfold bK;rw[Bool.eq_iff_iff,any_eq_true];constructor
 ·rintro ⟨x,hx,h⟩;rw[Bool.and_eq_true,beq_iff_eq]at h;rw[<- GC hd hx hq h.1];exact h.2
 ·intro h;exact ⟨q,hq,by rw[h];simp⟩
def Yeg {S:NS}(hd:S.fl.Pairwise fun p q=>p.1≠q.1)(m:Mp)(r:Int):S.keys.any (bK S m r)=S.fl.any fun q=>decide (q.2.map=m)&&q.2.rem==r:=by
 unfold NS.keys;rw[List.any_map,Bool.eq_iff_iff,any_eq_true,any_eq_true];constructor<;>rintro ⟨q,hq,h⟩
 ·exact ⟨q,hq,by rw[<- Sc hd hq];exact h⟩
 ·exact ⟨q,hq,by show bK S m r q.1=true;rw[Sc hd hq];exact h⟩
theorem A9:lw (dz id [67] N) 70 67=67:=rfl
def GG {S:NS}{T:WT}(hT:T.wf):HL ((70,Bk.cells [.ptr 67 0])::Qo S T) 71:=(Qn hT).more (by simp[bV,ah,Qe])
theorem Sd (S:NS)(f:List UInt8):S.aF f =
  if cD f≠0 then (bJ (cD f),S) else
  if (aB f).dst-3405803777<0\/3<=(aB f).dst-3405803777 then (bJ 7,S) else
  if (aB f).ae=1/\(aB f).flags≠0 then (bJ 4,S) else
  if (aB f).aN=1 then (bJ 12,S) else
  match S.tb.maps.find? (Ja (aB f).ae ((aB f).dst-3405803777) (aB f).av) with
  | none=>(bJ 7,S)
  | some m =>
   if S.findF m (aB f).aE (aB f).aj≠0 then (⟨0,Wr f 1 (167772161+m.s) m.aF,true,[]⟩,S.goes (S.findF m (aB f).aE (aB f).aj) (aB f) true) else
   if S.loose=false/\(S.fl.any fun q=>decide (q.2.map=m)&&q.2.rem==(aB f).aE)=false then (bJ 11,S) else
   if (aB f).ae≠17\/48<=S.fl.length then (bJ 11,S) else
   (⟨0,Wr f 1 (167772161+m.s) m.aF,true,[]⟩,S.begin ⟨m,(aB f).aE,(aB f).aj,2,0,0⟩):=rfl
def GH {S:NS}{m:Mp}{r rp:Int}(h:S.findF m r rp≠0):∃ q ∈ S.fl,S.findF m r rp=q.1/\q.2.map=m/\q.2.rem=r/\q.2.rport=rp:=by
 unfold NS.findF at h ⊢;split
 ·rename_i q hq;have h1:=List.find?_some hq;simp only[Bool.and_eq_true,decide_eq_true_eq,beq_iff_eq]at h1;exact ⟨q,List.mem_of_find?_eq_some hq,rfl,h1.1.1,h1.1.2,h1.2⟩
 ·rename_i hq;rw[hq]at h;exact absurd rfl h
def LP:∃ (p:Pk) (e:Int),pn f=.aR [.agg p.enc,.int .i64 e]/\(e=0->cD f=0/\aB f=p/\(p.ae=1\/p.ae=6\/p.ae=17)/\Jj p)/\(e≠0->cD f=e):=by
 by_cases he:cD f=0
 ·exact ⟨aB f,0,by unfold pn;rw[am he],fun _=>⟨he,rfl,R9 he⟩,fun h=>(h rfl).elim⟩
 ·exact ⟨cX,cD f,by unfold pn;rw[aa he],fun h=>(he h).elim,fun _=>rfl⟩
def Yii (gl:Nat->AV)(S:NS)(T T1:WT)(hS:NI S)(hT:T.wf)(cQ:T1.wf)(f:List UInt8)(hf:f.length<=140737488351232)(x:Rp×NS)(hx:S.aF f=x)(ha:x.1.code≠0->T1=T)
  (hb:x.1.code=0→∀ m,S.tb.maps.find? (Ja (aB f).ae ((aB f).dst - 3405803777) (aB f).av)=some m →
   (∀ q ∈ S.fl,S.findF m (aB f).aE (aB f).aj=q.1->GD Tryz.prog gl 93 [.ptr 67 0,.int .i64 q.1,.agg (aB f).enc,.bool true] (Qo S T) 70 [67] (.aR []) (Qo (S.goes q.1 (aB f) true) T1)) /\
   (S.findF m (aB f).aE (aB f).aj=0->GD Tryz.prog gl 91 [.ptr 67 0,.agg (Fl.enc ⟨m,(aB f).aE,(aB f).aj,2,0,0⟩)] (Qo S T) 70 [67] (.aR []) (Qo (S.begin ⟨m,(aB f).aE,(aB f).aj,2,0,0⟩) T1))) :
  GD Tryz.prog gl 59 [.ptr 67 0,.str f] (Qo S T) 70 [67] (.agg x.1.enc) (Qo x.2 T1):=by
 refine Yhh.gq (ap rfl) (rB hT) aw fun c bf hg=>?_;subst hg
 conv in aG _ _=>cbv
 have aZ:=fun n b hb=>Kc (S:=S) hT n b hb;have cG:=nF S T;have aW:=NS.bb hS.wf;have ec:=NS.gV hS.wf;have lR:=NS.lR hS.wf;have xY:=NS.xY hS.wf;have Ba:=hS.len;have hP:=JV c.gl f hf;obtain ⟨Z1,rD,qV⟩:∃ Z:Int,(3405803776:Int)=Z/\0<=Z/\Z<=4294967296:=⟨_,rfl,by decide,by decide⟩
 obtain ⟨Z2,uB,cE⟩:∃ Z:Int,(167772161:Int)=Z/\0<=Z/\Z<=4294967296:=⟨_,rfl,by decide,by decide⟩
 rw[rD,uB];obtain ⟨p,e,py,yd,vp⟩:=LP f;rw[py]at hP;rw[Sd]at hx;obtain ⟨p1,p2,p3,p4,p5,p6,p7,p8,p9,db,dc,pb⟩:=p;unfold Pk.enc at hP;dsimp only at hP;refine Qd @aZ ?_
 ((first|apply Yw|apply Yf|apply Xn|apply Xg)<;>(first|exact hP|(refine XG ?_;first|exact rfl|exact True.intro|((try with_reducible and_intros);all_goals try first|refine zm ?_|exact CL))))
 exact Qi @aZ;refine Qb ?_ ?_<;>intro h1
 ·have he:=vp h1;subst he;rw[am h1]at hx;subst hx;obtain rfl:=ha (by first|exact h1|simp[bJ]);unfold bJ Rp.enc;refine Qd @aZ ?_;exact ⟨(),To.drop (ex:=[(71,_),(72,_),(72,_),(71,_),(70,_)]) (Qn hT) aw aw (by simp[Qr,Qe,ah,look,aA,ay])⟩
 obtain ⟨he,hp,sx,oL⟩:=yd h1;rw[aa (by rw[he];simp)]at hx;rw[hp]at hx hb;unfold Jj at oL;dsimp only at hx hb sx oL;refine Qa ?_;refine Qb ?_ ?_<;>intro h2
 ·rw[am af]at hx;subst hx;obtain rfl:=ha (by first|exact h1|simp[bJ]);unfold bJ Rp.enc;refine Qd @aZ ?_;exact ⟨(),To.drop (ex:=[(71,_),(72,_),(72,_),(71,_),(70,_)]) (Qn hT) aw aw (by simp[Qr,Qe,ah,look,aA,ay])⟩
 rw[aa af]at hx;refine Qa ?_;refine Qb ?_ ?_<;>intro h3
 ·rw[am af]at hx;subst hx;obtain rfl:=ha (by first|exact h1|simp[bJ]);unfold bJ Rp.enc;refine Qd @aZ ?_;exact ⟨(),To.drop (ex:=[(71,_),(72,_),(72,_),(71,_),(70,_)]) (Qn hT) aw aw (by simp[Qr,Qe,ah,look,aA,ay])⟩
 rw[aa af]at hx;refine Qa ?_;refine Qb ?_ ?_<;>intro h4
 ·rw[am af]at hx;subst hx;obtain rfl:=ha (by first|exact h1|simp[bJ]);unfold bJ Rp.enc;refine Qd @aZ ?_;exact ⟨(),To.drop (ex:=[(71,_),(72,_),(72,_),(71,_),(70,_)]) (Qn hT) aw aw (by simp[Qr,Qe,ah,look,aA,ay])⟩
 rw[aa af]at hx;have gP:=Qva c.gl S.tb hS.wf (by have:=xF (Kv.2 hS.gt);omega) p1 (p4-Z1-1) p5;rw[show p4-3405803777=p4-Z1-1 by omega]at hx hb;refine Qd (An @cG (An @aW @ec)) ?_;cases hm:S.tb.maps.find? (Ja p1 (p4-Z1-1) p5) with
 | none =>
  rw[hm]at gP hx;unfold gb at gP;dsimp only at gP hx;rw[show cM.enc=[.int .i64 0,.int .i64 0,.int .i64 0,.int .i64 0,.int .i64 0] from rfl]at gP;refine Qk gP @aZ ?_;refine Yc ?_;subst hx;obtain rfl:=ha (by first|exact h1|simp[bJ]);unfold bJ Rp.enc;refine Qd @aZ ?_;exact ⟨(),To.drop (ex:=[(71,_),(73,_),(73,_),(72,_),(72,_),(71,_),(70,_)]) (Qn hT) aw aw (by simp[Qr,Qe,ah,look,aA,ay])⟩
 | some m =>
  rw[hm]at gP hx;unfold gb at gP;dsimp only at gP hx;have hb:=fun h=>hb h m hm;have j9:=Qwj c.gl S T hS.toNJ hT m p2 p3;obtain ⟨tE,GI⟩:=Xer f 1 (Z2+m.s) m.aF;have yf:=ZC c.gl f 1 (Z2+m.s) m.aF hf;rw[GI]at yf;obtain ⟨_,⟨Se,Sf⟩,_⟩:=Jv (hS.gt.maps m (List.mem_of_find?_eq_some hm)).1.1;clear GI;rw[uB]at hx;generalize Wr f 1 (Z2+m.s) m.aF=tf at *
  have Ld:=@GH S m p2 p3;obtain ⟨mp,ms,mi,ma,mt⟩:=m;generalize hkF:S.findF ⟨mp,ms,mi,ma,mt⟩ p2 p3=k at *
  unfold Mp.enc at gP j9;dsimp only at gP j9 hx hb yf Se Sf;have LQ:∀ {S:NS} {T:WT},T.wf->HL ([(73,.cells [.int .i64 mp,.int .i64 ms,.int .i64 mi,.int .i64 ma,.int .i64 mt]),(72,.cells [.int .i64 p1,.int .i64 p2,.int .i64 p3,.int .i64 p4,.int .i64 p5,.int .i64 p6,.int .i64 p7,.int .i64 p8,.int .i64 p9,.int .i64 db,.int .i64 dc,.str pb]),(71,.cells [.int .i64 0,.str [],.bool false,.str []]),(70,.cells [.ptr 67 0])]++Qo S T) 74:=fun hT=>((GG hT).more (by simp[bV,ah,Qe])).more (by simp[bV,ah,Qe]) |>.more (by simp[bV,ah,Qe])
  refine Qk gP @aZ ?_;refine Yc ?_;refine Qd @aZ ?_;refine tg (v:=false) (ex:=[(73,_),(73,_),(72,_),(72,_),(71,_),(70,_)]) j9 (Qn hT) (Qn hT) (by simp[Qe]) aJ aw rfl ?_ ?_
  ·exact Qi (An @Yt @aZ)
  refine Qa ?_;refine Qb ?_ ?_<;>intro h6
  ·rw[am h6]at hx;subst hx;obtain ⟨q,hq,e,_⟩:=Ld h6;have en:=(hb rfl).1 q hq e;subst e;generalize NS.goes S _ _ true=S1 at *
   unfold Pk.enc at en;dsimp only at en;refine Qa ?_;refine ti (v:=false) (pp:=[67]) (ex:=[(73,_),(73,_),(72,_),(72,_),(71,_),(70,_)]) (s3:=⟨[(1,.str f),(4,.ptr 71 0),(8,.ptr 73 0)],[(73,.cells [.int .i64 mp,.int .i64 ms,.int .i64 mi,.int .i64 ma,.int .i64 mt]),(72,.cells [.int .i64 p1,.int .i64 p2,.int .i64 p3,.int .i64 p4,.int .i64 p5,.int .i64 p6,.int .i64 p7,.int .i64 p8,.int .i64 p9,.int .i64 db,.int .i64 dc,.str pb]),(71,.cells [.int .i64 0,.str [],.bool false,.str []]),(70,.cells [.ptr 67 0])]++Qo S1 T1,74⟩) bf en (Qn hT) (Qn cQ) (by simp[Qe,ah]) aJ aw aw rfl ?_ ?_ ?_
   ·exact Qi @Yt
   ·unfold Jr;refine To.oK cQ (LQ cQ) aJ aJ aw aw aw (fun b h1 h2=>?_) ?_
    ·rcases (by omega:b=70\/b=71\/b=72\/b=73) with rfl|rfl|rfl|rfl<;>rfl
    ·simp[Qr,Qe,ah,look,aA,ay,A9,lw]
   refine Qa ?_;refine Xd yf ?_;refine Qa ?_;unfold Rp.enc;exact ⟨(),To.drop (ex:=[(71,_),(73,_),(72,_),(71,_),(70,_)]) (Qn cQ) aw aw (by simp[Qr,Qe,ah,look,aA,ay])⟩
  rw[aa af]at hx;cases fA:S.loose with
  | false =>
   rw[fA]at xY hx;refine Qd (An @cG (An @aW (An @xY @lR))) ?_;refine zt (An @cG (An @aW @xY)) ?_;have H4:=LQ (S:=S) hT;refine np (p:=[67]) (s':=⟨[(1,.str f),(2,.ptr 70 0),(4,.ptr 71 0),(5,.ptr 72 0),(8,.ptr 73 0),(90,.bool true),(94,.dU true (.sl 1 69 0 S.fl.length S.fl.length)),(95,.dU true (.cl 97 [.ptr 70 0,.ptr 73 0,.ptr 72 0]))],[(73,.cells [.int .i64 mp,.int .i64 ms,.int .i64 mi,.int .i64 ma,.int .i64 mt]),(72,.cells [.int .i64 p1,.int .i64 p2,.int .i64 p3,.int .i64 p4,.int .i64 p5,.int .i64 p6,.int .i64 p7,.int .i64 p8,.int .i64 p9,.int .i64 db,.int .i64 dc,.str pb]),(71,.cells [.int .i64 0,.str [],.bool false,.str []]),(70,.cells [.ptr 67 0])]++Qo S T,74⟩) bf ?_ ?_
   ·refine To.A8 (ex:=[(73,_),(73,_),(72,_),(72,_),(71,_),(70,_)]) (Qn hT) H4 aJ aw aw aw (fun b h1 h2=>?_) ?_
    ·rcases (by omega:b=70\/b=71\/b=72\/b=73) with rfl|rfl|rfl|rfl<;>rfl
    ·simp[Qr,Qe,ah,look,aA,ay]
   have tu:=Xe5 c.gl (l:=S.keys) (kb:=69) (f:=97) (caps:=[.ptr 70 0,.ptr 73 0,.ptr 72 0]) (b:=bK S ⟨mp,ms,mi,ma,mt⟩ p2) H4 (by simp[NS.keys];omega) aJ (fun n=>rfl) (by simp[ah,Qe]) (fun x hx=>by
    obtain ⟨q,hq,rfl⟩:=mem_map.1 hx;rw[Sc hS.dS hq];exact Ya4 c.gl (p:=⟨p1,p2,p3,p4,p5,p6,p7,p8,p9,db,dc,pb⟩) hS.toNJ H4 (fun n=>rfl) (fun n=>rfl) (fun n=>rfl) (fun n=>rfl) (fun n=>rfl) hq)
   rw[Yeg hS.dS,show S.keys.length=S.fl.length by simp[NS.keys]]at tu;refine tg (v:=false) (ex:=[]) tu H4 H4 (by simp[Qe]) aJ aw rfl ?_ ?_
   ·exact Qi @Yt
   generalize (S.fl.any fun q=>decide (q.2.map=⟨mp,ms,mi,ma,mt⟩)&&q.2.rem==p2)=any at *
   refine Qa ?_;refine Qb ?_ ?_<;>intro h7
   ·subst h7;rw[am ⟨rfl,rfl⟩]at hx;subst hx;obtain rfl:=ha (by first|exact h1|simp[bJ]);unfold bJ Rp.enc;refine Qd @aZ ?_;exact ⟨(),To.drop (ex:=[(71,_),(73,_),(72,_),(71,_),(70,_)]) (Qn hT) aw aw (by simp[Qr,Qe,ah,look,aA,ay])⟩
   rw[aa (by simpa using h7)]at hx;refine Qd (An @cG (An @aW @lR)) ?_;refine Qb ?_ ?_<;>intro h8
   ·rw[am af]at hx;subst hx;obtain rfl:=ha (by first|exact h1|simp[bJ]);unfold bJ Rp.enc;refine Qd @aZ ?_;exact ⟨(),To.drop (ex:=[(71,_),(73,_),(72,_),(71,_),(70,_)]) (Qn hT) aw aw (by simp[Qr,Qe,ah,look,aA,ay])⟩
   ·rw[aa af]at hx;subst hx;have en:=(hb rfl).2 af;generalize NS.begin S _=S1 at *
    unfold Fl.enc Zi at en;dsimp only at en;refine Qd (An @cG (An @aW @lR)) ?_;refine ti (v:=false) (pp:=[67]) (ex:=[(73,_),(72,_),(71,_),(70,_)]) (s3:=⟨[(1,.str f),(4,.ptr 71 0),(8,.ptr 73 0)],[(73,.cells [.int .i64 mp,.int .i64 ms,.int .i64 mi,.int .i64 ma,.int .i64 mt]),(72,.cells [.int .i64 p1,.int .i64 p2,.int .i64 p3,.int .i64 p4,.int .i64 p5,.int .i64 p6,.int .i64 p7,.int .i64 p8,.int .i64 p9,.int .i64 db,.int .i64 dc,.str pb]),(71,.cells [.int .i64 0,.str [],.bool false,.str []]),(70,.cells [.ptr 67 0])]++Qo S1 T1,74⟩) bf en (Qn hT) (Qn cQ) (by simp[Qe,ah]) aJ aw aw rfl ?_ ?_ ?_
    ·exact Qi @Yt
    ·unfold Jr;refine To.oK cQ (LQ cQ) aJ aJ aw aw aw (fun b h1 h2=>?_) ?_
     ·rcases (by omega:b=70\/b=71\/b=72\/b=73) with rfl|rfl|rfl|rfl<;>rfl
     ·simp[Qr,Qe,ah,look,aA,ay,A9,lw]
    refine Qa ?_;refine Xd yf ?_;refine Qa ?_;unfold Rp.enc;exact ⟨(),To.drop (ex:=[(71,_),(73,_),(72,_),(71,_),(70,_)]) (Qn cQ) aw aw (by simp[Qr,Qe,ah,look,aA,ay])⟩
  | true =>
   rw[fA]at xY hx;rw[aa aw]at hx;refine Qd (An @cG (An @aW @xY)) ?_;refine jw (An @cG (An @aW @xY)) ?_;refine Qa ?_;refine Yc ?_;refine Qd (An @cG (An @aW @lR)) ?_;refine Qb ?_ ?_<;>intro h8
   ·rw[am af]at hx;subst hx;obtain rfl:=ha (by first|exact h1|simp[bJ]);unfold bJ Rp.enc;refine Qd @aZ ?_;exact ⟨(),To.drop (ex:=[(71,_),(73,_),(73,_),(72,_),(72,_),(71,_),(70,_)]) (Qn hT) aw aw (by simp[Qr,Qe,ah,look,aA,ay])⟩
   ·rw[aa af]at hx;subst hx;have en:=(hb rfl).2 af;generalize NS.begin S _=S1 at *
    unfold Fl.enc Zi at en;dsimp only at en;refine Qd (An @cG (An @aW @lR)) ?_;refine ti (v:=false) (pp:=[67]) (ex:=[(73,_),(73,_),(72,_),(72,_),(71,_),(70,_)]) (s3:=⟨[(1,.str f),(4,.ptr 71 0),(8,.ptr 73 0)],[(73,.cells [.int .i64 mp,.int .i64 ms,.int .i64 mi,.int .i64 ma,.int .i64 mt]),(72,.cells [.int .i64 p1,.int .i64 p2,.int .i64 p3,.int .i64 p4,.int .i64 p5,.int .i64 p6,.int .i64 p7,.int .i64 p8,.int .i64 p9,.int .i64 db,.int .i64 dc,.str pb]),(71,.cells [.int .i64 0,.str [],.bool false,.str []]),(70,.cells [.ptr 67 0])]++Qo S1 T1,74⟩) bf en (Qn hT) (Qn cQ) (by simp[Qe,ah]) aJ aw aw rfl ?_ ?_ ?_
    ·exact Qi @Yt
    ·unfold Jr;refine To.oK cQ (LQ cQ) aJ aJ aw aw aw (fun b h1 h2=>?_) ?_
     ·rcases (by omega:b=70\/b=71\/b=72\/b=73) with rfl|rfl|rfl|rfl<;>rfl
     ·simp[Qr,Qe,ah,look,aA,ay,A9,lw]
    refine Qa ?_;refine Xd yf ?_;refine Qa ?_;unfold Rp.enc;exact ⟨(),To.drop (ex:=[(71,_),(73,_),(72,_),(71,_),(70,_)]) (Qn cQ) aw aw (by simp[Qr,Qe,ah,look,aA,ay])⟩
def Ygd (gl:Nat->AV)(S:NS)(T:WT)(f:List UInt8)(x:Rp×NS):Prop:=∃ T' D',WI T' x.2.now D'/\D'.Perm x.2.aX/\(x.1.code≠0->T'=T)/\(x.1.code=0->∀ m,S.tb.maps.find? (Ja (aB f).ae ((aB f).dst-3405803777) (aB f).av)=some m ->
   (∀ q ∈ S.fl,S.findF m (aB f).aE (aB f).aj=q.1->GD Tryz.prog gl 93 [.ptr 67 0,.int .i64 q.1,.agg (aB f).enc,.bool true] (Qo S T) 70 [67] (.aR []) (Qo (S.goes q.1 (aB f) true) T')) /\
   (S.findF m (aB f).aE (aB f).aj=0->GD Tryz.prog gl 91 [.ptr 67 0,.agg (Fl.enc ⟨m,(aB f).aE,(aB f).aj,2,0,0⟩)] (Qo S T) 70 [67] (.aR []) (Qo (S.begin ⟨m,(aB f).aE,(aB f).aj,2,0,0⟩) T')))
def Xmt (S:NS)(T:WT)(D:List Tm)(hS:NI S)(nA:S.bG<=1000000)(hW:WI T S.now D)(hD:D.Perm S.aX)(f:List UInt8)(hf:f.length<=140737488351232):∃ T' D',WI T' (S.aF f).2.now D'/\D'.Perm (S.aF f).2.aX /\
  GD Tryz.prog gl 59 [.ptr 67 0,.str f] (Qo S T) 70 [67] (.agg (S.aF f).1.enc) (Qo (S.aF f).2 T'):=by
 have key:∀ x,S.aF f=x->Ygd gl S T f x:=by
  intro x hx;have stay:∀ r:Rp,r.code≠0->x=(r,S)->Ygd gl S T f x:=fun r hr e=>by
   subst e;exact ⟨T,D,hW,hD,fun _=>rfl,fun h=>(hr h).elim⟩
  rw[Sd]at hx;split at hx
  ·rename_i h;exact stay _ h hx.symm
  split at hx
  ·exact stay (bJ 7) aJ hx.symm
  split at hx
  ·exact stay (bJ 4) aJ hx.symm
  split at hx
  ·exact stay (bJ 12) aJ hx.symm
  split at hx
  ·exact stay (bJ 7) aJ hx.symm
  rename_i m hm;split at hx
  ·rename_i hk;obtain ⟨q,hq,e,_⟩:=GH hk;obtain ⟨T1,D1,dO,lS,hg⟩:=Qz3 gl S T D hS hW hD q hq (aB f) true;subst hx;rw[e];refine ⟨T1,D1,dO,lS,fun h=>(h rfl).elim,fun _ m' Am=>?_⟩;obtain rfl:=Option.some.inj (hm.symm.trans Am);exact ⟨fun q' dd e'=>by rw[show q'.1=q.1 from e'.symm.trans e];exact hg,fun e'=>(hk e').elim⟩
  rename_i hk;split at hx
  ·exact stay (bJ 11) aJ hx.symm
  split at hx
  ·exact stay (bJ 11) aJ hx.symm
  rename_i h8;obtain ⟨T1,D1,dO,lS,hg⟩:=Qt3 gl S T D hS.toNJ.nb nA hW hD af m (aB f).aE (aB f).aj 2;subst hx;refine ⟨T1,D1,dO,lS,fun h=>(h rfl).elim,fun _ m' Am=>?_⟩;obtain rfl:=Option.some.inj (hm.symm.trans Am);exact ⟨fun q' dd e'=>absurd (by rw[e'];have:=(hS.ids q' dd).1;omega) hk,fun _=>hg⟩
 obtain ⟨T',D',h1,h2,h3,h4⟩:=key _ rfl;exact ⟨T',D',h1,h2,Yii gl S T T' hS hW.wf h1.wf f hf _ rfl h3 h4⟩
def Xv2 (p:Int)(r:List AV):PS Tryz.prog gl 92 [.agg (.int .i64 p::r)] (.int .i64 (if p=6 then 1 else 2)):=by
 refine Xy8.ps (ap rfl) (by simp[Qe]) fun c hN hg=>?_
 conv in aG _ _=>cbv
 refine Qa ?_
 (repeat' (first|(refine Qb ?_ ?_<;>intro hh<;>exact Qp) ))
 all_goals simp_all
def Xmj (p:Pk):PS Tryz.prog gl 87 [.agg p.enc] (.bool (xX p.ae p.flags)):=by
 refine Xr9.ps (ap rfl) (by simp[Qe]) fun c hN hg=>?_
 conv in aG _ _=>cbv
 obtain ⟨p1,p2,p3,p4,p5,p6,p7,p8,p9,db,dc,pb⟩:=p;unfold Pk.enc xX;dsimp only;refine Qa ?_
 (refine Qb (fun h1=>?_) (fun h1=>?_)<;>try exact h1.elim)
 ·subst h1;exact Qp
 refine Qa ?_
 (refine Qb (fun h2=>?_) (fun h2=>?_)<;>try exact h2.elim)
 ·subst h2;exact Qp
 refine Qa ?_;by_cases h3:p1=17
 ·subst h3;rfl
 ·rw[aa h3,aa h1];simp[h2,h3]
section
variable {P:Program}{c:Cx}
def Sg {s s2:St}(e:s.fs=s2.fs)(h:Yn P c o r0 K s2):Yn P c o r0 K s:=by
 unfold Yn ML H8 at h ⊢;rw[e];exact h
def Xmo {anc:List Nat}   {fs:List bg}  {s s2:St}(e:s.fs=s2.fs)(h:Zm P c anc o r0 fs K s2):Zm P c anc o r0 fs K s:=by
 unfold Zm MM at h ⊢;rw[e];exact h
end
def LR {A B:List (Nat×Bk)}{S S':NS}{T:WT}  {t:List (Nat×AV)}(jO:S'.fl=S.fl)(hA:∀ q ∈ A,q.1≠67)(hB:∀ q ∈ B,q.1≠67):(⟨t,A++((67,.cells S'.cells)::(B++Qo S T)),n⟩:St).fs=(⟨t,(A++B)++Qo S' T,n⟩:St).fs:=by
 refine qc (fun _=>rfl) fun b=>?_;show Qc _ n b=Qc _ n b;by_cases h:b=67
 ·subst h;rw[Xo hA,Qf,am rfl,append_assoc,Xo hA,Xo hB];rfl
 ·have e1:Qc ((67,Bk.cells S'.cells)::(B++Qo S T)) n b=Qc (B++Qo S' T) n b:=by
   rw[Qf,aa fun e=>h e.symm];refine EG ?_;unfold Qo NS.keys;rw[jO];show Qc ((67,_)::_) n b=Qc ((67,_)::_) n b;rw[Qf,aa fun e=>h e.symm]
   conv=>rhs;rw[Qf,aa fun e=>h e.symm]
  rw[append_assoc];exact EG e1
section
variable {P:Program}{c:Cx}{h h1 ex:List (Nat×Bk)}{m n:Nat}{v:Bool}{d:Option Nat}{kk:PK}{f:FuncId}{xs:List TV}{args:List AV}{r:AV}{t:List (Nat×AV)}{r0:List bD}{K:St->Prop}
def Yag {pp:List Nat}{s3:St}(bf:∀ q ∈ c.gh,q.1 ∈ pp)(hq:GD P c.gl f args h m (List.range m) r h1)(H:HL h m)(H1:HL h1 m)(hr:Qe m r)(hn:m<=n)(hex:∀ q ∈ ex,m<=q.1/\q.1<n)(hk:kk=(bif v then .dg else .call f))
  (hc:Qq none (aC c.gl (⟨t,ex++h,n⟩:St).fs xs)/\qi v f ((aC c.gl (⟨t,ex++h,n⟩:St).fs xs).map Qh)=some (f,args)/\ah m args) (jf:To pp (St.cd ⟨t,ex++h1,n+m⟩ d r) s3) (hx:XP P c r0 K s3):Yn P c (.pd d kk xs none) r0 K ⟨t,ex++h,n⟩ :=
 ti bf hq H H1 hr hn (fun b hb=>List.mem_range.1 hb) hex hk hc (by rw[Xs0 H1 hr];exact jf) hx
end
def NS.GJ {S:NS}(h:S.tb.wf){tb:Tb}(hw:tb.wf):Yj S.cells 0 tb.enc=({ S with tb:=tb }:NS).cells:=by
 unfold Yj NS.cells;rw[List.take_zero,nil_append,Nat.zero_add,Tb.au hw,<- Tb.au h,List.drop_left];rfl
def Xqr (ae aN:Int)(a w:Nat)(addr port:Int):(Ub f ae aN a w addr port).length=f.length:=by
 have dN:∀ b pr m n,(tl b pr m n).length=b.length:=fun b pr m n=>by unfold tl;split<;>simp[JY]
 unfold Ub;dsimp only;split<;>simp only[O9,Uq,dN]
def Qtn (side addr port:Int):(Wr f side addr port).length<=f.length:=by
 unfold Wr;split
 ·simp
 ·split
  ·simp
  ·rw[Xqr];exact Nat.le_refl _
theorem LS:dz id [67] N 67=67:=rfl
section
variable {P:Program}{c:Cx}{h h1 ex:List (Nat×Bk)}{m n:Nat}{v:Bool}{d:Option Nat}{kk:PK}{f:FuncId}{xs:List TV}{args:List AV}{r:AV}{t:List (Nat×AV)}{r0:List bD}{K:St->Prop}
def Sh {ι:Type}(J:ι->Prop)(st:ι->St){A:TC}{Q:EX->St->Prop}{s:St}(h2:∀ i,J i->Q .normal (st i))(h1:∀ Q':EX->St->Prop,(∀ i,J i->Q' .normal (st i))->(∀ s,Q .ret s->Q' .ret s)->xw P c A Q' s):xw P c A Q s:=h1 Q h2 fun _ h=>h
def Xmp {p:List Nat}(hq:GD P c.gl f args h m p r h1)(H:HL h m)(H1:HL h1 m)(hr:Qe m r)(hn:m<=n)(hp:∀ b ∈ p,b<m)(hex:∀ q ∈ ex,m<=q.1/\q.1<n)(hk:kk=(bif v then .dg else .call f))
  (hc:Qq none (aC c.gl (⟨t,ex++h,n⟩:St).fs xs)/\qi v f ((aC c.gl (⟨t,ex++h,n⟩:St).fs xs).map Qh)=some (f,args)/\ah m args) (hx:XP P c r0 K (Jr t ex h1 id p m n d r)):Yn P c (.pd d kk xs none) r0 K ⟨t,ex++h,n⟩:=by
 have:=OI (d:=d) (r0:=r0) (K:=K) hq (LD (v:=v) H hn hp hex hc) hk H1 hr hx;rw[Wo]at this;exact this
end
theorem Sj (S:NS)(f:List UInt8)(m:Mp)(es:List Ev):S.eZ f m es =
  if 0≤(aB f).dst - 3405803777∧(aB f).dst - 3405803777 < 3 then
   (⟨((S.log es).aF (Wr f 0 (3405803777+m.a) m.port)).1.code,((S.log es).aF (Wr f 0 (3405803777+m.a) m.port)).1.frame,((S.log es).aF (Wr f 0 (3405803777+m.a) m.port)).1.inner,nE S.told es⟩,((S.log es).aF (Wr f 0 (3405803777+m.a) m.port)).2)
  else (⟨0,Wr f 0 (3405803777+m.a) m.port,false,nE S.told es⟩,S.log es):=rfl
noncomputable def NS.oM (S:NS)(f:List UInt8)(draw:Int):(Rp×NS)×Option (Mp×List Ev×NS) :=
 if cD f≠0 then ((bJ (cD f),S),none) else
 if (aB f).aE-167772161<0\/8<=(aB f).aE-167772161 then ((bJ 7,S),none) else
 if (aB f).ae=1/\(aB f).flags≠8 then ((bJ 4,S),none) else
 if (aB f).aN=1 then ((bJ 12,S),none) else
 if S.cY (aB f)≠0 then (match S.fwd (aB f) with
  | some m=>((S.goes (S.cY (aB f)) (aB f) false).eZ f m [],some (m,[],S.goes (S.cY (aB f)) (aB f) false))
  | none=>((bJ 0,S),none))
 else if xX (aB f).ae (aB f).flags=false then ((bJ 11,S),none) else
 if 48<=S.fl.length then (S.refuse f 6,none) else
 if (S.tb.ca (aB f).ae ((aB f).aE-167772161) (aB f).aj draw).2.2.2≠0 then (S.refuse f (S.tb.ca (aB f).ae ((aB f).aE-167772161) (aB f).aj draw).2.2.2,none) else
 (S.opened f (S.tb.ca (aB f).ae ((aB f).aE - 167772161) (aB f).aj draw),some ((S.tb.ca (aB f).ae ((aB f).aE - 167772161) (aB f).aj draw).2.1,
  (if (S.tb.ca (aB f).ae ((aB f).aE-167772161) (aB f).aj draw).2.2.1 then [({ S with tb:=(S.tb.ca (aB f).ae ((aB f).aE-167772161) (aB f).aj draw).1 }:NS).ev (S.tb.ca (aB f).ae ((aB f).aE-167772161) (aB f).aj draw).2.1 false] else []),
  ({ S with tb:=(S.tb.ca (aB f).ae ((aB f).aE-167772161) (aB f).aj draw).1 }:NS).begin ⟨(S.tb.ca (aB f).ae ((aB f).aE-167772161) (aB f).aj draw).2.1,(aB f).dst,(aB f).av,Wc (aB f).ae,0,0⟩))
def Yfk (S:NS)(f:List UInt8)(d:Int):(S.oM f d).1=S.out f d:=by
 rw[Sa];unfold NS.oM
 (repeat' split)<;>first|rfl|(simp_all;done)
structure wu (gl:Nat->AV)(S:NS)(T T1 T':WT)(f:List UInt8)(p:Pk)(x:Tb)(m:Mp)(es:List Ev)(S1:NS):Prop where
 nj:NJ S1
 told:S1.told<=100000
 len:es.length<=64
 bO:∀ e ∈ es,Jd e.t e.s e.a e.b=true/\e.t=(es.headD ⟨0,0,0,0,false⟩).t
 a:0<=m.a/\m.a<3
 goes:S.cY p≠0->GD Tryz.prog gl 93 [.ptr 67 0,.int .i64 (S.cY p),.agg p.enc,.bool false] (Qo S T) 70 [67] (.aR []) (Qo S1 T1)
 beg:S.cY p=0->Fh m/\GD Tryz.prog gl 91 [.ptr 67 0,.agg (Fl.enc ⟨m,p.dst,p.av,Wc p.ae,0,0⟩)] (Qo { S with tb:=x } T) 70 [67] (.aR []) (Qo S1 T1)
 aF:0<=p.dst-3405803777/\p.dst-3405803777<3->GD Tryz.prog gl 59 [.ptr 67 0,.str (Wr f 0 (3405803777+m.a) m.port)] (Qo (S1.log es) T1) 70 [67] (.agg ((S1.log es).aF (Wr f 0 (3405803777+m.a) m.port)).1.enc) (Qo ((S1.log es).aF (Wr f 0 (3405803777+m.a) m.port)).2 T')
 out:¬ (0<=p.dst-3405803777/\p.dst-3405803777<3)->T'=T1
structure OW where
 t:List (Nat×AV)
 ex:List (Nat×Bk)
 N:Nat
 n:Nat
 m:Mp
 es:List Ev
 S1:NS
def OW.h (T1:WT)(i:OW):List (Nat×Bk):=i.ex++Xa (dz id [67] i.N) (Qo i.S1 T1)
structure OJ (T1:WT)(f:List UInt8)(pc ac:List AV)(x:Rp×NS)(y:Option (Mp×List Ev×NS))(i:OW):Prop where
 y:y=some (i.m,i.es,i.S1)
 x:x=i.S1.eZ f i.m i.es
 k0:look i.t 0=.ptr 67 0
 k3:look i.t 3=.ptr 70 0
 k4:look i.t 4=.ptr 71 0
 k5:look i.t 5=.ptr 72 0
 k8:look i.t 8=.ptr 73 0
 wv:Wk (look i.t 11) (.isl i.es.length (Xk i.es))
 ex:∀ q ∈ i.ex,70<=q.1/\q.1<i.N
 N:74<=i.N
 LU:∀ n,Qc (i.h T1) n 70=.cells ac
 Sk:∀ n,Qc (i.h T1) n 71=.cells [.int .i64 0,.str [],.bool false,.str []]
 Sl:∀ n,Qc (i.h T1) n 72=.cells pc
 LV:∀ n,Qc (i.h T1) n 73=.cells [.int .i64 i.m.ae,.int .i64 i.m.s,.int .i64 i.m.aF,.int .i64 i.m.a,.int .i64 i.m.port]
def Yg4 (gl:Nat->AV)(h0:gl 0=.xp (Ql Xv) 0)(S:NS)(T T1 T':WT)(D:List Tm)(hS:NI S)(hW:WI T S.now D)(cQ:T1.wf)(fv:T'.wf)(ak an ad:Int)(f:List UInt8)(hf:f.length<=140737488351232)(x:Rp×NS)(y:Option (Mp×List Ev×NS))(hx:S.oM f ad=(x,y))(hN:y=none->T'=T)
  (hY:∀ m es S1,y=some (m,es,S1)->wu gl S T T1 T' f (aB f) (S.tb.ca (aB f).ae ((aB f).aE-167772161) (aB f).aj ad).1 m es S1) :
  GD Tryz.prog gl 58 [.ptr 67 0,.agg [.int .i64 ak,.int .i64 an,.int .i64 ad,.str f]] (Qo S T) 70 [67] (.agg x.1.enc) (Qo x.2 T'):=by
 have hT:=hW.wf;refine Ybh.gq (ap rfl) (rB hT) aw fun c bf hg=>?_;subst hg
 conv in aG _ _=>cbv
 have aZ:=fun n b hb=>Kc (S:=S) hT n b hb;have cG:=nF S T;have aW:=NS.bb hS.wf;have ec:=NS.gV hS.wf;have lR:=NS.lR hS.wf;have Ba:=hS.len;have hP:=JV c.gl f hf;obtain ⟨Z1,rD,qV⟩:∃ Z:Int,(3405803776:Int)=Z/\0<=Z/\Z<=4294967296:=⟨_,rfl,by decide,by decide⟩
 obtain ⟨Z2,uB,cE⟩:∃ Z:Int,(167772160:Int)=Z/\0<=Z/\Z<=4294967296:=⟨_,rfl,by decide,by decide⟩
 obtain ⟨Z3,LW,LX⟩:∃ Z:Int,(3405803777:Int)=Z/\0<=Z/\Z<=4294967296:=⟨_,rfl,by decide,by decide⟩
 rw[rD,uB,LW];obtain ⟨p,e,py,yd,vp⟩:=LP f;rw[py]at hP;unfold NS.oM at hx;obtain ⟨p1,p2,p3,p4,p5,p6,p7,p8,p9,db,dc,pb⟩:=p;unfold Pk.enc at hP;dsimp only at hP;refine Qd @aZ ?_
 ((first|apply Yw|apply Yf|apply Xn|apply Xg)<;>(first|exact hP|(refine XG ?_;first|exact rfl|exact True.intro|((try with_reducible and_intros);all_goals try first|refine zm ?_|exact CL))))
 exact Qi @aZ;refine Qb ?_ ?_<;>intro h1
 ·have he:=vp h1;subst he;rw[am h1]at hx;obtain ⟨rfl,rfl⟩:=Prod.mk.inj hx;obtain rfl:=hN rfl;unfold bJ Rp.enc at *
  refine Qd @aZ ?_;exact ⟨(),To.drop (ex:=[(71,_),(72,_),(72,_),(71,_),(70,_)]) (Qn hT) aw aw (by simp[Qr,Qe,ah,look,aA,ay])⟩
 obtain ⟨he,hp,sx,oL⟩:=yd h1;rw[aa (by rw[he];simp),hp]at hx;rw[hp]at hY;unfold Jj at oL;dsimp only at hx hY sx oL;refine Qa ?_;refine Qb ?_ ?_<;>intro h2
 ·rw[am af]at hx;obtain ⟨rfl,rfl⟩:=Prod.mk.inj hx;obtain rfl:=hN rfl;unfold bJ Rp.enc at *
  refine Qd @aZ ?_;exact ⟨(),To.drop (ex:=[(71,_),(72,_),(72,_),(71,_),(70,_)]) (Qn hT) aw aw (by simp[Qr,Qe,ah,look,aA,ay])⟩
 rw[aa af]at hx;refine Qa ?_;refine Qb ?_ ?_<;>intro h3
 ·rw[am af]at hx;obtain ⟨rfl,rfl⟩:=Prod.mk.inj hx;obtain rfl:=hN rfl;unfold bJ Rp.enc at *
  refine Qd @aZ ?_;exact ⟨(),To.drop (ex:=[(71,_),(72,_),(72,_),(71,_),(70,_)]) (Qn hT) aw aw (by simp[Qr,Qe,ah,look,aA,ay])⟩
 rw[aa af]at hx;refine Qa ?_;refine Qb ?_ ?_<;>intro h4
 ·rw[am af]at hx;obtain ⟨rfl,rfl⟩:=Prod.mk.inj hx;obtain rfl:=hN rfl;unfold bJ Rp.enc at *
  refine Qd @aZ ?_;exact ⟨(),To.drop (ex:=[(71,_),(72,_),(72,_),(71,_),(70,_)]) (Qn hT) aw aw (by simp[Qr,Qe,ah,look,aA,ay])⟩
 rw[aa af]at hx;have jm:=Qwt c.gl S.tb hS.wf (by have:=xF (Kv.2 hS.gt);omega) p1 (p2-Z2-1) p3;rw[show p2-167772161=p2-Z2-1 by omega]at hx hY;refine Qd (An @cG (An @aW @ec)) ?_;obtain ⟨m,th,Ge,hth,htn⟩:∃ m th,gb (S.tb.maps.find? (Xz p1 (p2-Z2-1) p3))=.aR [.agg (Mp.enc m),.bool th]/\(th=true->S.fwd ⟨p1,p2,p3,p4,p5,p6,p7,p8,p9,db,dc,pb⟩=some m/\S.cY ⟨p1,p2,p3,p4,p5,p6,p7,p8,p9,db,dc,pb⟩=S.findF m p4 p5)/\(th=false->S.cY ⟨p1,p2,p3,p4,p5,p6,p7,p8,p9,db,dc,pb⟩=0):=by
  have e1:S.fwd ⟨p1,p2,p3,p4,p5,p6,p7,p8,p9,db,dc,pb⟩=S.tb.maps.find? (Xz p1 (p2-Z2-1) p3):=by
   rw[show p2-Z2-1=p2-167772161 by omega];rfl
  unfold NS.cY;rw[e1];cases S.tb.maps.find? (Xz p1 (p2-Z2-1) p3) with
  | none=>exact ⟨cM,false,rfl,by simp,fun _=>rfl⟩
  | some m=>exact ⟨m,true,rfl,fun _=>⟨rfl,rfl⟩,by simp⟩
 rw[Ge]at jm;clear Ge;have j9:=Qwj c.gl S T hS.toNJ hT m p4 p5;have Ld:=fun h=>@GH S m p4 p5 h;generalize Sm:S.cY ⟨p1,p2,p3,p4,p5,p6,p7,p8,p9,db,dc,pb⟩=k at *
 obtain ⟨m1,m2,m3,m4,m5⟩:=m;unfold Mp.enc at jm j9;dsimp only at jm j9;refine Qk jm @aZ ?_
 refine Sh (fun y:List (Nat × AV) × Nat=>look y.1 0=.ptr 67 0∧look y.1 3=.ptr 70 0∧look y.1 4=.ptr 71 0∧look y.1 5=.ptr 72 0∧look y.1 7=.int .i64 (p2 - Z2 - 1)∧look y.1 8=.ptr 73 0∧look y.1 10=.int .i64 k∧74≤y.2)
  (fun y=>⟨y.1,[(73,.cells [.int .i64 m1,.int .i64 m2,.int .i64 m3,.int .i64 m4,.int .i64 m5]),(73,.cells [.int .i64 0,.int .i64 0,.int .i64 0,.int .i64 0,.int .i64 0]),(72,.cells [.int .i64 p1,.int .i64 p2,.int .i64 p3,.int .i64 p4,.int .i64 p5,.int .i64 p6,.int .i64 p7,.int .i64 p8,.int .i64 p9,.int .i64 db,.int .i64 dc,.str pb]),(72,.cells [.int .i64 0,.int .i64 0,.int .i64 0,.int .i64 0,.int .i64 0,.int .i64 0,.int .i64 0,.int .i64 0,.int .i64 0,.int .i64 0,.int .i64 0,.str []]),(71,.cells [.int .i64 0,.str [],.bool false,.str []]),(70,.cells [.int .i64 ak,.int .i64 an,.int .i64 ad,.str f])]++Qo S T,y.2⟩) (fun y hy=>?_) fun Q' hQ hR=>?_
 rotate_left
 ·refine Qb ?_ ?_<;>intro h5
  ·obtain ⟨zF,iP⟩:=hth h5;subst iP;refine Qd @aZ ?_;refine tg (v:=false) (ex:=[(73,_),(73,_),(72,_),(72,_),(71,_),(70,_)]) j9 (Qn hT) (Qn hT) (by simp[Qe]) aJ aw rfl ?_ ?_
   ·exact Qi (An @Yt @aZ)
   refine Qa ?_;exact hQ (_,_) ⟨rfl,rfl,rfl,rfl,rfl,rfl,rfl,Nat.le_of_ble_eq_true rfl⟩
  ·obtain rfl:=htn h5;refine Qa ?_;exact hQ (_,_) ⟨rfl,rfl,rfl,rfl,rfl,rfl,rfl,Nat.le_of_ble_eq_true rfl⟩
 obtain ⟨t,n⟩:=y;obtain ⟨k0,k3,k4,k5,k7,k8,jC,hn⟩:=hy;dsimp only at k0 k3 k4 k5 k7 k8 jC hn ⊢;refine Qd @jC ?_;refine Sh (OJ T1 f [.int .i64 p1,.int .i64 p2,.int .i64 p3,.int .i64 p4,.int .i64 p5,.int .i64 p6,.int .i64 p7,.int .i64 p8,.int .i64 p9,.int .i64 db,.int .i64 dc,.str pb] [.int .i64 ak,.int .i64 an,.int .i64 ad,.str f] x y) (fun i=>⟨i.t,i.h T1,i.n⟩) (fun i hi=>?_) fun Q' hQ hR=>?_;rotate_left
 ·refine Qb ?_ ?_<;>intro h6
  ·subst h6;rw[aa aw]at hx;have H4:∀ {m:List AV},bV 74 (.cells m)→∀ {S:NS} {T:WT},T.wf→HL ([(73,.cells m),(72,.cells [.int .i64 p1,.int .i64 p2,.int .i64 p3,.int .i64 p4,.int .i64 p5,.int .i64 p6,.int .i64 p7,.int .i64 p8,.int .i64 p9,.int .i64 db,.int .i64 dc,.str pb]),(71,.cells [.int .i64 0,.str [],.bool false,.str []]),(70,.cells [.int .i64 ak,.int .i64 an,.int .i64 ad,.str f])]++Qo S T) 74:=fun hm _ _ hT=>(((Qn hT).more (by simp[bV,ah,Qe])).more (by simp[bV,ah,Qe])).more (by simp[bV,ah,Qe]) |>.more hm
   refine Qd (An @aZ @k5) ?_;refine np (p:=[67]) (s':=⟨[(0,.ptr 67 0),(3,.ptr 70 0),(4,.ptr 71 0),(5,.ptr 72 0),(7,.int .i64 (p2-Z2-1)),(8,.ptr 73 0),(10,.int .i64 0),(11,.nils),(78,.agg [.int .i64 p1,.int .i64 p2,.int .i64 p3,.int .i64 p4,.int .i64 p5,.int .i64 p6,.int .i64 p7,.int .i64 p8,.int .i64 p9,.int .i64 db,.int .i64 dc,.str pb])],[(73,.cells [.int .i64 m1,.int .i64 m2,.int .i64 m3,.int .i64 m4,.int .i64 m5]),(72,.cells [.int .i64 p1,.int .i64 p2,.int .i64 p3,.int .i64 p4,.int .i64 p5,.int .i64 p6,.int .i64 p7,.int .i64 p8,.int .i64 p9,.int .i64 db,.int .i64 dc,.str pb]),(71,.cells [.int .i64 0,.str [],.bool false,.str []]),(70,.cells [.int .i64 ak,.int .i64 an,.int .i64 ad,.str f])]++Qo S T,74⟩) bf ?_ ?_
   ·refine To.A8 (ex:=[(73,_),(73,_),(72,_),(72,_),(71,_),(70,_)]) (Qn hT) (H4 (by simp[bV,ah,Qe]) hT) aJ aw aw aw (fun b h1 h2=>?_) ?_
    ·rcases (by omega:b=70\/b=71\/b=72\/b=73) with rfl|rfl|rfl|rfl<;>rfl
    ·simp[Qr,Qe,ah,look,aA,ay,k0,k3,k4,k5,k7,k8,jC]
   have hB:=Xmj c.gl ⟨p1,p2,p3,p4,p5,p6,p7,p8,p9,db,dc,pb⟩;unfold Pk.enc at hB;dsimp only at hB;refine Xd hB ?_;refine Qb ?_ ?_<;>intro h7
   ·rw[am h7]at hx;obtain ⟨rfl,rfl⟩:=Prod.mk.inj hx;obtain rfl:=hN rfl;unfold bJ Rp.enc at *
    refine Qd @aZ ?_;refine hR _ ?_;refine Qa ?_;exact ⟨(),To.drop (ex:=[(71,_),(73,_),(72,_),(71,_),(70,_)]) (Qn hT) aw aw (by simp[Qr,Qe,ah,look,aA,ay])⟩
   rw[aa (by rw[h7];simp)]at hx;refine Qd (An @aZ (An @cG (An @aW @lR))) ?_;refine Qb ?_ ?_<;>intro h8
   ·rw[am af]at hx;obtain ⟨rfl,rfl⟩:=Prod.mk.inj hx;obtain rfl:=hN rfl;have iC:=Qqk c.gl S T' hS.toNJ hT f hf 6;generalize S.refuse f 6=rr at *
    obtain ⟨⟨r1,r2,r3,r4⟩,S1⟩:=rr;unfold Rp.enc at *
    dsimp only at *
    refine Qa ?_;refine tg (v:=false) (ex:=[(73,_),(72,_),(71,_),(70,_)]) iC (Qn hT) (Qn hT) (by simp[Qe,ah]) aJ aw rfl ?_ ?_
    ·exact Qi @Yt
    refine Qa ?_;refine hR _ ?_;refine Qa ?_;exact ⟨(),To.drop (ex:=(71,_)::[(73,_),(72,_),(71,_),(70,_)]) (Qn hT) aw aw (by simp[Qr,Qe,ah,look,aA,ay])⟩
   rw[aa af]at hx;have hO:=Xus c.gl S.tb hS.ok p1 (p2-Z2-1) p3 ad;have nI:(S.tb.ca p1 (p2-Z2-1) p3 ad).1.wf:=by
    obtain ⟨S0,oJ⟩:∃ S0:Nat,p2-Z2-1=S0:=⟨(p2-Z2-1).toNat,by omega⟩
    rw[oJ];exact (opened hS.gt hS.wf (R7 (p:=⟨p1,p2,p3,p4,p5,p6,p7,p8,p9,db,dc,pb⟩) sx af af oL.2.2.2.2.1.1 oL.2.2.2.2.1.2) ad).wf hS.wf
   have Df:S.opened f (S.tb.ca p1 (p2-Z2-1) p3 ad)=(({ S with tb:=(S.tb.ca p1 (p2-Z2-1) p3 ad).1 }:NS).begin ⟨(S.tb.ca p1 (p2-Z2-1) p3 ad).2.1,p4,p5,Wc p1,0,0⟩).eZ f (S.tb.ca p1 (p2-Z2-1) p3 ad).2.1 (if (S.tb.ca p1 (p2-Z2-1) p3 ad).2.2.1 then [({ S with tb:=(S.tb.ca p1 (p2-Z2-1) p3 ad).1 }:NS).ev (S.tb.ca p1 (p2-Z2-1) p3 ad).2.1 false] else []):=by
    unfold NS.opened;rw[hp]
   generalize S.tb.ca p1 (p2-Z2-1) p3 ad=oo at *
   obtain ⟨tb,⟨x0,x1,x2,x3,x4⟩,tk,oe⟩:=oo;unfold Ww Xr Mp.enc at hO;dsimp only at hO hx hY nI Df;have aD:=Tb.au nI;have Oa:=Tb.cg tb;have qP:tb.enc.take 30=tb.enc:=List.take_of_length_le (by rw[aD];decide);refine Qd (An @aZ (An @cG (An @aW @ec))) ?_;refine Qk hO (An @aZ @aD) ?_;refine Qd (An @aZ @aD) ?_;refine Qb ?_ ?_<;>intro h9
   ·rw[am h9]at hx;obtain ⟨rfl,rfl⟩:=Prod.mk.inj hx;obtain rfl:=hN rfl;have iC:=Qqk c.gl S T' hS.toNJ hT f hf oe;generalize S.refuse f oe=rr at *
    obtain ⟨⟨r1,r2,r3,r4⟩,S1⟩:=rr;unfold Rp.enc at *
    dsimp only at *
    refine Qa ?_;refine tg (v:=false) (ex:=[(75,_),(74,_),(75,_),(74,_),(73,_),(72,_),(71,_),(70,_)]) iC (Qn hT) (Qn hT) (by simp[Qe,ah]) aJ aw rfl ?_ ?_
    ·exact Qi @Yt
    refine Qa ?_;refine hR _ ?_;refine Qa ?_;exact ⟨(),To.drop (ex:=(71,_)::[(75,_),(74,_),(75,_),(74,_),(73,_),(72,_),(71,_),(70,_)]) (Qn hT) aw aw (by simp[Qr,Qe,ah,look,aA,ay])⟩
   obtain rfl:=h9;rw[aa aw,Df]at hx;obtain ⟨tQ,Dg⟩:=Prod.mk.inj hx;clear hx;have hs:=hY _ _ _ Dg.symm;obtain ⟨hxm,en⟩:=hs.beg Sm;have dW:=NS.GJ hS.wf nI;have pV:NB ({ S with tb:=tb }:NS):=hS.toNJ.nb.pN nI;have GK:=Xv2 c.gl p1 [.int .i64 p2,.int .i64 p3,.int .i64 p4,.int .i64 p5,.int .i64 p6,.int .i64 p7,.int .i64 p8,.int .i64 p9,.int .i64 db,.int .i64 dc,.str pb];generalize NS.begin _ _=S1 at *
   unfold Wc Fl.enc Zi at en;dsimp only at en;generalize (if p1=6 then (1:Int) else 2)=fi at *
   refine Qd (An @cG (An @aW (An @aD (An @qP @dW)))) ?_;refine Qb ?_ ?_<;>intro fI
   ·subst fI;refine Qa ?_;have jo:=Qto c.gl { S with tb:=tb } T D pV hW ⟨x0,x1,x2,x3,x4⟩ hxm false;unfold Mp.enc at jo;dsimp only at jo;refine Sg (LR (A:=[(73,_)]) (B:=[(75,_),(74,_),(75,_),(74,_),(73,_),(72,_),(71,_),(70,_)]) (S:=S) (S':={ S with tb:=tb }) (T:=T) rfl aw aw) ?_;refine tg (v:=false) (ex:=(73,_)::[(75,_),(74,_),(75,_),(74,_),(73,_),(72,_),(71,_),(70,_)]) jo (Qn hT) (Qn hT) (by simp[Qe,Wv]) aJ aw rfl ?_ ?_
    ·exact Qi @Yt
    refine Qa ?_;refine Xd GK ?_;refine Qa ?_;refine Gw (v:=false) (ex:=(73,_)::[(75,_),(74,_),(75,_),(74,_),(73,_),(72,_),(71,_),(70,_)]) en (Qn hT) (Qn cQ) (by simp[Qe,ah]) aJ aw aw rfl ?_ ?_
    ·exact Qi @Yt
    unfold Jr;refine Qa ?_;exact hQ ⟨_,(73,_)::[(75,_),(74,_),(75,_),(74,_),(73,_),(72,_),(71,_),(70,_)],_,_,_,_,S1⟩ ⟨Dg.symm,tQ.symm,rfl,rfl,rfl,rfl,rfl,Wk.refl _,by simp,Nat.le_of_ble_eq_true rfl,fun _=>rfl,fun _=>rfl,fun _=>rfl,fun _=>rfl⟩
   ·subst fI;refine Qa ?_;refine Xd GK ?_;refine Qa ?_;refine Xmo (LR (A:=[(73,_)]) (B:=[(75,_),(74,_),(75,_),(74,_),(73,_),(72,_),(71,_),(70,_)]) (S:=S) (S':={ S with tb:=tb }) (T:=T) rfl aw aw) ?_;refine Gw (v:=false) (ex:=(73,_)::[(75,_),(74,_),(75,_),(74,_),(73,_),(72,_),(71,_),(70,_)]) en (Qn hT) (Qn cQ) (by simp[Qe,ah]) aJ aw aw rfl ?_ ?_
    ·exact Qi @Yt
    unfold Jr;refine Qa ?_;exact hQ ⟨_,(73,_)::[(75,_),(74,_),(75,_),(74,_),(73,_),(72,_),(71,_),(70,_)],_,_,_,_,S1⟩ ⟨Dg.symm,tQ.symm,rfl,rfl,rfl,rfl,rfl,Wk.nils,by simp,Nat.le_of_ble_eq_true rfl,fun _=>rfl,fun _=>rfl,fun _=>rfl,fun _=>rfl⟩
  ·rw[am h6]at hx;have Sn:th=true:=by
    cases wx:th with
    | true=>rfl
    | false=>exact absurd (htn wx) h6
   obtain ⟨zF,iP⟩:=hth Sn;rw[zF]at hx;obtain ⟨tQ,Dg⟩:=Prod.mk.inj hx;clear hx;have hs:=hY _ _ _ Dg.symm;have en:=hs.goes (by rw[Sm];exact h6);rw[Sm]at en;generalize NS.goes S _ _ _=S1 at *
   unfold Pk.enc at en;dsimp only at en;refine Qd (An @k0 (An @k5 @jC)) ?_;refine Xmp (v:=false) (ex:=[(73,_),(73,_),(72,_),(72,_),(71,_),(70,_)]) en (Qn hT) (Qn cQ) (by simp[Qe,ah]) af aw (by simp;omega) rfl ?_ ?_
   ·exact Qi @Yt
   unfold Jr;refine Qa ?_;exact hQ ⟨_,[(73,_),(73,_),(72,_),(72,_),(71,_),(70,_)],_,_,_,_,S1⟩ ⟨Dg.symm,tQ.symm,k0,k3,k4,k5,k8,Wk.nils,by simp;omega,hn,fun _=>rfl,fun _=>rfl,fun _=>rfl,fun _=>rfl⟩
 obtain ⟨t,ex,N,n,m,es,S1⟩:=i;obtain ⟨hy,wx,k0,k3,k4,k5,k8,wv,hex,hN4,LU,Sk,Sl,LV⟩:=hi;unfold OW.h at *
 have hs:=hY _ _ _ hy;rw[Sj,hp]at wx;have lj:=Xdu c.gl h0 S1 T1 hs.nj cQ hs.told es hs.len hs.bO;obtain ⟨Sp,Sq⟩:=hs.a;have aK:=hs.aF;have hou:=hs.out;obtain ⟨z1,z2,z3,z4,z5⟩:=m;dsimp only at wx aK hou Sp Sq k0 k3 k4 k5 k8 wv hex hN4 LU Sk Sl LV ⊢;obtain ⟨E,hE⟩:∃ E,Xk es=E:=⟨_,rfl⟩
 have tv:∀ n,ah n E:=fun n=>by rw[<- hE];exact Wv n _
 have LY:∀ ρ,ay ρ E=E:=fun ρ=>by rw[<- hE,Zd];exact (List.map_congr_left fun v hv=>td (Xh.1 (Wv 0 es) v hv)).trans (List.map_id _)
 rw[hE]at lj wv;obtain ⟨tE,GI⟩:=Xer f 0 (Z3+z4) z5;have yf:=ZC c.gl f 0 (Z3+z4) z5 hf;rw[GI]at yf;clear GI;rw[LW]at aK wx;generalize Wr f 0 (Z3+z4) z5=tf at *
 generalize S1.log es=S2 at *
 generalize nE S1.told es=L at *
 generalize es.length=le at *
 have HB:∀ {S:NS} {T:WT},T.wf->HL ([(73,.cells [.int .i64 z1,.int .i64 z2,.int .i64 z3,.int .i64 z4,.int .i64 z5]),(72,.cells [.int .i64 p1,.int .i64 p2,.int .i64 p3,.int .i64 p4,.int .i64 p5,.int .i64 p6,.int .i64 p7,.int .i64 p8,.int .i64 p9,.int .i64 db,.int .i64 dc,.str pb]),(71,.cells [.int .i64 0,.str [],.bool false,.str []]),(70,.cells [.int .i64 ak,.int .i64 an,.int .i64 ad,.str f])]++Qo S T) 74:=fun hT=>(((Qn hT).more (by simp[bV,ah,Qe])).more (by simp[bV,ah,Qe])).more (by simp[bV,ah,Qe]) |>.more (by simp[bV,ah,Qe])
 refine Qd (An @k3 (An @LU (An @k8 @LV))) ?_;refine np bf (To.XJ 11 (y:=.isl le E) wv) ?_;refine np (p:=[67]) (s':=⟨[(0,.ptr 67 0),(3,.ptr 70 0),(4,.ptr 71 0),(5,.ptr 72 0),(8,.ptr 73 0),(11,.isl le E),(141,.str f),(144,.int .i64 (Z3+z4)),(146,.int .i64 z5)],[(73,.cells [.int .i64 z1,.int .i64 z2,.int .i64 z3,.int .i64 z4,.int .i64 z5]),(72,.cells [.int .i64 p1,.int .i64 p2,.int .i64 p3,.int .i64 p4,.int .i64 p5,.int .i64 p6,.int .i64 p7,.int .i64 p8,.int .i64 p9,.int .i64 db,.int .i64 dc,.str pb]),(71,.cells [.int .i64 0,.str [],.bool false,.str []]),(70,.cells [.int .i64 ak,.int .i64 an,.int .i64 ad,.str f])]++Qo S1 T1,74⟩) bf ?_ ?_
 ·refine To.oK (ex:=ex) cQ (HB cQ) aJ hN4 aw hex aw (fun b h1 h2=>?_) ?_
  ·rcases (by omega:b=70∨b=71∨b=72∨b=73) with rfl|rfl|rfl|rfl
   ·rw[LU];rfl
   ·rw[Sk];rfl
   ·rw[Sl];rfl
   ·rw[LV];rfl
  ·simp[Qr,Qe,ah,look,aA,ay,A9,lw,LS,tv,LY,k0,k3,k4,k5,k8]
 refine Xd yf ?_;refine Qa ?_;refine Yag (v:=false) (pp:=[67]) (ex:=[(73,_),(72,_),(71,_),(70,_)]) (s3:=⟨[(0,.ptr 67 0),(4,.ptr 71 0),(5,.ptr 72 0),(16,.str tf),(150,.str tf),(153,.str L)],[(73,.cells [.int .i64 z1,.int .i64 z2,.int .i64 z3,.int .i64 z4,.int .i64 z5]),(72,.cells [.int .i64 p1,.int .i64 p2,.int .i64 p3,.int .i64 p4,.int .i64 p5,.int .i64 p6,.int .i64 p7,.int .i64 p8,.int .i64 p9,.int .i64 db,.int .i64 dc,.str pb]),(71,.cells [.int .i64 0,.str [],.bool false,.str []]),(70,.cells [.int .i64 ak,.int .i64 an,.int .i64 ad,.str f])]++Qo S2 T1,74⟩) bf lj (Qn cQ) (Qn cQ) (by simp[Qe]) aJ aw rfl ?_ ?_ ?_
 ·exact Qi (An @Yt @tv)
 ·refine To.A8 (ex:=[(73,_),(72,_),(71,_),(70,_)]) (Qn cQ) (HB cQ) aJ aw aw aw (fun b h1 h2=>?_) ?_
  ·rcases (by omega:b=70\/b=71\/b=72\/b=73) with rfl|rfl|rfl|rfl<;>rfl
  ·simp[Qr,Qe,ah,look,aA,ay]
 have GL:=fun n b hb=>Kc (S:=S2) cQ n b hb;refine Qd @GL ?_;refine Qb ?_ ?_<;>intro iD
 ·rw[am af]at wx;subst wx;have aK:=aK af;generalize NS.aF S2 tf=w at *
  obtain ⟨⟨r1,r2,r3,r4⟩,S3⟩:=w;unfold Rp.enc at aK;dsimp only at aK ⊢;refine Qa ?_;refine ti (v:=false) (pp:=[67]) (ex:=(74,_)::(74,_)::[(73,_),(72,_),(71,_),(70,_)]) (s3:=⟨[(4,.ptr 71 0),(18,.ptr 74 0),(167,.agg [.int .i64 r1,.str r2,.bool r3,.str r4])],(74,.cells [.int .i64 0,.str tf,.bool false,.str L])::[(73,.cells [.int .i64 z1,.int .i64 z2,.int .i64 z3,.int .i64 z4,.int .i64 z5]),(72,.cells [.int .i64 p1,.int .i64 p2,.int .i64 p3,.int .i64 p4,.int .i64 p5,.int .i64 p6,.int .i64 p7,.int .i64 p8,.int .i64 p9,.int .i64 db,.int .i64 dc,.str pb]),(71,.cells [.int .i64 0,.str [],.bool false,.str []]),(70,.cells [.int .i64 ak,.int .i64 an,.int .i64 ad,.str f])]++Qo S3 T',75⟩) bf aK (Qn cQ) (Qn fv) (by simp[Qe,ah]) aJ aw aw rfl ?_ ?_ ?_
  ·exact Qi @Yt
  ·unfold Jr;refine To.oK fv ((HB fv).more (by simp[bV,ah,Qe])) aJ aJ aw aw aw (fun b h1 h2=>?_) ?_
   ·rcases (by omega:b=70\/b=71\/b=72\/b=73\/b=74) with rfl|rfl|rfl|rfl|rfl<;>rfl
   ·simp[Qr,Qe,ah,look,aA,ay,A9,lw,LS]
  have Lu:=fun n b hb=>Kc (S:=S3) fv n b hb;refine Qd @Lu ?_;unfold Rp.enc;exact ⟨(),To.drop (ex:=[(71,_),(74,_),(74,_),(74,_),(75,_),(75,_),(74,_),(73,_),(72,_),(71,_),(70,_)]) (Qn fv) aw aw (by simp[Qr,Qe,ah,look,aA,ay])⟩
 ·rw[aa af]at wx;subst wx;obtain rfl:=hou af;refine Qa ?_;unfold Rp.enc;exact ⟨(),To.drop (ex:=[(71,_),(74,_),(74,_),(73,_),(72,_),(71,_),(70,_)]) (Qn cQ) aw aw (by simp[Qr,Qe,ah,look,aA,ay])⟩
def Qtt (t x:Int):GS Tryz.prog gl 100 [.int .i64 t,.ptr 0 0] [(0,.cells [.int .i64 x])] 1 (.bool (t==x)) [(0,.cells [.int .i64 x])] 1:=by
 refine Xrw.gs (ap rfl) (by simp[Bk.live]) fun c hN hg=>?_
 conv in aG _ _=>cbv
 refine Qa ?_;refine ⟨[],?_⟩;exact Qp
def rE (x:Int):List Int->Nat->Int
 | [],_=>-1
 | t::l,k=>if t=x then k else rE x l (k+1)
def Ya3 (l:List Int)(hl:l.length<=1000000)(x:Int):GS Tryz.prog gl 136 [.sl 1 0 0 l.length l.length,.cl 100 [.ptr 1 0]]
  [(0,.cells (Ql l)),(1,.cells [.int .i64 x])] 2 (.int .i64 (rE x l 0)) [(0,.cells (Ql l)),(1,.cells [.int .i64 x])] 2:=by
 refine LG.gs (ap rfl) (by simp[Bk.live]) fun c hN hg=>?_
 conv in aG _ _=>cbv
 have dN:=Xw l;refine Qa ?_
 refine wT (fun k:Nat=>k≤l.length∧rE x (l.drop k) k=rE x l 0) (fun k=>⟨[(0,.sl 1 0 0 l.length l.length),(1,.cl 100 [.ptr 1 0]),(6,.sl 1 0 0 l.length l.length),(7,.int .i64 l.length),(8,.int .i64 k)],[(0,.cells (Ql l)),(1,.cells [.int .i64 x])],2⟩) (fun k=>l.length - k) LG.mixed 2 hN
  ⟨0,⟨by omega,rfl⟩,[],by exact Qp⟩ fun k hk=>?_
 obtain ⟨hk,cO⟩:=hk;refine Qa ?_;refine Qb ?_ ?_<;>intro h1
 ·have bh:k < l.length:=by omega
  have nG:=C6 l k bh;have ja:l.drop k=l[k]::l.drop (k+1):=List.drop_eq_getElem_cons bh;rw[ja]at cO;rw[rE]at cO;generalize l[k]=t at *
  have hc:=Qtt c.gl t x;refine Qd (An @dN @nG) ?_;refine Zv (ip [1]) hc (An @dN @nG) ?_;refine Qb ?_ ?_<;>intro h2
  ·rw[am (by simpa using h2)]at cO;refine Qa ?_;refine ⟨[],?_⟩;exact Qi @cO
  ·rw[aa (by simpa using h2)]at cO;refine Qa ?_;refine ⟨k+1,⟨by omega,cO⟩,⟨[],?_⟩,by omega⟩;exact Qp
 ·have:k=l.length:=by omega
  subst this;rw[List.drop_length]at cO;have cO:(-1:Int)=rE x l 0:=cO;refine Qa ?_;refine ⟨[],?_⟩;exact Qi @cO
def Xa8 {x:Int}:∀ (l:List Int) (k:Nat),rE x l k=-1->∀ t ∈ l,t≠x
 | [],_,_,t,ht=>by cases ht
 | a::l,k,h,t,ht=>by
  unfold rE at h;split at h
  ·omega
  ·rcases mem_cons.1 ht with rfl|ht
   ·assumption
   ·exact Xa8 l (k+1) h t ht
def Qzv {x:Int}:∀ (l:List Int) (k:Nat),rE x l k≠-1->∃ i,i<l.length/\rE x l k=((k+i:Nat):Int)/\(∀ t ∈ l.take i,t≠x)/\∃ t,l[i]?=some t/\t=x
 | [],_,h=>absurd rfl h
 | a::l,k,h=>by
  unfold rE at h ⊢;split at h
  ·rename_i e;rw[am e];exact ⟨0,by simp,by simp,by simp,a,rfl,e⟩
  ·rename_i e;rw[aa e];obtain ⟨i,h1,h2,h3,t,h4,h5⟩:=Qzv l (k + 1) h;refine ⟨i + 1,by simpa using h1,by rw[h2];omega,fun y hy=>?_,t,by simpa using h4,h5⟩;rw[List.take_succ_cons]at hy;rcases mem_cons.1 hy with rfl|hy
   ·exact e
   ·exact h3 y hy
def Xwv:Ce Tryz.prog 52 1:=Oe (by kernel_rfl)
def eD (x:Int)(l:List Int):List Int:=l.filter fun t=>!(t==x)
def Xfj (l:List Int)(k:Nat)(h:k<=l.length):(Ql l).take k=Ql (l.take k):=by simp[Ql]
def Ybi (l:List Int)(hl:l.length<=1000000)(x:Int):GS Tryz.prog gl 99 [.sl 1 0 0 l.length l.length,.cl 100 [.ptr 1 0]]
  [(0,.cells (Ql l)),(1,.cells [.int .i64 x])] 2 (.sl 1 0 0 (eD x l).length l.length) [(0,.cells (Ql (eD x l))),(1,.cells [.int .i64 x])] 2:=by
 refine Xf7.gs (ap rfl) (by simp[Bk.live]) fun c hN hg=>?_
 conv in aG _ _=>cbv
 have dN:=Xw l;have hi:=Ya3 c.gl l hl x;refine Qa ?_
 ((first|refine Kk (ins:=[0,1]) hi ?_ ?_|refine Jc (ins:=[0,1]) hi ?_ ?_|refine Jb (ins:=[0,1]) hi ?_ ?_|refine Zc (ins:=[0,1]) hi ?_ ?_)<;>(have aQ:=@dN;refine XG ?_;clear aQ;(try first|exact rfl|exact True.intro);((try with_reducible and_intros);all_goals try first|refine zm ?_|exact CL)))
 ·decide
 by_cases br:rE x l 0=-1
 ·have ft:eD x l=l:=filter_eq_self.2 fun t ht=>by simpa using Xa8 l 0 br t ht
  rw[ft];refine Qb ?_ ?_<;>intro h1
  ·refine Qa ?_;refine ⟨[],?_⟩;exact Qp
  ·exact absurd br (by simpa using h1)
 ·obtain ⟨i0,q1,q2,q3,t0,q4,q5⟩:=Qzv l 0 br;rw[Nat.zero_add]at q2;rw[q2];refine Qb ?_ ?_<;>intro h1
  ·omega
  refine Qa ?_
  refine wT (fun y:Nat × Nat × List Int=>y.1 < y.2.1∧y.2.1≤l.length∧y.2.2.length=l.length∧y.2.2.take y.1=eD x (l.take y.2.1)∧y.2.2.drop y.2.1=l.drop y.2.1)
   (fun y=>⟨[(0,.sl 1 0 0 l.length l.length),(1,.cl 100 [.ptr 1 0]),(5,.int .i64 y.1),(6,.int .i64 y.2.1)],[(0,.cells (Ql y.2.2)),(1,.cells [.int .i64 x])],2⟩) (fun y=>l.length-y.2.1) Xf7.mixed 2 hN
   ⟨(i0,i0+1,l),⟨by simp,by show i0+1<=l.length;omega,rfl,?_,rfl⟩,[],by exact Qp⟩ fun y hy=>?_
  ·have:l.take (i0 + 1)=l.take i0++[t0]:=by rw[take_succ,q4];rfl
   show l.take i0=eD x (l.take (i0+1));rw[this];unfold eD;rw[List.filter_append,filter_eq_self.2 fun t ht=>by simpa using q3 t ht];simp[q5]
  obtain ⟨i,j,M⟩:=y;obtain ⟨fX,ij,hM,bX,oF⟩:=hy;dsimp only at fX ij hM bX oF ⊢;have vV:=Xw M;refine Qa ?_;refine Qb ?_ ?_<;>intro h2
  ·have oc:j < l.length:=by omega
   have F5:j<M.length:=by omega
   have aL:=C6 M j F5;have Rn:M[j]=l[j]:=by
    have e1:(M.drop j)[0]?=M[j]?:=by simp
    have e2:(l.drop j)[0]?=l[j]?:=by simp
    rw[oF,e2]at e1;simpa [oc,F5] using e1.symm
   have ec:eD x (l.take (j+1))=if M[j]=x then eD x (l.take j) else eD x (l.take j)++[M[j]]:=by
    have:l.take (j+1)=l.take j++[M[j]]:=by rw[take_succ,Rn];simp[oc]
    rw[this];unfold eD;rw[List.filter_append];split<;>simp_all
   have ja:M.drop (j+1)=l.drop (j+1):=by
    have:=congrArg (List.drop 1) oF;simpa [List.drop_drop,Nat.add_comm] using this
   have bA:(Ql M).set i (.int .i64 M[j])=Ql (M.set i M[j]):=by simp[Ql,List.map_set]
   have fx:((M.set i M[j]).take (i+1))=M.take i++[M[j]]:=by
    rw[take_succ,List.take_set_of_le (Nat.le_refl i)];simp[show i<M.length by omega]
   have AA:(M.set i M[j]).drop (j+1)=M.drop (j+1):=by rw[List.drop_set_of_lt af]
   have iW:(M.set i M[j]).length=l.length:=by simp[hM]
   have htS:=Xw (M.set i M[j]);generalize M[j]=t at *
   have hc:=Qtt c.gl t x;refine Qd (An @vV @aL) ?_;refine Zv (ip [1]) hc (An @vV @aL) ?_;refine Qb ?_ ?_<;>intro h3
   ·rw[aa h3]at ec;refine Qd (An @vV @bA) ?_;refine ⟨(i+1,j+1,M.set i t),⟨by dsimp only;omega,by dsimp only;omega,iW,by rw[fx,bX,ec],by rw[AA,ja]⟩,⟨[],?_⟩,by dsimp only;omega⟩;exact Qp
   ·rw[am (by simpa using h3)]at ec;refine Qd @vV ?_;refine ⟨(i,j+1,M),⟨by dsimp only;omega,by dsimp only;omega,hM,by rw[bX,ec],ja⟩,⟨[],?_⟩,by dsimp only;omega⟩;exact Qp
  ·obtain rfl:j=l.length:=by omega
   rw[List.take_length]at bX;have fA:(eD x l).length=i:=by rw[<- bX,List.length_take];omega
   have jf:=Xfj M i af;rw[bX]at jf;refine Qa ?_
   (refine IS Xwv ?_;(have aQ:=@jf;refine XG ?_;clear aQ;((try with_reducible and_intros);all_goals try first|refine zm ?_|exact CL)))
   refine Qa ?_;refine ⟨[],?_⟩;exact Qi @fA
def Ygy (a b:UInt8)(t:List UInt8):a::b::t=fr [w2 (a::b::t) 0] t:=by
 have e:w2 (a::b::t) 0=(a.toNat:Int)*256+b.toNat:=by
  show iO [a,b]=_;rw[uH _ aw];simp only[oQ];omega
 have ha:=UInt8.toNat_lt a;have hb:=UInt8.toNat_lt b;rw[e];show a::b::t=Qx _ 1::Qx _ 0::t;rw[Br _ _ af,Br _ _ af];have e1:(((a.toNat:Int)*256+b.toNat)/256 ^ 1%256).toNat=a.toNat:=by omega
 have e2:(((a.toNat:Int)*256+b.toNat)/256 ^ 0%256).toNat=b.toNat:=by
  simp only[Int.pow_zero,Int.ediv_one];omega
 rw[e1,e2,UInt8.ofNat_toNat,UInt8.ofNat_toNat]
def LZ (i j:Nat):w2 (l.drop i) j=w2 l (i+j):=by
 unfold w2;rw[List.drop_drop]
def GN:∀ (n:Nat) (l:List UInt8),2*n<=l.length->l=fr ((List.range n).map fun i=>w2 l (2*i)) (l.drop (2*n))
 | 0,l,_=>rfl
 | n+1,l,h=>by
  match l,h with
  | [],h=>exact absurd h aw
  | [_],h=>exact absurd h (by simp;omega)
  | a::b::t,h =>
   have ih:=GN n t (by simp at h;omega);rw[List.range_succ_eq_map,List.map_cons,List.map_map];have e1:((fun i=>w2 (a::b::t) (2*i)) ∘ Nat.succ)=fun i=>w2 t (2*i):=by
    funext i;show w2 (a::b::t) (2*(i+1))=_;have:=LZ (a::b::t) 2 (2*i);rw[show 2*(i+1)=2+2*i by omega,<- this];rfl
   have e2:(a::b::t).drop (2*(n+1))=t.drop (2*n):=rfl;rw[e1,e2];have e3:=Ygy a b t;have e4:∀ w ws,fr (w::ws) (t.drop (2*n))=fr [w] (fr ws (t.drop (2*n))):=fun _ _=>rfl;rw[Nat.mul_zero,e4,<- ih];exact e3
def L0 (h:k+4<=l.length):w4 l k/65536=w2 l k/\w4 l k%65536=w2 l (k+2):=by
 obtain ⟨a,b,c,d,t,e⟩:∃ a b c d t,l.drop k=a::b::c::d::t:=by
  have hl:4<=(l.drop k).length:=by rw[length_drop];omega
  match l.drop k,hl with
  | a::b::c::d::t,_=>exact ⟨a,b,c,d,t,rfl⟩
 have e2:w2 l (k+2)=w2 (l.drop k) 2:=(LZ l k 2).symm;have e3:w2 l k=w2 (l.drop k) 0:=(LZ l k 0).symm;have e4:w4 l k=iO ((l.drop k).take 4):=rfl;rw[e2,e3,e4,e];have g1:w2 (a::b::c::d::t) 0=(a.toNat:Int)*256+b.toNat:=by
  show iO [a,b]=_;rw[uH _ aw];simp only[oQ];omega
 have g2:w2 (a::b::c::d::t) 2=(c.toNat:Int)*256+d.toNat:=by
  show iO [c,d]=_;rw[uH _ aw];simp only[oQ];omega
 have g3:iO ((a::b::c::d::t).take 4)=(a.toNat:Int)*16777216+b.toNat*65536+c.toNat*256+d.toNat:=by
  show iO [a,b,c,d]=_;rw[uH _ aw];simp only[oQ];omega
 rw[g1,g2,g3];have:=UInt8.toNat_lt a;have:=UInt8.toNat_lt b;have:=UInt8.toNat_lt c;have:=UInt8.toNat_lt d;omega
def L3 (h:k+2<=l.length):w2 l k=b1 l k*256+b1 l (k+1):=by
 obtain ⟨a,b,t,e⟩:∃ a b t,l.drop k=a::b::t:=by
  have hl:2<=(l.drop k).length:=by rw[length_drop];omega
  match l.drop k,hl with
  | a::b::t,_=>exact ⟨a,b,t,rfl⟩
 have e3:w2 l k=w2 (l.drop k) 0:=(LZ l k 0).symm;have g1:w2 (a::b::t) 0=(a.toNat:Int)*256+b.toNat:=by
  show iO [a,b]=_;rw[uH _ aw];simp only[oQ];omega
 have f1:b1 l k=a.toNat:=by
  have:l.getD k 0=(l.drop k).getD 0 0:=by simp[List.getD,List.getElem?_drop]
  unfold b1;rw[this,e];rfl
 have f2:b1 l (k+1)=b.toNat:=by
  have:l.getD (k+1) 0=(l.drop k).getD 1 0:=by simp[List.getD,List.getElem?_drop]
  unfold b1;rw[this,e];rfl
 rw[e3,e,g1,f1,f2]
def Sr (c c' m n:Int)(hc:0<=c/\c<=65535)(Bx:0<=c'/\c'<=65535)(hm:0<=m/\m<=65535)(hn:0<=n/\n<=65535)(h:(c-c')%65535=0)(zf:m≠65535\/n≠0):Qs c m n=Qs c' m n:=by
 rw[EU c m n hc hm hn,EU c' m n Bx hm hn];exact JH _ _ af af af
def Xmw {l:List UInt8}(h:dD l=65535):0<Yd l/\Yd l%65535=0:=by
 unfold dD Kl at h;split at h
 ·cases h
 ·omega
structure G8n (f:List UInt8):Prop where
 p:H6 f
 g7:¬ G7 f
 g8:¬ G8 f
 g9:¬ G9 f
 g10:¬ nu f
 e:Zh (aB f)=0
def Dh {f:List UInt8}(h:cD f=0):G8n f:=by
 obtain ⟨k6,he⟩:=Pc h;have h7:¬ G7 f:=fun h7=>by rw[vB k6 h7]at h;cases h
 have h8:¬ G8 f:=fun h8=>by rw[Cv k6 h7 h8]at h;cases h
 have h9:¬ G9 f:=fun h9=>by rw[JS k6 h7 h8 h9]at h;cases h
 have fI:¬ nu f:=fun fI=>by rw[Cw k6 h7 h8 h9 fI]at h;cases h
 exact ⟨k6,h7,h8,h9,fI,he⟩
theorem Xsz:((List.range 4).map fun i=>w2 l (2*i))=[w2 l 0,w2 l 2,w2 l 4,w2 l 6]:=rfl
theorem Xe9:((List.range 10).map fun i=>w2 l (2*i))=[w2 l 0,w2 l 2,w2 l 4,w2 l 6,w2 l 8,w2 l 10,w2 l 12,w2 l 14,w2 l 16,w2 l 18]:=rfl
def Yj4 (p:Pk)(k:Int)(hk:0<=k/\k<=65535):Qv (jz p k)=k+Qv (jz p 0):=by
 unfold jz
 (repeat' split)<;>simp only[Qv]<;>omega
def Yh4 {s:List UInt8}{k:Int}(hs:s=fr (jz p k) p.body)(hk:0<=k/\k<=65535)(hn:Xm p=s.length)(o:dD (Xl p.ae p.aE p.dst s.length++s)=65535):mD k (kc p):=by
 obtain ⟨p1,p2⟩:=Xmw o;have e:=xo s (sr p s.length);rw[<- X8]at e;have e2:=xo p.body (jz p k);rw[<- hs,Yj4 p k hk]at e2;unfold kc;rw[hn];exact ⟨hk.1,hk.2,by omega⟩
def Yao {f:List UInt8}(h:cD f=0):∃ c k:Int,f=fr (gY (aB f) (Xm (aB f)) c++jz (aB f) k) (aB f).body/\mD c (Qv (gY (aB f) (Xm (aB f)) 0))/\mD k (kc (aB f))/\((aB f).ae=17->k≠0):=by
 obtain ⟨⟨⟨g1,g2,g3,g4⟩,g5,g6⟩,g7,g8,g9,g10,he⟩:=Dh h;obtain ⟨oD,hl2⟩:=E1 h;obtain ⟨o1,o2⟩:=Yfu h;unfold G1 at g1;unfold G3 at g3;unfold G7 at g7;have a0:b1 f 0=69:=by omega
 have a1:w2 f 2=f.length:=by omega
 have a2:b1 f 1=0:=by omega
 have a3:w2 f 6=0:=by omega
 have Gt:=L3 f 0 af;have hw8:=L3 f 8 af;obtain ⟨q1,q2⟩:=L0 f 12 af;obtain ⟨q3,q4⟩:=L0 f 16 af;have aL:=GN 10 f af;rw[Xe9]at aL;have hN:=Wf (aB f) (We he).1;have c0:=Cy f 10 af;have yg:∀ n:Nat,(n:Int)+20=f.length->gY (aB f) n (w2 f 10)=[w2 f 0,w2 f 2,w2 f 4,w2 f 6,w2 f 8,w2 f 10,w2 f 12,w2 f 14,w2 f 16,w2 f 18]:=fun n hn=>by
  have e1:(aB f).id=w2 f 4:=by unfold aB kT;dsimp only;(repeat' split)<;>rfl
  have e2:(aB f).aN=b1 f 8:=by unfold aB kT;dsimp only;(repeat' split)<;>rfl
  have e3:(aB f).aE=w4 f 12:=by unfold aB kT;dsimp only;(repeat' split)<;>rfl
  have e4:(aB f).dst=w4 f 16:=by unfold aB kT;dsimp only;(repeat' split)<;>rfl
  unfold gY;rw[e1,e2,e3,e4,CD,q1,q2,q3,q4,a3,a1,Gt,hw8,a0,a2];congr 2;omega
 have GR:∀ n:Nat,(n:Int)+20=f.length->mD (w2 f 10) (Qv (gY (aB f) n 0)):=fun n hn=>by
  have e1:(Qv (gY (aB f) n (w2 f 10)):Int)=w2 f 10+Qv (gY (aB f) n 0):=by
   unfold gY;simp only[Qv];omega
  have e2:f.take 20=fr (gY (aB f) n (w2 f 10)) []:=by
   rw[yg n hn]
   conv=>lhs;rw[aL]
   rfl
  have e3:=xo [] (gY (aB f) n (w2 f 10));rw[<- e2]at e3;obtain ⟨p1,p2⟩:=Xmw o1;have:Yd []=0:=rfl;refine ⟨c0.1,c0.2,?_⟩;omega
 have vK:(f.drop 20).length=f.length-20:=length_drop;have fin:∀ k:Int,0<=k/\k<=65535->f.drop 20=fr (jz (aB f) k) (aB f).body->Xm (aB f)=(f.drop 20).length->((aB f).ae=17->k≠0)->∃ c k:Int,f=fr (gY (aB f) (Xm (aB f)) c++jz (aB f) k) (aB f).body/\mD c (Qv (gY (aB f) (Xm (aB f)) 0))/\mD k (kc (aB f))/\((aB f).ae=17->k≠0):=fun k hk hs hn L4=>by
  have uC:((Xm (aB f):Nat):Int)+20=f.length:=by rw[hn,vK];omega
  refine ⟨w2 f 10,k,?_,GR _ uC,Yh4 hs hk hn ?_,L4⟩
  ·rw[yg _ uC,<- zS,<- hs];exact aL
  ·have e3:(aB f).aE=w4 f 12:=by unfold aB kT;dsimp only;(repeat' split)<;>rfl
   have e4:(aB f).dst=w4 f 16:=by unfold aB kT;dsimp only;(repeat' split)<;>rfl
   rw[CD,e3,e4];exact o2
 unfold G8 at g8;unfold G9 at g9;unfold nu at g10;unfold G6 at g6;rcases (We he).1 with h1|h1|h1
 ·rw[h1]at hN;have Bb:b1 f 9=1:=by rw[← CD];exact h1
  have iW:8<=(f.drop 20).length:=by rw[Bb]at g6;simpa using g6
  have yh:=GN 4 (f.drop 20) af;rw[Xsz]at yh;have hw:w2 (f.drop 20) 0=b1 (f.drop 20) 0*256+b1 (f.drop 20) 1:=L3 (f.drop 20) 0 af;have b2:=Cy (f.drop 20) 2 af;have hK:(aB f).body=(f.drop 20).drop 8/\(aB f).flags=b1 (f.drop 20) 0/\(aB f).seq=w2 (f.drop 20) 6/\(aB f).aj+(aB f).av=w2 (f.drop 20) 4:=by
   unfold aB;rw[am Bb];refine ⟨rfl,rfl,rfl,?_⟩;dsimp only;split<;>omega
  obtain ⟨k1,k2,k3,k4⟩:=hK;refine fin (w2 (f.drop 20) 2) b2 ?_ ?_ (fun h=>by omega)
  ·unfold jz;rw[am h1,k1,k2,k3,k4];rw[show b1 (f.drop 20) 0*256=w2 (f.drop 20) 0 by omega];exact yh
  ·rw[hN,k1,length_drop];simp;omega
 ·rw[h1]at hN;have Bb:b1 f 9=6:=by rw[← CD];exact h1
  have iW:20<=(f.drop 20).length:=by rw[Bb]at g6;simpa using g6
  have yh:=GN 10 (f.drop 20) af;rw[Xe9]at yh;have hw:w2 (f.drop 20) 12=b1 (f.drop 20) 12*256+b1 (f.drop 20) 13:=L3 (f.drop 20) 12 af;have b2:=Cy (f.drop 20) 16 af;obtain ⟨r1,r2⟩:=L0 (f.drop 20) 4 af;obtain ⟨r3,r4⟩:=L0 (f.drop 20) 8 af;have hK:aB f={ kT f with aj:=w2 (f.drop 20) 0,av:=w2 (f.drop 20) 2,seq:=w4 (f.drop 20) 4,bB:=w4 (f.drop 20) 8,win:=w2 (f.drop 20) 14,flags:=b1 (f.drop 20) 13,body:=(f.drop 20).drop 20 }:=by
   unfold aB;rw[aa af,aa af]
  refine fin (w2 (f.drop 20) 16) b2 ?_ ?_ (fun h=>by omega)
  ·unfold jz;rw[aa af,aa af,hK];dsimp only;rw[r1,r2,r3,r4,show 80*256+b1 (f.drop 20) 13=w2 (f.drop 20) 12 by omega,show (0:Int)=w2 (f.drop 20) 18 by omega];exact yh
  ·rw[hN,hK];simp;omega
 ·rw[h1]at hN;have Bb:b1 f 9=17:=by rw[← CD];exact h1
  have iW:8<=(f.drop 20).length:=by rw[Bb]at g6;simpa using g6
  have yh:=GN 4 (f.drop 20) af;rw[Xsz]at yh;have b2:=Cy (f.drop 20) 6 af;have hK:aB f={ kT f with aj:=w2 (f.drop 20) 0,av:=w2 (f.drop 20) 2,body:=(f.drop 20).drop 8 }:=by
   unfold aB;rw[aa af,am Bb]
  refine fin (w2 (f.drop 20) 6) b2 ?_ ?_ (fun h=>by omega)
  ·unfold jz;rw[aa af,am h1,hK];dsimp only;rw[show (8:Int)+(((f.drop 20).drop 8).length:Nat)=w2 (f.drop 20) 4 by rw[length_drop];omega];exact yh
  ·rw[hN,hK];simp;omega
def Xdl (T:Int)(h:0<=T):mD (cK T) T:=by
 by_cases h0:T=0
 ·subst h0;exact ⟨by decide,by decide,by decide⟩
 ·have:=tX T af;have:=tW T;exact ⟨this.1,this.2,by omega⟩
def Ss {c c0 T m1 n1 m2 n2 m3 n3:Int}(hc:mD c T)(iE:mD c0 T)(lG:0<=m1/\m1<=65535)(mE:0<=n1/\n1<=65535)(lH:0<=m2/\m2<=65535)(kU:0<=n2/\n2<=65535)(zU:0<=m3/\m3<=65535)(ss:0<=n3/\n3<=65535)(h:m3≠65535\/n3≠0) :
  Qs (Qs (Qs c m1 n1) m2 n2) m3 n3=Qs (Qs (Qs c0 m1 n1) m2 n2) m3 n3:=by
 obtain ⟨x1,x2,x3⟩:=zR _ _ _ _ (zR _ _ _ _ hc lG mE) lH kU;obtain ⟨y1,y2,y3⟩:=zR _ _ _ _ (zR _ _ _ _ iE lG mE) lH kU;exact Sr _ _ _ _ ⟨x1,x2⟩ ⟨y1,y2⟩ zU ss af h
def GU (p:Pk)(side:Int):Int:=if side=0 then p.aj else p.av
def Xm8 {f:List UInt8}(h:cD f=0){side addr port:Int}(ht:Ky (aB f) side addr port=0)(hq:port≠0\/GU (aB f) side≠65535):Ub f (aB f).ae (aB f).aN (vt side) (vu (aB f).ae side) addr port=Zs (tY (aB f) side addr port):=by
 have lY:=(Dh h).e;rw[<- Xfq _ lY side addr port ht];obtain ⟨c,k,hf,hc,hk,L4⟩:=Yao h;generalize aB f=p at *
 obtain ⟨hp,hr,hl,ke⟩:=We lY;have hr':=hr;obtain ⟨r1,r2,r3,r4,r5,r6,r7,r8,r9,iz⟩:=hr';have hN:=Wf p hp;have jB:=qm p hp af;have hb:=Wy p hp af;have iE:=Xdl (Qv (gY p (Xm p) 0)) (JF _);have oJ:0<=kc p:=by
  have a:=JF (sr p (Xm p));have b:=JF (jz p 0);unfold kc;omega
 have gH:mD (mC p) (kc p):=by
  obtain ⟨a1,a2,a3⟩:=Xdl (kc p) oJ;rw[jB];split
  ·exact ⟨by decide,by decide,by omega⟩
  ·exact ⟨a1,a2,a3⟩
 have GV:p.ae=17->k=mC p:=fun e=>by
  obtain ⟨a1,a2,a3⟩:=hk;obtain ⟨b1,b2,b3⟩:=gH;have c1:=L4 e;have c2:(mC p:Int)≠0:=by
   rw[jB];split
   ·decide
   ·rename_i hx;exact fun e2=>hx ⟨e,e2⟩
  omega
 rw[hf,hb];clear hf hb L4 jB oJ;generalize cK (Qv (gY p (Xm p) 0))=c0 at *
 generalize Qv (gY p (Xm p) 0)=T1 at *
 generalize kc p=T2 at *
 generalize (mC p:Int)=k0 at *
 unfold Ky at ht;split at ht
 ·cases ht
 split at ht
 ·cases ht
 split at ht
 ·cases ht
 rename_i t1 t2 t3;obtain ⟨ae,aE,aj,dst,av,aN,id,flags,seq,bB,win,body⟩:=p;unfold GU at hq;dsimp only at *
 have key:∀ m1 n1 m2 n2 m3:Int,0<=m1/\m1<=65535->0<=n1/\n1<=65535->0<=m2/\m2<=65535->0<=n2/\n2<=65535->(m3=aN*256+ae)->Qs (Qs (Qs c m1 n1) m2 n2) m3 ((aN-1)*256+ae)=Qs (Qs (Qs c0 m1 n1) m2 n2) m3 ((aN-1)*256+ae):=fun m1 n1 m2 n2 m3 b1 b2 b3 b4 e=>Ss hc iE b1 b2 b3 b4 af af af;unfold vt vu gY jz;by_cases hs:side=0
 ·rw[am hs]at hq ⊢;rcases hp with rfl|rfl|rfl
  ·simp only[hs,reduceCtorEq,Int.reduceEq,if_true,if_false,↓reduceIte,cons_append,nil_append];rw[OR,OR,key _ _ _ _ _ af af af af rfl,Sr k k0 (aj+av) port ⟨hk.1,hk.2.1⟩ ⟨gH.1,gH.2.1⟩ (by unfold Wj at ke;dsimp only at ke;omega) af (by have:=hk.2.2;have:=gH.2.2;omega) (by unfold Wj at ke;dsimp only at ke;omega)]
  ·simp only[hs,reduceCtorEq,Int.reduceEq,if_true,if_false,↓reduceIte,cons_append,nil_append];rw[OV,OV,key _ _ _ _ _ af af af af rfl];rw[show aE/65536%65536=aE/65536 by omega,show aE%65536%65536=aE%65536 by omega];rw[Ss (m1:=aE/65536) (n1:=addr/65536) (m2:=aE%65536) (n2:=addr%65536) (m3:=aj) (n3:=port) hk gH af af af af af af af]
  ·simp only[hs,reduceCtorEq,Int.reduceEq,if_true,if_false,↓reduceIte,cons_append,nil_append];rw[OT,OT,key _ _ _ _ _ af af af af rfl,GV rfl]
 ·rw[aa hs]at hq ⊢;rcases hp with rfl|rfl|rfl
  ·simp only[hs,reduceCtorEq,Int.reduceEq,if_true,if_false,↓reduceIte,cons_append,nil_append];rw[OS,OS,key _ _ _ _ _ af af af af rfl,Sr k k0 (aj+av) port ⟨hk.1,hk.2.1⟩ ⟨gH.1,gH.2.1⟩ (by unfold Wj at ke;dsimp only at ke;omega) af (by have:=hk.2.2;have:=gH.2.2;omega) (by unfold Wj at ke;dsimp only at ke;omega)]
  ·simp only[hs,reduceCtorEq,Int.reduceEq,if_true,if_false,↓reduceIte,cons_append,nil_append];rw[OX,OX,key _ _ _ _ _ af af af af rfl];rw[show dst/65536%65536=dst/65536 by omega,show dst%65536%65536=dst%65536 by omega];rw[Ss (m1:=dst/65536) (n1:=addr/65536) (m2:=dst%65536) (n2:=addr%65536) (m3:=av) (n3:=port) hk gH af af af af af af af]
  ·simp only[hs,reduceCtorEq,Int.reduceEq,if_true,if_false,↓reduceIte,cons_append,nil_append];rw[OU,OU,key _ _ _ _ _ af af af af rfl,GV rfl]
end Go.Proofs.YtogckmommodmhaaGreatDoor
