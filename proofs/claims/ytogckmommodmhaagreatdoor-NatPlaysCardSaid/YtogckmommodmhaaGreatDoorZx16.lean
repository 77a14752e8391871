import Derived.Test.YtogckmommodmhaaGreatDoorZx15
namespace Go.Proofs.YtogckmommodmhaaGreatDoor
open List (mem_append mem_singleton filter_eq_self append_assoc nil_append mem_map mem_filter any_eq_true mem_cons take_succ length_drop cons_append)
open Go.RowKit
set_option linter.all false
set_option maxHeartbeats 32000000
set_option maxRecDepth 100000
variable {p:Pk}{o:bB}{r0:List bB}{n:Nat}{K:St->Prop}(N:Nat)(gl:Nat->AV)(l:List UInt8)(k:Nat)(f:List UInt8)
structure NK (S:NS):Prop extends NI S where
 nx:S.bH<=2*S.bm
 uL:S.told<=64*S.bm
 act:S.bm<=300
def NI.Be {S:NS}(h:NJ S):∀ q ∈ S.fl,1<=q.1:=fun q hq=>(h.ids q hq).1
def NI.setRef {S:NS}(h:NI S){r:Nat}(hr:r<=4):NI { S with ref:=r } :=
 ⟨⟨h.gt,h.wf,h.ids,h.c4,h.len,h.kB,h.has,h.rJ,h.now,h.lq,hr⟩,h.due⟩
def NI.lD {S:NS}(h:NI S)(r:Nat):NI { S with told:=r } :=
 ⟨⟨h.gt,h.wf,h.ids,h.c4,h.len,h.kB,h.has,h.rJ,h.now,h.lq,h.ref⟩,h.due⟩
def NI.lE {S:NS}(h:NI S)(r:Nat):NI { S with bm:=r } :=
 ⟨⟨h.gt,h.wf,h.ids,h.c4,h.len,h.kB,h.has,h.rJ,h.now,h.lq,h.ref⟩,h.due⟩
structure kE (S S':NS)(a b:Nat):Prop where
 nx:S'.bH<=S.bH+a
 uL:S'.told<=S.told+b
 act:S'.bm=S.bm
 loose:S'.loose=S.loose
def kE.refl (S:NS)(a b:Nat):kE S S a b:=⟨by omega,by omega,rfl,rfl⟩
def NI.refuse {S:NS}(h:NI S)(f:List UInt8)(e:Int):NI (S.refuse f e).2/\kE S (S.refuse f e).2 0 0:=by
 unfold NS.refuse;split
 ·exact ⟨h,kE.refl ..⟩
 ·exact ⟨h.setRef (by have:=h.ref;omega),⟨by show S.bH<=_;omega,Nat.le_refl _,rfl,rfl⟩⟩
def NI.Bf {S:NS}(h:NI S){f:Fl}(aL:f.map ∈ S.tb.maps)(br:∀ q ∈ S.fl,¬ (q.2.map=f.map/\q.2.rem=f.rem/\q.2.rport=f.rport))(hl:S.fl.length<48):NI (S.begin f) :=
 h.begin h.gt h.wf (fun _ hm=>hm) (fun _ hm=>.inl hm) aL br hl
def NI.aH {S:NS}(h:NI S)(f:List UInt8):NI (S.aH f).2/\kE S (S.aH f).2 1 0:=by
 have hS:NI S/\kE S S 1 0:=⟨h,kE.refl ..⟩
 unfold NS.aH;split
 ·exact hS
 dsimp only;split
 ·exact hS
 split
 ·exact hS
 split
 ·exact hS
 split
 ·exact hS
 rename_i m hm;have ry:=List.mem_of_find?_eq_some hm;split
 ·exact ⟨h.goes ..,⟨by show S.bH<=_;omega,Nat.le_refl _,rfl,rfl⟩⟩
 rename_i hk;split
 ·exact hS
 split
 ·exact hS
 rename_i hlen;refine ⟨h.Bf ry (R6 (NI.Be h.toNJ) (Decidable.not_not.1 hk)) af,⟨?_,Nat.le_refl _,rfl,rfl⟩⟩;show S.bH+1<=_;omega
def NI.ff {S:NS}(h:NI S)(f:List UInt8)(m:Mp)(es:List Ev):NI (S.ff f m es).2/\kE S (S.ff f m es).2 1 es.length:=by
 have h1:NI (S.log es):=h.lD _;unfold NS.ff;dsimp only;split
 ·obtain ⟨g1,g2⟩:=h1.aH (Wx f 0 (3405803777+m.a) m.port);exact ⟨g1,⟨g2.nx,g2.uL,g2.act,g2.loose⟩⟩
 ·exact ⟨h1,⟨by show S.bH<=_;omega,Nat.le_refl _,rfl,rfl⟩⟩
def Sk (hp:p.ae=1\/p.ae=6\/p.ae=17){s i:Int}(h1:0<=s)(h2:s<8)(h3:0<=i)(h4:i<=65535):Yu p.ae s i=true:=by
 unfold Yu;simp only[Bool.and_eq_true,Bool.or_eq_true,beq_iff_eq,decide_eq_true_eq];omega
def Sl {S:NS}(hn:S.now<=549755813888){t:Tb}(h:GT t){m:Mp}(hm:m ∈ t.maps)(b:Bool):Je (S.ev m b).t (S.ev m b).s (S.ev m b).a (S.ev m b).b=true:=by
 have aS:=h.maps m hm;obtain ⟨_,⟨h3,h4⟩,_⟩:=Ka aS.1.1;have h5:=aS.1.2.2;have h6:=vV m.port;show Je S.now m.s m.a (Xd m.port)=true;unfold Je;simp only[Bool.and_eq_true,decide_eq_true_eq];omega
def NI.Bg {S:NS}(h:NI S){p:Pk}{S0:Nat}{aH:Int}(bg:Yu p.ae S0 aH=true){x:Tb×Mp×Bool×Int}(ho:cM S.tb p.ae S0 aH x)(he:x.2.2.2=0)
  (br:∀ q ∈ S.fl,¬ (q.2.map=x.2.1/\q.2.rem=p.dst/\q.2.rport=p.aw)) (hl:S.fl.length<48) (st:Int):NI (({ S with tb:=x.1 }:NS).begin ⟨x.2.1,p.dst,p.aw,st,0,0⟩):=by
 have hg:=ho.bR h.gt h.wf bg;have hw:=ho.wf h.wf;have aL:=(ho.has he).1;refine h.begin hg hw ?_ ?_ aL br hl
 ·cases ho with
  | no e lL=>exact fun m hm=>hm
  | old m hf=>exact fun m hm=>hm
  | own port=>exact fun m hm=>List.mem_append_left _ hm
  | new b k=>exact fun m hm=>List.mem_append_left _ hm
 ·cases ho with
  | no e lL=>exact fun m hm=>.inl hm
  | old m hf=>exact fun m hm=>.inl hm
  | own port=>exact fun m hm=>(mem_append.1 hm).imp id fun h=>mem_singleton.1 h
  | new b k=>exact fun m hm=>(mem_append.1 hm).imp id fun h=>mem_singleton.1 h
def Sm {f:List UInt8}(h:cH f=0):((aC f).ae=1\/(aC f).ae=6\/(aC f).ae=17)/\Jl (aC f):=by
 have he:Zl (aC f)=0:=by
  unfold cH at h;dsimp only at h
  (repeat' split at h)<;>first|cases h|exact h
 have:=Wj he;exact ⟨this.1,this.2.1⟩
def NS.fwd (S:NS)(p:Pk):Option Mp:=S.tb.maps.find? (Ya p.ae (p.aF-167772161) p.aj)
def NS.c5 (S:NS)(p:Pk):Int:=match S.fwd p with
 | some m=>S.findF m p.dst p.aw
 | none=>0
noncomputable def NS.opened (S:NS)(f:List UInt8)(o:Tb×Mp×Bool×Int):Rp×NS :=
 (({ S with tb:=o.1 }:NS).begin ⟨o.2.1,(aC f).dst,(aC f).aw,Wr (aC f).ae,0,0⟩).ff f o.2.1 (if o.2.2.1 then [({ S with tb:=o.1 }:NS).ev o.2.1 false] else [])
theorem Sn (S:NS)(f:List UInt8)(draw:Int):S.out f draw =
  if cH f≠0 then (bN (cH f),S) else
  if (aC f).aF-167772161<0\/8<=(aC f).aF-167772161 then (bN 7,S) else
  if (aC f).ae=1/\(aC f).flags≠8 then (bN 4,S) else
  if (aC f).aN=1 then (bN 12,S) else
  if S.c5 (aC f)≠0 then (match S.fwd (aC f) with
   | some m=>(S.goes (S.c5 (aC f)) (aC f) false).ff f m []
   | none=>(bN 0,S))
  else if yg (aC f).ae (aC f).flags=false then (bN 11,S) else
  if 48<=S.fl.length then S.refuse f 6 else
  if (S.tb.cd (aC f).ae ((aC f).aF-167772161) (aC f).aj draw).2.2.2≠0 then S.refuse f (S.tb.cd (aC f).ae ((aC f).aF-167772161) (aC f).aj draw).2.2.2 else
  S.opened f (S.tb.cd (aC f).ae ((aC f).aF-167772161) (aC f).aj draw):=rfl
def NI.opened {S:NS}(h:NI S){f:List UInt8}(he:cH f=0){draw:Int}(hs:¬ ((aC f).aF-167772161<0\/8<=(aC f).aF-167772161))(hk:S.c5 (aC f)=0)(hl:S.fl.length<48)(ho:(S.tb.cd (aC f).ae ((aC f).aF-167772161) (aC f).aj draw).2.2.2=0) :
  ∃ S0:Nat,(aC f).aF-167772161=S0/\S0<8/\Yu (aC f).ae S0 (aC f).aj=true/\cM S.tb (aC f).ae S0 (aC f).aj (S.tb.cd (aC f).ae S0 (aC f).aj draw)/\(∀ q ∈ S.fl,¬ (q.2.map=(S.tb.cd (aC f).ae S0 (aC f).aj draw).2.1/\q.2.rem=(aC f).dst/\q.2.rport=(aC f).aw)) /\
  ∀ st,NI (({ S with tb:=(S.tb.cd (aC f).ae S0 (aC f).aj draw).1 }:NS).begin ⟨(S.tb.cd (aC f).ae S0 (aC f).aj draw).2.1,(aC f).dst,(aC f).aw,st,0,0⟩):=by
 obtain ⟨hp,hr⟩:=Sm he;obtain ⟨S0,oO⟩:∃ S0:Nat,(aC f).aF-167772161=S0:=⟨((aC f).aF-167772161).toNat,by omega⟩
 unfold NS.c5 NS.fwd at hk;rw[oO]at ho hk hs;have bg:Yu (aC f).ae S0 (aC f).aj=true:=Sk hp af af hr.2.2.2.2.1.1 hr.2.2.2.2.1.2;have hop:=Proofs.YtogckmommodmhaaGreatDoor.opened h.gt h.wf bg draw;have br:∀ q ∈ S.fl,¬ (q.2.map=(S.tb.cd (aC f).ae S0 (aC f).aj draw).2.1/\q.2.rem=(aC f).dst/\q.2.rport=(aC f).aw):=by
  intro q hq ⟨e1,e2,e3⟩;have aL:=h.kB q hq;have yn:=h.gt.fwd aL;obtain ⟨_,k1,k2,k3,_⟩:=hop.has ho;rw[e1]at aL yn;rw[k1,k2,k3]at yn;rw[yn]at hk;exact R6 (NI.Be h.toNJ) hk q hq ⟨e1,e2,e3⟩
 exact ⟨S0,oO,by omega,bg,hop,br,fun st=>h.Bg bg hop ho br hl st⟩
def NI.out {S:NS}(h:NI S)(f:List UInt8)(draw:Int):NI (S.out f draw).2/\kE S (S.out f draw).2 2 1:=by
 have hS:∀ r,NI ((r,S):Rp×NS).2/\kE S ((r,S):Rp×NS).2 2 1:=fun r=>⟨h,kE.refl ..⟩
 have hR:∀ e,NI (S.refuse f e).2/\kE S (S.refuse f e).2 2 1:=fun e=>by
  obtain ⟨g1,g2⟩:=h.refuse f e;exact ⟨g1,⟨by have:=g2.nx;omega,by have:=g2.uL;omega,g2.act,g2.loose⟩⟩
 rw[Sn];by_cases he:cH f=0
 case neg=>rw[am he];exact hS _
 rw[aa (by simpa using he)];by_cases hs:(aC f).aF-167772161<0\/8<=(aC f).aF-167772161
 ·rw[am hs];exact hS _
 rw[aa hs];by_cases h2:(aC f).ae=1/\(aC f).flags≠8
 ·rw[am h2];exact hS _
 rw[aa h2];by_cases h3:(aC f).aN=1
 ·rw[am h3];exact hS _
 rw[aa h3];by_cases hk:S.c5 (aC f)=0
 case neg =>
  rw[am hk];cases S.fwd (aC f) with
  | none=>exact hS _
  | some m =>
   obtain ⟨g1,g2⟩:=(h.goes (S.c5 (aC f)) (aC f) false).ff f m [];dsimp only;refine ⟨g1,⟨?_,?_,g2.act,g2.loose⟩⟩
   ·have h3:_<=S.bH+1:=g2.nx;omega
   ·have h3:_<=S.told+0:=g2.uL;omega
 rw[aa (by simpa using hk)];by_cases h4:yg (aC f).ae (aC f).flags=false
 ·rw[am h4];exact hS _
 rw[aa h4];by_cases hl:48<=S.fl.length
 ·rw[am hl];exact hR _
 rw[aa hl];by_cases ho:(S.tb.cd (aC f).ae ((aC f).aF-167772161) (aC f).aj draw).2.2.2=0
 case neg=>rw[am ho];exact hR _
 rw[aa (by simpa using ho)];obtain ⟨S0,oO,_,bg,hop,br,hb⟩:=h.opened he hs hk af ho;rw[oO];unfold NS.opened;have hb:=hb (Wr (aC f).ae);generalize S.tb.cd (aC f).ae S0 (aC f).aj draw=o at *
 obtain ⟨g1,g2⟩:=hb.ff f o.2.1 (if o.2.2.1 then [({ S with tb:=o.1 }:NS).ev o.2.1 false] else []);have hlen:(if o.2.2.1=true then [({ S with tb:=o.1 }:NS).ev o.2.1 false] else []).length<=1:=by split<;>simp
 refine ⟨g1,⟨?_,?_,g2.act,g2.loose⟩⟩
 ·have h2:=g2.nx;have h3:_<=S.bH+1+1:=h2;omega
 ·have h2:=g2.uL;have h3:_<=S.told+_:=h2;omega
def Xdn (x:NS×List Ev)(k:Int):∃ tb es,cT x k=({ x.1 with fl:=x.1.fl.filter fun r=>!(r.1==k),tb:=tb },x.2++es)/\es.length<=1/\(NJ x.1->∀ e ∈ es,e.t=x.1.now/\Je e.t e.s e.a e.b=true):=by
 obtain ⟨S,l⟩:=x;unfold cT;dsimp only;cases hf:S.fl.find? (fun q=>q.1==k) with
 | none =>
  have:(S.fl.filter fun r=>!(r.1==k))=S.fl:=filter_eq_self.2 fun q hq=>by have:=List.find?_eq_none.1 hf q hq;simpa using this
  rw[this];exact ⟨S.tb,[],by simp,by simp,by simp⟩
 | some q =>
  dsimp only;split
  ·exact ⟨S.tb,[],by simp,by simp,by simp⟩
  ·refine ⟨(S.tb.cls q.2.map).1,if (S.tb.cls q.2.map).2.1 then [({ S with fl:=S.fl.filter fun r=>!(r.1 == k) }:NS).ev q.2.map true] else [],?_,by split<;>simp,fun h e he=>?_⟩
   ·split<;>simp
   ·split at he
    ·obtain rfl:=mem_singleton.1 he;exact ⟨rfl,Sl (S:={ S with fl:=S.fl.filter fun r=>!(r.1==k) }) h.now h.gt (h.kB q (List.mem_of_find?_eq_some hf)) true⟩
    ·cases he
structure nc (S S':NS)(K:List Int)(es:List Ev):Prop where
 nj:NJ S'
 fl:S'.fl=S.fl.filter fun q=>!(K.contains q.1)
 now:S'.now=S.now
 nx:S'.bH=S.bH
 told:S'.told=S.told
 ref:S'.ref=S.ref
 bm:S'.bm=S.bm
 loose:S'.loose=S.loose
 len:es.length<=K.length
 bR:∀ e ∈ es,e.t=S.now/\Je e.t e.s e.a e.b=true
def Qst {S:NS}(h:NJ S):∀ K:List Int,∃ es,(K.foldl cT (S,[])).2=es/\nc S (K.foldl cT (S,[])).1 K es:=by
 have key:∀ (K K0:List Int) (x:NS×List Ev),nc S x.1 K0 x.2->nc S (K.foldl cT x).1 (K0++K) (K.foldl cT x).2:=by
  intro K
  induction K with
  | nil=>intro K0 x hx;rw[List.append_nil];exact hx
  | cons k K ih =>
   intro K0 x hx;have:=ih (K0++[k]) (cT x k) ?_
   ·rw[append_assoc]at this;exact this
   ·obtain ⟨tb,es,e,hl,hg⟩:=Xdn x k;have GY:=hx.nj.dl k;rw[e]at GY ⊢;refine ⟨GY,?_,hx.now,hx.nx,hx.told,hx.ref,hx.bm,hx.loose,?_,?_⟩
    ·show x.1.fl.filter _=_;rw[hx.fl,List.filter_filter];refine List.filter_congr fun q _=>?_;rw[List.contains_eq_mem,List.contains_eq_mem];by_cases e1:q.1=k<;>by_cases e2:q.1 ∈ K0<;>simp[e1,e2]<;>simp[<- e1,e2]
    ·have:=hx.len;simp;omega
    ·intro e' lL;rcases mem_append.1 lL with lL|lL
     ·exact hx.bR e' lL
     ·have:=hg hx.nj e' lL;rw[hx.now]at this;exact this
 intro K;refine ⟨_,rfl,?_⟩;have:=key K [] (S,[]) ⟨h,(filter_eq_self.2 fun q _=>rfl).symm,rfl,rfl,rfl,rfl,rfl,rfl,by simp,by simp⟩;rw[nil_append]at this;exact this
def L4 {D:List Tm}  {k:Int}:k ∈ a7 D n ↔ ∃ t ∈ D,t.due<n/\t.id=k:=by
 unfold a7;rw[mem_map];constructor
 ·rintro ⟨t,ht,rfl⟩;have:=(Kz _).mem_iff.1 ht;rw[mem_filter]at this;exact ⟨t,this.1,by simpa using this.2,rfl⟩
 ·rintro ⟨t,ht,hd,rfl⟩;exact ⟨t,(Kz _).mem_iff.2 (mem_filter.2 ⟨ht,by simpa using hd⟩),rfl⟩
def L5 (D:List Tm)(n:Nat):(a7 D n).length<=D.length:=by
 unfold a7;rw[List.length_map,(Kz _).length_eq];exact List.length_filter_le _ _
def NS.later (S:NS)(d:Int):NS:={ S with now:=S.now+d.toNat,ref:=min 4 (S.ref+min d.toNat 4) }
def NI.later {S:NS}(h:NI S){d:Int}(hd:¬ (d<1\/549755813888-S.now<d)):NJ (S.later d) :=
 ⟨h.gt,h.wf,h.ids,h.c4,h.len,h.kB,h.has,h.rJ,by show S.now+d.toNat<=549755813888;omega,h.lq,by show min 4 _<=4;omega⟩
def NS.ended (S:NS)(d:Int):List Int:=a7 S.aZ (S.now+d.toNat+1)
def NI.yo {S:NS}(h:NI S){d:Int}(hd:¬ (d<1\/549755813888-S.now<d)):∃ es,((S.ended d).foldl cT (S.later d,[])).2=es/\nc (S.later d) ((S.ended d).foldl cT (S.later d,[])).1 (S.ended d) es/\NI ((S.ended d).foldl cT (S.later d,[])).1/\es.length<=48:=by
 obtain ⟨es,e,hE⟩:=Qst (h.later hd) (S.ended d);refine ⟨es,e,hE,⟨hE.nj,fun q hq=>?_⟩,?_⟩
 ·rw[hE.fl]at hq;obtain ⟨pI,nz⟩:=mem_filter.1 hq;have iS:=h.due q pI;rw[hE.now];have hn:(S.later d).now=S.now+d.toNat:=rfl;rw[hn];have Sp:q.1 ∉ S.ended d:=fun hm=>by
   rw[List.contains_iff_mem.2 hm]at nz;cases nz
  have:¬ q.2.due.toNat<S.now+d.toNat+1:=fun hlt=>Sp (L4.2 ⟨⟨q.1,q.2.due.toNat⟩,mem_map.2 ⟨q,pI,rfl⟩,hlt,rfl⟩);omega
 ·refine Nat.le_trans hE.len (Nat.le_trans (L5 _ _) ?_);unfold NS.aZ;rw[List.length_map];exact h.len
theorem L6 (S:NS)(d:Int):S.tick d=if d<1\/549755813888-S.now<d then (bN 2,S) else (⟨0,[],false,nP S.told ((S.ended d).foldl cT (S.later d,[])).2⟩,(((S.ended d).foldl cT (S.later d,[])).1.log ((S.ended d).foldl cT (S.later d,[])).2)):=rfl
def NI.tick {S:NS}(h:NI S)(d:Int):NI (S.tick d).2/\kE S (S.tick d).2 0 48:=by
 rw[L6];split
 ·exact ⟨h,kE.refl ..⟩
 ·rename_i hd;obtain ⟨es,e,hE,hN,hl⟩:=h.yo hd;rw[e];refine ⟨hN.lD _,⟨?_,?_,hE.bm,hE.loose⟩⟩
  ·show NS.bH (List.foldl cT (S.later d,[]) (S.ended d)).1<=_;rw[hE.nx];show S.bH<=_;omega
  ·show NS.told (List.foldl cT (S.later d,[]) (S.ended d)).1+es.length<=_;rw[hE.told];show S.told+_<=_;omega
def NI.wA {S:NS}(h:NI S)(a:Int)(to:Bool):NI { S with tb:={ S.tb with ai:=(S.tb.ai.drain a to).1 } } :=
 ⟨⟨h.gt.drain a to,⟨aq.eF _ h.wf.ai a to,h.wf.home⟩,h.ids,h.c4,h.len,h.kB,h.has,h.rJ,h.now,h.lq,h.ref⟩,h.due⟩
def NK.of {S S':NS}(h:NK S)(ha:S.bm<300)(hn:NI S')(hc:kE { S with bm:=S.bm+1 } S' 2 64):NK S' :=
 ⟨hn,by have h1:=hc.nx;have h2:=hc.act;have h3:=h.nx;have h1:S'.bH≤S.bH + 2:=h1;rw[h2];show S'.bH≤2 * ((S.bm + 1:Nat):Int);omega,
  by have h1:=hc.uL;have h2:=hc.act;have h3:=h.uL;have h1:S'.told<=S.told+64:=h1;rw[h2];show S'.told<=64*(S.bm+1);omega,
  by rw[hc.act];exact ha⟩
def kE.up {S S':NS}{a b a' b':Nat}(h:kE S S' a b)(h1:a<=a')(h2:b<=b'):kE S S' a' b':=⟨by have:=h.nx;omega,by have:=h.uL;omega,h.act,h.loose⟩
def NK.step {S:NS}(h:NK S)(a:Ac):NK (S.step a).2:=by
 unfold NS.step;split
 ·exact h
 rename_i ha;have ha:S.bm<300:=by omega
 have h1:=h.toNI.lE (S.bm+1);dsimp only;split
 ·exact h.of ha (h1.out a.frame a.draw).1 ((h1.out a.frame a.draw).2.up aJ aJ)
 split
 ·exact h.of ha (h1.aH a.frame).1 ((h1.aH a.frame).2.up aJ aJ)
 split
 ·exact h.of ha (h1.tick a.n).1 ((h1.tick a.n).2.up aJ aJ)
 split
 ·split
  ·exact h.of ha (h1.wA a.n _) ⟨by show S.bH<=S.bH+(2:Nat);omega,by show S.told<=S.told+64;omega,rfl,rfl⟩
  ·exact h.of ha h1 (kE.refl ..)
 ·exact h.of ha h1 (kE.refl ..)
def NK.new (b:Bool):NK (NS.new b):=by
 refine ⟨⟨⟨Yhl,Yew,by simp[NS.new],by simp[NS.new],by simp[NS.new],by simp[NS.new],by simp[NS.new],by simp[NS.new],by simp[NS.new],by simp[NS.new],by simp[NS.new]⟩,by simp[NS.new]⟩,by simp[NS.new],by simp[NS.new],by simp[NS.new]⟩
def Xdo (side addr port:Int):∃ e,sC f side addr port=.aR [.str (Wx f side addr port),.int .i64 e]:=by
 unfold sC Wx;split
 ·exact ⟨_,rfl⟩
 ·split
  ·exact ⟨_,rfl⟩
  ·exact ⟨_,rfl⟩
def To.qS {p:List Nat}{t t':List (Nat×AV)}{ex ex':List (Nat×Bk)}{S:NS}{T:WT}{N n k:Nat}(hT:T.wf)(H':HL (ex'++Qn S T) k)(hk:70<=k)(hkN:k<=N)(jL:∀ q ∈ ex',70<=q.1)(hex:∀ q ∈ ex,70<=q.1/\q.1<N)(hp:∀ b ∈ p,b=67)
  (hl:∀ b,70<=b->b<k->Qb (ex++Qq (cG id [67] N) (Qn S T)) n b=Qw (lw (cG id [67] N) 70) (Qb (ex'++Qn S T) k b)) (ht:Qs (lw (cG id [67] N) 70) k t t'):To p ⟨t,ex++Qq (cG id [67] N) (Qn S T),n⟩ ⟨t',ex'++Qn S T,k⟩:=by
 have hs:∀ b,b<70->cG id [67] N b=67/\b=67\/cG id [67] N b=N+b/\b≠67:=fun b hb=>by
  by_cases e:b=67
  ·subst e;exact .inl ⟨Ks av,rfl⟩
  ·exact .inr ⟨Uh (by simpa using e),e⟩
 refine To.mid (Qo hT) H' hk jL (fun b b' hb bL e=>?_) (fun q hq b hb e=>?_) (fun b hb b' h1 h2 e=>?_) (fun b hb=>?_) hl ht
 ·rcases hs b hb with ⟨h1,h2⟩|⟨h1,h2⟩<;>rcases hs b' bL with ⟨h3,h4⟩|⟨h3,h4⟩<;>omega
 ·have:=hex q hq;rcases hs b hb with ⟨h1,h2⟩|⟨h1,h2⟩<;>omega
 ·rcases hs b hb with ⟨h3,h4⟩|⟨h3,h4⟩<;>omega
 ·obtain rfl:=hp b hb;exact ⟨rfl,by omega⟩
def To.Bh {p:List Nat}{t t':List (Nat×AV)}{h ex ex':List (Nat×Bk)}{m n k:Nat}(H:HL h m)(H':HL (ex'++h) k)(BW:m<=k)(jL:∀ q ∈ ex',m<=q.1)(hex:∀ q ∈ ex,m<=q.1)(hp:∀ b ∈ p,b<k)(hl:∀ b,m<=b->b<k->Qb (ex++h) n b=Qb (ex'++h) k b)(ht:Qs id k t t'):To p ⟨t,ex++h,n⟩ ⟨t',ex'++h,k⟩:=by
 refine To.pQ id H' (fun b hb=>⟨rfl,hp b hb⟩) (fun b b' _ _ e=>e) (fun b hb=>?_) ht;rw[ru];show Qb (ex++h) n b=_;by_cases h1:b<m
 ·rw[Xl fun q hq e=>by have:=hex q hq;omega,Xl fun q hq e=>by have:=jL q hq;omega,H.lo h1 n,H.lo h1 k]
 ·exact hl b af hb
def bK (S:NS)(m:Mp)(r:Int)(x:Int):Bool:=S.fl.any fun q=>q.1==x&&(decide (q.2.map=m)&&q.2.rem==r)
def Sq {S:NS}(hd:S.fl.Pairwise fun p q=>p.1≠q.1){q:Int×Fl}(hq:q ∈ S.fl)(m:Mp)(r:Int):bK S m r q.1=(decide (q.2.map=m)&&q.2.rem==r):=by
 unfold bK;rw[Bool.eq_iff_iff,any_eq_true];constructor
 ·rintro ⟨x,hx,h⟩;rw[Bool.and_eq_true,beq_iff_eq]at h;rw[<- GX hd hx hq h.1];exact h.2
 ·intro h;exact ⟨q,hq,by rw[h];simp⟩
def Yhf {S:NS}(hd:S.fl.Pairwise fun p q=>p.1≠q.1)(m:Mp)(r:Int):S.keys.any (bK S m r)=S.fl.any fun q=>decide (q.2.map=m)&&q.2.rem==r:=by
 unfold NS.keys;rw[List.any_map,Bool.eq_iff_iff,any_eq_true,any_eq_true];constructor<;>rintro ⟨q,hq,h⟩
 ·exact ⟨q,hq,by rw[<- Sq hd hq];exact h⟩
 ·exact ⟨q,hq,by show bK S m r q.1=true;rw[Sq hd hq];exact h⟩
theorem Dp:lw (cG id [67] N) 70 67=67:=rfl
def GZ {S:NS}{T:WT}(hT:T.wf):HL ((70,Bk.cells [.ptr 67 0])::Qn S T) 71:=(Qo hT).more (by simp[bX,ah,Qe])
theorem Sr (S:NS)(f:List UInt8):S.aH f =
  if cH f≠0 then (bN (cH f),S) else
  if (aC f).dst-3405803777<0\/3<=(aC f).dst-3405803777 then (bN 7,S) else
  if (aC f).ae=1/\(aC f).flags≠0 then (bN 4,S) else
  if (aC f).aN=1 then (bN 12,S) else
  match S.tb.maps.find? (Jd (aC f).ae ((aC f).dst-3405803777) (aC f).aw) with
  | none=>(bN 7,S)
  | some m =>
   if S.findF m (aC f).aF (aC f).aj≠0 then (⟨0,Wx f 1 (167772161+m.s) m.aH,true,[]⟩,S.goes (S.findF m (aC f).aF (aC f).aj) (aC f) true) else
   if S.loose=false/\(S.fl.any fun q=>decide (q.2.map=m)&&q.2.rem==(aC f).aF)=false then (bN 11,S) else
   if (aC f).ae≠17\/48<=S.fl.length then (bN 11,S) else
   (⟨0,Wx f 1 (167772161+m.s) m.aH,true,[]⟩,S.begin ⟨m,(aC f).aF,(aC f).aj,2,0,0⟩):=rfl
def G0 {S:NS}{m:Mp}{r rp:Int}(h:S.findF m r rp≠0):∃ q ∈ S.fl,S.findF m r rp=q.1/\q.2.map=m/\q.2.rem=r/\q.2.rport=rp:=by
 unfold NS.findF at h ⊢;split
 ·rename_i q hq;have h1:=List.find?_some hq;simp only[Bool.and_eq_true,decide_eq_true_eq,beq_iff_eq]at h1;exact ⟨q,List.mem_of_find?_eq_some hq,rfl,h1.1.1,h1.1.2,h1.2⟩
 ·rename_i hq;rw[hq]at h;exact absurd rfl h
def L7:∃ (p:Pk) (e:Int),py f=.aR [.agg p.enc,.int .i64 e]/\(e=0->cH f=0/\aC f=p/\(p.ae=1\/p.ae=6\/p.ae=17)/\Jl p)/\(e≠0->cH f=e):=by
 by_cases he:cH f=0
 ·exact ⟨aC f,0,by unfold py;rw[am he],fun _=>⟨he,rfl,Sm he⟩,fun h=>(h rfl).elim⟩
 ·exact ⟨cY,cH f,by unfold py;rw[aa he],fun h=>(he h).elim,fun _=>rfl⟩
def Yjm (gl:Nat->AV)(S:NS)(T T1:WT)(hS:NI S)(hT:T.wf)(dz:T1.wf)(f:List UInt8)(hf:f.length<=140737488351232)(x:Rp×NS)(hx:S.aH f=x)(ha:x.1.code≠0->T1=T)
  (hb:x.1.code=0→∀ m,S.tb.maps.find? (Jd (aC f).ae ((aC f).dst - 3405803777) (aC f).aw)=some m →
   (∀ q ∈ S.fl,S.findF m (aC f).aF (aC f).aj=q.1->GD Tryz.prog gl 93 [.ptr 67 0,.int .i64 q.1,.agg (aC f).enc,.bool true] (Qn S T) 70 [67] (.aR []) (Qn (S.goes q.1 (aC f) true) T1)) /\
   (S.findF m (aC f).aF (aC f).aj=0->GD Tryz.prog gl 91 [.ptr 67 0,.agg (Fl.enc ⟨m,(aC f).aF,(aC f).aj,2,0,0⟩)] (Qn S T) 70 [67] (.aR []) (Qn (S.begin ⟨m,(aC f).aF,(aC f).aj,2,0,0⟩) T1))) :
  GD Tryz.prog gl 59 [.ptr 67 0,.str f] (Qn S T) 70 [67] (.agg x.1.enc) (Qn x.2 T1):=by
 refine Yfi.gq (ap rfl) (Ub hT) av fun c bf hg=>?_;subst hg
 conv in aG _ _=>cbv
 have aW:=fun n b hb=>Ko (S:=S) hT n b hb;have cq:=lr S T;have aY:=NS.aU hS.wf;have ea:=NS.fE hS.wf;have ke:=NS.ke hS.wf;have yh:=NS.yh hS.wf;have Bi:=hS.len;have hP:=J8 c.gl f hf;obtain ⟨Z1,rL,rk⟩:∃ Z:Int,(3405803776:Int)=Z/\0<=Z/\Z<=4294967296:=⟨_,rfl,by decide,by decide⟩
 obtain ⟨Z2,uM,cI⟩:∃ Z:Int,(167772161:Int)=Z/\0<=Z/\Z<=4294967296:=⟨_,rfl,by decide,by decide⟩
 rw[rL,uM];obtain ⟨p,e,pD,yq,vD⟩:=L7 f;rw[pD]at hP;rw[Sr]at hx;obtain ⟨p1,p2,p3,p4,p5,p6,p7,p8,p9,dh,di,pb⟩:=p;unfold Pk.enc at hP;dsimp only at hP;refine Qd @aW ?_
 ((first|apply Yy|apply Yh|apply Xo|apply Xg)<;>(first|exact hP|(refine XG ?_;first|exact rfl|exact True.intro|((try with_reducible and_intros);all_goals try first|refine zm ?_|exact CL))))
 exact Qi @aW;refine Qc ?_ ?_<;>intro h1
 ·have he:=vD h1;subst he;rw[am h1]at hx;subst hx;obtain rfl:=ha (by first|exact h1|simp[bN]);unfold bN Rp.enc;refine Qd @aW ?_;exact ⟨(),To.drop (ex:=[(71,_),(72,_),(72,_),(71,_),(70,_)]) (Qo hT) av av (by simp[Qs,Qe,ah,look,aB,ay])⟩
 obtain ⟨he,hp,sD,oP⟩:=yq h1;rw[aa (by rw[he];simp)]at hx;rw[hp]at hx hb;unfold Jl at oP;dsimp only at hx hb sD oP;refine Qa ?_;refine Qc ?_ ?_<;>intro h2
 ·rw[am af]at hx;subst hx;obtain rfl:=ha (by first|exact h1|simp[bN]);unfold bN Rp.enc;refine Qd @aW ?_;exact ⟨(),To.drop (ex:=[(71,_),(72,_),(72,_),(71,_),(70,_)]) (Qo hT) av av (by simp[Qs,Qe,ah,look,aB,ay])⟩
 rw[aa af]at hx;refine Qa ?_;refine Qc ?_ ?_<;>intro h3
 ·rw[am af]at hx;subst hx;obtain rfl:=ha (by first|exact h1|simp[bN]);unfold bN Rp.enc;refine Qd @aW ?_;exact ⟨(),To.drop (ex:=[(71,_),(72,_),(72,_),(71,_),(70,_)]) (Qo hT) av av (by simp[Qs,Qe,ah,look,aB,ay])⟩
 rw[aa af]at hx;refine Qa ?_;refine Qc ?_ ?_<;>intro h4
 ·rw[am af]at hx;subst hx;obtain rfl:=ha (by first|exact h1|simp[bN]);unfold bN Rp.enc;refine Qd @aW ?_;exact ⟨(),To.drop (ex:=[(71,_),(72,_),(72,_),(71,_),(70,_)]) (Qo hT) av av (by simp[Qs,Qe,ah,look,aB,ay])⟩
 rw[aa af]at hx;have gW:=Qzu c.gl S.tb hS.wf (by have:=uz (Kb.2 hS.gt);omega) p1 (p4-Z1-1) p5;rw[show p4-3405803777=p4-Z1-1 by omega]at hx hb;refine Qd (An @cq (An @aY @ea)) ?_;cases hm:S.tb.maps.find? (Jd p1 (p4-Z1-1) p5) with
 | none =>
  rw[hm]at gW hx;unfold gu at gW;dsimp only at gW hx;rw[show cQ.enc=[.int .i64 0,.int .i64 0,.int .i64 0,.int .i64 0,.int .i64 0] from rfl]at gW;refine Qj gW @aW ?_;refine Yc ?_;subst hx;obtain rfl:=ha (by first|exact h1|simp[bN]);unfold bN Rp.enc;refine Qd @aW ?_;exact ⟨(),To.drop (ex:=[(71,_),(73,_),(73,_),(72,_),(72,_),(71,_),(70,_)]) (Qo hT) av av (by simp[Qs,Qe,ah,look,aB,ay])⟩
 | some m =>
  rw[hm]at gW hx;unfold gu at gW;dsimp only at gW hx;have hb:=fun h=>hb h m hm;have kj:=Qy4 c.gl S T hS.toNJ hT m p2 p3;obtain ⟨tE,Ha⟩:=Xdo f 1 (Z2+m.s) m.aH;have yr:=ZM c.gl f 1 (Z2+m.s) m.aH hf;rw[Ha]at yr;obtain ⟨_,⟨Ss,Su⟩,_⟩:=Ka (hS.gt.maps m (List.mem_of_find?_eq_some hm)).1.1;clear Ha;rw[uM]at hx;generalize Wx f 1 (Z2+m.s) m.aH=tf at *
  have Lr:=@G0 S m p2 p3;obtain ⟨mp,ms,mi,ma,mt⟩:=m;generalize hkF:S.findF ⟨mp,ms,mi,ma,mt⟩ p2 p3=k at *
  unfold Mp.enc at gW kj;dsimp only at gW kj hx hb yr Ss Su;have L8:∀ {S:NS} {T:WT},T.wf->HL ([(73,.cells [.int .i64 mp,.int .i64 ms,.int .i64 mi,.int .i64 ma,.int .i64 mt]),(72,.cells [.int .i64 p1,.int .i64 p2,.int .i64 p3,.int .i64 p4,.int .i64 p5,.int .i64 p6,.int .i64 p7,.int .i64 p8,.int .i64 p9,.int .i64 dh,.int .i64 di,.str pb]),(71,.cells [.int .i64 0,.str [],.bool false,.str []]),(70,.cells [.ptr 67 0])]++Qn S T) 74:=fun hT=>((GZ hT).more (by simp[bX,ah,Qe])).more (by simp[bX,ah,Qe]) |>.more (by simp[bX,ah,Qe])
  refine Qj gW @aW ?_;refine Yc ?_;refine Qd @aW ?_;refine tn (v:=false) (ex:=[(73,_),(73,_),(72,_),(72,_),(71,_),(70,_)]) kj (Qo hT) (Qo hT) (by simp[Qe]) aJ av rfl ?_ ?_
  ·exact Qi (An @Yl @aW)
  refine Qa ?_;refine Qc ?_ ?_<;>intro h6
  ·rw[am h6]at hx;subst hx;obtain ⟨q,hq,e,_⟩:=Lr h6;have en:=(hb rfl).1 q hq e;subst e;generalize NS.goes S _ _ true=S1 at *
   unfold Pk.enc at en;dsimp only at en;refine Qa ?_;refine uJ (v:=false) (pp:=[67]) (ex:=[(73,_),(73,_),(72,_),(72,_),(71,_),(70,_)]) (s3:=⟨[(1,.str f),(4,.ptr 71 0),(8,.ptr 73 0)],[(73,.cells [.int .i64 mp,.int .i64 ms,.int .i64 mi,.int .i64 ma,.int .i64 mt]),(72,.cells [.int .i64 p1,.int .i64 p2,.int .i64 p3,.int .i64 p4,.int .i64 p5,.int .i64 p6,.int .i64 p7,.int .i64 p8,.int .i64 p9,.int .i64 dh,.int .i64 di,.str pb]),(71,.cells [.int .i64 0,.str [],.bool false,.str []]),(70,.cells [.ptr 67 0])]++Qn S1 T1,74⟩) bf en (Qo hT) (Qo dz) (by simp[Qe,ah]) aJ av av rfl ?_ ?_ ?_
   ·exact Qi @Yl
   ·unfold Ju;refine To.qS dz (L8 dz) aJ aJ av av av (fun b h1 h2=>?_) ?_
    ·rcases (by omega:b=70\/b=71\/b=72\/b=73) with rfl|rfl|rfl|rfl<;>rfl
    ·simp[Qs,Qe,ah,look,aB,ay,Dp,lw]
   refine Qa ?_;refine Xc yr ?_;refine Qa ?_;unfold Rp.enc;exact ⟨(),To.drop (ex:=[(71,_),(73,_),(72,_),(71,_),(70,_)]) (Qo dz) av av (by simp[Qs,Qe,ah,look,aB,ay])⟩
  rw[aa af]at hx;cases fH:S.loose with
  | false =>
   rw[fH]at yh hx;refine Qd (An @cq (An @aY (An @yh @ke))) ?_;refine zI (An @cq (An @aY @yh)) ?_;have H4:=L8 (S:=S) hT;refine qk (p:=[67]) (s':=⟨[(1,.str f),(2,.ptr 70 0),(4,.ptr 71 0),(5,.ptr 72 0),(8,.ptr 73 0),(90,.bool true),(94,.dV true (.sl 1 69 0 S.fl.length S.fl.length)),(95,.dV true (.cl 97 [.ptr 70 0,.ptr 73 0,.ptr 72 0]))],[(73,.cells [.int .i64 mp,.int .i64 ms,.int .i64 mi,.int .i64 ma,.int .i64 mt]),(72,.cells [.int .i64 p1,.int .i64 p2,.int .i64 p3,.int .i64 p4,.int .i64 p5,.int .i64 p6,.int .i64 p7,.int .i64 p8,.int .i64 p9,.int .i64 dh,.int .i64 di,.str pb]),(71,.cells [.int .i64 0,.str [],.bool false,.str []]),(70,.cells [.ptr 67 0])]++Qn S T,74⟩) bf ?_ ?_
   ·refine To.Bh (ex:=[(73,_),(73,_),(72,_),(72,_),(71,_),(70,_)]) (Qo hT) H4 aJ av av av (fun b h1 h2=>?_) ?_
    ·rcases (by omega:b=70\/b=71\/b=72\/b=73) with rfl|rfl|rfl|rfl<;>rfl
    ·simp[Qs,Qe,ah,look,aB,ay]
   have tA:=Xdr c.gl (l:=S.keys) (kb:=69) (f:=97) (caps:=[.ptr 70 0,.ptr 73 0,.ptr 72 0]) (b:=bK S ⟨mp,ms,mi,ma,mt⟩ p2) H4 (by simp[NS.keys];omega) aJ (fun n=>rfl) (by simp[ah,Qe]) (fun x hx=>by
    obtain ⟨q,hq,rfl⟩:=mem_map.1 hx;rw[Sq hS.c4 hq];exact Yc3 c.gl (p:=⟨p1,p2,p3,p4,p5,p6,p7,p8,p9,dh,di,pb⟩) hS.toNJ H4 (fun n=>rfl) (fun n=>rfl) (fun n=>rfl) (fun n=>rfl) (fun n=>rfl) hq)
   rw[Yhf hS.c4,show S.keys.length=S.fl.length by simp[NS.keys]]at tA;refine tn (v:=false) (ex:=[]) tA H4 H4 (by simp[Qe]) aJ av rfl ?_ ?_
   ·exact Qi @Yl
   generalize (S.fl.any fun q=>decide (q.2.map=⟨mp,ms,mi,ma,mt⟩)&&q.2.rem==p2)=any at *
   refine Qa ?_;refine Qc ?_ ?_<;>intro h7
   ·subst h7;rw[am ⟨rfl,rfl⟩]at hx;subst hx;obtain rfl:=ha (by first|exact h1|simp[bN]);unfold bN Rp.enc;refine Qd @aW ?_;exact ⟨(),To.drop (ex:=[(71,_),(73,_),(72,_),(71,_),(70,_)]) (Qo hT) av av (by simp[Qs,Qe,ah,look,aB,ay])⟩
   rw[aa (by simpa using h7)]at hx;refine Qd (An @cq (An @aY @ke)) ?_;refine Qc ?_ ?_<;>intro h8
   ·rw[am af]at hx;subst hx;obtain rfl:=ha (by first|exact h1|simp[bN]);unfold bN Rp.enc;refine Qd @aW ?_;exact ⟨(),To.drop (ex:=[(71,_),(73,_),(72,_),(71,_),(70,_)]) (Qo hT) av av (by simp[Qs,Qe,ah,look,aB,ay])⟩
   ·rw[aa af]at hx;subst hx;have en:=(hb rfl).2 af;generalize NS.begin S _=S1 at *
    unfold Fl.enc Zj at en;dsimp only at en;refine Qd (An @cq (An @aY @ke)) ?_;refine uJ (v:=false) (pp:=[67]) (ex:=[(73,_),(72,_),(71,_),(70,_)]) (s3:=⟨[(1,.str f),(4,.ptr 71 0),(8,.ptr 73 0)],[(73,.cells [.int .i64 mp,.int .i64 ms,.int .i64 mi,.int .i64 ma,.int .i64 mt]),(72,.cells [.int .i64 p1,.int .i64 p2,.int .i64 p3,.int .i64 p4,.int .i64 p5,.int .i64 p6,.int .i64 p7,.int .i64 p8,.int .i64 p9,.int .i64 dh,.int .i64 di,.str pb]),(71,.cells [.int .i64 0,.str [],.bool false,.str []]),(70,.cells [.ptr 67 0])]++Qn S1 T1,74⟩) bf en (Qo hT) (Qo dz) (by simp[Qe,ah]) aJ av av rfl ?_ ?_ ?_
    ·exact Qi @Yl
    ·unfold Ju;refine To.qS dz (L8 dz) aJ aJ av av av (fun b h1 h2=>?_) ?_
     ·rcases (by omega:b=70\/b=71\/b=72\/b=73) with rfl|rfl|rfl|rfl<;>rfl
     ·simp[Qs,Qe,ah,look,aB,ay,Dp,lw]
    refine Qa ?_;refine Xc yr ?_;refine Qa ?_;unfold Rp.enc;exact ⟨(),To.drop (ex:=[(71,_),(73,_),(72,_),(71,_),(70,_)]) (Qo dz) av av (by simp[Qs,Qe,ah,look,aB,ay])⟩
  | true =>
   rw[fH]at yh hx;rw[aa av]at hx;refine Qd (An @cq (An @aY @yh)) ?_;refine jz (An @cq (An @aY @yh)) ?_;refine Qa ?_;refine Yc ?_;refine Qd (An @cq (An @aY @ke)) ?_;refine Qc ?_ ?_<;>intro h8
   ·rw[am af]at hx;subst hx;obtain rfl:=ha (by first|exact h1|simp[bN]);unfold bN Rp.enc;refine Qd @aW ?_;exact ⟨(),To.drop (ex:=[(71,_),(73,_),(73,_),(72,_),(72,_),(71,_),(70,_)]) (Qo hT) av av (by simp[Qs,Qe,ah,look,aB,ay])⟩
   ·rw[aa af]at hx;subst hx;have en:=(hb rfl).2 af;generalize NS.begin S _=S1 at *
    unfold Fl.enc Zj at en;dsimp only at en;refine Qd (An @cq (An @aY @ke)) ?_;refine uJ (v:=false) (pp:=[67]) (ex:=[(73,_),(73,_),(72,_),(72,_),(71,_),(70,_)]) (s3:=⟨[(1,.str f),(4,.ptr 71 0),(8,.ptr 73 0)],[(73,.cells [.int .i64 mp,.int .i64 ms,.int .i64 mi,.int .i64 ma,.int .i64 mt]),(72,.cells [.int .i64 p1,.int .i64 p2,.int .i64 p3,.int .i64 p4,.int .i64 p5,.int .i64 p6,.int .i64 p7,.int .i64 p8,.int .i64 p9,.int .i64 dh,.int .i64 di,.str pb]),(71,.cells [.int .i64 0,.str [],.bool false,.str []]),(70,.cells [.ptr 67 0])]++Qn S1 T1,74⟩) bf en (Qo hT) (Qo dz) (by simp[Qe,ah]) aJ av av rfl ?_ ?_ ?_
    ·exact Qi @Yl
    ·unfold Ju;refine To.qS dz (L8 dz) aJ aJ av av av (fun b h1 h2=>?_) ?_
     ·rcases (by omega:b=70\/b=71\/b=72\/b=73) with rfl|rfl|rfl|rfl<;>rfl
     ·simp[Qs,Qe,ah,look,aB,ay,Dp,lw]
    refine Qa ?_;refine Xc yr ?_;refine Qa ?_;unfold Rp.enc;exact ⟨(),To.drop (ex:=[(71,_),(73,_),(72,_),(71,_),(70,_)]) (Qo dz) av av (by simp[Qs,Qe,ah,look,aB,ay])⟩
def Yhy (gl:Nat->AV)(S:NS)(T:WT)(f:List UInt8)(x:Rp×NS):Prop:=∃ T' D',WI T' x.2.now D'/\D'.Perm x.2.aZ/\(x.1.code≠0->T'=T)/\(x.1.code=0->∀ m,S.tb.maps.find? (Jd (aC f).ae ((aC f).dst-3405803777) (aC f).aw)=some m ->
   (∀ q ∈ S.fl,S.findF m (aC f).aF (aC f).aj=q.1->GD Tryz.prog gl 93 [.ptr 67 0,.int .i64 q.1,.agg (aC f).enc,.bool true] (Qn S T) 70 [67] (.aR []) (Qn (S.goes q.1 (aC f) true) T')) /\
   (S.findF m (aC f).aF (aC f).aj=0->GD Tryz.prog gl 91 [.ptr 67 0,.agg (Fl.enc ⟨m,(aC f).aF,(aC f).aj,2,0,0⟩)] (Qn S T) 70 [67] (.aR []) (Qn (S.begin ⟨m,(aC f).aF,(aC f).aj,2,0,0⟩) T')))
def Xn0 (S:NS)(T:WT)(D:List Tm)(hS:NI S)(nK:S.bH<=1000000)(hW:WI T S.now D)(hD:D.Perm S.aZ)(f:List UInt8)(hf:f.length<=140737488351232):∃ T' D',WI T' (S.aH f).2.now D'/\D'.Perm (S.aH f).2.aZ /\
  GD Tryz.prog gl 59 [.ptr 67 0,.str f] (Qn S T) 70 [67] (.agg (S.aH f).1.enc) (Qn (S.aH f).2 T'):=by
 have key:∀ x,S.aH f=x->Yhy gl S T f x:=by
  intro x hx;have stay:∀ r:Rp,r.code≠0->x=(r,S)->Yhy gl S T f x:=fun r hr e=>by
   subst e;exact ⟨T,D,hW,hD,fun _=>rfl,fun h=>(hr h).elim⟩
  rw[Sr]at hx;split at hx
  ·rename_i h;exact stay _ h hx.symm
  split at hx
  ·exact stay (bN 7) aJ hx.symm
  split at hx
  ·exact stay (bN 4) aJ hx.symm
  split at hx
  ·exact stay (bN 12) aJ hx.symm
  split at hx
  ·exact stay (bN 7) aJ hx.symm
  rename_i m hm;split at hx
  ·rename_i hk;obtain ⟨q,hq,e,_⟩:=G0 hk;obtain ⟨T1,D1,dP,l6,hg⟩:=Qxj gl S T D hS hW hD q hq (aC f) true;subst hx;rw[e];refine ⟨T1,D1,dP,l6,fun h=>(h rfl).elim,fun _ m' Ay=>?_⟩;obtain rfl:=Option.some.inj (hm.symm.trans Ay);exact ⟨fun q' db e'=>by rw[show q'.1=q.1 from e'.symm.trans e];exact hg,fun e'=>(hk e').elim⟩
  rename_i hk;split at hx
  ·exact stay (bN 11) aJ hx.symm
  split at hx
  ·exact stay (bN 11) aJ hx.symm
  rename_i h8;obtain ⟨T1,D1,dP,l6,hg⟩:=Qsz gl S T D hS.toNJ.nb nK hW hD af m (aC f).aF (aC f).aj 2;subst hx;refine ⟨T1,D1,dP,l6,fun h=>(h rfl).elim,fun _ m' Ay=>?_⟩;obtain rfl:=Option.some.inj (hm.symm.trans Ay);exact ⟨fun q' db e'=>absurd (by rw[e'];have:=(hS.ids q' db).1;omega) hk,fun _=>hg⟩
 obtain ⟨T',D',h1,h2,h3,h4⟩:=key _ rfl;exact ⟨T',D',h1,h2,Yjm gl S T T' hS hW.wf h1.wf f hf _ rfl h3 h4⟩
def Xwr (p:Int)(r:List AV):PS Tryz.prog gl 92 [.agg (.int .i64 p::r)] (.int .i64 (if p=6 then 1 else 2)):=by
 refine Xvb.ps (ap rfl) (by simp[Qe]) fun c hN hg=>?_
 conv in aG _ _=>cbv
 refine Qa ?_
 (repeat' (first|(refine Qc ?_ ?_<;>intro hh<;>exact Qp) ))
 all_goals simp_all
def Xlt (p:Pk):PS Tryz.prog gl 87 [.agg p.enc] (.bool (yg p.ae p.flags)):=by
 refine Xp6.ps (ap rfl) (by simp[Qe]) fun c hN hg=>?_
 conv in aG _ _=>cbv
 obtain ⟨p1,p2,p3,p4,p5,p6,p7,p8,p9,dh,di,pb⟩:=p;unfold Pk.enc yg;dsimp only;refine Qa ?_
 (refine Qc (fun h1=>?_) (fun h1=>?_)<;>try exact h1.elim)
 ·subst h1;exact Qp
 refine Qa ?_
 (refine Qc (fun h2=>?_) (fun h2=>?_)<;>try exact h2.elim)
 ·subst h2;exact Qp
 refine Qa ?_;by_cases h3:p1=17
 ·subst h3;rfl
 ·rw[aa h3,aa h1];simp[h2,h3]
section
variable {P:Program}{c:Cx}
def Sv {s s2:St}(e:s.fs=s2.fs)(h:Yo P c o r0 K s2):Yo P c o r0 K s:=by
 unfold Yo MW Il at h ⊢;rw[e];exact h
def Xlm {anc:List Nat}   {fs:List bc}  {s s2:St}(e:s.fs=s2.fs)(h:Yz P c anc o r0 fs K s2):Yz P c anc o r0 fs K s:=by
 unfold Yz MX at h ⊢;rw[e];exact h
end
def L9 {A B:List (Nat×Bk)}{S S':NS}{T:WT}  {t:List (Nat×AV)}(ib:S'.fl=S.fl)(hA:∀ q ∈ A,q.1≠67)(hB:∀ q ∈ B,q.1≠67):(⟨t,A++((67,.cells S'.cells)::(B++Qn S T)),n⟩:St).fs=(⟨t,(A++B)++Qn S' T,n⟩:St).fs:=by
 refine pj (fun _=>rfl) fun b=>?_;show Qb _ n b=Qb _ n b;by_cases h:b=67
 ·subst h;rw[Xl hA,Qf,am rfl,append_assoc,Xl hA,Xl hB];rfl
 ·have e1:Qb ((67,Bk.cells S'.cells)::(B++Qn S T)) n b=Qb (B++Qn S' T) n b:=by
   rw[Qf,aa fun e=>h e.symm];refine Cv ?_;unfold Qn NS.keys;rw[ib];show Qb ((67,_)::_) n b=Qb ((67,_)::_) n b;rw[Qf,aa fun e=>h e.symm]
   conv=>rhs;rw[Qf,aa fun e=>h e.symm]
  rw[append_assoc];exact Cv e1
section
variable {P:Program}{c:Cx}{h h1 ex:List (Nat×Bk)}{m n:Nat}{v:Bool}{d:Option Nat}{kk:PK}{f:FuncId}{xs:List TV}{args:List AV}{r:AV}{t:List (Nat×AV)}{r0:List bB}{K:St->Prop}
def Yd6 {pp:List Nat}{s3:St}(bf:∀ q ∈ c.gh,q.1 ∈ pp)(hq:GD P c.gl f args h m (List.range m) r h1)(H:HL h m)(H1:HL h1 m)(hr:Qe m r)(hn:m<=n)(hex:∀ q ∈ ex,m<=q.1/\q.1<n)(hk:kk=(bif v then .cC else .call f))
  (hc:Qr none (aD c.gl (⟨t,ex++h,n⟩:St).fs xs)/\lP v f ((aD c.gl (⟨t,ex++h,n⟩:St).fs xs).map Qh)=some (f,args)/\ah m args) (jj:To pp (St.ca ⟨t,ex++h1,n+m⟩ d r) s3) (hx:XP P c r0 K s3):Yo P c (.pd d kk xs none) r0 K ⟨t,ex++h,n⟩ :=
 uJ bf hq H H1 hr hn (fun b hb=>List.mem_range.1 hb) hex hk hc (by rw[Xs0 H1 hr];exact jj) hx
end
def NS.Hb {S:NS}(h:S.tb.wf){tb:Tb}(hw:tb.wf):Ym S.cells 0 tb.enc=({ S with tb:=tb }:NS).cells:=by
 unfold Ym NS.cells;rw[List.take_zero,nil_append,Nat.zero_add,Tb.au hw,<- Tb.au h,List.drop_left];rfl
def Xte (ae aN:Int)(a w:Nat)(addr port:Int):(Uj f ae aN a w addr port).length=f.length:=by
 have dH:∀ b pr m n,(tl b pr m n).length=b.length:=fun b pr m n=>by unfold tl;split<;>simp[KB]
 unfold Uj;dsimp only;split<;>simp only[Ph,Uu,dH]
def Qtx (side addr port:Int):(Wx f side addr port).length<=f.length:=by
 unfold Wx;split
 ·simp
 ·split
  ·simp
  ·rw[Xte];exact Nat.le_refl _
theorem Sw:cG id [67] N 67=67:=rfl
section
variable {P:Program}{c:Cx}{h h1 ex:List (Nat×Bk)}{m n:Nat}{v:Bool}{d:Option Nat}{kk:PK}{f:FuncId}{xs:List TV}{args:List AV}{r:AV}{t:List (Nat×AV)}{r0:List bB}{K:St->Prop}
def Sx {ι:Type}(J:ι->Prop)(st:ι->St){A:TC}{Q:EX->St->Prop}{s:St}(h2:∀ i,J i->Q .normal (st i))(h1:∀ Q':EX->St->Prop,(∀ i,J i->Q' .normal (st i))->(∀ s,Q .ret s->Q' .ret s)->xw P c A Q' s):xw P c A Q s:=h1 Q h2 fun _ h=>h
def Xom {p:List Nat}(hq:GD P c.gl f args h m p r h1)(H:HL h m)(H1:HL h1 m)(hr:Qe m r)(hn:m<=n)(hp:∀ b ∈ p,b<m)(hex:∀ q ∈ ex,m<=q.1/\q.1<n)(hk:kk=(bif v then .cC else .call f))
  (hc:Qr none (aD c.gl (⟨t,ex++h,n⟩:St).fs xs)/\lP v f ((aD c.gl (⟨t,ex++h,n⟩:St).fs xs).map Qh)=some (f,args)/\ah m args) (hx:XP P c r0 K (Ju t ex h1 id p m n d r)):Yo P c (.pd d kk xs none) r0 K ⟨t,ex++h,n⟩:=by
 have:=OR (d:=d) (r0:=r0) (K:=K) hq (LU (v:=v) H hn hp hex hc) hk H1 hr hx;rw[Wd]at this;exact this
end
theorem Sy (S:NS)(f:List UInt8)(m:Mp)(es:List Ev):S.ff f m es =
  if 0≤(aC f).dst - 3405803777∧(aC f).dst - 3405803777 < 3 then
   (⟨((S.log es).aH (Wx f 0 (3405803777+m.a) m.port)).1.code,((S.log es).aH (Wx f 0 (3405803777+m.a) m.port)).1.frame,((S.log es).aH (Wx f 0 (3405803777+m.a) m.port)).1.inner,nP S.told es⟩,((S.log es).aH (Wx f 0 (3405803777+m.a) m.port)).2)
  else (⟨0,Wx f 0 (3405803777+m.a) m.port,false,nP S.told es⟩,S.log es):=rfl
noncomputable def NS.oQ (S:NS)(f:List UInt8)(draw:Int):(Rp×NS)×Option (Mp×List Ev×NS) :=
 if cH f≠0 then ((bN (cH f),S),none) else
 if (aC f).aF-167772161<0\/8<=(aC f).aF-167772161 then ((bN 7,S),none) else
 if (aC f).ae=1/\(aC f).flags≠8 then ((bN 4,S),none) else
 if (aC f).aN=1 then ((bN 12,S),none) else
 if S.c5 (aC f)≠0 then (match S.fwd (aC f) with
  | some m=>((S.goes (S.c5 (aC f)) (aC f) false).ff f m [],some (m,[],S.goes (S.c5 (aC f)) (aC f) false))
  | none=>((bN 0,S),none))
 else if yg (aC f).ae (aC f).flags=false then ((bN 11,S),none) else
 if 48<=S.fl.length then (S.refuse f 6,none) else
 if (S.tb.cd (aC f).ae ((aC f).aF-167772161) (aC f).aj draw).2.2.2≠0 then (S.refuse f (S.tb.cd (aC f).ae ((aC f).aF-167772161) (aC f).aj draw).2.2.2,none) else
 (S.opened f (S.tb.cd (aC f).ae ((aC f).aF - 167772161) (aC f).aj draw),some ((S.tb.cd (aC f).ae ((aC f).aF - 167772161) (aC f).aj draw).2.1,
  (if (S.tb.cd (aC f).ae ((aC f).aF-167772161) (aC f).aj draw).2.2.1 then [({ S with tb:=(S.tb.cd (aC f).ae ((aC f).aF-167772161) (aC f).aj draw).1 }:NS).ev (S.tb.cd (aC f).ae ((aC f).aF-167772161) (aC f).aj draw).2.1 false] else []),
  ({ S with tb:=(S.tb.cd (aC f).ae ((aC f).aF-167772161) (aC f).aj draw).1 }:NS).begin ⟨(S.tb.cd (aC f).ae ((aC f).aF-167772161) (aC f).aj draw).2.1,(aC f).dst,(aC f).aw,Wr (aC f).ae,0,0⟩))
def Yf1 (S:NS)(f:List UInt8)(d:Int):(S.oQ f d).1=S.out f d:=by
 rw[Sn];unfold NS.oQ
 (repeat' split)<;>first|rfl|(simp_all;done)
structure wB (gl:Nat->AV)(S:NS)(T T1 T':WT)(f:List UInt8)(p:Pk)(x:Tb)(m:Mp)(es:List Ev)(S1:NS):Prop where
 nj:NJ S1
 told:S1.told<=100000
 len:es.length<=64
 bR:∀ e ∈ es,Je e.t e.s e.a e.b=true/\e.t=(es.headD ⟨0,0,0,0,false⟩).t
 a:0<=m.a/\m.a<3
 goes:S.c5 p≠0->GD Tryz.prog gl 93 [.ptr 67 0,.int .i64 (S.c5 p),.agg p.enc,.bool false] (Qn S T) 70 [67] (.aR []) (Qn S1 T1)
 beg:S.c5 p=0->Fx m/\GD Tryz.prog gl 91 [.ptr 67 0,.agg (Fl.enc ⟨m,p.dst,p.aw,Wr p.ae,0,0⟩)] (Qn { S with tb:=x } T) 70 [67] (.aR []) (Qn S1 T1)
 aH:0<=p.dst-3405803777/\p.dst-3405803777<3->GD Tryz.prog gl 59 [.ptr 67 0,.str (Wx f 0 (3405803777+m.a) m.port)] (Qn (S1.log es) T1) 70 [67] (.agg ((S1.log es).aH (Wx f 0 (3405803777+m.a) m.port)).1.enc) (Qn ((S1.log es).aH (Wx f 0 (3405803777+m.a) m.port)).2 T')
 out:¬ (0<=p.dst-3405803777/\p.dst-3405803777<3)->T'=T1
structure OW where
 t:List (Nat×AV)
 ex:List (Nat×Bk)
 N:Nat
 n:Nat
 m:Mp
 es:List Ev
 S1:NS
def OW.h (T1:WT)(i:OW):List (Nat×Bk):=i.ex++Qq (cG id [67] i.N) (Qn i.S1 T1)
structure OJ (T1:WT)(f:List UInt8)(pc ac:List AV)(x:Rp×NS)(y:Option (Mp×List Ev×NS))(i:OW):Prop where
 y:y=some (i.m,i.es,i.S1)
 x:x=i.S1.ff f i.m i.es
 k0:look i.t 0=.ptr 67 0
 k3:look i.t 3=.ptr 70 0
 k4:look i.t 4=.ptr 71 0
 k5:look i.t 5=.ptr 72 0
 k8:look i.t 8=.ptr 73 0
 wC:Wk (look i.t 11) (.isl i.es.length (Xj i.es))
 ex:∀ q ∈ i.ex,70<=q.1/\q.1<i.N
 N:74<=i.N
 Ma:∀ n,Qb (i.h T1) n 70=.cells ac
 Sz:∀ n,Qb (i.h T1) n 71=.cells [.int .i64 0,.str [],.bool false,.str []]
 SA:∀ n,Qb (i.h T1) n 72=.cells pc
 Mb:∀ n,Qb (i.h T1) n 73=.cells [.int .i64 i.m.ae,.int .i64 i.m.s,.int .i64 i.m.aH,.int .i64 i.m.a,.int .i64 i.m.port]
def Yeq (gl:Nat->AV)(h0:gl 0=.xp (Ql Xy) 0)(S:NS)(T T1 T':WT)(D:List Tm)(hS:NI S)(hW:WI T S.now D)(dz:T1.wf)(fB:T'.wf)(ak an ad:Int)(f:List UInt8)(hf:f.length<=140737488351232)(x:Rp×NS)(y:Option (Mp×List Ev×NS))(hx:S.oQ f ad=(x,y))(hN:y=none->T'=T)
  (hY:∀ m es S1,y=some (m,es,S1)->wB gl S T T1 T' f (aC f) (S.tb.cd (aC f).ae ((aC f).aF-167772161) (aC f).aj ad).1 m es S1) :
  GD Tryz.prog gl 58 [.ptr 67 0,.agg [.int .i64 ak,.int .i64 an,.int .i64 ad,.str f]] (Qn S T) 70 [67] (.agg x.1.enc) (Qn x.2 T'):=by
 have hT:=hW.wf;refine Yd0.gq (ap rfl) (Ub hT) av fun c bf hg=>?_;subst hg
 conv in aG _ _=>cbv
 have aW:=fun n b hb=>Ko (S:=S) hT n b hb;have cq:=lr S T;have aY:=NS.aU hS.wf;have ea:=NS.fE hS.wf;have ke:=NS.ke hS.wf;have Bi:=hS.len;have hP:=J8 c.gl f hf;obtain ⟨Z1,rL,rk⟩:∃ Z:Int,(3405803776:Int)=Z/\0<=Z/\Z<=4294967296:=⟨_,rfl,by decide,by decide⟩
 obtain ⟨Z2,uM,cI⟩:∃ Z:Int,(167772160:Int)=Z/\0<=Z/\Z<=4294967296:=⟨_,rfl,by decide,by decide⟩
 obtain ⟨Z3,Mc,Md⟩:∃ Z:Int,(3405803777:Int)=Z/\0<=Z/\Z<=4294967296:=⟨_,rfl,by decide,by decide⟩
 rw[rL,uM,Mc];obtain ⟨p,e,pD,yq,vD⟩:=L7 f;rw[pD]at hP;unfold NS.oQ at hx;obtain ⟨p1,p2,p3,p4,p5,p6,p7,p8,p9,dh,di,pb⟩:=p;unfold Pk.enc at hP;dsimp only at hP;refine Qd @aW ?_
 ((first|apply Yy|apply Yh|apply Xo|apply Xg)<;>(first|exact hP|(refine XG ?_;first|exact rfl|exact True.intro|((try with_reducible and_intros);all_goals try first|refine zm ?_|exact CL))))
 exact Qi @aW;refine Qc ?_ ?_<;>intro h1
 ·have he:=vD h1;subst he;rw[am h1]at hx;obtain ⟨rfl,rfl⟩:=Prod.mk.inj hx;obtain rfl:=hN rfl;unfold bN Rp.enc at *
  refine Qd @aW ?_;exact ⟨(),To.drop (ex:=[(71,_),(72,_),(72,_),(71,_),(70,_)]) (Qo hT) av av (by simp[Qs,Qe,ah,look,aB,ay])⟩
 obtain ⟨he,hp,sD,oP⟩:=yq h1;rw[aa (by rw[he];simp),hp]at hx;rw[hp]at hY;unfold Jl at oP;dsimp only at hx hY sD oP;refine Qa ?_;refine Qc ?_ ?_<;>intro h2
 ·rw[am af]at hx;obtain ⟨rfl,rfl⟩:=Prod.mk.inj hx;obtain rfl:=hN rfl;unfold bN Rp.enc at *
  refine Qd @aW ?_;exact ⟨(),To.drop (ex:=[(71,_),(72,_),(72,_),(71,_),(70,_)]) (Qo hT) av av (by simp[Qs,Qe,ah,look,aB,ay])⟩
 rw[aa af]at hx;refine Qa ?_;refine Qc ?_ ?_<;>intro h3
 ·rw[am af]at hx;obtain ⟨rfl,rfl⟩:=Prod.mk.inj hx;obtain rfl:=hN rfl;unfold bN Rp.enc at *
  refine Qd @aW ?_;exact ⟨(),To.drop (ex:=[(71,_),(72,_),(72,_),(71,_),(70,_)]) (Qo hT) av av (by simp[Qs,Qe,ah,look,aB,ay])⟩
 rw[aa af]at hx;refine Qa ?_;refine Qc ?_ ?_<;>intro h4
 ·rw[am af]at hx;obtain ⟨rfl,rfl⟩:=Prod.mk.inj hx;obtain rfl:=hN rfl;unfold bN Rp.enc at *
  refine Qd @aW ?_;exact ⟨(),To.drop (ex:=[(71,_),(72,_),(72,_),(71,_),(70,_)]) (Qo hT) av av (by simp[Qs,Qe,ah,look,aB,ay])⟩
 rw[aa af]at hx;have jq:=Qvv c.gl S.tb hS.wf (by have:=uz (Kb.2 hS.gt);omega) p1 (p2-Z2-1) p3;rw[show p2-167772161=p2-Z2-1 by omega]at hx hY;refine Qd (An @cq (An @aY @ea)) ?_;obtain ⟨m,th,Gs,hth,htn⟩:∃ m th,gu (S.tb.maps.find? (Ya p1 (p2-Z2-1) p3))=.aR [.agg (Mp.enc m),.bool th]/\(th=true->S.fwd ⟨p1,p2,p3,p4,p5,p6,p7,p8,p9,dh,di,pb⟩=some m/\S.c5 ⟨p1,p2,p3,p4,p5,p6,p7,p8,p9,dh,di,pb⟩=S.findF m p4 p5)/\(th=false->S.c5 ⟨p1,p2,p3,p4,p5,p6,p7,p8,p9,dh,di,pb⟩=0):=by
  have e1:S.fwd ⟨p1,p2,p3,p4,p5,p6,p7,p8,p9,dh,di,pb⟩=S.tb.maps.find? (Ya p1 (p2-Z2-1) p3):=by
   rw[show p2-Z2-1=p2-167772161 by omega];rfl
  unfold NS.c5;rw[e1];cases S.tb.maps.find? (Ya p1 (p2-Z2-1) p3) with
  | none=>exact ⟨cQ,false,rfl,by simp,fun _=>rfl⟩
  | some m=>exact ⟨m,true,rfl,fun _=>⟨rfl,rfl⟩,by simp⟩
 rw[Gs]at jq;clear Gs;have kj:=Qy4 c.gl S T hS.toNJ hT m p4 p5;have Lr:=fun h=>@G0 S m p4 p5 h;generalize SB:S.c5 ⟨p1,p2,p3,p4,p5,p6,p7,p8,p9,dh,di,pb⟩=k at *
 obtain ⟨m1,m2,m3,m4,m5⟩:=m;unfold Mp.enc at jq kj;dsimp only at jq kj;refine Qj jq @aW ?_
 refine Sx (fun y:List (Nat × AV) × Nat=>look y.1 0=.ptr 67 0∧look y.1 3=.ptr 70 0∧look y.1 4=.ptr 71 0∧look y.1 5=.ptr 72 0∧look y.1 7=.int .i64 (p2 - Z2 - 1)∧look y.1 8=.ptr 73 0∧look y.1 10=.int .i64 k∧74≤y.2)
  (fun y=>⟨y.1,[(73,.cells [.int .i64 m1,.int .i64 m2,.int .i64 m3,.int .i64 m4,.int .i64 m5]),(73,.cells [.int .i64 0,.int .i64 0,.int .i64 0,.int .i64 0,.int .i64 0]),(72,.cells [.int .i64 p1,.int .i64 p2,.int .i64 p3,.int .i64 p4,.int .i64 p5,.int .i64 p6,.int .i64 p7,.int .i64 p8,.int .i64 p9,.int .i64 dh,.int .i64 di,.str pb]),(72,.cells [.int .i64 0,.int .i64 0,.int .i64 0,.int .i64 0,.int .i64 0,.int .i64 0,.int .i64 0,.int .i64 0,.int .i64 0,.int .i64 0,.int .i64 0,.str []]),(71,.cells [.int .i64 0,.str [],.bool false,.str []]),(70,.cells [.int .i64 ak,.int .i64 an,.int .i64 ad,.str f])]++Qn S T,y.2⟩) (fun y hy=>?_) fun Q' hQ hR=>?_
 rotate_left
 ·refine Qc ?_ ?_<;>intro h5
  ·obtain ⟨zQ,iU⟩:=hth h5;subst iU;refine Qd @aW ?_;refine tn (v:=false) (ex:=[(73,_),(73,_),(72,_),(72,_),(71,_),(70,_)]) kj (Qo hT) (Qo hT) (by simp[Qe]) aJ av rfl ?_ ?_
   ·exact Qi (An @Yl @aW)
   refine Qa ?_;exact hQ (_,_) ⟨rfl,rfl,rfl,rfl,rfl,rfl,rfl,Nat.le_of_ble_eq_true rfl⟩
  ·obtain rfl:=htn h5;refine Qa ?_;exact hQ (_,_) ⟨rfl,rfl,rfl,rfl,rfl,rfl,rfl,Nat.le_of_ble_eq_true rfl⟩
 obtain ⟨t,n⟩:=y;obtain ⟨k0,k3,k4,k5,k7,k8,jF,hn⟩:=hy;dsimp only at k0 k3 k4 k5 k7 k8 jF hn ⊢;refine Qd @jF ?_;refine Sx (OJ T1 f [.int .i64 p1,.int .i64 p2,.int .i64 p3,.int .i64 p4,.int .i64 p5,.int .i64 p6,.int .i64 p7,.int .i64 p8,.int .i64 p9,.int .i64 dh,.int .i64 di,.str pb] [.int .i64 ak,.int .i64 an,.int .i64 ad,.str f] x y) (fun i=>⟨i.t,i.h T1,i.n⟩) (fun i hi=>?_) fun Q' hQ hR=>?_;rotate_left
 ·refine Qc ?_ ?_<;>intro h6
  ·subst h6;rw[aa av]at hx;have H4:∀ {m:List AV},bX 74 (.cells m)→∀ {S:NS} {T:WT},T.wf→HL ([(73,.cells m),(72,.cells [.int .i64 p1,.int .i64 p2,.int .i64 p3,.int .i64 p4,.int .i64 p5,.int .i64 p6,.int .i64 p7,.int .i64 p8,.int .i64 p9,.int .i64 dh,.int .i64 di,.str pb]),(71,.cells [.int .i64 0,.str [],.bool false,.str []]),(70,.cells [.int .i64 ak,.int .i64 an,.int .i64 ad,.str f])]++Qn S T) 74:=fun hm _ _ hT=>(((Qo hT).more (by simp[bX,ah,Qe])).more (by simp[bX,ah,Qe])).more (by simp[bX,ah,Qe]) |>.more hm
   refine Qd (An @aW @k5) ?_;refine qk (p:=[67]) (s':=⟨[(0,.ptr 67 0),(3,.ptr 70 0),(4,.ptr 71 0),(5,.ptr 72 0),(7,.int .i64 (p2-Z2-1)),(8,.ptr 73 0),(10,.int .i64 0),(11,.nils),(78,.agg [.int .i64 p1,.int .i64 p2,.int .i64 p3,.int .i64 p4,.int .i64 p5,.int .i64 p6,.int .i64 p7,.int .i64 p8,.int .i64 p9,.int .i64 dh,.int .i64 di,.str pb])],[(73,.cells [.int .i64 m1,.int .i64 m2,.int .i64 m3,.int .i64 m4,.int .i64 m5]),(72,.cells [.int .i64 p1,.int .i64 p2,.int .i64 p3,.int .i64 p4,.int .i64 p5,.int .i64 p6,.int .i64 p7,.int .i64 p8,.int .i64 p9,.int .i64 dh,.int .i64 di,.str pb]),(71,.cells [.int .i64 0,.str [],.bool false,.str []]),(70,.cells [.int .i64 ak,.int .i64 an,.int .i64 ad,.str f])]++Qn S T,74⟩) bf ?_ ?_
   ·refine To.Bh (ex:=[(73,_),(73,_),(72,_),(72,_),(71,_),(70,_)]) (Qo hT) (H4 (by simp[bX,ah,Qe]) hT) aJ av av av (fun b h1 h2=>?_) ?_
    ·rcases (by omega:b=70\/b=71\/b=72\/b=73) with rfl|rfl|rfl|rfl<;>rfl
    ·simp[Qs,Qe,ah,look,aB,ay,k0,k3,k4,k5,k7,k8,jF]
   have hB:=Xlt c.gl ⟨p1,p2,p3,p4,p5,p6,p7,p8,p9,dh,di,pb⟩;unfold Pk.enc at hB;dsimp only at hB;refine Xc hB ?_;refine Qc ?_ ?_<;>intro h7
   ·rw[am h7]at hx;obtain ⟨rfl,rfl⟩:=Prod.mk.inj hx;obtain rfl:=hN rfl;unfold bN Rp.enc at *
    refine Qd @aW ?_;refine hR _ ?_;refine Qa ?_;exact ⟨(),To.drop (ex:=[(71,_),(73,_),(72,_),(71,_),(70,_)]) (Qo hT) av av (by simp[Qs,Qe,ah,look,aB,ay])⟩
   rw[aa (by rw[h7];simp)]at hx;refine Qd (An @aW (An @cq (An @aY @ke))) ?_;refine Qc ?_ ?_<;>intro h8
   ·rw[am af]at hx;obtain ⟨rfl,rfl⟩:=Prod.mk.inj hx;obtain rfl:=hN rfl;have jk:=Qr7 c.gl S T' hS.toNJ hT f hf 6;generalize S.refuse f 6=rr at *
    obtain ⟨⟨r1,r2,r3,r4⟩,S1⟩:=rr;unfold Rp.enc at *
    dsimp only at *
    refine Qa ?_;refine tn (v:=false) (ex:=[(73,_),(72,_),(71,_),(70,_)]) jk (Qo hT) (Qo hT) (by simp[Qe,ah]) aJ av rfl ?_ ?_
    ·exact Qi @Yl
    refine Qa ?_;refine hR _ ?_;refine Qa ?_;exact ⟨(),To.drop (ex:=(71,_)::[(73,_),(72,_),(71,_),(70,_)]) (Qo hT) av av (by simp[Qs,Qe,ah,look,aB,ay])⟩
   rw[aa af]at hx;have hO:=Xuq c.gl S.tb hS.ok p1 (p2-Z2-1) p3 ad;have nR:(S.tb.cd p1 (p2-Z2-1) p3 ad).1.wf:=by
    obtain ⟨S0,oO⟩:∃ S0:Nat,p2-Z2-1=S0:=⟨(p2-Z2-1).toNat,by omega⟩
    rw[oO];exact (opened hS.gt hS.wf (Sk (p:=⟨p1,p2,p3,p4,p5,p6,p7,p8,p9,dh,di,pb⟩) sD af af oP.2.2.2.2.1.1 oP.2.2.2.2.1.2) ad).wf hS.wf
   have Dq:S.opened f (S.tb.cd p1 (p2-Z2-1) p3 ad)=(({ S with tb:=(S.tb.cd p1 (p2-Z2-1) p3 ad).1 }:NS).begin ⟨(S.tb.cd p1 (p2-Z2-1) p3 ad).2.1,p4,p5,Wr p1,0,0⟩).ff f (S.tb.cd p1 (p2-Z2-1) p3 ad).2.1 (if (S.tb.cd p1 (p2-Z2-1) p3 ad).2.2.1 then [({ S with tb:=(S.tb.cd p1 (p2-Z2-1) p3 ad).1 }:NS).ev (S.tb.cd p1 (p2-Z2-1) p3 ad).2.1 false] else []):=by
    unfold NS.opened;rw[hp]
   generalize S.tb.cd p1 (p2-Z2-1) p3 ad=oo at *
   obtain ⟨tb,⟨x0,x1,x2,x3,x4⟩,tk,oe⟩:=oo;unfold Uf Xr Mp.enc at hO;dsimp only at hO hx hY nR Dq;have aE:=Tb.au nR;have Ol:=Tb.bY tb;have oZ:tb.enc.take 30=tb.enc:=List.take_of_length_le (by rw[aE];decide);refine Qd (An @aW (An @cq (An @aY @ea))) ?_;refine Qj hO (An @aW @aE) ?_;refine Qd (An @aW @aE) ?_;refine Qc ?_ ?_<;>intro h9
   ·rw[am h9]at hx;obtain ⟨rfl,rfl⟩:=Prod.mk.inj hx;obtain rfl:=hN rfl;have jk:=Qr7 c.gl S T' hS.toNJ hT f hf oe;generalize S.refuse f oe=rr at *
    obtain ⟨⟨r1,r2,r3,r4⟩,S1⟩:=rr;unfold Rp.enc at *
    dsimp only at *
    refine Qa ?_;refine tn (v:=false) (ex:=[(75,_),(74,_),(75,_),(74,_),(73,_),(72,_),(71,_),(70,_)]) jk (Qo hT) (Qo hT) (by simp[Qe,ah]) aJ av rfl ?_ ?_
    ·exact Qi @Yl
    refine Qa ?_;refine hR _ ?_;refine Qa ?_;exact ⟨(),To.drop (ex:=(71,_)::[(75,_),(74,_),(75,_),(74,_),(73,_),(72,_),(71,_),(70,_)]) (Qo hT) av av (by simp[Qs,Qe,ah,look,aB,ay])⟩
   obtain rfl:=h9;rw[aa av,Dq]at hx;obtain ⟨tX,Dr⟩:=Prod.mk.inj hx;clear hx;have hs:=hY _ _ _ Dr.symm;obtain ⟨hxm,en⟩:=hs.beg SB;have dX:=NS.Hb hS.wf nR;have pZ:NB ({ S with tb:=tb }:NS):=hS.toNJ.nb.pS nR;have Hc:=Xwr c.gl p1 [.int .i64 p2,.int .i64 p3,.int .i64 p4,.int .i64 p5,.int .i64 p6,.int .i64 p7,.int .i64 p8,.int .i64 p9,.int .i64 dh,.int .i64 di,.str pb];generalize NS.begin _ _=S1 at *
   unfold Wr Fl.enc Zj at en;dsimp only at en;generalize (if p1=6 then (1:Int) else 2)=fi at *
   refine Qd (An @cq (An @aY (An @aE (An @oZ @dX)))) ?_;refine Qc ?_ ?_<;>intro fR
   ·subst fR;refine Qa ?_;have js:=Qtq c.gl { S with tb:=tb } T D pZ hW ⟨x0,x1,x2,x3,x4⟩ hxm false;unfold Mp.enc at js;dsimp only at js;refine Sv (L9 (A:=[(73,_)]) (B:=[(75,_),(74,_),(75,_),(74,_),(73,_),(72,_),(71,_),(70,_)]) (S:=S) (S':={ S with tb:=tb }) (T:=T) rfl av av) ?_;refine tn (v:=false) (ex:=(73,_)::[(75,_),(74,_),(75,_),(74,_),(73,_),(72,_),(71,_),(70,_)]) js (Qo hT) (Qo hT) (by simp[Qe,Uc]) aJ av rfl ?_ ?_
    ·exact Qi @Yl
    refine Qa ?_;refine Xc Hc ?_;refine Qa ?_;refine LV (v:=false) (ex:=(73,_)::[(75,_),(74,_),(75,_),(74,_),(73,_),(72,_),(71,_),(70,_)]) en (Qo hT) (Qo dz) (by simp[Qe,ah]) aJ av av rfl ?_ ?_
    ·exact Qi @Yl
    unfold Ju;refine Qa ?_;exact hQ ⟨_,(73,_)::[(75,_),(74,_),(75,_),(74,_),(73,_),(72,_),(71,_),(70,_)],_,_,_,_,S1⟩ ⟨Dr.symm,tX.symm,rfl,rfl,rfl,rfl,rfl,Wk.refl _,by simp,Nat.le_of_ble_eq_true rfl,fun _=>rfl,fun _=>rfl,fun _=>rfl,fun _=>rfl⟩
   ·subst fR;refine Qa ?_;refine Xc Hc ?_;refine Qa ?_;refine Xlm (L9 (A:=[(73,_)]) (B:=[(75,_),(74,_),(75,_),(74,_),(73,_),(72,_),(71,_),(70,_)]) (S:=S) (S':={ S with tb:=tb }) (T:=T) rfl av av) ?_;refine LV (v:=false) (ex:=(73,_)::[(75,_),(74,_),(75,_),(74,_),(73,_),(72,_),(71,_),(70,_)]) en (Qo hT) (Qo dz) (by simp[Qe,ah]) aJ av av rfl ?_ ?_
    ·exact Qi @Yl
    unfold Ju;refine Qa ?_;exact hQ ⟨_,(73,_)::[(75,_),(74,_),(75,_),(74,_),(73,_),(72,_),(71,_),(70,_)],_,_,_,_,S1⟩ ⟨Dr.symm,tX.symm,rfl,rfl,rfl,rfl,rfl,Wk.nils,by simp,Nat.le_of_ble_eq_true rfl,fun _=>rfl,fun _=>rfl,fun _=>rfl,fun _=>rfl⟩
  ·rw[am h6]at hx;have SC:th=true:=by
    cases wD:th with
    | true=>rfl
    | false=>exact absurd (htn wD) h6
   obtain ⟨zQ,iU⟩:=hth SC;rw[zQ]at hx;obtain ⟨tX,Dr⟩:=Prod.mk.inj hx;clear hx;have hs:=hY _ _ _ Dr.symm;have en:=hs.goes (by rw[SB];exact h6);rw[SB]at en;generalize NS.goes S _ _ _=S1 at *
   unfold Pk.enc at en;dsimp only at en;refine Qd (An @k0 (An @k5 @jF)) ?_;refine Xom (v:=false) (ex:=[(73,_),(73,_),(72,_),(72,_),(71,_),(70,_)]) en (Qo hT) (Qo dz) (by simp[Qe,ah]) af av (by simp;omega) rfl ?_ ?_
   ·exact Qi @Yl
   unfold Ju;refine Qa ?_;exact hQ ⟨_,[(73,_),(73,_),(72,_),(72,_),(71,_),(70,_)],_,_,_,_,S1⟩ ⟨Dr.symm,tX.symm,k0,k3,k4,k5,k8,Wk.nils,by simp;omega,hn,fun _=>rfl,fun _=>rfl,fun _=>rfl,fun _=>rfl⟩
 obtain ⟨t,ex,N,n,m,es,S1⟩:=i;obtain ⟨hy,wD,k0,k3,k4,k5,k8,wC,hex,hN4,Ma,Sz,SA,Mb⟩:=hi;unfold OW.h at *
 have hs:=hY _ _ _ hy;rw[Sy,hp]at wD;have lC:=Xeq c.gl h0 S1 T1 hs.nj dz hs.told es hs.len hs.bR;obtain ⟨SD,SE⟩:=hs.a;have aL:=hs.aH;have hou:=hs.out;obtain ⟨z1,z2,z3,z4,z5⟩:=m;dsimp only at wD aL hou SD SE k0 k3 k4 k5 k8 wC hex hN4 Ma Sz SA Mb ⊢;obtain ⟨E,hE⟩:∃ E,Xj es=E:=⟨_,rfl⟩
 have tB:∀ n,ah n E:=fun n=>by rw[<- hE];exact Uc n _
 have Me:∀ ρ,ay ρ E=E:=fun ρ=>by rw[<- hE,Zx];exact (List.map_congr_left fun v hv=>Ue (Xw.1 (Uc 0 es) v hv)).trans (List.map_id _)
 rw[hE]at lC wC;obtain ⟨tE,Ha⟩:=Xdo f 0 (Z3+z4) z5;have yr:=ZM c.gl f 0 (Z3+z4) z5 hf;rw[Ha]at yr;clear Ha;rw[Mc]at aL wD;generalize Wx f 0 (Z3+z4) z5=tf at *
 generalize S1.log es=S2 at *
 generalize nP S1.told es=L at *
 generalize es.length=le at *
 have HB:∀ {S:NS} {T:WT},T.wf->HL ([(73,.cells [.int .i64 z1,.int .i64 z2,.int .i64 z3,.int .i64 z4,.int .i64 z5]),(72,.cells [.int .i64 p1,.int .i64 p2,.int .i64 p3,.int .i64 p4,.int .i64 p5,.int .i64 p6,.int .i64 p7,.int .i64 p8,.int .i64 p9,.int .i64 dh,.int .i64 di,.str pb]),(71,.cells [.int .i64 0,.str [],.bool false,.str []]),(70,.cells [.int .i64 ak,.int .i64 an,.int .i64 ad,.str f])]++Qn S T) 74:=fun hT=>(((Qo hT).more (by simp[bX,ah,Qe])).more (by simp[bX,ah,Qe])).more (by simp[bX,ah,Qe]) |>.more (by simp[bX,ah,Qe])
 refine Qd (An @k3 (An @Ma (An @k8 @Mb))) ?_;refine qk bf (To.XV 11 (y:=.isl le E) wC) ?_;refine qk (p:=[67]) (s':=⟨[(0,.ptr 67 0),(3,.ptr 70 0),(4,.ptr 71 0),(5,.ptr 72 0),(8,.ptr 73 0),(11,.isl le E),(141,.str f),(144,.int .i64 (Z3+z4)),(146,.int .i64 z5)],[(73,.cells [.int .i64 z1,.int .i64 z2,.int .i64 z3,.int .i64 z4,.int .i64 z5]),(72,.cells [.int .i64 p1,.int .i64 p2,.int .i64 p3,.int .i64 p4,.int .i64 p5,.int .i64 p6,.int .i64 p7,.int .i64 p8,.int .i64 p9,.int .i64 dh,.int .i64 di,.str pb]),(71,.cells [.int .i64 0,.str [],.bool false,.str []]),(70,.cells [.int .i64 ak,.int .i64 an,.int .i64 ad,.str f])]++Qn S1 T1,74⟩) bf ?_ ?_
 ·refine To.qS (ex:=ex) dz (HB dz) aJ hN4 av hex av (fun b h1 h2=>?_) ?_
  ·rcases (by omega:b=70∨b=71∨b=72∨b=73) with rfl|rfl|rfl|rfl
   ·rw[Ma];rfl
   ·rw[Sz];rfl
   ·rw[SA];rfl
   ·rw[Mb];rfl
  ·simp[Qs,Qe,ah,look,aB,ay,Dp,lw,Sw,tB,Me,k0,k3,k4,k5,k8]
 refine Xc yr ?_;refine Qa ?_;refine Yd6 (v:=false) (pp:=[67]) (ex:=[(73,_),(72,_),(71,_),(70,_)]) (s3:=⟨[(0,.ptr 67 0),(4,.ptr 71 0),(5,.ptr 72 0),(16,.str tf),(150,.str tf),(153,.str L)],[(73,.cells [.int .i64 z1,.int .i64 z2,.int .i64 z3,.int .i64 z4,.int .i64 z5]),(72,.cells [.int .i64 p1,.int .i64 p2,.int .i64 p3,.int .i64 p4,.int .i64 p5,.int .i64 p6,.int .i64 p7,.int .i64 p8,.int .i64 p9,.int .i64 dh,.int .i64 di,.str pb]),(71,.cells [.int .i64 0,.str [],.bool false,.str []]),(70,.cells [.int .i64 ak,.int .i64 an,.int .i64 ad,.str f])]++Qn S2 T1,74⟩) bf lC (Qo dz) (Qo dz) (by simp[Qe]) aJ av rfl ?_ ?_ ?_
 ·exact Qi (An @Yl @tB)
 ·refine To.Bh (ex:=[(73,_),(72,_),(71,_),(70,_)]) (Qo dz) (HB dz) aJ av av av (fun b h1 h2=>?_) ?_
  ·rcases (by omega:b=70\/b=71\/b=72\/b=73) with rfl|rfl|rfl|rfl<;>rfl
  ·simp[Qs,Qe,ah,look,aB,ay]
 have hHj:=fun n b hb=>Ko (S:=S2) dz n b hb;refine Qd @hHj ?_;refine Qc ?_ ?_<;>intro iJ
 ·rw[am af]at wD;subst wD;have aL:=aL af;generalize NS.aH S2 tf=w at *
  obtain ⟨⟨r1,r2,r3,r4⟩,S3⟩:=w;unfold Rp.enc at aL;dsimp only at aL ⊢;refine Qa ?_;refine uJ (v:=false) (pp:=[67]) (ex:=(74,_)::(74,_)::[(73,_),(72,_),(71,_),(70,_)]) (s3:=⟨[(4,.ptr 71 0),(18,.ptr 74 0),(167,.agg [.int .i64 r1,.str r2,.bool r3,.str r4])],(74,.cells [.int .i64 0,.str tf,.bool false,.str L])::[(73,.cells [.int .i64 z1,.int .i64 z2,.int .i64 z3,.int .i64 z4,.int .i64 z5]),(72,.cells [.int .i64 p1,.int .i64 p2,.int .i64 p3,.int .i64 p4,.int .i64 p5,.int .i64 p6,.int .i64 p7,.int .i64 p8,.int .i64 p9,.int .i64 dh,.int .i64 di,.str pb]),(71,.cells [.int .i64 0,.str [],.bool false,.str []]),(70,.cells [.int .i64 ak,.int .i64 an,.int .i64 ad,.str f])]++Qn S3 T',75⟩) bf aL (Qo dz) (Qo fB) (by simp[Qe,ah]) aJ av av rfl ?_ ?_ ?_
  ·exact Qi @Yl
  ·unfold Ju;refine To.qS fB ((HB fB).more (by simp[bX,ah,Qe])) aJ aJ av av av (fun b h1 h2=>?_) ?_
   ·rcases (by omega:b=70\/b=71\/b=72\/b=73\/b=74) with rfl|rfl|rfl|rfl|rfl<;>rfl
   ·simp[Qs,Qe,ah,look,aB,ay,Dp,lw,Sw]
  have LJ:=fun n b hb=>Ko (S:=S3) fB n b hb;refine Qd @LJ ?_;unfold Rp.enc;exact ⟨(),To.drop (ex:=[(71,_),(74,_),(74,_),(74,_),(75,_),(75,_),(74,_),(73,_),(72,_),(71,_),(70,_)]) (Qo fB) av av (by simp[Qs,Qe,ah,look,aB,ay])⟩
 ·rw[aa af]at wD;subst wD;obtain rfl:=hou af;refine Qa ?_;unfold Rp.enc;exact ⟨(),To.drop (ex:=[(71,_),(74,_),(74,_),(73,_),(72,_),(71,_),(70,_)]) (Qo dz) av av (by simp[Qs,Qe,ah,look,aB,ay])⟩
def Qsr (t x:Int):GS Tryz.prog gl 100 [.int .i64 t,.ptr 0 0] [(0,.cells [.int .i64 x])] 1 (.bool (t==x)) [(0,.cells [.int .i64 x])] 1:=by
 refine Xou.gs (ap rfl) (by simp[Bk.live]) fun c hN hg=>?_
 conv in aG _ _=>cbv
 refine Qa ?_;refine ⟨[],?_⟩;exact Qp
def rN (x:Int):List Int->Nat->Int
 | [],_=>-1
 | t::l,k=>if t=x then k else rN x l (k+1)
def Yea (l:List Int)(hl:l.length<=1000000)(x:Int):GS Tryz.prog gl 136 [.sl 1 0 0 l.length l.length,.cl 100 [.ptr 1 0]]
  [(0,.cells (Ql l)),(1,.cells [.int .i64 x])] 2 (.int .i64 (rN x l 0)) [(0,.cells (Ql l)),(1,.cells [.int .i64 x])] 2:=by
 refine LX.gs (ap rfl) (by simp[Bk.live]) fun c hN hg=>?_
 conv in aG _ _=>cbv
 have dH:=Xp l;refine Qa ?_
 refine wY (fun k:Nat=>k≤l.length∧rN x (l.drop k) k=rN x l 0) (fun k=>⟨[(0,.sl 1 0 0 l.length l.length),(1,.cl 100 [.ptr 1 0]),(6,.sl 1 0 0 l.length l.length),(7,.int .i64 l.length),(8,.int .i64 k)],[(0,.cells (Ql l)),(1,.cells [.int .i64 x])],2⟩) (fun k=>l.length - k) LX.mixed 2 hN
  ⟨0,⟨by omega,rfl⟩,[],by exact Qp⟩ fun k hk=>?_
 obtain ⟨hk,cU⟩:=hk;refine Qa ?_;refine Qc ?_ ?_<;>intro h1
 ·have bg:k < l.length:=by omega
  have lB:=Dh l k bg;have iy:l.drop k=l[k]::l.drop (k+1):=List.drop_eq_getElem_cons bg;rw[iy]at cU;rw[rN]at cU;generalize l[k]=t at *
  have hc:=Qsr c.gl t x;refine Qd (An @dH @lB) ?_;refine Jo (ip [1]) hc (An @dH @lB) ?_;refine Qc ?_ ?_<;>intro h2
  ·rw[am (by simpa using h2)]at cU;refine Qa ?_;refine ⟨[],?_⟩;exact Qi @cU
  ·rw[aa (by simpa using h2)]at cU;refine Qa ?_;refine ⟨k+1,⟨by omega,cU⟩,⟨[],?_⟩,by omega⟩;exact Qp
 ·have:k=l.length:=by omega
  subst this;rw[List.drop_length]at cU;have cU:(-1:Int)=rN x l 0:=cU;refine Qa ?_;refine ⟨[],?_⟩;exact Qi @cU
def Qve {x:Int}:∀ (l:List Int) (k:Nat),rN x l k=-1->∀ t ∈ l,t≠x
 | [],_,_,t,ht=>by cases ht
 | a::l,k,h,t,ht=>by
  unfold rN at h;split at h
  ·omega
  ·rcases mem_cons.1 ht with rfl|ht
   ·assumption
   ·exact Qve l (k+1) h t ht
def Qyf {x:Int}:∀ (l:List Int) (k:Nat),rN x l k≠-1->∃ i,i<l.length/\rN x l k=((k+i:Nat):Int)/\(∀ t ∈ l.take i,t≠x)/\∃ t,l[i]?=some t/\t=x
 | [],_,h=>absurd rfl h
 | a::l,k,h=>by
  unfold rN at h ⊢;split at h
  ·rename_i e;rw[am e];exact ⟨0,by simp,by simp,by simp,a,rfl,e⟩
  ·rename_i e;rw[aa e];obtain ⟨i,h1,h2,h3,t,h4,h5⟩:=Qyf l (k + 1) h;refine ⟨i + 1,by simpa using h1,by rw[h2];omega,fun y hy=>?_,t,by simpa using h4,h5⟩;rw[List.take_succ_cons]at hy;rcases mem_cons.1 hy with rfl|hy
   ·exact e
   ·exact h3 y hy
def Xy8:Co Tryz.prog 52 1:=Oo (by kernel_rfl)
def eD (x:Int)(l:List Int):List Int:=l.filter fun t=>!(t==x)
def Xgp (l:List Int)(k:Nat)(h:k<=l.length):(Ql l).take k=Ql (l.take k):=by simp[Ql]
def Ydi (l:List Int)(hl:l.length<=1000000)(x:Int):GS Tryz.prog gl 99 [.sl 1 0 0 l.length l.length,.cl 100 [.ptr 1 0]]
  [(0,.cells (Ql l)),(1,.cells [.int .i64 x])] 2 (.sl 1 0 0 (eD x l).length l.length) [(0,.cells (Ql (eD x l))),(1,.cells [.int .i64 x])] 2:=by
 refine Xdl.gs (ap rfl) (by simp[Bk.live]) fun c hN hg=>?_
 conv in aG _ _=>cbv
 have dH:=Xp l;have hi:=Yea c.gl l hl x;refine Qa ?_
 ((first|refine Kn (ins:=[0,1]) hi ?_ ?_|refine Jb (ins:=[0,1]) hi ?_ ?_|refine Ja (ins:=[0,1]) hi ?_ ?_|refine Zg (ins:=[0,1]) hi ?_ ?_)<;>(have aQ:=@dH;refine XG ?_;clear aQ;(try first|exact rfl|exact True.intro);((try with_reducible and_intros);all_goals try first|refine zm ?_|exact CL)))
 ·decide
 by_cases br:rN x l 0=-1
 ·have fy:eD x l=l:=filter_eq_self.2 fun t ht=>by simpa using Qve l 0 br t ht
  rw[fy];refine Qc ?_ ?_<;>intro h1
  ·refine Qa ?_;refine ⟨[],?_⟩;exact Qp
  ·exact absurd br (by simpa using h1)
 ·obtain ⟨i0,q1,q2,q3,t0,q4,q5⟩:=Qyf l 0 br;rw[Nat.zero_add]at q2;rw[q2];refine Qc ?_ ?_<;>intro h1
  ·omega
  refine Qa ?_
  refine wY (fun y:Nat × Nat × List Int=>y.1 < y.2.1∧y.2.1≤l.length∧y.2.2.length=l.length∧y.2.2.take y.1=eD x (l.take y.2.1)∧y.2.2.drop y.2.1=l.drop y.2.1)
   (fun y=>⟨[(0,.sl 1 0 0 l.length l.length),(1,.cl 100 [.ptr 1 0]),(5,.int .i64 y.1),(6,.int .i64 y.2.1)],[(0,.cells (Ql y.2.2)),(1,.cells [.int .i64 x])],2⟩) (fun y=>l.length-y.2.1) Xdl.mixed 2 hN
   ⟨(i0,i0+1,l),⟨by simp,by show i0+1<=l.length;omega,rfl,?_,rfl⟩,[],by exact Qp⟩ fun y hy=>?_
  ·have:l.take (i0 + 1)=l.take i0++[t0]:=by rw[take_succ,q4];rfl
   show l.take i0=eD x (l.take (i0+1));rw[this];unfold eD;rw[List.filter_append,filter_eq_self.2 fun t ht=>by simpa using q3 t ht];simp[q5]
  obtain ⟨i,j,M⟩:=y;obtain ⟨gn,iu,hM,b6,oL⟩:=hy;dsimp only at gn iu hM b6 oL ⊢;have we:=Xp M;refine Qa ?_;refine Qc ?_ ?_<;>intro h2
  ·have oz:j < l.length:=by omega
   have Gi:j<M.length:=by omega
   have aK:=Dh M j Gi;have Rx:M[j]=l[j]:=by
    have e1:(M.drop j)[0]?=M[j]?:=by simp
    have e2:(l.drop j)[0]?=l[j]?:=by simp
    rw[oL,e2]at e1;simpa [oz,Gi] using e1.symm
   have ea:eD x (l.take (j+1))=if M[j]=x then eD x (l.take j) else eD x (l.take j)++[M[j]]:=by
    have:l.take (j+1)=l.take j++[M[j]]:=by rw[take_succ,Rx];simp[oz]
    rw[this];unfold eD;rw[List.filter_append];split<;>simp_all
   have iy:M.drop (j+1)=l.drop (j+1):=by
    have:=congrArg (List.drop 1) oL;simpa [List.drop_drop,Nat.add_comm] using this
   have bw:(Ql M).set i (.int .i64 M[j])=Ql (M.set i M[j]):=by simp[Ql,List.map_set]
   have fD:((M.set i M[j]).take (i+1))=M.take i++[M[j]]:=by
    rw[take_succ,List.take_set_of_le (Nat.le_refl i)];simp[show i<M.length by omega]
   have AM:(M.set i M[j]).drop (j+1)=M.drop (j+1):=by rw[List.drop_set_of_lt af]
   have jb:(M.set i M[j]).length=l.length:=by simp[hM]
   have htS:=Xp (M.set i M[j]);generalize M[j]=t at *
   have hc:=Qsr c.gl t x;refine Qd (An @we @aK) ?_;refine Jo (ip [1]) hc (An @we @aK) ?_;refine Qc ?_ ?_<;>intro h3
   ·rw[aa h3]at ea;refine Qd (An @we @bw) ?_;refine ⟨(i+1,j+1,M.set i t),⟨by dsimp only;omega,by dsimp only;omega,jb,by rw[fD,b6,ea],by rw[AM,iy]⟩,⟨[],?_⟩,by dsimp only;omega⟩;exact Qp
   ·rw[am (by simpa using h3)]at ea;refine Qd @we ?_;refine ⟨(i,j+1,M),⟨by dsimp only;omega,by dsimp only;omega,hM,by rw[b6,ea],iy⟩,⟨[],?_⟩,by dsimp only;omega⟩;exact Qp
  ·obtain rfl:j=l.length:=by omega
   rw[List.take_length]at b6;have fH:(eD x l).length=i:=by rw[<- b6,List.length_take];omega
   have jj:=Xgp M i af;rw[b6]at jj;refine Qa ?_
   (refine I6 Xy8 ?_;(have aQ:=@jj;refine XG ?_;clear aQ;((try with_reducible and_intros);all_goals try first|refine zm ?_|exact CL)))
   refine Qa ?_;refine ⟨[],?_⟩;exact Qi @fH
def Ygg (a b:UInt8)(t:List UInt8):a::b::t=fr [w2 (a::b::t) 0] t:=by
 have e:w2 (a::b::t) 0=(a.toNat:Int)*256+b.toNat:=by
  show iT [a,b]=_;rw[uS _ av];simp only[oU];omega
 have ha:=UInt8.toNat_lt a;have hb:=UInt8.toNat_lt b;rw[e];show a::b::t=Qy _ 1::Qy _ 0::t;rw[By _ _ af,By _ _ af];have e1:(((a.toNat:Int)*256+b.toNat)/256 ^ 1%256).toNat=a.toNat:=by omega
 have e2:(((a.toNat:Int)*256+b.toNat)/256 ^ 0%256).toNat=b.toNat:=by
  simp only[Int.pow_zero,Int.ediv_one];omega
 rw[e1,e2,UInt8.ofNat_toNat,UInt8.ofNat_toNat]
def Mf (i j:Nat):w2 (l.drop i) j=w2 l (i+j):=by
 unfold w2;rw[List.drop_drop]
def Hd:∀ (n:Nat) (l:List UInt8),2*n<=l.length->l=fr ((List.range n).map fun i=>w2 l (2*i)) (l.drop (2*n))
 | 0,l,_=>rfl
 | n+1,l,h=>by
  match l,h with
  | [],h=>exact absurd h av
  | [_],h=>exact absurd h (by simp;omega)
  | a::b::t,h =>
   have ih:=Hd n t (by simp at h;omega);rw[List.range_succ_eq_map,List.map_cons,List.map_map];have e1:((fun i=>w2 (a::b::t) (2*i)) ∘ Nat.succ)=fun i=>w2 t (2*i):=by
    funext i;show w2 (a::b::t) (2*(i+1))=_;have:=Mf (a::b::t) 2 (2*i);rw[show 2*(i+1)=2+2*i by omega,<- this];rfl
   have e2:(a::b::t).drop (2*(n+1))=t.drop (2*n):=rfl;rw[e1,e2];have e3:=Ygg a b t;have e4:∀ w ws,fr (w::ws) (t.drop (2*n))=fr [w] (fr ws (t.drop (2*n))):=fun _ _=>rfl;rw[Nat.mul_zero,e4,<- ih];exact e3
def Mg (h:k+4<=l.length):w4 l k/65536=w2 l k/\w4 l k%65536=w2 l (k+2):=by
 obtain ⟨a,b,c,d,t,e⟩:∃ a b c d t,l.drop k=a::b::c::d::t:=by
  have hl:4<=(l.drop k).length:=by rw[length_drop];omega
  match l.drop k,hl with
  | a::b::c::d::t,_=>exact ⟨a,b,c,d,t,rfl⟩
 have e2:w2 l (k+2)=w2 (l.drop k) 2:=(Mf l k 2).symm;have e3:w2 l k=w2 (l.drop k) 0:=(Mf l k 0).symm;have e4:w4 l k=iT ((l.drop k).take 4):=rfl;rw[e2,e3,e4,e];have g1:w2 (a::b::c::d::t) 0=(a.toNat:Int)*256+b.toNat:=by
  show iT [a,b]=_;rw[uS _ av];simp only[oU];omega
 have g2:w2 (a::b::c::d::t) 2=(c.toNat:Int)*256+d.toNat:=by
  show iT [c,d]=_;rw[uS _ av];simp only[oU];omega
 have g3:iT ((a::b::c::d::t).take 4)=(a.toNat:Int)*16777216+b.toNat*65536+c.toNat*256+d.toNat:=by
  show iT [a,b,c,d]=_;rw[uS _ av];simp only[oU];omega
 rw[g1,g2,g3];have:=UInt8.toNat_lt a;have:=UInt8.toNat_lt b;have:=UInt8.toNat_lt c;have:=UInt8.toNat_lt d;omega
def Mh (h:k+2<=l.length):w2 l k=b1 l k*256+b1 l (k+1):=by
 obtain ⟨a,b,t,e⟩:∃ a b t,l.drop k=a::b::t:=by
  have hl:2<=(l.drop k).length:=by rw[length_drop];omega
  match l.drop k,hl with
  | a::b::t,_=>exact ⟨a,b,t,rfl⟩
 have e3:w2 l k=w2 (l.drop k) 0:=(Mf l k 0).symm;have g1:w2 (a::b::t) 0=(a.toNat:Int)*256+b.toNat:=by
  show iT [a,b]=_;rw[uS _ av];simp only[oU];omega
 have f1:b1 l k=a.toNat:=by
  have:l.getD k 0=(l.drop k).getD 0 0:=by simp[List.getD,List.getElem?_drop]
  unfold b1;rw[this,e];rfl
 have f2:b1 l (k+1)=b.toNat:=by
  have:l.getD (k+1) 0=(l.drop k).getD 1 0:=by simp[List.getD,List.getElem?_drop]
  unfold b1;rw[this,e];rfl
 rw[e3,e,g1,f1,f2]
def SF (c c' m n:Int)(hc:0<=c/\c<=65535)(BE:0<=c'/\c'<=65535)(hm:0<=m/\m<=65535)(hn:0<=n/\n<=65535)(h:(c-c')%65535=0)(zA:m≠65535\/n≠0):Qt c m n=Qt c' m n:=by
 rw[E8 c m n hc hm hn,E8 c' m n BE hm hn];exact JU _ _ af af af
def Xm9 {l:List UInt8}(h:dE l=65535):0<Yf l/\Yf l%65535=0:=by
 unfold dE Kq at h;split at h
 ·cases h
 ·omega
structure G8n (f:List UInt8):Prop where
 p:H6 f
 g7:¬ G7 f
 g8:¬ G8 f
 g9:¬ G9 f
 g10:¬ nF f
 e:Zl (aC f)=0
def Ds {f:List UInt8}(h:cH f=0):G8n f:=by
 obtain ⟨k6,he⟩:=Pn h;have h7:¬ G7 f:=fun h7=>by rw[vL k6 h7]at h;cases h
 have h8:¬ G8 f:=fun h8=>by rw[CG k6 h7 h8]at h;cases h
 have h9:¬ G9 f:=fun h9=>by rw[J5 k6 h7 h8 h9]at h;cases h
 have fR:¬ nF f:=fun fR=>by rw[CH k6 h7 h8 h9 fR]at h;cases h
 exact ⟨k6,h7,h8,h9,fR,he⟩
theorem Xn7:((List.range 4).map fun i=>w2 l (2*i))=[w2 l 0,w2 l 2,w2 l 4,w2 l 6]:=rfl
theorem Xef:((List.range 10).map fun i=>w2 l (2*i))=[w2 l 0,w2 l 2,w2 l 4,w2 l 6,w2 l 8,w2 l 10,w2 l 12,w2 l 14,w2 l 16,w2 l 18]:=rfl
def Yi3 (p:Pk)(k:Int)(hk:0<=k/\k<=65535):Qx (jC p k)=k+Qx (jC p 0):=by
 unfold jC
 (repeat' split)<;>simp only[Qx]<;>omega
def Yep {s:List UInt8}{k:Int}(hs:s=fr (jC p k) p.body)(hk:0<=k/\k<=65535)(hn:Xm p=s.length)(o:dE (Xk p.ae p.aF p.dst s.length++s)=65535):mK k (kn p):=by
 obtain ⟨p1,p2⟩:=Xm9 o;have e:=xx s (sy p s.length);rw[<- YI]at e;have e2:=xx p.body (jC p k);rw[<- hs,Yi3 p k hk]at e2;unfold kn;rw[hn];exact ⟨hk.1,hk.2,by omega⟩
def Ybi {f:List UInt8}(h:cH f=0):∃ c k:Int,f=fr (ic (aC f) (Xm (aC f)) c++jC (aC f) k) (aC f).body/\mK c (Qx (ic (aC f) (Xm (aC f)) 0))/\mK k (kn (aC f))/\((aC f).ae=17->k≠0):=by
 obtain ⟨⟨⟨g1,g2,g3,g4⟩,g5,g6⟩,g7,g8,g9,g10,he⟩:=Ds h;obtain ⟨jg,hl2⟩:=Ff h;obtain ⟨o1,o2⟩:=Yfe h;unfold G1 at g1;unfold G3 at g3;unfold G7 at g7;have a0:b1 f 0=69:=by omega
 have a1:w2 f 2=f.length:=by omega
 have a2:b1 f 1=0:=by omega
 have a3:w2 f 6=0:=by omega
 have GI:=Mh f 0 af;have hw8:=Mh f 8 af;obtain ⟨q1,q2⟩:=Mg f 12 af;obtain ⟨q3,q4⟩:=Mg f 16 af;have aK:=Hd 10 f af;rw[Xef]at aK;have hN:=Wn (aC f) (Wj he).1;have c0:=CI f 10 af;have yt:∀ n:Nat,(n:Int)+20=f.length->ic (aC f) n (w2 f 10)=[w2 f 0,w2 f 2,w2 f 4,w2 f 6,w2 f 8,w2 f 10,w2 f 12,w2 f 14,w2 f 16,w2 f 18]:=fun n hn=>by
  have e1:(aC f).id=w2 f 4:=by unfold aC kY;dsimp only;(repeat' split)<;>rfl
  have e2:(aC f).aN=b1 f 8:=by unfold aC kY;dsimp only;(repeat' split)<;>rfl
  have e3:(aC f).aF=w4 f 12:=by unfold aC kY;dsimp only;(repeat' split)<;>rfl
  have e4:(aC f).dst=w4 f 16:=by unfold aC kY;dsimp only;(repeat' split)<;>rfl
  unfold ic;rw[e1,e2,e3,e4,CO,q1,q2,q3,q4,a3,a1,GI,hw8,a0,a2];congr 2;omega
 have He:∀ n:Nat,(n:Int)+20=f.length->mK (w2 f 10) (Qx (ic (aC f) n 0)):=fun n hn=>by
  have e1:(Qx (ic (aC f) n (w2 f 10)):Int)=w2 f 10+Qx (ic (aC f) n 0):=by
   unfold ic;simp only[Qx];omega
  have e2:f.take 20=fr (ic (aC f) n (w2 f 10)) []:=by
   rw[yt n hn]
   conv=>lhs;rw[aK]
   rfl
  have e3:=xx [] (ic (aC f) n (w2 f 10));rw[<- e2]at e3;obtain ⟨p1,p2⟩:=Xm9 o1;have:Yf []=0:=rfl;refine ⟨c0.1,c0.2,?_⟩;omega
 have vT:(f.drop 20).length=f.length-20:=length_drop;have fin:∀ k:Int,0<=k/\k<=65535->f.drop 20=fr (jC (aC f) k) (aC f).body->Xm (aC f)=(f.drop 20).length->((aC f).ae=17->k≠0)->∃ c k:Int,f=fr (ic (aC f) (Xm (aC f)) c++jC (aC f) k) (aC f).body/\mK c (Qx (ic (aC f) (Xm (aC f)) 0))/\mK k (kn (aC f))/\((aC f).ae=17->k≠0):=fun k hk hs hn Mi=>by
  have uN:((Xm (aC f):Nat):Int)+20=f.length:=by rw[hn,vT];omega
  refine ⟨w2 f 10,k,?_,He _ uN,Yep hs hk hn ?_,Mi⟩
  ·rw[yt _ uN,<- Ad,<- hs];exact aK
  ·have e3:(aC f).aF=w4 f 12:=by unfold aC kY;dsimp only;(repeat' split)<;>rfl
   have e4:(aC f).dst=w4 f 16:=by unfold aC kY;dsimp only;(repeat' split)<;>rfl
   rw[CO,e3,e4];exact o2
 unfold G8 at g8;unfold G9 at g9;unfold nF at g10;unfold G6 at g6;rcases (Wj he).1 with h1|h1|h1
 ·rw[h1]at hN;have Bj:b1 f 9=1:=by rw[← CO];exact h1
  have jb:8<=(f.drop 20).length:=by rw[Bj]at g6;simpa using g6
  have yu:=Hd 4 (f.drop 20) af;rw[Xn7]at yu;have hw:w2 (f.drop 20) 0=b1 (f.drop 20) 0*256+b1 (f.drop 20) 1:=Mh (f.drop 20) 0 af;have b2:=CI (f.drop 20) 2 af;have hK:(aC f).body=(f.drop 20).drop 8/\(aC f).flags=b1 (f.drop 20) 0/\(aC f).seq=w2 (f.drop 20) 6/\(aC f).aj+(aC f).aw=w2 (f.drop 20) 4:=by
   unfold aC;rw[am Bj];refine ⟨rfl,rfl,rfl,?_⟩;dsimp only;split<;>omega
  obtain ⟨k1,k2,k3,k4⟩:=hK;refine fin (w2 (f.drop 20) 2) b2 ?_ ?_ (fun h=>by omega)
  ·unfold jC;rw[am h1,k1,k2,k3,k4];rw[show b1 (f.drop 20) 0*256=w2 (f.drop 20) 0 by omega];exact yu
  ·rw[hN,k1,length_drop];simp;omega
 ·rw[h1]at hN;have Bj:b1 f 9=6:=by rw[← CO];exact h1
  have jb:20<=(f.drop 20).length:=by rw[Bj]at g6;simpa using g6
  have yu:=Hd 10 (f.drop 20) af;rw[Xef]at yu;have hw:w2 (f.drop 20) 12=b1 (f.drop 20) 12*256+b1 (f.drop 20) 13:=Mh (f.drop 20) 12 af;have b2:=CI (f.drop 20) 16 af;obtain ⟨r1,r2⟩:=Mg (f.drop 20) 4 af;obtain ⟨r3,r4⟩:=Mg (f.drop 20) 8 af;have hK:aC f={ kY f with aj:=w2 (f.drop 20) 0,aw:=w2 (f.drop 20) 2,seq:=w4 (f.drop 20) 4,bC:=w4 (f.drop 20) 8,win:=w2 (f.drop 20) 14,flags:=b1 (f.drop 20) 13,body:=(f.drop 20).drop 20 }:=by
   unfold aC;rw[aa af,aa af]
  refine fin (w2 (f.drop 20) 16) b2 ?_ ?_ (fun h=>by omega)
  ·unfold jC;rw[aa af,aa af,hK];dsimp only;rw[r1,r2,r3,r4,show 80*256+b1 (f.drop 20) 13=w2 (f.drop 20) 12 by omega,show (0:Int)=w2 (f.drop 20) 18 by omega];exact yu
  ·rw[hN,hK];simp;omega
 ·rw[h1]at hN;have Bj:b1 f 9=17:=by rw[← CO];exact h1
  have jb:8<=(f.drop 20).length:=by rw[Bj]at g6;simpa using g6
  have yu:=Hd 4 (f.drop 20) af;rw[Xn7]at yu;have b2:=CI (f.drop 20) 6 af;have hK:aC f={ kY f with aj:=w2 (f.drop 20) 0,aw:=w2 (f.drop 20) 2,body:=(f.drop 20).drop 8 }:=by
   unfold aC;rw[aa af,am Bj]
  refine fin (w2 (f.drop 20) 6) b2 ?_ ?_ (fun h=>by omega)
  ·unfold jC;rw[aa af,am h1,hK];dsimp only;rw[show (8:Int)+(((f.drop 20).drop 8).length:Nat)=w2 (f.drop 20) 4 by rw[length_drop];omega];exact yu
  ·rw[hN,hK];simp;omega
def Xe0 (T:Int)(h:0<=T):mK (cN T) T:=by
 by_cases h0:T=0
 ·subst h0;exact ⟨by decide,by decide,by decide⟩
 ·have:=uh T af;have:=ug T;exact ⟨this.1,this.2,by omega⟩
def SG {c c0 T m1 n1 m2 n2 m3 n3:Int}(hc:mK c T)(iK:mK c0 T)(lQ:0<=m1/\m1<=65535)(mL:0<=n1/\n1<=65535)(lR:0<=m2/\m2<=65535)(kZ:0<=n2/\n2<=65535)(Ae:0<=m3/\m3<=65535)(vH:0<=n3/\n3<=65535)(h:m3≠65535\/n3≠0) :
  Qt (Qt (Qt c m1 n1) m2 n2) m3 n3=Qt (Qt (Qt c0 m1 n1) m2 n2) m3 n3:=by
 obtain ⟨x1,x2,x3⟩:=Ab _ _ _ _ (Ab _ _ _ _ hc lQ mL) lR kZ;obtain ⟨y1,y2,y3⟩:=Ab _ _ _ _ (Ab _ _ _ _ iK lQ mL) lR kZ;exact SF _ _ _ _ ⟨x1,x2⟩ ⟨y1,y2⟩ Ae vH af h
def Hf (p:Pk)(side:Int):Int:=if side=0 then p.aj else p.aw
def Xq7 {f:List UInt8}(h:cH f=0){side addr port:Int}(ht:Wf (aC f) side addr port=0)(hq:port≠0\/Hf (aC f) side≠65535):Uj f (aC f).ae (aC f).aN (vF side) (vG (aC f).ae side) addr port=Zw (ui (aC f) side addr port):=by
 have mg:=(Ds h).e;rw[<- Xiz _ mg side addr port ht];obtain ⟨c,k,hf,hc,hk,Mi⟩:=Ybi h;generalize aC f=p at *
 obtain ⟨hp,hr,hl,ko⟩:=Wj mg;have hr':=hr;obtain ⟨r1,r2,r3,r4,r5,r6,r7,r8,r9,iF⟩:=hr';have hN:=Wn p hp;have jE:=qt p hp af;have hb:=Ua p hp af;have iK:=Xe0 (Qx (ic p (Xm p) 0)) (JS _);have oO:0<=kn p:=by
  have a:=JS (sy p (Xm p));have b:=JS (jC p 0);unfold kn;omega
 have gO:mK (mJ p) (kn p):=by
  obtain ⟨a1,a2,a3⟩:=Xe0 (kn p) oO;rw[jE];split
  ·exact ⟨by decide,by decide,by omega⟩
  ·exact ⟨a1,a2,a3⟩
 have Hg:p.ae=17->k=mJ p:=fun e=>by
  obtain ⟨a1,a2,a3⟩:=hk;obtain ⟨b1,b2,b3⟩:=gO;have c1:=Mi e;have c2:(mJ p:Int)≠0:=by
   rw[jE];split
   ·decide
   ·rename_i hx;exact fun e2=>hx ⟨e,e2⟩
  omega
 rw[hf,hb];clear hf hb Mi jE oO;generalize cN (Qx (ic p (Xm p) 0))=c0 at *
 generalize Qx (ic p (Xm p) 0)=T1 at *
 generalize kn p=T2 at *
 generalize (mJ p:Int)=k0 at *
 unfold Wf at ht;split at ht
 ·cases ht
 split at ht
 ·cases ht
 split at ht
 ·cases ht
 rename_i t1 t2 t3;obtain ⟨ae,aF,aj,dst,aw,aN,id,flags,seq,bC,win,body⟩:=p;unfold Hf at hq;dsimp only at *
 have key:∀ m1 n1 m2 n2 m3:Int,0<=m1/\m1<=65535->0<=n1/\n1<=65535->0<=m2/\m2<=65535->0<=n2/\n2<=65535->(m3=aN*256+ae)->Qt (Qt (Qt c m1 n1) m2 n2) m3 ((aN-1)*256+ae)=Qt (Qt (Qt c0 m1 n1) m2 n2) m3 ((aN-1)*256+ae):=fun m1 n1 m2 n2 m3 b1 b2 b3 b4 e=>SG hc iK b1 b2 b3 b4 af af af;unfold vF vG ic jC;by_cases hs:side=0
 ·rw[am hs]at hq ⊢;rcases hp with rfl|rfl|rfl
  ·simp only[hs,reduceCtorEq,Int.reduceEq,if_true,if_false,↓reduceIte,cons_append,nil_append];rw[O0,O0,key _ _ _ _ _ af af af af rfl,SF k k0 (aj+aw) port ⟨hk.1,hk.2.1⟩ ⟨gO.1,gO.2.1⟩ (by unfold Wo at ko;dsimp only at ko;omega) af (by have:=hk.2.2;have:=gO.2.2;omega) (by unfold Wo at ko;dsimp only at ko;omega)]
  ·simp only[hs,reduceCtorEq,Int.reduceEq,if_true,if_false,↓reduceIte,cons_append,nil_append];rw[O4,O4,key _ _ _ _ _ af af af af rfl];rw[show aF/65536%65536=aF/65536 by omega,show aF%65536%65536=aF%65536 by omega];rw[SG (m1:=aF/65536) (n1:=addr/65536) (m2:=aF%65536) (n2:=addr%65536) (m3:=aj) (n3:=port) hk gO af af af af af af af]
  ·simp only[hs,reduceCtorEq,Int.reduceEq,if_true,if_false,↓reduceIte,cons_append,nil_append];rw[O2,O2,key _ _ _ _ _ af af af af rfl,Hg rfl]
 ·rw[aa hs]at hq ⊢;rcases hp with rfl|rfl|rfl
  ·simp only[hs,reduceCtorEq,Int.reduceEq,if_true,if_false,↓reduceIte,cons_append,nil_append];rw[O1,O1,key _ _ _ _ _ af af af af rfl,SF k k0 (aj+aw) port ⟨hk.1,hk.2.1⟩ ⟨gO.1,gO.2.1⟩ (by unfold Wo at ko;dsimp only at ko;omega) af (by have:=hk.2.2;have:=gO.2.2;omega) (by unfold Wo at ko;dsimp only at ko;omega)]
  ·simp only[hs,reduceCtorEq,Int.reduceEq,if_true,if_false,↓reduceIte,cons_append,nil_append];rw[O5,O5,key _ _ _ _ _ af af af af rfl];rw[show dst/65536%65536=dst/65536 by omega,show dst%65536%65536=dst%65536 by omega];rw[SG (m1:=dst/65536) (n1:=addr/65536) (m2:=dst%65536) (n2:=addr%65536) (m3:=aw) (n3:=port) hk gO af af af af af af af]
  ·simp only[hs,reduceCtorEq,Int.reduceEq,if_true,if_false,↓reduceIte,cons_append,nil_append];rw[O3,O3,key _ _ _ _ _ af af af af rfl,Hg rfl]
end Go.Proofs.YtogckmommodmhaaGreatDoor
