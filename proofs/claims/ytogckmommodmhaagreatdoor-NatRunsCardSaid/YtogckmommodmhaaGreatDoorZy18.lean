import Derived.Test.YtogckmommodmhaaGreatDoorZy16
namespace Go.Proofs.YtogckmommodmhaaGreatDoor
open List (mem_map getElem_of_mem length_take any_eq_true map_congr_left map_id take_of_length_le nil_append append_assoc flatMap_cons length_append mem_flatMap drop_drop)
open Go.RowKit
set_option linter.all false
set_option maxHeartbeats 16000000
set_option maxRecDepth 100000
variable {p:List Nat}{s:St}{q:Int×Fl}(gl:Nat->AV)(b:Bool)(l:List Ac)(n:Nat)
def Xr0 {S:NS}(h:NI S)(es:List Ev):NI (S.log es):=h.ll _
def Xle (gl:Nat->AV)(S:NS)(T:WT)(fn:FuncId)(args:List AV)(x:Rp×NS):Prop :=
 ∃ T' D',WI T' x.2.now D'/\D'.Perm x.2.aX/\GD Tryz.prog gl fn args (Qo S T) 70 [67] (.agg x.1.enc) (Qo x.2 T')
def Yar (h0:gl 0=.xp (Ql Xv) 0)(S:NS)(T:WT)(D:List Tm)(hS:NI S)(nA:S.bG<=900000)(mU:S.told<=90000)(hW:WI T S.now D)(hD:D.Perm S.aX)(ak an ad:Int)(f:List UInt8)(hf:f.length<=140737488351232) :
  Xle gl S T 58 [.ptr 67 0,.agg [.int .i64 ak,.int .i64 an,.int .i64 ad,.str f]] (S.out f ad):=by
 have key:∀ x y,S.oM f ad=(x,y)→∃ T' D' T1,WI T' x.2.now D'∧D'.Perm x.2.aX∧T1.wf∧(y=none→T'=T) ∧
   ∀ m es S1,y=some (m,es,S1)->wu gl S T T1 T' f (aB f) (S.tb.ca (aB f).ae ((aB f).aE-167772161) (aB f).aj ad).1 m es S1:=by
  intro x y hx
  have stay:∀ r:Rp × NS,r.2.now=S.now→r.2.aX=S.aX→(r,none)=(x,y)→∃ T' D' T1,WI T' x.2.now D'∧D'.Perm x.2.aX∧T1.wf∧(y=none→T'=T) ∧
    ∀ m es S1,y=some (m,es,S1)->wu gl S T T1 T' f (aB f) (S.tb.ca (aB f).ae ((aB f).aE-167772161) (aB f).aj ad).1 m es S1:=fun r h1 h2 e=>by
   obtain ⟨rfl,rfl⟩:=Prod.mk.inj e;exact ⟨T,D,T,by rw[h1];exact hW,by rw[h2];exact hD,hW.wf,fun _=>rfl,by simp⟩
  have wz:∀ e,(S.refuse f e).2.now=S.now/\(S.refuse f e).2.aX=S.aX:=fun e=>by
   unfold NS.refuse;split<;>exact ⟨rfl,rfl⟩
  have go:∀ (m:Mp) (es:List Ev) (S1:NS) (T1:WT) (D1:List Tm),NI S1→WI T1 S1.now D1→D1.Perm S1.aX→S1.bG≤1000000→S1.told≤100000→es.length≤64→(∀ e ∈ es,Jd e.t e.s e.a e.b=true∧e.t=(es.headD ⟨0,0,0,0,false⟩).t)→0≤m.a∧m.a < 3 →
    (S.cY (aB f)≠0->GD Tryz.prog gl 93 [.ptr 67 0,.int .i64 (S.cY (aB f)),.agg (aB f).enc,.bool false] (Qo S T) 70 [67] (.aR []) (Qo S1 T1)) ->
    (S.cY (aB f)=0->Fh m/\GD Tryz.prog gl 91 [.ptr 67 0,.agg (Fl.enc ⟨m,(aB f).dst,(aB f).av,Wc (aB f).ae,0,0⟩)] (Qo { S with tb:=(S.tb.ca (aB f).ae ((aB f).aE-167772161) (aB f).aj ad).1 } T) 70 [67] (.aR []) (Qo S1 T1)) ->
    (S1.eZ f m es,some (m,es,S1))=(x,y)->∃ T' D' T1,WI T' x.2.now D'/\D'.Perm x.2.aX/\T1.wf/\(y=none->T'=T) /\
    ∀ m es S1,y=some (m,es,S1)->wu gl S T T1 T' f (aB f) (S.tb.ca (aB f).ae ((aB f).aE-167772161) (aB f).aj ad).1 m es S1:=by
   intro m es S1 T1 D1 uD dO lS mE Di hl hg ha h1 h2 e;obtain ⟨rfl,rfl⟩:=Prod.mk.inj e;rw[Sj];by_cases jf:0<=(aB f).dst-3405803777/\(aB f).dst-3405803777<3
   ·rw[am jf];obtain ⟨T3,D3,qd,hP3,hi⟩:=Xmt gl (S1.log es) T1 D1 (Xr0 uD es) mE dO lS (Wr f 0 (3405803777 + m.a) m.port) (Nat.le_trans (Qtn ..) hf);refine ⟨T3,D3,T1,qd,hP3,dO.wf,by simp,fun m' es' S' e=>?_⟩;obtain ⟨rfl,rfl,rfl⟩:m=m'∧es=es'∧S1=S':=by simpa using e
    exact ⟨uD.toNJ,Di,hl,hg,ha,h1,h2,fun _=>hi,fun h=>(h jf).elim⟩
   ·rw[aa jf];refine ⟨T1,D1,T1,dO,lS,dO.wf,by simp,fun m' es' S' e=>?_⟩;obtain ⟨rfl,rfl,rfl⟩:m=m'∧es=es'∧S1=S':=by simpa using e
    exact ⟨uD.toNJ,Di,hl,hg,ha,h1,h2,fun h=>(jf h).elim,fun _=>rfl⟩
  unfold NS.oM at hx;split at hx
  ·exact stay (_,S) rfl rfl hx
  rename_i he;have he:cD f=0:=Decidable.not_not.1 he;split at hx
  ·exact stay (_,S) rfl rfl hx
  rename_i hs;split at hx
  ·exact stay (_,S) rfl rfl hx
  split at hx
  ·exact stay (_,S) rfl rfl hx
  split at hx
  ·rename_i hk;split at hx
   ·rename_i m hm;obtain ⟨q,hq,e,_⟩:=GH (S:=S) (m:=m) (r:=(aB f).dst) (rp:=(aB f).av) (by unfold NS.cY at hk;rw[hm]at hk;exact hk);have ek:S.cY (aB f)=q.1:=by unfold NS.cY;rw[hm];exact e
    rw[ek]at hx;obtain ⟨T1,D1,dO,lS,hg⟩:=Qz3 gl S T D hS hW hD q hq (aB f) false;have Sv:=(hS.gt.maps m (List.mem_of_find?_eq_some hm)).1.2.2;exact go m [] _ T1 D1 (hS.goes q.1 (aB f) false) dO lS (by show S.bG<=_;omega) (by show S.told<=_;omega) aw aw Sv (fun _=>by rw[ek];exact hg) (fun h=>(hk h).elim) hx
   ·exact stay (_,S) rfl rfl hx
  rename_i hk;have gH:S.cY (aB f)=0:=Decidable.not_not.1 hk;split at hx
  ·exact stay (_,S) rfl rfl hx
  split at hx
  ·exact stay _ (wz _).1 (wz _).2 hx
  rename_i hl;split at hx
  ·exact stay _ (wz _).1 (wz _).2 hx
  rename_i ho;have ho:=Decidable.not_not.1 ho;obtain ⟨S0,oJ,_,bh,hop,br,hb⟩:=hS.opened he hs gH af ho;have hb:=hb (Wc (aB f).ae);have nI:=hop.wf hS.wf;have L5:=hop.bO hS.gt hS.wf bh;have bN:=(hop.has (by rw[<- oJ];exact ho)).1;clear hop br;rw[<- oJ]at hb nI L5 bN;generalize S.tb.ca (aB f).ae ((aB f).aE-167772161) (aB f).aj ad=o at *
  obtain ⟨T1,D1,dO,lS,hg⟩:=Qt3 gl { S with tb:=o.1 } T D (hS.toNJ.nb.pN nI) (by show S.bG<=_;omega) hW hD (by show S.fl.length<48;omega) o.2.1 (aB f).dst (aB f).av (Wc (aB f).ae);have aV:=R8 (S:={ S with tb:=o.1 }) hS.now L5 bN false;refine go o.2.1 (if o.2.2.1 then [({ S with tb:=o.1 }:NS).ev o.2.1 false] else []) _ T1 D1 hb dO lS (by show S.bG+1<=_;omega) (by show S.told<=_;omega) (by split<;>simp) (fun e he=>?_) (L5.maps _ bN).1.2.2 (fun h=>(h gH).elim) (fun _=>⟨(L5.ok nI).bd _ bN,hg⟩) hx;split at he
  ·rename_i ht;rw[am ht];obtain rfl:=List.mem_singleton.1 he;exact ⟨aV,rfl⟩
  ·cases he
 have e2:=Yfk S f ad;obtain ⟨x,hx⟩:∃ x,S.oM f ad=x:=⟨_,rfl⟩
 rw[hx]at e2;obtain ⟨x,y⟩:=x;obtain ⟨T',D',T1,h1,h2,h3,h4,h5⟩:=key x y hx;dsimp only at e2;subst e2;exact ⟨T',D',h1,h2,Yg4 gl h0 S T T1 T' D hS hW h3 h1.wf ak an ad f hf _ y hx h4 h5⟩
def To.GX {p:List Nat}{t t':List (Nat×AV)}{ex ex':List (Nat×Bk)}{S:NS}{T:WT}{σ:Nat->Nat}{n k r:Nat}(hT:T.wf)(H':HL (ex'++Qo S T) k)(x1a:70<=k)(jI:∀ q ∈ ex',70<=q.1)(hp:∀ b ∈ p,b=67\/b=68)(ct:∀ b b',b<67->b'<67->σ b=σ b'->b=b')(hex:∀ q ∈ ex,∀ b,b<67->σ b≠q.1)
  (hr:r≠67/\r≠68/\(r=69\/k<=r)) (aK:∀ b,b<67->σ b≠67/\σ b≠68/\σ b≠r/\(σ b<67\/k<=σ b))
  (pO:Qc (ex++Xa σ T.hb) n 67=.cells (S.tb.enc++S.Dc r (σ 0))) (rC:Qc (ex++Xa σ T.hb) n 68=.az (gD S.fl) false) (vz:Qc (ex++Xa σ T.hb) n r=.cells (Ql S.keys)) (hl:∀ b,70<=b->b<k->Qc (ex++Xa σ T.hb) n b=Qw (nr σ r) (Qc (ex'++Qo S T) k b)) (ht:Qr (nr σ r) k t t'):To p ⟨t,ex++Xa σ T.hb,n⟩ ⟨t',ex'++Qo S T,k⟩:=by
 have A4:nr σ r 67=67:=rfl;have wm:nr σ r 68=68:=rfl;have tr:nr σ r 69=r:=rfl;have tw:∀ b,70<=b->nr σ r b=b:=fun b hb=>by unfold nr;rw[aa af,aa af]
 have lh:∀ b,b<70->Qc (ex'++Qo S T) k b=Qc (Qo S T) 70 b:=fun b hb=>by
  rw[Xo fun q hq e=>by have:=jI q hq;omega];exact (Qn hT).lo hb k
 refine To.pL (nr σ r) H' (fun b hb=>?_) (fun b b' hb bL e=>?_) (fun b hb=>?_) ht
 ·rcases hp b hb with rfl|rfl<;>exact ⟨rfl,by omega⟩
 ·rcases (by omega:b < 67∨b=67∨b=68∨b=69∨70≤b) with h|rfl|rfl|rfl|h<;>rcases (by omega:b' < 67∨b'=67∨b'=68∨b'=69∨70≤b') with h'|rfl|rfl|rfl|h'
  ·rw[Kz h,Kz h']at e;exact ct _ _ h h' e
  ·rw[Kz h]at e;exact absurd e (aK _ h).1
  ·rw[Kz h]at e;exact absurd e (aK _ h).2.1
  ·rw[Kz h]at e;exact absurd e (aK _ h).2.2.1
  ·rw[Kz h,tw _ h']at e;have:=(aK _ h).2.2.2;omega
  ·rw[Kz h']at e;exact absurd e.symm (aK _ h').1
  ·rfl
  ·cases e
  ·rw[A4,tr]at e;omega
  ·rw[A4,tw _ h']at e;omega
  ·rw[Kz h']at e;exact absurd e.symm (aK _ h').2.1
  ·cases e
  ·rfl
  ·rw[wm,tr]at e;omega
  ·rw[wm,tw _ h']at e;omega
  ·rw[Kz h']at e;exact absurd e.symm (aK _ h').2.2.1
  ·rw[A4,tr]at e;omega
  ·rw[wm,tr]at e;omega
  ·rfl
  ·rw[tr,tw _ h']at e;omega
  ·rw[Kz h',tw _ h]at e;have:=(aK _ h').2.2.2;omega
  ·rw[A4,tw _ h]at e;omega
  ·rw[wm,tw _ h]at e;omega
  ·rw[tr,tw _ h]at e;omega
  ·rw[tw _ h,tw _ h']at e;exact e
 ·rcases (by omega:b < 67∨b=67∨b=68∨b=69∨70≤b) with h|rfl|rfl|rfl|h
  ·rw[Kz h,Xel hT ct hex h,lh b af];have e:Qc (Qo S T) 70 b=Qc T.hb 67 b:=by
    unfold Qo;rw[Qf,aa af,Qf,aa af,Qf,aa af];exact ((WT.iq hT).live h 70).1
   rw[e];exact xV (n:=67) (fun b hb=>(Kz hb).symm) (RM hT h).2
  ·rw[A4,pO,lh 67 af,nF];show _=Bk.cells (ay (nr σ r) S.cells);rw[NS.ku,wm,tr,Kz (by decide:0<67)];rfl
  ·rw[wm,rC,lh 68 af,AX,Xey]
  ·rw[tr,vz,lh 69 af,AY,Qt4]
  ·rw[tw b h];exact hl b h hb
def Xn7 {D D':List Tm}(h:D.Perm D')(n:Nat):a6 D n=a6 D' n:=by
 unfold a6;rw[Xd5 (h.filter _)]
def Yas {S:NS}(h:S.fl.Pairwise fun p q=>p.1≠q.1):S.aX.Pairwise fun a b=>a.id≠b.id:=by
 unfold NS.aX;exact List.pairwise_map.2 h
def Xkh {D:List Tm}(h:D.Pairwise fun a b=>a.id≠b.id)(n:Nat):(a6 D n).Pairwise (·≠·):=by
 unfold a6;refine List.pairwise_map.2 ?_;have h1:=h.filter fun t=>decide (t.due<n);exact (List.Perm.pairwise_iff (fun {a b} (e:a.id≠b.id)=>e.symm) (Ks _)).2 h1
def NS.cut (S:NS)(k:Int):NS:={ S with fl:=S.fl.filter fun r=>!(r.1==k) }
noncomputable def GY (S:NS)(es:List Ev)(q:Int×Fl):NS×List Ev :=
 if ((S.cut q.1).fl.any fun r=>decide (r.2.map=q.2.map)) then (S.cut q.1,es) else
 ({ S.cut q.1 with tb:=(S.tb.cls q.2.map).1 },if (S.tb.cls q.2.map).2.1 then es++[(S.cut q.1).ev q.2.map true] else es)
def Qth {S:NS}(hd:S.fl.Pairwise fun p q=>p.1≠q.1)  (hq:q ∈ S.fl)(es:List Ev):cN (S,es) q.1=GY S es q:=by
 have hf:S.fl.find? (fun r=>r.1==q.1)=some q:=by
  cases hx:S.fl.find? (fun r=>r.1==q.1) with
  | none=>have:=List.find?_eq_none.1 hx q hq;simp at this
  | some r =>
   have h1:=List.find?_some hx;rw[GC hd (List.mem_of_find?_eq_some hx) hq (by simpa using h1)]
 unfold cN GY NS.cut;dsimp only;rw[hf]
def Yfj {S:NS}(h:NJ S)(k:Int):NB (S.cut k) :=
 ⟨h.wf,fun q hq=>h.ids q (List.mem_filter.1 hq).1,h.dS.sublist List.filter_sublist,h.now,h.lg⟩
def Xx9 (S:NS)(k:Int):(S.cut k).keys=eD k S.keys:=by
 unfold NS.keys NS.cut eD;dsimp only;rw[List.filter_map];rfl
noncomputable def NS.dT (S:NS)(d:Int)(i:Nat):NS×List Ev:=((S.ended d).take i).foldl cN (S.later d,[])
def Qx7 (S:NS)(d:Int)(i:Nat)(h:i<(S.ended d).length):S.dT d (i+1)=cN (S.dT d i) (S.ended d)[i]:=by
 unfold NS.dT;rw[List.take_succ,List.getElem?_eq_getElem h,List.foldl_append];rfl
def GZ {S:NS}(h:NI S){d:Int}(hd:¬ (d<1\/549755813888-S.now<d))(i:Nat):mV (S.later d) (S.dT d i).1 ((S.ended d).take i) (S.dT d i).2:=by
 obtain ⟨es,e,hE⟩:=Qtc (h.later hd) ((S.ended d).take i);unfold NS.dT;rw[e];exact hE
def Ycc {S:NS}(h:NI S){d:Int}(hd:¬ (d<1\/549755813888-S.now<d)){i:Nat}(hi:i<(S.ended d).length):∃ q ∈ (S.dT d i).1.fl,q.1=(S.ended d)[i]:=by
 have hE:=GZ h hd i;obtain ⟨t,ht,_,e⟩:=LM.1 (List.getElem_mem hi:(S.ended d)[i] ∈ a6 S.aX (S.now+d.toNat+1));obtain ⟨q,hq,rfl⟩:=mem_map.1 ht;refine ⟨q,?_,e⟩;rw[hE.fl];refine List.mem_filter.2 ⟨hq,?_⟩;have sa:(S.ended d).Pairwise (·≠·):=Xkh (Yas h.dS) _;have:q.1 ∉ (S.ended d).take i:=fun hm=>by
  obtain ⟨j,hj,ej⟩:=getElem_of_mem hm;rw[length_take]at hj;rw[List.getElem_take]at ej;have:=(List.pairwise_iff_getElem.1 sa) j i af hi af;exact this (ej.trans e)
 rw[List.contains_eq_mem];simpa using this
def Xxc {l:List (Int×Fl)}(hd:l.Pairwise fun p q=>p.1≠q.1)  (hq:q ∈ l):zB (gD l) (.int .i64 q.1)=gD (l.filter fun r=>!(r.1==q.1)):=by
 obtain ⟨i,hi,rfl⟩:=getElem_of_mem hq;unfold zB;rw[LH,RZ hd hi];dsimp only;have hs:l=l.take i++l[i]::l.drop (i+1):=by rw[<- List.drop_eq_getElem_cons hi,List.take_append_drop]
 have iA:=List.pairwise_iff_getElem.1 hd;have hA:(l.take i).filter (fun r=>!(r.1==l[i].1))=l.take i:=List.filter_eq_self.2 fun r hr=>by
  obtain ⟨j,hj,rfl⟩:=getElem_of_mem hr;rw[length_take]at hj;rw[List.getElem_take];simpa using iA j i af hi af
 have hB:(l.drop (i+1)).filter (fun r=>!(r.1==l[i].1))=l.drop (i+1):=List.filter_eq_self.2 fun r hr=>by
  obtain ⟨j,hj,rfl⟩:=getElem_of_mem hr;rw[List.length_drop]at hj;rw[List.getElem_drop];simpa using (iA i (i+1+j) hi af af).symm
 have hf:(l.filter fun r=>!(r.1==l[i].1))=l.take i++l.drop (i+1):=by
  generalize hx:l[i]=x at *
  conv=>lhs;rw[hs]
  rw[List.filter_append,List.filter_cons,aa aw,hA,hB]
 rw[hf,List.eraseIdx_eq_take_drop_succ];unfold gD;rw[List.map_append,List.map_take,List.map_drop]
def To.lq {p:List Nat}{t t':List (Nat×AV)}{ex ex':List (Nat×Bk)}{S S':NS}{T:WT}{n k:Nat}(ρ:Nat->Nat)(hT:T.wf)(H':HL (ex'++Qo S' T) k)(hk:70<=k)(jI:∀ q ∈ ex',70<=q.1)(hex:∀ q ∈ ex,67<=q.1)(hp:∀ b ∈ p,b<70)(hρ:∀ b,b<70->ρ b=b)(hρ2:∀ b,70<=b->b<k->70<=ρ b)(ct:∀ b b',70<=b->b<k->70<=b'->b'<k->ρ b=ρ b'->b=b')
  (pO:Qc (ex++Qo S T) n 67=.cells S'.cells) (rC:Qc (ex++Qo S T) n 68=.az (gD S'.fl) false) (vz:Qc (ex++Qo S T) n 69=.cells (Ql S'.keys)) (hl:∀ b,70<=b->b<k->Qc (ex++Qo S T) n (ρ b)=Qw ρ (Qc (ex'++Qo S' T) k b)) (ht:Qr ρ k t t'):To p ⟨t,ex++Qo S T,n⟩ ⟨t',ex'++Qo S' T,k⟩:=by
 have lh:∀ b,b<70->Qc (ex'++Qo S' T) k b=Qc (Qo S' T) 70 b:=fun b hb=>by
  rw[Xo fun q hq e=>by have:=jI q hq;omega];exact (Qn hT).lo hb k
 refine To.pL ρ H' (fun b hb=>⟨hρ b (hp b hb),by have:=hp b hb;omega⟩) (fun b b' hb bL e=>?_) (fun b hb=>?_) ht
 ·by_cases h1:b < 70<;>by_cases h2:b' < 70
  ·rw[hρ b h1,hρ b' h2]at e;exact e
  ·rw[hρ b h1]at e;have:=hρ2 b' af bL;omega
  ·rw[hρ b' h2]at e;have:=hρ2 b af hb;omega
  ·exact ct b b' af hb af bL e
 ·by_cases h1:b < 70
  ·rw[hρ b h1,lh b h1];have Sw:Qw ρ (Qc (Qo S' T) 70 b)=Qc (Qo S' T) 70 b:=by
    rw[xV (g:=id) (fun b hb=>hρ b hb) ((Qn hT).nm h1),qZ]
   rw[Sw];rcases (by omega:b<67\/b=67\/b=68\/b=69) with h|rfl|rfl|rfl
   ·rw[Xo fun q hq e=>by have:=hex q hq;omega];have e:∀ (X:NS) (m:Nat),Qc (Qo X T) m b=Qc T.hb 67 b:=fun X m=>by
     unfold Qo;rw[Qf,aa af,Qf,aa af,Qf,aa af];exact ((WT.iq hT).live h m).1
    rw[e,e]
   ·exact pO
   ·exact rC
   ·exact vz
  ·exact hl b af hb
def Xsn {S:NS}(h:S.tb.wf)(k:Int):(S.cut k).cells=S.cells.set 31 (.sl 1 69 0 (S.cut k).fl.length (S.cut k).fl.length):=by
 rw[NS.dQ h 1];rfl
def Xw0 (a b:List Ev):Xk a++Xk b=Xk (a++b):=by simp[Xk]
def bM (S:NS)(m:Mp)(x:Int):Bool:=S.fl.any fun q=>q.1==x&&decide (q.2.map=m)
def Sx {S:NS}(hd:S.fl.Pairwise fun p q=>p.1≠q.1)  (hq:q ∈ S.fl)(m:Mp):bM S m q.1=decide (q.2.map=m):=by
 unfold bM;rw[Bool.eq_iff_iff,any_eq_true];constructor
 ·rintro ⟨x,hx,h⟩;rw[Bool.and_eq_true,beq_iff_eq]at h;rw[<- GC hd hx hq h.1];exact h.2
 ·intro h;exact ⟨q,hq,by rw[h];simp⟩
def Yh1 {S:NS}(hd:S.fl.Pairwise fun p q=>p.1≠q.1)(m:Mp):S.keys.any (bM S m)=S.fl.any fun q=>decide (q.2.map=m):=by
 unfold NS.keys;rw[List.any_map,Bool.eq_iff_iff,any_eq_true,any_eq_true];constructor<;>rintro ⟨q,hq,h⟩
 ·exact ⟨q,hq,by rw[<- Sx hd hq];exact h⟩
 ·exact ⟨q,hq,by show bM S m q.1=true;rw[Sx hd hq];exact h⟩
def Xpy (S:NS)(T:WT)(D:List Tm)(hS:NI S)(hW:WI T S.now D)(d:Int)(hd:d<1\/549755813888-S.now<d):GD Tryz.prog gl 60 [.ptr 67 0,.int .i64 d] (Qo S T) 70 [67] (.agg (bJ 2).enc) (Qo S T):=by
 have hT:=hW.wf;refine RX.gq (ap rfl) (rB hT) aw fun c bf hg=>?_;subst hg
 conv in aG _ _=>cbv
 obtain ⟨Z1,rD,qV⟩:∃ Z:Int,(549755813888:Int)=Z/\0<=Z/\Z<=549755813888:=⟨_,rfl,by decide,by decide⟩
 rw[rD];have aZ:=fun n b hb=>Kc (S:=S) hT n b hb;have cG:=nF S T;have aW:=NS.bb hS.wf;have jJ:=NS.jJ hS.wf;have gT:=hW.iv c.gl;have OY:=hS.now;refine Qd (An @aZ (An @cG (An @aW @jJ))) ?_;refine Xt9 (ex:=[(71,_),(70,_),(67,_),(68,_),(69,_)]) gT hT aJ aw (by exact Qi (An @aW @jJ)) (by simp[Qe]) ?_;refine Qa ?_;refine Qb ?_ ?_<;>intro h1;rotate_left
 ·omega
 unfold bJ Rp.enc;refine Qd @aZ ?_;exact ⟨(),To.drop (ex:=[(71,_),(71,_),(70,_)]) (Qn hT) aw aw (by simp[Qr,Qe,ah,look,aA,ay])⟩
def Xw3 (h0:gl 0=.xp (Ql Xv) 0)(S:NS)(T:WT)(D:List Tm)(hS:NI S)(mU:S.told<=90000)(hW:WI T S.now D)(hD:D.Perm S.aX)(d:Int)(hd:¬ (d<1\/549755813888-S.now<d)):∃ T' D',WI T' (S.tick d).2.now D'/\D'.Perm (S.tick d).2.aX/\GD Tryz.prog gl 60 [.ptr 67 0,.int .i64 d] (Qo S T) 70 [67] (.agg (S.tick d).1.enc) (Qo (S.tick d).2 T'):=by
 have hT:=hW.wf;have OY:=hS.now;obtain ⟨dn,rfl⟩:∃ k:Nat,d=k:=⟨d.toNat,by omega⟩
 obtain ⟨T',iS,Bd⟩:=hW.AS gl (S.now+dn);have hR:xU S.now D (S.now+dn)=(0,S.ended dn,S.now+dn,D.filter fun t=>decide (S.now+dn<t.due)):=by
  unfold xU NS.ended;rw[aa af,Xn7 hD];have:((S.now:Int)+dn).toNat=S.now+dn:=by omega
  rw[this,Int.toNat_natCast]
 rw[hR]at iS Bd;dsimp only at iS Bd;have fv:=iS.wf;rw[LO,aa hd];have G0:=(hS.yc hd).choose_spec.2.1;refine ⟨T',D.filter fun t=>decide (S.now+dn<t.due),?_,?_,?_⟩
 ·show WI T' (List.foldl cN (S.later dn,[]) (S.ended dn)).1.now _;rw[G0.now];exact iS
 ·refine (hD.filter _).trans (List.Perm.of_eq ?_);show _=NS.aX (List.foldl cN (S.later dn,[]) (S.ended dn)).1;unfold NS.aX;rw[G0.fl,List.filter_map];show List.map _ (S.fl.filter _)=List.map _ (S.fl.filter _);congr 1;refine List.filter_congr fun q hq=>?_;show decide (S.now + dn < q.2.due.toNat)=!((S.ended dn).contains q.1);rw[List.contains_eq_mem,← decide_not,decide_eq_decide];constructor
  ·intro hlt hm;obtain ⟨t,ht,h1,h2⟩:=LM.1 hm;obtain ⟨r,hr,rfl⟩:=mem_map.1 ht;rw[GC hS.dS hr hq h2]at h1;simp only[Int.toNat_natCast]at h1;omega
  ·intro hm;refine Nat.lt_of_not_le fun hle=>hm (LM.2 ⟨⟨q.1,q.2.due.toNat⟩,mem_map.2 ⟨q,hq,rfl⟩,?_,rfl⟩);show q.2.due.toNat<S.now+(dn:Int).toNat+1;rw[Int.toNat_natCast];omega
 refine RX.gq (ap rfl) (rB hT) aw fun c bf hg=>?_;subst hg
 conv in aG _ _=>cbv
 obtain ⟨Z1,rD,qV⟩:∃ Z:Int,(549755813888:Int)=Z/\0<=Z/\Z<=549755813888:=⟨_,rfl,by decide,by decide⟩
 rw[rD];have aZ:=fun n b hb=>Kc (S:=S) hT n b hb;have cG:=nF S T;have aW:=NS.bb hS.wf;have jJ:=NS.jJ hS.wf;have we:=NS.we hS.wf;have gT:=hW.iv c.gl;have R1:=hS.ref;obtain ⟨v,hv⟩:∃ v:Nat,v=min 4 (S.ref+min dn 4):=⟨_,rfl⟩
 obtain ⟨m1,lG⟩:∃ m1:Nat,m1=min dn 4:=⟨_,rfl⟩
 have tz:∀ d1:Decidable ((4:Int)<(dn:Int)),@ite Int ((4:Int)<(dn:Int)) d1 4 dn=m1:=fun d1=>by split<;>omega
 have wA:∀ d1:Decidable ((S.ref:Int)+m1<4),@ite Int ((S.ref:Int)+m1<4) d1 (S.ref+m1) 4=v:=fun d1=>by split<;>omega
 have DU:S.later dn={ S with now:=S.now+dn,ref:=v }:=by unfold NS.later;rw[hv,Int.toNat_natCast]
 have Gz:S.cells.set 35 (.int .i64 v)=(S.later dn).cells:=by rw[DU,NS.Gz hS.wf];rfl
 have Sy:(S.later dn).cells.length=38:=NS.bb (S:=S.later dn) hS.wf;have l33:(S.later dn).cells.getD 33 .any=.ptr 0 0:=NS.jJ (S:=S.later dn) hS.wf;refine Qd (An @aZ (An @cG (An @aW @jJ))) ?_;refine Xt9 (ex:=[(71,_),(70,_),(67,_),(68,_),(69,_)]) gT hT aJ aw (by exact Qi (An @aW @jJ)) (by simp[Qe]) ?_;refine Qa ?_;refine Qb ?_ ?_<;>intro h1
 ·omega
 refine Qd (An @aW @we) ?_;erw [tz,wA,Gz];refine Qd (An @Sy @l33) ?_;have H2:HL ([(71,.cells [.int .i64 0,.str [],.bool false,.str []]),(70,.cells [.ptr 67 0])]++Qo (S.later dn) T') 72:=((Qn fv).more (by simp[bV,ah,Qe])).more (by simp[bV,ah,Qe]);refine ti (v:=false) (pp:=[67]) (ex:=[(67,_),(71,_),(70,_),(67,_),(68,_),(69,_)]) (s3:=⟨[(2,.ptr 70 0),(4,.ptr 71 0),(48,.aR [.isl (S.ended dn).length (Ql (S.ended dn)),.int .i64 0])],[(71,.cells [.int .i64 0,.str [],.bool false,.str []]),(70,.cells [.ptr 67 0])]++Qo (S.later dn) T',72⟩) bf Bd (WT.iq hT) (WT.iq fv) (by simp[Qe,ah,Uz]) aJ aJ aw rfl ?_ ?_ ?_
 ·exact Qi @Yt
 ·rw[RO (by simp[Qe,ah,Uz])];refine To.GX (k:=72) (r:=69) fv H2 aJ aw aw (fun b b' h h' e=>RN aJ h h' e) ?_ aJ ?_ ?_ rfl rfl (fun b h1 h2=>?_) ?_
  ·intro q hq b hb e;have h1:ie 139 b < 2∨141≤ie 139 b:=by unfold ie;split<;>omega
   simp at hq;rcases hq with rfl|rfl|rfl|rfl|rfl|rfl<;>dsimp only at e<;>omega
  ·intro b hb;have h1:ie 139 b < 2∨141≤ie 139 b:=by unfold ie;split<;>omega
   omega
  ·rfl
  ·rcases (by omega:b=70\/b=71) with rfl|rfl<;>rfl
  ·have wB:ay (nr (ie 139) 69) (Ql (S.ended dn))=Ql (S.ended dn):=Qt _ _;simp[Qr,Qe,ah,look,aA,ay,Uz,nr,wB]
 clear Gz tz wA l33;have hEl:=Xw (S.ended dn);have yea:(S.ended dn).length<=48:=Nat.le_trans (LN _ _) (by unfold NS.aX;rw[List.length_map];exact hS.len);refine Qa ?_;have hHl:=fun n b hb=>Kc (S:=S.later dn) fv n b hb;refine vn 8 5 rfl (by exact Qi @hHl) ?_;unfold St.named
 refine Yk (fun i:Nat=>i≤(S.ended dn).length) (fun i=>⟨[(2,.ptr 70 0),(4,.ptr 71 0),(8,.sl 5 72 0 (S.dT dn i).2.length (S.dT dn i).2.length),(51,.isl (S.ended dn).length (Ql (S.ended dn))),(52,.int .i64 (S.ended dn).length),(53,.int .i64 i)],[(72,.cells (Xk (S.dT dn i).2)),(71,.cells [.int .i64 0,.str [],.bool false,.str []]),(70,.cells [.ptr 67 0])]++Qo (S.dT dn i).1 T',73⟩) (fun i=>(S.ended dn).length - i) RX.mixed [67] bf
  ⟨0,Nat.zero_le _,To.fN (by (refine XG ?_;((try with_reducible and_intros);all_goals try first|refine zm ?_|exact CL));all_goals rfl) fun b=>rfl⟩ fun i hi=>?_
 have hE:=GZ hS hd i;have cp:=Qx7 S dn i;have bN:=Ycc hS hd (i:=i);have hlen:(S.dT dn i).2.length<=48:=Nat.le_trans hE.len (by rw[length_take];omega);have yi:i=(S.ended dn).length->(S.dT dn i)=(S.ended dn).foldl cN (S.later dn,[]):=fun e=>by unfold NS.dT;rw[e,List.take_length]
 generalize hx:S.dT dn i=x at *
 obtain ⟨Si,es⟩:=x;dsimp only at hE bN hlen cp ⊢;have aZ:=fun n b hb=>Kc (S:=Si) fv n b hb;have cG:=nF Si T';have wj:=AX Si T';have Db:=AY Si T';have aW:=NS.bb hE.nj.wf;have fR:=NS.fR hE.nj.wf;have lR:=NS.lR hE.nj.wf;have ei:=Da Si.fl;have fY:=wi Si;refine Qa ?_;refine Qb ?_ ?_<;>intro h2
 ·have aK:i < (S.ended dn).length:=by omega
  have nG:=C6 (S.ended dn) i aK;have cp:=cp aK;obtain ⟨q,hq,QH⟩:=bN aK;rw[<- QH]at nG cp;rw[Qth hE.nj.dS hq]at cp;have eY:=sP q.1;have fJ:=LL hE.nj.dS hq (.agg Fl.zero);have hqm:=hE.nj.gt.maps _ (hE.nj.kp q hq);have hqb:=hE.nj.ok.bd _ (hE.nj.kp q hq);obtain ⟨k,⟨mp,ms,mi,ma,mt⟩,g0,g1,g2,g3,g4⟩:=q;unfold Fl.enc Zi at fJ;dsimp only at fJ nG eY hqm hqb cp;refine Qd (An @nG (An @aZ (An @cG (An @aW @fR)))) ?_;refine Up oI (An @wj (An @ei (An @eY (An @fJ (An @aZ (An @cG (An @aW @fR))))))) ?_;refine Qd (An @cG (An @aW @fR)) ?_;have AE:=Xxc hE.nj.dS hq;dsimp only at AE;have Ha:Si.keys.length=Si.fl.length:=by simp[NS.keys]
  have Gf:=hE.nj.len;have vK:=Ybi c.gl Si.keys af k;rw[Ha]at vK;have f31:(Si.cells.set 31 (.sl 1 69 0 (eD k Si.keys).length Si.fl.length)).getD 31 .any=.sl 1 69 0 (eD k Si.keys).length Si.fl.length:=by rw[yZ (by rw[aW];decide),am rfl]
  refine OD oI (An @wj (An @ei (An @eY (An @AE (An @cG (An @aW @lR)))))) ?_
  ((first|refine Kk (ins:=[69,73]) vK ?_ ?_|refine Jc (ins:=[69,73]) vK ?_ ?_|refine Jb (ins:=[69,73]) vK ?_ ?_|refine Zc (ins:=[69,73]) vK ?_ ?_)<;>(have aQ:=@Db;have bw:=@aZ;have bQ:=@cG;have cy:=@aW;have dh:=@lR;have ff:=@f31;refine XG ?_;clear aQ bw bQ cy dh ff;(try first|exact rfl|exact True.intro);((try with_reducible and_intros);all_goals try first|refine zm ?_|exact CL)))
  ·decide
  have hck:=Xx9 Si k;have wa:(eD k Si.keys).length=(Si.cut k).fl.length:=by rw[<- hck];simp[NS.keys]
  have uI:=Xsn hE.nj.wf k;rw[wa];rw[<- hck];have Po:(Si.cut k).fl.length<=Si.fl.length:=List.length_filter_le _ _;have tv:∀ n,ah n (Xk es):=fun n=>Wv n es;have LY:∀ ρ,ay ρ (Xk es)=Xk es:=fun ρ=>by
   rw[Zd];exact (map_congr_left fun v hv=>td (Xh.1 (tv 0) v hv)).trans (map_id _)
  have H5:HL ([(74,.cells [.int .i64 mp,.int .i64 ms,.int .i64 mi,.int .i64 ma,.int .i64 mt]),(73,.cells [.int .i64 k]),(72,.cells (Xk es)),(71,.cells [.int .i64 0,.str [],.bool false,.str []]),(70,.cells [.ptr 67 0])]++Qo (Si.cut k) T') 75:=((((GG fv).more (by simp[bV,ah,Qe])).more (by exact tv _)).more (by simp[bV,ah,Qe])).more (by simp[bV,ah,Qe]);refine np (p:=[67]) bf (To.XJ 81 (y:=.sl 1 69 0 (Si.cut k).fl.length (Si.cut k).fl.length) (Wk.cap 1 69 0 _ _)) ?_;refine np (p:=[67]) bf (To.XK (b:=67) (cs:=Si.cells.set 31 (.sl 1 69 0 (Si.cut k).fl.length Si.fl.length)) (cs':=(Si.cut k).cells) rfl (by rw[uI];simp) fun j hj=>?_) ?_
  ·rw[uI];rw[List.length_set]at hj;by_cases e:31=j
   ·subst e;rw[yZ (by rw[aW];decide),yZ (by rw[aW];decide),am rfl,am rfl];exact Wk.cap 1 69 0 _ _
   ·rw[yZ (by rw[aW];decide),yZ (by rw[aW];decide),aa e,aa e];exact Wk.refl _
  refine np (p:=[67]) (s':=⟨[(2,.ptr 70 0),(4,.ptr 71 0),(8,.sl 5 72 0 es.length es.length),(11,.ptr 74 0),(51,.isl (S.ended dn).length (Ql (S.ended dn))),(52,.int .i64 (S.ended dn).length),(53,.int .i64 i),(81,.sl 1 69 0 (Si.cut k).fl.length (Si.cut k).fl.length),(82,.cl 101 [.ptr 70 0,.ptr 74 0])],[(74,.cells [.int .i64 mp,.int .i64 ms,.int .i64 mi,.int .i64 ma,.int .i64 mt]),(73,.cells [.int .i64 k]),(72,.cells (Xk es)),(71,.cells [.int .i64 0,.str [],.bool false,.str []]),(70,.cells [.ptr 67 0])]++Qo (Si.cut k) T',75⟩) bf ?_ ?_
  ·refine To.lq (ex:=[(67,_),(67,_),(73,_),(69,_),(68,_),(74,_),(74,_),(73,_),(73,_),(72,_),(71,_),(70,_)]) id fv H5 aJ aw aw aw (fun _ _=>rfl) (fun b h _=>h) (fun b b' _ _ _ _ e=>e) rfl rfl rfl (fun b h1 h2=>?_) ?_
   ·rw[qZ];rcases (by omega:b=70\/b=71\/b=72\/b=73\/b=74) with rfl|rfl|rfl|rfl|rfl<;>rfl
   ·have wB:=sm (Ql (S.ended dn));simp[Qr,Qe,ah,look,aA,ay,Uz,wB]
  have pV:=Yfj hE.nj k;have tu:=Xe5 c.gl (l:=(Si.cut k).keys) (kb:=69) (f:=101) (caps:=[.ptr 70 0,.ptr 74 0]) (b:=bM (Si.cut k) ⟨mp,ms,mi,ma,mt⟩) H5 (by rw[hck,wa];omega) aJ (fun n=>rfl) (by simp[ah,Qe]) (fun x hx=>by
   obtain ⟨q,hq,rfl⟩:=mem_map.1 hx;rw[Sx pV.dS hq];exact Xog c.gl pV H5 (fun n=>rfl) (fun n=>rfl) (fun n=>rfl) (fun n=>rfl) hq)
  rw[Yh1 pV.dS,hck,wa]at tu;refine tg (v:=false) (ex:=[]) tu H5 H5 (by simp[Qe]) aJ aw rfl ?_ ?_
  ·exact Qi @Yt
  unfold GY at cp;dsimp only at cp;cases fa:(Si.cut k).fl.any (fun q=>decide (q.2.map=⟨mp,ms,mi,ma,mt⟩)) with
  | true =>
   rw[fa,am rfl]at cp;refine Qa ?_;refine Yc ?_;refine Qa ?_;refine ⟨i+1,by omega,?_,by omega⟩;rw[cp];have H3:HL ([(72,.cells (Xk es)),(71,.cells [.int .i64 0,.str [],.bool false,.str []]),(70,.cells [.ptr 67 0])]++Qo (Si.cut k) T') 73:=((GG fv).more (by simp[bV,ah,Qe])).more (by exact tv _);refine To.drop (ex:=[(74,_),(73,_)]) H3 aw aw ?_;have wB:=sm (Ql (S.ended dn));simp[Qr,Qe,ah,look,aA,ay,Uz,wB]
  | false =>
   rw[fa,aa aw]at cp;have hC:=Xnr c.gl Si.tb hE.nj.ok ⟨mp,ms,mi,ma,mt⟩;obtain ⟨_,_,_,oX,dV,_,_⟩:=hE.nj.gt.cls hE.nj.wf (hE.nj.kp _ hq);dsimp only at oX dV;unfold Wu Mp.enc at hC;dsimp only at hC;have cG:=nF (Si.cut k) T';have aZ:=fun n b hb=>Kc (S:=Si.cut k) fv n b hb;have Be:=NS.bb (S:=Si.cut k) hE.nj.wf;have Sz:List.take 30 (Si.cut k).cells=Si.tb.enc:=NS.gV (S:=Si.cut k) hE.nj.wf;have yga:∀ tb,GT tb->True:=fun _ _=>trivial;generalize Si.tb.cls ⟨mp,ms,mi,ma,mt⟩=cl at *
   obtain ⟨wC,gv,ce⟩:=cl;dsimp only at hC dV oX cp;have aD:=Tb.au dV;have Oa:=Tb.cg wC;have qP:wC.enc.take 30=wC.enc:=take_of_length_le (by rw[aD];decide);have dW:=NS.GJ (S:=Si.cut k) hE.nj.wf dV;refine Qa ?_;refine Yc ?_;refine Qd (An @cG (An @Be @Sz)) ?_;refine Qk hC (An @aZ (An @aD (An @cG (An @Be (An @qP @dW))))) ?_;refine Qd (An @cG (An @Be (An @aD (An @qP @dW)))) ?_;cases gv with
   | false =>
    refine Yc ?_;refine Qa ?_;refine ⟨i+1,by omega,?_,by omega⟩;rw[cp,aa aw];have H3:HL ([(72,.cells (Xk es)),(71,.cells [.int .i64 0,.str [],.bool false,.str []]),(70,.cells [.ptr 67 0])]++Qo { Si.cut k with tb:=wC } T') 73:=((GG fv).more (by simp[bV,ah,Qe])).more (by exact tv _);refine To.lq (ex:=[(67,_),(150,_),(150,_),(74,_),(73,_),(72,_),(71,_),(70,_)]) id fv H3 aJ aw aw aw (fun _ _=>rfl) (fun b h _=>h) (fun b b' _ _ _ _ e=>e) rfl rfl rfl (fun b h1 h2=>?_) ?_
    ·rw[qZ];rcases (by omega:b=70\/b=71\/b=72) with rfl|rfl|rfl<;>rfl
    ·have wB:=sm (Ql (S.ended dn));simp[Qr,Qe,ah,look,aA,ay,Uz,wB]
   | true =>
    refine Yc ?_;rw[am rfl]at cp;have Hb:(Si.cut k).now=S.now+dn:=hE.now;have jo:=Qto c.gl { Si.cut k with tb:=wC } T' _ (pV.pN dV) (by show WI T' (Si.cut k).now _;rw[Hb];exact iS) ⟨mp,ms,mi,ma,mt⟩ hqb true;unfold Mp.enc at jo;dsimp only at jo;rw[show ({ Si.cut k with tb:=wC }:NS).ev ⟨mp,ms,mi,ma,mt⟩ true=(Si.cut k).ev ⟨mp,ms,mi,ma,mt⟩ true from rfl]at jo;have Hc:=Xw0 es [(Si.cut k).ev ⟨mp,ms,mi,ma,mt⟩ true];obtain ⟨E,SA⟩:∃ E,Xk [(Si.cut k).ev ⟨mp,ms,mi,ma,mt⟩ true]=E:=⟨_,rfl⟩
    have hE1:∀ n,ah n E:=fun n=>by rw[<- SA];exact Wv n _
    have hE5:E.length=1*5:=by rw[<- SA,xW];rfl
    have hE6:(Xk es).length=es.length*5:=xW es;rw[SA]at jo Hc;refine Qa ?_;refine Sg (LR (A:=[]) (B:=[(150,_),(150,_),(74,_),(73,_),(72,_),(71,_),(70,_)]) (S:=Si.cut k) (S':={ Si.cut k with tb:=wC }) (T:=T') rfl aw aw) ?_;refine tg (v:=false) (ex:=[(150,_),(150,_),(74,_),(73,_),(72,_),(71,_),(70,_)]) jo (Qn fv) (Qn fv) (by simp[Qe,hE1]) aJ aw rfl ?_ ?_
    ·exact Qi @Yt
    have sY:=fun n b hb=>Kc (S:={ Si.cut k with tb:=wC }) fv n b hb;refine Qa ?_;refine Ym (An @sY (An @hE5 (An @hE6 @Hc))) ?_;refine ⟨i+1,by omega,?_,by omega⟩;rw[cp];have Hd:∀ n,ah n (Xk (es++[(Si.cut k).ev ⟨mp,ms,mi,ma,mt⟩ true])):=fun n=>Wv n _;have hl2:(es++[(Si.cut k).ev ⟨mp,ms,mi,ma,mt⟩ true]).length=es.length+1:=by simp
    dsimp only;rw[hl2];generalize Xk (es++[(Si.cut k).ev ⟨mp,ms,mi,ma,mt⟩ true])=E2 at *
    have SB:∀ ρ,ay ρ E2=E2:=fun ρ=>by
     rw[Zd];exact (map_congr_left fun v hv=>td (Xh.1 (Hd 0) v hv)).trans (map_id _)
    have H3:HL ([(72,.cells E2),(71,.cells [.int .i64 0,.str [],.bool false,.str []]),(70,.cells [.ptr 67 0])]++Qo { Si.cut k with tb:=wC } T') 73:=((GG fv).more (by simp[bV,ah,Qe])).more (by exact Hd _);refine To.lq (ex:=[(221,_),(72,.dead),(150,_),(150,_),(74,_),(73,_),(72,_),(71,_),(70,_)]) (fun b=>if b=72 then 221 else b) fv H3 aJ aw aw aw (fun b hb=>aa af) (fun b h h2=>?_) (fun b b' h1 h2 h3 h4 e=>?_) rfl rfl rfl (fun b h1 h2=>?_) ?_
    ·split<;>omega
    ·(repeat' split at e)<;>omega
    ·rcases (by omega:b=70∨b=71∨b=72) with rfl|rfl|rfl
     ·rfl
     ·rfl
     ·show Bk.cells E2=Bk.cells (ay _ E2);rw[SB]
    ·have wB:ay (fun b=>if b=72 then 221 else b) (Ql (S.ended dn))=Ql (S.ended dn):=Qt _ _;simp[Qr,Qe,ah,look,aA,ay,Uz,wB]
 ·obtain rfl:i=(S.ended dn).length:=by omega
  rw[<- yi rfl];have dN:Si.told=S.told:=hE.told;have lj:=Xdu c.gl h0 Si T' hE.nj fv af es af (fun e he=>by
   obtain ⟨g1,g2⟩:=hE.bO e he;refine ⟨g2,?_⟩;cases es with
   | nil=>cases he
   | cons e0 l=>exact g1.trans (hE.bO e0 List.mem_cons_self).1.symm)
  rw[dN]at lj;have hE6:(Xk es).length=es.length*5:=xW es;have He:((Xk es).drop 0).take (es.length*5)=Xk es:=by rw[List.drop_zero,take_of_length_le af]
  have tv:∀ n,ah n (Xk es):=fun n=>Wv n es;refine Qa ?_;refine np (p:=[67]) bf (To.fZ (b:=72) (i:=106) rfl rfl) ?_;rw[He];refine tg (v:=false) (n:=73) (ex:=[(72,.dead),(72,_),(71,_),(70,_)]) lj (Qn fv) (Qn fv) (by simp[Qe]) aJ aw rfl ?_ ?_
  ·exact Qi (An @Yt @tv)
  refine Qa ?_;unfold Rp.enc;exact ⟨(),To.drop (ex:=[(71,_),(72,.dead),(72,_),(71,_),(70,_)]) (Qn fv) aw aw (by simp[Qr,Qe,ah,look,aA,ay])⟩
def NS.L6 {S:NS}(h:S.tb.wf)(v:Nat):S.cells.set 36 (.int .i64 v)=({ S with bm:=v }:NS).cells:=NS.dQ h 6 _
def NS.oN {S:NS}(h:S.tb.wf):S.cells.take 21=S.tb.ai.enc:=by
 rw[<- Tb.dw h,<- NS.gV h,List.take_take];rfl
def NS.tA {S:NS}(h:S.tb.wf){p:aq}(hp:p.wf):Yj S.cells 0 p.enc=({ S with tb:={ S.tb with ai:=p } }:NS).cells:=by
 unfold Yj NS.cells Tb.enc Tb.hd;rw[List.take_zero,nil_append,Nat.zero_add,aq.au hp,<- aq.au h.ai,append_assoc,append_assoc,append_assoc,List.drop_left];simp[NS.tl]
def Yht (gl:Nat->AV)(S S':NS)(T:WT)(hw:S.tb.wf)(hT:T.wf)(ak an ad:Int)(f:List UInt8)(qJ:{ S with bm:=S.bm+1 }=S')(x:Rp×NS)(T1:WT)(cQ:T1.wf)(h0:300<=S.bm->T1=T/\x=(bJ 6,S))
  (h1:S.bm<300->ak=1->GD Tryz.prog gl 58 [.ptr 67 0,.agg [.int .i64 ak,.int .i64 an,.int .i64 ad,.str f]] (Qo S' T) 70 [67] (.agg x.1.enc) (Qo x.2 T1))
  (h2:S.bm<300->ak=2->GD Tryz.prog gl 59 [.ptr 67 0,.str f] (Qo S' T) 70 [67] (.agg x.1.enc) (Qo x.2 T1))
  (h3:S.bm<300->ak=3->GD Tryz.prog gl 60 [.ptr 67 0,.int .i64 an] (Qo S' T) 70 [67] (.agg x.1.enc) (Qo x.2 T1))
  (h4:S.bm<300->¬ ak=1->¬ ak=2->¬ ak=3->T1=T/\x=if ak=4\/ak=5 then (bJ (S'.tb.ai.drain an (decide (ak=4))).2,if (S'.tb.ai.drain an (decide (ak=4))).2=0 then { S' with tb:={ S'.tb with ai:=(S'.tb.ai.drain an (decide (ak=4))).1 } } else S') else (bJ 4,S')) :
  GD Tryz.prog gl 20 [.ptr 67 0,.agg [.int .i64 ak,.int .i64 an,.int .i64 ad,.str f]] (Qo S T) 70 [67] (.agg x.1.enc) (Qo x.2 T1):=by
 refine Yfd.gq (ap rfl) (rB hT) aw fun c bf hg=>?_;subst hg
 conv in aG _ _=>cbv
 have aZ:=fun n b hb=>Kc (S:=S) hT n b hb;have cG:=nF S T;have aW:=NS.bb hw;have Gy:=NS.Gy hw;have L6:=NS.L6 hw (S.bm+1);rw[qJ]at L6;have dX:(S.bm:Int)+1=((S.bm+1:Nat):Int):=by omega
 have yj:S'.tb.wf:=by rw[<- qJ];exact hw
 obtain ⟨⟨r1,r2,r3,r4⟩,S1⟩:=x;unfold Rp.enc at h1 h2 h3 ⊢;dsimp only at h1 h2 h3 ⊢;refine Qd (An @aZ (An @cG (An @aW @Gy))) ?_;refine Yc ?_;refine Qd (An @aZ (An @cG (An @aW @Gy))) ?_;refine Qb ?_ ?_<;>intro q2
 ·obtain ⟨rfl,e⟩:=h0 af;unfold bJ at e;cases e;refine Qd @aZ ?_;exact ⟨(),To.drop (ex:=[(71,_),(71,_),(70,_)]) (Qn hT) aw aw (by simp[Qr,Qe,ah,look,aA,ay])⟩
 have hlt:S.bm<300:=by omega
 have h1:=h1 hlt;have h2:=h2 hlt;have h3:=h3 hlt;have h4:=h4 hlt;clear h0;refine Qd (An @aZ (An @cG (An @aW (An @Gy (An @dX @L6))))) ?_;refine Qb ?_ ?_<;>intro q3;rotate_left;refine Qa ?_;refine Qb ?_ ?_<;>intro q4;rotate_left;refine Qa ?_;refine Qb ?_ ?_<;>intro q5;rotate_left
 ·obtain ⟨rfl,e⟩:=h4 q3 q4 q5;clear h1 h2 h3 h4;have iF:=NS.bb yj;have kg:List.take 21 S'.cells=S'.tb.ai.enc:=NS.oN yj;refine Qa ?_;refine Qb ?_ ?_<;>intro q6;rotate_left;refine Qa ?_;refine Qb ?_ ?_<;>intro q7;rotate_left
  ·rw[aa af]at e;unfold bJ at e;cases e;refine Qd @aZ ?_;subst qJ;exact ⟨(),To.lq (ex:=[(71,_),(67,_),(71,_),(70,_)]) (ex':=[]) id hT (Qn hT) (Nat.le_refl 70) aw aw aw (fun _ _=>rfl) (fun b h _=>h) (fun b b' _ _ _ _ e=>e) rfl rfl rfl (fun b h1 h2=>by omega) (by simp[Qr,Qe,ah,look,aA,ay])⟩
  all_goals
   rw[am af]at e;have xT:=Xqv c.gl S'.tb.ai yj.ai an;have AN:=Xay c.gl S'.tb.ai yj.ai an;have SC:=aq.eF S'.tb.ai yj.ai an true;have wD:=aq.eF S'.tb.ai yj.ai an false;first|rw[decide_eq_true (by assumption)]at e|rw[decide_eq_false (by assumption)]at e
   generalize S'.tb.ai.drain an true=y at *
   generalize S'.tb.ai.drain an false=d at *
   obtain ⟨yp,ye⟩:=y;obtain ⟨p,e1⟩:=d;unfold Km at xT AN;unfold bJ at e;dsimp only at xT AN SC wD e;have Cd:=aq.au SC;have hyt:yp.enc.take 21=yp.enc:=take_of_length_le (by rw[Cd];decide);have kC:=aq.au wD;have py:p.enc.take 21=p.enc:=take_of_length_le (by rw[kC];decide);have hsy:=NS.tA yj SC;have sN:=NS.tA yj wD;have hL:=And.intro (And.intro Cd hyt) (And.intro kC py);try refine Qb ?_ ?_<;>intro q8
   all_goals try (exfalso;omega)
   refine Qd (An @iF @kg) ?_;refine Qk xT (An @aZ (An @hL (An @iF @kg))) ?_;refine Qd (An @aZ (An @hL (An @iF @kg))) ?_;refine Qb ?_ ?_<;>intro q9;all_goals try (exfalso;omega)
   refine Qd (An @aZ (An @hL (An @iF @kg))) ?_;try refine Qk AN (An @aZ (An @hL (An @iF @kg))) ?_
   try refine Qd (An @aZ (An @hL (An @iF @kg))) ?_
   split at e
   all_goals
    cases e;refine Qb ?_ ?_<;>intro q10;all_goals try (exfalso;omega)
    refine Qd (An @iF (An @hL (An @hsy @sN))) ?_;subst qJ;refine ⟨(),?_⟩
    first
     | refine To.lq (ex:=[(71,_),(67,_),(72,_),(72,_),(67,_),(71,_),(70,_)]) (ex':=[]) id hT (Qn hT) (Nat.le_refl 70) aw aw aw (fun _ _=>rfl) (fun b h _=>h) (fun b b' _ _ _ _ e=>e) rfl rfl rfl (fun b h1 h2=>by omega) ?_
     | refine To.lq (ex:=[(71,_),(72,_),(72,_),(67,_),(71,_),(70,_)]) (ex':=[]) id hT (Qn hT) (Nat.le_refl 70) aw aw aw (fun _ _=>rfl) (fun b h _=>h) (fun b b' _ _ _ _ e=>e) rfl rfl rfl (fun b h1 h2=>by omega) ?_
     | refine To.lq (ex:=[(71,_),(67,_),(72,_),(72,_),(72,_),(67,_),(71,_),(70,_)]) (ex':=[]) id hT (Qn hT) (Nat.le_refl 70) aw aw aw (fun _ _=>rfl) (fun b h _=>h) (fun b b' _ _ _ _ e=>e) rfl rfl rfl (fun b h1 h2=>by omega) ?_
     | refine To.lq (ex:=[(71,_),(72,_),(72,_),(72,_),(67,_),(71,_),(70,_)]) (ex':=[]) id hT (Qn hT) (Nat.le_refl 70) aw aw aw (fun _ _=>rfl) (fun b h _=>h) (fun b b' _ _ _ _ e=>e) rfl rfl rfl (fun b h1 h2=>by omega) ?_
    simp[Qr,Qe,ah,look,aA,ay]
 all_goals
  refine Qa ?_;refine Sg (LR (A:=[]) (B:=[(71,_),(70,_)]) (S:=S) (S':=S') (T:=T) (by rw[<- qJ]) aw aw) ?_;refine Xmp (v:=false) (ex:=[(71,_),(70,_)]) (by first|exact h1 (by assumption)|exact h2 (by assumption)|exact h3 (by assumption)) (Qn hT) (Qn cQ) (by simp[Qe,ah]) (by decide) (by simp) (by simp) rfl ?_ ?_
  ·exact Qi @Yt
  unfold Jr;refine Qa ?_;exact ⟨(),To.oK (ex:=[(71,_),(71,_),(70,_)]) (ex':=[]) cQ (Qn cQ) (Nat.le_refl 70) aJ aw aw aw (fun b h1 h2=>by omega) (by simp[Qr,Qe,ah,look,aA,ay,A9,lw,LS])⟩
def Yf9 (h0:gl 0=.xp (Ql Xv) 0)(S:NS)(T:WT)(D:List Tm)(hK:NK S)(hW:WI T S.now D)(hD:D.Perm S.aX)(a:Ac)(hf:a.frame.length<=140737488351232):Xle gl S T 20 [.ptr 67 0,.agg a.enc] (S.step a):=by
 obtain ⟨ak,an,ad,f⟩:=a;dsimp only at hf;have hT:=hW.wf;have hw:=hK.wf;obtain ⟨S',qJ⟩:∃ S':NS,{ S with bm:=S.bm+1 }=S':=⟨_,rfl⟩
 have h1:NI S':=by rw[<- qJ];exact hK.toNI.ln (S.bm+1)
 have hx:S'.bG<=90000:=by rw[<- qJ];have:=hK.nx;have:=hK.act;show S.bG<=_;omega
 have ht:S'.told<=90000:=by rw[<- qJ];have:=hK.uA;have:=hK.act;show S.told<=_;omega
 have iS:WI T S'.now D:=by rw[<- qJ];exact hW
 have Hf:D.Perm S'.aX:=by rw[<- qJ];exact hD
 have kQ:=fun x T1 cQ=>Yht gl S S' T hw hT ak an ad f qJ x T1 cQ;have e:S.step ⟨ak,an,ad,f⟩=if 300<=S.bm then (bJ 6,S) else if ak=1 then S'.out f ad else if ak=2 then S'.aF f else if ak=3 then S'.tick an else if ak=4\/ak=5 then (bJ (S'.tb.ai.drain an (decide (ak=4))).2,if (S'.tb.ai.drain an (decide (ak=4))).2=0 then { S' with tb:={ S'.tb with ai:=(S'.tb.ai.drain an (decide (ak=4))).1 } } else S') else (bJ 4,S'):=by subst qJ;rfl
 rw[e];by_cases ha:300<=S.bm
 ·rw[am ha];exact ⟨T,D,hW,hD,kQ _ T hT (fun _=>⟨rfl,rfl⟩) af af af af⟩
 rw[aa ha];by_cases k1:ak=1
 ·rw[am k1];obtain ⟨T1,D1,dO,lS,hg⟩:=Yar gl h0 S' T D h1 af ht iS Hf ak an ad f hf;exact ⟨T1,D1,dO,lS,kQ _ T1 dO.wf af (fun _ _=>hg) af af (fun _ h=>(h k1).elim)⟩
 rw[aa k1];by_cases k2:ak=2
 ·rw[am k2];obtain ⟨T1,D1,dO,lS,hg⟩:=Xmt gl S' T D h1 af iS Hf f hf;exact ⟨T1,D1,dO,lS,kQ _ T1 dO.wf af af (fun _ _=>hg) af (fun _ _ h=>(h k2).elim)⟩
 rw[aa k2];by_cases k3:ak=3
 ·rw[am k3];by_cases hd:an < 1∨549755813888 - S'.now < an
  ·have hb:=Xpy gl S' T D h1 iS an hd;rw[LO,am hd];exact ⟨T,D,iS,Hf,kQ _ T hT af af af (fun _ _=>hb) (fun _ _ _ h=>(h k3).elim)⟩
  ·obtain ⟨T1,D1,dO,lS,hg⟩:=Xw3 gl h0 S' T D h1 ht iS Hf an hd;exact ⟨T1,D1,dO,lS,kQ _ T1 dO.wf af af af (fun _ _=>hg) (fun _ _ _ h=>(h k3).elim)⟩
 rw[aa k3];refine ⟨T,D,?_,?_,kQ _ T hT af af af af fun _ _ _ _=>⟨rfl,rfl⟩⟩
 ·dsimp only
  (repeat' split)<;>exact iS
 ·dsimp only
  (repeat' split)<;>exact Hf
section
variable {P:Program}
def SD (m:Nat)(rs:List RS)(r:AV)(ax:List (Nat×Bk))(n:Nat):EX->St->Prop
 | .exit _,_=>False
 | _,s=>Ue s.fs rs/\To (List.range m) ⟨[(0,iy s.fs rs)],s.h,s.n⟩ ⟨[(0,r)],ax,n⟩
def Xn3 {gl : Nat -> AV} {f : FuncId} {fn : Func} {code : Code} {t : TC} {rs : List RS} {args : List AV} {ax : List (Nat×Bk)} {n : Nat} {r : AV} (hm : P.follows .mixedOrders = true) (hf : P.funcs[f]? = some fn) (hb : fn.body = some code) (fq : (fn.name == "runtime.NumGoroutine") = false)
  (he:Jq P fn.ntmps code=some t) (hr:qb P fn.results.toList=some rs) (hN:args.length<=fn.ntmps)
  (h:∀ c:Cx,(∀ q ∈ c.gh,q.1 ∈ List.range 0)->c.gl=gl->xw P c t (SD 0 rs r ax n) ⟨kJ 0 args,[],0⟩):GS P gl f args [] 0 r ax n:=by
 refine ⟨⟨fn,hf,by rw[hb];rfl,fq⟩,fun w vs G X g l8 hv=>?_⟩;refine calls_of_wp hf hb ?_;have hR:=NN (N:=fn.ntmps) (gh:=[]) hN l8 hv (fun q hq=>by cases hq);have:=yX (c:=⟨fn.ntmps,w,G,X,gl,[]⟩) hm code t _ _ he (h _ (fun q hq=>by cases hq) rfl) _ _ _ hR;refine wp_mono this fun e a' w' hq=>?_
 have fin:∀ (g1:Nat→GM) (s:St),R ⟨fn.ntmps,w,G,X,gl,[]⟩ g1 s.fs a' w'→(Ue s.fs rs∧To (List.range 0) ⟨[(0,iy s.fs rs)],s.h,s.n⟩ ⟨[(0,r)],ax,n⟩) →
   a'.defers=[]/\∃ v,(results fn a'.tmps).run P w'=.ok v w'/\(∃ rO g',Ending.returned v=.returned rO/\R ⟨0,w,G,X,gl,[]⟩ g' (dC ax n) ⟨#[],[]⟩ w'/\(∀ b,b<0->g' b=g b)/\VR g' (Qm ⟨0,w,G,X,gl,[]⟩ g' (dC ax n)) w' r rO):=by
  intro g1 s bc ⟨h1,h3⟩;obtain ⟨v,h4,h5⟩:=Ii bc hr h1;refine ⟨bc.ew,v,h4,v,?_⟩;have gp:R ⟨1,w,G,X,gl,[]⟩ g1 (⟨[(0,iy s.fs rs)],s.h,s.n⟩:St).fs ⟨#[v],[]⟩ w':=by
   refine ⟨rfl,rfl,fun i=>?_,bc.gl,bc.h,bc.inj,bc.old,bc.fr,bc.xs,bc.jj⟩;show VR g1 _ w' (look [(0,iy s.fs rs)] i) _;rw[Jk];split
   ·rename_i hi;subst hi;exact h5
   ·exact .any _
  obtain ⟨g2,cq⟩:=h3 _ g1 _ _ (fun q hq=>by cases hq) gp;exact ⟨g2,rfl,⟨rfl,rfl,fun i=>.any _,cq.gl,cq.h,cq.inj,cq.old,cq.fr,cq.xs,fun p hp=>by cases hp⟩,fun b hb=>by omega,cq.t 0⟩
 cases e with
 | normal=>obtain ⟨g,s,bc,dd⟩:=hq;exact fin g s bc dd
 | ret=>obtain ⟨g,s,bc,dd⟩:=hq;exact fin g s bc dd
 | exit i=>obtain ⟨g,s,bc,dd⟩:=hq;exact dd.elim
 | goto l=>exact hq.elim
 | panic ch=>exact hq.elim
 | outgrown=>exact hq.elim
def FT.SE {gl:Nat->AV}{f:FuncId}{fn:Func}{t:TC}{rs:List RS}(hF:FT P f fn t rs){args:List AV}{ax:List (Nat×Bk)}{n:Nat}{r:AV}(hN:args.length<=fn.ntmps)
  (h:∀ c:Cx,(∀ q ∈ c.gh,q.1 ∈ List.range 0)->c.gl=gl->xw P c t (SD 0 rs r ax n) ⟨kJ 0 args,[],0⟩):GS P gl f args [] 0 r ax n:=by
 have hc:=hF.code;cases hb:fn.body with
 | none=>rw[hb]at hc;simp at hc
 | some code =>
  rw[hb]at hc;exact Xn3 hF.mixed hF.func hb hF.name hc hF.res hN h
theorem Xix (m:Nat)(rs:List RS)(r:AV)(ax:List (Nat×Bk))(n:Nat)(s:St):SD m rs r ax n .ret s=(Ue s.fs rs/\To (List.range m) ⟨[(0,iy s.fs rs)],s.h,s.n⟩ ⟨[(0,r)],ax,n⟩):=rfl
attribute [go_sem] Xix
end
def bZ (l:List Fl):List AV:=l.flatMap Fl.enc
def Bf (l:List Fl):(bZ l).length=l.length*10:=by
 induction l with
 | nil=>rfl
 | cons f l ih=>simp only[bZ,flatMap_cons,length_append]at ih ⊢;rw[ih];simp[Fl.enc,Zi];omega
def Ws (l:List Fl):ah n (bZ l):=by
 rw[Xh];intro v hv;obtain ⟨f,_,hf⟩:=mem_flatMap.1 hv;simp[Fl.enc,Zi]at hf;rcases hf with rfl|rfl|rfl|rfl|rfl|rfl|rfl|rfl|rfl|rfl<;>simp[Qe]
def Qz (ρ:Nat->Nat)(l:List Fl):ay ρ (bZ l)=bZ l:=by
 rw[Zd];exact (map_congr_left fun v hv=>td (Xh.1 (Ws 0 l) v hv)).trans (map_id _)
def NS.aI (S:NS):List Fl:=S.fl.map (·.2)
def To.wkM {b:Nat}{kvs:List (AV×AV)}(hb:Qc s.h s.n b=.az kvs true):To p s ⟨s.t,(b,.az kvs false)::s.h,s.n⟩:=fun c g a w _ hR=>by
 have hH:∀ i,(⟨s.t,(b,.az kvs false)::s.h,s.n⟩:St).fs.H i=if b=i then .az kvs false else s.fs.H i:=fun i=>by
  show Qc ((b,_)::s.h) s.n i=_;rw[Qf];rfl
 refine ⟨g,hR.gK (fun k v hv=>hv) (fun i h=>?_) fun i=>?_⟩
 ·rw[hH];split
  ·rename_i e;subst e;rw[show s.fs.H b=.az kvs true from hb]at h;generalize g b=m at h ⊢;cases h with
   | az hb hs ji hv hc ha hd=>exact .az hb hs ji hv hc ha (fun h=>by cases h)
  ·exact h
 ·rw[hH];split
  ·rename_i e;subst e;rw[show s.fs.H b=.az kvs true from hb];exact Iff.rfl
  ·exact Iff.rfl
def zT:List AV:=Ql (List.replicate 18 0)++Zu (List.replicate 3 false)++Ql (List.replicate 8 0)
def To.wkC {b:Nat}{A B:List AV}{x y:AV}(hb:Qc s.h s.n b=.cells (A++x::B))(h:Wk x y):To p s ⟨s.t,(b,.cells (A++y::B))::s.h,s.n⟩:=To.XK hb (by simp) fun j hj=>by
 have e:∀ z:AV,(A++z::B).getD j .any=if j<A.length then A.getD j .any else if j=A.length then z else B.getD (j-A.length-1) .any:=fun z=>by
  simp only[List.getD];by_cases h1:j<A.length
  ·rw[am h1,List.getElem?_append_left h1]
  ·rw[aa h1,List.getElem?_append_right af];by_cases h2:j=A.length
   ·subst h2;simp
   ·rw[aa h2,show j-A.length=(j-A.length-1)+1 by omega,List.getElem?_cons_succ];simp
 rw[e,e];split
 ·exact Wk.refl _
 ·split
  ·exact h
  ·exact Wk.refl _
def Ybo:GS Tryz.prog gl 28 [.bool b] [] 0 (.ptr 67 0) (Qo (NS.new b) (Ko 0 (.az [] true))) 70:=by
 have cf:=Xv1 gl 0 aJ;have Gt:=Qua 0 aJ;have hT:=Gt.wf;refine Ye6.SE (ap rfl) fun c bf hg=>?_;subst hg
 conv in aG _ _=>cbv
 generalize Ko 0 (.az [] true)=T0 at *
 have iT:=Yjc hT (σ:=fun b=>b) (m:=67) fun b hb=>hb;refine Qa ?_;refine Xdx cf (WT.iq hT) ?_ aw ?_
 ·exact Qp
 dsimp only[nil_append];have hid:Xa (fun b=>0+b) T0.hb=T0.hb:=by
  have e:(fun b:Nat=>0+b)=id:=by funext b;exact Nat.zero_add b
  rw[e,Wo]
 have FB:=fun n b hb=>WT.qC hT n (b:=b) hb;rw[hid];refine Qa ?_
 (refine zK oI ?_;(have aQ:=@FB;refine XG ?_;clear aQ;((try with_reducible and_intros);all_goals try first|refine zm ?_|exact CL)))
 refine (To.wkC (b:=68) (A:=zT) (x:=.nils) (y:=.isl 0 []) (B:=[.mp 67,.nils,.int .i64 0,.ptr 0 0,.int .i64 0,.int .i64 4,.int .i64 0,.bool b]) rfl Wk.nils).trans ?_;refine (To.jS (b:=68) (j:=31) (es:=1) (cs:=zT++.isl 0 []::[.mp 67,.nils,.int .i64 0,.ptr 0 0,.int .i64 0,.int .i64 4,.int .i64 0,.bool b]) rfl rfl ?_).trans ?_
 ·change Qc _ _ _=Bk.free;dsimp only;rw[Qf,aa aJ,Qf,aa aJ,Qf,aa aJ,FB 69 69 aJ];rfl
 refine (To.wkM (b:=67) (kvs:=[]) rfl).trans ?_;refine To.pL (fun i=>if i=67 then 68 else if i=68 then 67 else i) (Qn hT) (fun i hi=>by simp at hi) (fun i j h1 h2 e=>?_) (fun i hi=>?_) ?_
 ·(repeat' split at e)<;>omega
 ·rcases (by omega:i < 67∨i=67∨i=68∨i=69) with h|rfl|rfl|rfl
  ·have e1:(if i=67 then 68 else if i=68 then 67 else i)=i:=by rw[aa af,aa af]
   have e2:Qc (Qo (NS.new b) T0) 70 i=Qc T0.hb 67 i:=by
    unfold Qo;rw[Qf,aa af,Qf,aa af,Qf,aa af];exact ((WT.iq hT).live h 70).1
   rw[e1,e2,xV (g:=id) (fun j hj=>by rw[aa af,aa af];rfl) (RM hT h).2,qZ];dsimp only;rw[Qf,aa af,Qf,aa af,Qf,aa af,Qf,aa af,Qf,aa af,Qf,aa af];exact ((WT.iq hT).live h _).1
  ·rfl
  ·rfl
  ·rfl
 ·simp[Qr,Qe,look,aA]
def Yiw {hh:List (Nat×Bk)}:Xa (fun b=>0+b) hh=hh:=by
 have e:(fun b:Nat=>0+b)=id:=by funext b;exact Nat.zero_add b
 rw[e,Wo]
def rF:Ac:=⟨0,0,0,[]⟩
noncomputable def Kh (b:Bool)(l:List Ac):Nat->NS
 | 0=>NS.new b
 | i+1=>((Kh b l i).step (l.getD i rF)).2
noncomputable def uE (b:Bool)(l:List Ac)(i:Nat):Rp:=((Kh b l i).step (l.getD i rF)).1
def SF (b:Bool)(l:List Ac):∀ i,NK (Kh b l i)
 | 0=>NK.new b
 | i+1=>(SF b l i).step _
def Dj (l:List Ac):Prop:=∀ a ∈ l,a.frame.length<=140737488351232
def Qtf {l:List Ac}(h:Dj l)(i:Nat):(l.getD i rF).frame.length<=140737488351232:=by
 by_cases hi:i<l.length
 ·simp only[List.getD,List.getElem?_eq_getElem hi,Option.getD_some];exact h _ (List.getElem_mem hi)
 ·simp[List.getD,List.getElem?_eq_none (Nat.le_of_not_lt hi),rF]
def Yaa (h0:gl 0=.xp (Ql Xv) 0)(b:Bool)(l:List Ac)(hl:Dj l) :
  ∃ Ts:Nat→WT,Ts 0=Ko 0 (.az [] true)∧(∀ i,∃ D,WI (Ts i) (Kh b l i).now D∧D.Perm (Kh b l i).aX) ∧
   ∀ i,GD Tryz.prog gl 20 [.ptr 67 0,.agg (l.getD i rF).enc] (Qo (Kh b l i) (Ts i)) 70 [67] (.agg (uE b l i).enc) (Qo (Kh b l (i+1)) (Ts (i+1))):=by
 have step:∀ i (T:{T:WT // ∃ D,WI T (Kh b l i).now D∧D.Perm (Kh b l i).aX}),∃ T':{T:WT // ∃ D,WI T (Kh b l (i + 1)).now D∧D.Perm (Kh b l (i + 1)).aX},
   GD Tryz.prog gl 20 [.ptr 67 0,.agg (l.getD i rF).enc] (Qo (Kh b l i) T.1) 70 [67] (.agg (uE b l i).enc) (Qo (Kh b l (i+1)) T'.1):=fun i ⟨T,D,hW,hP⟩=>by
  obtain ⟨T1,D1,dO,lS,hg⟩:=Yf9 gl h0 (Kh b l i) T D (SF b l i) hW hP (l.getD i rF) (Qtf hl i);exact ⟨⟨T1,D1,dO,lS⟩,hg⟩
 let f:∀ i,{T:WT // ∃ D,WI T (Kh b l i).now D/\D.Perm (Kh b l i).aX}->{T:WT // ∃ D,WI T (Kh b l (i+1)).now D/\D.Perm (Kh b l (i+1)).aX}:=fun i T=>Classical.choose (step i T)
 have hf:=fun i T=>Classical.choose_spec (step i T)
 let T0:{T:WT // ∃ D,WI T (Kh b l 0).now D/\D.Perm (Kh b l 0).aX}:=⟨Ko 0 (.az [] true),[],Qua 0 aJ,List.Perm.refl _⟩
 let g:∀ i,{T:WT // ∃ D,WI T (Kh b l i).now D/\D.Perm (Kh b l i).aX}:=fun i=>Nat.rec T0 (fun i T=>f i T) i
 exact ⟨fun i=>(g i).1,rfl,fun i=>(g i).2,fun i=>hf i (g i)⟩
def jg (l:List Ac):List AV:=l.flatMap Ac.enc
def Xe8:(jg l).length=l.length*4:=by
 induction l with
 | nil=>rfl
 | cons f l ih=>simp only[jg,flatMap_cons,length_append]at ih ⊢;rw[ih];simp[Ac.enc];omega
def L7 (l:List Ac):ah n (jg l):=by
 rw[Xh];intro v hv;obtain ⟨f,_,hf⟩:=mem_flatMap.1 hv;simp[Ac.enc]at hf;rcases hf with rfl|rfl|rfl|rfl<;>simp[Qe]
def Xdm {i:Nat}(h:i<l.length):((jg l).drop (i*4)).take 4=(l.getD i rF).enc:=by
 induction l generalizing i with
 | nil=>simp at h
 | cons a l ih =>
  cases i with
  | zero=>simp[jg,Ac.enc]
  | succ i =>
   have:=ih (i:=i) (by simpa using h);rw[show (i+1)*4=4+i*4 by omega,<- drop_drop];simpa [jg,Ac.enc] using this
def Yjz (l:List Ac):Nat:=min l.length 100
def Hg (l:List Fl)(k:Nat)(h:k<l.length):((bZ l).drop (k*10)).take 10=l[k].enc:=by
 induction l generalizing k with
 | nil=>simp at h
 | cons a l ih =>
  cases k with
  | zero=>simp[bZ,Fl.enc,Zi]
  | succ k =>
   have:=ih k (by simpa using h);rw[show (k+1)*10=10+k*10 by omega,<- drop_drop];simpa [bZ,Fl.enc,Zi] using this
def Xkj:kK Tryz.prog 100 27=some [.int .i64,.str,.bool,.str]:=by kernel_rfl
def Ybs {c:Cx}{ne:Bool}(r:Rp):nh Tryz.prog c (.cA ne 27) [.agg r.enc,.agg r.enc] (.bool (ne != true)) :=
 Vn Xkj (by kernel_rfl) (by kernel_rfl) rfl rfl aw
def iN (l:List Rp):List AV:=l.flatMap Rp.enc
def SG (l:List Rp):(iN l).length=l.length*4:=by
 induction l with
 | nil=>rfl
 | cons f l ih=>simp only[iN,flatMap_cons,length_append]at ih ⊢;rw[ih];simp[Rp.enc];omega
def Dk (l:List Rp):ah n (iN l):=by
 rw[Xh];intro v hv;obtain ⟨f,_,hf⟩:=mem_flatMap.1 hv;simp[Rp.enc]at hf;rcases hf with rfl|rfl|rfl|rfl<;>simp[Qe]
def Hh (ρ:Nat->Nat)(l:List Rp):ay ρ (iN l)=iN l:=by
 rw[Zd];exact (map_congr_left fun v hv=>td (Xh.1 (Dk 0 l) v hv)).trans (map_id _)
def Xv5 (l:List Rp)(f:Rp):iN l++f.enc=iN (l++[f]):=by simp[iN]
def Ybx (l:List Rp)(k:Nat)(h:k<l.length):((iN l).drop (k*4)).take 4=l[k].enc:=by
 induction l generalizing k with
 | nil=>simp at h
 | cons a l ih =>
  cases k with
  | zero=>simp[iN,Rp.enc]
  | succ k =>
   have:=ih k (by simpa using h);rw[show (k+1)*4=4+k*4 by omega,<- drop_drop];simpa [iN,Rp.enc] using this
noncomputable def Kp (b:Bool)(l:List Ac)(n:Nat):List Rp:=(List.range n).map (uE b l)
def Xqz:Kp b l (n+1)=Kp b l n++[uE b l n]:=by simp[Kp,List.range_succ]
def Hj:(Kp b l n).length=n:=by simp[Kp]
def Xfc (h0:gl 0=.xp (Ql Xv) 0)(b:Bool)(l:List Ac)(hl:Dj l)(hlen:l.length<=300) :
  GS Tryz.prog gl 25 [.bool b,.isl l.length (jg l)] [] 0 (.aR [.sl 4 0 0 l.length l.length,.int .i64 0]) [(0,.cells (iN (Kp b l l.length)))] 1:=by
 obtain ⟨Ts,N9,hts,hdo⟩:=Yaa gl h0 b l hl;have uw:∀ i,(Ts i).wf:=fun i=>by
  obtain ⟨D,hD⟩:=hts i;exact hD.1.wf
 have cf:=Ybo gl b;rw[<- N9]at cf;refine RY.SE (ap rfl) fun c bf hg=>?_;subst hg
 conv in aG _ _=>cbv
 have aW:=Xe8 l;have lP:=fun n=>L7 n l;have Hk:=fun ρ:Nat->Nat=>show ay ρ (jg l)=jg l by rw[Zd];exact (map_congr_left fun v hv=>td (Xh.1 (L7 0 l) v hv)).trans (map_id _)
 refine Qa ?_;refine Qb ?_ ?_<;>intro h1
 ·omega
 refine Qa ?_;refine Xdx cf (Qn (uw 0)) ?_ aw ?_
 ·exact Qp
 dsimp only[nil_append];rw[Yiw];have aZ:=fun (i n j:Nat) (hj:70<=j)=>Kc (S:=Kh b l i) (uw i) n j hj;have iT:=fun n j hj=>Kc (S:=NS.new b) (uw 0) n j hj;refine Qa ?_;refine vn 7 4 rfl (by exact Qi @iT) ?_;unfold St.named
 refine Yk (fun i:Nat=>i≤l.length) (fun i=>⟨[(1,.isl l.length (jg l)),(6,.ptr 67 0),(7,.sl 4 70 0 i i),(15,.isl l.length (jg l)),(16,.int .i64 l.length),(17,.int .i64 i)],[(70,.cells (iN (Kp b l i)))]++Qo (Kh b l i) (Ts i),71⟩) (fun i=>l.length - i) RY.mixed (List.range 0) bf
  ⟨0,Nat.zero_le _,To.fN (by exact Qp) fun b=>rfl⟩ fun i hi=>?_
 refine Qa ?_;refine Qb ?_ ?_<;>intro h2
 ·have kf:i < l.length:=by omega
  have jk:=Xdm l kf;have hd:=hdo i;have hT:=uw i;have cQ:=uw (i+1);have hsn:iN (Kp b l i)++(uE b l i).enc=iN (Kp b l (i+1)):=by rw[Xv5,Xqz]
  have pZ:(iN (Kp b l i)).length=i*4:=by rw[SG,Hj]
  have tv:=fun n=>Dk n (Kp b l i);have LY:=fun ρ=>Hh ρ (Kp b l i);have L8:=fun n=>Dk n (Kp b l (i+1));have L9:=fun ρ=>Hh ρ (Kp b l (i+1));generalize iN (Kp b l i)=E at *
  obtain ⟨F,hF⟩:∃ F,iN (Kp b l (i+1))=F:=⟨_,rfl⟩
  simp only[hF]at hsn L8 L9;generalize l.getD i rF=a at *
  obtain ⟨a1,a2,a3,a4⟩:=a;have wE:∃ r1 r2 r3 r4,uE b l i=⟨r1,r2,r3,r4⟩:=⟨_,_,_,_,rfl⟩
  obtain ⟨r1,r2,r3,r4,wE⟩:=wE;rw[wE]at hd hsn;dsimp only[Ac.enc,Rp.enc]at jk hd hsn;have hHs:=fun n j hj=>Kc (S:=Kh b l i) hT n j hj;refine Qd (An @aW (An @jk @hHs)) ?_;refine ti (v:=false) (pp:=List.range 0) (ex:=[(71,_),(71,_),(70,_)]) (s3:=⟨[(1,.isl l.length (jg l)),(6,.ptr 67 0),(15,.isl l.length (jg l)),(16,.int .i64 l.length),(17,.int .i64 i),(21,.sl 4 70 0 i i),(24,.agg [.int .i64 r1,.str r2,.bool r3,.str r4])],[(70,.cells E)]++Qo (Kh b l (i+1)) (Ts (i+1)),71⟩) bf hd (Qn hT) (Qn cQ) (by simp[Qe,ah]) aJ aw aw rfl ?_ ?_ ?_
  ·exact Qi @Yt
  ·unfold Jr;refine To.oK cQ ((Qn cQ).more (by exact tv 71)) aJ aJ aw aw aw (fun b h1 h2=>?_) ?_
   ·obtain rfl:b=70:=by omega
    show Bk.cells E=Bk.cells (ay _ E);rw[LY]
   ·simp[Qr,Qe,ah,look,aA,ay,A9,lw,LS,lP,Hk]
  have GL:=fun n j hj=>Kc (S:=Kh b l (i+1)) cQ n j hj;refine Qd @GL ?_;refine Ym @GL ?_;refine Ym (An @GL (An @pZ @hsn)) ?_;refine ⟨i+1,by omega,?_,by omega⟩;rw[hF];refine To.lq (p:=List.range 0) (ex:=[(72,_),(70,.dead),(71,_),(70,_)]) (ex':=[(70,.cells F)]) (fun b=>if b=70 then 72 else b) cQ ((Qn cQ).more (by exact L8 71)) aJ aw aw aJ (fun b hb=>aa af) (fun b h h2=>?_) (fun b b' h1 h2 h3 h4 e=>?_) rfl rfl rfl (fun b h1 h2=>?_) ?_
  ·split<;>omega
  ·omega
  ·obtain rfl:b=70:=by omega
   show Bk.cells F=Bk.cells (ay _ F);rw[L9]
  ·simp[Qr,Qe,ah,look,aA,ay,lP,Hk]
 ·obtain rfl:i=l.length:=by omega
  refine Qa ?_;have L8:=fun n=>Dk n (Kp b l l.length);have L9:=fun ρ=>Hh ρ (Kp b l l.length);refine To.sub (ρ:=[(0,70)]) rfl ?_;exact Qi (An @L8 @L9)
def Xwp {n i:Nat}(h:i<n):(Kp b l n)[i]'(by rw[Hj];exact h)=uE b l i:=by simp[Kp]
def up (h:List (Nat×Bk)):List (Nat×Bk):=h.map fun q=>(q.1+70,q.2)
def Xes {ρ:Nat->Nat}{x:Bk}(h:bV 0 x):Qw ρ x=x:=(xV (g:=id) (fun j hj=>by omega) h).trans qZ
structure Bg (m:Mp):Prop where
 ae:m.ae=1\/m.ae=6\/m.ae=17
 s:0<=m.s/\m.s<8
 aF:0<=m.aF/\m.aF<=65535
 a:0<=m.a/\m.a<3
 port:1024<=m.port/\m.port<1072
def GT.wF {t:Tb}(h:GT t){m:Mp}(hm:m ∈ t.maps):Bg m:=by
 have SH:=h.maps m hm;obtain ⟨h1,h2,h3⟩:=Jv SH.1.1;exact ⟨h1,h2,h3,SH.1.2.2,(Xr1 SH.1.2.1).2.2⟩
end Go.Proofs.YtogckmommodmhaaGreatDoor
namespace Go.Proofs.YtogckmommodmhaaGreatDoor
open Go.RowKit
open Go.RowKit Go.ChangeShapes Go.WideShapes Go.Deep
set_option linter.all false
set_option maxHeartbeats 16000000
set_option maxRecDepth 100000
def sq.isl {W:World}{v:Value}{n sz:Nat}{R:Nat->Nat->Value->Prop}(cC:0<sz)(h:sq W v n sz R)(h1:∀ i j u,R i j u->u.oneCell'=true) :
  ∃ us:Nat->Value,(∀ i,i<n->∀ j,j<sz->R i j (us (i*sz+j)))/\VR (fun _=>.un) (fun _=>False) W (.isl n ((List.range (n*sz)).map fun m=>fE (us m))) v:=by
 obtain ⟨A,cap,rfl,hn,hm,hc⟩:=h.form;rcases Nat.eq_zero_or_pos n with rfl|eW
 ·exact ⟨fun _=>undef,fun i hi=>absurd hi af,.isl (us:=fun _=>undef) hn hm (fun j hj=>by simp at hj) fun j hj=>by simp at hj⟩
 ·obtain ⟨b,o,rfl,hb,eQ⟩:=hc eW;have key:∀ i,i<n->∀ j,j<sz->W.cell? ⟨b,o+(i*sz+j),none⟩=some ((W.cell? ⟨b,o+(i*sz+j),none⟩).getD undef)/\R i j ((W.cell? ⟨b,o+(i*sz+j),none⟩).getD undef):=by
   intro i hi j hj;obtain ⟨u,hu,hr⟩:=eQ i hi j hj;rw[hu];exact ⟨rfl,hr⟩
  refine ⟨fun m=>(W.cell? ⟨b,o+m,none⟩).getD undef,fun i hi j hj=>(key i hi j hj).2,?_⟩;have at_:∀ m,m<n*sz->W.cell? ⟨b,o+m,none⟩=some ((W.cell? ⟨b,o+m,none⟩).getD undef)/\((W.cell? ⟨b,o+m,none⟩).getD undef).oneCell'=true:=by
   intro m hm;have hd:m/sz<n:=Nat.div_lt_of_lt_mul (by rw[Nat.mul_comm];exact hm);have hr:=Nat.mod_lt m cC;have e:m/sz*sz+m%sz=m:=by rw[Nat.mul_comm];exact Nat.div_add_mod m sz
   have:=key _ hd _ hr;rw[e]at this;exact ⟨this.1,h1 _ _ _ this.2⟩
  refine .isl (us:=fun m=>(W.cell? ⟨b,o+m,none⟩).getD undef) hn hm (fun j hj=>⟨b,o,rfl,?_,id,?_⟩) fun j hj=>?_
  ·simp only[List.length_map,List.length_range]at hj;exact (at_ j hj).1
  ·simp only[List.length_map,List.length_range]at hj;exact (at_ j hj).2
  ·simp only[List.length_map,List.length_range]at hj;have:((List.range (n * sz)).map fun m=>fE ((W.cell? ⟨b,o + m,none⟩).getD undef)).getD j .any=fE ((W.cell? ⟨b,o + j,none⟩).getD undef):=by simp[List.getD,hj]
   rw[this];exact HD _
end Go.Proofs.YtogckmommodmhaaGreatDoor
namespace Go.Proofs.YtogckmommodmhaaGreatDoor
open Go.RowKit
open Go.RowKit Go.ChangeShapes Go.WideShapes
set_option linter.all false
set_option maxHeartbeats 16000000
set_option maxRecDepth 100000
end Go.Proofs.YtogckmommodmhaaGreatDoor
namespace Go.Proofs.YtogckmommodmhaaGreatDoor
open List (range_succ)
open Go.RowKit
open Go.RowKit Go.ChangeShapes Go.WideShapes Go.Deep
set_option linter.all false
set_option maxHeartbeats 16000000
set_option maxRecDepth 100000
def Qvb:((Tryz.prog.fieldsOf 23).toList.map (·.type))=[3,3,3,9]:=by kernel_rfl
def Qt1:Tryz.prog.underlying 23=some (.struct (Tryz.prog.fieldsOf 23)):=by kernel_rfl
def Yam:(Tryz.prog.fieldsOf 23).size=4:=by kernel_rfl
def Ygr:oneCellFields Tryz.prog (Tryz.prog.fieldsOf 23)=true:=by kernel_rfl
def Xy1:Tryz.prog.cellsOf 23=(Tryz.prog.fieldsOf 23).size:=by kernel_rfl
def Xz3:Tryz.prog.bytesOf 23=40:=by kernel_rfl
def SI {H:Type}(a:Ac)(d:DataW H):Prop:=∃ parts,d=.agg parts/\parts[3]?=some (.lit (.string a.frame))
def Qo2 {H:Type}{P:Program}{e:TypeId}{d:DataW H}{n:Nat}:∀ {es:List (DataW H)},d ∈ es->n ∈ d.weights P e->n ∈ DataW.weightsAll P e es
 | d0::es,hd,hn=>by
  simp only[DataW.weightsAll,List.mem_append];rcases List.mem_cons.1 hd with rfl|hd
  ·exact .inl hn
  ·exact .inr (Qo2 hd hn)
def SI.weight {H:Type}{a:Ac}{d:DataW H}(h:SI a d):a.frame.length ∈ d.weights Tryz.prog 23:=by
 obtain ⟨parts,rfl,h3⟩:=h;simp only[DataW.weights,Qt1,Qvb];exact DataW.weights_mem_each (j:=3) rfl h3 _ (by simp[DataW.weights])
variable {j:Nat}
def Xvn {f:Field}(h:(Tryz.prog.fieldsOf 23)[j]?=some f):[3,3,3,9][j]?=some f.type:=by
 rw[<- Qvb,List.getElem?_map,Array.getElem?_toList,h];rfl
section
variable {H:Type}{enc:TypeId×Value->H}{w:World}{base:Nat}{spare:Nat->Bool}{held:Bool}
variable {v:Value}{d:DataW H}
def Yel (d:DataW H)(i j:Nat)(u:Value):Prop:=∃ es sp parts,d=.slice es sp/\es[i]?=some (.agg parts) /\
 ((j<3/\∃ z,u=.int .i64 z)\/(j=3/\∃ s:ByteArray,u=.string s/\parts[3]?=some (.lit (.string s.data.toList))))
set_option maxRecDepth 100000 in
def Qt8 {b0:Nat}   {p:List MemPlace}(fS:Value.okWide Tryz.prog w .any b0 44 v)(h:DataW.Trod enc Tryz.prog w base spare held 44 v d p) :
  ∃ n,(d=.nil/\n=0\/∃ es sp,d=.slice es sp/\es.length=n)/\sq w v n 4 (Yel d):=by
 obtain ⟨A,len,cap,rfl⟩:=okWide_slice Tryz.underlying44 fS;obtain ⟨fuel,h⟩:=h;have cC:=Yam;rcases Qnq Tryz.underlying44 Qt1 Ygr Xy1 h with ⟨h0,h1⟩|⟨a,yIa,yJa,m,D,Pl,iQ,hb,hl,hm,ra,hx,hi⟩
 ·simp[Value.cells]at h0;obtain ⟨rfl,rfl,rfl⟩:=h0;exact ⟨0,.inl ⟨(Prod.mk.inj h1).1,rfl⟩,⟨none,0,rfl,Nat.le_refl _,by unfold maxLen;omega,fun h=>by omega⟩⟩
 ·simp[Value.cells]at iQ;obtain ⟨rfl,rfl,rfl⟩:=iQ;refine ⟨len,.inr ⟨_,_,(Prod.mk.inj hx).1,by simp⟩,⟨some a,cap,rfl,hl,hm,fun h0=>?_⟩⟩;have hlm:len≤m:=by rw[ra];split<;>omega
  obtain ⟨ab,ao,asp⟩:=a;obtain ⟨ys,n',_,_,_,hf⟩:=hi 0 af;obtain ⟨v0,y0,iE,_,_⟩:=hf 0 _ (Array.getElem?_eq_getElem (by rw[cC];decide));have sN:asp=none:=by
   simp only[Nat.zero_mul,Nat.add_zero,Addr.add,am]at iE;unfold World.cell? at iE;cases asp with
   | none=>rfl
   | some s=>revert iE;cases w.heap[ab]? with
    | none=>simp
    | some o=>cases o<;>simp
  subst sN;refine ⟨ab,ao,rfl,?_,fun i aK j hj=>?_⟩
  ·rcases Nat.lt_or_ge ab w.heap.size with h|h
   ·exact h
   ·simp only[Nat.zero_mul,Nat.add_zero,Addr.add,am]at iE;unfold World.cell? at iE;rw[Array.getElem?_eq_none h]at iE;cases iE
  ·obtain ⟨ys,n',hD,_,Cd,hf⟩:=hi i af;have eI:j < (Tryz.prog.fieldsOf 23).size:=by rw[cC];exact hj
   obtain ⟨u,y,hc,hy,nc⟩:=hf j _ (Array.getElem?_eq_getElem eI);rw[Addr.add_mid,cC]at hc;refine ⟨u,hc,_,_,ys.map (·.1),(Prod.mk.inj hx).1,by simp[aK,hD],?_⟩;have ht:=Xvn (Array.getElem?_eq_getElem eI);generalize (Tryz.prog.fieldsOf 23)[j]=f at ht nc;rcases (by omega:j=0\/j=1\/j=2\/j=3) with rfl|rfl|rfl|rfl
   ·have e:f.type=3:=by simpa using ht.symm
    rw[e]at nc;obtain ⟨z,hz,_⟩:=DataW.trod_int Tryz.underlying3 nc;exact .inl ⟨by decide,z,by simpa using hz⟩
   ·have e:f.type=3:=by simpa using ht.symm
    rw[e]at nc;obtain ⟨z,hz,_⟩:=DataW.trod_int Tryz.underlying3 nc;exact .inl ⟨by decide,z,by simpa using hz⟩
   ·have e:f.type=3:=by simpa using ht.symm
    rw[e]at nc;obtain ⟨z,hz,_⟩:=DataW.trod_int Tryz.underlying3 nc;exact .inl ⟨by decide,z,by simpa using hz⟩
   ·have e:f.type=9:=by simpa using ht.symm
    rw[e]at nc;obtain ⟨s,hz,he,_⟩:=DataW.trod_string Tryz.underlying9 nc;exact .inr ⟨rfl,s,by simpa using hz,by rw[List.getElem?_map,hy,he];rfl⟩
def sq.bm {n:Nat}(h:sq w v n 4 (Yel d))(hn:d=.nil/\n=0\/∃ es sp,d=.slice es sp/\es.length=n){ts:List TypeId}{ds:List (DataW H)}(cC:(DataW.weightsEach Tryz.prog ts ds).all (·<=reachBytes)=true)  (ht:ts[j]?=some 44)(hd:ds[j]?=some d) :
  ∃ l:List Ac,l.length=n/\Dj l/\l.length*40<=140737488351232/\VR (fun _=>.un) (fun _=>False) w (.isl n (jg l)) v:=by
 obtain ⟨us,hu,hv⟩:=h.isl aJ fun i j u ⟨es,sp,parts,_,_,hr⟩=>by
  rcases hr with ⟨_,z,rfl⟩|⟨_,s,rfl,_⟩<;>rfl
 let gi (v:Value):Int:=match v with|.int _ z=>z|_=>0
 let gs (v:Value):List UInt8:=match v with|.string s=>s.data.toList|_=>[]
 let ac (i:Nat):Ac:=⟨gi (us (i*4+0)),gi (us (i*4+1)),gi (us (i*4+2)),gs (us (i*4+3))⟩
 have heq:∀ k,k<=n->(List.range (k*4)).map (fun m=>fE (us m))=jg ((List.range k).map ac):=fun k=>by
  induction k with
  | zero=>intro _;rfl
  | succ k ih =>
   intro hk;rw[show (k+1)*4=k*4+1+1+1+1 by omega,range_succ,range_succ,range_succ,range_succ,range_succ];simp only[List.map_append,List.map_cons,List.map_nil,List.append_assoc];rw[ih af];simp only[jg,List.flatMap_append,List.flatMap_cons,List.flatMap_nil,List.append_nil,Ac.enc];congr 1;obtain ⟨_,_,_,_,_,h0⟩:=hu k af 0 aJ;obtain ⟨_,_,_,_,_,h1⟩:=hu k af 1 aJ;obtain ⟨_,_,_,_,_,h2⟩:=hu k af 2 aJ;obtain ⟨_,_,_,_,_,h3⟩:=hu k af 3 aJ;obtain ⟨_,z0,e0⟩:=h0.resolve_right aw;obtain ⟨_,z1,e1⟩:=h1.resolve_right aw;obtain ⟨_,z2,e2⟩:=h2.resolve_right aw;obtain ⟨_,s3,e3,_⟩:=h3.resolve_left aw;have e0:us (k*4)=_:=e0;have e2:us (k*4+1+1)=_:=e2;have e3:us (k*4+1+1+1)=_:=e3;simp only[ac,gi,gs,e0,e1,e2,e3,fE];rw[show us (k*4+0)=_ from e0];rfl
 refine ⟨(List.range n).map ac,by simp,fun a ha=>?_,?_,?_⟩
 ·obtain ⟨i,hi,rfl⟩:=List.mem_map.1 ha;rw[List.mem_range]at hi;obtain ⟨es,sp,parts,e1,e2,h3⟩:=hu i hi 3 aJ;obtain ⟨_,s3,e3,e4⟩:=h3.resolve_left aw;have hf:(ac i).frame=s3.data.toList:=by simp only[ac,gs,e3]
  have hw:(ac i).frame.length ∈ d.weights Tryz.prog 44:=by
   subst e1;simp only[DataW.weights,Tryz.underlying44];refine List.mem_cons_of_mem _ (List.mem_append_left _ (Qo2 (List.mem_of_getElem? e2) (SI.weight ⟨parts,rfl,?_⟩)));rw[hf];exact e4
  have:=List.all_eq_true.1 cC _ (DataW.weights_mem_each ht hd _ hw);simp only[reachBytes]at this;exact ap this
 ·rcases hn with ⟨_,rfl⟩|⟨es,sp,rfl,rfl⟩
  ·simp
  ·have:=sized_slice cC ht hd Tryz.underlying44;rw[Xz3]at this;simp only[reachBytes]at this;simp;omega
 ·rw[heq n (Nat.le_refl n)]at hv;exact hv
end
end Go.Proofs.YtogckmommodmhaaGreatDoor
namespace Go.Proofs.YtogckmommodmhaaGreatDoor
open Go.RowKit
open Go.RowKit Go.ChangeShapes Go.WideShapes
set_option linter.all false
set_option maxHeartbeats 16000000
set_option maxRecDepth 100000
def PS.law {f:FuncId}{args:List AV}{vs:List Value}{W:World}(h:PS Tryz.prog xe f args (.bool true))(hg:∀ i,VR (fun _=>.un) (fun _=>False) W (xe i) (.pointer (some ⟨i,0,none⟩)))(hv:bR (fun _=>.un) (fun _=>False) W args vs) :
  Calls Tryz.prog f vs.toArray W fun e W'=>e=.returned (.bool true)/\Below W.heap.size W W' :=
 (h.2 W vs (fun _=>False) (fun _ h=>h.elim) hg hv).mono fun e w' ⟨u,e1,e2,e3⟩=>by
  cases e2;exact ⟨e1,⟨e3.os,e3.tape,e3.output,e3.size,fun k hk=>e3.ig k hk fun h=>h.elim⟩⟩
end Go.Proofs.YtogckmommodmhaaGreatDoor
