import Derived.Test.YtogckmommodmhaaGreatDoorZx16
namespace Go.Proofs.YtogckmommodmhaaGreatDoor
open List (mem_map getElem_of_mem length_take any_eq_true map_id take_of_length_le append_assoc)
open Go.RowKit
set_option linter.all false
set_option maxHeartbeats 16000000
set_option maxRecDepth 100000
variable {p:List Nat}{f:FuncId}{s:St}{q:Int×Fl}(gl:Nat->AV)(l:List Fl)
def Xst {S:NS}(h:NI S)(es:List Ev):NI (S.log es):=h.lD _
def Xpg (gl:Nat->AV)(S:NS)(T:WT)(fn:FuncId)(args:List AV)(x:Rp×NS):Prop :=
 ∃ T' D',WI T' x.2.now D'/\D'.Perm x.2.aZ/\GD Tryz.prog gl fn args (Qn S T) 70 [67] (.agg x.1.enc) (Qn x.2 T')
def Ya9 (h0:gl 0=.xp (Ql Xy) 0)(S:NS)(T:WT)(D:List Tm)(hS:NI S)(nK:S.bH<=900000)(m9:S.told<=90000)(hW:WI T S.now D)(hD:D.Perm S.aZ)(ak an ad:Int)(f:List UInt8)(hf:f.length<=140737488351232) :
  Xpg gl S T 58 [.ptr 67 0,.agg [.int .i64 ak,.int .i64 an,.int .i64 ad,.str f]] (S.out f ad):=by
 have key:∀ x y,S.oQ f ad=(x,y)→∃ T' D' T1,WI T' x.2.now D'∧D'.Perm x.2.aZ∧T1.wf∧(y=none→T'=T) ∧
   ∀ m es S1,y=some (m,es,S1)->wB gl S T T1 T' f (aC f) (S.tb.cd (aC f).ae ((aC f).aF-167772161) (aC f).aj ad).1 m es S1:=by
  intro x y hx
  have stay:∀ r:Rp × NS,r.2.now=S.now→r.2.aZ=S.aZ→(r,none)=(x,y)→∃ T' D' T1,WI T' x.2.now D'∧D'.Perm x.2.aZ∧T1.wf∧(y=none→T'=T) ∧
    ∀ m es S1,y=some (m,es,S1)->wB gl S T T1 T' f (aC f) (S.tb.cd (aC f).ae ((aC f).aF-167772161) (aC f).aj ad).1 m es S1:=fun r h1 h2 e=>by
   obtain ⟨rfl,rfl⟩:=Prod.mk.inj e;exact ⟨T,D,T,by rw[h1];exact hW,by rw[h2];exact hD,hW.wf,fun _=>rfl,by simp⟩
  have wF:∀ e,(S.refuse f e).2.now=S.now/\(S.refuse f e).2.aZ=S.aZ:=fun e=>by
   unfold NS.refuse;split<;>exact ⟨rfl,rfl⟩
  have go:∀ (m:Mp) (es:List Ev) (S1:NS) (T1:WT) (D1:List Tm),NI S1→WI T1 S1.now D1→D1.Perm S1.aZ→S1.bH≤1000000→S1.told≤100000→es.length≤64→(∀ e ∈ es,Je e.t e.s e.a e.b=true∧e.t=(es.headD ⟨0,0,0,0,false⟩).t)→0≤m.a∧m.a < 3 →
    (S.c5 (aC f)≠0->GD Tryz.prog gl 93 [.ptr 67 0,.int .i64 (S.c5 (aC f)),.agg (aC f).enc,.bool false] (Qn S T) 70 [67] (.aR []) (Qn S1 T1)) ->
    (S.c5 (aC f)=0->Fx m/\GD Tryz.prog gl 91 [.ptr 67 0,.agg (Fl.enc ⟨m,(aC f).dst,(aC f).aw,Wr (aC f).ae,0,0⟩)] (Qn { S with tb:=(S.tb.cd (aC f).ae ((aC f).aF-167772161) (aC f).aj ad).1 } T) 70 [67] (.aR []) (Qn S1 T1)) ->
    (S1.ff f m es,some (m,es,S1))=(x,y)->∃ T' D' T1,WI T' x.2.now D'/\D'.Perm x.2.aZ/\T1.wf/\(y=none->T'=T) /\
    ∀ m es S1,y=some (m,es,S1)->wB gl S T T1 T' f (aC f) (S.tb.cd (aC f).ae ((aC f).aF-167772161) (aC f).aj ad).1 m es S1:=by
   intro m es S1 T1 D1 uO dP l6 mL tC hl hg ha h1 h2 e;obtain ⟨rfl,rfl⟩:=Prod.mk.inj e;rw[Sy];by_cases jj:0<=(aC f).dst-3405803777/\(aC f).dst-3405803777<3
   ·rw[am jj];obtain ⟨T3,D3,qf,hP3,hi⟩:=Xn0 gl (S1.log es) T1 D1 (Xst uO es) mL dP l6 (Wx f 0 (3405803777 + m.a) m.port) (Nat.le_trans (Qtx ..) hf);refine ⟨T3,D3,T1,qf,hP3,dP.wf,by simp,fun m' es' S' e=>?_⟩;obtain ⟨rfl,rfl,rfl⟩:m=m'∧es=es'∧S1=S':=by simpa using e
    exact ⟨uO.toNJ,tC,hl,hg,ha,h1,h2,fun _=>hi,fun h=>(h jj).elim⟩
   ·rw[aa jj];refine ⟨T1,D1,T1,dP,l6,dP.wf,by simp,fun m' es' S' e=>?_⟩;obtain ⟨rfl,rfl,rfl⟩:m=m'∧es=es'∧S1=S':=by simpa using e
    exact ⟨uO.toNJ,tC,hl,hg,ha,h1,h2,fun h=>(jj h).elim,fun _=>rfl⟩
  unfold NS.oQ at hx;split at hx
  ·exact stay (_,S) rfl rfl hx
  rename_i he;have he:cH f=0:=Decidable.not_not.1 he;split at hx
  ·exact stay (_,S) rfl rfl hx
  rename_i hs;split at hx
  ·exact stay (_,S) rfl rfl hx
  split at hx
  ·exact stay (_,S) rfl rfl hx
  split at hx
  ·rename_i hk;split at hx
   ·rename_i m hm;obtain ⟨q,hq,e,_⟩:=G0 (S:=S) (m:=m) (r:=(aC f).dst) (rp:=(aC f).aw) (by unfold NS.c5 at hk;rw[hm]at hk;exact hk);have ek:S.c5 (aC f)=q.1:=by unfold NS.c5;rw[hm];exact e
    rw[ek]at hx;obtain ⟨T1,D1,dP,l6,hg⟩:=Qxj gl S T D hS hW hD q hq (aC f) false;have SI:=(hS.gt.maps m (List.mem_of_find?_eq_some hm)).1.2.2;exact go m [] _ T1 D1 (hS.goes q.1 (aC f) false) dP l6 (by show S.bH<=_;omega) (by show S.told<=_;omega) av av SI (fun _=>by rw[ek];exact hg) (fun h=>(hk h).elim) hx
   ·exact stay (_,S) rfl rfl hx
  rename_i hk;have gO:S.c5 (aC f)=0:=Decidable.not_not.1 hk;split at hx
  ·exact stay (_,S) rfl rfl hx
  split at hx
  ·exact stay _ (wF _).1 (wF _).2 hx
  rename_i hl;split at hx
  ·exact stay _ (wF _).1 (wF _).2 hx
  rename_i ho;have ho:=Decidable.not_not.1 ho;obtain ⟨S0,oO,_,bg,hop,br,hb⟩:=hS.opened he hs gO af ho;have hb:=hb (Wr (aC f).ae);have nR:=hop.wf hS.wf;have Mj:=hop.bR hS.gt hS.wf bg;have bQ:=(hop.has (by rw[<- oO];exact ho)).1;clear hop br;rw[<- oO]at hb nR Mj bQ;generalize S.tb.cd (aC f).ae ((aC f).aF-167772161) (aC f).aj ad=o at *
  obtain ⟨T1,D1,dP,l6,hg⟩:=Qsz gl { S with tb:=o.1 } T D (hS.toNJ.nb.pS nR) (by show S.bH<=_;omega) hW hD (by show S.fl.length<48;omega) o.2.1 (aC f).dst (aC f).aw (Wr (aC f).ae);have aX:=Sl (S:={ S with tb:=o.1 }) hS.now Mj bQ false;refine go o.2.1 (if o.2.2.1 then [({ S with tb:=o.1 }:NS).ev o.2.1 false] else []) _ T1 D1 hb dP l6 (by show S.bH+1<=_;omega) (by show S.told<=_;omega) (by split<;>simp) (fun e he=>?_) (Mj.maps _ bQ).1.2.2 (fun h=>(h gO).elim) (fun _=>⟨(Mj.ok nR).bd _ bQ,hg⟩) hx;split at he
  ·rename_i ht;rw[am ht];obtain rfl:=List.mem_singleton.1 he;exact ⟨aX,rfl⟩
  ·cases he
 have e2:=Yf1 S f ad;obtain ⟨x,hx⟩:∃ x,S.oQ f ad=x:=⟨_,rfl⟩
 rw[hx]at e2;obtain ⟨x,y⟩:=x;obtain ⟨T',D',T1,h1,h2,h3,h4,h5⟩:=key x y hx;dsimp only at e2;subst e2;exact ⟨T',D',h1,h2,Yeq gl h0 S T T1 T' D hS hW h3 h1.wf ak an ad f hf _ y hx h4 h5⟩
def To.Hh {p:List Nat}{t t':List (Nat×AV)}{ex ex':List (Nat×Bk)}{S:NS}{T:WT}{σ:Nat->Nat}{n k r:Nat}(hT:T.wf)(H':HL (ex'++Qn S T) k)(yna:70<=k)(jL:∀ q ∈ ex',70<=q.1)(hp:∀ b ∈ p,b=67\/b=68)(ct:∀ b b',b<67->b'<67->σ b=σ b'->b=b')(hex:∀ q ∈ ex,∀ b,b<67->σ b≠q.1)
  (hr:r≠67/\r≠68/\(r=69\/k<=r)) (aL:∀ b,b<67->σ b≠67/\σ b≠68/\σ b≠r/\(σ b<67\/k<=σ b))
  (pT:Qb (ex++Qq σ T.hb) n 67=.cells (S.tb.enc++S.Dl r (σ 0))) (rK:Qb (ex++Qq σ T.hb) n 68=.az (gJ S.fl) false) (vJ:Qb (ex++Qq σ T.hb) n r=.cells (Ql S.keys)) (hl:∀ b,70<=b->b<k->Qb (ex++Qq σ T.hb) n b=Qw (nr σ r) (Qb (ex'++Qn S T) k b)) (ht:Qs (nr σ r) k t t'):To p ⟨t,ex++Qq σ T.hb,n⟩ ⟨t',ex'++Qn S T,k⟩:=by
 have Bd:nr σ r 67=67:=rfl;have wy:nr σ r 68=68:=rfl;have tw:nr σ r 69=r:=rfl;have tD:∀ b,70<=b->nr σ r b=b:=fun b hb=>by unfold nr;rw[aa af,aa af]
 have lz:∀ b,b<70->Qb (ex'++Qn S T) k b=Qb (Qn S T) 70 b:=fun b hb=>by
  rw[Xl fun q hq e=>by have:=jL q hq;omega];exact (Qo hT).lo hb k
 refine To.pQ (nr σ r) H' (fun b hb=>?_) (fun b b' hb bL e=>?_) (fun b hb=>?_) ht
 ·rcases hp b hb with rfl|rfl<;>exact ⟨rfl,by omega⟩
 ·rcases (by omega:b < 67∨b=67∨b=68∨b=69∨70≤b) with h|rfl|rfl|rfl|h<;>rcases (by omega:b' < 67∨b'=67∨b'=68∨b'=69∨70≤b') with h'|rfl|rfl|rfl|h'
  ·rw[Wg h,Wg h']at e;exact ct _ _ h h' e
  ·rw[Wg h]at e;exact absurd e (aL _ h).1
  ·rw[Wg h]at e;exact absurd e (aL _ h).2.1
  ·rw[Wg h]at e;exact absurd e (aL _ h).2.2.1
  ·rw[Wg h,tD _ h']at e;have:=(aL _ h).2.2.2;omega
  ·rw[Wg h']at e;exact absurd e.symm (aL _ h').1
  ·rfl
  ·cases e
  ·rw[Bd,tw]at e;omega
  ·rw[Bd,tD _ h']at e;omega
  ·rw[Wg h']at e;exact absurd e.symm (aL _ h').2.1
  ·cases e
  ·rfl
  ·rw[wy,tw]at e;omega
  ·rw[wy,tD _ h']at e;omega
  ·rw[Wg h']at e;exact absurd e.symm (aL _ h').2.2.1
  ·rw[Bd,tw]at e;omega
  ·rw[wy,tw]at e;omega
  ·rfl
  ·rw[tw,tD _ h']at e;omega
  ·rw[Wg h',tD _ h]at e;have:=(aL _ h').2.2.2;omega
  ·rw[Bd,tD _ h]at e;omega
  ·rw[wy,tD _ h]at e;omega
  ·rw[tw,tD _ h]at e;omega
  ·rw[tD _ h,tD _ h']at e;exact e
 ·rcases (by omega:b < 67∨b=67∨b=68∨b=69∨70≤b) with h|rfl|rfl|rfl|h
  ·rw[Wg h,Xdt hT ct hex h,lz b af];have e:Qb (Qn S T) 70 b=Qb T.hb 67 b:=by
    unfold Qn;rw[Qf,aa af,Qf,aa af,Qf,aa af];exact ((WT.iA hT).live h 70).1
   rw[e];exact yb (n:=67) (fun b hb=>(Wg hb).symm) (R0 hT h).2
  ·rw[Bd,pT,lz 67 af,lr];show _=Bk.cells (ay (nr σ r) S.cells);rw[NS.kC,wy,tw,Wg (by decide:0<67)];rfl
  ·rw[wy,rK,lz 68 af,yi,Xe6]
  ·rw[tw,vJ,lz 69 af,yj,Qtf]
  ·rw[tD b h];exact hl b h hb
def Xot {D D':List Tm}(h:D.Perm D')(n:Nat):a7 D n=a7 D' n:=by
 unfold a7;rw[Xcd (h.filter _)]
def Ybt {S:NS}(h:S.fl.Pairwise fun p q=>p.1≠q.1):S.aZ.Pairwise fun a b=>a.id≠b.id:=by
 unfold NS.aZ;exact List.pairwise_map.2 h
def Xjy {D:List Tm}(h:D.Pairwise fun a b=>a.id≠b.id)(n:Nat):(a7 D n).Pairwise (·≠·):=by
 unfold a7;refine List.pairwise_map.2 ?_;have h1:=h.filter fun t=>decide (t.due<n);exact (List.Perm.pairwise_iff (fun {a b} (e:a.id≠b.id)=>e.symm) (Kz _)).2 h1
def NS.cut (S:NS)(k:Int):NS:={ S with fl:=S.fl.filter fun r=>!(r.1==k) }
noncomputable def Hj (S:NS)(es:List Ev)(q:Int×Fl):NS×List Ev :=
 if ((S.cut q.1).fl.any fun r=>decide (r.2.map=q.2.map)) then (S.cut q.1,es) else
 ({ S.cut q.1 with tb:=(S.tb.cls q.2.map).1 },if (S.tb.cls q.2.map).2.1 then es++[(S.cut q.1).ev q.2.map true] else es)
def Qta {S:NS}(hd:S.fl.Pairwise fun p q=>p.1≠q.1)  (hq:q ∈ S.fl)(es:List Ev):cT (S,es) q.1=Hj S es q:=by
 have hf:S.fl.find? (fun r=>r.1==q.1)=some q:=by
  cases hx:S.fl.find? (fun r=>r.1==q.1) with
  | none=>have:=List.find?_eq_none.1 hx q hq;simp at this
  | some r =>
   have h1:=List.find?_some hx;rw[GX hd (List.mem_of_find?_eq_some hx) hq (by simpa using h1)]
 unfold cT Hj NS.cut;dsimp only;rw[hf]
def Yeu {S:NS}(h:NJ S)(k:Int):NB (S.cut k) :=
 ⟨h.wf,fun q hq=>h.ids q (List.mem_filter.1 hq).1,h.c4.sublist List.filter_sublist,h.now,h.lq⟩
def Xv4 (S:NS)(k:Int):(S.cut k).keys=eD k S.keys:=by
 unfold NS.keys NS.cut eD;dsimp only;rw[List.filter_map];rfl
noncomputable def NS.dU (S:NS)(d:Int)(i:Nat):NS×List Ev:=((S.ended d).take i).foldl cT (S.later d,[])
def Qyq (S:NS)(d:Int)(i:Nat)(h:i<(S.ended d).length):S.dU d (i+1)=cT (S.dU d i) (S.ended d)[i]:=by
 unfold NS.dU;rw[List.take_succ,List.getElem?_eq_getElem h,List.foldl_append];rfl
def Hk {S:NS}(h:NI S){d:Int}(hd:¬ (d<1\/549755813888-S.now<d))(i:Nat):nc (S.later d) (S.dU d i).1 ((S.ended d).take i) (S.dU d i).2:=by
 obtain ⟨es,e,hE⟩:=Qst (h.later hd) ((S.ended d).take i);unfold NS.dU;rw[e];exact hE
def Ybv {S:NS}(h:NI S){d:Int}(hd:¬ (d<1\/549755813888-S.now<d)){i:Nat}(hi:i<(S.ended d).length):∃ q ∈ (S.dU d i).1.fl,q.1=(S.ended d)[i]:=by
 have hE:=Hk h hd i;obtain ⟨t,ht,_,e⟩:=L4.1 (List.getElem_mem hi:(S.ended d)[i] ∈ a7 S.aZ (S.now+d.toNat+1));obtain ⟨q,hq,rfl⟩:=mem_map.1 ht;refine ⟨q,?_,e⟩;rw[hE.fl];refine List.mem_filter.2 ⟨hq,?_⟩;have sr:(S.ended d).Pairwise (·≠·):=Xjy (Ybt h.c4) _;have:q.1 ∉ (S.ended d).take i:=fun hm=>by
  obtain ⟨j,hj,ej⟩:=getElem_of_mem hm;rw[length_take]at hj;rw[List.getElem_take]at ej;have:=(List.pairwise_iff_getElem.1 sr) j i af hi af;exact this (ej.trans e)
 rw[List.contains_eq_mem];simpa using this
def Xzi {l:List (Int×Fl)}(hd:l.Pairwise fun p q=>p.1≠q.1)  (hq:q ∈ l):zN (gJ l) (.int .i64 q.1)=gJ (l.filter fun r=>!(r.1==q.1)):=by
 obtain ⟨i,hi,rfl⟩:=getElem_of_mem hq;unfold zN;rw[LY,R9 hd hi];dsimp only;have hs:l=l.take i++l[i]::l.drop (i+1):=by rw[<- List.drop_eq_getElem_cons hi,List.take_append_drop]
 have iG:=List.pairwise_iff_getElem.1 hd;have hA:(l.take i).filter (fun r=>!(r.1==l[i].1))=l.take i:=List.filter_eq_self.2 fun r hr=>by
  obtain ⟨j,hj,rfl⟩:=getElem_of_mem hr;rw[length_take]at hj;rw[List.getElem_take];simpa using iG j i af hi af
 have hB:(l.drop (i+1)).filter (fun r=>!(r.1==l[i].1))=l.drop (i+1):=List.filter_eq_self.2 fun r hr=>by
  obtain ⟨j,hj,rfl⟩:=getElem_of_mem hr;rw[List.length_drop]at hj;rw[List.getElem_drop];simpa using (iG i (i+1+j) hi af af).symm
 have hf:(l.filter fun r=>!(r.1==l[i].1))=l.take i++l.drop (i+1):=by
  generalize hx:l[i]=x at *
  conv=>lhs;rw[hs]
  rw[List.filter_append,List.filter_cons,aa av,hA,hB]
 rw[hf,List.eraseIdx_eq_take_drop_succ];unfold gJ;rw[List.map_append,List.map_take,List.map_drop]
def To.lF {p:List Nat}{t t':List (Nat×AV)}{ex ex':List (Nat×Bk)}{S S':NS}{T:WT}{n k:Nat}(ρ:Nat->Nat)(hT:T.wf)(H':HL (ex'++Qn S' T) k)(hk:70<=k)(jL:∀ q ∈ ex',70<=q.1)(hex:∀ q ∈ ex,67<=q.1)(hp:∀ b ∈ p,b<70)(hρ:∀ b,b<70->ρ b=b)(hρ2:∀ b,70<=b->b<k->70<=ρ b)(ct:∀ b b',70<=b->b<k->70<=b'->b'<k->ρ b=ρ b'->b=b')
  (pT:Qb (ex++Qn S T) n 67=.cells S'.cells) (rK:Qb (ex++Qn S T) n 68=.az (gJ S'.fl) false) (vJ:Qb (ex++Qn S T) n 69=.cells (Ql S'.keys)) (hl:∀ b,70<=b->b<k->Qb (ex++Qn S T) n (ρ b)=Qw ρ (Qb (ex'++Qn S' T) k b)) (ht:Qs ρ k t t'):To p ⟨t,ex++Qn S T,n⟩ ⟨t',ex'++Qn S' T,k⟩:=by
 have lz:∀ b,b<70->Qb (ex'++Qn S' T) k b=Qb (Qn S' T) 70 b:=fun b hb=>by
  rw[Xl fun q hq e=>by have:=jL q hq;omega];exact (Qo hT).lo hb k
 refine To.pQ ρ H' (fun b hb=>⟨hρ b (hp b hb),by have:=hp b hb;omega⟩) (fun b b' hb bL e=>?_) (fun b hb=>?_) ht
 ·by_cases h1:b < 70<;>by_cases h2:b' < 70
  ·rw[hρ b h1,hρ b' h2]at e;exact e
  ·rw[hρ b h1]at e;have:=hρ2 b' af bL;omega
  ·rw[hρ b' h2]at e;have:=hρ2 b af hb;omega
  ·exact ct b b' af hb af bL e
 ·by_cases h1:b < 70
  ·rw[hρ b h1,lz b h1];have SJ:Qw ρ (Qb (Qn S' T) 70 b)=Qb (Qn S' T) 70 b:=by
    rw[yb (g:=id) (fun b hb=>hρ b hb) ((Qo hT).nm h1),ru]
   rw[SJ];rcases (by omega:b<67\/b=67\/b=68\/b=69) with h|rfl|rfl|rfl
   ·rw[Xl fun q hq e=>by have:=hex q hq;omega];have e:∀ (X:NS) (m:Nat),Qb (Qn X T) m b=Qb T.hb 67 b:=fun X m=>by
     unfold Qn;rw[Qf,aa af,Qf,aa af,Qf,aa af];exact ((WT.iA hT).live h m).1
    rw[e,e]
   ·exact pT
   ·exact rK
   ·exact vJ
  ·exact hl b af hb
def Xoc {S:NS}(h:S.tb.wf)(k:Int):(S.cut k).cells=S.cells.set 31 (.sl 1 69 0 (S.cut k).fl.length (S.cut k).fl.length):=by
 rw[NS.dR h 1];rfl
def Xw5 (a b:List Ev):Xj a++Xj b=Xj (a++b):=by simp[Xj]
def bM (S:NS)(m:Mp)(x:Int):Bool:=S.fl.any fun q=>q.1==x&&decide (q.2.map=m)
def SM {S:NS}(hd:S.fl.Pairwise fun p q=>p.1≠q.1)  (hq:q ∈ S.fl)(m:Mp):bM S m q.1=decide (q.2.map=m):=by
 unfold bM;rw[Bool.eq_iff_iff,any_eq_true];constructor
 ·rintro ⟨x,hx,h⟩;rw[Bool.and_eq_true,beq_iff_eq]at h;rw[<- GX hd hx hq h.1];exact h.2
 ·intro h;exact ⟨q,hq,by rw[h];simp⟩
def Yf6 {S:NS}(hd:S.fl.Pairwise fun p q=>p.1≠q.1)(m:Mp):S.keys.any (bM S m)=S.fl.any fun q=>decide (q.2.map=m):=by
 unfold NS.keys;rw[List.any_map,Bool.eq_iff_iff,any_eq_true,any_eq_true];constructor<;>rintro ⟨q,hq,h⟩
 ·exact ⟨q,hq,by rw[<- SM hd hq];exact h⟩
 ·exact ⟨q,hq,by show bM S m q.1=true;rw[SM hd hq];exact h⟩
def Xn2 (S:NS)(T:WT)(D:List Tm)(hS:NI S)(hW:WI T S.now D)(d:Int)(hd:d<1\/549755813888-S.now<d):GD Tryz.prog gl 60 [.ptr 67 0,.int .i64 d] (Qn S T) 70 [67] (.agg (bN 2).enc) (Qn S T):=by
 have hT:=hW.wf;refine R8.gq (ap rfl) (Ub hT) av fun c bf hg=>?_;subst hg
 conv in aG _ _=>cbv
 obtain ⟨Z1,rL,rk⟩:∃ Z:Int,(549755813888:Int)=Z/\0<=Z/\Z<=549755813888:=⟨_,rfl,by decide,by decide⟩
 rw[rL];have aW:=fun n b hb=>Ko (S:=S) hT n b hb;have cq:=lr S T;have aY:=NS.aU hS.wf;have iI:=NS.iI hS.wf;have fe:=hW.gA c.gl;have O6:=hS.now;refine Qd (An @aW (An @cq (An @aY @iI))) ?_;refine Sf (ex:=[(71,_),(70,_),(67,_),(68,_),(69,_)]) fe hT aJ av (by exact Qi (An @aY @iI)) (by simp[Qe]) ?_;refine Qa ?_;refine Qc ?_ ?_<;>intro h1;rotate_left
 ·omega
 unfold bN Rp.enc;refine Qd @aW ?_;exact ⟨(),To.drop (ex:=[(71,_),(71,_),(70,_)]) (Qo hT) av av (by simp[Qs,Qe,ah,look,aB,ay])⟩
def Xz4 (h0:gl 0=.xp (Ql Xy) 0)(S:NS)(T:WT)(D:List Tm)(hS:NI S)(m9:S.told<=90000)(hW:WI T S.now D)(hD:D.Perm S.aZ)(d:Int)(hd:¬ (d<1\/549755813888-S.now<d)):∃ T' D',WI T' (S.tick d).2.now D'/\D'.Perm (S.tick d).2.aZ/\GD Tryz.prog gl 60 [.ptr 67 0,.int .i64 d] (Qn S T) 70 [67] (.agg (S.tick d).1.enc) (Qn (S.tick d).2 T'):=by
 have hT:=hW.wf;have O6:=hS.now;obtain ⟨dn,rfl⟩:∃ k:Nat,d=k:=⟨d.toNat,by omega⟩
 obtain ⟨T',iW,Bm⟩:=hW.A6 gl (S.now+dn);have hR:ya S.now D (S.now+dn)=(0,S.ended dn,S.now+dn,D.filter fun t=>decide (S.now+dn<t.due)):=by
  unfold ya NS.ended;rw[aa af,Xot hD];have:((S.now:Int)+dn).toNat=S.now+dn:=by omega
  rw[this,Int.toNat_natCast]
 rw[hR]at iW Bm;dsimp only at iW Bm;have fB:=iW.wf;rw[L6,aa hd];have Hl:=(hS.yo hd).choose_spec.2.1;refine ⟨T',D.filter fun t=>decide (S.now+dn<t.due),?_,?_,?_⟩
 ·show WI T' (List.foldl cT (S.later dn,[]) (S.ended dn)).1.now _;rw[Hl.now];exact iW
 ·refine (hD.filter _).trans (List.Perm.of_eq ?_);show _=NS.aZ (List.foldl cT (S.later dn,[]) (S.ended dn)).1;unfold NS.aZ;rw[Hl.fl,List.filter_map];show List.map _ (S.fl.filter _)=List.map _ (S.fl.filter _);congr 1;refine List.filter_congr fun q hq=>?_;show decide (S.now + dn < q.2.due.toNat)=!((S.ended dn).contains q.1);rw[List.contains_eq_mem,← decide_not,decide_eq_decide];constructor
  ·intro hlt hm;obtain ⟨t,ht,h1,h2⟩:=L4.1 hm;obtain ⟨r,hr,rfl⟩:=mem_map.1 ht;rw[GX hS.c4 hr hq h2]at h1;simp only[Int.toNat_natCast]at h1;omega
  ·intro hm;refine Nat.lt_of_not_le fun hle=>hm (L4.2 ⟨⟨q.1,q.2.due.toNat⟩,mem_map.2 ⟨q,hq,rfl⟩,?_,rfl⟩);show q.2.due.toNat<S.now+(dn:Int).toNat+1;rw[Int.toNat_natCast];omega
 refine R8.gq (ap rfl) (Ub hT) av fun c bf hg=>?_;subst hg
 conv in aG _ _=>cbv
 obtain ⟨Z1,rL,rk⟩:∃ Z:Int,(549755813888:Int)=Z/\0<=Z/\Z<=549755813888:=⟨_,rfl,by decide,by decide⟩
 rw[rL];have aW:=fun n b hb=>Ko (S:=S) hT n b hb;have cq:=lr S T;have aY:=NS.aU hS.wf;have iI:=NS.iI hS.wf;have wx:=NS.wx hS.wf;have fe:=hW.gA c.gl;have Sc:=hS.ref;obtain ⟨v,hv⟩:∃ v:Nat,v=min 4 (S.ref+min dn 4):=⟨_,rfl⟩
 obtain ⟨m1,lQ⟩:∃ m1:Nat,m1=min dn 4:=⟨_,rfl⟩
 have tF:∀ d1:Decidable ((4:Int)<(dn:Int)),@ite Int ((4:Int)<(dn:Int)) d1 4 dn=m1:=fun d1=>by split<;>omega
 have wG:∀ d1:Decidable ((S.ref:Int)+m1<4),@ite Int ((S.ref:Int)+m1<4) d1 (S.ref+m1) 4=v:=fun d1=>by split<;>omega
 have D7:S.later dn={ S with now:=S.now+dn,ref:=v }:=by unfold NS.later;rw[hv,Int.toNat_natCast]
 have GR:S.cells.set 35 (.int .i64 v)=(S.later dn).cells:=by rw[D7,NS.GR hS.wf];rfl
 have SN:(S.later dn).cells.length=38:=NS.aU (S:=S.later dn) hS.wf;have l33:(S.later dn).cells.getD 33 .any=.ptr 0 0:=NS.iI (S:=S.later dn) hS.wf;refine Qd (An @aW (An @cq (An @aY @iI))) ?_;refine Sf (ex:=[(71,_),(70,_),(67,_),(68,_),(69,_)]) fe hT aJ av (by exact Qi (An @aY @iI)) (by simp[Qe]) ?_;refine Qa ?_;refine Qc ?_ ?_<;>intro h1
 ·omega
 refine Qd (An @aY @wx) ?_;erw [tF,wG,GR];refine Qd (An @SN @l33) ?_;have H2:HL ([(71,.cells [.int .i64 0,.str [],.bool false,.str []]),(70,.cells [.ptr 67 0])]++Qn (S.later dn) T') 72:=((Qo fB).more (by simp[bX,ah,Qe])).more (by simp[bX,ah,Qe]);refine uJ (v:=false) (pp:=[67]) (ex:=[(67,_),(71,_),(70,_),(67,_),(68,_),(69,_)]) (s3:=⟨[(2,.ptr 70 0),(4,.ptr 71 0),(48,.aR [.isl (S.ended dn).length (Ql (S.ended dn)),.int .i64 0])],[(71,.cells [.int .i64 0,.str [],.bool false,.str []]),(70,.cells [.ptr 67 0])]++Qn (S.later dn) T',72⟩) bf Bm (WT.iA hT) (WT.iA fB) (by simp[Qe,ah,qM]) aJ aJ av rfl ?_ ?_ ?_
 ·exact Qi @Yl
 ·rw[R2 (by simp[Qe,ah,qM])];refine To.Hh (k:=72) (r:=69) fB H2 aJ av av (fun b b' h h' e=>R1 aJ h h' e) ?_ aJ ?_ ?_ rfl rfl (fun b h1 h2=>?_) ?_
  ·intro q hq b hb e;have h1:im 139 b < 2∨141≤im 139 b:=by unfold im;split<;>omega
   simp at hq;rcases hq with rfl|rfl|rfl|rfl|rfl|rfl<;>dsimp only at e<;>omega
  ·intro b hb;have h1:im 139 b < 2∨141≤im 139 b:=by unfold im;split<;>omega
   omega
  ·rfl
  ·rcases (by omega:b=70\/b=71) with rfl|rfl<;>rfl
  ·have wH:ay (nr (im 139) 69) (Ql (S.ended dn))=Ql (S.ended dn):=Qu _ _;simp[Qs,Qe,ah,look,aB,ay,qM,nr,wH]
 clear GR tF wG l33;have hEl:=Xp (S.ended dn);have yAa:(S.ended dn).length<=48:=Nat.le_trans (L5 _ _) (by unfold NS.aZ;rw[List.length_map];exact hS.len);refine Qa ?_;have hHl:=fun n b hb=>Ko (S:=S.later dn) fB n b hb;refine vB 8 5 rfl (by exact Qi @hHl) ?_;unfold St.named
 refine Yn (fun i:Nat=>i≤(S.ended dn).length) (fun i=>⟨[(2,.ptr 70 0),(4,.ptr 71 0),(8,.sl 5 72 0 (S.dU dn i).2.length (S.dU dn i).2.length),(51,.isl (S.ended dn).length (Ql (S.ended dn))),(52,.int .i64 (S.ended dn).length),(53,.int .i64 i)],[(72,.cells (Xj (S.dU dn i).2)),(71,.cells [.int .i64 0,.str [],.bool false,.str []]),(70,.cells [.ptr 67 0])]++Qn (S.dU dn i).1 T',73⟩) (fun i=>(S.ended dn).length - i) R8.mixed [67] bf
  ⟨0,Nat.zero_le _,To.fK (by (refine XG ?_;((try with_reducible and_intros);all_goals try first|refine zm ?_|exact CL));all_goals rfl) fun b=>rfl⟩ fun i hi=>?_
 have hE:=Hk hS hd i;have cj:=Qyq S dn i;have bQ:=Ybv hS hd (i:=i);have hlen:(S.dU dn i).2.length<=48:=Nat.le_trans hE.len (by rw[length_take];omega);have yv:i=(S.ended dn).length->(S.dU dn i)=(S.ended dn).foldl cT (S.later dn,[]):=fun e=>by unfold NS.dU;rw[e,List.take_length]
 generalize hx:S.dU dn i=x at *
 obtain ⟨Si,es⟩:=x;dsimp only at hE bQ hlen cj ⊢;have aW:=fun n b hb=>Ko (S:=Si) fB n b hb;have cq:=lr Si T';have tu:=yi Si T';have yk:=yj Si T';have aY:=NS.aU hE.nj.wf;have fF:=NS.fF hE.nj.wf;have ke:=NS.ke hE.nj.wf;have eb:=A9 Si.fl;have fO:=uK Si;refine Qa ?_;refine Qc ?_ ?_<;>intro h2
 ·have aL:i < (S.ended dn).length:=by omega
  have lB:=Dh (S.ended dn) i aL;have cj:=cj aL;obtain ⟨q,hq,QQ⟩:=bQ aL;rw[<- QQ]at lB cj;rw[Qta hE.nj.c4 hq]at cj;have eM:=rG q.1;have fc:=L3 hE.nj.c4 hq (.agg Fl.zero);have hqm:=hE.nj.gt.maps _ (hE.nj.kB q hq);have hqb:=hE.nj.ok.bd _ (hE.nj.kB q hq);obtain ⟨k,⟨mp,ms,mi,ma,mt⟩,g0,g1,g2,g3,g4⟩:=q;unfold Fl.enc Zj at fc;dsimp only at fc lB eM hqm hqb cj;refine Qd (An @lB (An @aW (An @cq (An @aY @fF)))) ?_;refine Ul nQ (An @tu (An @eb (An @eM (An @fc (An @aW (An @cq (An @aY @fF))))))) ?_;refine Qd (An @cq (An @aY @fF)) ?_;have AP:=Xzi hE.nj.c4 hq;dsimp only at AP;have Hm:Si.keys.length=Si.fl.length:=by simp[NS.keys]
  have Gt:=hE.nj.len;have vT:=Ydi c.gl Si.keys af k;rw[Hm]at vT;have f31:(Si.cells.set 31 (.sl 1 69 0 (eD k Si.keys).length Si.fl.length)).getD 31 .any=.sl 1 69 0 (eD k Si.keys).length Si.fl.length:=by rw[zq (by rw[aY];decide),am rfl]
  refine OM nQ (An @tu (An @eb (An @eM (An @AP (An @cq (An @aY @ke)))))) ?_
  ((first|refine Kn (ins:=[69,73]) vT ?_ ?_|refine Jb (ins:=[69,73]) vT ?_ ?_|refine Ja (ins:=[69,73]) vT ?_ ?_|refine Zg (ins:=[69,73]) vT ?_ ?_)<;>(have aQ:=@yk;have bu:=@aW;have bO:=@cq;have cy:=@aY;have dc:=@ke;have eT:=@f31;refine XG ?_;clear aQ bu bO cy dc eT;(try first|exact rfl|exact True.intro);((try with_reducible and_intros);all_goals try first|refine zm ?_|exact CL)))
  ·decide
  have hck:=Xv4 Si k;have qO:(eD k Si.keys).length=(Si.cut k).fl.length:=by rw[<- hck];simp[NS.keys]
  have uT:=Xoc hE.nj.wf k;rw[qO];rw[<- hck];have Pw:(Si.cut k).fl.length<=Si.fl.length:=List.length_filter_le _ _;have tB:∀ n,ah n (Xj es):=fun n=>Uc n es;have Me:∀ ρ,ay ρ (Xj es)=Xj es:=fun ρ=>by
   rw[Zx];exact (List.map_congr_left fun v hv=>Ue (Xw.1 (tB 0) v hv)).trans (map_id _)
  have H5:HL ([(74,.cells [.int .i64 mp,.int .i64 ms,.int .i64 mi,.int .i64 ma,.int .i64 mt]),(73,.cells [.int .i64 k]),(72,.cells (Xj es)),(71,.cells [.int .i64 0,.str [],.bool false,.str []]),(70,.cells [.ptr 67 0])]++Qn (Si.cut k) T') 75:=((((GZ fB).more (by simp[bX,ah,Qe])).more (by exact tB _)).more (by simp[bX,ah,Qe])).more (by simp[bX,ah,Qe]);refine qk (p:=[67]) bf (To.XV 81 (y:=.sl 1 69 0 (Si.cut k).fl.length (Si.cut k).fl.length) (Wk.cap 1 69 0 _ _)) ?_;refine qk (p:=[67]) bf (To.XW (b:=67) (cs:=Si.cells.set 31 (.sl 1 69 0 (Si.cut k).fl.length Si.fl.length)) (cs':=(Si.cut k).cells) rfl (by rw[uT];simp) fun j hj=>?_) ?_
  ·rw[uT];rw[List.length_set]at hj;by_cases e:31=j
   ·subst e;rw[zq (by rw[aY];decide),zq (by rw[aY];decide),am rfl,am rfl];exact Wk.cap 1 69 0 _ _
   ·rw[zq (by rw[aY];decide),zq (by rw[aY];decide),aa e,aa e];exact Wk.refl _
  refine qk (p:=[67]) (s':=⟨[(2,.ptr 70 0),(4,.ptr 71 0),(8,.sl 5 72 0 es.length es.length),(11,.ptr 74 0),(51,.isl (S.ended dn).length (Ql (S.ended dn))),(52,.int .i64 (S.ended dn).length),(53,.int .i64 i),(81,.sl 1 69 0 (Si.cut k).fl.length (Si.cut k).fl.length),(82,.cl 101 [.ptr 70 0,.ptr 74 0])],[(74,.cells [.int .i64 mp,.int .i64 ms,.int .i64 mi,.int .i64 ma,.int .i64 mt]),(73,.cells [.int .i64 k]),(72,.cells (Xj es)),(71,.cells [.int .i64 0,.str [],.bool false,.str []]),(70,.cells [.ptr 67 0])]++Qn (Si.cut k) T',75⟩) bf ?_ ?_
  ·refine To.lF (ex:=[(67,_),(67,_),(73,_),(69,_),(68,_),(74,_),(74,_),(73,_),(73,_),(72,_),(71,_),(70,_)]) id fB H5 aJ av av av (fun _ _=>rfl) (fun b h _=>h) (fun b b' _ _ _ _ e=>e) rfl rfl rfl (fun b h1 h2=>?_) ?_
   ·rw[ru];rcases (by omega:b=70\/b=71\/b=72\/b=73\/b=74) with rfl|rfl|rfl|rfl|rfl<;>rfl
   ·have wH:=ql (Ql (S.ended dn));simp[Qs,Qe,ah,look,aB,ay,qM,wH]
  have pZ:=Yeu hE.nj k;have tA:=Xdr c.gl (l:=(Si.cut k).keys) (kb:=69) (f:=101) (caps:=[.ptr 70 0,.ptr 74 0]) (b:=bM (Si.cut k) ⟨mp,ms,mi,ma,mt⟩) H5 (by rw[hck,qO];omega) aJ (fun n=>rfl) (by simp[ah,Qe]) (fun x hx=>by
   obtain ⟨q,hq,rfl⟩:=mem_map.1 hx;rw[SM pZ.c4 hq];exact Xts c.gl pZ H5 (fun n=>rfl) (fun n=>rfl) (fun n=>rfl) (fun n=>rfl) hq)
  rw[Yf6 pZ.c4,hck,qO]at tA;refine tn (v:=false) (ex:=[]) tA H5 H5 (by simp[Qe]) aJ av rfl ?_ ?_
  ·exact Qi @Yl
  unfold Hj at cj;dsimp only at cj;cases fg:(Si.cut k).fl.any (fun q=>decide (q.2.map=⟨mp,ms,mi,ma,mt⟩)) with
  | true =>
   rw[fg,am rfl]at cj;refine Qa ?_;refine Yc ?_;refine Qa ?_;refine ⟨i+1,by omega,?_,by omega⟩;rw[cj];have H3:HL ([(72,.cells (Xj es)),(71,.cells [.int .i64 0,.str [],.bool false,.str []]),(70,.cells [.ptr 67 0])]++Qn (Si.cut k) T') 73:=((GZ fB).more (by simp[bX,ah,Qe])).more (by exact tB _);refine To.drop (ex:=[(74,_),(73,_)]) H3 av av ?_;have wH:=ql (Ql (S.ended dn));simp[Qs,Qe,ah,look,aB,ay,qM,wH]
  | false =>
   rw[fg,aa av]at cj;have hC:=Xsl c.gl Si.tb hE.nj.ok ⟨mp,ms,mi,ma,mt⟩;obtain ⟨_,_,_,mA,dW,_,_⟩:=hE.nj.gt.cls hE.nj.wf (hE.nj.kB _ hq);dsimp only at mA dW;unfold Ud Mp.enc at hC;dsimp only at hC;have cq:=lr (Si.cut k) T';have aW:=fun n b hb=>Ko (S:=Si.cut k) fB n b hb;have Bn:=NS.aU (S:=Si.cut k) hE.nj.wf;have SO:List.take 30 (Si.cut k).cells=Si.tb.enc:=NS.fE (S:=Si.cut k) hE.nj.wf;have yCa:∀ tb,GT tb->True:=fun _ _=>trivial;generalize Si.tb.cls ⟨mp,ms,mi,ma,mt⟩=cl at *
   obtain ⟨wI,gv,ce⟩:=cl;dsimp only at hC dW mA cj;have aE:=Tb.au dW;have Ol:=Tb.bY wI;have oZ:wI.enc.take 30=wI.enc:=take_of_length_le (by rw[aE];decide);have dX:=NS.Hb (S:=Si.cut k) hE.nj.wf dW;refine Qa ?_;refine Yc ?_;refine Qd (An @cq (An @Bn @SO)) ?_;refine Qj hC (An @aW (An @aE (An @cq (An @Bn (An @oZ @dX))))) ?_;refine Qd (An @cq (An @Bn (An @aE (An @oZ @dX)))) ?_;cases gv with
   | false =>
    refine Yc ?_;refine Qa ?_;refine ⟨i+1,by omega,?_,by omega⟩;rw[cj,aa av];have H3:HL ([(72,.cells (Xj es)),(71,.cells [.int .i64 0,.str [],.bool false,.str []]),(70,.cells [.ptr 67 0])]++Qn { Si.cut k with tb:=wI } T') 73:=((GZ fB).more (by simp[bX,ah,Qe])).more (by exact tB _);refine To.lF (ex:=[(67,_),(150,_),(150,_),(74,_),(73,_),(72,_),(71,_),(70,_)]) id fB H3 aJ av av av (fun _ _=>rfl) (fun b h _=>h) (fun b b' _ _ _ _ e=>e) rfl rfl rfl (fun b h1 h2=>?_) ?_
    ·rw[ru];rcases (by omega:b=70\/b=71\/b=72) with rfl|rfl|rfl<;>rfl
    ·have wH:=ql (Ql (S.ended dn));simp[Qs,Qe,ah,look,aB,ay,qM,wH]
   | true =>
    refine Yc ?_;rw[am rfl]at cj;have Hn:(Si.cut k).now=S.now+dn:=hE.now;have js:=Qtq c.gl { Si.cut k with tb:=wI } T' _ (pZ.pS dW) (by show WI T' (Si.cut k).now _;rw[Hn];exact iW) ⟨mp,ms,mi,ma,mt⟩ hqb true;unfold Mp.enc at js;dsimp only at js;rw[show ({ Si.cut k with tb:=wI }:NS).ev ⟨mp,ms,mi,ma,mt⟩ true=(Si.cut k).ev ⟨mp,ms,mi,ma,mt⟩ true from rfl]at js;have Ho:=Xw5 es [(Si.cut k).ev ⟨mp,ms,mi,ma,mt⟩ true];obtain ⟨E,SP⟩:∃ E,Xj [(Si.cut k).ev ⟨mp,ms,mi,ma,mt⟩ true]=E:=⟨_,rfl⟩
    have hE1:∀ n,ah n E:=fun n=>by rw[<- SP];exact Uc n _
    have hE5:E.length=1*5:=by rw[<- SP,yf];rfl
    have hE6:(Xj es).length=es.length*5:=yf es;rw[SP]at js Ho;refine Qa ?_;refine Sv (L9 (A:=[]) (B:=[(150,_),(150,_),(74,_),(73,_),(72,_),(71,_),(70,_)]) (S:=Si.cut k) (S':={ Si.cut k with tb:=wI }) (T:=T') rfl av av) ?_;refine tn (v:=false) (ex:=[(150,_),(150,_),(74,_),(73,_),(72,_),(71,_),(70,_)]) js (Qo fB) (Qo fB) (by simp[Qe,hE1]) aJ av rfl ?_ ?_
    ·exact Qi @Yl
    have ti:=fun n b hb=>Ko (S:={ Si.cut k with tb:=wI }) fB n b hb;refine Qa ?_;refine Yp (An @ti (An @hE5 (An @hE6 @Ho))) ?_;refine ⟨i+1,by omega,?_,by omega⟩;rw[cj];have Hp:∀ n,ah n (Xj (es++[(Si.cut k).ev ⟨mp,ms,mi,ma,mt⟩ true])):=fun n=>Uc n _;have hl2:(es++[(Si.cut k).ev ⟨mp,ms,mi,ma,mt⟩ true]).length=es.length+1:=by simp
    dsimp only;rw[hl2];generalize Xj (es++[(Si.cut k).ev ⟨mp,ms,mi,ma,mt⟩ true])=E2 at *
    have SQ:∀ ρ,ay ρ E2=E2:=fun ρ=>by
     rw[Zx];exact (List.map_congr_left fun v hv=>Ue (Xw.1 (Hp 0) v hv)).trans (map_id _)
    have H3:HL ([(72,.cells E2),(71,.cells [.int .i64 0,.str [],.bool false,.str []]),(70,.cells [.ptr 67 0])]++Qn { Si.cut k with tb:=wI } T') 73:=((GZ fB).more (by simp[bX,ah,Qe])).more (by exact Hp _);refine To.lF (ex:=[(221,_),(72,.dead),(150,_),(150,_),(74,_),(73,_),(72,_),(71,_),(70,_)]) (fun b=>if b=72 then 221 else b) fB H3 aJ av av av (fun b hb=>aa af) (fun b h h2=>?_) (fun b b' h1 h2 h3 h4 e=>?_) rfl rfl rfl (fun b h1 h2=>?_) ?_
    ·split<;>omega
    ·(repeat' split at e)<;>omega
    ·rcases (by omega:b=70∨b=71∨b=72) with rfl|rfl|rfl
     ·rfl
     ·rfl
     ·show Bk.cells E2=Bk.cells (ay _ E2);rw[SQ]
    ·have wH:ay (fun b=>if b=72 then 221 else b) (Ql (S.ended dn))=Ql (S.ended dn):=Qu _ _;simp[Qs,Qe,ah,look,aB,ay,qM,wH]
 ·obtain rfl:i=(S.ended dn).length:=by omega
  rw[<- yv rfl];have dH:Si.told=S.told:=hE.told;have lC:=Xeq c.gl h0 Si T' hE.nj fB af es af (fun e he=>by
   obtain ⟨g1,g2⟩:=hE.bR e he;refine ⟨g2,?_⟩;cases es with
   | nil=>cases he
   | cons e0 l=>exact g1.trans (hE.bR e0 List.mem_cons_self).1.symm)
  rw[dH]at lC;have hE6:(Xj es).length=es.length*5:=yf es;have Hq:((Xj es).drop 0).take (es.length*5)=Xj es:=by rw[List.drop_zero,take_of_length_le af]
  have tB:∀ n,ah n (Xj es):=fun n=>Uc n es;refine Qa ?_;refine qk (p:=[67]) bf (To.gM (b:=72) (i:=106) rfl rfl) ?_;rw[Hq];refine tn (v:=false) (n:=73) (ex:=[(72,.dead),(72,_),(71,_),(70,_)]) lC (Qo fB) (Qo fB) (by simp[Qe]) aJ av rfl ?_ ?_
  ·exact Qi (An @Yl @tB)
  refine Qa ?_;unfold Rp.enc;exact ⟨(),To.drop (ex:=[(71,_),(72,.dead),(72,_),(71,_),(70,_)]) (Qo fB) av av (by simp[Qs,Qe,ah,look,aB,ay])⟩
def NS.Mk {S:NS}(h:S.tb.wf)(v:Nat):S.cells.set 36 (.int .i64 v)=({ S with bm:=v }:NS).cells:=NS.dR h 6 _
def NS.oR {S:NS}(h:S.tb.wf):S.cells.take 21=S.tb.ai.enc:=by
 rw[<- Tb.cZ h,<- NS.fE h,List.take_take];rfl
def NS.tG {S:NS}(h:S.tb.wf){p:aq}(hp:p.wf):Ym S.cells 0 p.enc=({ S with tb:={ S.tb with ai:=p } }:NS).cells:=by
 unfold Ym NS.cells Tb.enc Tb.hd;rw[List.take_zero,List.nil_append,Nat.zero_add,aq.au hp,<- aq.au h.ai,append_assoc,append_assoc,append_assoc,List.drop_left];simp[NS.tl]
def Yip (gl:Nat->AV)(S S':NS)(T:WT)(hw:S.tb.wf)(hT:T.wf)(ak an ad:Int)(f:List UInt8)(qT:{ S with bm:=S.bm+1 }=S')(x:Rp×NS)(T1:WT)(dz:T1.wf)(h0:300<=S.bm->T1=T/\x=(bN 6,S))
  (h1:S.bm<300->ak=1->GD Tryz.prog gl 58 [.ptr 67 0,.agg [.int .i64 ak,.int .i64 an,.int .i64 ad,.str f]] (Qn S' T) 70 [67] (.agg x.1.enc) (Qn x.2 T1))
  (h2:S.bm<300->ak=2->GD Tryz.prog gl 59 [.ptr 67 0,.str f] (Qn S' T) 70 [67] (.agg x.1.enc) (Qn x.2 T1))
  (h3:S.bm<300->ak=3->GD Tryz.prog gl 60 [.ptr 67 0,.int .i64 an] (Qn S' T) 70 [67] (.agg x.1.enc) (Qn x.2 T1))
  (h4:S.bm<300->¬ ak=1->¬ ak=2->¬ ak=3->T1=T/\x=if ak=4\/ak=5 then (bN (S'.tb.ai.drain an (decide (ak=4))).2,if (S'.tb.ai.drain an (decide (ak=4))).2=0 then { S' with tb:={ S'.tb with ai:=(S'.tb.ai.drain an (decide (ak=4))).1 } } else S') else (bN 4,S')) :
  GD Tryz.prog gl 20 [.ptr 67 0,.agg [.int .i64 ak,.int .i64 an,.int .i64 ad,.str f]] (Qn S T) 70 [67] (.agg x.1.enc) (Qn x.2 T1):=by
 refine Yfh.gq (ap rfl) (Ub hT) av fun c bf hg=>?_;subst hg
 conv in aG _ _=>cbv
 have aW:=fun n b hb=>Ko (S:=S) hT n b hb;have cq:=lr S T;have aY:=NS.aU hw;have GN:=NS.GN hw;have Mk:=NS.Mk hw (S.bm+1);rw[qT]at Mk;have dY:(S.bm:Int)+1=((S.bm+1:Nat):Int):=by omega
 have yw:S'.tb.wf:=by rw[<- qT];exact hw
 obtain ⟨⟨r1,r2,r3,r4⟩,S1⟩:=x;unfold Rp.enc at h1 h2 h3 ⊢;dsimp only at h1 h2 h3 ⊢;refine Qd (An @aW (An @cq (An @aY @GN))) ?_;refine Yc ?_;refine Qd (An @aW (An @cq (An @aY @GN))) ?_;refine Qc ?_ ?_<;>intro q2
 ·obtain ⟨rfl,e⟩:=h0 af;unfold bN at e;cases e;refine Qd @aW ?_;exact ⟨(),To.drop (ex:=[(71,_),(71,_),(70,_)]) (Qo hT) av av (by simp[Qs,Qe,ah,look,aB,ay])⟩
 have hlt:S.bm<300:=by omega
 have h1:=h1 hlt;have h2:=h2 hlt;have h3:=h3 hlt;have h4:=h4 hlt;clear h0;refine Qd (An @aW (An @cq (An @aY (An @GN (An @dY @Mk))))) ?_;refine Qc ?_ ?_<;>intro q3;rotate_left;refine Qa ?_;refine Qc ?_ ?_<;>intro q4;rotate_left;refine Qa ?_;refine Qc ?_ ?_<;>intro q5;rotate_left
 ·obtain ⟨rfl,e⟩:=h4 q3 q4 q5;clear h1 h2 h3 h4;have iL:=NS.aU yw;have kr:List.take 21 S'.cells=S'.tb.ai.enc:=NS.oR yw;refine Qa ?_;refine Qc ?_ ?_<;>intro q6;rotate_left;refine Qa ?_;refine Qc ?_ ?_<;>intro q7;rotate_left
  ·rw[aa af]at e;unfold bN at e;cases e;refine Qd @aW ?_;subst qT;exact ⟨(),To.lF (ex:=[(71,_),(67,_),(71,_),(70,_)]) (ex':=[]) id hT (Qo hT) (Nat.le_refl 70) av av av (fun _ _=>rfl) (fun b h _=>h) (fun b b' _ _ _ _ e=>e) rfl rfl rfl (fun b h1 h2=>by omega) (by simp[Qs,Qe,ah,look,aB,ay])⟩
  all_goals
   rw[am af]at e;have uI:=Xli c.gl S'.tb.ai yw.ai an;have A0:=Xcz c.gl S'.tb.ai yw.ai an;have SR:=aq.eF S'.tb.ai yw.ai an true;have wJ:=aq.eF S'.tb.ai yw.ai an false;first|rw[decide_eq_true (by assumption)]at e|rw[decide_eq_false (by assumption)]at e
   generalize S'.tb.ai.drain an true=y at *
   generalize S'.tb.ai.drain an false=d at *
   obtain ⟨yp,ye⟩:=y;obtain ⟨p,e1⟩:=d;unfold Km at uI A0;unfold bN at e;dsimp only at uI A0 SR wJ e;have Cm:=aq.au SR;have hyt:yp.enc.take 21=yp.enc:=take_of_length_le (by rw[Cm];decide);have kg:=aq.au wJ;have pD:p.enc.take 21=p.enc:=take_of_length_le (by rw[kg];decide);have hsy:=NS.tG yw SR;have sT:=NS.tG yw wJ;have hL:=And.intro (And.intro Cm hyt) (And.intro kg pD);try refine Qc ?_ ?_<;>intro q8
   all_goals try (exfalso;omega)
   refine Qd (An @iL @kr) ?_;refine Qj uI (An @aW (An @hL (An @iL @kr))) ?_;refine Qd (An @aW (An @hL (An @iL @kr))) ?_;refine Qc ?_ ?_<;>intro q9;all_goals try (exfalso;omega)
   refine Qd (An @aW (An @hL (An @iL @kr))) ?_;try refine Qj A0 (An @aW (An @hL (An @iL @kr))) ?_
   try refine Qd (An @aW (An @hL (An @iL @kr))) ?_
   split at e
   all_goals
    cases e;refine Qc ?_ ?_<;>intro q10;all_goals try (exfalso;omega)
    refine Qd (An @iL (An @hL (An @hsy @sT))) ?_;subst qT;refine ⟨(),?_⟩
    first
     | refine To.lF (ex:=[(71,_),(67,_),(72,_),(72,_),(67,_),(71,_),(70,_)]) (ex':=[]) id hT (Qo hT) (Nat.le_refl 70) av av av (fun _ _=>rfl) (fun b h _=>h) (fun b b' _ _ _ _ e=>e) rfl rfl rfl (fun b h1 h2=>by omega) ?_
     | refine To.lF (ex:=[(71,_),(72,_),(72,_),(67,_),(71,_),(70,_)]) (ex':=[]) id hT (Qo hT) (Nat.le_refl 70) av av av (fun _ _=>rfl) (fun b h _=>h) (fun b b' _ _ _ _ e=>e) rfl rfl rfl (fun b h1 h2=>by omega) ?_
     | refine To.lF (ex:=[(71,_),(67,_),(72,_),(72,_),(72,_),(67,_),(71,_),(70,_)]) (ex':=[]) id hT (Qo hT) (Nat.le_refl 70) av av av (fun _ _=>rfl) (fun b h _=>h) (fun b b' _ _ _ _ e=>e) rfl rfl rfl (fun b h1 h2=>by omega) ?_
     | refine To.lF (ex:=[(71,_),(72,_),(72,_),(72,_),(67,_),(71,_),(70,_)]) (ex':=[]) id hT (Qo hT) (Nat.le_refl 70) av av av (fun _ _=>rfl) (fun b h _=>h) (fun b b' _ _ _ _ e=>e) rfl rfl rfl (fun b h1 h2=>by omega) ?_
    simp[Qs,Qe,ah,look,aB,ay]
 all_goals
  refine Qa ?_;refine Sv (L9 (A:=[]) (B:=[(71,_),(70,_)]) (S:=S) (S':=S') (T:=T) (by rw[<- qT]) av av) ?_;refine Xom (v:=false) (ex:=[(71,_),(70,_)]) (by first|exact h1 (by assumption)|exact h2 (by assumption)|exact h3 (by assumption)) (Qo hT) (Qo dz) (by simp[Qe,ah]) (by decide) (by simp) (by simp) rfl ?_ ?_
  ·exact Qi @Yl
  unfold Ju;refine Qa ?_;exact ⟨(),To.qS (ex:=[(71,_),(71,_),(70,_)]) (ex':=[]) dz (Qo dz) (Nat.le_refl 70) aJ av av av (fun b h1 h2=>by omega) (by simp[Qs,Qe,ah,look,aB,ay,Dp,lw,Sw])⟩
def Ygk (h0:gl 0=.xp (Ql Xy) 0)(S:NS)(T:WT)(D:List Tm)(hK:NK S)(hW:WI T S.now D)(hD:D.Perm S.aZ)(a:Ac)(hf:a.frame.length<=140737488351232):Xpg gl S T 20 [.ptr 67 0,.agg a.enc] (S.step a):=by
 obtain ⟨ak,an,ad,f⟩:=a;dsimp only at hf;have hT:=hW.wf;have hw:=hK.wf;obtain ⟨S',qT⟩:∃ S':NS,{ S with bm:=S.bm+1 }=S':=⟨_,rfl⟩
 have h1:NI S':=by rw[<- qT];exact hK.toNI.lE (S.bm+1)
 have hx:S'.bH<=90000:=by rw[<- qT];have:=hK.nx;have:=hK.act;show S.bH<=_;omega
 have ht:S'.told<=90000:=by rw[<- qT];have:=hK.uL;have:=hK.act;show S.told<=_;omega
 have iW:WI T S'.now D:=by rw[<- qT];exact hW
 have Hr:D.Perm S'.aZ:=by rw[<- qT];exact hD
 have kV:=fun x T1 dz=>Yip gl S S' T hw hT ak an ad f qT x T1 dz;have e:S.step ⟨ak,an,ad,f⟩=if 300<=S.bm then (bN 6,S) else if ak=1 then S'.out f ad else if ak=2 then S'.aH f else if ak=3 then S'.tick an else if ak=4\/ak=5 then (bN (S'.tb.ai.drain an (decide (ak=4))).2,if (S'.tb.ai.drain an (decide (ak=4))).2=0 then { S' with tb:={ S'.tb with ai:=(S'.tb.ai.drain an (decide (ak=4))).1 } } else S') else (bN 4,S'):=by subst qT;rfl
 rw[e];by_cases ha:300<=S.bm
 ·rw[am ha];exact ⟨T,D,hW,hD,kV _ T hT (fun _=>⟨rfl,rfl⟩) af af af af⟩
 rw[aa ha];by_cases k1:ak=1
 ·rw[am k1];obtain ⟨T1,D1,dP,l6,hg⟩:=Ya9 gl h0 S' T D h1 af ht iW Hr ak an ad f hf;exact ⟨T1,D1,dP,l6,kV _ T1 dP.wf af (fun _ _=>hg) af af (fun _ h=>(h k1).elim)⟩
 rw[aa k1];by_cases k2:ak=2
 ·rw[am k2];obtain ⟨T1,D1,dP,l6,hg⟩:=Xn0 gl S' T D h1 af iW Hr f hf;exact ⟨T1,D1,dP,l6,kV _ T1 dP.wf af af (fun _ _=>hg) af (fun _ _ h=>(h k2).elim)⟩
 rw[aa k2];by_cases k3:ak=3
 ·rw[am k3];by_cases hd:an < 1∨549755813888 - S'.now < an
  ·have hb:=Xn2 gl S' T D h1 iW an hd;rw[L6,am hd];exact ⟨T,D,iW,Hr,kV _ T hT af af af (fun _ _=>hb) (fun _ _ _ h=>(h k3).elim)⟩
  ·obtain ⟨T1,D1,dP,l6,hg⟩:=Xz4 gl h0 S' T D h1 ht iW Hr an hd;exact ⟨T1,D1,dP,l6,kV _ T1 dP.wf af af af (fun _ _=>hg) (fun _ _ _ h=>(h k3).elim)⟩
 rw[aa k3];refine ⟨T,D,?_,?_,kV _ T hT af af af af fun _ _ _ _=>⟨rfl,rfl⟩⟩
 ·dsimp only
  (repeat' split)<;>exact iW
 ·dsimp only
  (repeat' split)<;>exact Hr
section
variable {P:Program}
def PS.wk {gl:Nat->AV}  {args:List AV}{r r':AV}(h:PS P gl f args r)(hr:Wk r r'):PS P gl f args r' :=
 ⟨h.1,fun w vs X hX jS hv=>(h.2 w vs X hX jS hv).mono fun e w' ⟨v,q1,q2,q3⟩=>⟨v,q1,hr _ _ _ _ q2,q3⟩⟩
def PS.empty {gl:Nat->AV}  {cs:List AV}{r:AV}(h1:∀ cap,PS P gl f [.lit (.slice none 0 cap)] r)(h2:∀ a cap,PS P gl f [.lit (.slice (some a) 0 cap)] r):PS P gl f [.isl 0 cs] r:=by
 refine ⟨(h1 0).1,fun w vs X hX jS hv=>?_⟩;cases vs with
 | nil=>exact hv.elim
 | cons v vs =>
 cases vs with
 | cons _ _=>exact hv.2.elim
 | nil =>
 obtain ⟨hv,_⟩:=hv;obtain ⟨a,cap,us,rfl,_⟩:=tK hv;cases a with
 | some a=>exact (h2 a cap).2 w [.slice (some a) 0 cap] X hX jS ⟨.lit _,trivial⟩
 | none=>exact (h1 cap).2 w [.slice none 0 cap] X hX jS ⟨.lit _,trivial⟩
def SS (m:Nat)(rs:List RS)(r:AV)(ax:List (Nat×Bk))(n:Nat):EX->St->Prop
 | .exit _,_=>False
 | _,s=>Un s.fs rs/\To (List.range m) ⟨[(0,iE s.fs rs)],s.h,s.n⟩ ⟨[(0,r)],ax,n⟩
def Xnw {gl : Nat -> AV} {f : FuncId} {fn : Func} {code : Code} {t : TC} {rs : List RS} {args : List AV} {ax : List (Nat×Bk)} {n : Nat} {r : AV} (hm : P.follows .mixedOrders = true) (hf : P.funcs[f]? = some fn) (hb : fn.body = some code) (fx : (fn.name == "runtime.NumGoroutine") = false)
  (he:Js P fn.ntmps code=some t) (hr:qe P fn.results.toList=some rs) (hN:args.length<=fn.ntmps)
  (h:∀ c:Cx,(∀ q ∈ c.gh,q.1 ∈ List.range 0)->c.gl=gl->xw P c t (SS 0 rs r ax n) ⟨kR 0 args,[],0⟩):GS P gl f args [] 0 r ax n:=by
 refine ⟨⟨fn,hf,by rw[hb];rfl,fx⟩,fun w vs G X g mr hv=>?_⟩;refine calls_of_wp hf hb ?_;have hR:=NZ (N:=fn.ntmps) (gh:=[]) hN mr hv (fun q hq=>by cases hq);have:=zn (c:=⟨fn.ntmps,w,G,X,gl,[]⟩) hm code t _ _ he (h _ (fun q hq=>by cases hq) rfl) _ _ _ hR;refine wp_mono this fun e a' w' hq=>?_
 have fin:∀ (g1:Nat→GM) (s:St),R ⟨fn.ntmps,w,G,X,gl,[]⟩ g1 s.fs a' w'→(Un s.fs rs∧To (List.range 0) ⟨[(0,iE s.fs rs)],s.h,s.n⟩ ⟨[(0,r)],ax,n⟩) →
   a'.defers=[]/\∃ v,(results fn a'.tmps).run P w'=.ok v w'/\(∃ rW g',Ending.returned v=.returned rW/\R ⟨0,w,G,X,gl,[]⟩ g' (dD ax n) ⟨#[],[]⟩ w'/\(∀ b,b<0->g' b=g b)/\VR g' (Qm ⟨0,w,G,X,gl,[]⟩ g' (dD ax n)) w' r rW):=by
  intro g1 s bh ⟨h1,h3⟩;obtain ⟨v,h4,h5⟩:=Iv bh hr h1;refine ⟨bh.ew,v,h4,v,?_⟩;have gE:R ⟨1,w,G,X,gl,[]⟩ g1 (⟨[(0,iE s.fs rs)],s.h,s.n⟩:St).fs ⟨#[v],[]⟩ w':=by
   refine ⟨rfl,rfl,fun i=>?_,bh.gl,bh.h,bh.inj,bh.old,bh.fr,bh.xs,bh.jn⟩;show VR g1 _ w' (look [(0,iE s.fs rs)] i) _;rw[Jn];split
   ·rename_i hi;subst hi;exact h5
   ·exact .any _
  obtain ⟨g2,cp⟩:=h3 _ g1 _ _ (fun q hq=>by cases hq) gE;exact ⟨g2,rfl,⟨rfl,rfl,fun i=>.any _,cp.gl,cp.h,cp.inj,cp.old,cp.fr,cp.xs,fun p hp=>by cases hp⟩,fun b hb=>by omega,cp.t 0⟩
 cases e with
 | normal=>obtain ⟨g,s,bh,db⟩:=hq;exact fin g s bh db
 | ret=>obtain ⟨g,s,bh,db⟩:=hq;exact fin g s bh db
 | exit i=>obtain ⟨g,s,bh,db⟩:=hq;exact db.elim
 | goto l=>exact hq.elim
 | panic ch=>exact hq.elim
 | outgrown=>exact hq.elim
def FT.gsT {gl:Nat->AV}{f:FuncId}{fn:Func}{t:TC}{rs:List RS}(hF:FT P f fn t rs){args:List AV}{ax:List (Nat×Bk)}{n:Nat}{r:AV}(hN:args.length<=fn.ntmps)
  (h:∀ c:Cx,(∀ q ∈ c.gh,q.1 ∈ List.range 0)->c.gl=gl->xw P c t (SS 0 rs r ax n) ⟨kR 0 args,[],0⟩):GS P gl f args [] 0 r ax n:=by
 have hc:=hF.code;cases hb:fn.body with
 | none=>rw[hb]at hc;simp at hc
 | some code =>
  rw[hb]at hc;exact Xnw hF.mixed hF.func hb hF.name hc hF.res hN h
theorem Xgc (m:Nat)(rs:List RS)(r:AV)(ax:List (Nat×Bk))(n:Nat)(s:St):SS m rs r ax n .ret s=(Un s.fs rs/\To (List.range m) ⟨[(0,iE s.fs rs)],s.h,s.n⟩ ⟨[(0,r)],ax,n⟩):=rfl
attribute [go_sem] Xgc
end
def Xsa (l:List Mp)(hn:l.length<=1000000):PS Tryz.prog gl 64 [.isl l.length (bE l)] (.isl l.length (bE l)):=by
 have hl:=Yi l;cases l with
 | nil =>
  refine PS.empty (fun cap=>PS.wk (r:=.nils) ?_ Wk.nils) fun a cap=>?_
  ·refine CU.ps (ap rfl) (by simp[Qe]) fun c hN hg=>?_
   conv in aG _ _=>cbv
   refine Qa ?_;refine Cn ?_ (CY (b:=true) (show tY (.lit (.slice none 0 cap))=some true from rfl)) ?_
   ·exact Qp
   refine Qa ?_;refine Yc ?_;exact Qp
  ·refine CU.ps (ap rfl) (by simp[Qe,ah,bE]) fun c hN hg=>?_
   conv in aG _ _=>cbv
   refine Qa ?_;refine Cn ?_ (CY (b:=false) (show tY (.lit (.slice (some a) 0 cap))=some false from rfl)) ?_
   ·exact Qp
   refine Qa ?_;refine Yc ?_;refine Qa ?_;refine Qj I0 @List.length_nil.{0} ?_;refine Ke ?_;rfl
 | cons x l =>
 have P3:tY (.isl (x::l).length (bE (x::l)))=some false:=rfl;generalize x::l=l at *
 refine CU.ps (ap rfl) (by simp[Qe,PF]) fun c hN hg=>?_
 conv in aG _ _=>cbv
 refine Qa ?_;refine Cn ?_ (CY (b:=false) P3) ?_
 ·exact Qp
 refine Qa ?_;refine Yc ?_;refine Qa ?_;refine Xc I0 ?_;exact Ez @hl
def Xq8 (S:NS)(T:WT)(hS:NJ S)(hT:T.wf):GD Tryz.prog gl 23 [.ptr 67 0] (Qn S T) 70 (List.range 70) (.agg S.tb.enc) (Qn S T):=by
 refine Xtz.gq (ap rfl) (Ub hT) (fun b hb=>List.mem_range.1 hb) fun c bf hg=>?_;subst hg
 conv in aG _ _=>cbv
 have aW:=fun n b hb=>Ko (S:=S) hT n b hb;have cq:=lr S T;have aY:=NS.aU hS.wf;have ea:=NS.fE hS.wf;have aE:=Tb.au hS.wf;have hem:=Tb.bS hS.wf;have oZ:S.tb.enc.take 30=S.tb.enc:=take_of_length_le (by rw[aE];decide);have bw:S.tb.enc.set 29 (.isl S.tb.maps.length (bE S.tb.maps))=S.tb.enc:=by
  rw[<- hem];refine List.ext_getElem av fun j h1 h2=>?_;rw[List.getElem_set];split
  ·rename_i e;subst e;rw[DG (by rw[aE];decide)]
  ·rfl
 have yOa:=uz (Kb.2 hS.gt);have qO:=Xsa c.gl S.tb.maps af;refine Qd @aW ?_;refine Yc ?_;refine Qd (An @aW (An @cq (An @aY (An @ea (An @aE @hem))))) ?_;refine Qj qO (An @aW (An @aE (An @bw @oZ))) ?_;have SU:=ql S.tb.enc;exact ⟨(),To.drop (ex:=[(70,_),(71,_),(71,_),(71,_),(70,_)]) (Qo hT) av aJ (by simp[Qs,Qe,look,aB,Tb.bY,SU])⟩
def bJ (l:List Fl):List AV:=l.flatMap Fl.enc
def rO:(bJ l).length=l.length*10:=by
 induction l with
 | nil=>rfl
 | cons f l ih=>simp only[bJ,List.flatMap_cons,List.length_append]at ih ⊢;rw[ih];simp[Fl.enc,Zj];omega
def Kr (n:Nat)(l:List Fl):ah n (bJ l):=by
 rw[Xw];intro v hv;obtain ⟨f,_,hf⟩:=List.mem_flatMap.1 hv;simp[Fl.enc,Zj]at hf;rcases hf with rfl|rfl|rfl|rfl|rfl|rfl|rfl|rfl|rfl|rfl<;>simp[Qe]
def Xb (ρ:Nat->Nat)(l:List Fl):ay ρ (bJ l)=bJ l:=by
 rw[Zx];exact (List.map_congr_left fun v hv=>Ue (Xw.1 (Kr 0 l) v hv)).trans (map_id _)
def Xyy (f:Fl):bJ l++f.enc=bJ (l++[f]):=by simp[bJ]
def NS.aA (S:NS):List Fl:=S.fl.map (·.2)
def Xoq (S:NS)(T:WT)(hS:NJ S)(hT:T.wf):GD Tryz.prog gl 24 [.ptr 67 0] (Qn S T) 70 (List.range 70) (.isl S.aA.length (bJ S.aA)) (Qn S T):=by
 refine Qtm.gq (ap rfl) (Ub hT) (fun b hb=>List.mem_range.1 hb) fun c bf hg=>?_;subst hg
 conv in aG _ _=>cbv
 have aW:=fun n b hb=>Ko (S:=S) hT n b hb;have cq:=lr S T;have tu:=yi S T;have yk:=yj S T;have aY:=NS.aU hS.wf;have fF:=NS.fF hS.wf;have ke:=NS.ke hS.wf;have fO:=uK S;have eb:=A9 S.fl;have h48:=hS.len;have ib:S.aA.length=S.fl.length:=by simp[NS.aA]
 refine Qd @aW ?_;refine Yc ?_;refine Qd (An @cq (An @aY @ke)) ?_;refine vB 3 10 rfl (by exact Qi @aW) ?_;unfold St.named
 refine Yn (fun k:Nat=>k≤S.fl.length) (fun k=>⟨[(0,.ptr 67 0),(3,.sl 10 70 0 k k),(11,.sl 1 69 0 S.fl.length S.fl.length),(12,.int .i64 S.fl.length),(13,.int .i64 k)],[(70,.cells (bJ (S.aA.take k)))]++Qn S T,71⟩) (fun k=>S.fl.length - k) Qtm.mixed (List.range 70) bf
  ⟨0,Nat.zero_le _,To.fK (by exact Qp) fun b=>rfl⟩ fun k hk=>?_
 refine Qa ?_;refine Qc ?_ ?_<;>intro h2
 ·have bg:k < S.fl.length:=by omega
  have lB:=Qlf S bg;have eM:=rG S.fl[k].1;have fc:=Sa hS.c4 bg (.agg Fl.zero);have hsn:bJ (S.aA.take k)++S.fl[k].2.enc=bJ (S.aA.take (k+1)):=by
   rw[Xyy,List.take_succ];congr 2;simp[NS.aA,bg]
  have lK:(bJ (S.aA.take k)).length=k*10:=by rw[rO,length_take];omega
  generalize S.fl[k]=q at *
  obtain ⟨x,⟨⟨p0,p1,p2,p3,p4⟩,g0,g1,g2,g3,g4⟩⟩:=q;unfold Fl.enc Zj at fc hsn;dsimp only at fc lB eM hsn;refine Qd (An @yk (An @fO (An @lB (An @cq (An @aY @fF))))) ?_;refine Ul nQ (An @tu (An @eb (An @eM (An @fc @aW)))) ?_;refine Yp @aW ?_;refine Yp (An @aW (An @lK @hsn)) ?_;have tB:=Kr 71 (S.aA.take (k+1));have Me:=fun ρ=>Xb ρ (S.aA.take (k+1));refine ⟨k+1,by omega,?_,by omega⟩;generalize bJ (S.aA.take (k+1))=E at *
  refine To.lF (ex:=[(72,_),(70,.dead),(71,_),(70,_)]) (ex':=[(70,.cells E)]) (fun b=>if b=70 then 72 else b) hT ((Qo hT).more (by exact tB)) aJ av av aJ (fun b hb=>aa af) (fun b h h2=>?_) (fun b b' h1 h2 h3 h4 e=>?_) rfl rfl rfl (fun b h1 h2=>?_) ?_
  ·split<;>omega
  ·omega
  ·obtain rfl:b=70:=by omega
   show Bk.cells E=Bk.cells (ay _ E);rw[Me]
  ·simp[Qs,Qe,ah,look,aB,ay]
 ·obtain rfl:k=S.fl.length:=by omega
  have dH:S.aA.take S.fl.length=S.aA:=take_of_length_le (by rw[ib];exact Nat.le_refl _);have aK:((bJ S.aA).drop 0).take (S.fl.length*10)=bJ S.aA:=by rw[List.drop_zero,take_of_length_le (by rw[rO,ib];exact Nat.le_refl _)]
  have SU:=ql (bJ S.aA);have fU:=Kr 70 S.aA;rw[dH];refine Qa ?_;refine ⟨(),(To.gM (b:=70) (i:=0) rfl rfl).trans ?_⟩;rw[aK,ib];exact To.drop (ex:=[(70,.dead),(70,_)]) (Qo hT) av aJ (by simp[Qs,Qe,look,aB,SU,fU])
def To.wkM {b:Nat}{kvs:List (AV×AV)}(hb:Qb s.h s.n b=.az kvs true):To p s ⟨s.t,(b,.az kvs false)::s.h,s.n⟩:=fun c g a w _ hR=>by
 have hH:∀ i,(⟨s.t,(b,.az kvs false)::s.h,s.n⟩:St).fs.H i=if b=i then .az kvs false else s.fs.H i:=fun i=>by
  show Qb ((b,_)::s.h) s.n i=_;rw[Qf];rfl
 refine ⟨g,hR.gQ (fun k v hv=>hv) (fun i h=>?_) fun i=>?_⟩
 ·rw[hH];split
  ·rename_i e;subst e;rw[show s.fs.H b=.az kvs true from hb]at h;generalize g b=m at h ⊢;cases h with
   | az hb hs jm hv hc ha hd=>exact .az hb hs jm hv hc ha (fun h=>by cases h)
  ·exact h
 ·rw[hH];split
  ·rename_i e;subst e;rw[show s.fs.H b=.az kvs true from hb];exact Iff.rfl
  ·exact Iff.rfl
def zT:List AV:=Ql (List.replicate 18 0)++Zp (List.replicate 3 false)++Ql (List.replicate 8 0)
def To.wkC {b:Nat}{A B:List AV}{x y:AV}(hb:Qb s.h s.n b=.cells (A++x::B))(h:Wk x y):To p s ⟨s.t,(b,.cells (A++y::B))::s.h,s.n⟩:=To.XW hb (by simp) fun j hj=>by
 have e:∀ z:AV,(A++z::B).getD j .any=if j<A.length then A.getD j .any else if j=A.length then z else B.getD (j-A.length-1) .any:=fun z=>by
  simp only[List.getD];by_cases h1:j<A.length
  ·rw[am h1,List.getElem?_append_left h1]
  ·rw[aa h1,List.getElem?_append_right af];by_cases h2:j=A.length
   ·subst h2;simp
   ·rw[aa h2,show j-A.length=(j-A.length-1)+1 by omega,List.getElem?_cons_succ];simp
 rw[e,e];split
 ·exact Wk.refl _
 ·split
  ·exact h
  ·exact Wk.refl _
def Ybj (b:Bool):GS Tryz.prog gl 28 [.bool b] [] 0 (.ptr 67 0) (Qn (NS.new b) (Kt 0 (.az [] true))) 70:=by
 have cz:=Xu5 gl 0 aJ;have GI:=Qty 0 aJ;have hT:=GI.wf;refine Ybg.gsT (ap rfl) fun c bf hg=>?_;subst hg
 conv in aG _ _=>cbv
 generalize Kt 0 (.az [] true)=T0 at *
 have iX:=Yk8 hT (σ:=fun b=>b) (m:=67) fun b hb=>hb;refine Qa ?_;refine RZ cz (WT.iA hT) ?_ av ?_
 ·exact Qp
 dsimp only[List.nil_append];have hid:Qq (fun b=>0+b) T0.hb=T0.hb:=by
  have e:(fun b:Nat=>0+b)=id:=by funext b;exact Nat.zero_add b
  rw[e,Wd]
 have FO:=fun n b hb=>WT.qI hT n (b:=b) hb;rw[hid];refine Qa ?_
 (refine zW nQ ?_;(have aQ:=@FO;refine XG ?_;clear aQ;((try with_reducible and_intros);all_goals try first|refine zm ?_|exact CL)))
 refine (To.wkC (b:=68) (A:=zT) (x:=.nils) (y:=.isl 0 []) (B:=[.mp 67,.nils,.int .i64 0,.ptr 0 0,.int .i64 0,.int .i64 4,.int .i64 0,.bool b]) rfl Wk.nils).trans ?_;refine (To.jZ (b:=68) (j:=31) (es:=1) (cs:=zT++.isl 0 []::[.mp 67,.nils,.int .i64 0,.ptr 0 0,.int .i64 0,.int .i64 4,.int .i64 0,.bool b]) rfl rfl ?_).trans ?_
 ·change Qb _ _ _=Bk.free;dsimp only;rw[Qf,aa aJ,Qf,aa aJ,Qf,aa aJ,FO 69 69 aJ];rfl
 refine (To.wkM (b:=67) (kvs:=[]) rfl).trans ?_;refine To.pQ (fun i=>if i=67 then 68 else if i=68 then 67 else i) (Qo hT) (fun i hi=>by simp at hi) (fun i j h1 h2 e=>?_) (fun i hi=>?_) ?_
 ·(repeat' split at e)<;>omega
 ·rcases (by omega:i < 67∨i=67∨i=68∨i=69) with h|rfl|rfl|rfl
  ·have e1:(if i=67 then 68 else if i=68 then 67 else i)=i:=by rw[aa af,aa af]
   have e2:Qb (Qn (NS.new b) T0) 70 i=Qb T0.hb 67 i:=by
    unfold Qn;rw[Qf,aa af,Qf,aa af,Qf,aa af];exact ((WT.iA hT).live h 70).1
   rw[e1,e2,yb (g:=id) (fun j hj=>by rw[aa af,aa af];rfl) (R0 hT h).2,ru];dsimp only;rw[Qf,aa af,Qf,aa af,Qf,aa af,Qf,aa af,Qf,aa af,Qf,aa af];exact ((WT.iA hT).live h _).1
  ·rfl
  ·rfl
  ·rfl
 ·simp[Qs,Qe,look,aB]
def Yjd {hh:List (Nat×Bk)}:Qq (fun b=>0+b) hh=hh:=by
 have e:(fun b:Nat=>0+b)=id:=by funext b;exact Nat.zero_add b
 rw[e,Wd]
def tH:Ac:=⟨0,0,0,[]⟩
noncomputable def Xx (b:Bool)(l:List Ac):Nat->NS
 | 0=>NS.new b
 | i+1=>((Xx b l i).step (l.getD i tH)).2
noncomputable def Hs (b:Bool)(l:List Ac)(i:Nat):Rp:=((Xx b l i).step (l.getD i tH)).1
def Dt (b:Bool)(l:List Ac):∀ i,NK (Xx b l i)
 | 0=>NK.new b
 | i+1=>(Dt b l i).step _
def Ht (l:List Ac):Prop:=∀ a ∈ l,a.frame.length<=140737488351232
def Qtj {l:List Ac}(h:Ht l)(i:Nat):(l.getD i tH).frame.length<=140737488351232:=by
 by_cases hi:i<l.length
 ·simp only[List.getD,List.getElem?_eq_getElem hi,Option.getD_some];exact h _ (List.getElem_mem hi)
 ·simp[List.getD,List.getElem?_eq_none (Nat.le_of_not_lt hi),tH]
def Yb1 (h0:gl 0=.xp (Ql Xy) 0)(b:Bool)(l:List Ac)(hl:Ht l) :
  ∃ Ts:Nat→WT,Ts 0=Kt 0 (.az [] true)∧(∀ i,∃ D,WI (Ts i) (Xx b l i).now D∧D.Perm (Xx b l i).aZ) ∧
   ∀ i,GD Tryz.prog gl 20 [.ptr 67 0,.agg (l.getD i tH).enc] (Qn (Xx b l i) (Ts i)) 70 [67] (.agg (Hs b l i).enc) (Qn (Xx b l (i+1)) (Ts (i+1))):=by
 have step:∀ i (T:{T:WT // ∃ D,WI T (Xx b l i).now D∧D.Perm (Xx b l i).aZ}),∃ T':{T:WT // ∃ D,WI T (Xx b l (i + 1)).now D∧D.Perm (Xx b l (i + 1)).aZ},
   GD Tryz.prog gl 20 [.ptr 67 0,.agg (l.getD i tH).enc] (Qn (Xx b l i) T.1) 70 [67] (.agg (Hs b l i).enc) (Qn (Xx b l (i+1)) T'.1):=fun i ⟨T,D,hW,hP⟩=>by
  obtain ⟨T1,D1,dP,l6,hg⟩:=Ygk gl h0 (Xx b l i) T D (Dt b l i) hW hP (l.getD i tH) (Qtj hl i);exact ⟨⟨T1,D1,dP,l6⟩,hg⟩
 let f:∀ i,{T:WT // ∃ D,WI T (Xx b l i).now D/\D.Perm (Xx b l i).aZ}->{T:WT // ∃ D,WI T (Xx b l (i+1)).now D/\D.Perm (Xx b l (i+1)).aZ}:=fun i T=>Classical.choose (step i T)
 have hf:=fun i T=>Classical.choose_spec (step i T)
 let T0:{T:WT // ∃ D,WI T (Xx b l 0).now D/\D.Perm (Xx b l 0).aZ}:=⟨Kt 0 (.az [] true),[],Qty 0 aJ,List.Perm.refl _⟩
 let g:∀ i,{T:WT // ∃ D,WI T (Xx b l i).now D/\D.Perm (Xx b l i).aZ}:=fun i=>Nat.rec T0 (fun i T=>f i T) i
 exact ⟨fun i=>(g i).1,rfl,fun i=>(g i).2,fun i=>hf i (g i)⟩
def uP (l:List Ac):List AV:=l.flatMap Ac.enc
def Ydb (l:List Ac):(uP l).length=l.length*4:=by
 induction l with
 | nil=>rfl
 | cons f l ih=>simp only[uP,List.flatMap_cons,List.length_append]at ih ⊢;rw[ih];simp[Ac.enc];omega
def Ydf (l:List Ac){i:Nat}(h:i<l.length):((uP l).drop (i*4)).take 4=(l.getD i tH).enc:=by
 induction l generalizing i with
 | nil=>simp at h
 | cons a l ih =>
  cases i with
  | zero=>simp[uP,Ac.enc]
  | succ i =>
   have:=ih (i:=i) (by simpa using h);rw[show (i+1)*4=4+i*4 by omega,<- List.drop_drop];simpa [uP,Ac.enc] using this
def Zb (l:List Ac):Nat:=min l.length 100
def Xr8:jT Tryz.prog 100 73=some (List.replicate 10 (.int .i64)):=by kernel_rfl
theorem Qyg (f:Fl):f.enc.map Yt=(List.replicate 10 (SK.int .i64)).map some:=rfl
def Yar {c:Cx}{ne:Bool}(f:Fl):kS Tryz.prog c (.cA ne 73) [.agg f.enc,.agg f.enc] (.bool (ne != true)) :=
 Ei Xr8 (by kernel_rfl) (by kernel_rfl) (Qyg f) (Qyg f) av
def Du (k:Nat)(h:k<l.length):((bJ l).drop (k*10)).take 10=l[k].enc:=by
 induction l generalizing k with
 | nil=>simp at h
 | cons a l ih =>
  cases k with
  | zero=>simp[bJ,Fl.enc,Zj]
  | succ k =>
   have:=ih k (by simpa using h);rw[show (k+1)*10=10+k*10 by omega,<- List.drop_drop];simpa [bJ,Fl.enc,Zj] using this
def Xkj:jT Tryz.prog 100 27=some [.int .i64,.str,.bool,.str]:=by kernel_rfl
def Yao {c:Cx}{ne:Bool}(r:Rp):kS Tryz.prog c (.cA ne 27) [.agg r.enc,.agg r.enc] (.bool (ne != true)) :=
 Ei Xkj (by kernel_rfl) (by kernel_rfl) rfl rfl av
def up (h:List (Nat×Bk)):List (Nat×Bk):=h.map fun q=>(q.1+70,q.2)
def Xer {ρ:Nat->Nat}{x:Bk}(h:bX 0 x):Qw ρ x=x:=(yb (g:=id) (fun j hj=>by omega) h).trans ru
structure Bo (m:Mp):Prop where
 ae:m.ae=1\/m.ae=6\/m.ae=17
 s:0<=m.s/\m.s<8
 aH:0<=m.aH/\m.aH<=65535
 a:0<=m.a/\m.a<3
 port:1024<=m.port/\m.port<1072
def GT.wK {t:Tb}(h:GT t){m:Mp}(hm:m ∈ t.maps):Bo m:=by
 have SV:=h.maps m hm;obtain ⟨h1,h2,h3⟩:=Ka SV.1.1;exact ⟨h1,h2,h3,SV.1.2.2,(Xoy SV.1.2.1).2.2⟩
end Go.Proofs.YtogckmommodmhaaGreatDoor
namespace Go.Proofs.YtogckmommodmhaaGreatDoor
open Go.RowKit
open Go.RowKit Go.ChangeShapes Go.WideShapes Go.Deep
set_option linter.all false
set_option maxHeartbeats 16000000
set_option maxRecDepth 100000
def sx.isl {W:World}{v:Value}{n sz:Nat}{R:Nat->Nat->Value->Prop}(cE:0<sz)(h:sx W v n sz R)(h1:∀ i j u,R i j u->u.oneCell'=true) :
  ∃ us:Nat->Value,(∀ i,i<n->∀ j,j<sz->R i j (us (i*sz+j)))/\VR (fun _=>.un) (fun _=>False) W (.isl n ((List.range (n*sz)).map fun m=>fM (us m))) v:=by
 obtain ⟨A,cap,rfl,hn,hm,hc⟩:=h.form;rcases Nat.eq_zero_or_pos n with rfl|fa
 ·exact ⟨fun _=>undef,fun i hi=>absurd hi af,.isl (us:=fun _=>undef) hn hm (fun j hj=>by simp at hj) fun j hj=>by simp at hj⟩
 ·obtain ⟨b,o,rfl,hb,eS⟩:=hc fa;have key:∀ i,i<n->∀ j,j<sz->W.cell? ⟨b,o+(i*sz+j),none⟩=some ((W.cell? ⟨b,o+(i*sz+j),none⟩).getD undef)/\R i j ((W.cell? ⟨b,o+(i*sz+j),none⟩).getD undef):=by
   intro i hi j hj;obtain ⟨u,hu,hr⟩:=eS i hi j hj;rw[hu];exact ⟨rfl,hr⟩
  refine ⟨fun m=>(W.cell? ⟨b,o+m,none⟩).getD undef,fun i hi j hj=>(key i hi j hj).2,?_⟩;have at_:∀ m,m<n*sz->W.cell? ⟨b,o+m,none⟩=some ((W.cell? ⟨b,o+m,none⟩).getD undef)/\((W.cell? ⟨b,o+m,none⟩).getD undef).oneCell'=true:=by
   intro m hm;have hd:m/sz<n:=Nat.div_lt_of_lt_mul (by rw[Nat.mul_comm];exact hm);have hr:=Nat.mod_lt m cE;have e:m/sz*sz+m%sz=m:=by rw[Nat.mul_comm];exact Nat.div_add_mod m sz
   have:=key _ hd _ hr;rw[e]at this;exact ⟨this.1,h1 _ _ _ this.2⟩
  refine .isl (us:=fun m=>(W.cell? ⟨b,o+m,none⟩).getD undef) hn hm (fun j hj=>⟨b,o,rfl,?_,id,?_⟩) fun j hj=>?_
  ·simp only[List.length_map,List.length_range]at hj;exact (at_ j hj).1
  ·simp only[List.length_map,List.length_range]at hj;exact (at_ j hj).2
  ·simp only[List.length_map,List.length_range]at hj;have:((List.range (n * sz)).map fun m=>fM ((W.cell? ⟨b,o + m,none⟩).getD undef)).getD j .any=fM ((W.cell? ⟨b,o + j,none⟩).getD undef):=by simp[List.getD,hj]
   rw[this];exact HV _
end Go.Proofs.YtogckmommodmhaaGreatDoor
namespace Go.Proofs.YtogckmommodmhaaGreatDoor
open Go.RowKit
open Go.RowKit Go.ChangeShapes Go.WideShapes
set_option linter.all false
set_option maxHeartbeats 16000000
set_option maxRecDepth 100000
end Go.Proofs.YtogckmommodmhaaGreatDoor
namespace Go.Proofs.YtogckmommodmhaaGreatDoor
open List (range_succ)
open Go.RowKit
open Go.RowKit Go.ChangeShapes Go.WideShapes Go.Deep
set_option linter.all false
set_option maxHeartbeats 16000000
set_option maxRecDepth 100000
def Qz3:((Tryz.prog.fieldsOf 23).toList.map (·.type))=[3,3,3,9]:=by kernel_rfl
def Qsx:Tryz.prog.underlying 23=some (.struct (Tryz.prog.fieldsOf 23)):=by kernel_rfl
def Ybl:(Tryz.prog.fieldsOf 23).size=4:=by kernel_rfl
def Yfw:oneCellFields Tryz.prog (Tryz.prog.fieldsOf 23)=true:=by kernel_rfl
def Xuh:Tryz.prog.cellsOf 23=(Tryz.prog.fieldsOf 23).size:=by kernel_rfl
def Xxb:Tryz.prog.bytesOf 23=40:=by kernel_rfl
def SW {H:Type}(a:Ac)(d:DataW H):Prop:=∃ parts,d=.agg parts/\parts[3]?=some (.lit (.string a.frame))
def Qny {H:Type}{P:Program}{e:TypeId}{d:DataW H}{n:Nat}:∀ {es:List (DataW H)},d ∈ es->n ∈ d.weights P e->n ∈ DataW.weightsAll P e es
 | d0::es,hd,hn=>by
  simp only[DataW.weightsAll,List.mem_append];rcases List.mem_cons.1 hd with rfl|hd
  ·exact .inl hn
  ·exact .inr (Qny hd hn)
def SW.weight {H:Type}{a:Ac}{d:DataW H}(h:SW a d):a.frame.length ∈ d.weights Tryz.prog 23:=by
 obtain ⟨parts,rfl,h3⟩:=h;simp only[DataW.weights,Qsx,Qz3];exact DataW.weights_mem_each (j:=3) rfl h3 _ (by simp[DataW.weights])
variable {j:Nat}
def Xwq {f:Field}(h:(Tryz.prog.fieldsOf 23)[j]?=some f):[3,3,3,9][j]?=some f.type:=by
 rw[<- Qz3,List.getElem?_map,Array.getElem?_toList,h];rfl
section
variable {H:Type}{enc:TypeId×Value->H}{w:World}{base:Nat}{spare:Nat->Bool}{held:Bool}
variable {v:Value}{d:DataW H}
def Ygd (d:DataW H)(i j:Nat)(u:Value):Prop:=∃ es sp parts,d=.slice es sp/\es[i]?=some (.agg parts) /\
 ((j<3/\∃ z,u=.int .i64 z)\/(j=3/\∃ s:ByteArray,u=.string s/\parts[3]?=some (.lit (.string s.data.toList))))
set_option maxRecDepth 100000 in
def Qti {b0:Nat}   {p:List MemPlace}(fZ:Value.okWide Tryz.prog w .any b0 44 v)(h:DataW.Trod enc Tryz.prog w base spare held 44 v d p) :
  ∃ n,(d=.nil/\n=0\/∃ es sp,d=.slice es sp/\es.length=n)/\sx w v n 4 (Ygd d):=by
 obtain ⟨A,len,cap,rfl⟩:=okWide_slice Tryz.underlying44 fZ;obtain ⟨fuel,h⟩:=h;have cE:=Ybl;rcases Qnv Tryz.underlying44 Qsx Yfw Xuh h with ⟨h0,h1⟩|⟨a,y6a,y7a,m,D,Pl,iV,hb,hl,hm,ry,hx,hi⟩
 ·simp[Value.cells]at h0;obtain ⟨rfl,rfl,rfl⟩:=h0;exact ⟨0,.inl ⟨(Prod.mk.inj h1).1,rfl⟩,⟨none,0,rfl,Nat.le_refl _,by unfold maxLen;omega,fun h=>by omega⟩⟩
 ·simp[Value.cells]at iV;obtain ⟨rfl,rfl,rfl⟩:=iV;refine ⟨len,.inr ⟨_,_,(Prod.mk.inj hx).1,by simp⟩,⟨some a,cap,rfl,hl,hm,fun h0=>?_⟩⟩;have hlm:len≤m:=by rw[ry];split<;>omega
  obtain ⟨ab,ao,asp⟩:=a;obtain ⟨ys,n',_,_,_,hf⟩:=hi 0 af;obtain ⟨v0,y0,iK,_,_⟩:=hf 0 _ (Array.getElem?_eq_getElem (by rw[cE];decide));have sT:asp=none:=by
   simp only[Nat.zero_mul,Nat.add_zero,Addr.add,am]at iK;unfold World.cell? at iK;cases asp with
   | none=>rfl
   | some s=>revert iK;cases w.heap[ab]? with
    | none=>simp
    | some o=>cases o<;>simp
  subst sT;refine ⟨ab,ao,rfl,?_,fun i aL j hj=>?_⟩
  ·rcases Nat.lt_or_ge ab w.heap.size with h|h
   ·exact h
   ·simp only[Nat.zero_mul,Nat.add_zero,Addr.add,am]at iK;unfold World.cell? at iK;rw[Array.getElem?_eq_none h]at iK;cases iK
  ·obtain ⟨ys,n',hD,_,Cm,hf⟩:=hi i af;have eJ:j < (Tryz.prog.fieldsOf 23).size:=by rw[cE];exact hj
   obtain ⟨u,y,hc,hy,nu⟩:=hf j _ (Array.getElem?_eq_getElem eJ);rw[Addr.add_mid,cE]at hc;refine ⟨u,hc,_,_,ys.map (·.1),(Prod.mk.inj hx).1,by simp[aL,hD],?_⟩;have ht:=Xwq (Array.getElem?_eq_getElem eJ);generalize (Tryz.prog.fieldsOf 23)[j]=f at ht nu;rcases (by omega:j=0\/j=1\/j=2\/j=3) with rfl|rfl|rfl|rfl
   ·have e:f.type=3:=by simpa using ht.symm
    rw[e]at nu;obtain ⟨z,hz,_⟩:=DataW.trod_int Tryz.underlying3 nu;exact .inl ⟨by decide,z,by simpa using hz⟩
   ·have e:f.type=3:=by simpa using ht.symm
    rw[e]at nu;obtain ⟨z,hz,_⟩:=DataW.trod_int Tryz.underlying3 nu;exact .inl ⟨by decide,z,by simpa using hz⟩
   ·have e:f.type=3:=by simpa using ht.symm
    rw[e]at nu;obtain ⟨z,hz,_⟩:=DataW.trod_int Tryz.underlying3 nu;exact .inl ⟨by decide,z,by simpa using hz⟩
   ·have e:f.type=9:=by simpa using ht.symm
    rw[e]at nu;obtain ⟨s,hz,he,_⟩:=DataW.trod_string Tryz.underlying9 nu;exact .inr ⟨rfl,s,by simpa using hz,by rw[List.getElem?_map,hy,he];rfl⟩
def sx.bm {n:Nat}(h:sx w v n 4 (Ygd d))(hn:d=.nil/\n=0\/∃ es sp,d=.slice es sp/\es.length=n){ts:List TypeId}{ds:List (DataW H)}(cE:(DataW.weightsEach Tryz.prog ts ds).all (·<=reachBytes)=true)  (ht:ts[j]?=some 44)(hd:ds[j]?=some d) :
  ∃ l:List Ac,l.length=n/\Ht l/\l.length*40<=140737488351232/\VR (fun _=>.un) (fun _=>False) w (.isl n (uP l)) v:=by
 obtain ⟨us,hu,hv⟩:=h.isl aJ fun i j u ⟨es,sp,parts,_,_,hr⟩=>by
  rcases hr with ⟨_,z,rfl⟩|⟨_,s,rfl,_⟩<;>rfl
 let gi (v:Value):Int:=match v with|.int _ z=>z|_=>0
 let gs (v:Value):List UInt8:=match v with|.string s=>s.data.toList|_=>[]
 let ac (i:Nat):Ac:=⟨gi (us (i*4+0)),gi (us (i*4+1)),gi (us (i*4+2)),gs (us (i*4+3))⟩
 have heq:∀ k,k<=n->(List.range (k*4)).map (fun m=>fM (us m))=uP ((List.range k).map ac):=fun k=>by
  induction k with
  | zero=>intro _;rfl
  | succ k ih =>
   intro hk;rw[show (k+1)*4=k*4+1+1+1+1 by omega,range_succ,range_succ,range_succ,range_succ,range_succ];simp only[List.map_append,List.map_cons,List.map_nil,List.append_assoc];rw[ih af];simp only[uP,List.flatMap_append,List.flatMap_cons,List.flatMap_nil,List.append_nil,Ac.enc];congr 1;obtain ⟨_,_,_,_,_,h0⟩:=hu k af 0 aJ;obtain ⟨_,_,_,_,_,h1⟩:=hu k af 1 aJ;obtain ⟨_,_,_,_,_,h2⟩:=hu k af 2 aJ;obtain ⟨_,_,_,_,_,h3⟩:=hu k af 3 aJ;obtain ⟨_,z0,e0⟩:=h0.resolve_right av;obtain ⟨_,z1,e1⟩:=h1.resolve_right av;obtain ⟨_,z2,e2⟩:=h2.resolve_right av;obtain ⟨_,s3,e3,_⟩:=h3.resolve_left av;have e0:us (k*4)=_:=e0;have e2:us (k*4+1+1)=_:=e2;have e3:us (k*4+1+1+1)=_:=e3;simp only[ac,gi,gs,e0,e1,e2,e3,fM];rw[show us (k*4+0)=_ from e0];rfl
 refine ⟨(List.range n).map ac,by simp,fun a ha=>?_,?_,?_⟩
 ·obtain ⟨i,hi,rfl⟩:=List.mem_map.1 ha;rw[List.mem_range]at hi;obtain ⟨es,sp,parts,e1,e2,h3⟩:=hu i hi 3 aJ;obtain ⟨_,s3,e3,e4⟩:=h3.resolve_left av;have hf:(ac i).frame=s3.data.toList:=by simp only[ac,gs,e3]
  have hw:(ac i).frame.length ∈ d.weights Tryz.prog 44:=by
   subst e1;simp only[DataW.weights,Tryz.underlying44];refine List.mem_cons_of_mem _ (List.mem_append_left _ (Qny (List.mem_of_getElem? e2) (SW.weight ⟨parts,rfl,?_⟩)));rw[hf];exact e4
  have:=List.all_eq_true.1 cE _ (DataW.weights_mem_each ht hd _ hw);simp only[reachBytes]at this;exact ap this
 ·rcases hn with ⟨_,rfl⟩|⟨es,sp,rfl,rfl⟩
  ·simp
  ·have:=sized_slice cE ht hd Tryz.underlying44;rw[Xxb]at this;simp only[reachBytes]at this;simp;omega
 ·rw[heq n (Nat.le_refl n)]at hv;exact hv
end
end Go.Proofs.YtogckmommodmhaaGreatDoor
namespace Go.Proofs.YtogckmommodmhaaGreatDoor
open Go.RowKit
open Go.RowKit Go.ChangeShapes Go.WideShapes
set_option linter.all false
set_option maxHeartbeats 16000000
set_option maxRecDepth 100000
def PS.law {f:FuncId}{args:List AV}{vs:List Value}{W:World}(h:PS Tryz.prog xk f args (.bool true))(hg:∀ i,VR (fun _=>.un) (fun _=>False) W (xk i) (.pointer (some ⟨i,0,none⟩)))(hv:bT (fun _=>.un) (fun _=>False) W args vs) :
  Calls Tryz.prog f vs.toArray W fun e W'=>e=.returned (.bool true)/\Below W.heap.size W W' :=
 (h.2 W vs (fun _=>False) (fun _ h=>h.elim) hg hv).mono fun e w' ⟨u,e1,e2,e3⟩=>by
  cases e2;exact ⟨e1,⟨e3.os,e3.tape,e3.output,e3.size,fun k hk=>e3.iq k hk fun h=>h.elim⟩⟩
end Go.Proofs.YtogckmommodmhaaGreatDoor
