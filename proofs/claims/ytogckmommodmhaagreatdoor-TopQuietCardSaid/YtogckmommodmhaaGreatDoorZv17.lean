import Derived.Test.YtogckmommodmhaaGreatDoorZv15
import Derived.Test.YtogckmommodmhaaGreatDoorZv5
import Derived.Test.YtogckmommodmhaaGreatDoorZv14
import Derived.Test.YtogckmommodmhaaGreatDoorZv11
import Derived.Test.YtogckmommodmhaaGreatDoorZv8
import Derived.Test.YtogckmommodmhaaGreatDoorZv4
import Derived.Test.YtogckmommodmhaaGreatDoorZv7
import Derived.Test.YtogckmommodmhaaGreatDoorZv2
import Derived.Test.YtogckmommodmhaaGreatDoorZv6
import Derived.Test.YtogckmommodmhaaGreatDoorRows
import Derived.KernelRfl
import Derived.SizedLaws
namespace Go.Proofs.YtogckmommodmhaaGreatDoor
open Go.RowKit
set_option linter.all false
set_option linter.unusedSimpArgs false
set_option maxRecDepth 100000
theorem VO {S:NS} (h:NI S) (es:List Ev):NI (S.log es):=h.ko _
def VP (gl:Nat→AV) (S:NS) (T:WT) (fn:FuncId) (args:List AV) (x:Rp × NS):Prop :=
 ∃ T' D',WI T' x.2.now D'∧D'.Perm x.2.bb∧GD Tryz.prog gl fn args (Qm S T) 70 [67] (.agg x.1.enc) (Qm x.2 T')
theorem Xyg (gl:Nat→AV) (h0:gl 0=.xp (Qp Xo) 0) (S:NS) (T:WT) (D:List Tm) (hS:NI S) (wo:S.b7≤900000) (wq:S.told≤90000) (hW:WI T S.now D) (hD:D.Perm S.bb) (ak an ad:Int) (f:List UInt8) (hf:f.length≤140737488351232) :
  VP gl S T 58 [.ptr 67 0,.agg [.int .i64 ak,.int .i64 an,.int .i64 ad,.str f]] (S.out f ad):=by
 have key:∀ x y,S.mV f ad=(x,y)→∃ T' D' T1,WI T' x.2.now D'∧D'.Perm x.2.bb∧T1.wf∧(y=none→T'=T) ∧
   ∀ m es S1,y=some (m,es,S1)→uX gl S T T1 T' f (aB f) (S.tb.cz (aB f).ae ((aB f).aA - 167772161) (aB f).ah ad).1 m es S1:=by
  intro x y hx
  have stay:∀ r:Rp × NS,r.2.now=S.now→r.2.bb=S.bb→(r,none)=(x,y)→∃ T' D' T1,WI T' x.2.now D'∧D'.Perm x.2.bb∧T1.wf∧(y=none→T'=T) ∧
    ∀ m es S1,y=some (m,es,S1)→uX gl S T T1 T' f (aB f) (S.tb.cz (aB f).ae ((aB f).aA - 167772161) (aB f).ah ad).1 m es S1:=fun r h1 h2 e=>by
   obtain ⟨rfl,rfl⟩:=Prod.mk.inj e
   exact ⟨T,D,T,by rw[h1];exact hW,by rw[h2];exact hD,hW.wf,fun _=>rfl,by simp⟩
  have uY:∀ e,(S.refuse f e).2.now=S.now∧(S.refuse f e).2.bb=S.bb:=fun e=>by
   unfold NS.refuse;split<;>exact ⟨rfl,rfl⟩
  have go:∀ (m:Mp) (es:List Ev) (S1:NS) (T1:WT) (D1:List Tm),NI S1→WI T1 S1.now D1→D1.Perm S1.bb→S1.b7≤1000000→S1.told≤100000→es.length≤64→(∀ e ∈ es,Zo e.t e.s e.a e.b=true∧e.t=(es.headD ⟨0,0,0,0,false⟩).t)→0≤m.a∧m.a < 3 →
    (S.cQ (aB f)≠0→GD Tryz.prog gl 93 [.ptr 67 0,.int .i64 (S.cQ (aB f)),.agg (aB f).enc,.bool false] (Qm S T) 70 [67] (.aU []) (Qm S1 T1)) →
    (S.cQ (aB f)=0→C5 m∧GD Tryz.prog gl 91 [.ptr 67 0,.agg (Fl.enc ⟨m,(aB f).dst,(aB f).aj,pY (aB f).ae,0,0⟩)] (Qm { S with tb:=(S.tb.cz (aB f).ae ((aB f).aA - 167772161) (aB f).ah ad).1 } T) 70 [67] (.aU []) (Qm S1 T1)) →
    (S1.dQ f m es,some (m,es,S1))=(x,y)→∃ T' D' T1,WI T' x.2.now D'∧D'.Perm x.2.bb∧T1.wf∧(y=none→T'=T) ∧
    ∀ m es S1,y=some (m,es,S1)→uX gl S T T1 T' f (aB f) (S.tb.cz (aB f).ae ((aB f).aA - 167772161) (aB f).ah ad).1 m es S1:=by
   intro m es S1 T1 D1 NR dp jF tg D9 hl hg ha h1 h2 e
   obtain ⟨rfl,rfl⟩:=Prod.mk.inj e
   rw[D8]
   by_cases gT:0≤(aB f).dst - 3405803777∧(aB f).dst - 3405803777 < 3
   ·rw[if_pos gT]
    obtain ⟨T3,D3,nk,hP3,hi⟩:=VD gl (S1.log es) T1 D1 (VO NR es) tg dp jF (Zf f 0 (3405803777 + m.a) m.port) (Nat.le_trans (Hu ..) hf)
    refine ⟨T3,D3,T1,nk,hP3,dp.wf,by simp,fun m' es' S' e=>?_⟩
    obtain ⟨rfl,rfl,rfl⟩:m=m'∧es=es'∧S1=S':=by simpa using e
    exact ⟨NR.toNJ,D9,hl,hg,ha,h1,h2,fun _=>hi,fun h=>(h gT).elim⟩
   ·rw[if_neg gT]
    refine ⟨T1,D1,T1,dp,jF,dp.wf,by simp,fun m' es' S' e=>?_⟩
    obtain ⟨rfl,rfl,rfl⟩:m=m'∧es=es'∧S1=S':=by simpa using e
    exact ⟨NR.toNJ,D9,hl,hg,ha,h1,h2,fun h=>(gT h).elim,fun _=>rfl⟩
  unfold NS.mV at hx
  split at hx
  ·exact stay (_,S) rfl rfl hx
  rename_i he
  have he:bY f=0:=Decidable.not_not.1 he
  split at hx
  ·exact stay (_,S) rfl rfl hx
  rename_i hs
  split at hx
  ·exact stay (_,S) rfl rfl hx
  split at hx
  ·exact stay (_,S) rfl rfl hx
  split at hx
  ·rename_i hk
   split at hx
   ·rename_i m hm
    obtain ⟨q,hq,e,_⟩:=D4 (S:=S) (m:=m) (r:=(aB f).dst) (rp:=(aB f).aj) (by unfold NS.cQ at hk;rw[hm]at hk;exact hk)
    have ek:S.cQ (aB f)=q.1:=by unfold NS.cQ;rw[hm];exact e
    rw[ek]at hx
    obtain ⟨T1,D1,dp,jF,hg⟩:=Vq gl S T D hS hW hD q hq (aB f) false
    have hma:=(hS.gt.maps m (List.mem_of_find?_eq_some hm)).1.2.2
    exact go m [] _ T1 D1 (hS.goes q.1 (aB f) false) dp jF (by show S.b7≤_;omega) (by show S.told≤_;omega) av av hma (fun _=>by rw[ek];exact hg) (fun h=>(hk h).elim) hx
   ·exact stay (_,S) rfl rfl hx
  rename_i hk
  have gW:S.cQ (aB f)=0:=Decidable.not_not.1 hk
  split at hx
  ·exact stay (_,S) rfl rfl hx
  split at hx
  ·exact stay _ (uY _).1 (uY _).2 hx
  rename_i hl
  split at hx
  ·exact stay _ (uY _).1 (uY _).2 hx
  rename_i ho
  have ho:=Decidable.not_not.1 ho
  obtain ⟨S0,mU,_,bF,bl,cd,hb⟩:=hS.opened he hs gW af ho
  have hb:=hb (pY (aB f).ae)
  have nZ:=bl.wf hS.wf
  have HA:=bl.bR hS.gt hS.wf bF
  have bI:=(bl.has (by rw[← mU];exact ho)).1
  clear bl cd
  rw[← mU]at hb nZ HA bI
  generalize S.tb.cz (aB f).ae ((aB f).aA - 167772161) (aB f).ah ad=o at *
  obtain ⟨T1,D1,dp,jF,hg⟩:=Vm gl { S with tb:=o.1 } T D (hS.toNJ.nb.rK nZ) (by show S.b7≤_;omega) hW hD (by show S.fl.length < 48;omega) o.2.1 (aB f).dst (aB f).aj (pY (aB f).ae)
  have bf:=Vv (S:={ S with tb:=o.1 }) hS.now HA bI false
  refine go o.2.1 (if o.2.2.1 then [({ S with tb:=o.1 }:NS).ev o.2.1 false] else []) _ T1 D1 hb dp jF (by show S.b7 + 1≤_;omega) (by show S.told≤_;omega) (by split<;>simp) (fun e he=>?_) (HA.maps _ bI).1.2.2 (fun h=>(h gW).elim) (fun _=>⟨(HA.ok nZ).bd _ bI,hg⟩) hx
  split at he
  ·rename_i ht
   rw[if_pos ht]
   obtain rfl:=List.mem_singleton.1 he
   exact ⟨bf,rfl⟩
  ·cases he
 have e2:=Yc3 S f ad
 obtain ⟨x,hx⟩:∃ x,S.mV f ad=x:=⟨_,rfl⟩
 rw[hx]at e2
 obtain ⟨x,y⟩:=x
 obtain ⟨T',D',T1,h1,h2,h3,h4,h5⟩:=key x y hx
 dsimp only at e2
 subst e2
 exact ⟨T',D',h1,h2,Yct gl h0 S T T1 T' D hS hW h3 h1.wf ak an ad f hf _ y hx h4 h5⟩
theorem To.Ea {p:List Nat} {t t':List (Nat × AV)} {ex ex':List (Nat × Bk)} {S:NS} {T:WT} {σ:Nat→Nat} {n k r:Nat} (hT:T.wf) (H':HL (ex'++Qm S T) k) (qya:70≤k) (ki:∀ q ∈ ex',70≤q.1) (hp:∀ b ∈ p,b=67∨b=68) (bU:∀ b b',b < 67→b' < 67→σ b=σ b'→b=b') (hex:∀ q ∈ ex,∀ b,b < 67→σ b≠q.1)
  (hr:r≠67∧r≠68∧(r=69∨k≤r)) (aI:∀ b,b < 67→σ b≠67∧σ b≠68∧σ b≠r∧(σ b < 67∨k≤σ b))
  (nY:Qc (ex++Xc σ T.hb) n 67=.cells (S.tb.enc++S.A3 r (σ 0))) (qa:Qc (ex++Xc σ T.hb) n 68=.aC (fR S.fl) false) (yA:Qc (ex++Xc σ T.hb) n r=.cells (Qp S.keys)) (hl:∀ b,70≤b→b < k→Qc (ex++Xc σ T.hb) n b=Xg (nr σ r) (Qc (ex'++Qm S T) k b)) (ht:Qy (nr σ r) k t t'):To p ⟨t,ex++Xc σ T.hb,n⟩ ⟨t',ex'++Qm S T,k⟩:=by
 have yB:nr σ r 67=67:=rfl
 have uS:nr σ r 68=68:=rfl
 have rQ:nr σ r 69=r:=rfl
 have rV:∀ b,70≤b→nr σ r b=b:=fun b hb=>by unfold nr;rw[if_neg af,if_neg af]
 have km:∀ b,b < 70→Qc (ex'++Qm S T) k b=Qc (Qm S T) 70 b:=fun b hb=>by
  rw[Xn fun q hq e=>by have:=ki q hq;omega]
  exact (Qj hT).lo hb k
 refine To.lY (nr σ r) H' (fun b hb=>?_) (fun b b' hb bL e=>?_) (fun b hb=>?_) ht
 ·rcases hp b hb with rfl|rfl<;>exact ⟨rfl,by omega⟩
 ·rcases (by omega:b < 67∨b=67∨b=68∨b=69∨70≤b) with h|rfl|rfl|rfl|h<;>rcases (by omega:b' < 67∨b'=67∨b'=68∨b'=69∨70≤b') with h'|rfl|rfl|rfl|h'
  ·rw[Kw h,Kw h']at e;exact bU _ _ h h' e
  ·rw[Kw h]at e;exact absurd e (aI _ h).1
  ·rw[Kw h]at e;exact absurd e (aI _ h).2.1
  ·rw[Kw h]at e;exact absurd e (aI _ h).2.2.1
  ·rw[Kw h,rV _ h']at e;have:=(aI _ h).2.2.2;omega
  ·rw[Kw h']at e;exact absurd e.symm (aI _ h').1
  ·rfl
  ·cases e
  ·rw[yB,rQ]at e;omega
  ·rw[yB,rV _ h']at e;omega
  ·rw[Kw h']at e;exact absurd e.symm (aI _ h').2.1
  ·cases e
  ·rfl
  ·rw[uS,rQ]at e;omega
  ·rw[uS,rV _ h']at e;omega
  ·rw[Kw h']at e;exact absurd e.symm (aI _ h').2.2.1
  ·rw[yB,rQ]at e;omega
  ·rw[uS,rQ]at e;omega
  ·rfl
  ·rw[rQ,rV _ h']at e;omega
  ·rw[Kw h',rV _ h]at e;have:=(aI _ h').2.2.2;omega
  ·rw[yB,rV _ h]at e;omega
  ·rw[uS,rV _ h]at e;omega
  ·rw[rQ,rV _ h]at e;omega
  ·rw[rV _ h,rV _ h']at e;exact e
 ·rcases (by omega:b < 67∨b=67∨b=68∨b=69∨70≤b) with h|rfl|rfl|rfl|h
  ·rw[Kw h,UU hT bU hex h,km b af]
   have e:Qc (Qm S T) 70 b=Qc T.hb 67 b:=by
    unfold Qm
    rw[Qd,if_neg af,Qd,if_neg af,Qd,if_neg af]
    exact ((WT.gR hT).live h 70).1
   rw[e]
   exact Ko (n:=67) (fun b hb=>(Kw hb).symm) (Nh hT h).2
  ·rw[yB,nY,km 67 af,Kq]
   show _=Bk.cells (az (nr σ r) S.cells)
   rw[NS.jX,uS,rQ,Kw (by decide:0 < 67)]
   rfl
  ·rw[uS,qa,km 68 af,wi,Vk]
  ·rw[rQ,yA,km 69 af,wj,Vl]
  ·rw[rV b h];exact hl b h hb
theorem Xlz {D D':List Tm} (h:D.Perm D') (n:Nat):bj D n=bj D' n:=by
 unfold bj
 rw[Xah (h.filter _)]
theorem Ya9 {S:NS} (h:S.fl.Pairwise fun p q=>p.1≠q.1):S.bb.Pairwise fun a b=>a.id≠b.id:=by
 unfold NS.bb
 exact List.pairwise_map.2 h
theorem Xfc {D:List Tm} (h:D.Pairwise fun a b=>a.id≠b.id) (n:Nat):(bj D n).Pairwise (·≠·):=by
 unfold bj
 refine List.pairwise_map.2 ?_
 have h1:=h.filter fun t=>decide (t.due < n)
 exact (List.Perm.pairwise_iff (fun {a b} (e:a.id≠b.id)=>e.symm) (Wq _)).2 h1
def NS.cut (S:NS) (k:Int):NS:={ S with fl:=S.fl.filter fun r=>!(r.1 == k) }
noncomputable def NT (S:NS) (es:List Ev) (q:Int × Fl):NS × List Ev :=
 if ((S.cut q.1).fl.any fun r=>decide (r.2.map=q.2.map)) then (S.cut q.1,es) else
 ({ S.cut q.1 with tb:=(S.tb.cls q.2.map).1 },if (S.tb.cls q.2.map).2.1 then es++[(S.cut q.1).ev q.2.map true] else es)
theorem Xqu {S:NS} (hd:S.fl.Pairwise fun p q=>p.1≠q.1) {q:Int × Fl} (hq:q ∈ S.fl) (es:List Ev):cj (S,es) q.1=NT S es q:=by
 have hf:S.fl.find? (fun r=>r.1 == q.1)=some q:=by
  cases hx:S.fl.find? (fun r=>r.1 == q.1) with
  | none=>have:=List.find?_eq_none.1 hx q hq;simp at this
  | some r =>
   have h1:=List.find?_some hx
   rw[DW hd (List.mem_of_find?_eq_some hx) hq (by simpa using h1)]
 unfold cj NT NS.cut
 dsimp only
 rw[hf]
theorem Ybz {S:NS} (h:NJ S) (k:Int):NB (S.cut k) :=
 ⟨h.wf,fun q hq=>h.ids q (List.mem_filter.1 hq).1,h.dP.sublist List.filter_sublist,h.now,h.lJ⟩
theorem Xv4 (S:NS) (k:Int):(S.cut k).keys=dY k S.keys:=by
 unfold NS.keys NS.cut dY
 dsimp only
 rw[List.filter_map]
 rfl
noncomputable def NS.j0 (S:NS) (d:Int) (i:Nat):NS × List Ev:=((S.ended d).take i).foldl cj (S.later d,[])
theorem VQ (S:NS) (d:Int) (i:Nat) (h:i < (S.ended d).length):S.j0 d (i + 1)=cj (S.j0 d i) (S.ended d)[i]:=by
 unfold NS.j0
 rw[List.take_succ,List.getElem?_eq_getElem h,List.foldl_append]
 rfl
theorem NU {S:NS} (h:NI S) {d:Int} (hd:¬ (d < 1∨549755813888 - S.now < d)) (i:Nat):lK (S.later d) (S.j0 d i).1 ((S.ended d).take i) (S.j0 d i).2:=by
 obtain ⟨es,e,hE⟩:=Nz (h.later hd) ((S.ended d).take i)
 unfold NS.j0
 rw[e];exact hE
theorem Xxl {S:NS} (h:NI S) {d:Int} (hd:¬ (d < 1∨549755813888 - S.now < d)) {i:Nat} (hi:i < (S.ended d).length):∃ q ∈ (S.j0 d i).1.fl,q.1=(S.ended d)[i]:=by
 have hE:=NU h hd i
 obtain ⟨t,ht,_,e⟩:=DZ.1 (List.getElem_mem hi:(S.ended d)[i] ∈ bj S.bb (S.now + d.toNat + 1))
 obtain ⟨q,hq,rfl⟩:=List.mem_map.1 ht
 refine ⟨q,?_,e⟩
 rw[hE.fl]
 refine List.mem_filter.2 ⟨hq,?_⟩
 have oG:(S.ended d).Pairwise (·≠·):=Xfc (Ya9 h.dP) _
 have:q.1 ∉ (S.ended d).take i:=fun hm=>by
  obtain ⟨j,hj,ej⟩:=List.getElem_of_mem hm
  rw[List.length_take]at hj
  rw[List.getElem_take]at ej
  have:=(List.pairwise_iff_getElem.1 oG) j i af hi af
  exact this (ej.trans e)
 rw[List.contains_eq_mem]
 simpa using this
theorem Xv6 {l:List (Int × Fl)} (hd:l.Pairwise fun p q=>p.1≠q.1) {q:Int × Fl} (hq:q ∈ l):ud (fR l) (.int .i64 q.1)=fR (l.filter fun r=>!(r.1 == q.1)):=by
 obtain ⟨i,hi,rfl⟩:=List.getElem_of_mem hq
 unfold ud
 rw[Ho,Nr hd hi]
 dsimp only
 have hs:l=l.take i++l[i]::l.drop (i + 1):=by rw[← List.drop_eq_getElem_cons hi,List.take_append_drop]
 have iT:=List.pairwise_iff_getElem.1 hd
 have hA:(l.take i).filter (fun r=>!(r.1 == l[i].1))=l.take i:=List.filter_eq_self.2 fun r hr=>by
  obtain ⟨j,hj,rfl⟩:=List.getElem_of_mem hr
  rw[List.length_take]at hj
  rw[List.getElem_take]
  simpa using iT j i af hi af
 have hB:(l.drop (i + 1)).filter (fun r=>!(r.1 == l[i].1))=l.drop (i + 1):=List.filter_eq_self.2 fun r hr=>by
  obtain ⟨j,hj,rfl⟩:=List.getElem_of_mem hr
  rw[List.length_drop]at hj
  rw[List.getElem_drop]
  simpa using (iT i (i + 1 + j) hi af af).symm
 have hf:(l.filter fun r=>!(r.1 == l[i].1))=l.take i++l.drop (i + 1):=by
  generalize hx:l[i]=x at *
  conv=>lhs;rw[hs]
  rw[List.filter_append,List.filter_cons,if_neg av,hA,hB]
 rw[hf,List.eraseIdx_eq_take_drop_succ]
 unfold fR
 rw[List.map_append,List.map_take,List.map_drop]
theorem To.jG {p:List Nat} {t t':List (Nat × AV)} {ex ex':List (Nat × Bk)} {S S':NS} {T:WT} {n k:Nat} (ρ:Nat→Nat) (hT:T.wf) (H':HL (ex'++Qm S' T) k) (hk:70≤k) (ki:∀ q ∈ ex',70≤q.1) (hex:∀ q ∈ ex,67≤q.1) (hp:∀ b ∈ p,b < 70) (hρ:∀ b,b < 70→ρ b=b) (hρ2:∀ b,70≤b→b < k→70≤ρ b) (bU:∀ b b',70≤b→b < k→70≤b'→b' < k→ρ b=ρ b'→b=b')
  (nY:Qc (ex++Qm S T) n 67=.cells S'.cells) (qa:Qc (ex++Qm S T) n 68=.aC (fR S'.fl) false) (yA:Qc (ex++Qm S T) n 69=.cells (Qp S'.keys)) (hl:∀ b,70≤b→b < k→Qc (ex++Qm S T) n (ρ b)=Xg ρ (Qc (ex'++Qm S' T) k b)) (ht:Qy ρ k t t'):To p ⟨t,ex++Qm S T,n⟩ ⟨t',ex'++Qm S' T,k⟩:=by
 have km:∀ b,b < 70→Qc (ex'++Qm S' T) k b=Qc (Qm S' T) 70 b:=fun b hb=>by
  rw[Xn fun q hq e=>by have:=ki q hq;omega]
  exact (Qj hT).lo hb k
 refine To.lY ρ H' (fun b hb=>⟨hρ b (hp b hb),by have:=hp b hb;omega⟩) (fun b b' hb bL e=>?_) (fun b hb=>?_) ht
 ·by_cases h1:b < 70<;>by_cases h2:b' < 70
  ·rw[hρ b h1,hρ b' h2]at e;exact e
  ·rw[hρ b h1]at e;have:=hρ2 b' af bL;omega
  ·rw[hρ b' h2]at e;have:=hρ2 b af hb;omega
  ·exact bU b b' af hb af bL e
 ·by_cases h1:b < 70
  ·rw[hρ b h1,km b h1]
   have NV:Xg ρ (Qc (Qm S' T) 70 b)=Qc (Qm S' T) 70 b:=by
    rw[Ko (g:=id) (fun b hb=>hρ b hb) ((Qj hT).nm h1),Wg]
   rw[NV]
   rcases (by omega:b < 67∨b=67∨b=68∨b=69) with h|rfl|rfl|rfl
   ·rw[Xn fun q hq e=>by have:=hex q hq;omega]
    have e:∀ (X:NS) (m:Nat),Qc (Qm X T) m b=Qc T.hb 67 b:=fun X m=>by
     unfold Qm
     rw[Qd,if_neg af,Qd,if_neg af,Qd,if_neg af]
     exact ((WT.gR hT).live h m).1
    rw[e,e]
   ·exact nY
   ·exact qa
   ·exact yA
  ·exact hl b af hb
theorem Xkx {S:NS} (h:S.tb.wf) (k:Int):(S.cut k).cells=S.cells.set 31 (.sl 1 69 0 (S.cut k).fl.length (S.cut k).fl.length):=by
 rw[NS.dt h 1];rfl
theorem Xt0 (a b:List Ev):Yr a++Yr b=Yr (a++b):=by simp[Yr]
def bM (S:NS) (m:Mp) (x:Int):Bool:=S.fl.any fun q=>q.1 == x && decide (q.2.map=m)
theorem NW {S:NS} (hd:S.fl.Pairwise fun p q=>p.1≠q.1) {q:Int × Fl} (hq:q ∈ S.fl) (m:Mp):bM S m q.1=decide (q.2.map=m):=by
 unfold bM
 rw[Bool.eq_iff_iff,List.any_eq_true]
 constructor
 ·rintro ⟨x,hx,h⟩
  rw[Bool.and_eq_true,beq_iff_eq]at h
  rw[← DW hd hx hq h.1];exact h.2
 ·intro h
  exact ⟨q,hq,by rw[h];simp⟩
theorem Ycp {S:NS} (hd:S.fl.Pairwise fun p q=>p.1≠q.1) (m:Mp):S.keys.any (bM S m)=S.fl.any fun q=>decide (q.2.map=m):=by
 unfold NS.keys
 rw[List.any_map,Bool.eq_iff_iff,List.any_eq_true,List.any_eq_true]
 constructor<;>rintro ⟨q,hq,h⟩
 ·exact ⟨q,hq,by rw[← NW hd hq];exact h⟩
 ·exact ⟨q,hq,by show bM S m q.1=true;rw[NW hd hq];exact h⟩
set_option maxHeartbeats 8000000 in
theorem Xlj (gl:Nat→AV) (S:NS) (T:WT) (D:List Tm) (hS:NI S) (hW:WI T S.now D) (d:Int) (hd:d < 1∨549755813888 - S.now < d):GD Tryz.prog gl 60 [.ptr 67 0,.int .i64 d] (Qm S T) 70 [67] (.agg (bS 2).enc) (Qm S T):=by
 have hT:=hW.wf
 refine Nq.gq (of_decide_eq_true rfl) (Zx hT) av fun c a7 hg=>?_
 subst hg
 conv in aQ _ _=>cbv
 obtain ⟨Z1,qc,sy⟩:∃ Z:Int,(549755813888:Int)=Z∧0≤Z∧Z≤549755813888:=⟨_,rfl,by decide,by decide⟩
 rw[qc]
 have aM:=fun n b hb=>Yp (S:=S) hT n b hb
 have bH:=Kq S T
 have aX:=NS.aS hS.wf
 have gZ:=NS.gZ hS.wf
 have dO:=hW.fJ c.gl
 have VS:=hS.now
 refine Qh (An @aM (An @bH (An @aX @gZ))) ?_
 refine Nw (ex:=[(71,_),(70,_),(67,_),(68,_),(69,_)]) dO hT aP av (by exact Qu (An @aX @gZ)) (by simp[Qe]) ?_
 refine Qg ?_
 (refine Qa (fun h1=>?_) (fun h1=>?_)<;>try exact h1.elim)
 rotate_left
 ·omega
 unfold bS Rp.enc
 refine Qh @aM ?_
 exact ⟨(),To.drop (ex:=[(71,_),(71,_),(70,_)]) (Qj hT) av av (by simp[Qy,Qe,ai,look,aE,az])⟩
set_option maxHeartbeats 8000000 in
theorem Xs6 (gl:Nat→AV) (h0:gl 0=.xp (Qp Xo) 0) (S:NS) (T:WT) (D:List Tm) (hS:NI S) (wq:S.told≤90000) (hW:WI T S.now D) (hD:D.Perm S.bb) (d:Int) (hd:¬ (d < 1∨549755813888 - S.now < d)):∃ T' D',WI T' (S.tick d).2.now D'∧D'.Perm (S.tick d).2.bb∧GD Tryz.prog gl 60 [.ptr 67 0,.int .i64 d] (Qm S T) 70 [67] (.agg (S.tick d).1.enc) (Qm (S.tick d).2 T'):=by
 have hT:=hW.wf
 have VS:=hS.now
 obtain ⟨dn,rfl⟩:∃ k:Nat,d=k:=⟨d.toNat,by omega⟩
 obtain ⟨T',ll,yH⟩:=hW.yu gl (S.now + dn)
 have hR:v7 S.now D (S.now + dn)=(0,S.ended dn,S.now + dn,D.filter fun t=>decide (S.now + dn < t.due)):=by
  unfold v7 NS.ended
  rw[if_neg af,Xlz hD]
  have:((S.now:Int) + dn).toNat=S.now + dn:=by omega
  rw[this,Int.toNat_natCast]
 rw[hR]at ll yH
 dsimp only at ll yH
 have eW:=ll.wf
 rw[A7,if_neg hd]
 have Eb:=(hS.rS hd).choose_spec.2.1
 refine ⟨T',D.filter fun t=>decide (S.now + dn < t.due),?_,?_,?_⟩
 ·show WI T' (List.foldl cj (S.later dn,[]) (S.ended dn)).1.now _
  rw[Eb.now];exact ll
 ·refine (hD.filter _).trans (List.Perm.of_eq ?_)
  show _=NS.bb (List.foldl cj (S.later dn,[]) (S.ended dn)).1
  unfold NS.bb
  rw[Eb.fl,List.filter_map]
  show List.map _ (S.fl.filter _)=List.map _ (S.fl.filter _)
  congr 1
  refine List.filter_congr fun q hq=>?_
  show decide (S.now + dn < q.2.due.toNat)=!((S.ended dn).contains q.1)
  rw[List.contains_eq_mem,← decide_not,decide_eq_decide]
  constructor
  ·intro hlt hm
   obtain ⟨t,ht,h1,h2⟩:=DZ.1 hm
   obtain ⟨r,hr,rfl⟩:=List.mem_map.1 ht
   rw[DW hS.dP hr hq h2]at h1
   simp only[Int.toNat_natCast]at h1
   omega
  ·intro hm
   refine Nat.lt_of_not_le fun hle=>hm (DZ.2 ⟨⟨q.1,q.2.due.toNat⟩,List.mem_map.2 ⟨q,hq,rfl⟩,?_,rfl⟩)
   show q.2.due.toNat < S.now + (dn:Int).toNat + 1
   rw[Int.toNat_natCast];omega
 refine Nq.gq (of_decide_eq_true rfl) (Zx hT) av fun c a7 hg=>?_
 subst hg
 conv in aQ _ _=>cbv
 obtain ⟨Z1,qc,sy⟩:∃ Z:Int,(549755813888:Int)=Z∧0≤Z∧Z≤549755813888:=⟨_,rfl,by decide,by decide⟩
 rw[qc]
 have aM:=fun n b hb=>Yp (S:=S) hT n b hb
 have bH:=Kq S T
 have aX:=NS.aS hS.wf
 have gZ:=NS.gZ hS.wf
 have uQ:=NS.uQ hS.wf
 have dO:=hW.fJ c.gl
 have hr4:=hS.ref
 obtain ⟨v,hv⟩:∃ v:Nat,v=min 4 (S.ref + min dn 4):=⟨_,rfl⟩
 obtain ⟨m1,nI⟩:∃ m1:Nat,m1=min dn 4:=⟨_,rfl⟩
 have Ec:∀ d1:Decidable ((4:Int) < (dn:Int)),@ite Int ((4:Int) < (dn:Int)) d1 4 dn=m1:=fun d1=>by split<;>omega
 have Ed:∀ d1:Decidable ((S.ref:Int) + m1 < 4),@ite Int ((S.ref:Int) + m1 < 4) d1 (S.ref + m1) 4=v:=fun d1=>by split<;>omega
 have NY:S.later dn={ S with now:=S.now + dn,ref:=v }:=by unfold NS.later;rw[hv,Int.toNat_natCast]
 have DV:S.cells.set 35 (.int .i64 v)=(S.later dn).cells:=by rw[NY,NS.DV hS.wf];rfl
 have NZ:(S.later dn).cells.length=38:=NS.aS (S:=S.later dn) hS.wf
 have VT:(S.later dn).cells.getD 33 .any=.ptr 0 0:=NS.gZ (S:=S.later dn) hS.wf
 refine Qh (An @aM (An @bH (An @aX @gZ))) ?_
 refine Nw (ex:=[(71,_),(70,_),(67,_),(68,_),(69,_)]) dO hT aP av (by exact Qu (An @aX @gZ)) (by simp[Qe]) ?_
 refine Qg ?_
 (refine Qa (fun h1=>?_) (fun h1=>?_)<;>try exact h1.elim)
 ·omega
 refine Qh (An @aX @uQ) ?_
 erw [Ec,Ed,DV]
 refine Qh (An @NZ @VT) ?_
 have H2:HL ([(71,.cells [.int .i64 0,.str [],.bool false,.str []]),(70,.cells [.ptr 67 0])]++Qm (S.later dn) T') 72:=((Qj eW).more (by simp[bJ,ai,Qe])).more (by simp[bJ,ai,Qe])
 refine pZ (v:=false) (pp:=[67]) (ex:=[(67,_),(71,_),(70,_),(67,_),(68,_),(69,_)]) (s3:=⟨[(2,.ptr 70 0),(4,.ptr 71 0),(48,.aU [.isl (S.ended dn).length (Qp (S.ended dn)),.int .i64 0])],[(71,.cells [.int .i64 0,.str [],.bool false,.str []]),(70,.cells [.ptr 67 0])]++Qm (S.later dn) T',72⟩) a7 yH (WT.gR hT) (WT.gR eW) (by simp[Qe,ai,pW]) aP aP av rfl ?_ ?_ ?_
 ·exact Qu @Ya
 ·rw[Nj (by simp[Qe,ai,pW])]
  refine To.Ea (k:=72) (r:=69) eW H2 aP av av (fun b b' h h' e=>Ni aP h h' e) ?_ aP ?_ ?_ rfl rfl (fun b h1 h2=>?_) ?_
  ·intro q hq b hb e
   have h1:gK 139 b < 2∨141≤gK 139 b:=by unfold gK;split<;>omega
   simp at hq
   rcases hq with rfl|rfl|rfl|rfl|rfl|rfl<;>dsimp only at e<;>omega
  ·intro b hb
   have h1:gK 139 b < 2∨141≤gK 139 b:=by unfold gK;split<;>omega
   omega
  ·rfl
  ·rcases (by omega:b=70∨b=71) with rfl|rfl<;>rfl
  ·have uZ:az (nr (gK 139) 69) (Qp (S.ended dn))=Qp (S.ended dn):=zF _ _
   simp[Qy,Qe,ai,look,aE,az,pW,nr,uZ]
 clear DV Ec Ed VT
 have hEl:=Yj (S.ended dn)
 have qMa:(S.ended dn).length≤48:=Nat.le_trans (Vy _ _) (by unfold NS.bb;rw[List.length_map];exact hS.len)
 refine Qg ?_
 have Tz:=fun n b hb=>Yp (S:=S.later dn) eW n b hb
 refine xe 8 5 rfl (by exact Qu @Tz) ?_
 unfold St.named
 refine Yk (fun i:Nat=>i≤(S.ended dn).length) (fun i=>⟨[(2,.ptr 70 0),(4,.ptr 71 0),(8,.sl 5 72 0 (S.j0 dn i).2.length (S.j0 dn i).2.length),(51,.isl (S.ended dn).length (Qp (S.ended dn))),(52,.int .i64 (S.ended dn).length),(53,.int .i64 i)],[(72,.cells (Yr (S.j0 dn i).2)),(71,.cells [.int .i64 0,.str [],.bool false,.str []]),(70,.cells [.ptr 67 0])]++Qm (S.j0 dn i).1 T',73⟩) (fun i=>(S.ended dn).length - i) Nq.mixed [67] a7
  ⟨0,Nat.zero_le _,To.dH (by (refine XG ?_;((try (repeat' with_reducible refine And.intro ?_ ?_));(try any_goals (first|refine zm ?_|exact CL|fail))));all_goals rfl) fun b=>rfl⟩ fun i hi=>?_
 have hE:=NU hS hd i
 have dD:=VQ S dn i
 have bI:=Xxl hS hd (i:=i)
 have hlen:(S.j0 dn i).2.length≤48:=Nat.le_trans hE.len (by rw[List.length_take];omega)
 have rW:i=(S.ended dn).length→(S.j0 dn i)=(S.ended dn).foldl cj (S.later dn,[]):=fun e=>by unfold NS.j0;rw[e,List.take_length]
 generalize hx:S.j0 dn i=x at *
 obtain ⟨Si,es⟩:=x
 dsimp only at hE bI hlen dD ⊢
 have aM:=fun n b hb=>Yp (S:=Si) eW n b hb
 have bH:=Kq Si T'
 have rO:=wi Si T'
 have wm:=wj Si T'
 have aX:=NS.aS hE.nj.wf
 have fa:=NS.fa hE.nj.wf
 have jE:=NS.jE hE.nj.wf
 have dK:=yy Si.fl
 have iM:=DU Si
 refine Qg ?_
 (refine Qa (fun h2=>?_) (fun h2=>?_)<;>try exact h2.elim)
 ·have aI:i < (S.ended dn).length:=by omega
  have kn:=AZ (S.ended dn) i aI
  have dD:=dD aI
  obtain ⟨q,hq,Mu⟩:=bI aI
  rw[← Mu]at kn dD
  rw[Xqu hE.nj.dP hq]at dD
  have dI:=pU q.1
  have dT:=Hq hE.nj.dP hq (.agg Fl.zero)
  have hqm:=hE.nj.gt.maps _ (hE.nj.kj q hq)
  have VU:=hE.nj.ok.bd _ (hE.nj.kj q hq)
  obtain ⟨k,⟨mp,ms,mi,ma,mt⟩,g0,g1,g2,g3,g4⟩:=q
  unfold Fl.enc Wf at dT
  dsimp only at dT kn dI hqm VU dD
  refine Qh (An @kn (An @aM (An @bH (An @aX @fa)))) ?_
  ((first|refine nv Wj ?_|refine Ud Wj ?_);(have au:=@rO;have aH:=@dK;have aV:=@dI;have bD:=@dT;have cC:=@aM;have dE:=@bH;have fe:=@aX;have jh:=@fa;refine XG ?_;clear au aH aV bD cC dE fe jh;((try (repeat' with_reducible refine And.intro ?_ ?_));(try any_goals (first|refine zm ?_|exact CL|fail)))))
  refine Qh (An @bH (An @aX @fa)) ?_
  have yd:=Xv6 hE.nj.dP hq
  dsimp only at yd
  have Ee:Si.keys.length=Si.fl.length:=by simp[NS.keys]
  have MW:=hE.nj.len
  have oR:=Xyv c.gl Si.keys af k
  rw[Ee]at oR
  have f31:(Si.cells.set 31 (.sl 1 69 0 (dY k Si.keys).length Si.fl.length)).getD 31 .any=.sl 1 69 0 (dY k Si.keys).length Si.fl.length:=by rw[wX (by rw[aX];decide),if_pos rfl]
  ((first|refine F2 Wj ?_|refine F3 Wj ?_);(have au:=@rO;have aH:=@dK;have aV:=@dI;have bD:=@yd;have cC:=@bH;have dE:=@aX;have fe:=@jE;refine XG ?_;clear au aH aV bD cC dE fe;((try (repeat' with_reducible refine And.intro ?_ ?_));(try any_goals (first|refine zm ?_|exact CL|fail)))))
  ((first|refine Qx (ins:=[69,73]) oR ?_ ?_|refine Qt (ins:=[69,73]) oR ?_ ?_|refine Qs (ins:=[69,73]) oR ?_ ?_|refine Qq (ins:=[69,73]) oR ?_ ?_)<;>(have au:=@wm;have aH:=@aM;have aV:=@bH;have bD:=@aX;have cC:=@jE;have dE:=@f31;refine XG ?_;clear au aH aV bD cC dE;(try first|exact rfl|exact True.intro);((try (repeat' with_reducible refine And.intro ?_ ?_));(try any_goals (first|refine zm ?_|exact CL|fail)))))
  ·decide
  have cW:=Xv4 Si k
  have oY:(dY k Si.keys).length=(Si.cut k).fl.length:=by rw[← cW];simp[NS.keys]
  have vf:=Xkx hE.nj.wf k
  rw[oY]
  rw[← cW]
  have jP:(Si.cut k).fl.length≤Si.fl.length:=List.length_filter_le _ _
  have rU:∀ n,ai n (Yr es):=fun n=>Up n es
  have Hz:∀ ρ,az ρ (Yr es)=Yr es:=fun ρ=>by
   rw[Yu]
   exact (List.map_congr_left fun v hv=>ti (Xv.1 (rU 0) v hv)).trans (List.map_id _)
  have H5:HL ([(74,.cells [.int .i64 mp,.int .i64 ms,.int .i64 mi,.int .i64 ma,.int .i64 mt]),(73,.cells [.int .i64 k]),(72,.cells (Yr es)),(71,.cells [.int .i64 0,.str [],.bool false,.str []]),(70,.cells [.ptr 67 0])]++Qm (Si.cut k) T') 75:=((((D2 eW).more (by simp[bJ,ai,Qe])).more (by exact rU _)).more (by simp[bJ,ai,Qe])).more (by simp[bJ,ai,Qe])
  refine pJ (p:=[67]) a7 (To.R3 81 (y:=.sl 1 69 0 (Si.cut k).fl.length (Si.cut k).fl.length) (Wk.cap 1 69 0 _ _)) ?_
  refine pJ (p:=[67]) a7 (To.R4 (b:=67) (cs:=Si.cells.set 31 (.sl 1 69 0 (Si.cut k).fl.length Si.fl.length)) (cs':=(Si.cut k).cells) rfl (by rw[vf];simp) fun j hj=>?_) ?_
  ·rw[vf]
   rw[List.length_set]at hj
   by_cases e:31=j
   ·subst e
    rw[wX (by rw[aX];decide),wX (by rw[aX];decide),if_pos rfl,if_pos rfl]
    exact Wk.cap 1 69 0 _ _
   ·rw[wX (by rw[aX];decide),wX (by rw[aX];decide),if_neg e,if_neg e]
    exact Wk.refl _
  refine pJ (p:=[67]) (s':=⟨[(2,.ptr 70 0),(4,.ptr 71 0),(8,.sl 5 72 0 es.length es.length),(11,.ptr 74 0),(51,.isl (S.ended dn).length (Qp (S.ended dn))),(52,.int .i64 (S.ended dn).length),(53,.int .i64 i),(81,.sl 1 69 0 (Si.cut k).fl.length (Si.cut k).fl.length),(82,.cl 101 [.ptr 70 0,.ptr 74 0])],[(74,.cells [.int .i64 mp,.int .i64 ms,.int .i64 mi,.int .i64 ma,.int .i64 mt]),(73,.cells [.int .i64 k]),(72,.cells (Yr es)),(71,.cells [.int .i64 0,.str [],.bool false,.str []]),(70,.cells [.ptr 67 0])]++Qm (Si.cut k) T',75⟩) a7 ?_ ?_
  ·refine To.jG (ex:=[(67,_),(67,_),(73,_),(69,_),(68,_),(74,_),(74,_),(73,_),(73,_),(72,_),(71,_),(70,_)]) id eW H5 aP av av av (fun _ _=>rfl) (fun b h _=>h) (fun b b' _ _ _ _ e=>e) rfl rfl rfl (fun b h1 h2=>?_) ?_
   ·rw[Wg]
    rcases (by omega:b=70∨b=71∨b=72∨b=73∨b=74) with rfl|rfl|rfl|rfl|rfl<;>rfl
   ·have uZ:=Jy (Qp (S.ended dn))
    simp[Qy,Qe,ai,look,aE,az,pW,uZ]
  have pw:=Ybz hE.nj k
  have rT:=Vt c.gl (l:=(Si.cut k).keys) (kb:=69) (f:=101) (caps:=[.ptr 70 0,.ptr 74 0]) (b:=bM (Si.cut k) ⟨mp,ms,mi,ma,mt⟩) H5 (by rw[cW,oY];omega) aP (fun n=>rfl) (by simp[ai,Qe]) (fun x hx=>by
   obtain ⟨q,hq,rfl⟩:=List.mem_map.1 hx
   rw[NW pw.dP hq]
   exact Xox c.gl pw H5 (fun n=>rfl) (fun n=>rfl) (fun n=>rfl) (fun n=>rfl) hq)
  rw[Ycp pw.dP,cW,oY]at rT
  refine nX (v:=false) (ex:=[]) rT H5 H5 (by simp[Qe]) aP av rfl ?_ ?_
  ·exact Qu @Ya
  unfold NT at dD
  dsimp only at dD
  cases pg:(Si.cut k).fl.any (fun q=>decide (q.2.map=⟨mp,ms,mi,ma,mt⟩)) with
  | true =>
   rw[pg,if_pos rfl]at dD
   refine Qg ?_
   (refine Qa (fun h3=>?_) (fun h3=>?_)<;>try exact h3.elim)
   refine Qg ?_
   refine ⟨i + 1,by omega,?_,by omega⟩
   rw[dD]
   have H3:HL ([(72,.cells (Yr es)),(71,.cells [.int .i64 0,.str [],.bool false,.str []]),(70,.cells [.ptr 67 0])]++Qm (Si.cut k) T') 73:=((D2 eW).more (by simp[bJ,ai,Qe])).more (by exact rU _)
   refine To.drop (ex:=[(74,_),(73,_)]) H3 av av ?_
   have uZ:=Jy (Qp (S.ended dn))
   simp[Qy,Qe,ai,look,aE,az,pW,uZ]
  | false =>
   rw[pg,if_neg av]at dD
   have hC:=Xlg c.gl Si.tb hE.nj.ok ⟨mp,ms,mi,ma,mt⟩
   obtain ⟨_,_,_,vu,fG,_,_⟩:=hE.nj.gt.cls hE.nj.wf (hE.nj.kj _ hq)
   dsimp only at vu fG
   unfold lV Mp.enc at hC
   dsimp only at hC
   have bH:=Kq (Si.cut k) T'
   have aM:=fun n b hb=>Yp (S:=Si.cut k) eW n b hb
   have yI:=NS.aS (S:=Si.cut k) hE.nj.wf
   have N0:List.take 30 (Si.cut k).cells=Si.tb.enc:=NS.eZ (S:=Si.cut k) hE.nj.wf
   have qOa:∀ tb,GT tb→True:=fun _ _=>trivial
   generalize Si.tb.cls ⟨mp,ms,mi,ma,mt⟩=cl at *
   obtain ⟨u0,gv,ce⟩:=cl
   dsimp only at hC fG vu dD
   have aJ:=Tb.aD fG
   have J8:=Tb.b9 u0
   have ss:u0.enc.take 30=u0.enc:=List.take_of_length_le (by rw[aJ];decide)
   have ep:=NS.D7 (S:=Si.cut k) hE.nj.wf fG
   refine Qg ?_
   (refine Qa (fun h3=>?_) (fun h3=>?_)<;>try exact h3.elim)
   refine Qh (An @bH (An @yI @N0)) ?_
   refine Xf hC (An @aM (An @aJ (An @bH (An @yI (An @ss @ep))))) ?_
   refine Qh (An @bH (An @yI (An @aJ (An @ss @ep)))) ?_
   cases gv with
   | false =>
    (refine Qa (fun h4=>?_) (fun h4=>?_)<;>try exact h4.elim)
    refine Qg ?_
    refine ⟨i + 1,by omega,?_,by omega⟩
    rw[dD,if_neg av]
    have H3:HL ([(72,.cells (Yr es)),(71,.cells [.int .i64 0,.str [],.bool false,.str []]),(70,.cells [.ptr 67 0])]++Qm { Si.cut k with tb:=u0 } T') 73:=((D2 eW).more (by simp[bJ,ai,Qe])).more (by exact rU _)
    refine To.jG (ex:=[(67,_),(150,_),(150,_),(74,_),(73,_),(72,_),(71,_),(70,_)]) id eW H3 aP av av av (fun _ _=>rfl) (fun b h _=>h) (fun b b' _ _ _ _ e=>e) rfl rfl rfl (fun b h1 h2=>?_) ?_
    ·rw[Wg]
     rcases (by omega:b=70∨b=71∨b=72) with rfl|rfl|rfl<;>rfl
    ·have uZ:=Jy (Qp (S.ended dn))
     simp[Qy,Qe,ai,look,aE,az,pW,uZ]
   | true =>
    (refine Qa (fun h4=>?_) (fun h4=>?_)<;>try exact h4.elim)
    rw[if_pos rfl]at dD
    have Ef:(Si.cut k).now=S.now + dn:=hE.now
    have ed:=Vj c.gl { Si.cut k with tb:=u0 } T' _ (pw.rK fG) (by show WI T' (Si.cut k).now _;rw[Ef];exact ll) ⟨mp,ms,mi,ma,mt⟩ VU true
    unfold Mp.enc at ed
    dsimp only at ed
    rw[show ({ Si.cut k with tb:=u0 }:NS).ev ⟨mp,ms,mi,ma,mt⟩ true=(Si.cut k).ev ⟨mp,ms,mi,ma,mt⟩ true from rfl]at ed
    have Eg:=Xt0 es [(Si.cut k).ev ⟨mp,ms,mi,ma,mt⟩ true]
    obtain ⟨E,N1⟩:∃ E,Yr [(Si.cut k).ev ⟨mp,ms,mi,ma,mt⟩ true]=E:=⟨_,rfl⟩
    have hE1:∀ n,ai n E:=fun n=>by rw[← N1];exact Up n _
    have hE5:E.length=1 * 5:=by rw[← N1,wa];rfl
    have VV:(Yr es).length=es.length * 5:=wa es
    rw[N1]at ed Eg
    refine Qg ?_
    refine D6 (A8 (A:=[]) (B:=[(150,_),(150,_),(74,_),(73,_),(72,_),(71,_),(70,_)]) (S:=Si.cut k) (S':={ Si.cut k with tb:=u0 }) (T:=T') rfl av av) ?_
    refine nX (v:=false) (ex:=[(150,_),(150,_),(74,_),(73,_),(72,_),(71,_),(70,_)]) ed (Qj eW) (Qj eW) (by simp[Qe,hE1]) aP av rfl ?_ ?_
    ·exact Qu @Ya
    have rH:=fun n b hb=>Yp (S:={ Si.cut k with tb:=u0 }) eW n b hb
    refine Qg ?_
    refine Jd (An @rH (An @hE5 (An @VV @Eg))) ?_
    refine ⟨i + 1,by omega,?_,by omega⟩
    rw[dD]
    have Eh:∀ n,ai n (Yr (es++[(Si.cut k).ev ⟨mp,ms,mi,ma,mt⟩ true])):=fun n=>Up n _
    have hl2:(es++[(Si.cut k).ev ⟨mp,ms,mi,ma,mt⟩ true]).length=es.length + 1:=by simp
    dsimp only
    rw[hl2]
    generalize Yr (es++[(Si.cut k).ev ⟨mp,ms,mi,ma,mt⟩ true])=E2 at *
    have N2:∀ ρ,az ρ E2=E2:=fun ρ=>by
     rw[Yu]
     exact (List.map_congr_left fun v hv=>ti (Xv.1 (Eh 0) v hv)).trans (List.map_id _)
    have H3:HL ([(72,.cells E2),(71,.cells [.int .i64 0,.str [],.bool false,.str []]),(70,.cells [.ptr 67 0])]++Qm { Si.cut k with tb:=u0 } T') 73:=((D2 eW).more (by simp[bJ,ai,Qe])).more (by exact Eh _)
    refine To.jG (ex:=[(221,_),(72,.dead),(150,_),(150,_),(74,_),(73,_),(72,_),(71,_),(70,_)]) (fun b=>if b=72 then 221 else b) eW H3 aP av av av (fun b hb=>if_neg af) (fun b h h2=>?_) (fun b b' h1 h2 h3 h4 e=>?_) rfl rfl rfl (fun b h1 h2=>?_) ?_
    ·split<;>omega
    ·(repeat' split at e)<;>omega
    ·rcases (by omega:b=70∨b=71∨b=72) with rfl|rfl|rfl
     ·rfl
     ·rfl
     ·show Bk.cells E2=Bk.cells (az _ E2)
      rw[N2]
    ·have uZ:az (fun b=>if b=72 then 221 else b) (Qp (S.ended dn))=Qp (S.ended dn):=zF _ _
     simp[Qy,Qe,ai,look,aE,az,pW,uZ]
 ·obtain rfl:i=(S.ended dn).length:=by omega
  rw[← rW rfl]
  have dz:Si.told=S.told:=hE.told
  have mT:=Vg c.gl h0 Si T' hE.nj eW af es af (fun e he=>by
   obtain ⟨g1,g2⟩:=hE.bR e he
   refine ⟨g2,?_⟩
   cases es with
   | nil=>cases he
   | cons e0 l=>exact g1.trans (hE.bR e0 List.mem_cons_self).1.symm)
  rw[dz]at mT
  have VV:(Yr es).length=es.length * 5:=wa es
  have Ei:((Yr es).drop 0).take (es.length * 5)=Yr es:=by rw[List.drop_zero,List.take_of_length_le af]
  have rU:∀ n,ai n (Yr es):=fun n=>Up n es
  refine Qg ?_
  refine pJ (p:=[67]) a7 (To.fZ (b:=72) (i:=106) rfl rfl) ?_
  rw[Ei]
  refine nX (v:=false) (n:=73) (ex:=[(72,.dead),(72,_),(71,_),(70,_)]) mT (Qj eW) (Qj eW) (by simp[Qe]) aP av rfl ?_ ?_
  ·exact Qu (An @Ya @rU)
  refine Qg ?_
  unfold Rp.enc
  exact ⟨(),To.drop (ex:=[(71,_),(72,.dead),(72,_),(71,_),(70,_)]) (Qj eW) av av (by simp[Qy,Qe,ai,look,aE,az])⟩
theorem NS.kM {S:NS} (h:S.tb.wf) (v:Nat):S.cells.set 36 (.int .i64 v)=({ S with aF:=v }:NS).cells:=NS.dt h 6 _
theorem NS.ja {S:NS} (h:S.tb.wf):S.cells.take 21=S.tb.aq.enc:=by
 rw[← Tb.eX h,← NS.eZ h,List.take_take];rfl
theorem NS.rX {S:NS} (h:S.tb.wf) {p:ay} (hp:p.wf):Yx S.cells 0 p.enc=({ S with tb:={ S.tb with aq:=p } }:NS).cells:=by
 unfold Yx NS.cells Tb.enc Tb.hd
 rw[List.take_zero,List.nil_append,Nat.zero_add,ay.aD hp,← ay.aD h.aq,List.append_assoc,List.append_assoc,List.append_assoc,List.drop_left]
 simp[NS.tl]
set_option maxHeartbeats 4000000 in
theorem Xuj (gl:Nat→AV) (S:NS) (T:WT) (hw:S.tb.wf) (hT:T.wf) (ak an ad:Int) (f:List UInt8) (ha:300≤S.aF):GD Tryz.prog gl 20 [.ptr 67 0,.agg [.int .i64 ak,.int .i64 an,.int .i64 ad,.str f]] (Qm S T) 70 [67] (.agg (bS 6).enc) (Qm S T):=by
 refine yx.gq (of_decide_eq_true rfl) (Zx hT) av fun c a7 hg=>?_
 subst hg
 conv in aQ _ _=>cbv
 have aM:=fun n b hb=>Yp (S:=S) hT n b hb
 have bH:=Kq S T
 have aX:=NS.aS hw
 have fg:=NS.fg hw
 refine Qh (An @aM (An @bH (An @aX @fg))) ?_
 (refine Qa (fun h1=>?_) (fun h1=>?_)<;>try exact h1.elim)
 refine Qh (An @aM (An @bH (An @aX @fg))) ?_
 (refine Qa (fun h2=>?_) (fun h2=>?_)<;>try exact h2.elim)
 ·unfold bS Rp.enc
  refine Qh @aM ?_
  exact ⟨(),To.drop (ex:=[(71,_),(71,_),(70,_)]) (Qj hT) av av (by simp[Qy,Qe,ai,look,aE,az])⟩
 ·omega
set_option maxHeartbeats 4000000 in
theorem Yel (gl:Nat→AV) (S:NS) (T:WT) (hw:S.tb.wf) (hT:T.wf) (an ad:Int) (f:List UInt8) (ha:S.aF < 300) (r:Rp) (S1:NS) (T1:WT) (bu:T1.wf) (ho:GD Tryz.prog gl 58 [.ptr 67 0,.agg [.int .i64 1,.int .i64 an,.int .i64 ad,.str f]] (Qm { S with aF:=S.aF + 1 } T) 70 [67] (.agg r.enc) (Qm S1 T1)):GD Tryz.prog gl 20 [.ptr 67 0,.agg [.int .i64 1,.int .i64 an,.int .i64 ad,.str f]] (Qm S T) 70 [67] (.agg r.enc) (Qm S1 T1):=by
 refine yx.gq (of_decide_eq_true rfl) (Zx hT) av fun c a7 hg=>?_
 subst hg
 conv in aQ _ _=>cbv
 have aM:=fun n b hb=>Yp (S:=S) hT n b hb
 have bH:=Kq S T
 have aX:=NS.aS hw
 have fg:=NS.fg hw
 have kM:=NS.kM hw (S.aF + 1)
 have dy:(S.aF:Int) + 1=((S.aF + 1:Nat):Int):=by omega
 obtain ⟨r1,r2,r3,r4⟩:=r
 unfold Rp.enc at ho ⊢
 dsimp only at ho ⊢
 refine Qh (An @aM (An @bH (An @aX @fg))) ?_
 (refine Qa (fun h1=>?_) (fun h1=>?_)<;>try exact h1.elim)
 refine Qh (An @aM (An @bH (An @aX @fg))) ?_
 (refine Qa (fun h2=>?_) (fun h2=>?_)<;>try exact h2.elim)
 ·omega
 refine Qh (An @aM (An @bH (An @aX (An @fg (An @dy @kM))))) ?_
 (refine Qa (fun h3=>?_) (fun h3=>?_)<;>try exact h3.elim)
 refine Qg ?_
 refine D6 (A8 (A:=[]) (B:=[(71,_),(70,_)]) (S:=S) (S':={ S with aF:=S.aF + 1 }) (T:=T) rfl av av) ?_
 have H2:HL ([(71,.cells [.int .i64 0,.str [],.bool false,.str []]),(70,.cells [.int .i64 1,.int .i64 an,.int .i64 ad,.str f])]++Qm S1 T1) 72:=((Qj bu).more (by simp[bJ,ai,Qe])).more (by simp[bJ,ai,Qe])
 refine pZ (v:=false) (pp:=[67]) (ex:=[(71,_),(70,_)]) (s3:=⟨[(4,.ptr 71 0),(31,.agg [.int .i64 r1,.str r2,.bool r3,.str r4])],[(71,.cells [.int .i64 0,.str [],.bool false,.str []]),(70,.cells [.int .i64 1,.int .i64 an,.int .i64 ad,.str f])]++Qm S1 T1,72⟩) a7 ho (Qj hT) (Qj bu) (by simp[Qe,ai]) aP av av rfl ?_ ?_ ?_
 ·exact Qu @Ya
 ·unfold Jb
  refine To.kp bu H2 aP aP av av av (fun b h1 h2=>?_) ?_
  ·rcases (by omega:b=70∨b=71) with rfl|rfl<;>rfl
  ·simp[Qy,Qe,ai,look,aE,az,uW,lw,wx]
 have kr:=fun n b hb=>Yp (S:=S1) bu n b hb
 refine Qh @kr ?_
 exact ⟨(),To.drop (ex:=[(71,_),(71,_),(70,_)]) (Qj bu) av av (by simp[Qy,Qe,ai,look,aE,az])⟩
set_option maxHeartbeats 4000000 in
theorem Yeb (gl:Nat→AV) (S:NS) (T:WT) (hw:S.tb.wf) (hT:T.wf) (an ad:Int) (f:List UInt8) (ha:S.aF < 300) (r:Rp) (S1:NS) (T1:WT) (bu:T1.wf) (ho:GD Tryz.prog gl 59 [.ptr 67 0,.str f] (Qm { S with aF:=S.aF + 1 } T) 70 [67] (.agg r.enc) (Qm S1 T1)):GD Tryz.prog gl 20 [.ptr 67 0,.agg [.int .i64 2,.int .i64 an,.int .i64 ad,.str f]] (Qm S T) 70 [67] (.agg r.enc) (Qm S1 T1):=by
 refine yx.gq (of_decide_eq_true rfl) (Zx hT) av fun c a7 hg=>?_
 subst hg
 conv in aQ _ _=>cbv
 have aM:=fun n b hb=>Yp (S:=S) hT n b hb
 have bH:=Kq S T
 have aX:=NS.aS hw
 have fg:=NS.fg hw
 have kM:=NS.kM hw (S.aF + 1)
 have dy:(S.aF:Int) + 1=((S.aF + 1:Nat):Int):=by omega
 obtain ⟨r1,r2,r3,r4⟩:=r
 unfold Rp.enc at ho ⊢
 dsimp only at ho ⊢
 refine Qh (An @aM (An @bH (An @aX @fg))) ?_
 (refine Qa (fun h1=>?_) (fun h1=>?_)<;>try exact h1.elim)
 refine Qh (An @aM (An @bH (An @aX @fg))) ?_
 (refine Qa (fun h2=>?_) (fun h2=>?_)<;>try exact h2.elim)
 ·omega
 refine Qh (An @aM (An @bH (An @aX (An @fg (An @dy @kM))))) ?_
 (refine Qa (fun h3=>?_) (fun h3=>?_)<;>try exact h3.elim)
 refine Qg ?_
 (refine Qa (fun h4=>?_) (fun h4=>?_)<;>try exact h4.elim)
 refine Qg ?_
 refine D6 (A8 (A:=[]) (B:=[(71,_),(70,_)]) (S:=S) (S':={ S with aF:=S.aF + 1 }) (T:=T) rfl av av) ?_
 have H2:HL ([(71,.cells [.int .i64 0,.str [],.bool false,.str []]),(70,.cells [.int .i64 2,.int .i64 an,.int .i64 ad,.str f])]++Qm S1 T1) 72:=((Qj bu).more (by simp[bJ,ai,Qe])).more (by simp[bJ,ai,Qe])
 refine pZ (v:=false) (pp:=[67]) (ex:=[(71,_),(70,_)]) (s3:=⟨[(4,.ptr 71 0),(37,.agg [.int .i64 r1,.str r2,.bool r3,.str r4])],[(71,.cells [.int .i64 0,.str [],.bool false,.str []]),(70,.cells [.int .i64 2,.int .i64 an,.int .i64 ad,.str f])]++Qm S1 T1,72⟩) a7 ho (Qj hT) (Qj bu) (by simp[Qe,ai]) aP av av rfl ?_ ?_ ?_
 ·exact Qu @Ya
 ·unfold Jb
  refine To.kp bu H2 aP aP av av av (fun b h1 h2=>?_) ?_
  ·rcases (by omega:b=70∨b=71) with rfl|rfl<;>rfl
  ·simp[Qy,Qe,ai,look,aE,az,uW,lw,wx]
 have kr:=fun n b hb=>Yp (S:=S1) bu n b hb
 refine Qh @kr ?_
 exact ⟨(),To.drop (ex:=[(71,_),(71,_),(70,_)]) (Qj bu) av av (by simp[Qy,Qe,ai,look,aE,az])⟩
set_option maxHeartbeats 4000000 in
theorem VW (gl:Nat→AV) (S:NS) (T:WT) (hw:S.tb.wf) (hT:T.wf) (an ad:Int) (f:List UInt8) (ha:S.aF < 300) (r:Rp) (S1:NS) (T1:WT) (bu:T1.wf) (ho:GD Tryz.prog gl 60 [.ptr 67 0,.int .i64 an] (Qm { S with aF:=S.aF + 1 } T) 70 [67] (.agg r.enc) (Qm S1 T1)):GD Tryz.prog gl 20 [.ptr 67 0,.agg [.int .i64 3,.int .i64 an,.int .i64 ad,.str f]] (Qm S T) 70 [67] (.agg r.enc) (Qm S1 T1):=by
 refine yx.gq (of_decide_eq_true rfl) (Zx hT) av fun c a7 hg=>?_
 subst hg
 conv in aQ _ _=>cbv
 have aM:=fun n b hb=>Yp (S:=S) hT n b hb
 have bH:=Kq S T
 have aX:=NS.aS hw
 have fg:=NS.fg hw
 have kM:=NS.kM hw (S.aF + 1)
 have dy:(S.aF:Int) + 1=((S.aF + 1:Nat):Int):=by omega
 obtain ⟨r1,r2,r3,r4⟩:=r
 unfold Rp.enc at ho ⊢
 dsimp only at ho ⊢
 refine Qh (An @aM (An @bH (An @aX @fg))) ?_
 (refine Qa (fun h1=>?_) (fun h1=>?_)<;>try exact h1.elim)
 refine Qh (An @aM (An @bH (An @aX @fg))) ?_
 (refine Qa (fun h2=>?_) (fun h2=>?_)<;>try exact h2.elim)
 ·omega
 refine Qh (An @aM (An @bH (An @aX (An @fg (An @dy @kM))))) ?_
 (refine Qa (fun h3=>?_) (fun h3=>?_)<;>try exact h3.elim)
 refine Qg ?_
 (refine Qa (fun h4=>?_) (fun h4=>?_)<;>try exact h4.elim)
 refine Qg ?_
 (refine Qa (fun h5=>?_) (fun h5=>?_)<;>try exact h5.elim)
 refine Qg ?_
 refine D6 (A8 (A:=[]) (B:=[(71,_),(70,_)]) (S:=S) (S':={ S with aF:=S.aF + 1 }) (T:=T) rfl av av) ?_
 have H2:HL ([(71,.cells [.int .i64 0,.str [],.bool false,.str []]),(70,.cells [.int .i64 3,.int .i64 an,.int .i64 ad,.str f])]++Qm S1 T1) 72:=((Qj bu).more (by simp[bJ,ai,Qe])).more (by simp[bJ,ai,Qe])
 refine pZ (v:=false) (pp:=[67]) (ex:=[(71,_),(70,_)]) (s3:=⟨[(4,.ptr 71 0),(43,.agg [.int .i64 r1,.str r2,.bool r3,.str r4])],[(71,.cells [.int .i64 0,.str [],.bool false,.str []]),(70,.cells [.int .i64 3,.int .i64 an,.int .i64 ad,.str f])]++Qm S1 T1,72⟩) a7 ho (Qj hT) (Qj bu) (by simp[Qe,ai]) aP av av rfl ?_ ?_ ?_
 ·exact Qu @Ya
 ·unfold Jb
  refine To.kp bu H2 aP aP av av av (fun b h1 h2=>?_) ?_
  ·rcases (by omega:b=70∨b=71) with rfl|rfl<;>rfl
  ·simp[Qy,Qe,ai,look,aE,az,uW,lw,wx]
 have kr:=fun n b hb=>Yp (S:=S1) bu n b hb
 refine Qh @kr ?_
 exact ⟨(),To.drop (ex:=[(71,_),(71,_),(70,_)]) (Qj bu) av av (by simp[Qy,Qe,ai,look,aE,az])⟩
set_option maxHeartbeats 4000000 in
theorem Yek (gl:Nat→AV) (S:NS) (T:WT) (hw:S.tb.wf) (hT:T.wf) (ak:Int) (an ad:Int) (f:List UInt8) (ha:S.aF < 300) (hk:ak≠1∧ak≠2∧ak≠3∧ak≠4∧ak≠5):GD Tryz.prog gl 20 [.ptr 67 0,.agg [.int .i64 ak,.int .i64 an,.int .i64 ad,.str f]] (Qm S T) 70 [67] (.agg (bS 4).enc) (Qm { S with aF:=S.aF + 1 } T):=by
 refine yx.gq (of_decide_eq_true rfl) (Zx hT) av fun c a7 hg=>?_
 subst hg
 conv in aQ _ _=>cbv
 have aM:=fun n b hb=>Yp (S:=S) hT n b hb
 have bH:=Kq S T
 have aX:=NS.aS hw
 have fg:=NS.fg hw
 have kM:=NS.kM hw (S.aF + 1)
 have dy:(S.aF:Int) + 1=((S.aF + 1:Nat):Int):=by omega
 refine Qh (An @aM (An @bH (An @aX @fg))) ?_
 (refine Qa (fun h1=>?_) (fun h1=>?_)<;>try exact h1.elim)
 refine Qh (An @aM (An @bH (An @aX @fg))) ?_
 (refine Qa (fun h2=>?_) (fun h2=>?_)<;>try exact h2.elim)
 ·omega
 refine Qh (An @aM (An @bH (An @aX (An @fg (An @dy @kM))))) ?_
 (refine Qa (fun h3=>?_) (fun h3=>?_)<;>try exact h3.elim)
 ·omega
 refine Qg ?_
 (refine Qa (fun h4=>?_) (fun h4=>?_)<;>try exact h4.elim)
 ·omega
 refine Qg ?_
 (refine Qa (fun h5=>?_) (fun h5=>?_)<;>try exact h5.elim)
 ·omega
 refine Qg ?_
 (refine Qa (fun h6=>?_) (fun h6=>?_)<;>try exact h6.elim)
 ·omega
 refine Qg ?_
 (refine Qa (fun h7=>?_) (fun h7=>?_)<;>try exact h7.elim)
 ·omega
 unfold bS Rp.enc
 refine Qh @aM ?_
 exact ⟨(),To.jG (ex:=[(71,_),(67,_),(71,_),(70,_)]) (ex':=[]) id hT (Qj (S:={ S with aF:=S.aF + 1 }) hT) (Nat.le_refl 70) av av av (fun _ _=>rfl) (fun b h _=>h) (fun b b' _ _ _ _ e=>e) rfl rfl rfl (fun b h1 h2=>by omega) (by simp[Qy,Qe,ai,look,aE,az])⟩
set_option maxHeartbeats 4000000 in
theorem Yf5 (gl:Nat→AV) (S:NS) (T:WT) (hw:S.tb.wf) (hT:T.wf) (an ad:Int) (f:List UInt8) (ha:S.aF < 300) (x:ay × Int) (hx:S.tb.aq.drain an true=x):GD Tryz.prog gl 20 [.ptr 67 0,.agg [.int .i64 4,.int .i64 an,.int .i64 ad,.str f]] (Qm S T) 70 [67] (.agg (bS x.2).enc) (Qm (if x.2=0 then { S with aF:=S.aF + 1,tb:={ S.tb with aq:=x.1 } } else { S with aF:=S.aF + 1 }) T):=by
 refine yx.gq (of_decide_eq_true rfl) (Zx hT) av fun c a7 hg=>?_
 subst hg
 conv in aQ _ _=>cbv
 have aM:=fun n b hb=>Yp (S:=S) hT n b hb
 have bH:=Kq S T
 have aX:=NS.aS hw
 have fg:=NS.fg hw
 have kM:=NS.kM hw (S.aF + 1)
 have dy:(S.aF:Int) + 1=((S.aF + 1:Nat):Int):=by omega
 have lX:=SO c.gl S.tb.aq hw.aq an
 have nZ:x.1.wf:=by rw[← hx];exact ay.dZ _ hw.aq an true
 rw[hx]at lX
 obtain ⟨p,e⟩:=x
 unfold Ua at lX
 dsimp only at *
 have iV:=NS.aS (S:={ S with aF:=S.aF + 1 }) hw
 have uD:List.take 21 ({ S with aF:=S.aF + 1 }:NS).cells=S.tb.aq.enc:=NS.ja (S:={ S with aF:=S.aF + 1 }) hw
 have gM:=ay.aD nZ
 have lU:p.enc.take 21=p.enc:=List.take_of_length_le (by rw[gM];decide)
 have nO:=NS.rX (S:={ S with aF:=S.aF + 1 }) hw nZ
 refine Qh (An @aM (An @bH (An @aX @fg))) ?_
 (refine Qa (fun h1=>?_) (fun h1=>?_)<;>try exact h1.elim)
 refine Qh (An @aM (An @bH (An @aX @fg))) ?_
 (refine Qa (fun h2=>?_) (fun h2=>?_)<;>try exact h2.elim)
 ·omega
 refine Qh (An @aM (An @bH (An @aX (An @fg (An @dy @kM))))) ?_
 (refine Qa (fun h3=>?_) (fun h3=>?_)<;>try exact h3.elim)
 refine Qg ?_
 (refine Qa (fun h4=>?_) (fun h4=>?_)<;>try exact h4.elim)
 refine Qg ?_
 (refine Qa (fun h5=>?_) (fun h5=>?_)<;>try exact h5.elim)
 refine Qg ?_
 (refine Qa (fun h6=>?_) (fun h6=>?_)<;>try exact h6.elim)
 (refine Qa (fun h7=>?_) (fun h7=>?_)<;>try exact h7.elim)
 refine Qh (An @iV @uD) ?_
 refine Xf lX (An @aM (An @gM @lU)) ?_
 refine Qh (An @aM (An @gM @lU)) ?_
 (refine Qa (fun h8=>?_) (fun h8=>?_)<;>try exact h8.elim)
 refine Qh (An @gM @lU) ?_
 by_cases he:e=0
 ·subst he
  rw[if_pos rfl]
  (refine Qa (fun h9=>?_) (fun h9=>?_)<;>try exact h9.elim)
  refine Qh (An @iV (An @gM (An @lU @nO))) ?_
  unfold bS Rp.enc
  exact ⟨(),To.jG (ex:=[(71,_),(67,_),(72,_),(72,_),(67,_),(71,_),(70,_)]) (ex':=[]) id hT (Qj (S:={ S with aF:=S.aF + 1,tb:={ S.tb with aq:=p } }) hT) (Nat.le_refl 70) av av av (fun _ _=>rfl) (fun b h _=>h) (fun b b' _ _ _ _ e=>e) rfl rfl rfl (fun b h1 h2=>by omega) (by simp[Qy,Qe,ai,look,aE,az])⟩
 ·rw[if_neg he]
  (refine Qa (fun h9=>?_) (fun h9=>?_)<;>try exact h9.elim)
  ·exact absurd h9 he
  refine Qg ?_
  unfold bS Rp.enc
  exact ⟨(),To.jG (ex:=[(71,_),(72,_),(72,_),(67,_),(71,_),(70,_)]) (ex':=[]) id hT (Qj (S:={ S with aF:=S.aF + 1 }) hT) (Nat.le_refl 70) av av av (fun _ _=>rfl) (fun b h _=>h) (fun b b' _ _ _ _ e=>e) rfl rfl rfl (fun b h1 h2=>by omega) (by simp[Qy,Qe,ai,look,aE,az])⟩
set_option maxHeartbeats 4000000 in
theorem Yem (gl:Nat→AV) (S:NS) (T:WT) (hw:S.tb.wf) (hT:T.wf) (an ad:Int) (f:List UInt8) (ha:S.aF < 300) (x:ay × Int) (hx:S.tb.aq.drain an false=x):GD Tryz.prog gl 20 [.ptr 67 0,.agg [.int .i64 5,.int .i64 an,.int .i64 ad,.str f]] (Qm S T) 70 [67] (.agg (bS x.2).enc) (Qm (if x.2=0 then { S with aF:=S.aF + 1,tb:={ S.tb with aq:=x.1 } } else { S with aF:=S.aF + 1 }) T):=by
 refine yx.gq (of_decide_eq_true rfl) (Zx hT) av fun c a7 hg=>?_
 subst hg
 conv in aQ _ _=>cbv
 have aM:=fun n b hb=>Yp (S:=S) hT n b hb
 have bH:=Kq S T
 have aX:=NS.aS hw
 have fg:=NS.fg hw
 have kM:=NS.kM hw (S.aF + 1)
 have dy:(S.aF:Int) + 1=((S.aF + 1:Nat):Int):=by omega
 have lX:=SO c.gl S.tb.aq hw.aq an
 have uO:=Qyo c.gl S.tb.aq hw.aq an
 have nZ:x.1.wf:=by rw[← hx];exact ay.dZ _ hw.aq an false
 rw[hx]at uO
 have VX:=ay.dZ _ hw.aq an true
 generalize S.tb.aq.drain an true=y at lX VX
 obtain ⟨yp,ye⟩:=y
 have vB:=ay.aD VX
 have VY:yp.enc.take 21=yp.enc:=List.take_of_length_le (by rw[vB];decide)
 obtain ⟨p,e⟩:=x
 unfold Ua at lX uO
 dsimp only at *
 have iV:=NS.aS (S:={ S with aF:=S.aF + 1 }) hw
 have uD:List.take 21 ({ S with aF:=S.aF + 1 }:NS).cells=S.tb.aq.enc:=NS.ja (S:={ S with aF:=S.aF + 1 }) hw
 have gM:=ay.aD nZ
 have lU:p.enc.take 21=p.enc:=List.take_of_length_le (by rw[gM];decide)
 have nO:=NS.rX (S:={ S with aF:=S.aF + 1 }) hw nZ
 refine Qh (An @aM (An @bH (An @aX @fg))) ?_
 (refine Qa (fun h1=>?_) (fun h1=>?_)<;>try exact h1.elim)
 refine Qh (An @aM (An @bH (An @aX @fg))) ?_
 (refine Qa (fun h2=>?_) (fun h2=>?_)<;>try exact h2.elim)
 ·omega
 refine Qh (An @aM (An @bH (An @aX (An @fg (An @dy @kM))))) ?_
 (refine Qa (fun h3=>?_) (fun h3=>?_)<;>try exact h3.elim)
 refine Qg ?_
 (refine Qa (fun h4=>?_) (fun h4=>?_)<;>try exact h4.elim)
 refine Qg ?_
 (refine Qa (fun h5=>?_) (fun h5=>?_)<;>try exact h5.elim)
 refine Qg ?_
 (refine Qa (fun h6=>?_) (fun h6=>?_)<;>try exact h6.elim)
 refine Qg ?_
 (refine Qa (fun h7=>?_) (fun h7=>?_)<;>try exact h7.elim)
 refine Qh (An @iV @uD) ?_
 refine Xf lX (An @aM (An @vB (An @VY (An @iV @uD)))) ?_
 refine Qh (An @aM (An @vB (An @VY (An @iV @uD)))) ?_
 (refine Qa (fun h8=>?_) (fun h8=>?_)<;>try exact h8.elim)
 refine Qh (An @iV @uD) ?_
 refine Xf uO (An @aM (An @gM (An @lU @vB))) ?_
 refine Qh (An @gM @lU) ?_
 by_cases he:e=0
 ·subst he
  rw[if_pos rfl]
  (refine Qa (fun h9=>?_) (fun h9=>?_)<;>try exact h9.elim)
  refine Qh (An @iV (An @gM (An @lU @nO))) ?_
  unfold bS Rp.enc
  exact ⟨(),To.jG (ex:=[(71,_),(67,_),(72,_),(72,_),(72,_),(67,_),(71,_),(70,_)]) (ex':=[]) id hT (Qj (S:={ S with aF:=S.aF + 1,tb:={ S.tb with aq:=p } }) hT) (Nat.le_refl 70) av av av (fun _ _=>rfl) (fun b h _=>h) (fun b b' _ _ _ _ e=>e) rfl rfl rfl (fun b h1 h2=>by omega) (by simp[Qy,Qe,ai,look,aE,az])⟩
 ·rw[if_neg he]
  (refine Qa (fun h9=>?_) (fun h9=>?_)<;>try exact h9.elim)
  ·exact absurd h9 he
  refine Qg ?_
  unfold bS Rp.enc
  exact ⟨(),To.jG (ex:=[(71,_),(72,_),(72,_),(72,_),(67,_),(71,_),(70,_)]) (ex':=[]) id hT (Qj (S:={ S with aF:=S.aF + 1 }) hT) (Nat.le_refl 70) av av av (fun _ _=>rfl) (fun b h _=>h) (fun b b' _ _ _ _ e=>e) rfl rfl rfl (fun b h1 h2=>by omega) (by simp[Qy,Qe,ai,look,aE,az])⟩
theorem N3 (gl:Nat→AV) (h0:gl 0=.xp (Qp Xo) 0) (S:NS) (T:WT) (D:List Tm) (hK:NK S) (hW:WI T S.now D) (hD:D.Perm S.bb) (a:Ac) (hf:a.frame.length≤140737488351232):VP gl S T 20 [.ptr 67 0,.agg a.enc] (S.step a):=by
 obtain ⟨ak,an,ad,f⟩:=a
 unfold Ac.enc NS.step
 dsimp only at hf ⊢
 have hT:=hW.wf
 have hw:=hK.wf
 by_cases ha:300≤S.aF
 ·rw[if_pos ha]
  exact ⟨T,D,hW,hD,Xuj gl S T hw hT ak an ad f ha⟩
 rw[if_neg ha]
 have yJ:S.aF < 300:=by omega
 have h1:=hK.toNI.eD (S.aF + 1)
 have hx:=hK.nx
 have ht:=hK.qb
 by_cases k1:ak=1
 ·subst k1
  rw[if_pos rfl]
  obtain ⟨T1,D1,dp,jF,hg⟩:=Xyg gl h0 { S with aF:=S.aF + 1 } T D h1 (by show S.b7≤_;omega) (by show S.told≤_;omega) hW hD 1 an ad f hf
  exact ⟨T1,D1,dp,jF,Yel gl S T hw hT an ad f yJ _ _ T1 dp.wf hg⟩
 rw[if_neg k1]
 by_cases k2:ak=2
 ·subst k2
  rw[if_pos rfl]
  obtain ⟨T1,D1,dp,jF,hg⟩:=VD gl { S with aF:=S.aF + 1 } T D h1 (by show S.b7≤_;omega) hW hD f hf
  exact ⟨T1,D1,dp,jF,Yeb gl S T hw hT an ad f yJ _ _ T1 dp.wf hg⟩
 rw[if_neg k2]
 by_cases k3:ak=3
 ·subst k3
  rw[if_pos rfl]
  by_cases hd:an < 1∨549755813888 - ({ S with aF:=S.aF + 1 }:NS).now < an
  ·have hb:=Xlj gl { S with aF:=S.aF + 1 } T D h1 hW an hd
   rw[A7,if_pos hd]
   exact ⟨T,D,hW,hD,VW gl S T hw hT an ad f yJ _ _ T hT hb⟩
  ·obtain ⟨T1,D1,dp,jF,hg⟩:=Xs6 gl h0 { S with aF:=S.aF + 1 } T D h1 (by show S.told≤_;omega) hW hD an hd
   exact ⟨T1,D1,dp,jF,VW gl S T hw hT an ad f yJ _ _ T1 dp.wf hg⟩
 rw[if_neg k3]
 by_cases k4:ak=4
 ·subst k4
  rw[if_pos (.inl rfl)]
  have hg:=Yf5 gl S T hw hT an ad f yJ _ rfl
  refine ⟨T,D,?_,?_,hg⟩
  ·dsimp only[decide_true];split<;>exact hW
  ·dsimp only[decide_true];split<;>exact hD
 by_cases k5:ak=5
 ·subst k5
  rw[if_pos (.inr rfl)]
  have hg:=Yem gl S T hw hT an ad f yJ _ rfl
  refine ⟨T,D,?_,?_,hg⟩
  ·dsimp only;split<;>exact hW
  ·dsimp only;split<;>exact hD
 rw[if_neg af]
 exact ⟨T,D,hW,hD,Yek gl S T hw hT ak an ad f yJ ⟨k1,k2,k3,k4,k5⟩⟩
section
variable {P:Program}
theorem PS.wk {gl:Nat→AV} {f:FuncId} {args:List AV} {r r':AV} (h:PS P gl f args r) (hr:Wk r r'):PS P gl f args r' :=
 ⟨h.1,fun w vs X hX jt hv=>(h.2 w vs X hX jt hv).mono fun e w' ⟨v,q1,q2,q3⟩=>⟨v,q1,hr _ _ _ _ q2,q3⟩⟩
theorem PS.empty {gl:Nat→AV} {f:FuncId} {cs:List AV} {r:AV} (h1:∀ cap,PS P gl f [.lit (.slice none 0 cap)] r) (h2:∀ a cap,PS P gl f [.lit (.slice (some a) 0 cap)] r):PS P gl f [.isl 0 cs] r:=by
 refine ⟨(h1 0).1,fun w vs X hX jt hv=>?_⟩
 cases vs with
 | nil=>exact hv.elim
 | cons v vs =>
 cases vs with
 | cons _ _=>exact hv.2.elim
 | nil =>
 obtain ⟨hv,_⟩:=hv
 obtain ⟨a,cap,us,rfl,_⟩:=sm hv
 cases a with
 | some a=>exact (h2 a cap).2 w [.slice (some a) 0 cap] X hX jt ⟨.lit _,trivial⟩
 | none=>exact (h1 cap).2 w [.slice none 0 cap] X hX jt ⟨.lit _,trivial⟩
def Ej (m:Nat) (rs:List RS) (r:AV) (ax:List (Nat × Bk)) (n:Nat):EX→St→Prop
 | .exit _,_=>False
 | _,s=>Wt s.fs rs∧To (List.range m) ⟨[(0,fY s.fs rs)],s.h,s.n⟩ ⟨[(0,r)],ax,n⟩
theorem Xog {gl : Nat → AV} {f : FuncId} {fn : Func} {code : Code} {t : TC} {rs : List RS} {args : List AV} {ax : List (Nat × Bk)} {n : Nat} {r : AV} (hm : P.follows .mixedOrders = true) (hf : P.funcs[f]? = some fn) (hb : fn.body = some code) (dW : (fn.name == "runtime.NumGoroutine") = false)
  (he:Jf P fn.ntmps code=some t) (hr:m8 P fn.results.toList=some rs) (hN:args.length≤fn.ntmps)
  (h:∀ c:Cx,(∀ q ∈ c.gh,q.1 ∈ List.range 0)→c.gl=gl→xw P c t (Ej 0 rs r ax n) ⟨js 0 args,[],0⟩):GS P gl f args [] 0 r ax n:=by
 refine ⟨⟨fn,hf,by rw[hb];rfl,dW⟩,fun w vs G X g jJ hv=>?_⟩
 refine calls_of_wp hf hb ?_
 have hR:=FH (N:=fn.ntmps) (gh:=[]) hN jJ hv (fun q hq=>by cases hq)
 have:=vn (c:=⟨fn.ntmps,w,G,X,gl,[]⟩) hm code t _ _ he (h _ (fun q hq=>by cases hq) rfl) _ _ _ hR
 refine wp_mono this fun e a' w' hq=>?_
 have fin:∀ (g1:Nat→GM) (s:St),R ⟨fn.ntmps,w,G,X,gl,[]⟩ g1 s.fs a' w'→(Wt s.fs rs∧To (List.range 0) ⟨[(0,fY s.fs rs)],s.h,s.n⟩ ⟨[(0,r)],ax,n⟩) →
   a'.defers=[]∧∃ v,(results fn a'.tmps).run P w'=.ok v w'∧(∃ nc g',Ending.returned v=.returned nc∧R ⟨0,w,G,X,gl,[]⟩ g' (cV ax n) ⟨#[],[]⟩ w'∧(∀ b,b < 0→g' b=g b)∧VR g' (Qo ⟨0,w,G,X,gl,[]⟩ g' (cV ax n)) w' r nc):=by
  intro g1 s bg ⟨h1,h3⟩
  obtain ⟨v,h4,h5⟩:=BQ bg hr h1
  refine ⟨bg.dL,v,h4,v,?_⟩
  have cu:R ⟨1,w,G,X,gl,[]⟩ g1 (⟨[(0,fY s.fs rs)],s.h,s.n⟩:St).fs ⟨#[v],[]⟩ w':=by
   refine ⟨rfl,rfl,fun i=>?_,bg.gl,bg.h,bg.inj,bg.old,bg.fr,bg.xs,bg.ib⟩
   show VR g1 _ w' (look [(0,fY s.fs rs)] i) _
   rw[Zn]
   split
   ·rename_i hi;subst hi;exact h5
   ·exact .any _
  obtain ⟨g2,bV⟩:=h3 _ g1 _ _ (fun q hq=>by cases hq) cu
  exact ⟨g2,rfl,⟨rfl,rfl,fun i=>.any _,bV.gl,bV.h,bV.inj,bV.old,bV.fr,bV.xs,fun p hp=>by cases hp⟩,fun b hb=>by omega,bV.t 0⟩
 cases e with
 | normal=>obtain ⟨g,s,bg,cF⟩:=hq;exact fin g s bg cF
 | ret=>obtain ⟨g,s,bg,cF⟩:=hq;exact fin g s bg cF
 | exit i=>obtain ⟨g,s,bg,cF⟩:=hq;exact cF.elim
 | goto l=>exact hq.elim
 | panic ch=>exact hq.elim
 | outgrown=>exact hq.elim
theorem FT.VZ {gl:Nat→AV} {f:FuncId} {fn:Func} {t:TC} {rs:List RS} (hF:FT P f fn t rs) {args:List AV} {ax:List (Nat × Bk)} {n:Nat} {r:AV} (hN:args.length≤fn.ntmps)
  (h:∀ c:Cx,(∀ q ∈ c.gh,q.1 ∈ List.range 0)→c.gl=gl→xw P c t (Ej 0 rs r ax n) ⟨js 0 args,[],0⟩):GS P gl f args [] 0 r ax n:=by
 have hc:=hF.code
 cases hb:fn.body with
 | none=>rw[hb]at hc;simp at hc
 | some code =>
  rw[hb]at hc
  exact Xog hF.mixed hF.func hb hF.name hc hF.res hN h
theorem Xg3 (m:Nat) (rs:List RS) (r:AV) (ax:List (Nat × Bk)) (n:Nat) (s:St):Ej m rs r ax n .ret s=(Wt s.fs rs∧To (List.range m) ⟨[(0,fY s.fs rs)],s.h,s.n⟩ ⟨[(0,r)],ax,n⟩):=rfl
attribute [go_sem] Xg3
end
theorem Xl0 (gl:Nat→AV) (l:List Mp) (hn:l.length≤1000000):PS Tryz.prog gl 64 [.isl l.length (cq l)] (.isl l.length (cq l)):=by
 have hl:=Jp l
 cases l with
 | nil =>
  refine PS.empty (fun cap=>PS.wk (r:=.nils) ?_ Wk.nils) fun a cap=>?_
  ·refine AB.ps (of_decide_eq_true rfl) (by simp[Qe]) fun c hN hg=>?_
   conv in aQ _ _=>cbv
   refine Qg ?_
   refine zS ?_ (AI (b:=true) (show sI (.lit (.slice none 0 cap))=some true from rfl)) ?_
   ·exact Qw
   refine Qg ?_
   (refine Qa (fun h1=>?_) (fun h1=>?_)<;>try exact h1.elim)
   exact Qw
  ·refine AB.ps (of_decide_eq_true rfl) (by simp[Qe,ai,cq]) fun c hN hg=>?_
   conv in aQ _ _=>cbv
   refine Qg ?_
   refine zS ?_ (AI (b:=false) (show sI (.lit (.slice (some a) 0 cap))=some false from rfl)) ?_
   ·exact Qw
   refine Qg ?_
   (refine Qa (fun h1=>?_) (fun h1=>?_)<;>try exact h1.elim)
   refine Qg ?_
   refine Xf FO @List.length_nil.{0} ?_
   refine Jv ?_
   rfl
 | cons x l =>
 have L6:sI (.isl (x::l).length (cq (x::l)))=some false:=rfl
 generalize x::l=l at *
 refine AB.ps (of_decide_eq_true rfl) (by simp[Qe,Gm]) fun c hN hg=>?_
 conv in aQ _ _=>cbv
 refine Qg ?_
 refine zS ?_ (AI (b:=false) L6) ?_
 ·exact Qw
 refine Qg ?_
 (refine Qa (fun h1=>?_) (fun h1=>?_)<;>try exact h1.elim)
 refine Qg ?_
 refine Jj FO ?_
 exact Yfl @hl
set_option maxHeartbeats 4000000 in
theorem N4 (gl:Nat→AV) (S:NS) (T:WT) (hS:NJ S) (hT:T.wf):GD Tryz.prog gl 23 [.ptr 67 0] (Qm S T) 70 (List.range 70) (.agg S.tb.enc) (Qm S T):=by
 refine Xnt.gq (of_decide_eq_true rfl) (Zx hT) (fun b hb=>List.mem_range.1 hb) fun c a7 hg=>?_
 subst hg
 conv in aQ _ _=>cbv
 have aM:=fun n b hb=>Yp (S:=S) hT n b hb
 have bH:=Kq S T
 have aX:=NS.aS hS.wf
 have eQ:=NS.eZ hS.wf
 have aJ:=Tb.aD hS.wf
 have V0:=Tb.cO hS.wf
 have ss:S.tb.enc.take 30=S.tb.enc:=List.take_of_length_le (by rw[aJ];decide)
 have bw:S.tb.enc.set 29 (.isl S.tb.maps.length (cq S.tb.maps))=S.tb.enc:=by
  rw[← V0]
  refine List.ext_getElem av fun j h1 h2=>?_
  rw[List.getElem_set]
  split
  ·rename_i e;subst e;rw[Bt (by rw[aJ];decide)]
  ·rfl
 have N5:=xP (Ur.2 hS.gt)
 have oY:=Xl0 c.gl S.tb.maps af
 refine Qh @aM ?_
 (refine Qa (fun h1=>?_) (fun h1=>?_)<;>try exact h1.elim)
 refine Qh (An @aM (An @bH (An @aX (An @eQ (An @aJ @V0))))) ?_
 refine Xf oY (An @aM (An @aJ (An @bw @ss))) ?_
 have Ek:=Jy S.tb.enc
 exact ⟨(),To.drop (ex:=[(70,_),(71,_),(71,_),(71,_),(70,_)]) (Qj hT) av aP (by simp[Qy,Qe,look,aE,Tb.b9,Ek])⟩
def ef (l:List Fl):List AV:=l.flatMap Fl.enc
theorem N6 (l:List Fl):(ef l).length=l.length * 10:=by
 induction l with
 | nil=>rfl
 | cons f l ih=>simp only[ef,List.flatMap_cons,List.length_append]at ih ⊢;rw[ih];simp[Fl.enc,Wf];omega
theorem Bb (n:Nat) (l:List Fl):ai n (ef l):=by
 rw[Xv]
 intro v hv
 obtain ⟨f,_,hf⟩:=List.mem_flatMap.1 hv
 simp[Fl.enc,Wf]at hf
 rcases hf with rfl|rfl|rfl|rfl|rfl|rfl|rfl|rfl|rfl|rfl<;>simp[Qe]
theorem N7 (ρ:Nat→Nat) (l:List Fl):az ρ (ef l)=ef l:=by
 rw[Yu]
 exact (List.map_congr_left fun v hv=>ti (Xv.1 (Bb 0 l) v hv)).trans (List.map_id _)
theorem Xvg (l:List Fl) (f:Fl):ef l++f.enc=ef (l++[f]):=by simp[ef]
def NS.bP (S:NS):List Fl:=S.fl.map (·.2)
set_option maxHeartbeats 4000000 in
theorem N8 (gl:Nat→AV) (S:NS) (T:WT) (hS:NJ S) (hT:T.wf):GD Tryz.prog gl 24 [.ptr 67 0] (Qm S T) 70 (List.range 70) (.isl S.bP.length (ef S.bP)) (Qm S T):=by
 refine U7.gq (of_decide_eq_true rfl) (Zx hT) (fun b hb=>List.mem_range.1 hb) fun c a7 hg=>?_
 subst hg
 conv in aQ _ _=>cbv
 have aM:=fun n b hb=>Yp (S:=S) hT n b hb
 have bH:=Kq S T
 have rO:=wi S T
 have wm:=wj S T
 have aX:=NS.aS hS.wf
 have fa:=NS.fa hS.wf
 have jE:=NS.jE hS.wf
 have iM:=DU S
 have dK:=yy S.fl
 have h48:=hS.len
 have iJ:S.bP.length=S.fl.length:=by simp[NS.bP]
 refine Qh @aM ?_
 (refine Qa (fun h1=>?_) (fun h1=>?_)<;>try exact h1.elim)
 refine Qh (An @bH (An @aX @jE)) ?_
 refine xe 3 10 rfl (by exact Qu @aM) ?_
 unfold St.named
 refine Yk (fun k:Nat=>k≤S.fl.length) (fun k=>⟨[(0,.ptr 67 0),(3,.sl 10 70 0 k k),(11,.sl 1 69 0 S.fl.length S.fl.length),(12,.int .i64 S.fl.length),(13,.int .i64 k)],[(70,.cells (ef (S.bP.take k)))]++Qm S T,71⟩) (fun k=>S.fl.length - k) U7.mixed (List.range 70) a7
  ⟨0,Nat.zero_le _,To.dH (by exact Qw) fun b=>rfl⟩ fun k hk=>?_
 refine Qg ?_
 (refine Qa (fun h2=>?_) (fun h2=>?_)<;>try exact h2.elim)
 ·have bF:k < S.fl.length:=by omega
  have kn:=Vb S bF
  have dI:=pU S.fl[k].1
  have dT:=Ns hS.dP bF (.agg Fl.zero)
  have eG:ef (S.bP.take k)++S.fl[k].2.enc=ef (S.bP.take (k + 1)):=by
   rw[Xvg,List.take_succ]
   congr 2
   simp[NS.bP,bF]
  have lT:(ef (S.bP.take k)).length=k * 10:=by rw[N6,List.length_take];omega
  generalize S.fl[k]=q at *
  obtain ⟨x,⟨⟨p0,p1,p2,p3,p4⟩,g0,g1,g2,g3,g4⟩⟩:=q
  unfold Fl.enc Wf at dT eG
  dsimp only at dT kn dI eG
  refine Qh (An @wm (An @iM (An @kn (An @bH (An @aX @fa))))) ?_
  ((first|refine nv Wj ?_|refine Ud Wj ?_);(have au:=@rO;have aH:=@dK;have aV:=@dI;have bD:=@dT;have cC:=@aM;refine XG ?_;clear au aH aV bD cC;((try (repeat' with_reducible refine And.intro ?_ ?_));(try any_goals (first|refine zm ?_|exact CL|fail)))))
  refine Jd @aM ?_
  refine Jd (An @aM (An @lT @eG)) ?_
  have rU:=Bb 71 (S.bP.take (k + 1))
  have Hz:=fun ρ=>N7 ρ (S.bP.take (k + 1))
  refine ⟨k + 1,by omega,?_,by omega⟩
  generalize ef (S.bP.take (k + 1))=E at *
  refine To.jG (ex:=[(72,_),(70,.dead),(71,_),(70,_)]) (ex':=[(70,.cells E)]) (fun b=>if b=70 then 72 else b) hT ((Qj hT).more (by exact rU)) aP av av aP (fun b hb=>if_neg af) (fun b h h2=>?_) (fun b b' h1 h2 h3 h4 e=>?_) rfl rfl rfl (fun b h1 h2=>?_) ?_
  ·split<;>omega
  ·omega
  ·obtain rfl:b=70:=by omega
   show Bk.cells E=Bk.cells (az _ E)
   rw[Hz]
  ·simp[Qy,Qe,ai,look,aE,az]
 ·obtain rfl:k=S.fl.length:=by omega
  have dz:S.bP.take S.fl.length=S.bP:=List.take_of_length_le (by rw[iJ];exact Nat.le_refl _)
  have a8:((ef S.bP).drop 0).take (S.fl.length * 10)=ef S.bP:=by rw[List.drop_zero,List.take_of_length_le (by rw[N6,iJ];exact Nat.le_refl _)]
  have Ek:=Jy (ef S.bP)
  have fc:=Bb 70 S.bP
  rw[dz]
  refine Qg ?_
  refine ⟨(),(To.fZ (b:=70) (i:=0) rfl rfl).trans ?_⟩
  rw[a8,iJ]
  exact To.drop (ex:=[(70,.dead),(70,_)]) (Qj hT) av aP (by simp[Qy,Qe,look,aE,Ek,fc])
theorem To.V1 {p:List Nat} {s:St} {b:Nat} {kvs:List (AV × AV)} (hb:Qc s.h s.n b=.aC kvs true):To p s ⟨s.t,(b,.aC kvs false)::s.h,s.n⟩:=fun c g a w _ hR=>by
 have hH:∀ i,(⟨s.t,(b,.aC kvs false)::s.h,s.n⟩:St).fs.H i=if b=i then .aC kvs false else s.fs.H i:=fun i=>by
  show Qc ((b,_)::s.h) s.n i=_
  rw[Qd];rfl
 refine ⟨g,hR.gg (fun k v hv=>hv) (fun i h=>?_) fun i=>?_⟩
 ·rw[hH];split
  ·rename_i e;subst e
   rw[show s.fs.H b=.aC kvs true from hb]at h
   generalize g b=m at h ⊢
   cases h with
   | aC hb hs j4 hv hc ha hd=>exact .aC hb hs j4 hv hc ha (fun h=>by cases h)
  ·exact h
 ·rw[hH];split
  ·rename_i e;subst e;rw[show s.fs.H b=.aC kvs true from hb];exact Iff.rfl
  ·exact Iff.rfl
def zT:List AV:=Qp (List.replicate 18 0)++Zp (List.replicate 3 false)++Qp (List.replicate 8 0)
theorem To.wkC {p:List Nat} {s:St} {b:Nat} {A B:List AV} {x y:AV} (hb:Qc s.h s.n b=.cells (A++x::B)) (h:Wk x y):To p s ⟨s.t,(b,.cells (A++y::B))::s.h,s.n⟩:=To.R4 hb (by simp) fun j hj=>by
 have e:∀ z:AV,(A++z::B).getD j .any=if j < A.length then A.getD j .any else if j=A.length then z else B.getD (j - A.length - 1) .any:=fun z=>by
  simp only[List.getD]
  by_cases h1:j < A.length
  ·rw[if_pos h1,List.getElem?_append_left h1]
  ·rw[if_neg h1,List.getElem?_append_right af]
   by_cases h2:j=A.length
   ·subst h2;simp
   ·rw[if_neg h2,show j - A.length=(j - A.length - 1) + 1 by omega,List.getElem?_cons_succ]
    simp
 rw[e,e]
 split
 ·exact Wk.refl _
 ·split
  ·exact h
  ·exact Wk.refl _
set_option maxHeartbeats 8000000 in
theorem N9 (gl:Nat→AV) (b:Bool):GS Tryz.prog gl 28 [.bool b] [] 0 (.ptr 67 0) (Qm (NS.new b) (Ke 0 (.aC [] true))) 70:=by
 have b6:=Xwy gl 0 aP
 have v8:=Nd 0 aP
 have hT:=v8.wf
 refine Xyb.VZ (of_decide_eq_true rfl) fun c a7 hg=>?_
 subst hg
 conv in aQ _ _=>cbv
 generalize Ke 0 (.aC [] true)=T0 at *
 have np:=Yfc hT (σ:=fun b=>b) (m:=67) fun b hb=>hb
 refine Qg ?_
 refine DR b6 (WT.gR hT) ?_ av ?_
 ·exact Qw
 dsimp only[List.nil_append]
 have hid:Xc (fun b=>0 + b) T0.hb=T0.hb:=by
  have e:(fun b:Nat=>0 + b)=id:=by funext b;exact Nat.zero_add b
  rw[e,Jz]
 have Dp:=fun n b hb=>WT.oU hT n (b:=b) hb
 rw[hid]
 refine Qg ?_
 (refine KR Wj ?_;(have au:=@Dp;refine XG ?_;clear au;((try (repeat' with_reducible refine And.intro ?_ ?_));(try any_goals (first|refine zm ?_|exact CL|fail)))))
 refine (To.wkC (b:=68) (A:=zT) (x:=.nils) (y:=.isl 0 []) (B:=[.mp 67,.nils,.int .i64 0,.ptr 0 0,.int .i64 0,.int .i64 4,.int .i64 0,.bool b]) rfl Wk.nils).trans ?_
 refine (To.kP (b:=68) (j:=31) (es:=1) (cs:=zT++.isl 0 []::[.mp 67,.nils,.int .i64 0,.ptr 0 0,.int .i64 0,.int .i64 4,.int .i64 0,.bool b]) rfl rfl ?_).trans ?_
 ·change Qc _ _ _=Bk.free
  dsimp only
  rw[Qd,if_neg aP,Qd,if_neg aP,Qd,if_neg aP,Dp 69 69 aP]
  rfl
 refine (To.V1 (b:=67) (kvs:=[]) rfl).trans ?_
 refine To.lY (fun i=>if i=67 then 68 else if i=68 then 67 else i) (Qj hT) (fun i hi=>by simp at hi) (fun i j h1 h2 e=>?_) (fun i hi=>?_) ?_
 ·(repeat' split at e)<;>omega
 ·rcases (by omega:i < 67∨i=67∨i=68∨i=69) with h|rfl|rfl|rfl
  ·have e1:(if i=67 then 68 else if i=68 then 67 else i)=i:=by rw[if_neg af,if_neg af]
   have e2:Qc (Qm (NS.new b) T0) 70 i=Qc T0.hb 67 i:=by
    unfold Qm
    rw[Qd,if_neg af,Qd,if_neg af,Qd,if_neg af]
    exact ((WT.gR hT).live h 70).1
   rw[e1,e2,Ko (g:=id) (fun j hj=>by rw[if_neg af,if_neg af];rfl) (Nh hT h).2,Wg]
   dsimp only
   rw[Qd,if_neg af,Qd,if_neg af,Qd,if_neg af,Qd,if_neg af,Qd,if_neg af,Qd,if_neg af]
   exact ((WT.gR hT).live h _).1
  ·rfl
  ·rfl
  ·rfl
 ·simp[Qy,Qe,look,aE]
def u3:Pk:=⟨17,167772161,5,9,6,9,0,0,0,0,0,[]⟩
def qe:List UInt8:=[69,0,0,28,0,0,0,0,9,17,167,200,10,0,0,1,0,0,0,9,0,5,0,6,0,8,245,201]
def tm:List UInt8:=[69,0,0,28,0,0,0,0,8,17,118,199,203,0,113,1,0,0,0,9,4,0,0,6,0,8,191,205]
def El:Mp:=⟨17,0,5,0,1024⟩
def HC:Tb:=⟨⟨1::List.replicate 17 0,List.replicate 3 false⟩,1::List.replicate 7 0,[El]⟩
def yK:NS:=⟨HC,[(1,⟨El,9,6,2,0,20⟩)],1,0,1,4,1,false⟩
def Oa:List UInt8:=jD 0 [⟨0,0,0,0,false⟩]
theorem Ydi:Xu u3=qe:=by decide +kernel
theorem Ycn:Yw u3=0:=by decide +kernel
theorem Yfo:bY qe=0:=by decide +kernel
theorem Ob:aB qe=u3:=by
 have h:(aB qe).enc=u3.enc:=rfl
 rfl
theorem Yfs:Zf qe 0 3405803777 1024=tm:=by decide +kernel
theorem Yep:bY tm=0:=by decide +kernel
theorem Yej:(aB tm).aA=3405803777∧(aB tm).ah=1024:=by decide +kernel
theorem Yff:Oa.length=89:=by decide +kernel
theorem Ybx:(NS.new false).tb.cz 17 0 5 0=(HC,El,true,0):=by
 have hg:Wu (NS.new false).tb=true:=(xO _).2 (Ur.2 (NK.new false).gt)
 unfold Tb.cz
 rw[hg]
 rfl
theorem V2:(NS.new false).step ⟨1,0,0,qe⟩=(⟨0,tm,false,Oa⟩,yK):=by
 have e:(NS.new false).step ⟨1,0,0,qe⟩=NS.out { (NS.new false) with aF:=1 } qe 0:=rfl
 rw[e,DY,Yfo,Ob]
 have ho:({ (NS.new false) with aF:=1 }:NS).tb.cz 17 0 5 0=(HC,El,true,0):=Ybx
 have pC:({ (NS.new false) with aF:=1 }:NS).tb.cz u3.ae (u3.aA - 167772161) u3.ah 0=(HC,El,true,0):=ho
 rw[pC]
 rw[if_neg av,if_neg aP,if_neg aP,if_neg aP,if_neg aP,if_neg aP,if_neg aP,if_neg aP]
 unfold NS.opened
 rw[Ob]
 unfold NS.dQ
 rw[Ob]
 dsimp only
 rw[if_neg aP]
 show ((⟨0,Zf qe 0 3405803777 1024,false,_⟩:Rp),_)=_
 rw[Yfs]
 rfl
theorem HD:FT Tryz.prog 30 Tryz.f30 (aQ Tryz.prog Tryz.f30) [.t 6,.t 7]:=.of Tryz.func30
theorem Xjn:FT Tryz.prog 33 Tryz.f33 (aQ Tryz.prog Tryz.f33) [.t 2]:=.of Tryz.func33
theorem Xr0:FT Tryz.prog 50 Tryz.f50 (aQ Tryz.prog Tryz.f50) [.t 0]:=.of Tryz.func50
theorem Xw1 (gl:Nat→AV) (p:Pk) (h:Yw p=0):PS Tryz.prog gl 33 [.agg p.enc] (.str (Xu p)):=by
 refine Xjn.ps (of_decide_eq_true rfl) (by simp[Qe]) fun c hN hg=>?_
 conv in aQ _ _=>cbv
 have hb:=Xwd c.gl p
 unfold Lg at hb
 rw[if_pos h]at hb
 generalize Xu p=B at *
 obtain ⟨p1,p2,p3,p4,p5,p6,p7,p8,p9,fS,fT,pb⟩:=p
 unfold Pk.enc at hb ⊢
 dsimp only at hb ⊢
 refine Qg ?_
 exact Rq hb
def yL (d:Option Nat) (r:AV) (t:List (Nat × AV)):List (Nat × AV):=match d with
 | some d=>(d,r)::t
 | none=>t
theorem To.wy {p:List Nat} {S:NS} {T:WT} {t t':List (Nat × AV)} {ex:List (Nat × Bk)} {n:Nat} {d:Option Nat} {r:AV} (hT:T.wf) (hn:70≤n) (hp:∀ b ∈ p,b=67) (hex:∀ q ∈ ex,70≤q.1∧q.1 < n)
  (ht:Qy (cD id [67] n) 70 (yL d (aE (cD id [67] n) r) t) t'):To p (Jb t ex (Qm S T) id [67] 70 n d r) ⟨t',Qm S T,70⟩:=by
 have ew:∀ q ∈ ex,jM (cD id [67] n) 70 q.1:=fun q hq=>Yac (fun b hb _ e=>by have:=(hex q hq).1;have e:b=q.1:=e;omega) (hex q hq).2
 have bU:∀ b b',b < 70→b' < 70→cD id [67] n b=cD id [67] n b'→b=b':=fun b b' h1 h2 e=>Lb (m:=70) (fun b b' _ _ e=>e) (fun b hb=>by show b < n;omega) h1 h2 e
 have:=To.home (p:=p) (t:=yL d (aE (cD id [67] n) r) t) (t':=t') (ex:=ex) (n:=n + 70) (Qj (S:=S) hT) bU ew (fun b hb=>by rw[hp b hb];exact ⟨rfl,by decide⟩) ht
 cases d<;>exact this
theorem V3 {hh:List (Nat × Bk)}:Xc (fun b=>0 + b) hh=hh:=by
 have e:(fun b:Nat=>0 + b)=id:=by funext b;exact Nat.zero_add b
 rw[e,Jz]
section
variable {P:Program} {c:Cx} {h h1 ex:List (Nat × Bk)} {m n:Nat} {v:Bool} {d:Option Nat} {kk:PK} {f:FuncId} {xs:List TV} {args:List AV} {r:AV} {t:List (Nat × AV)} {r0:List bG} {K:St→Prop} {gd:Option (Nat × Bool)}
theorem V4 (hq:GD P c.gl f args h m (List.range m) r h1) (H:HL h m) (H1:HL h1 m) (hr:Qe m r) (hn:m≤n) (hex:∀ q ∈ ex,m≤q.1∧q.1 < n) (hk:kk=(bif v then .cX else .call f))
  (hb:gB (⟨t,ex++h,n⟩:St).fs gd=some true∧fE (⟨t,ex++h,n⟩:St).fs gd)
  (hc:Qv none (aG c.gl (⟨t,ex++h,n⟩:St).fs xs)∧lR v f ((aG c.gl (⟨t,ex++h,n⟩:St).fs xs).map Qk)=some (f,args)∧ai m args) (hx:XP P c r0 K (St.bQ ⟨t,ex++h1,n + m⟩ d r)):Yh P c (.pd d kk xs gd) r0 K ⟨t,ex++h,n⟩:=by
 have aY:=yw (v:=v) H hn (fun b hb=>List.mem_range.1 hb) hex hc
 have hA:=Ad (d:=d) hq aY hk H1 hr
 rw[Jz,DT H1 hr]at hA
 exact .inl ⟨_,_,FL hb.1 hb.2 hA,hx⟩
end
set_option maxHeartbeats 4000000 in
theorem V5 (gl:Nat→AV) (h0:gl 0=.xp (Qp Xo) 0):PS Tryz.prog gl 50 [] (.bool true):=by
 have b6:=N9 gl false
 have v8:=Nd 0 aP
 have hT:=v8.wf
 obtain ⟨T1,D1,dp,jF,rY⟩:=N3 gl h0 (NS.new false) _ [] (NK.new false) v8 (by exact List.Perm.refl _) ⟨1,0,0,qe⟩ aP
 have bu:=dp.wf
 rw[V2]at rY dp
 dsimp only[Ac.enc,Rp.enc]at rY
 have iJ:=N8 gl yK T1 (by have:=(NK.new false).step ⟨1,0,0,qe⟩;rw[V2]at this;exact this.toNI.toNJ) bu
 have ec:=xC gl tm aP
 have lU:Uu tm=.aU [.agg (aB tm).enc,.int .i64 0]:=by
  unfold Uu;rw[Yep];rfl
 rw[lU]at ec
 have kx:=Xw1 gl u3 Ycn
 rw[Ydi]at kx
 simp only[Pk.enc,u3]at kx
 obtain ⟨k2,k3⟩:=Yej
 have hL:=Yff
 generalize aB tm=K at *
 obtain ⟨K1,K2,K3,K4,K5,K6,K7,K8,K9,K10,K11,K12⟩:=K
 dsimp only at k2 k3
 subst k2 k3
 unfold Pk.enc at ec
 dsimp only at ec
 generalize qe=F at *
 generalize tm=G at *
 generalize Oa=L at *
 generalize Ke 0 (.aC [] true)=T0 at *
 refine Xr0.ps (of_decide_eq_true rfl) (by simp[Qe]) fun c hN hg=>?_
 subst hg
 conv in aQ _ _=>cbv
 refine Qg ?_
 refine DR b6 (Qj hT) ?_ av ?_
 ·exact Qw
 dsimp only[List.nil_append]
 rw[V3]
 refine Qg ?_
 (refine Qa (fun h1=>?_) (fun h1=>?_)<;>try exact h1.elim)
 refine Qg ?_
 refine Jj kx ?_
 refine pZ (v:=false) (pp:=[]) (ex:=[]) (s3:=⟨[(1,.ptr 67 0),(12,.agg [.int .i64 0,.str G,.bool false,.str L])],Qm yK T1,70⟩) (by rw[hN];simp) rY (Qj hT) (Qj bu) (by simp[Qe,ai]) aP av av rfl ?_ ?_ ?_
 ·exact Qu @Ya
 ·refine To.wy bu aP av av ?_
  simp[yL,Qy,Qe,ai,look,aE,az,wx]
 have aM:=fun n b hb=>Yp (S:=yK) bu n b hb
 refine Qh @aM ?_
 have jP:(L.length:Int)=89:=by omega
 have mD:yK.bP.length=1:=rfl
 rw[mD]at iJ
 refine Xf ec (An @aM @jP) ?_
 have pL:=Bb 70 yK.bP
 generalize ef yK.bP=fz at *
 refine V4 (v:=false) (ex:=[(71,_),(71,_),(70,_),(70,_)]) iJ (Qj bu) (Qj bu) (by simpa [Qe] using pL) aP av rfl ?_ ?_ ?_
 ·exact Qw
 ·exact Qu @Ya
 exact Qw
def lZ:Ac:=⟨0,0,0,[]⟩
noncomputable def Yo (b:Bool) (l:List Ac):Nat→NS
 | 0=>NS.new b
 | i + 1=>((Yo b l i).step (l.getD i lZ)).2
noncomputable def n7 (b:Bool) (l:List Ac) (i:Nat):Rp:=((Yo b l i).step (l.getD i lZ)).1
theorem u4 (b:Bool) (l:List Ac):∀ i,NK (Yo b l i)
 | 0=>NK.new b
 | i + 1=>(u4 b l i).step _
def tn (l:List Ac):Prop:=∀ a ∈ l,a.frame.length≤140737488351232
theorem Oc {l:List Ac} (h:tn l) (i:Nat):(l.getD i lZ).frame.length≤140737488351232:=by
 by_cases hi:i < l.length
 ·simp only[List.getD,List.getElem?_eq_getElem hi,Option.getD_some];exact h _ (List.getElem_mem hi)
 ·simp[List.getD,List.getElem?_eq_none (Nat.le_of_not_lt hi),lZ]
theorem V6 (gl:Nat→AV) (h0:gl 0=.xp (Qp Xo) 0) (b:Bool) (l:List Ac) (hl:tn l) :
  ∃ Ts:Nat→WT,Ts 0=Ke 0 (.aC [] true)∧(∀ i,∃ D,WI (Ts i) (Yo b l i).now D∧D.Perm (Yo b l i).bb) ∧
   ∀ i,GD Tryz.prog gl 20 [.ptr 67 0,.agg (l.getD i lZ).enc] (Qm (Yo b l i) (Ts i)) 70 [67] (.agg (n7 b l i).enc) (Qm (Yo b l (i + 1)) (Ts (i + 1))):=by
 have step:∀ i (T:{T:WT // ∃ D,WI T (Yo b l i).now D∧D.Perm (Yo b l i).bb}),∃ T':{T:WT // ∃ D,WI T (Yo b l (i + 1)).now D∧D.Perm (Yo b l (i + 1)).bb},
   GD Tryz.prog gl 20 [.ptr 67 0,.agg (l.getD i lZ).enc] (Qm (Yo b l i) T.1) 70 [67] (.agg (n7 b l i).enc) (Qm (Yo b l (i + 1)) T'.1):=fun i ⟨T,D,hW,hP⟩=>by
  obtain ⟨T1,D1,dp,jF,hg⟩:=N3 gl h0 (Yo b l i) T D (u4 b l i) hW hP (l.getD i lZ) (Oc hl i)
  exact ⟨⟨T1,D1,dp,jF⟩,hg⟩
 let f:∀ i,{T:WT // ∃ D,WI T (Yo b l i).now D∧D.Perm (Yo b l i).bb}→{T:WT // ∃ D,WI T (Yo b l (i + 1)).now D∧D.Perm (Yo b l (i + 1)).bb}:=fun i T=>Classical.choose (step i T)
 have hf:=fun i T=>Classical.choose_spec (step i T)
 let T0:{T:WT // ∃ D,WI T (Yo b l 0).now D∧D.Perm (Yo b l 0).bb}:=⟨Ke 0 (.aC [] true),[],Nd 0 aP,List.Perm.refl _⟩
 let g:∀ i,{T:WT // ∃ D,WI T (Yo b l i).now D∧D.Perm (Yo b l i).bb}:=fun i=>Nat.rec T0 (fun i T=>f i T) i
 exact ⟨fun i=>(g i).1,rfl,fun i=>(g i).2,fun i=>hf i (g i)⟩
def hZ (l:List Ac):List AV:=l.flatMap Ac.enc
theorem V7 (l:List Ac):(hZ l).length=l.length * 4:=by
 induction l with
 | nil=>rfl
 | cons f l ih=>simp only[hZ,List.flatMap_cons,List.length_append]at ih ⊢;rw[ih];simp[Ac.enc];omega
theorem yM (n:Nat) (l:List Ac):ai n (hZ l):=by
 rw[Xv]
 intro v hv
 obtain ⟨f,_,hf⟩:=List.mem_flatMap.1 hv
 simp[Ac.enc]at hf
 rcases hf with rfl|rfl|rfl|rfl<;>simp[Qe]
theorem V8 (l:List Ac) {i:Nat} (h:i < l.length):((hZ l).drop (i * 4)).take 4=(l.getD i lZ).enc:=by
 induction l generalizing i with
 | nil=>simp at h
 | cons a l ih =>
  cases i with
  | zero=>simp[hZ,Ac.enc]
  | succ i =>
   have:=ih (i:=i) (by simpa using h)
   rw[show (i + 1) * 4=4 + i * 4 by omega,← List.drop_drop]
   simpa [hZ,Ac.enc] using this
def Ye (l:List Ac):Nat:=min l.length 100
def up (h:List (Nat × Bk)):List (Nat × Bk):=h.map fun q=>(q.1 + 70,q.2)
theorem To.eg {p:List Nat} {t t':List (Nat × AV)} {ex0 ex:List (Nat × Bk)} {S:NS} {T:WT} {N k:Nat} (H:HL (ex++Qm S T) k) (hT:T.wf) (hp:∀ b ∈ p,b < k) (h0:∀ q ∈ ex0,70≤q.1) (h1:∀ q ∈ ex,70≤q.1) (hl:∀ b,70≤b→b < k→Qc (ex0++Qm S T) N b=Qc (ex++Qm S T) k b) (ht:Qy id k t t') :
  To p ⟨t,ex0++Qm S T,N⟩ ⟨t',ex++Qm S T,k⟩ :=
 To.lY id H (fun b hb=>⟨rfl,hp b hb⟩) (fun b b' _ _ e=>e) (fun b hb=>by
  rw[Wg]
  show Qc (ex0++Qm S T) N b=_
  by_cases h:b < 70
  ·rw[Xn fun q hq e=>by have:=h0 q hq;omega,Xn fun q hq e=>by have:=h1 q hq;omega,(Qj hT).lo h N,(Qj hT).lo h k]
  ·exact hl b af hb) ht
end Go.Proofs.YtogckmommodmhaaGreatDoor
namespace Go.Proofs.YtogckmommodmhaaGreatDoor
open Go.RowKit
open Go.RowKit Go.ChangeShapes Go.WideShapes Go.Deep
set_option linter.all false
set_option linter.unusedSimpArgs false
set_option maxRecDepth 100000
theorem qN.isl {W:World} {v:Value} {n sz:Nat} {R:Nat→Nat→Value→Prop} (cE:0 < sz) (h:qN W v n sz R) (h1:∀ i j u,R i j u→u.oneCell'=true) :
  ∃ us:Nat→Value,(∀ i,i < n→∀ j,j < sz→R i j (us (i * sz + j)))∧VR (fun _=>.un) (fun _=>False) W (.isl n ((List.range (n * sz)).map fun m=>fj (us m))) v:=by
 obtain ⟨A,cap,rfl,hn,hm,hc⟩:=h.form
 rcases Nat.eq_zero_or_pos n with rfl|dU
 ·exact ⟨fun _=>undef,fun i hi=>absurd hi af,.isl (us:=fun _=>undef) hn hm (fun j hj=>by simp at hj) fun j hj=>by simp at hj⟩
 ·obtain ⟨b,o,rfl,hb,eE⟩:=hc dU
  have key:∀ i,i < n→∀ j,j < sz→W.cell? ⟨b,o + (i * sz + j),none⟩=some ((W.cell? ⟨b,o + (i * sz + j),none⟩).getD undef)∧R i j ((W.cell? ⟨b,o + (i * sz + j),none⟩).getD undef):=by
   intro i hi j hj
   obtain ⟨u,hu,hr⟩:=eE i hi j hj
   rw[hu];exact ⟨rfl,hr⟩
  refine ⟨fun m=>(W.cell? ⟨b,o + m,none⟩).getD undef,fun i hi j hj=>(key i hi j hj).2,?_⟩
  have at_:∀ m,m < n * sz→W.cell? ⟨b,o + m,none⟩=some ((W.cell? ⟨b,o + m,none⟩).getD undef)∧((W.cell? ⟨b,o + m,none⟩).getD undef).oneCell'=true:=by
   intro m hm
   have hd:m / sz < n:=Nat.div_lt_of_lt_mul (by rw[Nat.mul_comm];exact hm)
   have hr:=Nat.mod_lt m cE
   have e:m / sz * sz + m % sz=m:=by rw[Nat.mul_comm];exact Nat.div_add_mod m sz
   have:=key _ hd _ hr
   rw[e]at this
   exact ⟨this.1,h1 _ _ _ this.2⟩
  refine .isl (us:=fun m=>(W.cell? ⟨b,o + m,none⟩).getD undef) hn hm (fun j hj=>⟨b,o,rfl,?_,id,?_⟩) fun j hj=>?_
  ·simp only[List.length_map,List.length_range]at hj;exact (at_ j hj).1
  ·simp only[List.length_map,List.length_range]at hj;exact (at_ j hj).2
  ·simp only[List.length_map,List.length_range]at hj
   have:((List.range (n * sz)).map fun m=>fj ((W.cell? ⟨b,o + m,none⟩).getD undef)).getD j .any=fj ((W.cell? ⟨b,o + j,none⟩).getD undef):=by simp[List.getD,hj]
   rw[this]
   exact EV _
end Go.Proofs.YtogckmommodmhaaGreatDoor
namespace Go.Proofs.YtogckmommodmhaaGreatDoor
open Go.RowKit
open Go.RowKit Go.ChangeShapes Go.WideShapes
set_option linter.all false
set_option linter.unusedSimpArgs false
set_option maxRecDepth 100000
end Go.Proofs.YtogckmommodmhaaGreatDoor
namespace Go.Proofs.YtogckmommodmhaaGreatDoor
open Go.RowKit
open Go.RowKit Go.ChangeShapes Go.WideShapes Go.Deep
set_option linter.all false
set_option linter.unusedSimpArgs false
set_option maxRecDepth 100000
theorem V9:((Tryz.prog.fieldsOf 23).toList.map (·.type))=[3,3,3,9]:=by kernel_rfl
theorem WA:Tryz.prog.underlying 23=some (.struct (Tryz.prog.fieldsOf 23)):=by kernel_rfl
theorem Xyj:(Tryz.prog.fieldsOf 23).size=4:=by kernel_rfl
theorem Yco:oneCellFields Tryz.prog (Tryz.prog.fieldsOf 23)=true:=by kernel_rfl
theorem Xwu:Tryz.prog.cellsOf 23=(Tryz.prog.fieldsOf 23).size:=by kernel_rfl
theorem Xwx:Tryz.prog.bytesOf 23=40:=by kernel_rfl
def Od {H:Type} (a:Ac) (d:DataW H):Prop:=∃ parts,d=.agg parts∧parts[3]?=some (.lit (.string a.frame))
theorem WB {H:Type} {P:Program} {e:TypeId} {d:DataW H} {n:Nat}:∀ {es:List (DataW H)},d ∈ es→n ∈ d.weights P e→n ∈ DataW.weightsAll P e es
 | d0::es,hd,hn=>by
  simp only[DataW.weightsAll,List.mem_append]
  rcases List.mem_cons.1 hd with rfl|hd
  ·exact .inl hn
  ·exact .inr (WB hd hn)
theorem Od.weight {H:Type} {a:Ac} {d:DataW H} (h:Od a d):a.frame.length ∈ d.weights Tryz.prog 23:=by
 obtain ⟨parts,rfl,h3⟩:=h
 simp only[DataW.weights,WA,V9]
 exact DataW.weights_mem_each (j:=3) rfl h3 _ (by simp[DataW.weights])
theorem Xuy {j:Nat} {f:Field} (h:(Tryz.prog.fieldsOf 23)[j]?=some f):[3,3,3,9][j]?=some f.type:=by
 rw[← V9,List.getElem?_map,Array.getElem?_toList,h];rfl
section
variable {H:Type} {enc:TypeId × Value→H} {w:World} {base:Nat} {spare:Nat→Bool} {held:Bool}
def WC (d:DataW H) (i j:Nat) (u:Value):Prop:=∃ es sp parts,d=.slice es sp∧es[i]?=some (.agg parts) ∧
 ((j < 3∧∃ z,u=.int .i64 z)∨(j=3∧∃ s:ByteArray,u=.string s∧parts[3]?=some (.lit (.string s.data.toList))))
set_option maxRecDepth 100000 in
theorem Oe {b0:Nat} {v:Value} {d:DataW H} {p:List MemPlace} (fA:Value.okWide Tryz.prog w .any b0 44 v) (h:DataW.Trod enc Tryz.prog w base spare held 44 v d p) :
  ∃ n,(d=.nil∧n=0∨∃ es sp,d=.slice es sp∧es.length=n)∧qN w v n 4 (WC d):=by
 obtain ⟨A,len,cap,rfl⟩:=okWide_slice Tryz.underlying44 fA
 obtain ⟨fuel,h⟩:=h
 have cE:=Xyj
 rcases Qmt Tryz.underlying44 WA Yco Xwu h with ⟨h0,h1⟩|⟨a,rla,rma,m,D,Pl,iw,hb,hl,hm,CJ,hx,hi⟩
 ·simp[Value.cells]at h0
  obtain ⟨rfl,rfl,rfl⟩:=h0
  exact ⟨0,.inl ⟨(Prod.mk.inj h1).1,rfl⟩,⟨none,0,rfl,Nat.le_refl _,by unfold maxLen;omega,fun h=>by omega⟩⟩
 ·simp[Value.cells]at iw
  obtain ⟨rfl,rfl,rfl⟩:=iw
  refine ⟨len,.inr ⟨_,_,(Prod.mk.inj hx).1,by simp⟩,⟨some a,cap,rfl,hl,hm,fun h0=>?_⟩⟩
  have Ly:len≤m:=by rw[CJ];split<;>omega
  obtain ⟨ab,ao,WD⟩:=a
  obtain ⟨ys,n',_,_,_,hf⟩:=hi 0 af
  obtain ⟨v0,y0,jr,_,_⟩:=hf 0 _ (Array.getElem?_eq_getElem (by rw[cE];decide))
  have nO:WD=none:=by
   simp only[Nat.zero_mul,Nat.add_zero,Addr.add,if_pos]at jr
   unfold World.cell? at jr
   cases WD with
   | none=>rfl
   | some s=>revert jr;cases w.heap[ab]? with
    | none=>simp
    | some o=>cases o<;>simp
  subst nO
  refine ⟨ab,ao,rfl,?_,fun i aI j hj=>?_⟩
  ·rcases Nat.lt_or_ge ab w.heap.size with h|h
   ·exact h
   ·simp only[Nat.zero_mul,Nat.add_zero,Addr.add,if_pos]at jr
    unfold World.cell? at jr
    rw[Array.getElem?_eq_none h]at jr
    cases jr
  ·obtain ⟨ys,n',hD,_,vB,hf⟩:=hi i af
   have fD:j < (Tryz.prog.fieldsOf 23).size:=by rw[cE];exact hj
   obtain ⟨u,y,hc,hy,mq⟩:=hf j _ (Array.getElem?_eq_getElem fD)
   rw[Addr.add_mid,cE]at hc
   refine ⟨u,hc,_,_,ys.map (·.1),(Prod.mk.inj hx).1,by simp[aI,hD],?_⟩
   have ht:=Xuy (Array.getElem?_eq_getElem fD)
   generalize (Tryz.prog.fieldsOf 23)[j]=f at ht mq
   rcases (by omega:j=0∨j=1∨j=2∨j=3) with rfl|rfl|rfl|rfl
   ·have e:f.type=3:=by simpa using ht.symm
    rw[e]at mq
    obtain ⟨z,hz,_⟩:=DataW.trod_int Tryz.underlying3 mq
    exact .inl ⟨by decide,z,by simpa using hz⟩
   ·have e:f.type=3:=by simpa using ht.symm
    rw[e]at mq
    obtain ⟨z,hz,_⟩:=DataW.trod_int Tryz.underlying3 mq
    exact .inl ⟨by decide,z,by simpa using hz⟩
   ·have e:f.type=3:=by simpa using ht.symm
    rw[e]at mq
    obtain ⟨z,hz,_⟩:=DataW.trod_int Tryz.underlying3 mq
    exact .inl ⟨by decide,z,by simpa using hz⟩
   ·have e:f.type=9:=by simpa using ht.symm
    rw[e]at mq
    obtain ⟨s,hz,he,_⟩:=DataW.trod_string Tryz.underlying9 mq
    exact .inr ⟨rfl,s,by simpa using hz,by rw[List.getElem?_map,hy,he];rfl⟩
theorem qN.aF {v:Value} {d:DataW H} {n:Nat} (h:qN w v n 4 (WC d)) (hn:d=.nil∧n=0∨∃ es sp,d=.slice es sp∧es.length=n) {ts:List TypeId} {ds:List (DataW H)} (cE:(DataW.weightsEach Tryz.prog ts ds).all (·≤reachBytes)=true) {j:Nat} (ht:ts[j]?=some 44) (hd:ds[j]?=some d) :
  ∃ l:List Ac,l.length=n∧tn l∧l.length≤140737488351232∧VR (fun _=>.un) (fun _=>False) w (.isl n (hZ l)) v:=by
 obtain ⟨us,hu,hv⟩:=h.isl aP fun i j u ⟨es,sp,parts,_,_,hr⟩=>by
  rcases hr with ⟨_,z,rfl⟩|⟨_,s,rfl,_⟩<;>rfl
 let gi (v:Value):Int:=match v with|.int _ z=>z|_=>0
 let gs (v:Value):List UInt8:=match v with|.string s=>s.data.toList|_=>[]
 let ac (i:Nat):Ac:=⟨gi (us (i * 4 + 0)),gi (us (i * 4 + 1)),gi (us (i * 4 + 2)),gs (us (i * 4 + 3))⟩
 have heq:∀ k,k≤n→(List.range (k * 4)).map (fun m=>fj (us m))=hZ ((List.range k).map ac):=fun k=>by
  induction k with
  | zero=>intro _;rfl
  | succ k ih =>
   intro hk
   rw[show (k + 1) * 4=k * 4 + 1 + 1 + 1 + 1 by omega,List.range_succ,List.range_succ,List.range_succ,List.range_succ,List.range_succ]
   simp only[List.map_append,List.map_cons,List.map_nil,List.append_assoc]
   rw[ih af]
   simp only[hZ,List.flatMap_append,List.flatMap_cons,List.flatMap_nil,List.append_nil,Ac.enc]
   congr 1
   obtain ⟨_,_,_,_,_,h0⟩:=hu k af 0 aP
   obtain ⟨_,_,_,_,_,h1⟩:=hu k af 1 aP
   obtain ⟨_,_,_,_,_,h2⟩:=hu k af 2 aP
   obtain ⟨_,_,_,_,_,h3⟩:=hu k af 3 aP
   obtain ⟨_,z0,e0⟩:=h0.resolve_right av
   obtain ⟨_,z1,e1⟩:=h1.resolve_right av
   obtain ⟨_,z2,e2⟩:=h2.resolve_right av
   obtain ⟨_,s3,e3,_⟩:=h3.resolve_left av
   have e0:us (k * 4)=_:=e0
   have e2:us (k * 4 + 1 + 1)=_:=e2
   have e3:us (k * 4 + 1 + 1 + 1)=_:=e3
   simp only[ac,gi,gs,e0,e1,e2,e3,fj]
   rw[show us (k * 4 + 0)=_ from e0]
   rfl
 refine ⟨(List.range n).map ac,by simp,fun a ha=>?_,?_,?_⟩
 ·obtain ⟨i,hi,rfl⟩:=List.mem_map.1 ha
  rw[List.mem_range]at hi
  obtain ⟨es,sp,parts,e1,e2,h3⟩:=hu i hi 3 aP
  obtain ⟨_,s3,e3,e4⟩:=h3.resolve_left av
  have hf:(ac i).frame=s3.data.toList:=by simp only[ac,gs,e3]
  have hw:(ac i).frame.length ∈ d.weights Tryz.prog 44:=by
   subst e1
   simp only[DataW.weights,Tryz.underlying44]
   refine List.mem_cons_of_mem _ (List.mem_append_left _ (WB (List.mem_of_getElem? e2) (Od.weight ⟨parts,rfl,?_⟩)))
   rw[hf];exact e4
  have:=List.all_eq_true.1 cE _ (DataW.weights_mem_each ht hd _ hw)
  simp only[reachBytes]at this
  exact of_decide_eq_true this
 ·rcases hn with ⟨_,rfl⟩|⟨es,sp,rfl,rfl⟩
  ·simp
  ·have:=sized_slice cE ht hd Tryz.underlying44
   rw[Xwx]at this
   simp only[reachBytes]at this
   simp;omega
 ·rw[heq n (Nat.le_refl n)]at hv
  exact hv
end
end Go.Proofs.YtogckmommodmhaaGreatDoor
namespace Go.Proofs.YtogckmommodmhaaGreatDoor
open Go.RowKit
open Go.RowKit Go.ChangeShapes Go.WideShapes
set_option linter.all false
set_option linter.unusedSimpArgs false
set_option maxRecDepth 100000
theorem PS.law {f:FuncId} {args:List AV} {vs:List Value} {W:World} (h:PS Tryz.prog ua f args (.bool true)) (hg:∀ i,VR (fun _=>.un) (fun _=>False) W (ua i) (.pointer (some ⟨i,0,none⟩))) (hv:bO (fun _=>.un) (fun _=>False) W args vs) :
  Calls Tryz.prog f vs.toArray W fun e W'=>e=.returned (.bool true)∧Below W.heap.size W W' :=
 (h.2 W vs (fun _=>False) (fun _ h=>h.elim) hg hv).mono fun e w' ⟨u,e1,e2,e3⟩=>by
  cases e2
  exact ⟨e1,⟨e3.os,e3.tape,e3.output,e3.size,fun k hk=>e3.eg k hk fun h=>h.elim⟩⟩
end Go.Proofs.YtogckmommodmhaaGreatDoor
namespace Go.Proofs.YtogckmommodmhaaGreatDoor
open Go.RowKit
set_option linter.all false
set_option linter.unusedSimpArgs false
set_option maxRecDepth 100000
end Go.Proofs.YtogckmommodmhaaGreatDoor
