import Derived.Test.YtogckmommodmhaaGreatDoorZw15
import Derived.Test.YtogckmommodmhaaGreatDoorZw5
import Derived.Test.YtogckmommodmhaaGreatDoorZw14
import Derived.Test.YtogckmommodmhaaGreatDoorZw11
import Derived.Test.YtogckmommodmhaaGreatDoorZw8
import Derived.Test.YtogckmommodmhaaGreatDoorZw4
import Derived.Test.YtogckmommodmhaaGreatDoorZw7
import Derived.Test.YtogckmommodmhaaGreatDoorZw2
import Derived.Test.YtogckmommodmhaaGreatDoorZw6
import Derived.Test.YtogckmommodmhaaGreatDoorRows
import Derived.KernelRfl
import Derived.SizedLaws
namespace Go.Proofs.YtogckmommodmhaaGreatDoor
open Go.RowKit
set_option linter.all false
set_option linter.unusedSimpArgs false
set_option maxRecDepth 100000
theorem VZ {S:NS} (h:NI S) (es:List Ev):NI (S.log es):=h.ko _
def V0 (gl:Nat→AV) (S:NS) (T:WT) (fn:FuncId) (args:List AV) (x:Rp × NS):Prop :=
 ∃ T' D',WI T' x.2.now D'∧D'.Perm x.2.a8∧GD Tryz.prog gl fn args (Qk S T) 70 [67] (.agg x.1.enc) (Qk x.2 T')
theorem Xyo (gl:Nat→AV) (h0:gl 0=.xp (Qo Xs) 0) (S:NS) (T:WT) (D:List Tm) (hS:NI S) (wy:S.b7≤900000) (wz:S.told≤90000) (hW:WI T S.now D) (hD:D.Perm S.a8) (ak an ad:Int) (f:List UInt8) (hf:f.length≤140737488351232) :
  V0 gl S T 58 [.ptr 67 0,.agg [.int .i64 ak,.int .i64 an,.int .i64 ad,.str f]] (S.out f ad):=by
 have key:∀ x y,S.mV f ad=(x,y)→∃ T' D' T1,WI T' x.2.now D'∧D'.Perm x.2.a8∧T1.wf∧(y=none→T'=T) ∧
   ∀ m es S1,y=some (m,es,S1)→uV gl S T T1 T' f (az f) (S.tb.cE (az f).af ((az f).aB - 167772161) (az f).ai ad).1 m es S1:=by
  intro x y hx
  have stay:∀ r:Rp × NS,r.2.now=S.now→r.2.a8=S.a8→(r,none)=(x,y)→∃ T' D' T1,WI T' x.2.now D'∧D'.Perm x.2.a8∧T1.wf∧(y=none→T'=T) ∧
    ∀ m es S1,y=some (m,es,S1)→uV gl S T T1 T' f (az f) (S.tb.cE (az f).af ((az f).aB - 167772161) (az f).ai ad).1 m es S1:=fun r h1 h2 e=>by
   obtain ⟨rfl,rfl⟩:=Prod.mk.inj e
   exact ⟨T,D,T,by rw[h1];exact hW,by rw[h2];exact hD,hW.wf,fun _=>rfl,by simp⟩
  have uW:∀ e,(S.refuse f e).2.now=S.now∧(S.refuse f e).2.a8=S.a8:=fun e=>by
   unfold NS.refuse;split<;>exact ⟨rfl,rfl⟩
  have go:∀ (m:Mp) (es:List Ev) (S1:NS) (T1:WT) (D1:List Tm),NI S1→WI T1 S1.now D1→D1.Perm S1.a8→S1.b7≤1000000→S1.told≤100000→es.length≤64→(∀ e ∈ es,Zk e.t e.s e.a e.b=true∧e.t=(es.headD ⟨0,0,0,0,false⟩).t)→0≤m.a∧m.a < 3 →
    (S.cQ (az f)≠0→GD Tryz.prog gl 93 [.ptr 67 0,.int .i64 (S.cQ (az f)),.agg (az f).enc,.bool false] (Qk S T) 70 [67] (.aU []) (Qk S1 T1)) →
    (S.cQ (az f)=0→Dp m∧GD Tryz.prog gl 91 [.ptr 67 0,.agg (Fl.enc ⟨m,(az f).dst,(az f).aj,pU (az f).af,0,0⟩)] (Qk { S with tb:=(S.tb.cE (az f).af ((az f).aB - 167772161) (az f).ai ad).1 } T) 70 [67] (.aU []) (Qk S1 T1)) →
    (S1.dP f m es,some (m,es,S1))=(x,y)→∃ T' D' T1,WI T' x.2.now D'∧D'.Perm x.2.a8∧T1.wf∧(y=none→T'=T) ∧
    ∀ m es S1,y=some (m,es,S1)→uV gl S T T1 T' f (az f) (S.tb.cE (az f).af ((az f).aB - 167772161) (az f).ai ad).1 m es S1:=by
   intro m es S1 T1 D1 N4 dH kp sO V1 hl hg ha h1 h2 e
   obtain ⟨rfl,rfl⟩:=Prod.mk.inj e
   rw[Eo]
   by_cases gC:0≤(az f).dst - 3405803777∧(az f).dst - 3405803777 < 3
   ·rw[if_pos gC]
    obtain ⟨T3,D3,nk,hP3,hi⟩:=VN gl (S1.log es) T1 D1 (VZ N4 es) sO dH kp (Yz f 0 (3405803777 + m.a) m.port) (Nat.le_trans (HJ ..) hf)
    refine ⟨T3,D3,T1,nk,hP3,dH.wf,by simp,fun m' es' S' e=>?_⟩
    obtain ⟨rfl,rfl,rfl⟩:m=m'∧es=es'∧S1=S':=by simpa using e
    exact ⟨N4.toNJ,V1,hl,hg,ha,h1,h2,fun _=>hi,fun h=>(h gC).elim⟩
   ·rw[if_neg gC]
    refine ⟨T1,D1,T1,dH,kp,dH.wf,by simp,fun m' es' S' e=>?_⟩
    obtain ⟨rfl,rfl,rfl⟩:m=m'∧es=es'∧S1=S':=by simpa using e
    exact ⟨N4.toNJ,V1,hl,hg,ha,h1,h2,fun h=>(gC h).elim,fun _=>rfl⟩
  unfold NS.mV at hx
  split at hx
  ·exact stay (_,S) rfl rfl hx
  rename_i he
  have he:bZ f=0:=Decidable.not_not.1 he
  split at hx
  ·exact stay (_,S) rfl rfl hx
  rename_i hs
  split at hx
  ·exact stay (_,S) rfl rfl hx
  split at hx
  ·exact stay (_,S) rfl rfl hx
  split at hx
  ·rename_i hk
   split at hx
   ·rename_i m hm
    obtain ⟨q,hq,e,_⟩:=Ek (S:=S) (m:=m) (r:=(az f).dst) (rp:=(az f).aj) (by unfold NS.cQ at hk;rw[hm]at hk;exact hk)
    have ek:S.cQ (az f)=q.1:=by unfold NS.cQ;rw[hm];exact e
    rw[ek]at hx
    obtain ⟨T1,D1,dH,kp,hg⟩:=Vz gl S T D hS hW hD q hq (az f) false
    have hma:=(hS.gt.maps m (List.mem_of_find?_eq_some hm)).1.2.2
    exact go m [] _ T1 D1 (hS.goes q.1 (az f) false) dH kp (by show S.b7≤_;omega) (by show S.told≤_;omega) au au hma (fun _=>by rw[ek];exact hg) (fun h=>(hk h).elim) hx
   ·exact stay (_,S) rfl rfl hx
  rename_i hk
  have gX:S.cQ (az f)=0:=Decidable.not_not.1 hk
  split at hx
  ·exact stay (_,S) rfl rfl hx
  split at hx
  ·exact stay _ (uW _).1 (uW _).2 hx
  rename_i hl
  split at hx
  ·exact stay _ (uW _).1 (uW _).2 hx
  rename_i ho
  have ho:=Decidable.not_not.1 ho
  obtain ⟨S0,mU,_,bw,bl,cd,hb⟩:=hS.opened he hs gX ae ho
  have hb:=hb (pU (az f).af)
  have nW:=bl.wf hS.wf
  have HQ:=bl.bQ hS.gt hS.wf bw
  have bJ:=(bl.has (by rw[← mU];exact ho)).1
  clear bl cd
  rw[← mU]at hb nW HQ bJ
  generalize S.tb.cE (az f).af ((az f).aB - 167772161) (az f).ai ad=o at *
  obtain ⟨T1,D1,dH,kp,hg⟩:=Vv gl { S with tb:=o.1 } T D (hS.toNJ.nb.rz nW) (by show S.b7≤_;omega) hW hD (by show S.fl.length < 48;omega) o.2.1 (az f).dst (az f).aj (pU (az f).af)
  have bc:=VE (S:={ S with tb:=o.1 }) hS.now HQ bJ false
  refine go o.2.1 (if o.2.2.1 then [({ S with tb:=o.1 }:NS).ev o.2.1 false] else []) _ T1 D1 hb dH kp (by show S.b7 + 1≤_;omega) (by show S.told≤_;omega) (by split<;>simp) (fun e he=>?_) (HQ.maps _ bJ).1.2.2 (fun h=>(h gX).elim) (fun _=>⟨(HQ.ok nW).bd _ bJ,hg⟩) hx
  split at he
  ·rename_i ht
   rw[if_pos ht]
   obtain rfl:=List.mem_singleton.1 he
   exact ⟨bc,rfl⟩
  ·cases he
 have e2:=Ye9 S f ad
 obtain ⟨x,hx⟩:∃ x,S.mV f ad=x:=⟨_,rfl⟩
 rw[hx]at e2
 obtain ⟨x,y⟩:=x
 obtain ⟨T',D',T1,h1,h2,h3,h4,h5⟩:=key x y hx
 dsimp only at e2
 subst e2
 exact ⟨T',D',h1,h2,Yd5 gl h0 S T T1 T' D hS hW h3 h1.wf ak an ad f hf _ y hx h4 h5⟩
theorem To.Ep {p:List Nat} {t t':List (Nat × AV)} {ex ex':List (Nat × Bk)} {S:NS} {T:WT} {σ:Nat→Nat} {n k r:Nat} (hT:T.wf) (H':HL (ex'++Qk S T) k) (qBa:70≤k) (km:∀ q ∈ ex',70≤q.1) (hp:∀ b ∈ p,b=67∨b=68) (bN:∀ b b',b < 67→b' < 67→σ b=σ b'→b=b') (hex:∀ q ∈ ex,∀ b,b < 67→σ b≠q.1)
  (hr:r≠67∧r≠68∧(r=69∨k≤r)) (aG:∀ b,b < 67→σ b≠67∧σ b≠68∧σ b≠r∧(σ b < 67∨k≤σ b))
  (nV:Qc (ex++Qs σ T.hb) n 67=.cells (S.tb.enc++S.Bc r (σ 0))) (pV:Qc (ex++Qs σ T.hb) n 68=.aC (fS S.fl) false) (yC:Qc (ex++Qs σ T.hb) n r=.cells (Qo S.keys)) (hl:∀ b,70≤b→b < k→Qc (ex++Qs σ T.hb) n b=Qx (nr σ r) (Qc (ex'++Qk S T) k b)) (ht:Qu (nr σ r) k t t'):To p ⟨t,ex++Qs σ T.hb,n⟩ ⟨t',ex'++Qk S T,k⟩:=by
 have yD:nr σ r 67=67:=rfl
 have uS:nr σ r 68=68:=rfl
 have rE:nr σ r 69=r:=rfl
 have rK:∀ b,70≤b→nr σ r b=b:=fun b hb=>by unfold nr;rw[if_neg ae,if_neg ae]
 have kn:∀ b,b < 70→Qc (ex'++Qk S T) k b=Qc (Qk S T) 70 b:=fun b hb=>by
  rw[Qw fun q hq e=>by have:=km q hq;omega]
  exact (Qi hT).lo hb k
 refine To.lX (nr σ r) H' (fun b hb=>?_) (fun b b' hb bH e=>?_) (fun b hb=>?_) ht
 ·rcases hp b hb with rfl|rfl<;>exact ⟨rfl,by omega⟩
 ·rcases (by omega:b < 67∨b=67∨b=68∨b=69∨70≤b) with h|rfl|rfl|rfl|h<;>rcases (by omega:b' < 67∨b'=67∨b'=68∨b'=69∨70≤b') with h'|rfl|rfl|rfl|h'
  ·rw[Kt h,Kt h']at e;exact bN _ _ h h' e
  ·rw[Kt h]at e;exact absurd e (aG _ h).1
  ·rw[Kt h]at e;exact absurd e (aG _ h).2.1
  ·rw[Kt h]at e;exact absurd e (aG _ h).2.2.1
  ·rw[Kt h,rK _ h']at e;have:=(aG _ h).2.2.2;omega
  ·rw[Kt h']at e;exact absurd e.symm (aG _ h').1
  ·rfl
  ·cases e
  ·rw[yD,rE]at e;omega
  ·rw[yD,rK _ h']at e;omega
  ·rw[Kt h']at e;exact absurd e.symm (aG _ h').2.1
  ·cases e
  ·rfl
  ·rw[uS,rE]at e;omega
  ·rw[uS,rK _ h']at e;omega
  ·rw[Kt h']at e;exact absurd e.symm (aG _ h').2.2.1
  ·rw[yD,rE]at e;omega
  ·rw[uS,rE]at e;omega
  ·rfl
  ·rw[rE,rK _ h']at e;omega
  ·rw[Kt h',rK _ h]at e;have:=(aG _ h').2.2.2;omega
  ·rw[yD,rK _ h]at e;omega
  ·rw[uS,rK _ h]at e;omega
  ·rw[rE,rK _ h]at e;omega
  ·rw[rK _ h,rK _ h']at e;exact e
 ·rcases (by omega:b < 67∨b=67∨b=68∨b=69∨70≤b) with h|rfl|rfl|rfl|h
  ·rw[Kt h,U4 hT bN hex h,kn b ae]
   have e:Qc (Qk S T) 70 b=Qc T.hb 67 b:=by
    unfold Qk
    rw[Qd,if_neg ae,Qd,if_neg ae,Qd,if_neg ae]
    exact ((WT.gT hT).live h 70).1
   rw[e]
   exact Jm (n:=67) (fun b hb=>(Kt hb).symm) (Nv hT h).2
  ·rw[yD,nV,kn 67 ae,Kj]
   show _=Bk.cells (ay (nr σ r) S.cells)
   rw[NS.jZ,uS,rE,Kt (by decide:0 < 67)]
   rfl
  ·rw[uS,pV,kn 68 ae,uQ,Vt]
  ·rw[rE,yC,kn 69 ae,uR,Vu]
  ·rw[rK b h];exact hl b h hb
theorem Xlg {D D':List Tm} (h:D.Perm D') (n:Nat):bh D n=bh D' n:=by
 unfold bh
 rw[Qzo (h.filter _)]
theorem Xyj {S:NS} (h:S.fl.Pairwise fun p q=>p.1≠q.1):S.a8.Pairwise fun a b=>a.id≠b.id:=by
 unfold NS.a8
 exact List.pairwise_map.2 h
theorem Xf9 {D:List Tm} (h:D.Pairwise fun a b=>a.id≠b.id) (n:Nat):(bh D n).Pairwise (·≠·):=by
 unfold bh
 refine List.pairwise_map.2 ?_
 have h1:=h.filter fun t=>decide (t.due < n)
 exact (List.Perm.pairwise_iff (fun {a b} (e:a.id≠b.id)=>e.symm) (Wp _)).2 h1
def NS.cut (S:NS) (k:Int):NS:={ S with fl:=S.fl.filter fun r=>!(r.1 == k) }
noncomputable def N5 (S:NS) (es:List Ev) (q:Int × Fl):NS × List Ev :=
 if ((S.cut q.1).fl.any fun r=>decide (r.2.map=q.2.map)) then (S.cut q.1,es) else
 ({ S.cut q.1 with tb:=(S.tb.cls q.2.map).1 },if (S.tb.cls q.2.map).2.1 then es++[(S.cut q.1).ev q.2.map true] else es)
theorem Xom {S:NS} (hd:S.fl.Pairwise fun p q=>p.1≠q.1) {q:Int × Fl} (hq:q ∈ S.fl) (es:List Ev):cu (S,es) q.1=N5 S es q:=by
 have hf:S.fl.find? (fun r=>r.1 == q.1)=some q:=by
  cases hx:S.fl.find? (fun r=>r.1 == q.1) with
  | none=>have:=List.find?_eq_none.1 hx q hq;simp at this
  | some r =>
   have h1:=List.find?_some hx
   rw[Ef hd (List.mem_of_find?_eq_some hx) hq (by simpa using h1)]
 unfold cu N5 NS.cut
 dsimp only
 rw[hf]
theorem Ycv {S:NS} (h:NJ S) (k:Int):NB (S.cut k) :=
 ⟨h.wf,fun q hq=>h.ids q (List.mem_filter.1 hq).1,h.dJ.sublist List.filter_sublist,h.now,h.lH⟩
theorem Xtu (S:NS) (k:Int):(S.cut k).keys=dY k S.keys:=by
 unfold NS.keys NS.cut dY
 dsimp only
 rw[List.filter_map]
 rfl
noncomputable def NS.j2 (S:NS) (d:Int) (i:Nat):NS × List Ev:=((S.ended d).take i).foldl cu (S.later d,[])
theorem V2 (S:NS) (d:Int) (i:Nat) (h:i < (S.ended d).length):S.j2 d (i + 1)=cu (S.j2 d i) (S.ended d)[i]:=by
 unfold NS.j2
 rw[List.take_succ,List.getElem?_eq_getElem h,List.foldl_append]
 rfl
theorem N6 {S:NS} (h:NI S) {d:Int} (hd:¬ (d < 1∨549755813888 - S.now < d)) (i:Nat):lI (S.later d) (S.j2 d i).1 ((S.ended d).take i) (S.j2 d i).2:=by
 obtain ⟨es,e,hE⟩:=VG (h.later hd) ((S.ended d).take i)
 unfold NS.j2
 rw[e];exact hE
theorem Yan {S:NS} (h:NI S) {d:Int} (hd:¬ (d < 1∨549755813888 - S.now < d)) {i:Nat} (hi:i < (S.ended d).length):∃ q ∈ (S.j2 d i).1.fl,q.1=(S.ended d)[i]:=by
 have hE:=N6 h hd i
 obtain ⟨t,ht,_,e⟩:=HF.1 (List.getElem_mem hi:(S.ended d)[i] ∈ bh S.a8 (S.now + d.toNat + 1))
 obtain ⟨q,hq,rfl⟩:=List.mem_map.1 ht
 refine ⟨q,?_,e⟩
 rw[hE.fl]
 refine List.mem_filter.2 ⟨hq,?_⟩
 have qx:(S.ended d).Pairwise (·≠·):=Xf9 (Xyj h.dJ) _
 have:q.1 ∉ (S.ended d).take i:=fun hm=>by
  obtain ⟨j,hj,ej⟩:=List.getElem_of_mem hm
  rw[List.length_take]at hj
  rw[List.getElem_take]at ej
  have:=(List.pairwise_iff_getElem.1 qx) j i ae hi ae
  exact this (ej.trans e)
 rw[List.contains_eq_mem]
 simpa using this
theorem Xrr {l:List (Int × Fl)} (hd:l.Pairwise fun p q=>p.1≠q.1) {q:Int × Fl} (hq:q ∈ l):xo (fS l) (.int .i64 q.1)=fS (l.filter fun r=>!(r.1 == q.1)):=by
 obtain ⟨i,hi,rfl⟩:=List.getElem_of_mem hq
 unfold xo
 rw[Hy,NG hd hi]
 dsimp only
 have hs:l=l.take i++l[i]::l.drop (i + 1):=by rw[← List.drop_eq_getElem_cons hi,List.take_append_drop]
 have iX:=List.pairwise_iff_getElem.1 hd
 have hA:(l.take i).filter (fun r=>!(r.1 == l[i].1))=l.take i:=List.filter_eq_self.2 fun r hr=>by
  obtain ⟨j,hj,rfl⟩:=List.getElem_of_mem hr
  rw[List.length_take]at hj
  rw[List.getElem_take]
  simpa using iX j i ae hi ae
 have hB:(l.drop (i + 1)).filter (fun r=>!(r.1 == l[i].1))=l.drop (i + 1):=List.filter_eq_self.2 fun r hr=>by
  obtain ⟨j,hj,rfl⟩:=List.getElem_of_mem hr
  rw[List.length_drop]at hj
  rw[List.getElem_drop]
  simpa using (iX i (i + 1 + j) hi ae ae).symm
 have hf:(l.filter fun r=>!(r.1 == l[i].1))=l.take i++l.drop (i + 1):=by
  generalize hx:l[i]=x at *
  conv=>lhs;rw[hs]
  rw[List.filter_append,List.filter_cons,if_neg au,hA,hB]
 rw[hf,List.eraseIdx_eq_take_drop_succ]
 unfold fS
 rw[List.map_append,List.map_take,List.map_drop]
theorem To.je {p:List Nat} {t t':List (Nat × AV)} {ex ex':List (Nat × Bk)} {S S':NS} {T:WT} {n k:Nat} (ρ:Nat→Nat) (hT:T.wf) (H':HL (ex'++Qk S' T) k) (hk:70≤k) (km:∀ q ∈ ex',70≤q.1) (hex:∀ q ∈ ex,67≤q.1) (hp:∀ b ∈ p,b < 70) (hρ:∀ b,b < 70→ρ b=b) (hρ2:∀ b,70≤b→b < k→70≤ρ b) (bN:∀ b b',70≤b→b < k→70≤b'→b' < k→ρ b=ρ b'→b=b')
  (nV:Qc (ex++Qk S T) n 67=.cells S'.cells) (pV:Qc (ex++Qk S T) n 68=.aC (fS S'.fl) false) (yC:Qc (ex++Qk S T) n 69=.cells (Qo S'.keys)) (hl:∀ b,70≤b→b < k→Qc (ex++Qk S T) n (ρ b)=Qx ρ (Qc (ex'++Qk S' T) k b)) (ht:Qu ρ k t t'):To p ⟨t,ex++Qk S T,n⟩ ⟨t',ex'++Qk S' T,k⟩:=by
 have kn:∀ b,b < 70→Qc (ex'++Qk S' T) k b=Qc (Qk S' T) 70 b:=fun b hb=>by
  rw[Qw fun q hq e=>by have:=km q hq;omega]
  exact (Qi hT).lo hb k
 refine To.lX ρ H' (fun b hb=>⟨hρ b (hp b hb),by have:=hp b hb;omega⟩) (fun b b' hb bH e=>?_) (fun b hb=>?_) ht
 ·by_cases h1:b < 70<;>by_cases h2:b' < 70
  ·rw[hρ b h1,hρ b' h2]at e;exact e
  ·rw[hρ b h1]at e;have:=hρ2 b' ae bH;omega
  ·rw[hρ b' h2]at e;have:=hρ2 b ae hb;omega
  ·exact bN b b' ae hb ae bH e
 ·by_cases h1:b < 70
  ·rw[hρ b h1,kn b h1]
   have N7:Qx ρ (Qc (Qk S' T) 70 b)=Qc (Qk S' T) 70 b:=by
    rw[Jm (g:=id) (fun b hb=>hρ b hb) ((Qi hT).nm h1),Kb]
   rw[N7]
   rcases (by omega:b < 67∨b=67∨b=68∨b=69) with h|rfl|rfl|rfl
   ·rw[Qw fun q hq e=>by have:=hex q hq;omega]
    have e:∀ (X:NS) (m:Nat),Qc (Qk X T) m b=Qc T.hb 67 b:=fun X m=>by
     unfold Qk
     rw[Qd,if_neg ae,Qd,if_neg ae,Qd,if_neg ae]
     exact ((WT.gT hT).live h m).1
    rw[e,e]
   ·exact nV
   ·exact pV
   ·exact yC
  ·exact hl b ae hb
theorem Xmb {S:NS} (h:S.tb.wf) (k:Int):(S.cut k).cells=S.cells.set 31 (.sl 1 69 0 (S.cut k).fl.length (S.cut k).fl.length):=by
 rw[NS.dw h 1];rfl
theorem Xwq (a b:List Ev):Yh a++Yh b=Yh (a++b):=by simp[Yh]
def bM (S:NS) (m:Mp) (x:Int):Bool:=S.fl.any fun q=>q.1 == x && decide (q.2.map=m)
theorem N8 {S:NS} (hd:S.fl.Pairwise fun p q=>p.1≠q.1) {q:Int × Fl} (hq:q ∈ S.fl) (m:Mp):bM S m q.1=decide (q.2.map=m):=by
 unfold bM
 rw[Bool.eq_iff_iff,List.any_eq_true]
 constructor
 ·rintro ⟨x,hx,h⟩
  rw[Bool.and_eq_true,beq_iff_eq]at h
  rw[← Ef hd hx hq h.1];exact h.2
 ·intro h
  exact ⟨q,hq,by rw[h];simp⟩
theorem Ye2 {S:NS} (hd:S.fl.Pairwise fun p q=>p.1≠q.1) (m:Mp):S.keys.any (bM S m)=S.fl.any fun q=>decide (q.2.map=m):=by
 unfold NS.keys
 rw[List.any_map,Bool.eq_iff_iff,List.any_eq_true,List.any_eq_true]
 constructor<;>rintro ⟨q,hq,h⟩
 ·exact ⟨q,hq,by rw[← N8 hd hq];exact h⟩
 ·exact ⟨q,hq,by show bM S m q.1=true;rw[N8 hd hq];exact h⟩
set_option maxHeartbeats 8000000 in
theorem Xpl (gl:Nat→AV) (S:NS) (T:WT) (D:List Tm) (hS:NI S) (hW:WI T S.now D) (d:Int) (hd:d < 1∨549755813888 - S.now < d):GD Tryz.prog gl 60 [.ptr 67 0,.int .i64 d] (Qk S T) 70 [67] (.agg (bT 2).enc) (Qk S T):=by
 have hT:=hW.wf
 refine NF.gq (of_decide_eq_true rfl) (Zu hT) au fun c aY hg=>?_
 subst hg
 conv in aQ _ _=>cbv
 obtain ⟨Z1,pW,sa⟩:∃ Z:Int,(549755813888:Int)=Z∧0≤Z∧Z≤549755813888:=⟨_,rfl,by decide,by decide⟩
 rw[pW]
 have aM:=fun n b hb=>Yl (S:=S) hT n b hb
 have bE:=Kj S T
 have aW:=NS.aP hS.wf
 have jc:=NS.jc hS.wf
 have eY:=hW.gV c.gl
 have yJ:=hS.now
 refine Qh (An @aM (An @bE (An @aW @jc))) ?_
 refine Vr (ex:=[(71,_),(70,_),(67,_),(68,_),(69,_)]) eY hT aI au (by exact Qq (An @aW @jc)) (by simp[Qf]) ?_
 refine Qe ?_
 (refine Qa (fun h1=>?_) (fun h1=>?_)<;>try exact h1.elim)
 rotate_left
 ·omega
 unfold bT Rp.enc
 refine Qh @aM ?_
 exact ⟨(),To.drop (ex:=[(71,_),(71,_),(70,_)]) (Qi hT) au au (by simp[Qu,Qf,ah,look,aD,ay])⟩
set_option maxHeartbeats 8000000 in
theorem Xu5 (gl:Nat→AV) (h0:gl 0=.xp (Qo Xs) 0) (S:NS) (T:WT) (D:List Tm) (hS:NI S) (wz:S.told≤90000) (hW:WI T S.now D) (hD:D.Perm S.a8) (d:Int) (hd:¬ (d < 1∨549755813888 - S.now < d)):∃ T' D',WI T' (S.tick d).2.now D'∧D'.Perm (S.tick d).2.a8∧GD Tryz.prog gl 60 [.ptr 67 0,.int .i64 d] (Qk S T) 70 [67] (.agg (S.tick d).1.enc) (Qk (S.tick d).2 T'):=by
 have hT:=hW.wf
 have yJ:=hS.now
 obtain ⟨dn,rfl⟩:∃ k:Nat,d=k:=⟨d.toNat,by omega⟩
 obtain ⟨T',lh,yK⟩:=hW.yy gl (S.now + dn)
 have hR:wm S.now D (S.now + dn)=(0,S.ended dn,S.now + dn,D.filter fun t=>decide (S.now + dn < t.due)):=by
  unfold wm NS.ended
  rw[if_neg ae,Xlg hD]
  have:((S.now:Int) + dn).toNat=S.now + dn:=by omega
  rw[this,Int.toNat_natCast]
 rw[hR]at lh yK
 dsimp only at lh yK
 have eX:=lh.wf
 rw[Ei,if_neg hd]
 have Er:=(hS.rH hd).choose_spec.2.1
 refine ⟨T',D.filter fun t=>decide (S.now + dn < t.due),?_,?_,?_⟩
 ·show WI T' (List.foldl cu (S.later dn,[]) (S.ended dn)).1.now _
  rw[Er.now];exact lh
 ·refine (hD.filter _).trans (List.Perm.of_eq ?_)
  show _=NS.a8 (List.foldl cu (S.later dn,[]) (S.ended dn)).1
  unfold NS.a8
  rw[Er.fl,List.filter_map]
  show List.map _ (S.fl.filter _)=List.map _ (S.fl.filter _)
  congr 1
  refine List.filter_congr fun q hq=>?_
  show decide (S.now + dn < q.2.due.toNat)=!((S.ended dn).contains q.1)
  rw[List.contains_eq_mem,← decide_not,decide_eq_decide]
  constructor
  ·intro hlt hm
   obtain ⟨t,ht,h1,h2⟩:=HF.1 hm
   obtain ⟨r,hr,rfl⟩:=List.mem_map.1 ht
   rw[Ef hS.dJ hr hq h2]at h1
   simp only[Int.toNat_natCast]at h1
   omega
  ·intro hm
   refine Nat.lt_of_not_le fun hle=>hm (HF.2 ⟨⟨q.1,q.2.due.toNat⟩,List.mem_map.2 ⟨q,hq,rfl⟩,?_,rfl⟩)
   show q.2.due.toNat < S.now + (dn:Int).toNat + 1
   rw[Int.toNat_natCast];omega
 refine NF.gq (of_decide_eq_true rfl) (Zu hT) au fun c aY hg=>?_
 subst hg
 conv in aQ _ _=>cbv
 obtain ⟨Z1,pW,sa⟩:∃ Z:Int,(549755813888:Int)=Z∧0≤Z∧Z≤549755813888:=⟨_,rfl,by decide,by decide⟩
 rw[pW]
 have aM:=fun n b hb=>Yl (S:=S) hT n b hb
 have bE:=Kj S T
 have aW:=NS.aP hS.wf
 have jc:=NS.jc hS.wf
 have uO:=NS.uO hS.wf
 have eY:=hW.gV c.gl
 have hr4:=hS.ref
 obtain ⟨v,hv⟩:∃ v:Nat,v=min 4 (S.ref + min dn 4):=⟨_,rfl⟩
 obtain ⟨m1,nG⟩:∃ m1:Nat,m1=min dn 4:=⟨_,rfl⟩
 have Es:∀ d1:Decidable ((4:Int) < (dn:Int)),@ite Int ((4:Int) < (dn:Int)) d1 4 dn=m1:=fun d1=>by split<;>omega
 have Et:∀ d1:Decidable ((S.ref:Int) + m1 < 4),@ite Int ((S.ref:Int) + m1 < 4) d1 (S.ref + m1) 4=v:=fun d1=>by split<;>omega
 have N9:S.later dn={ S with now:=S.now + dn,ref:=v }:=by unfold NS.later;rw[hv,Int.toNat_natCast]
 have Ee:S.cells.set 35 (.int .i64 v)=(S.later dn).cells:=by rw[N9,NS.Ee hS.wf];rfl
 have Oa:(S.later dn).cells.length=38:=NS.aP (S:=S.later dn) hS.wf
 have V3:(S.later dn).cells.getD 33 .any=.ptr 0 0:=NS.jc (S:=S.later dn) hS.wf
 refine Qh (An @aM (An @bE (An @aW @jc))) ?_
 refine Vr (ex:=[(71,_),(70,_),(67,_),(68,_),(69,_)]) eY hT aI au (by exact Qq (An @aW @jc)) (by simp[Qf]) ?_
 refine Qe ?_
 (refine Qa (fun h1=>?_) (fun h1=>?_)<;>try exact h1.elim)
 ·omega
 refine Qh (An @aW @uO) ?_
 erw [Es,Et,Ee]
 refine Qh (An @Oa @V3) ?_
 have H2:HL ([(71,.cells [.int .i64 0,.str [],.bool false,.str []]),(70,.cells [.ptr 67 0])]++Qk (S.later dn) T') 72:=((Qi eX).more (by simp[bP,ah,Qf])).more (by simp[bP,ah,Qf])
 refine sQ (v:=false) (pp:=[67]) (ex:=[(67,_),(71,_),(70,_),(67,_),(68,_),(69,_)]) (s3:=⟨[(2,.ptr 70 0),(4,.ptr 71 0),(48,.aU [.isl (S.ended dn).length (Qo (S.ended dn)),.int .i64 0])],[(71,.cells [.int .i64 0,.str [],.bool false,.str []]),(70,.cells [.ptr 67 0])]++Qk (S.later dn) T',72⟩) aY yK (WT.gT hT) (WT.gT eX) (by simp[Qf,ah,pS]) aI aI au rfl ?_ ?_ ?_
 ·exact Qq @Xz
 ·rw[Nx (by simp[Qf,ah,pS])]
  refine To.Ep (k:=72) (r:=69) eX H2 aI au au (fun b b' h h' e=>Nw aI h h' e) ?_ aI ?_ ?_ rfl rfl (fun b h1 h2=>?_) ?_
  ·intro q hq b hb e
   have h1:gM 139 b < 2∨141≤gM 139 b:=by unfold gM;split<;>omega
   simp at hq
   rcases hq with rfl|rfl|rfl|rfl|rfl|rfl<;>dsimp only at e<;>omega
  ·intro b hb
   have h1:gM 139 b < 2∨141≤gM 139 b:=by unfold gM;split<;>omega
   omega
  ·rfl
  ·rcases (by omega:b=70∨b=71) with rfl|rfl<;>rfl
  ·have uX:ay (nr (gM 139) 69) (Qo (S.ended dn))=Qo (S.ended dn):=zL _ _
   simp[Qu,Qf,ah,look,aD,ay,pS,nr,uX]
 clear Ee Es Et V3
 have hEl:=Xv (S.ended dn)
 have qPa:(S.ended dn).length≤48:=Nat.le_trans (VI _ _) (by unfold NS.a8;rw[List.length_map];exact hS.len)
 refine Qe ?_
 have TJ:=fun n b hb=>Yl (S:=S.later dn) eX n b hb
 refine vF 8 5 rfl (by exact Qq @TJ) ?_
 unfold St.named
 refine Yf (fun i:Nat=>i≤(S.ended dn).length) (fun i=>⟨[(2,.ptr 70 0),(4,.ptr 71 0),(8,.sl 5 72 0 (S.j2 dn i).2.length (S.j2 dn i).2.length),(51,.isl (S.ended dn).length (Qo (S.ended dn))),(52,.int .i64 (S.ended dn).length),(53,.int .i64 i)],[(72,.cells (Yh (S.j2 dn i).2)),(71,.cells [.int .i64 0,.str [],.bool false,.str []]),(70,.cells [.ptr 67 0])]++Qk (S.j2 dn i).1 T',73⟩) (fun i=>(S.ended dn).length - i) NF.mixed [67] aY
  ⟨0,Nat.zero_le _,To.dk (by (refine XG ?_;((try (repeat' with_reducible refine And.intro ?_ ?_));(try any_goals (first|refine zm ?_|exact CL|fail))));all_goals rfl) fun b=>rfl⟩ fun i hi=>?_
 have hE:=N6 hS hd i
 have dD:=V2 S dn i
 have bJ:=Yan hS hd (i:=i)
 have hlen:(S.j2 dn i).2.length≤48:=Nat.le_trans hE.len (by rw[List.length_take];omega)
 have rL:i=(S.ended dn).length→(S.j2 dn i)=(S.ended dn).foldl cu (S.later dn,[]):=fun e=>by unfold NS.j2;rw[e,List.take_length]
 generalize hx:S.j2 dn i=x at *
 obtain ⟨Si,es⟩:=x
 dsimp only at hE bJ hlen dD ⊢
 have aM:=fun n b hb=>Yl (S:=Si) eX n b hb
 have bE:=Kj Si T'
 have oV:=uQ Si T'
 have sS:=uR Si T'
 have aW:=NS.aP hE.nj.wf
 have eJ:=NS.eJ hE.nj.wf
 have iH:=NS.iH hE.nj.wf
 have dX:=wx Si.fl
 have ib:=Bb Si
 refine Qe ?_
 (refine Qa (fun h2=>?_) (fun h2=>?_)<;>try exact h2.elim)
 ·have aG:i < (S.ended dn).length:=by omega
  have jt:=A6 (S.ended dn) i aG
  have dD:=dD aG
  obtain ⟨q,hq,MI⟩:=bJ aG
  rw[← MI]at jt dD
  rw[Xom hE.nj.dJ hq]at dD
  have dO:=Um q.1
  have ed:=HC hE.nj.dJ hq (.agg Fl.zero)
  have hqm:=hE.nj.gt.maps _ (hE.nj.kJ q hq)
  have V4:=hE.nj.ok.bd _ (hE.nj.kJ q hq)
  obtain ⟨k,⟨mp,ms,mi,ma,mt⟩,g0,g1,g2,g3,g4⟩:=q
  unfold Fl.enc Wo at ed
  dsimp only at ed jt dO hqm V4 dD
  refine Qh (An @jt (An @aM (An @bE (An @aW @eJ)))) ?_
  ((first|refine nt Ku ?_|refine Ww Ku ?_);(have aJ:=@oV;have bm:=@dX;have bL:=@dO;have cf:=@ed;have cF:=@aM;have dp:=@bE;have fc:=@aW;have jn:=@eJ;refine XG ?_;clear aJ bm bL cf cF dp fc jn;((try (repeat' with_reducible refine And.intro ?_ ?_));(try any_goals (first|refine zm ?_|exact CL|fail)))))
  refine Qh (An @bE (An @aW @eJ)) ?_
  have yi:=Xrr hE.nj.dJ hq
  dsimp only at yi
  have Eu:Si.keys.length=Si.fl.length:=by simp[NS.keys]
  have Na:=hE.nj.len
  have uz:=Xzo c.gl Si.keys ae k
  rw[Eu]at uz
  have f31:(Si.cells.set 31 (.sl 1 69 0 (dY k Si.keys).length Si.fl.length)).getD 31 .any=.sl 1 69 0 (dY k Si.keys).length Si.fl.length:=by rw[w7 (by rw[aW];decide),if_pos rfl]
  ((first|refine Lc Ku ?_|refine Ld Ku ?_);(have aJ:=@oV;have bm:=@dX;have bL:=@dO;have cf:=@yi;have cF:=@bE;have dp:=@aW;have fc:=@iH;refine XG ?_;clear aJ bm bL cf cF dp fc;((try (repeat' with_reducible refine And.intro ?_ ?_));(try any_goals (first|refine zm ?_|exact CL|fail)))))
  ((first|refine tM (ins:=[69,73]) uz ?_ ?_|refine tN (ins:=[69,73]) uz ?_ ?_|refine tQ (ins:=[69,73]) uz ?_ ?_|refine tS (ins:=[69,73]) uz ?_ ?_)<;>(have aJ:=@sS;have bm:=@aM;have bL:=@bE;have cf:=@aW;have cF:=@iH;have dp:=@f31;refine XG ?_;clear aJ bm bL cf cF dp;(try first|exact rfl|exact True.intro);((try (repeat' with_reducible refine And.intro ?_ ?_));(try any_goals (first|refine zm ?_|exact CL|fail)))))
  ·decide
  have cX:=Xtu Si k
  have lF:(dY k Si.keys).length=(Si.cut k).fl.length:=by rw[← cX];simp[NS.keys]
  have vf:=Xmb hE.nj.wf k
  rw[lF]
  rw[← cX]
  have jQ:(Si.cut k).fl.length≤Si.fl.length:=List.length_filter_le _ _
  have oX:∀ n,ah n (Yh es):=fun n=>Ul n es
  have Bm:∀ ρ,ay ρ (Yh es)=Yh es:=fun ρ=>by
   rw[Yk]
   exact (List.map_congr_left fun v hv=>sP (Xi.1 (oX 0) v hv)).trans (List.map_id _)
  have H5:HL ([(74,.cells [.int .i64 mp,.int .i64 ms,.int .i64 mi,.int .i64 ma,.int .i64 mt]),(73,.cells [.int .i64 k]),(72,.cells (Yh es)),(71,.cells [.int .i64 0,.str [],.bool false,.str []]),(70,.cells [.ptr 67 0])]++Qk (Si.cut k) T') 75:=((((Ej eX).more (by simp[bP,ah,Qf])).more (by exact oX _)).more (by simp[bP,ah,Qf])).more (by simp[bP,ah,Qf])
  refine qA (p:=[67]) aY (To.Lh 81 (y:=.sl 1 69 0 (Si.cut k).fl.length (Si.cut k).fl.length) (Wk.cap 1 69 0 _ _)) ?_
  refine qA (p:=[67]) aY (To.Gg (b:=67) (cs:=Si.cells.set 31 (.sl 1 69 0 (Si.cut k).fl.length Si.fl.length)) (cs':=(Si.cut k).cells) rfl (by rw[vf];simp) fun j hj=>?_) ?_
  ·rw[vf]
   rw[List.length_set]at hj
   by_cases e:31=j
   ·subst e
    rw[w7 (by rw[aW];decide),w7 (by rw[aW];decide),if_pos rfl,if_pos rfl]
    exact Wk.cap 1 69 0 _ _
   ·rw[w7 (by rw[aW];decide),w7 (by rw[aW];decide),if_neg e,if_neg e]
    exact Wk.refl _
  refine qA (p:=[67]) (s':=⟨[(2,.ptr 70 0),(4,.ptr 71 0),(8,.sl 5 72 0 es.length es.length),(11,.ptr 74 0),(51,.isl (S.ended dn).length (Qo (S.ended dn))),(52,.int .i64 (S.ended dn).length),(53,.int .i64 i),(81,.sl 1 69 0 (Si.cut k).fl.length (Si.cut k).fl.length),(82,.cl 101 [.ptr 70 0,.ptr 74 0])],[(74,.cells [.int .i64 mp,.int .i64 ms,.int .i64 mi,.int .i64 ma,.int .i64 mt]),(73,.cells [.int .i64 k]),(72,.cells (Yh es)),(71,.cells [.int .i64 0,.str [],.bool false,.str []]),(70,.cells [.ptr 67 0])]++Qk (Si.cut k) T',75⟩) aY ?_ ?_
  ·refine To.je (ex:=[(67,_),(67,_),(73,_),(69,_),(68,_),(74,_),(74,_),(73,_),(73,_),(72,_),(71,_),(70,_)]) id eX H5 aI au au au (fun _ _=>rfl) (fun b h _=>h) (fun b b' _ _ _ _ e=>e) rfl rfl rfl (fun b h1 h2=>?_) ?_
   ·rw[Kb]
    rcases (by omega:b=70∨b=71∨b=72∨b=73∨b=74) with rfl|rfl|rfl|rfl|rfl<;>rfl
   ·have uX:=Jf (Qo (S.ended dn))
    simp[Qu,Qf,ah,look,aD,ay,pS,uX]
  have pn:=Ycv hE.nj k
  have rI:=VC c.gl (l:=(Si.cut k).keys) (kb:=69) (f:=101) (caps:=[.ptr 70 0,.ptr 74 0]) (b:=bM (Si.cut k) ⟨mp,ms,mi,ma,mt⟩) H5 (by rw[cX,lF];omega) aI (fun n=>rfl) (by simp[ah,Qf]) (fun x hx=>by
   obtain ⟨q,hq,rfl⟩:=List.mem_map.1 hx
   rw[N8 pn.dJ hq]
   exact Xq6 c.gl pn H5 (fun n=>rfl) (fun n=>rfl) (fun n=>rfl) (fun n=>rfl) hq)
  rw[Ye2 pn.dJ,cX,lF]at rI
  refine ru (v:=false) (ex:=[]) rI H5 H5 (by simp[Qf]) aI au rfl ?_ ?_
  ·exact Qq @Xz
  unfold N5 at dD
  dsimp only at dD
  cases oU:(Si.cut k).fl.any (fun q=>decide (q.2.map=⟨mp,ms,mi,ma,mt⟩)) with
  | true =>
   rw[oU,if_pos rfl]at dD
   refine Qe ?_
   (refine Qa (fun h3=>?_) (fun h3=>?_)<;>try exact h3.elim)
   refine Qe ?_
   refine ⟨i + 1,by omega,?_,by omega⟩
   rw[dD]
   have H3:HL ([(72,.cells (Yh es)),(71,.cells [.int .i64 0,.str [],.bool false,.str []]),(70,.cells [.ptr 67 0])]++Qk (Si.cut k) T') 73:=((Ej eX).more (by simp[bP,ah,Qf])).more (by exact oX _)
   refine To.drop (ex:=[(74,_),(73,_)]) H3 au au ?_
   have uX:=Jf (Qo (S.ended dn))
   simp[Qu,Qf,ah,look,aD,ay,pS,uX]
  | false =>
   rw[oU,if_neg au]at dD
   have hC:=Xjr c.gl Si.tb hE.nj.ok ⟨mp,ms,mi,ma,mt⟩
   obtain ⟨_,_,_,vz,fJ,_,_⟩:=hE.nj.gt.cls hE.nj.wf (hE.nj.kJ _ hq)
   dsimp only at vz fJ
   unfold lU Mp.enc at hC
   dsimp only at hC
   have bE:=Kj (Si.cut k) T'
   have aM:=fun n b hb=>Yl (S:=Si.cut k) eX n b hb
   have yL:=NS.aP (S:=Si.cut k) hE.nj.wf
   have Ob:List.take 30 (Si.cut k).cells=Si.tb.enc:=NS.ef (S:=Si.cut k) hE.nj.wf
   have qRa:∀ tb,GT tb→True:=fun _ _=>trivial
   generalize Si.tb.cls ⟨mp,ms,mi,ma,mt⟩=cl at *
   obtain ⟨uY,gv,ce⟩:=cl
   dsimp only at hC fJ vz dD
   have aH:=Tb.aA fJ
   have KH:=Tb.b8 uY
   have tt:uY.enc.take 30=uY.enc:=List.take_of_length_le (by rw[aH];decide)
   have ep:=NS.En (S:=Si.cut k) hE.nj.wf fJ
   refine Qe ?_
   (refine Qa (fun h3=>?_) (fun h3=>?_)<;>try exact h3.elim)
   refine Qh (An @bE (An @yL @Ob)) ?_
   refine Qv hC (An @aM (An @aH (An @bE (An @yL (An @tt @ep))))) ?_
   refine Qh (An @bE (An @yL (An @aH (An @tt @ep)))) ?_
   cases gv with
   | false =>
    (refine Qa (fun h4=>?_) (fun h4=>?_)<;>try exact h4.elim)
    refine Qe ?_
    refine ⟨i + 1,by omega,?_,by omega⟩
    rw[dD,if_neg au]
    have H3:HL ([(72,.cells (Yh es)),(71,.cells [.int .i64 0,.str [],.bool false,.str []]),(70,.cells [.ptr 67 0])]++Qk { Si.cut k with tb:=uY } T') 73:=((Ej eX).more (by simp[bP,ah,Qf])).more (by exact oX _)
    refine To.je (ex:=[(67,_),(150,_),(150,_),(74,_),(73,_),(72,_),(71,_),(70,_)]) id eX H3 aI au au au (fun _ _=>rfl) (fun b h _=>h) (fun b b' _ _ _ _ e=>e) rfl rfl rfl (fun b h1 h2=>?_) ?_
    ·rw[Kb]
     rcases (by omega:b=70∨b=71∨b=72) with rfl|rfl|rfl<;>rfl
    ·have uX:=Jf (Qo (S.ended dn))
     simp[Qu,Qf,ah,look,aD,ay,pS,uX]
   | true =>
    (refine Qa (fun h4=>?_) (fun h4=>?_)<;>try exact h4.elim)
    rw[if_pos rfl]at dD
    have Ew:(Si.cut k).now=S.now + dn:=hE.now
    have fa:=Vs c.gl { Si.cut k with tb:=uY } T' _ (pn.rz fJ) (by show WI T' (Si.cut k).now _;rw[Ew];exact lh) ⟨mp,ms,mi,ma,mt⟩ V4 true
    unfold Mp.enc at fa
    dsimp only at fa
    rw[show ({ Si.cut k with tb:=uY }:NS).ev ⟨mp,ms,mi,ma,mt⟩ true=(Si.cut k).ev ⟨mp,ms,mi,ma,mt⟩ true from rfl]at fa
    have Ex:=Xwq es [(Si.cut k).ev ⟨mp,ms,mi,ma,mt⟩ true]
    obtain ⟨E,Oc⟩:∃ E,Yh [(Si.cut k).ev ⟨mp,ms,mi,ma,mt⟩ true]=E:=⟨_,rfl⟩
    have hE1:∀ n,ah n E:=fun n=>by rw[← Oc];exact Ul n _
    have hE5:E.length=1 * 5:=by rw[← Oc,wq];rfl
    have V5:(Yh es).length=es.length * 5:=wq es
    rw[Oc]at fa Ex
    refine Qe ?_
    refine Em (Bg (A:=[]) (B:=[(150,_),(150,_),(74,_),(73,_),(72,_),(71,_),(70,_)]) (S:=Si.cut k) (S':={ Si.cut k with tb:=uY }) (T:=T') rfl au au) ?_
    refine ru (v:=false) (ex:=[(150,_),(150,_),(74,_),(73,_),(72,_),(71,_),(70,_)]) fa (Qi eX) (Qi eX) (by simp[Qf,hE1]) aI au rfl ?_ ?_
    ·exact Qq @Xz
    have rm:=fun n b hb=>Yl (S:={ Si.cut k with tb:=uY }) eX n b hb
    refine Qe ?_
    refine Zj (An @rm (An @hE5 (An @V5 @Ex))) ?_
    refine ⟨i + 1,by omega,?_,by omega⟩
    rw[dD]
    have Ey:∀ n,ah n (Yh (es++[(Si.cut k).ev ⟨mp,ms,mi,ma,mt⟩ true])):=fun n=>Ul n _
    have hl2:(es++[(Si.cut k).ev ⟨mp,ms,mi,ma,mt⟩ true]).length=es.length + 1:=by simp
    dsimp only
    rw[hl2]
    generalize Yh (es++[(Si.cut k).ev ⟨mp,ms,mi,ma,mt⟩ true])=E2 at *
    have Od:∀ ρ,ay ρ E2=E2:=fun ρ=>by
     rw[Yk]
     exact (List.map_congr_left fun v hv=>sP (Xi.1 (Ey 0) v hv)).trans (List.map_id _)
    have H3:HL ([(72,.cells E2),(71,.cells [.int .i64 0,.str [],.bool false,.str []]),(70,.cells [.ptr 67 0])]++Qk { Si.cut k with tb:=uY } T') 73:=((Ej eX).more (by simp[bP,ah,Qf])).more (by exact Ey _)
    refine To.je (ex:=[(221,_),(72,.dead),(150,_),(150,_),(74,_),(73,_),(72,_),(71,_),(70,_)]) (fun b=>if b=72 then 221 else b) eX H3 aI au au au (fun b hb=>if_neg ae) (fun b h h2=>?_) (fun b b' h1 h2 h3 h4 e=>?_) rfl rfl rfl (fun b h1 h2=>?_) ?_
    ·split<;>omega
    ·(repeat' split at e)<;>omega
    ·rcases (by omega:b=70∨b=71∨b=72) with rfl|rfl|rfl
     ·rfl
     ·rfl
     ·show Bk.cells E2=Bk.cells (ay _ E2)
      rw[Od]
    ·have uX:ay (fun b=>if b=72 then 221 else b) (Qo (S.ended dn))=Qo (S.ended dn):=zL _ _
     simp[Qu,Qf,ah,look,aD,ay,pS,uX]
 ·obtain rfl:i=(S.ended dn).length:=by omega
  rw[← rL rfl]
  have dq:Si.told=S.told:=hE.told
  have mT:=Vo c.gl h0 Si T' hE.nj eX ae es ae (fun e he=>by
   obtain ⟨g1,g2⟩:=hE.bQ e he
   refine ⟨g2,?_⟩
   cases es with
   | nil=>cases he
   | cons e0 l=>exact g1.trans (hE.bQ e0 List.mem_cons_self).1.symm)
  rw[dq]at mT
  have V5:(Yh es).length=es.length * 5:=wq es
  have Ez:((Yh es).drop 0).take (es.length * 5)=Yh es:=by rw[List.drop_zero,List.take_of_length_le ae]
  have oX:∀ n,ah n (Yh es):=fun n=>Ul n es
  refine Qe ?_
  refine qA (p:=[67]) aY (To.gb (b:=72) (i:=106) rfl rfl) ?_
  rw[Ez]
  refine ru (v:=false) (n:=73) (ex:=[(72,.dead),(72,_),(71,_),(70,_)]) mT (Qi eX) (Qi eX) (by simp[Qf]) aI au rfl ?_ ?_
  ·exact Qq (An @Xz @oX)
  refine Qe ?_
  unfold Rp.enc
  exact ⟨(),To.drop (ex:=[(71,_),(72,.dead),(72,_),(71,_),(70,_)]) (Qi eX) au au (by simp[Qu,Qf,ah,look,aD,ay])⟩
theorem NS.kK {S:NS} (h:S.tb.wf) (v:Nat):S.cells.set 36 (.int .i64 v)=({ S with aE:=v }:NS).cells:=NS.dw h 6 _
theorem NS.jf {S:NS} (h:S.tb.wf):S.cells.take 21=S.tb.aq.enc:=by
 rw[← Tb.ea h,← NS.ef h,List.take_take];rfl
theorem NS.rM {S:NS} (h:S.tb.wf) {p:ax} (hp:p.wf):Yp S.cells 0 p.enc=({ S with tb:={ S.tb with aq:=p } }:NS).cells:=by
 unfold Yp NS.cells Tb.enc Tb.hd
 rw[List.take_zero,List.nil_append,Nat.zero_add,ax.aA hp,← ax.aA h.aq,List.append_assoc,List.append_assoc,List.append_assoc,List.drop_left]
 simp[NS.tl]
set_option maxHeartbeats 4000000 in
theorem Xw4 (gl:Nat→AV) (S:NS) (T:WT) (hw:S.tb.wf) (hT:T.wf) (ak an ad:Int) (f:List UInt8) (ha:300≤S.aE):GD Tryz.prog gl 20 [.ptr 67 0,.agg [.int .i64 ak,.int .i64 an,.int .i64 ad,.str f]] (Qk S T) 70 [67] (.agg (bT 6).enc) (Qk S T):=by
 refine yA.gq (of_decide_eq_true rfl) (Zu hT) au fun c aY hg=>?_
 subst hg
 conv in aQ _ _=>cbv
 have aM:=fun n b hb=>Yl (S:=S) hT n b hb
 have bE:=Kj S T
 have aW:=NS.aP hw
 have fe:=NS.fe hw
 refine Qh (An @aM (An @bE (An @aW @fe))) ?_
 (refine Qa (fun h1=>?_) (fun h1=>?_)<;>try exact h1.elim)
 refine Qh (An @aM (An @bE (An @aW @fe))) ?_
 (refine Qa (fun h2=>?_) (fun h2=>?_)<;>try exact h2.elim)
 ·unfold bT Rp.enc
  refine Qh @aM ?_
  exact ⟨(),To.drop (ex:=[(71,_),(71,_),(70,_)]) (Qi hT) au au (by simp[Qu,Qf,ah,look,aD,ay])⟩
 ·omega
set_option maxHeartbeats 4000000 in
theorem Yez (gl:Nat→AV) (S:NS) (T:WT) (hw:S.tb.wf) (hT:T.wf) (an ad:Int) (f:List UInt8) (ha:S.aE < 300) (r:Rp) (S1:NS) (T1:WT) (bI:T1.wf) (ho:GD Tryz.prog gl 58 [.ptr 67 0,.agg [.int .i64 1,.int .i64 an,.int .i64 ad,.str f]] (Qk { S with aE:=S.aE + 1 } T) 70 [67] (.agg r.enc) (Qk S1 T1)):GD Tryz.prog gl 20 [.ptr 67 0,.agg [.int .i64 1,.int .i64 an,.int .i64 ad,.str f]] (Qk S T) 70 [67] (.agg r.enc) (Qk S1 T1):=by
 refine yA.gq (of_decide_eq_true rfl) (Zu hT) au fun c aY hg=>?_
 subst hg
 conv in aQ _ _=>cbv
 have aM:=fun n b hb=>Yl (S:=S) hT n b hb
 have bE:=Kj S T
 have aW:=NS.aP hw
 have fe:=NS.fe hw
 have kK:=NS.kK hw (S.aE + 1)
 have dz:(S.aE:Int) + 1=((S.aE + 1:Nat):Int):=by omega
 obtain ⟨r1,r2,r3,r4⟩:=r
 unfold Rp.enc at ho ⊢
 dsimp only at ho ⊢
 refine Qh (An @aM (An @bE (An @aW @fe))) ?_
 (refine Qa (fun h1=>?_) (fun h1=>?_)<;>try exact h1.elim)
 refine Qh (An @aM (An @bE (An @aW @fe))) ?_
 (refine Qa (fun h2=>?_) (fun h2=>?_)<;>try exact h2.elim)
 ·omega
 refine Qh (An @aM (An @bE (An @aW (An @fe (An @dz @kK))))) ?_
 (refine Qa (fun h3=>?_) (fun h3=>?_)<;>try exact h3.elim)
 refine Qe ?_
 refine Em (Bg (A:=[]) (B:=[(71,_),(70,_)]) (S:=S) (S':={ S with aE:=S.aE + 1 }) (T:=T) rfl au au) ?_
 have H2:HL ([(71,.cells [.int .i64 0,.str [],.bool false,.str []]),(70,.cells [.int .i64 1,.int .i64 an,.int .i64 ad,.str f])]++Qk S1 T1) 72:=((Qi bI).more (by simp[bP,ah,Qf])).more (by simp[bP,ah,Qf])
 refine sQ (v:=false) (pp:=[67]) (ex:=[(71,_),(70,_)]) (s3:=⟨[(4,.ptr 71 0),(31,.agg [.int .i64 r1,.str r2,.bool r3,.str r4])],[(71,.cells [.int .i64 0,.str [],.bool false,.str []]),(70,.cells [.int .i64 1,.int .i64 an,.int .i64 ad,.str f])]++Qk S1 T1,72⟩) aY ho (Qi hT) (Qi bI) (by simp[Qf,ah]) aI au au rfl ?_ ?_ ?_
 ·exact Qq @Xz
 ·unfold Zr
  refine To.lJ bI H2 aI aI au au au (fun b h1 h2=>?_) ?_
  ·rcases (by omega:b=70∨b=71) with rfl|rfl<;>rfl
  ·simp[Qu,Qf,ah,look,aD,ay,wB,lw,Bh]
 have rJ:=fun n b hb=>Yl (S:=S1) bI n b hb
 refine Qh @rJ ?_
 exact ⟨(),To.drop (ex:=[(71,_),(71,_),(70,_)]) (Qi bI) au au (by simp[Qu,Qf,ah,look,aD,ay])⟩
set_option maxHeartbeats 4000000 in
theorem Yex (gl:Nat→AV) (S:NS) (T:WT) (hw:S.tb.wf) (hT:T.wf) (an ad:Int) (f:List UInt8) (ha:S.aE < 300) (r:Rp) (S1:NS) (T1:WT) (bI:T1.wf) (ho:GD Tryz.prog gl 59 [.ptr 67 0,.str f] (Qk { S with aE:=S.aE + 1 } T) 70 [67] (.agg r.enc) (Qk S1 T1)):GD Tryz.prog gl 20 [.ptr 67 0,.agg [.int .i64 2,.int .i64 an,.int .i64 ad,.str f]] (Qk S T) 70 [67] (.agg r.enc) (Qk S1 T1):=by
 refine yA.gq (of_decide_eq_true rfl) (Zu hT) au fun c aY hg=>?_
 subst hg
 conv in aQ _ _=>cbv
 have aM:=fun n b hb=>Yl (S:=S) hT n b hb
 have bE:=Kj S T
 have aW:=NS.aP hw
 have fe:=NS.fe hw
 have kK:=NS.kK hw (S.aE + 1)
 have dz:(S.aE:Int) + 1=((S.aE + 1:Nat):Int):=by omega
 obtain ⟨r1,r2,r3,r4⟩:=r
 unfold Rp.enc at ho ⊢
 dsimp only at ho ⊢
 refine Qh (An @aM (An @bE (An @aW @fe))) ?_
 (refine Qa (fun h1=>?_) (fun h1=>?_)<;>try exact h1.elim)
 refine Qh (An @aM (An @bE (An @aW @fe))) ?_
 (refine Qa (fun h2=>?_) (fun h2=>?_)<;>try exact h2.elim)
 ·omega
 refine Qh (An @aM (An @bE (An @aW (An @fe (An @dz @kK))))) ?_
 (refine Qa (fun h3=>?_) (fun h3=>?_)<;>try exact h3.elim)
 refine Qe ?_
 (refine Qa (fun h4=>?_) (fun h4=>?_)<;>try exact h4.elim)
 refine Qe ?_
 refine Em (Bg (A:=[]) (B:=[(71,_),(70,_)]) (S:=S) (S':={ S with aE:=S.aE + 1 }) (T:=T) rfl au au) ?_
 have H2:HL ([(71,.cells [.int .i64 0,.str [],.bool false,.str []]),(70,.cells [.int .i64 2,.int .i64 an,.int .i64 ad,.str f])]++Qk S1 T1) 72:=((Qi bI).more (by simp[bP,ah,Qf])).more (by simp[bP,ah,Qf])
 refine sQ (v:=false) (pp:=[67]) (ex:=[(71,_),(70,_)]) (s3:=⟨[(4,.ptr 71 0),(37,.agg [.int .i64 r1,.str r2,.bool r3,.str r4])],[(71,.cells [.int .i64 0,.str [],.bool false,.str []]),(70,.cells [.int .i64 2,.int .i64 an,.int .i64 ad,.str f])]++Qk S1 T1,72⟩) aY ho (Qi hT) (Qi bI) (by simp[Qf,ah]) aI au au rfl ?_ ?_ ?_
 ·exact Qq @Xz
 ·unfold Zr
  refine To.lJ bI H2 aI aI au au au (fun b h1 h2=>?_) ?_
  ·rcases (by omega:b=70∨b=71) with rfl|rfl<;>rfl
  ·simp[Qu,Qf,ah,look,aD,ay,wB,lw,Bh]
 have rJ:=fun n b hb=>Yl (S:=S1) bI n b hb
 refine Qh @rJ ?_
 exact ⟨(),To.drop (ex:=[(71,_),(71,_),(70,_)]) (Qi bI) au au (by simp[Qu,Qf,ah,look,aD,ay])⟩
set_option maxHeartbeats 4000000 in
theorem V6 (gl:Nat→AV) (S:NS) (T:WT) (hw:S.tb.wf) (hT:T.wf) (an ad:Int) (f:List UInt8) (ha:S.aE < 300) (r:Rp) (S1:NS) (T1:WT) (bI:T1.wf) (ho:GD Tryz.prog gl 60 [.ptr 67 0,.int .i64 an] (Qk { S with aE:=S.aE + 1 } T) 70 [67] (.agg r.enc) (Qk S1 T1)):GD Tryz.prog gl 20 [.ptr 67 0,.agg [.int .i64 3,.int .i64 an,.int .i64 ad,.str f]] (Qk S T) 70 [67] (.agg r.enc) (Qk S1 T1):=by
 refine yA.gq (of_decide_eq_true rfl) (Zu hT) au fun c aY hg=>?_
 subst hg
 conv in aQ _ _=>cbv
 have aM:=fun n b hb=>Yl (S:=S) hT n b hb
 have bE:=Kj S T
 have aW:=NS.aP hw
 have fe:=NS.fe hw
 have kK:=NS.kK hw (S.aE + 1)
 have dz:(S.aE:Int) + 1=((S.aE + 1:Nat):Int):=by omega
 obtain ⟨r1,r2,r3,r4⟩:=r
 unfold Rp.enc at ho ⊢
 dsimp only at ho ⊢
 refine Qh (An @aM (An @bE (An @aW @fe))) ?_
 (refine Qa (fun h1=>?_) (fun h1=>?_)<;>try exact h1.elim)
 refine Qh (An @aM (An @bE (An @aW @fe))) ?_
 (refine Qa (fun h2=>?_) (fun h2=>?_)<;>try exact h2.elim)
 ·omega
 refine Qh (An @aM (An @bE (An @aW (An @fe (An @dz @kK))))) ?_
 (refine Qa (fun h3=>?_) (fun h3=>?_)<;>try exact h3.elim)
 refine Qe ?_
 (refine Qa (fun h4=>?_) (fun h4=>?_)<;>try exact h4.elim)
 refine Qe ?_
 (refine Qa (fun h5=>?_) (fun h5=>?_)<;>try exact h5.elim)
 refine Qe ?_
 refine Em (Bg (A:=[]) (B:=[(71,_),(70,_)]) (S:=S) (S':={ S with aE:=S.aE + 1 }) (T:=T) rfl au au) ?_
 have H2:HL ([(71,.cells [.int .i64 0,.str [],.bool false,.str []]),(70,.cells [.int .i64 3,.int .i64 an,.int .i64 ad,.str f])]++Qk S1 T1) 72:=((Qi bI).more (by simp[bP,ah,Qf])).more (by simp[bP,ah,Qf])
 refine sQ (v:=false) (pp:=[67]) (ex:=[(71,_),(70,_)]) (s3:=⟨[(4,.ptr 71 0),(43,.agg [.int .i64 r1,.str r2,.bool r3,.str r4])],[(71,.cells [.int .i64 0,.str [],.bool false,.str []]),(70,.cells [.int .i64 3,.int .i64 an,.int .i64 ad,.str f])]++Qk S1 T1,72⟩) aY ho (Qi hT) (Qi bI) (by simp[Qf,ah]) aI au au rfl ?_ ?_ ?_
 ·exact Qq @Xz
 ·unfold Zr
  refine To.lJ bI H2 aI aI au au au (fun b h1 h2=>?_) ?_
  ·rcases (by omega:b=70∨b=71) with rfl|rfl<;>rfl
  ·simp[Qu,Qf,ah,look,aD,ay,wB,lw,Bh]
 have rJ:=fun n b hb=>Yl (S:=S1) bI n b hb
 refine Qh @rJ ?_
 exact ⟨(),To.drop (ex:=[(71,_),(71,_),(70,_)]) (Qi bI) au au (by simp[Qu,Qf,ah,look,aD,ay])⟩
set_option maxHeartbeats 4000000 in
theorem Yel (gl:Nat→AV) (S:NS) (T:WT) (hw:S.tb.wf) (hT:T.wf) (ak:Int) (an ad:Int) (f:List UInt8) (ha:S.aE < 300) (hk:ak≠1∧ak≠2∧ak≠3∧ak≠4∧ak≠5):GD Tryz.prog gl 20 [.ptr 67 0,.agg [.int .i64 ak,.int .i64 an,.int .i64 ad,.str f]] (Qk S T) 70 [67] (.agg (bT 4).enc) (Qk { S with aE:=S.aE + 1 } T):=by
 refine yA.gq (of_decide_eq_true rfl) (Zu hT) au fun c aY hg=>?_
 subst hg
 conv in aQ _ _=>cbv
 have aM:=fun n b hb=>Yl (S:=S) hT n b hb
 have bE:=Kj S T
 have aW:=NS.aP hw
 have fe:=NS.fe hw
 have kK:=NS.kK hw (S.aE + 1)
 have dz:(S.aE:Int) + 1=((S.aE + 1:Nat):Int):=by omega
 refine Qh (An @aM (An @bE (An @aW @fe))) ?_
 (refine Qa (fun h1=>?_) (fun h1=>?_)<;>try exact h1.elim)
 refine Qh (An @aM (An @bE (An @aW @fe))) ?_
 (refine Qa (fun h2=>?_) (fun h2=>?_)<;>try exact h2.elim)
 ·omega
 refine Qh (An @aM (An @bE (An @aW (An @fe (An @dz @kK))))) ?_
 (refine Qa (fun h3=>?_) (fun h3=>?_)<;>try exact h3.elim)
 ·omega
 refine Qe ?_
 (refine Qa (fun h4=>?_) (fun h4=>?_)<;>try exact h4.elim)
 ·omega
 refine Qe ?_
 (refine Qa (fun h5=>?_) (fun h5=>?_)<;>try exact h5.elim)
 ·omega
 refine Qe ?_
 (refine Qa (fun h6=>?_) (fun h6=>?_)<;>try exact h6.elim)
 ·omega
 refine Qe ?_
 (refine Qa (fun h7=>?_) (fun h7=>?_)<;>try exact h7.elim)
 ·omega
 unfold bT Rp.enc
 refine Qh @aM ?_
 exact ⟨(),To.je (ex:=[(71,_),(67,_),(71,_),(70,_)]) (ex':=[]) id hT (Qi (S:={ S with aE:=S.aE + 1 }) hT) (Nat.le_refl 70) au au au (fun _ _=>rfl) (fun b h _=>h) (fun b b' _ _ _ _ e=>e) rfl rfl rfl (fun b h1 h2=>by omega) (by simp[Qu,Qf,ah,look,aD,ay])⟩
set_option maxHeartbeats 4000000 in
theorem Yf1 (gl:Nat→AV) (S:NS) (T:WT) (hw:S.tb.wf) (hT:T.wf) (an ad:Int) (f:List UInt8) (ha:S.aE < 300) (x:ax × Int) (hx:S.tb.aq.drain an true=x):GD Tryz.prog gl 20 [.ptr 67 0,.agg [.int .i64 4,.int .i64 an,.int .i64 ad,.str f]] (Qk S T) 70 [67] (.agg (bT x.2).enc) (Qk (if x.2=0 then { S with aE:=S.aE + 1,tb:={ S.tb with aq:=x.1 } } else { S with aE:=S.aE + 1 }) T):=by
 refine yA.gq (of_decide_eq_true rfl) (Zu hT) au fun c aY hg=>?_
 subst hg
 conv in aQ _ _=>cbv
 have aM:=fun n b hb=>Yl (S:=S) hT n b hb
 have bE:=Kj S T
 have aW:=NS.aP hw
 have fe:=NS.fe hw
 have kK:=NS.kK hw (S.aE + 1)
 have dz:(S.aE:Int) + 1=((S.aE + 1:Nat):Int):=by omega
 have lW:=SX c.gl S.tb.aq hw.aq an
 have nW:x.1.wf:=by rw[← hx];exact ax.dZ _ hw.aq an true
 rw[hx]at lW
 obtain ⟨p,e⟩:=x
 unfold Wy at lW
 dsimp only at *
 have iZ:=NS.aP (S:={ S with aE:=S.aE + 1 }) hw
 have uB:List.take 21 ({ S with aE:=S.aE + 1 }:NS).cells=S.tb.aq.enc:=NS.jf (S:={ S with aE:=S.aE + 1 }) hw
 have iv:=ax.aA nW
 have lT:p.enc.take 21=p.enc:=List.take_of_length_le (by rw[iv];decide)
 have nM:=NS.rM (S:={ S with aE:=S.aE + 1 }) hw nW
 refine Qh (An @aM (An @bE (An @aW @fe))) ?_
 (refine Qa (fun h1=>?_) (fun h1=>?_)<;>try exact h1.elim)
 refine Qh (An @aM (An @bE (An @aW @fe))) ?_
 (refine Qa (fun h2=>?_) (fun h2=>?_)<;>try exact h2.elim)
 ·omega
 refine Qh (An @aM (An @bE (An @aW (An @fe (An @dz @kK))))) ?_
 (refine Qa (fun h3=>?_) (fun h3=>?_)<;>try exact h3.elim)
 refine Qe ?_
 (refine Qa (fun h4=>?_) (fun h4=>?_)<;>try exact h4.elim)
 refine Qe ?_
 (refine Qa (fun h5=>?_) (fun h5=>?_)<;>try exact h5.elim)
 refine Qe ?_
 (refine Qa (fun h6=>?_) (fun h6=>?_)<;>try exact h6.elim)
 (refine Qa (fun h7=>?_) (fun h7=>?_)<;>try exact h7.elim)
 refine Qh (An @iZ @uB) ?_
 refine Qv lW (An @aM (An @iv @lT)) ?_
 refine Qh (An @aM (An @iv @lT)) ?_
 (refine Qa (fun h8=>?_) (fun h8=>?_)<;>try exact h8.elim)
 refine Qh (An @iv @lT) ?_
 by_cases he:e=0
 ·subst he
  rw[if_pos rfl]
  (refine Qa (fun h9=>?_) (fun h9=>?_)<;>try exact h9.elim)
  refine Qh (An @iZ (An @iv (An @lT @nM))) ?_
  unfold bT Rp.enc
  exact ⟨(),To.je (ex:=[(71,_),(67,_),(72,_),(72,_),(67,_),(71,_),(70,_)]) (ex':=[]) id hT (Qi (S:={ S with aE:=S.aE + 1,tb:={ S.tb with aq:=p } }) hT) (Nat.le_refl 70) au au au (fun _ _=>rfl) (fun b h _=>h) (fun b b' _ _ _ _ e=>e) rfl rfl rfl (fun b h1 h2=>by omega) (by simp[Qu,Qf,ah,look,aD,ay])⟩
 ·rw[if_neg he]
  (refine Qa (fun h9=>?_) (fun h9=>?_)<;>try exact h9.elim)
  ·exact absurd h9 he
  refine Qe ?_
  unfold bT Rp.enc
  exact ⟨(),To.je (ex:=[(71,_),(72,_),(72,_),(67,_),(71,_),(70,_)]) (ex':=[]) id hT (Qi (S:={ S with aE:=S.aE + 1 }) hT) (Nat.le_refl 70) au au au (fun _ _=>rfl) (fun b h _=>h) (fun b b' _ _ _ _ e=>e) rfl rfl rfl (fun b h1 h2=>by omega) (by simp[Qu,Qf,ah,look,aD,ay])⟩
set_option maxHeartbeats 4000000 in
theorem Yf0 (gl:Nat→AV) (S:NS) (T:WT) (hw:S.tb.wf) (hT:T.wf) (an ad:Int) (f:List UInt8) (ha:S.aE < 300) (x:ax × Int) (hx:S.tb.aq.drain an false=x):GD Tryz.prog gl 20 [.ptr 67 0,.agg [.int .i64 5,.int .i64 an,.int .i64 ad,.str f]] (Qk S T) 70 [67] (.agg (bT x.2).enc) (Qk (if x.2=0 then { S with aE:=S.aE + 1,tb:={ S.tb with aq:=x.1 } } else { S with aE:=S.aE + 1 }) T):=by
 refine yA.gq (of_decide_eq_true rfl) (Zu hT) au fun c aY hg=>?_
 subst hg
 conv in aQ _ _=>cbv
 have aM:=fun n b hb=>Yl (S:=S) hT n b hb
 have bE:=Kj S T
 have aW:=NS.aP hw
 have fe:=NS.fe hw
 have kK:=NS.kK hw (S.aE + 1)
 have dz:(S.aE:Int) + 1=((S.aE + 1:Nat):Int):=by omega
 have lW:=SX c.gl S.tb.aq hw.aq an
 have uM:=Xb4 c.gl S.tb.aq hw.aq an
 have nW:x.1.wf:=by rw[← hx];exact ax.dZ _ hw.aq an false
 rw[hx]at uM
 have V7:=ax.dZ _ hw.aq an true
 generalize S.tb.aq.drain an true=y at lW V7
 obtain ⟨yp,ye⟩:=y
 have vD:=ax.aA V7
 have V8:yp.enc.take 21=yp.enc:=List.take_of_length_le (by rw[vD];decide)
 obtain ⟨p,e⟩:=x
 unfold Wy at lW uM
 dsimp only at *
 have iZ:=NS.aP (S:={ S with aE:=S.aE + 1 }) hw
 have uB:List.take 21 ({ S with aE:=S.aE + 1 }:NS).cells=S.tb.aq.enc:=NS.jf (S:={ S with aE:=S.aE + 1 }) hw
 have iv:=ax.aA nW
 have lT:p.enc.take 21=p.enc:=List.take_of_length_le (by rw[iv];decide)
 have nM:=NS.rM (S:={ S with aE:=S.aE + 1 }) hw nW
 refine Qh (An @aM (An @bE (An @aW @fe))) ?_
 (refine Qa (fun h1=>?_) (fun h1=>?_)<;>try exact h1.elim)
 refine Qh (An @aM (An @bE (An @aW @fe))) ?_
 (refine Qa (fun h2=>?_) (fun h2=>?_)<;>try exact h2.elim)
 ·omega
 refine Qh (An @aM (An @bE (An @aW (An @fe (An @dz @kK))))) ?_
 (refine Qa (fun h3=>?_) (fun h3=>?_)<;>try exact h3.elim)
 refine Qe ?_
 (refine Qa (fun h4=>?_) (fun h4=>?_)<;>try exact h4.elim)
 refine Qe ?_
 (refine Qa (fun h5=>?_) (fun h5=>?_)<;>try exact h5.elim)
 refine Qe ?_
 (refine Qa (fun h6=>?_) (fun h6=>?_)<;>try exact h6.elim)
 refine Qe ?_
 (refine Qa (fun h7=>?_) (fun h7=>?_)<;>try exact h7.elim)
 refine Qh (An @iZ @uB) ?_
 refine Qv lW (An @aM (An @vD (An @V8 (An @iZ @uB)))) ?_
 refine Qh (An @aM (An @vD (An @V8 (An @iZ @uB)))) ?_
 (refine Qa (fun h8=>?_) (fun h8=>?_)<;>try exact h8.elim)
 refine Qh (An @iZ @uB) ?_
 refine Qv uM (An @aM (An @iv (An @lT @vD))) ?_
 refine Qh (An @iv @lT) ?_
 by_cases he:e=0
 ·subst he
  rw[if_pos rfl]
  (refine Qa (fun h9=>?_) (fun h9=>?_)<;>try exact h9.elim)
  refine Qh (An @iZ (An @iv (An @lT @nM))) ?_
  unfold bT Rp.enc
  exact ⟨(),To.je (ex:=[(71,_),(67,_),(72,_),(72,_),(72,_),(67,_),(71,_),(70,_)]) (ex':=[]) id hT (Qi (S:={ S with aE:=S.aE + 1,tb:={ S.tb with aq:=p } }) hT) (Nat.le_refl 70) au au au (fun _ _=>rfl) (fun b h _=>h) (fun b b' _ _ _ _ e=>e) rfl rfl rfl (fun b h1 h2=>by omega) (by simp[Qu,Qf,ah,look,aD,ay])⟩
 ·rw[if_neg he]
  (refine Qa (fun h9=>?_) (fun h9=>?_)<;>try exact h9.elim)
  ·exact absurd h9 he
  refine Qe ?_
  unfold bT Rp.enc
  exact ⟨(),To.je (ex:=[(71,_),(72,_),(72,_),(72,_),(67,_),(71,_),(70,_)]) (ex':=[]) id hT (Qi (S:={ S with aE:=S.aE + 1 }) hT) (Nat.le_refl 70) au au au (fun _ _=>rfl) (fun b h _=>h) (fun b b' _ _ _ _ e=>e) rfl rfl rfl (fun b h1 h2=>by omega) (by simp[Qu,Qf,ah,look,aD,ay])⟩
theorem V9 (gl:Nat→AV) (h0:gl 0=.xp (Qo Xs) 0) (S:NS) (T:WT) (D:List Tm) (hK:NK S) (hW:WI T S.now D) (hD:D.Perm S.a8) (a:Ac) (hf:a.frame.length≤140737488351232):V0 gl S T 20 [.ptr 67 0,.agg a.enc] (S.step a):=by
 obtain ⟨ak,an,ad,f⟩:=a
 unfold Ac.enc NS.step
 dsimp only at hf ⊢
 have hT:=hW.wf
 have hw:=hK.wf
 by_cases ha:300≤S.aE
 ·rw[if_pos ha]
  exact ⟨T,D,hW,hD,Xw4 gl S T hw hT ak an ad f ha⟩
 rw[if_neg ha]
 have yM:S.aE < 300:=by omega
 have h1:=hK.toNI.gI (S.aE + 1)
 have hx:=hK.nx
 have ht:=hK.rG
 by_cases k1:ak=1
 ·subst k1
  rw[if_pos rfl]
  obtain ⟨T1,D1,dH,kp,hg⟩:=Xyo gl h0 { S with aE:=S.aE + 1 } T D h1 (by show S.b7≤_;omega) (by show S.told≤_;omega) hW hD 1 an ad f hf
  exact ⟨T1,D1,dH,kp,Yez gl S T hw hT an ad f yM _ _ T1 dH.wf hg⟩
 rw[if_neg k1]
 by_cases k2:ak=2
 ·subst k2
  rw[if_pos rfl]
  obtain ⟨T1,D1,dH,kp,hg⟩:=VN gl { S with aE:=S.aE + 1 } T D h1 (by show S.b7≤_;omega) hW hD f hf
  exact ⟨T1,D1,dH,kp,Yex gl S T hw hT an ad f yM _ _ T1 dH.wf hg⟩
 rw[if_neg k2]
 by_cases k3:ak=3
 ·subst k3
  rw[if_pos rfl]
  by_cases hd:an < 1∨549755813888 - ({ S with aE:=S.aE + 1 }:NS).now < an
  ·have hb:=Xpl gl { S with aE:=S.aE + 1 } T D h1 hW an hd
   rw[Ei,if_pos hd]
   exact ⟨T,D,hW,hD,V6 gl S T hw hT an ad f yM _ _ T hT hb⟩
  ·obtain ⟨T1,D1,dH,kp,hg⟩:=Xu5 gl h0 { S with aE:=S.aE + 1 } T D h1 (by show S.told≤_;omega) hW hD an hd
   exact ⟨T1,D1,dH,kp,V6 gl S T hw hT an ad f yM _ _ T1 dH.wf hg⟩
 rw[if_neg k3]
 by_cases k4:ak=4
 ·subst k4
  rw[if_pos (.inl rfl)]
  have hg:=Yf1 gl S T hw hT an ad f yM _ rfl
  refine ⟨T,D,?_,?_,hg⟩
  ·dsimp only[decide_true];split<;>exact hW
  ·dsimp only[decide_true];split<;>exact hD
 by_cases k5:ak=5
 ·subst k5
  rw[if_pos (.inr rfl)]
  have hg:=Yf0 gl S T hw hT an ad f yM _ rfl
  refine ⟨T,D,?_,?_,hg⟩
  ·dsimp only;split<;>exact hW
  ·dsimp only;split<;>exact hD
 rw[if_neg ae]
 exact ⟨T,D,hW,hD,Yel gl S T hw hT ak an ad f yM ⟨k1,k2,k3,k4,k5⟩⟩
section
variable {P:Program}
theorem PS.wk {gl:Nat→AV} {f:FuncId} {args:List AV} {r r':AV} (h:PS P gl f args r) (hr:Wk r r'):PS P gl f args r' :=
 ⟨h.1,fun w vs X hX ka hv=>(h.2 w vs X hX ka hv).mono fun e w' ⟨v,q1,q2,q3⟩=>⟨v,q1,hr _ _ _ _ q2,q3⟩⟩
theorem PS.empty {gl:Nat→AV} {f:FuncId} {cs:List AV} {r:AV} (h1:∀ cap,PS P gl f [.lit (.slice none 0 cap)] r) (h2:∀ a cap,PS P gl f [.lit (.slice (some a) 0 cap)] r):PS P gl f [.isl 0 cs] r:=by
 refine ⟨(h1 0).1,fun w vs X hX ka hv=>?_⟩
 cases vs with
 | nil=>exact hv.elim
 | cons v vs =>
 cases vs with
 | cons _ _=>exact hv.2.elim
 | nil =>
 obtain ⟨hv,_⟩:=hv
 obtain ⟨a,cap,us,rfl,_⟩:=rU hv
 cases a with
 | some a=>exact (h2 a cap).2 w [.slice (some a) 0 cap] X hX ka ⟨.lit _,trivial⟩
 | none=>exact (h1 cap).2 w [.slice none 0 cap] X hX ka ⟨.lit _,trivial⟩
def EA (m:Nat) (rs:List RS) (r:AV) (aw:List (Nat × Bk)) (n:Nat):EX→St→Prop
 | .exit _,_=>False
 | _,s=>Wq s.fs rs∧To (List.range m) ⟨[(0,ga s.fs rs)],s.h,s.n⟩ ⟨[(0,r)],aw,n⟩
theorem Xkr {gl : Nat → AV} {f : FuncId} {fn : Func} {code : Code} {t : TC} {rs : List RS} {args : List AV} {aw : List (Nat × Bk)} {n : Nat} {r : AV} (hm : P.follows .mixedOrders = true) (hf : P.funcs[f]? = some fn) (hb : fn.body = some code) (dU : (fn.name == "runtime.NumGoroutine") = false)
  (he:Jc P fn.ntmps code=some t) (hr:m9 P fn.results.toList=some rs) (hN:args.length≤fn.ntmps)
  (h:∀ c:Cx,(∀ q ∈ c.gh,q.1 ∈ List.range 0)→c.gl=gl→xw P c t (EA 0 rs r aw n) ⟨jz 0 args,[],0⟩):GS P gl f args [] 0 r aw n:=by
 refine ⟨⟨fn,hf,by rw[hb];rfl,dU⟩,fun w vs G X g jM hv=>?_⟩
 refine calls_of_wp hf hb ?_
 have hR:=FY (N:=fn.ntmps) (gh:=[]) hN jM hv (fun q hq=>by cases hq)
 have:=vn (c:=⟨fn.ntmps,w,G,X,gl,[]⟩) hm code t _ _ he (h _ (fun q hq=>by cases hq) rfl) _ _ _ hR
 refine wp_mono this fun e a' w' hq=>?_
 have fin:∀ (g1:Nat→GM) (s:St),R ⟨fn.ntmps,w,G,X,gl,[]⟩ g1 s.fs a' w'→(Wq s.fs rs∧To (List.range 0) ⟨[(0,ga s.fs rs)],s.h,s.n⟩ ⟨[(0,r)],aw,n⟩) →
   a'.defers=[]∧∃ v,(results fn a'.tmps).run P w'=.ok v w'∧(∃ nd g',Ending.returned v=.returned nd∧R ⟨0,w,G,X,gl,[]⟩ g' (cW aw n) ⟨#[],[]⟩ w'∧(∀ b,b < 0→g' b=g b)∧VR g' (Qn ⟨0,w,G,X,gl,[]⟩ g' (cW aw n)) w' r nd):=by
  intro g1 s bf ⟨h1,h3⟩
  obtain ⟨v,h4,h5⟩:=B6 bf hr h1
  refine ⟨bf.dK,v,h4,v,?_⟩
  have cx:R ⟨1,w,G,X,gl,[]⟩ g1 (⟨[(0,ga s.fs rs)],s.h,s.n⟩:St).fs ⟨#[v],[]⟩ w':=by
   refine ⟨rfl,rfl,fun i=>?_,bf.gl,bf.h,bf.inj,bf.old,bf.fr,bf.xs,bf.hU⟩
   show VR g1 _ w' (look [(0,ga s.fs rs)] i) _
   rw[Yw]
   split
   ·rename_i hi;subst hi;exact h5
   ·exact .any _
  obtain ⟨g2,bR⟩:=h3 _ g1 _ _ (fun q hq=>by cases hq) cx
  exact ⟨g2,rfl,⟨rfl,rfl,fun i=>.any _,bR.gl,bR.h,bR.inj,bR.old,bR.fr,bR.xs,fun p hp=>by cases hp⟩,fun b hb=>by omega,bR.t 0⟩
 cases e with
 | normal=>obtain ⟨g,s,bf,cD⟩:=hq;exact fin g s bf cD
 | ret=>obtain ⟨g,s,bf,cD⟩:=hq;exact fin g s bf cD
 | exit i=>obtain ⟨g,s,bf,cD⟩:=hq;exact cD.elim
 | goto l=>exact hq.elim
 | panic ch=>exact hq.elim
 | outgrown=>exact hq.elim
theorem FT.gsT {gl:Nat→AV} {f:FuncId} {fn:Func} {t:TC} {rs:List RS} (hF:FT P f fn t rs) {args:List AV} {aw:List (Nat × Bk)} {n:Nat} {r:AV} (hN:args.length≤fn.ntmps)
  (h:∀ c:Cx,(∀ q ∈ c.gh,q.1 ∈ List.range 0)→c.gl=gl→xw P c t (EA 0 rs r aw n) ⟨jz 0 args,[],0⟩):GS P gl f args [] 0 r aw n:=by
 have hc:=hF.code
 cases hb:fn.body with
 | none=>rw[hb]at hc;simp at hc
 | some code =>
  rw[hb]at hc
  exact Xkr hF.mixed hF.func hb hF.name hc hF.res hN h
theorem Xgl (m:Nat) (rs:List RS) (r:AV) (aw:List (Nat × Bk)) (n:Nat) (s:St):EA m rs r aw n .ret s=(Wq s.fs rs∧To (List.range m) ⟨[(0,ga s.fs rs)],s.h,s.n⟩ ⟨[(0,r)],aw,n⟩):=rfl
attribute [go_sem] Xgl
end
theorem Xr3 (gl:Nat→AV) (l:List Mp) (hn:l.length≤1000000):PS Tryz.prog gl 64 [.isl l.length (ca l)] (.isl l.length (ca l)):=by
 have hl:=Jg l
 cases l with
 | nil =>
  refine PS.empty (fun cap=>PS.wk (r:=.nils) ?_ Wk.nils) fun a cap=>?_
  ·refine AK.ps (of_decide_eq_true rfl) (by simp[Qf]) fun c hN hg=>?_
   conv in aQ _ _=>cbv
   refine Qe ?_
   refine Ad ?_ (AP (b:=true) (show sr (.lit (.slice none 0 cap))=some true from rfl)) ?_
   ·exact Qr
   refine Qe ?_
   (refine Qa (fun h1=>?_) (fun h1=>?_)<;>try exact h1.elim)
   exact Qr
  ·refine AK.ps (of_decide_eq_true rfl) (by simp[Qf,ah,ca]) fun c hN hg=>?_
   conv in aQ _ _=>cbv
   refine Qe ?_
   refine Ad ?_ (AP (b:=false) (show sr (.lit (.slice (some a) 0 cap))=some false from rfl)) ?_
   ·exact Qr
   refine Qe ?_
   (refine Qa (fun h1=>?_) (fun h1=>?_)<;>try exact h1.elim)
   refine Qe ?_
   refine Qv F5 @List.length_nil.{0} ?_
   refine Ja ?_
   rfl
 | cons x l =>
 have Mf:sr (.isl (x::l).length (ca (x::l)))=some false:=rfl
 generalize x::l=l at *
 refine AK.ps (of_decide_eq_true rfl) (by simp[Qf,AH]) fun c hN hg=>?_
 conv in aQ _ _=>cbv
 refine Qe ?_
 refine Ad ?_ (AP (b:=false) Mf) ?_
 ·exact Qr
 refine Qe ?_
 (refine Qa (fun h1=>?_) (fun h1=>?_)<;>try exact h1.elim)
 refine Qe ?_
 refine Zq F5 ?_
 exact Yfn @hl
set_option maxHeartbeats 4000000 in
theorem WA (gl:Nat→AV) (S:NS) (T:WT) (hS:NJ S) (hT:T.wf):GD Tryz.prog gl 23 [.ptr 67 0] (Qk S T) 70 (List.range 70) (.agg S.tb.enc) (Qk S T):=by
 refine Vf.gq (of_decide_eq_true rfl) (Zu hT) (fun b hb=>List.mem_range.1 hb) fun c aY hg=>?_
 subst hg
 conv in aQ _ _=>cbv
 have aM:=fun n b hb=>Yl (S:=S) hT n b hb
 have bE:=Kj S T
 have aW:=NS.aP hS.wf
 have eQ:=NS.ef hS.wf
 have aH:=Tb.aA hS.wf
 have HR:=Tb.cz hS.wf
 have tt:S.tb.enc.take 30=S.tb.enc:=List.take_of_length_le (by rw[aH];decide)
 have br:S.tb.enc.set 29 (.isl S.tb.maps.length (ca S.tb.maps))=S.tb.enc:=by
  rw[← HR]
  refine List.ext_getElem au fun j h1 h2=>?_
  rw[List.getElem_set]
  split
  ·rename_i e;subst e;rw[BG (by rw[aH];decide)]
  ·rfl
 have EB:=vV (Uu.2 hS.gt)
 have lF:=Xr3 c.gl S.tb.maps ae
 refine Qh @aM ?_
 (refine Qa (fun h1=>?_) (fun h1=>?_)<;>try exact h1.elim)
 refine Qh (An @aM (An @bE (An @aW (An @eQ (An @aH @HR))))) ?_
 refine Qv lF (An @aM (An @aH (An @br @tt))) ?_
 have yN:=Jf S.tb.enc
 exact ⟨(),To.drop (ex:=[(70,_),(71,_),(71,_),(71,_),(70,_)]) (Qi hT) au aI (by simp[Qu,Qf,look,aD,Tb.b8,yN])⟩
def eK (l:List Fl):List AV:=l.flatMap Fl.enc
theorem Bn (l:List Fl):(eK l).length=l.length * 10:=by
 induction l with
 | nil=>rfl
 | cons f l ih=>simp only[eK,List.flatMap_cons,List.length_append]at ih ⊢;rw[ih];simp[Fl.enc,Wo];omega
theorem uZ (n:Nat) (l:List Fl):ah n (eK l):=by
 rw[Xi]
 intro v hv
 obtain ⟨f,_,hf⟩:=List.mem_flatMap.1 hv
 simp[Fl.enc,Wo]at hf
 rcases hf with rfl|rfl|rfl|rfl|rfl|rfl|rfl|rfl|rfl|rfl<;>simp[Qf]
theorem Oe (ρ:Nat→Nat) (l:List Fl):ay ρ (eK l)=eK l:=by
 rw[Yk]
 exact (List.map_congr_left fun v hv=>sP (Xi.1 (uZ 0 l) v hv)).trans (List.map_id _)
theorem WB (l:List Fl) (f:Fl):eK l++f.enc=eK (l++[f]):=by simp[eK]
def NS.aT (S:NS):List Fl:=S.fl.map (·.2)
set_option maxHeartbeats 4000000 in
theorem WC (gl:Nat→AV) (S:NS) (T:WT) (hS:NJ S) (hT:T.wf):GD Tryz.prog gl 24 [.ptr 67 0] (Qk S T) 70 (List.range 70) (.isl S.aT.length (eK S.aT)) (Qk S T):=by
 refine Hw.gq (of_decide_eq_true rfl) (Zu hT) (fun b hb=>List.mem_range.1 hb) fun c aY hg=>?_
 subst hg
 conv in aQ _ _=>cbv
 have aM:=fun n b hb=>Yl (S:=S) hT n b hb
 have bE:=Kj S T
 have oV:=uQ S T
 have sS:=uR S T
 have aW:=NS.aP hS.wf
 have eJ:=NS.eJ hS.wf
 have iH:=NS.iH hS.wf
 have ib:=Bb S
 have dX:=wx S.fl
 have Vl:=hS.len
 have iz:S.aT.length=S.fl.length:=by simp[NS.aT]
 refine Qh @aM ?_
 (refine Qa (fun h1=>?_) (fun h1=>?_)<;>try exact h1.elim)
 refine Qh (An @bE (An @aW @iH)) ?_
 refine vF 3 10 rfl (by exact Qq @aM) ?_
 unfold St.named
 refine Yf (fun k:Nat=>k≤S.fl.length) (fun k=>⟨[(0,.ptr 67 0),(3,.sl 10 70 0 k k),(11,.sl 1 69 0 S.fl.length S.fl.length),(12,.int .i64 S.fl.length),(13,.int .i64 k)],[(70,.cells (eK (S.aT.take k)))]++Qk S T,71⟩) (fun k=>S.fl.length - k) Hw.mixed (List.range 70) aY
  ⟨0,Nat.zero_le _,To.dk (by exact Qr) fun b=>rfl⟩ fun k hk=>?_
 refine Qe ?_
 (refine Qa (fun h2=>?_) (fun h2=>?_)<;>try exact h2.elim)
 ·have bw:k < S.fl.length:=by omega
  have jt:=NH S bw
  have dO:=Um S.fl[k].1
  have ed:=Hz hS.dJ bw (.agg Fl.zero)
  have dR:eK (S.aT.take k)++S.fl[k].2.enc=eK (S.aT.take (k + 1)):=by
   rw[WB,List.take_succ]
   congr 2
   simp[NS.aT,bw]
  have kC:(eK (S.aT.take k)).length=k * 10:=by rw[Bn,List.length_take];omega
  generalize S.fl[k]=q at *
  obtain ⟨x,⟨⟨p0,p1,p2,p3,p4⟩,g0,g1,g2,g3,g4⟩⟩:=q
  unfold Fl.enc Wo at ed dR
  dsimp only at ed jt dO dR
  refine Qh (An @sS (An @ib (An @jt (An @bE (An @aW @eJ))))) ?_
  ((first|refine nt Ku ?_|refine Ww Ku ?_);(have aJ:=@oV;have bm:=@dX;have bL:=@dO;have cf:=@ed;have cF:=@aM;refine XG ?_;clear aJ bm bL cf cF;((try (repeat' with_reducible refine And.intro ?_ ?_));(try any_goals (first|refine zm ?_|exact CL|fail)))))
  refine Zj @aM ?_
  refine Zj (An @aM (An @kC @dR)) ?_
  have oX:=uZ 71 (S.aT.take (k + 1))
  have Bm:=fun ρ=>Oe ρ (S.aT.take (k + 1))
  refine ⟨k + 1,by omega,?_,by omega⟩
  generalize eK (S.aT.take (k + 1))=E at *
  refine To.je (ex:=[(72,_),(70,.dead),(71,_),(70,_)]) (ex':=[(70,.cells E)]) (fun b=>if b=70 then 72 else b) hT ((Qi hT).more (by exact oX)) aI au au aI (fun b hb=>if_neg ae) (fun b h h2=>?_) (fun b b' h1 h2 h3 h4 e=>?_) rfl rfl rfl (fun b h1 h2=>?_) ?_
  ·split<;>omega
  ·omega
  ·obtain rfl:b=70:=by omega
   show Bk.cells E=Bk.cells (ay _ E)
   rw[Bm]
  ·simp[Qu,Qf,ah,look,aD,ay]
 ·obtain rfl:k=S.fl.length:=by omega
  have dq:S.aT.take S.fl.length=S.aT:=List.take_of_length_le (by rw[iz];exact Nat.le_refl _)
  have a7:((eK S.aT).drop 0).take (S.fl.length * 10)=eK S.aT:=by rw[List.drop_zero,List.take_of_length_le (by rw[Bn,iz];exact Nat.le_refl _)]
  have yN:=Jf (eK S.aT)
  have eE:=uZ 70 S.aT
  rw[dq]
  refine Qe ?_
  refine ⟨(),(To.gb (b:=70) (i:=0) rfl rfl).trans ?_⟩
  rw[a7,iz]
  exact To.drop (ex:=[(70,.dead),(70,_)]) (Qi hT) au aI (by simp[Qu,Qf,look,aD,yN,eE])
theorem To.wkM {p:List Nat} {s:St} {b:Nat} {kvs:List (AV × AV)} (hb:Qc s.h s.n b=.aC kvs true):To p s ⟨s.t,(b,.aC kvs false)::s.h,s.n⟩:=fun c g a w _ hR=>by
 have hH:∀ i,(⟨s.t,(b,.aC kvs false)::s.h,s.n⟩:St).fs.H i=if b=i then .aC kvs false else s.fs.H i:=fun i=>by
  show Qc ((b,_)::s.h) s.n i=_
  rw[Qd];rfl
 refine ⟨g,hR.gn (fun k v hv=>hv) (fun i h=>?_) fun i=>?_⟩
 ·rw[hH];split
  ·rename_i e;subst e
   rw[show s.fs.H b=.aC kvs true from hb]at h
   generalize g b=m at h ⊢
   cases h with
   | aC hb hs j7 hv hc ha hd=>exact .aC hb hs j7 hv hc ha (fun h=>by cases h)
  ·exact h
 ·rw[hH];split
  ·rename_i e;subst e;rw[show s.fs.H b=.aC kvs true from hb];exact Iff.rfl
  ·exact Iff.rfl
def zT:List AV:=Qo (List.replicate 18 0)++Ze (List.replicate 3 false)++Qo (List.replicate 8 0)
theorem To.wkC {p:List Nat} {s:St} {b:Nat} {A B:List AV} {x y:AV} (hb:Qc s.h s.n b=.cells (A++x::B)) (h:Wk x y):To p s ⟨s.t,(b,.cells (A++y::B))::s.h,s.n⟩:=To.Gg hb (by simp) fun j hj=>by
 have e:∀ z:AV,(A++z::B).getD j .any=if j < A.length then A.getD j .any else if j=A.length then z else B.getD (j - A.length - 1) .any:=fun z=>by
  simp only[List.getD]
  by_cases h1:j < A.length
  ·rw[if_pos h1,List.getElem?_append_left h1]
  ·rw[if_neg h1,List.getElem?_append_right ae]
   by_cases h2:j=A.length
   ·subst h2;simp
   ·rw[if_neg h2,show j - A.length=(j - A.length - 1) + 1 by omega,List.getElem?_cons_succ]
    simp
 rw[e,e]
 split
 ·exact Wk.refl _
 ·split
  ·exact h
  ·exact Wk.refl _
set_option maxHeartbeats 8000000 in
theorem HT (gl:Nat→AV) (b:Bool):GS Tryz.prog gl 28 [.bool b] [] 0 (.ptr 67 0) (Qk (NS.new b) (Kd 0 (.aC [] true))) 70:=by
 have bV:=Xs6 gl 0 aI
 have wo:=Ns 0 aI
 have hT:=wo.wf
 refine Xz7.gsT (of_decide_eq_true rfl) fun c aY hg=>?_
 subst hg
 conv in aQ _ _=>cbv
 generalize Kd 0 (.aC [] true)=T0 at *
 have lQ:=Yfg hT (σ:=fun b=>b) (m:=67) fun b hb=>hb
 refine Qe ?_
 refine Eb bV (WT.gT hT) ?_ au ?_
 ·exact Qr
 dsimp only[List.nil_append]
 have hid:Qs (fun b=>0 + b) T0.hb=T0.hb:=by
  have e:(fun b:Nat=>0 + b)=id:=by funext b;exact Nat.zero_add b
  rw[e,Jw]
 have DH:=fun n b hb=>WT.oO hT n (b:=b) hb
 rw[hid]
 refine Qe ?_
 (refine R2 Ku ?_;(have aJ:=@DH;refine XG ?_;clear aJ;((try (repeat' with_reducible refine And.intro ?_ ?_));(try any_goals (first|refine zm ?_|exact CL|fail)))))
 refine (To.wkC (b:=68) (A:=zT) (x:=.nils) (y:=.isl 0 []) (B:=[.mp 67,.nils,.int .i64 0,.ptr 0 0,.int .i64 0,.int .i64 4,.int .i64 0,.bool b]) rfl Wk.nils).trans ?_
 refine (To.kN (b:=68) (j:=31) (es:=1) (cs:=zT++.isl 0 []::[.mp 67,.nils,.int .i64 0,.ptr 0 0,.int .i64 0,.int .i64 4,.int .i64 0,.bool b]) rfl rfl ?_).trans ?_
 ·change Qc _ _ _=Bk.free
  dsimp only
  rw[Qd,if_neg aI,Qd,if_neg aI,Qd,if_neg aI,DH 69 69 aI]
  rfl
 refine (To.wkM (b:=67) (kvs:=[]) rfl).trans ?_
 refine To.lX (fun i=>if i=67 then 68 else if i=68 then 67 else i) (Qi hT) (fun i hi=>by simp at hi) (fun i j h1 h2 e=>?_) (fun i hi=>?_) ?_
 ·(repeat' split at e)<;>omega
 ·rcases (by omega:i < 67∨i=67∨i=68∨i=69) with h|rfl|rfl|rfl
  ·have e1:(if i=67 then 68 else if i=68 then 67 else i)=i:=by rw[if_neg ae,if_neg ae]
   have e2:Qc (Qk (NS.new b) T0) 70 i=Qc T0.hb 67 i:=by
    unfold Qk
    rw[Qd,if_neg ae,Qd,if_neg ae,Qd,if_neg ae]
    exact ((WT.gT hT).live h 70).1
   rw[e1,e2,Jm (g:=id) (fun j hj=>by rw[if_neg ae,if_neg ae];rfl) (Nv hT h).2,Kb]
   dsimp only
   rw[Qd,if_neg ae,Qd,if_neg ae,Qd,if_neg ae,Qd,if_neg ae,Qd,if_neg ae,Qd,if_neg ae]
   exact ((WT.gT hT).live h _).1
  ·rfl
  ·rfl
  ·rfl
 ·simp[Qu,Qf,look,aD]
def u0:Pk:=⟨17,167772161,5,9,6,9,0,0,0,0,0,[]⟩
def pY:List UInt8:=[69,0,0,28,0,0,0,0,9,17,167,200,10,0,0,1,0,0,0,9,0,5,0,6,0,8,245,201]
def sU:List UInt8:=[69,0,0,28,0,0,0,0,8,17,118,199,203,0,113,1,0,0,0,9,4,0,0,6,0,8,191,205]
def EC:Mp:=⟨17,0,5,0,1024⟩
def HU:Tb:=⟨⟨1::List.replicate 17 0,List.replicate 3 false⟩,1::List.replicate 7 0,[EC]⟩
def yO:NS:=⟨HU,[(1,⟨EC,9,6,2,0,20⟩)],1,0,1,4,1,false⟩
def Og:List UInt8:=jJ 0 [⟨0,0,0,0,false⟩]
theorem Yca:Xk u0=pY:=by decide +kernel
theorem Yd8:Yo u0=0:=by decide +kernel
theorem Yfo:bZ pY=0:=by decide +kernel
theorem Oh:az pY=u0:=by
 have h:(az pY).enc=u0.enc:=rfl
 rfl
theorem Yfy:Yz pY 0 3405803777 1024=sU:=by decide +kernel
theorem Yek:bZ sU=0:=by decide +kernel
theorem Yeu:(az sU).aB=3405803777∧(az sU).ai=1024:=by decide +kernel
theorem Yfw:Og.length=89:=by decide +kernel
theorem Ycg:(NS.new false).tb.cE 17 0 5 0=(HU,EC,true,0):=by
 have hg:Wr (NS.new false).tb=true:=(AQ _).2 (Uu.2 (NK.new false).gt)
 unfold Tb.cE
 rw[hg]
 rfl
theorem WD:(NS.new false).step ⟨1,0,0,pY⟩=(⟨0,sU,false,Og⟩,yO):=by
 have e:(NS.new false).step ⟨1,0,0,pY⟩=NS.out { (NS.new false) with aE:=1 } pY 0:=rfl
 rw[e,Eh,Yfo,Oh]
 have ho:({ (NS.new false) with aE:=1 }:NS).tb.cE 17 0 5 0=(HU,EC,true,0):=Ycg
 have px:({ (NS.new false) with aE:=1 }:NS).tb.cE u0.af (u0.aB - 167772161) u0.ai 0=(HU,EC,true,0):=ho
 rw[px]
 rw[if_neg au,if_neg aI,if_neg aI,if_neg aI,if_neg aI,if_neg aI,if_neg aI,if_neg aI]
 unfold NS.opened
 rw[Oh]
 unfold NS.dP
 rw[Oh]
 dsimp only
 rw[if_neg aI]
 show ((⟨0,Yz pY 0 3405803777 1024,false,_⟩:Rp),_)=_
 rw[Yfy]
 rfl
theorem HV:FT Tryz.prog 30 Tryz.f30 (aQ Tryz.prog Tryz.f30) [.t 6,.t 7]:=.of Tryz.func30
theorem Xjs:FT Tryz.prog 33 Tryz.f33 (aQ Tryz.prog Tryz.f33) [.t 2]:=.of Tryz.func33
theorem Xkm:FT Tryz.prog 50 Tryz.f50 (aQ Tryz.prog Tryz.f50) [.t 0]:=.of Tryz.func50
theorem Xri (gl:Nat→AV) (p:Pk) (h:Yo p=0):PS Tryz.prog gl 33 [.agg p.enc] (.str (Xk p)):=by
 refine Xjs.ps (of_decide_eq_true rfl) (by simp[Qf]) fun c hN hg=>?_
 conv in aQ _ _=>cbv
 have hb:=Xw9 c.gl p
 unfold Ln at hb
 rw[if_pos h]at hb
 generalize Xk p=B at *
 obtain ⟨p1,p2,p3,p4,p5,p6,p7,p8,p9,fT,fU,pb⟩:=p
 unfold Pk.enc at hb ⊢
 dsimp only at hb ⊢
 refine Qe ?_
 exact Rv hb
def yP (d:Option Nat) (r:AV) (t:List (Nat × AV)):List (Nat × AV):=match d with
 | some d=>(d,r)::t
 | none=>t
theorem To.ED {p:List Nat} {S:NS} {T:WT} {t t':List (Nat × AV)} {ex:List (Nat × Bk)} {n:Nat} {d:Option Nat} {r:AV} (hT:T.wf) (hn:70≤n) (hp:∀ b ∈ p,b=67) (hex:∀ q ∈ ex,70≤q.1∧q.1 < n)
  (ht:Qu (bU id [67] n) 70 (yP d (aD (bU id [67] n) r) t) t'):To p (Zr t ex (Qk S T) id [67] 70 n d r) ⟨t',Qk S T,70⟩:=by
 have ew:∀ q ∈ ex,jr (bU id [67] n) 70 q.1:=fun q hq=>Yaw (fun b hb _ e=>by have:=(hex q hq).1;have e:b=q.1:=e;omega) (hex q hq).2
 have bN:∀ b b',b < 70→b' < 70→bU id [67] n b=bU id [67] n b'→b=b':=fun b b' h1 h2 e=>Gh (m:=70) (fun b b' _ _ e=>e) (fun b hb=>by show b < n;omega) h1 h2 e
 have:=To.home (p:=p) (t:=yP d (aD (bU id [67] n) r) t) (t':=t') (ex:=ex) (n:=n + 70) (Qi (S:=S) hT) bN ew (fun b hb=>by rw[hp b hb];exact ⟨rfl,by decide⟩) ht
 cases d<;>exact this
theorem WE {hh:List (Nat × Bk)}:Qs (fun b=>0 + b) hh=hh:=by
 have e:(fun b:Nat=>0 + b)=id:=by funext b;exact Nat.zero_add b
 rw[e,Jw]
section
variable {P:Program} {c:Cx} {h h1 ex:List (Nat × Bk)} {m n:Nat} {v:Bool} {d:Option Nat} {kk:PK} {f:FuncId} {xs:List TV} {args:List AV} {r:AV} {t:List (Nat × AV)} {r0:List bG} {K:St→Prop} {gd:Option (Nat × Bool)}
theorem Yb9 (hq:GD P c.gl f args h m (List.range m) r h1) (H:HL h m) (H1:HL h1 m) (hr:Qf m r) (hn:m≤n) (hex:∀ q ∈ ex,m≤q.1∧q.1 < n) (hk:kk=(bif v then .cY else .call f))
  (hb:gB (⟨t,ex++h,n⟩:St).fs gd=some true∧fx (⟨t,ex++h,n⟩:St).fs gd)
  (hc:Qt none (aF c.gl (⟨t,ex++h,n⟩:St).fs xs)∧mG v f ((aF c.gl (⟨t,ex++h,n⟩:St).fs xs).map Qj)=some (f,args)∧ah m args) (hx:XP P c r0 K (St.bD ⟨t,ex++h1,n + m⟩ d r)):Xw P c (.pd d kk xs gd) r0 K ⟨t,ex++h,n⟩:=by
 have aX:=Ba (v:=v) H hn (fun b hb=>List.mem_range.1 hb) hex hc
 have hA:=xy (d:=d) hq aX hk H1 hr
 rw[Jw,Hs H1 hr]at hA
 exact .inl ⟨_,_,Cp hb.1 hb.2 hA,hx⟩
end
set_option maxHeartbeats 4000000 in
theorem WH (gl:Nat→AV) (h0:gl 0=.xp (Qo Xs) 0):PS Tryz.prog gl 50 [] (.bool true):=by
 have bV:=HT gl false
 have wo:=Ns 0 aI
 have hT:=wo.wf
 obtain ⟨T1,D1,dH,kp,rN⟩:=V9 gl h0 (NS.new false) _ [] (NK.new false) wo (by exact List.Perm.refl _) ⟨1,0,0,pY⟩ aI
 have bI:=dH.wf
 rw[WD]at rN dH
 dsimp only[Ac.enc,Rp.enc]at rN
 have iz:=WC gl yO T1 (by have:=(NK.new false).step ⟨1,0,0,pY⟩;rw[WD]at this;exact this.toNI.toNJ) bI
 have eg:=xH gl sU aI
 have lT:Up sU=.aU [.agg (az sU).enc,.int .i64 0]:=by
  unfold Up;rw[Yek];rfl
 rw[lT]at eg
 have mg:=Xri gl u0 Yd8
 rw[Yca]at mg
 simp only[Pk.enc,u0]at mg
 obtain ⟨k2,k3⟩:=Yeu
 have hL:=Yfw
 generalize az sU=K at *
 obtain ⟨K1,K2,K3,K4,K5,K6,K7,K8,K9,K10,K11,K12⟩:=K
 dsimp only at k2 k3
 subst k2 k3
 unfold Pk.enc at eg
 dsimp only at eg
 generalize pY=F at *
 generalize sU=G at *
 generalize Og=L at *
 generalize Kd 0 (.aC [] true)=T0 at *
 refine Xkm.ps (of_decide_eq_true rfl) (by simp[Qf]) fun c hN hg=>?_
 subst hg
 conv in aQ _ _=>cbv
 refine Qe ?_
 refine Eb bV (Qi hT) ?_ au ?_
 ·exact Qr
 dsimp only[List.nil_append]
 rw[WE]
 refine Qe ?_
 (refine Qa (fun h1=>?_) (fun h1=>?_)<;>try exact h1.elim)
 refine Qe ?_
 refine Zq mg ?_
 refine sQ (v:=false) (pp:=[]) (ex:=[]) (s3:=⟨[(1,.ptr 67 0),(12,.agg [.int .i64 0,.str G,.bool false,.str L])],Qk yO T1,70⟩) (by rw[hN];simp) rN (Qi hT) (Qi bI) (by simp[Qf,ah]) aI au au rfl ?_ ?_ ?_
 ·exact Qq @Xz
 ·refine To.ED bI aI au au ?_
  simp[yP,Qu,Qf,ah,look,aD,ay,Bh]
 have aM:=fun n b hb=>Yl (S:=yO) bI n b hb
 refine Qh @aM ?_
 have jQ:(L.length:Int)=89:=by omega
 have tW:yO.aT.length=1:=rfl
 rw[tW]at iz
 refine Qv eg (An @aM @jQ) ?_
 have lS:=uZ 70 yO.aT
 generalize eK yO.aT=fz at *
 refine Yb9 (v:=false) (ex:=[(71,_),(71,_),(70,_),(70,_)]) iz (Qi bI) (Qi bI) (by simpa [Qf] using lS) aI au rfl ?_ ?_ ?_
 ·exact Qr
 ·exact Qq @Xz
 exact Qr
def lY:Ac:=⟨0,0,0,[]⟩
noncomputable def Ye (b:Bool) (l:List Ac):Nat→NS
 | 0=>NS.new b
 | i + 1=>((Ye b l i).step (l.getD i lY)).2
noncomputable def nX (b:Bool) (l:List Ac) (i:Nat):Rp:=((Ye b l i).step (l.getD i lY)).1
theorem wD (b:Bool) (l:List Ac):∀ i,NK (Ye b l i)
 | 0=>NK.new b
 | i + 1=>(wD b l i).step _
def u3 (l:List Ac):Prop:=∀ a ∈ l,a.frame.length≤140737488351232
theorem Oi {l:List Ac} (h:u3 l) (i:Nat):(l.getD i lY).frame.length≤140737488351232:=by
 by_cases hi:i < l.length
 ·simp only[List.getD,List.getElem?_eq_getElem hi,Option.getD_some];exact h _ (List.getElem_mem hi)
 ·simp[List.getD,List.getElem?_eq_none (Nat.le_of_not_lt hi),lY]
theorem Oj (gl:Nat→AV) (h0:gl 0=.xp (Qo Xs) 0) (b:Bool) (l:List Ac) (hl:u3 l) :
  ∃ Ts:Nat→WT,Ts 0=Kd 0 (.aC [] true)∧(∀ i,∃ D,WI (Ts i) (Ye b l i).now D∧D.Perm (Ye b l i).a8) ∧
   ∀ i,GD Tryz.prog gl 20 [.ptr 67 0,.agg (l.getD i lY).enc] (Qk (Ye b l i) (Ts i)) 70 [67] (.agg (nX b l i).enc) (Qk (Ye b l (i + 1)) (Ts (i + 1))):=by
 have step:∀ i (T:{T:WT // ∃ D,WI T (Ye b l i).now D∧D.Perm (Ye b l i).a8}),∃ T':{T:WT // ∃ D,WI T (Ye b l (i + 1)).now D∧D.Perm (Ye b l (i + 1)).a8},
   GD Tryz.prog gl 20 [.ptr 67 0,.agg (l.getD i lY).enc] (Qk (Ye b l i) T.1) 70 [67] (.agg (nX b l i).enc) (Qk (Ye b l (i + 1)) T'.1):=fun i ⟨T,D,hW,hP⟩=>by
  obtain ⟨T1,D1,dH,kp,hg⟩:=V9 gl h0 (Ye b l i) T D (wD b l i) hW hP (l.getD i lY) (Oi hl i)
  exact ⟨⟨T1,D1,dH,kp⟩,hg⟩
 let f:∀ i,{T:WT // ∃ D,WI T (Ye b l i).now D∧D.Perm (Ye b l i).a8}→{T:WT // ∃ D,WI T (Ye b l (i + 1)).now D∧D.Perm (Ye b l (i + 1)).a8}:=fun i T=>Classical.choose (step i T)
 have hf:=fun i T=>Classical.choose_spec (step i T)
 let T0:{T:WT // ∃ D,WI T (Ye b l 0).now D∧D.Perm (Ye b l 0).a8}:=⟨Kd 0 (.aC [] true),[],Ns 0 aI,List.Perm.refl _⟩
 let g:∀ i,{T:WT // ∃ D,WI T (Ye b l i).now D∧D.Perm (Ye b l i).a8}:=fun i=>Nat.rec T0 (fun i T=>f i T) i
 exact ⟨fun i=>(g i).1,rfl,fun i=>(g i).2,fun i=>hf i (g i)⟩
def iI (l:List Ac):List AV:=l.flatMap Ac.enc
theorem WJ (l:List Ac):(iI l).length=l.length * 4:=by
 induction l with
 | nil=>rfl
 | cons f l ih=>simp only[iI,List.flatMap_cons,List.length_append]at ih ⊢;rw[ih];simp[Ac.enc];omega
theorem Bo (n:Nat) (l:List Ac):ah n (iI l):=by
 rw[Xi]
 intro v hv
 obtain ⟨f,_,hf⟩:=List.mem_flatMap.1 hv
 simp[Ac.enc]at hf
 rcases hf with rfl|rfl|rfl|rfl<;>simp[Qf]
theorem WK (l:List Ac) {i:Nat} (h:i < l.length):((iI l).drop (i * 4)).take 4=(l.getD i lY).enc:=by
 induction l generalizing i with
 | nil=>simp at h
 | cons a l ih =>
  cases i with
  | zero=>simp[iI,Ac.enc]
  | succ i =>
   have:=ih (i:=i) (by simpa using h)
   rw[show (i + 1) * 4=4 + i * 4 by omega,← List.drop_drop]
   simpa [iI,Ac.enc] using this
def Jd (l:List Ac):Nat:=min l.length 100
section
variable {P:Program}
theorem Xmz {gl : Nat → AV} {f : FuncId} {fn : Func} {code : Code} {t : TC} {rs : List RS} {args : List AV} {aG : List (Nat × Bk)} {m : Nat} {r : AV} {aw : List (Nat × Bk)} {n : Nat} (hm : P.follows .mixedOrders = true) (hf : P.funcs[f]? = some fn) (hb : fn.body = some code) (dU : (fn.name == "runtime.NumGoroutine") = false)
  (he:Jc P fn.ntmps code=some t) (hr:m9 P fn.results.toList=some rs) (hN:args.length≤fn.ntmps) (aO:∀ q ∈ aG,q.2.live)
  (h:∀ c:Cx,(∀ q ∈ c.gh,q.1 ∈ List.range m)→c.gl=gl→xw P c t (EA m rs r aw n) ⟨jz 0 args,aG,m⟩):GS P gl f args aG m r aw n:=by
 refine ⟨⟨fn,hf,by rw[hb];rfl,dU⟩,fun w vs G X g jM hv=>?_⟩
 refine calls_of_wp hf hb ?_
 have ju:∀ b,b < m→g b≠.un:=fun b gJ e=>by
  have:=jM.h b
  rw[e]at this
  have hh:(cW aG m).H b=Qc aG m b:=rfl
  rw[hh]at this
  rcases Zn aG m b with q|⟨q0,hp,_,q⟩
  ·rw[q,if_pos gJ]at this;cases this;rename_i h;exact h rfl
  ·rw[q]at this
   have hl:=aO q0 hp
   cases hx:q0.2 with
   | free=>rw[hx]at hl;exact hl.elim
   | dead=>rw[hx]at hl;exact hl.elim
   | cells cs=>rw[hx]at this;cases this
   | aC kvs dn=>rw[hx]at this;cases this
   | bn kvs bs ck=>rw[hx]at this;cases this
   | iter b0 ck seen=>rw[hx]at this;cases this
   | dd ls=>rw[hx]at this;cases this with|dd _ h=>cases h
 have gO:∀ q ∈ (List.range m).map (fun b=>(b,g b)),g q.1=q.2∧q.2≠.un:=fun q hp=>by
  obtain ⟨b,gJ,rfl⟩:=List.mem_map.1 hp
  exact ⟨rfl,ju b (List.mem_range.1 gJ)⟩
 have aY:∀ q ∈ (List.range m).map (fun b=>(b,g b)),q.1 ∈ List.range m:=fun q hp=>by
  obtain ⟨b,gJ,rfl⟩:=List.mem_map.1 hp
  exact gJ
 have hR:=FY (N:=fn.ntmps) hN jM hv gO
 have:=vn (c:=⟨fn.ntmps,w,G,X,gl,(List.range m).map (fun b=>(b,g b))⟩) hm code t _ _ he (h _ aY rfl) _ _ _ hR
 refine wp_mono this fun e a' w' hq=>?_
 have fin:∀ (g1:Nat→GM) (s:St),R ⟨fn.ntmps,w,G,X,gl,(List.range m).map (fun b=>(b,g b))⟩ g1 s.fs a' w'→(Wq s.fs rs∧To (List.range m) ⟨[(0,ga s.fs rs)],s.h,s.n⟩ ⟨[(0,r)],aw,n⟩) →
   a'.defers=[]∧∃ v,(results fn a'.tmps).run P w'=.ok v w'∧(∃ nd g',Ending.returned v=.returned nd∧R ⟨0,w,G,X,gl,[]⟩ g' (cW aw n) ⟨#[],[]⟩ w'∧(∀ b,b < m→g' b=g b)∧VR g' (Qn ⟨0,w,G,X,gl,[]⟩ g' (cW aw n)) w' r nd):=by
  intro g1 s bf ⟨h1,h3⟩
  obtain ⟨v,h4,h5⟩:=B6 bf hr h1
  refine ⟨bf.dK,v,h4,v,?_⟩
  have cx:R ⟨1,w,G,X,gl,(List.range m).map (fun b=>(b,g b))⟩ g1 (⟨[(0,ga s.fs rs)],s.h,s.n⟩:St).fs ⟨#[v],[]⟩ w':=by
   refine ⟨rfl,rfl,fun i=>?_,bf.gl,bf.h,bf.inj,bf.old,bf.fr,bf.xs,bf.hU⟩
   show VR g1 _ w' (look [(0,ga s.fs rs)] i) _
   rw[Yw]
   split
   ·rename_i hi;subst hi;exact h5
   ·exact .any _
  obtain ⟨g2,bR⟩:=h3 _ g1 _ _ aY cx
  refine ⟨g2,rfl,⟨rfl,rfl,fun i=>.any _,bR.gl,bR.h,bR.inj,bR.old,bR.fr,bR.xs,fun q hp=>by cases hp⟩,fun b hb=>?_,?_⟩
  ·exact (bR.hU (b,g b) (List.mem_map.2 ⟨b,List.mem_range.2 hb,rfl⟩)).1
  ·exact bR.t 0
 cases e with
 | normal=>obtain ⟨g,s,bf,cD⟩:=hq;exact fin g s bf cD
 | ret=>obtain ⟨g,s,bf,cD⟩:=hq;exact fin g s bf cD
 | exit i=>obtain ⟨g,s,bf,cD⟩:=hq;exact cD.elim
 | goto l=>exact hq.elim
 | panic ch=>exact hq.elim
 | outgrown=>exact hq.elim
theorem FT.HX {P:Program} {gl:Nat→AV} {f:FuncId} {fn:Func} {t:TC} {rs:List RS} (hF:FT P f fn t rs) {args:List AV} {aG:List (Nat × Bk)} {m:Nat} {r:AV} {aw:List (Nat × Bk)} {n:Nat} (hN:args.length≤fn.ntmps) (aO:∀ q ∈ aG,q.2.live)
  (h:∀ c:Cx,(∀ q ∈ c.gh,q.1 ∈ List.range m)→c.gl=gl→xw P c t (EA m rs r aw n) ⟨jz 0 args,aG,m⟩):GS P gl f args aG m r aw n:=by
 have hc:=hF.code
 cases hb:fn.body with
 | none=>rw[hb]at hc;simp at hc
 | some code =>
  rw[hb]at hc
  exact Xmz hF.mixed hF.func hb hF.name hc hF.res hN aO h
end
mutual
theorem Bp {ρ:Nat→Nat} {n m:Nat} (h:∀ b,b < n→ρ b < m):∀ v:AV,Qf n v→Qf m (aD ρ v)
 | .dx _ v,hv=>by simp only[aD,Qf]at hv ⊢;exact Bp h v hv
 | .agg cs,hv=>by simp only[aD,Qf]at hv ⊢;exact cH h cs hv
 | .aU cs,hv=>by simp only[aD,Qf]at hv ⊢;exact cH h cs hv
 | .xp cs _,hv=>by simp only[aD,Qf]at hv ⊢;exact cH h cs hv
 | .isl _ cs,hv=>by simp only[aD,Qf]at hv ⊢;exact cH h cs hv
 | .cl _ cs,hv=>by simp only[aD,Qf]at hv ⊢;exact cH h cs hv
 | .ptr b _,hv=>by simp only[aD,Qf]at hv ⊢;exact h b hv
 | .sl _ b _ _ _,hv=>by simp only[aD,Qf]at hv ⊢;exact h b hv
 | .mp b,hv=>by simp only[aD,Qf]at hv ⊢;exact h b hv
 | .int _ _,_=>by simp[aD,Qf]
 | .bool _,_=>by simp[aD,Qf]
 | .str _,_=>by simp[aD,Qf]
 | .nils,_=>by simp[aD,Qf]
 | .lit _,_=>by simp[aD,Qf]
 | .any,_=>by simp[aD,Qf]
theorem cH {ρ:Nat→Nat} {n m:Nat} (h:∀ b,b < n→ρ b < m):∀ l:List AV,ah n l→ah m (ay ρ l)
 | [],_=>by simp[ay,ah]
 | x::xs,hv=>by
  simp only[ay,ah]at hv ⊢
  exact ⟨Bp h x hv.1,cH h xs hv.2⟩
end
theorem Ol {ρ:Nat→Nat} {n m:Nat} (h:∀ b,b < n→ρ b < m) {x:Bk} (hx:bP n x):bP m (Qx ρ x):=by
 cases x with
 | cells cs=>exact cH h cs hx
 | aC kvs dn =>
  intro p hp
  obtain ⟨q,hq,rfl⟩:=List.mem_map.1 hp
  exact ⟨Bp h _ (hx q hq).1,Bp h _ (hx q hq).2⟩
 | bn kvs bs ck =>
  intro p hp
  obtain ⟨q,hq,rfl⟩:=List.mem_map.1 hp
  exact ⟨Bp h _ (hx q hq).1,Bp h _ (hx q hq).2⟩
 | iter b ck seen=>exact h b hx
 | dd ls=>exact hx
 | free=>exact hx.elim
 | dead=>exact hx.elim
def up (h:List (Nat × Bk)):List (Nat × Bk):=h.map fun q=>(q.1 + 70,q.2)
theorem Om {ρ:Nat→Nat} {x:Bk} (h:bP 0 x):Qx ρ x=x:=(Jm (g:=id) (fun j hj=>by omega) h).trans Kb
theorem Uh {n j:Nat} {B:List (Nat × Bk)}:∀ {A:List (Nat × Bk)},(∃ q ∈ A,q.1=j)→Qc (A++B) n j=Qc A n j
 | [],⟨q,hq,_⟩=>by cases hq
 | (i,x)::A,⟨q,hq,e⟩=>by
  rw[List.cons_append,Qd,Qd]
  by_cases h:i=j
  ·rw[if_pos h,if_pos h]
  ·rw[if_neg h,if_neg h]
   refine Uh ⟨q,?_,e⟩
   rcases List.mem_cons.1 hq with rfl|hq
   ·exact (h e).elim
   ·exact hq
theorem WL (ρ τ:Nat→Nat):∀ v:AV,aD ρ (aD τ v)=aD (fun b=>ρ (τ b)) v:=by
 intro v
 exact AV.rec (motive_1:=fun v=>aD ρ (aD τ v)=aD (fun b=>ρ (τ b)) v) (motive_2:=fun l=>ay ρ (ay τ l)=ay (fun b=>ρ (τ b)) l) (by simp[aD]) (fun b v h=>by simp[aD,h]) (fun _ _=>by simp[aD]) (fun _=>by simp[aD]) (fun _=>by simp[aD])
  (fun cs h=>by simp[aD,h]) (fun cs h=>by simp[aD,h]) (fun _ _=>by simp[aD]) (fun cs _ h=>by simp[aD,h]) (fun _ _ _ _ _=>by simp[aD]) (fun _ cs h=>by simp[aD,h]) (by simp[aD])
  (fun _ cs h=>by simp[aD,h]) (fun _=>by simp[aD]) (fun _=>by simp[aD]) (by simp[ay]) (fun x xs h1 h2=>by simp[ay,h1,h2]) v
theorem HY (ρ τ:Nat→Nat) (x:Bk):Qx ρ (Qx τ x)=Qx (fun b=>ρ (τ b)) x:=by
 have hl:∀ l,ay ρ (ay τ l)=ay (fun b=>ρ (τ b)) l:=fun l=>by
  rw[Yk,Yk,Yk,List.map_map]
  exact List.map_congr_left fun v _=>WL ρ τ v
 cases x<;>simp[Qx,hl,WL,Function.comp]
section
variable {P:Program} {c:Cx} {aG aw ex:List (Nat × Bk)} {m n:Nat} {v:Bool} {d:Option Nat} {kk:PK} {f:FuncId} {xs:List TV} {args:List AV} {r:AV} {t:List (Nat × AV)} {r0:List bG} {K:St→Prop} {σ:Nat→Nat}
theorem WM {p pp:List Nat} {s3:St} (aY:∀ q ∈ c.gh,q.1 ∈ pp) (hq:GD P c.gl f args aG m p r aw) (ok:mI c.gl xs v f args σ p m t ex aG n) (hk:kk=(bif v then .cY else .call f)) (H1:HL aw m) (hr:Qf m r) (gC:To pp (Zr t ex aw σ p m n d r) s3) (hx:XP P c r0 K s3):Xw P c (.pd d kk xs none) r0 K ⟨t,ex++Qs σ aG,n⟩:=by
 refine .inr fun ops io he g a w hR K' Q' hK=>?_
 have hA:=xy (d:=d) hq ok hk H1 hr ops io he
 refine hA.step _ (fun _ _=>rfl) (fun _ _=>rfl) g a w hR K' Q' fun g2 a' w' bR=>?_
 rw[zB hA.bh hA.cZ]at bR
 obtain ⟨g3,jD⟩:=gC c g2 a' w' aY bR
 exact hK g3 s3 a' w' hx jD
theorem WN (H1:HL aw m) (hr:Qf m r):Zr t ex aw σ (List.range m) m n d r=St.bD ⟨t,ex++Qs σ aw,n + m⟩ d (aD σ r):=by
 have e:∀ b,b < m→bU σ (List.range m) n b=σ b:=fun b hb=>Kq (List.mem_range.2 hb)
 unfold Zr
 have e2:aD (bU σ (List.range m) n) r=aD σ r:=by
  have:=Jm (x:=.cells [r]) e ⟨hr,trivial⟩
  simpa [Qx,ay] using this
 rw[Ed H1 e,e2]
end
end Go.Proofs.YtogckmommodmhaaGreatDoor
namespace Go.Proofs.YtogckmommodmhaaGreatDoor
open Go.RowKit
set_option linter.all false
set_option linter.unusedSimpArgs false
set_option maxRecDepth 100000
theorem To.fV {p:List Nat} {t t':List (Nat × AV)} {ex0 ex:List (Nat × Bk)} {S:NS} {T:WT} {N k:Nat} (H:HL (ex++Qk S T) k) (hT:T.wf) (hp:∀ b ∈ p,b < k) (h0:∀ q ∈ ex0,70≤q.1) (h1:∀ q ∈ ex,70≤q.1) (hl:∀ b,70≤b→b < k→Qc (ex0++Qk S T) N b=Qc (ex++Qk S T) k b) (ht:Qu id k t t') :
  To p ⟨t,ex0++Qk S T,N⟩ ⟨t',ex++Qk S T,k⟩ :=
 To.lX id H (fun b hb=>⟨rfl,hp b hb⟩) (fun b b' _ _ e=>e) (fun b hb=>by
  rw[Kb]
  show Qc (ex0++Qk S T) N b=_
  by_cases h:b < 70
  ·rw[Qw fun q hq e=>by have:=h0 q hq;omega,Qw fun q hq e=>by have:=h1 q hq;omega,(Qi hT).lo h N,(Qi hT).lo h k]
  ·exact hl b ae hb) ht
end Go.Proofs.YtogckmommodmhaaGreatDoor
namespace Go.Proofs.YtogckmommodmhaaGreatDoor
open Go.RowKit
open Go.RowKit Go.ChangeShapes Go.WideShapes Go.Deep
set_option linter.all false
set_option linter.unusedSimpArgs false
set_option maxRecDepth 100000
theorem qB.isl {W:World} {v:Value} {n sz:Nat} {R:Nat→Nat→Value→Prop} (cJ:0 < sz) (h:qB W v n sz R) (h1:∀ i j u,R i j u→u.oneCell'=true) :
  ∃ us:Nat→Value,(∀ i,i < n→∀ j,j < sz→R i j (us (i * sz + j)))∧VR (fun _=>.un) (fun _=>False) W (.isl n ((List.range (n * sz)).map fun m=>fg (us m))) v:=by
 obtain ⟨A,cap,rfl,hn,hm,hc⟩:=h.form
 rcases Nat.eq_zero_or_pos n with rfl|dS
 ·exact ⟨fun _=>undef,fun i hi=>absurd hi ae,.isl (us:=fun _=>undef) hn hm (fun j hj=>by simp at hj) fun j hj=>by simp at hj⟩
 ·obtain ⟨b,o,rfl,hb,eD⟩:=hc dS
  have key:∀ i,i < n→∀ j,j < sz→W.cell? ⟨b,o + (i * sz + j),none⟩=some ((W.cell? ⟨b,o + (i * sz + j),none⟩).getD undef)∧R i j ((W.cell? ⟨b,o + (i * sz + j),none⟩).getD undef):=by
   intro i hi j hj
   obtain ⟨u,hu,hr⟩:=eD i hi j hj
   rw[hu];exact ⟨rfl,hr⟩
  refine ⟨fun m=>(W.cell? ⟨b,o + m,none⟩).getD undef,fun i hi j hj=>(key i hi j hj).2,?_⟩
  have at_:∀ m,m < n * sz→W.cell? ⟨b,o + m,none⟩=some ((W.cell? ⟨b,o + m,none⟩).getD undef)∧((W.cell? ⟨b,o + m,none⟩).getD undef).oneCell'=true:=by
   intro m hm
   have hd:m / sz < n:=Nat.div_lt_of_lt_mul (by rw[Nat.mul_comm];exact hm)
   have hr:=Nat.mod_lt m cJ
   have e:m / sz * sz + m % sz=m:=by rw[Nat.mul_comm];exact Nat.div_add_mod m sz
   have:=key _ hd _ hr
   rw[e]at this
   exact ⟨this.1,h1 _ _ _ this.2⟩
  refine .isl (us:=fun m=>(W.cell? ⟨b,o + m,none⟩).getD undef) hn hm (fun j hj=>⟨b,o,rfl,?_,id,?_⟩) fun j hj=>?_
  ·simp only[List.length_map,List.length_range]at hj;exact (at_ j hj).1
  ·simp only[List.length_map,List.length_range]at hj;exact (at_ j hj).2
  ·simp only[List.length_map,List.length_range]at hj
   have:((List.range (n * sz)).map fun m=>fg ((W.cell? ⟨b,o + m,none⟩).getD undef)).getD j .any=fg ((W.cell? ⟨b,o + j,none⟩).getD undef):=by simp[List.getD,hj]
   rw[this]
   exact Fc _
end Go.Proofs.YtogckmommodmhaaGreatDoor
namespace Go.Proofs.YtogckmommodmhaaGreatDoor
open Go.RowKit
open Go.RowKit Go.ChangeShapes Go.WideShapes
set_option linter.all false
set_option linter.unusedSimpArgs false
set_option maxRecDepth 100000
end Go.Proofs.YtogckmommodmhaaGreatDoor
namespace Go.Proofs.YtogckmommodmhaaGreatDoor
open Go.RowKit
open Go.RowKit Go.ChangeShapes Go.WideShapes Go.Deep
set_option linter.all false
set_option linter.unusedSimpArgs false
set_option maxRecDepth 100000
theorem WO:((Tryz.prog.fieldsOf 23).toList.map (·.type))=[3,3,3,9]:=by kernel_rfl
theorem WQ:Tryz.prog.underlying 23=some (.struct (Tryz.prog.fieldsOf 23)):=by kernel_rfl
theorem Xz9:(Tryz.prog.fieldsOf 23).size=4:=by kernel_rfl
theorem Ydq:oneCellFields Tryz.prog (Tryz.prog.fieldsOf 23)=true:=by kernel_rfl
theorem Xs8:Tryz.prog.cellsOf 23=(Tryz.prog.fieldsOf 23).size:=by kernel_rfl
theorem Xwu:Tryz.prog.bytesOf 23=40:=by kernel_rfl
def On {H:Type} (a:Ac) (d:DataW H):Prop:=∃ parts,d=.agg parts∧parts[3]?=some (.lit (.string a.frame))
theorem WR {H:Type} {P:Program} {e:TypeId} {d:DataW H} {n:Nat}:∀ {es:List (DataW H)},d ∈ es→n ∈ d.weights P e→n ∈ DataW.weightsAll P e es
 | d0::es,hd,hn=>by
  simp only[DataW.weightsAll,List.mem_append]
  rcases List.mem_cons.1 hd with rfl|hd
  ·exact .inl hn
  ·exact .inr (WR hd hn)
theorem On.weight {H:Type} {a:Ac} {d:DataW H} (h:On a d):a.frame.length ∈ d.weights Tryz.prog 23:=by
 obtain ⟨parts,rfl,h3⟩:=h
 simp only[DataW.weights,WQ,WO]
 exact DataW.weights_mem_each (j:=3) rfl h3 _ (by simp[DataW.weights])
theorem Xs7 {j:Nat} {f:Field} (h:(Tryz.prog.fieldsOf 23)[j]?=some f):[3,3,3,9][j]?=some f.type:=by
 rw[← WO,List.getElem?_map,Array.getElem?_toList,h];rfl
section
variable {H:Type} {enc:TypeId × Value→H} {w:World} {base:Nat} {spare:Nat→Bool} {held:Bool}
def WS (d:DataW H) (i j:Nat) (u:Value):Prop:=∃ es sp parts,d=.slice es sp∧es[i]?=some (.agg parts) ∧
 ((j < 3∧∃ z,u=.int .i64 z)∨(j=3∧∃ s:ByteArray,u=.string s∧parts[3]?=some (.lit (.string s.data.toList))))
set_option maxRecDepth 100000 in
theorem WU {b0:Nat} {v:Value} {d:DataW H} {p:List MemPlace} (fD:Value.okWide Tryz.prog w .any b0 44 v) (h:DataW.Trod enc Tryz.prog w base spare held 44 v d p) :
  ∃ n,(d=.nil∧n=0∨∃ es sp,d=.slice es sp∧es.length=n)∧qB w v n 4 (WS d):=by
 obtain ⟨A,len,cap,rfl⟩:=okWide_slice Tryz.underlying44 fD
 obtain ⟨fuel,h⟩:=h
 have cJ:=Xz9
 rcases Qn1 Tryz.underlying44 WQ Ydq Xs8 h with ⟨h0,h1⟩|⟨a,rra,rsa,m,D,Pl,iw,hb,hl,hm,C3,hx,hi⟩
 ·simp[Value.cells]at h0
  obtain ⟨rfl,rfl,rfl⟩:=h0
  exact ⟨0,.inl ⟨(Prod.mk.inj h1).1,rfl⟩,⟨none,0,rfl,Nat.le_refl _,by unfold maxLen;omega,fun h=>by omega⟩⟩
 ·simp[Value.cells]at iw
  obtain ⟨rfl,rfl,rfl⟩:=iw
  refine ⟨len,.inr ⟨_,_,(Prod.mk.inj hx).1,by simp⟩,⟨some a,cap,rfl,hl,hm,fun h0=>?_⟩⟩
  have LH:len≤m:=by rw[C3];split<;>omega
  obtain ⟨ab,ao,WV⟩:=a
  obtain ⟨ys,n',_,_,_,hf⟩:=hi 0 ae
  obtain ⟨v0,y0,jy,_,_⟩:=hf 0 _ (Array.getElem?_eq_getElem (by rw[cJ];decide))
  have nM:WV=none:=by
   simp only[Nat.zero_mul,Nat.add_zero,Addr.add,if_pos]at jy
   unfold World.cell? at jy
   cases WV with
   | none=>rfl
   | some s=>revert jy;cases w.heap[ab]? with
    | none=>simp
    | some o=>cases o<;>simp
  subst nM
  refine ⟨ab,ao,rfl,?_,fun i aG j hj=>?_⟩
  ·rcases Nat.lt_or_ge ab w.heap.size with h|h
   ·exact h
   ·simp only[Nat.zero_mul,Nat.add_zero,Addr.add,if_pos]at jy
    unfold World.cell? at jy
    rw[Array.getElem?_eq_none h]at jy
    cases jy
  ·obtain ⟨ys,n',hD,_,vD,hf⟩:=hi i ae
   have fG:j < (Tryz.prog.fieldsOf 23).size:=by rw[cJ];exact hj
   obtain ⟨u,y,hc,hy,ml⟩:=hf j _ (Array.getElem?_eq_getElem fG)
   rw[Addr.add_mid,cJ]at hc
   refine ⟨u,hc,_,_,ys.map (·.1),(Prod.mk.inj hx).1,by simp[aG,hD],?_⟩
   have ht:=Xs7 (Array.getElem?_eq_getElem fG)
   generalize (Tryz.prog.fieldsOf 23)[j]=f at ht ml
   rcases (by omega:j=0∨j=1∨j=2∨j=3) with rfl|rfl|rfl|rfl
   ·have e:f.type=3:=by simpa using ht.symm
    rw[e]at ml
    obtain ⟨z,hz,_⟩:=DataW.trod_int Tryz.underlying3 ml
    exact .inl ⟨by decide,z,by simpa using hz⟩
   ·have e:f.type=3:=by simpa using ht.symm
    rw[e]at ml
    obtain ⟨z,hz,_⟩:=DataW.trod_int Tryz.underlying3 ml
    exact .inl ⟨by decide,z,by simpa using hz⟩
   ·have e:f.type=3:=by simpa using ht.symm
    rw[e]at ml
    obtain ⟨z,hz,_⟩:=DataW.trod_int Tryz.underlying3 ml
    exact .inl ⟨by decide,z,by simpa using hz⟩
   ·have e:f.type=9:=by simpa using ht.symm
    rw[e]at ml
    obtain ⟨s,hz,he,_⟩:=DataW.trod_string Tryz.underlying9 ml
    exact .inr ⟨rfl,s,by simpa using hz,by rw[List.getElem?_map,hy,he];rfl⟩
theorem qB.aE {v:Value} {d:DataW H} {n:Nat} (h:qB w v n 4 (WS d)) (hn:d=.nil∧n=0∨∃ es sp,d=.slice es sp∧es.length=n) {ts:List TypeId} {ds:List (DataW H)} (cJ:(DataW.weightsEach Tryz.prog ts ds).all (·≤reachBytes)=true) {j:Nat} (ht:ts[j]?=some 44) (hd:ds[j]?=some d) :
  ∃ l:List Ac,l.length=n∧u3 l∧l.length≤140737488351232∧VR (fun _=>.un) (fun _=>False) w (.isl n (iI l)) v:=by
 obtain ⟨us,hu,hv⟩:=h.isl aI fun i j u ⟨es,sp,parts,_,_,hr⟩=>by
  rcases hr with ⟨_,z,rfl⟩|⟨_,s,rfl,_⟩<;>rfl
 let gi (v:Value):Int:=match v with|.int _ z=>z|_=>0
 let gs (v:Value):List UInt8:=match v with|.string s=>s.data.toList|_=>[]
 let ac (i:Nat):Ac:=⟨gi (us (i * 4 + 0)),gi (us (i * 4 + 1)),gi (us (i * 4 + 2)),gs (us (i * 4 + 3))⟩
 have heq:∀ k,k≤n→(List.range (k * 4)).map (fun m=>fg (us m))=iI ((List.range k).map ac):=fun k=>by
  induction k with
  | zero=>intro _;rfl
  | succ k ih =>
   intro hk
   rw[show (k + 1) * 4=k * 4 + 1 + 1 + 1 + 1 by omega,List.range_succ,List.range_succ,List.range_succ,List.range_succ,List.range_succ]
   simp only[List.map_append,List.map_cons,List.map_nil,List.append_assoc]
   rw[ih ae]
   simp only[iI,List.flatMap_append,List.flatMap_cons,List.flatMap_nil,List.append_nil,Ac.enc]
   congr 1
   obtain ⟨_,_,_,_,_,h0⟩:=hu k ae 0 aI
   obtain ⟨_,_,_,_,_,h1⟩:=hu k ae 1 aI
   obtain ⟨_,_,_,_,_,h2⟩:=hu k ae 2 aI
   obtain ⟨_,_,_,_,_,h3⟩:=hu k ae 3 aI
   obtain ⟨_,z0,e0⟩:=h0.resolve_right au
   obtain ⟨_,z1,e1⟩:=h1.resolve_right au
   obtain ⟨_,z2,e2⟩:=h2.resolve_right au
   obtain ⟨_,s3,e3,_⟩:=h3.resolve_left au
   have e0:us (k * 4)=_:=e0
   have e2:us (k * 4 + 1 + 1)=_:=e2
   have e3:us (k * 4 + 1 + 1 + 1)=_:=e3
   simp only[ac,gi,gs,e0,e1,e2,e3,fg]
   rw[show us (k * 4 + 0)=_ from e0]
   rfl
 refine ⟨(List.range n).map ac,by simp,fun a ha=>?_,?_,?_⟩
 ·obtain ⟨i,hi,rfl⟩:=List.mem_map.1 ha
  rw[List.mem_range]at hi
  obtain ⟨es,sp,parts,e1,e2,h3⟩:=hu i hi 3 aI
  obtain ⟨_,s3,e3,e4⟩:=h3.resolve_left au
  have hf:(ac i).frame=s3.data.toList:=by simp only[ac,gs,e3]
  have hw:(ac i).frame.length ∈ d.weights Tryz.prog 44:=by
   subst e1
   simp only[DataW.weights,Tryz.underlying44]
   refine List.mem_cons_of_mem _ (List.mem_append_left _ (WR (List.mem_of_getElem? e2) (On.weight ⟨parts,rfl,?_⟩)))
   rw[hf];exact e4
  have:=List.all_eq_true.1 cJ _ (DataW.weights_mem_each ht hd _ hw)
  simp only[reachBytes]at this
  exact of_decide_eq_true this
 ·rcases hn with ⟨_,rfl⟩|⟨es,sp,rfl,rfl⟩
  ·simp
  ·have:=sized_slice cJ ht hd Tryz.underlying44
   rw[Xwu]at this
   simp only[reachBytes]at this
   simp;omega
 ·rw[heq n (Nat.le_refl n)]at hv
  exact hv
end
end Go.Proofs.YtogckmommodmhaaGreatDoor
namespace Go.Proofs.YtogckmommodmhaaGreatDoor
open Go.RowKit
open Go.RowKit Go.ChangeShapes Go.WideShapes
set_option linter.all false
set_option linter.unusedSimpArgs false
set_option maxRecDepth 100000
theorem PS.law {f:FuncId} {args:List AV} {vs:List Value} {W:World} (h:PS Tryz.prog vE f args (.bool true)) (hg:∀ i,VR (fun _=>.un) (fun _=>False) W (vE i) (.pointer (some ⟨i,0,none⟩))) (hv:bO (fun _=>.un) (fun _=>False) W args vs) :
  Calls Tryz.prog f vs.toArray W fun e W'=>e=.returned (.bool true)∧Below W.heap.size W W' :=
 (h.2 W vs (fun _=>False) (fun _ h=>h.elim) hg hv).mono fun e w' ⟨u,e1,e2,e3⟩=>by
  cases e2
  exact ⟨e1,⟨e3.os,e3.tape,e3.output,e3.size,fun k hk=>e3.fV k hk fun h=>h.elim⟩⟩
end Go.Proofs.YtogckmommodmhaaGreatDoor
namespace Go.Proofs.YtogckmommodmhaaGreatDoor
open Go.RowKit
set_option linter.all false
set_option linter.unusedSimpArgs false
set_option maxRecDepth 100000
end Go.Proofs.YtogckmommodmhaaGreatDoor
