import Derived.Test.YtogckmommodmhaaGreatDoorZt15
import Derived.Test.YtogckmommodmhaaGreatDoorZt5
import Derived.Test.YtogckmommodmhaaGreatDoorZt14
import Derived.Test.YtogckmommodmhaaGreatDoorZt11
import Derived.Test.YtogckmommodmhaaGreatDoorZt4
import Derived.Test.YtogckmommodmhaaGreatDoorZt7
import Derived.Test.YtogckmommodmhaaGreatDoorZt2
import Derived.Test.YtogckmommodmhaaGreatDoorZt8
import Derived.Test.YtogckmommodmhaaGreatDoorRows
import Derived.KernelRfl
import Derived.SizedLaws
set_option maxHeartbeats 16000000
namespace Go.Proofs.YtogckmommodmhaaGreatDoor
open Go.RowKit
set_option linter.all false
set_option linter.unusedSimpArgs false
set_option maxRecDepth 100000
theorem VJ {S:NS} (h:NI S) (es:List Ev):NI (S.log es):=h.ko _
def VK (gl:Nat→AV) (S:NS) (T:WT) (fn:FuncId) (args:List AV) (x:Rp × NS):Prop :=
 ∃ T' D',WI T' x.2.now D'∧D'.Perm x.2.a6∧GD Tryz.prog gl fn args (Qm S T) 70 [67] (.agg x.1.enc) (Qm x.2 T')
theorem Yai (gl:Nat→AV) (h0:gl 0=.xp (Qp Xi) 0) (S:NS) (T:WT) (D:List Tm) (hS:NI S) (uI:S.b8≤900000) (we:S.told≤90000) (hW:WI T S.now D) (hD:D.Perm S.a6) (ak an ad:Int) (f:List UInt8) (hf:f.length≤140737488351232) :
  VK gl S T 58 [.ptr 67 0,.agg [.int .i64 ak,.int .i64 an,.int .i64 ad,.str f]] (S.out f ad):=by
 have key:∀ x y,S.mX f ad=(x,y)→∃ T' D' T1,WI T' x.2.now D'∧D'.Perm x.2.a6∧T1.wf∧(y=none→T'=T) ∧
   ∀ m es S1,y=some (m,es,S1)→uP gl S T T1 T' f (az f) (S.tb.cx (az f).ae ((az f).aA - 167772161) (az f).ah ad).1 m es S1:=by
  intro x y hx
  have stay:∀ r:Rp × NS,r.2.now=S.now→r.2.a6=S.a6→(r,none)=(x,y)→∃ T' D' T1,WI T' x.2.now D'∧D'.Perm x.2.a6∧T1.wf∧(y=none→T'=T) ∧
    ∀ m es S1,y=some (m,es,S1)→uP gl S T T1 T' f (az f) (S.tb.cx (az f).ae ((az f).aA - 167772161) (az f).ah ad).1 m es S1:=fun r h1 h2 e=>by
   obtain ⟨rfl,rfl⟩:=Prod.mk.inj e
   exact ⟨T,D,T,by rw[h1];exact hW,by rw[h2];exact hD,hW.wf,fun _=>rfl,by simp⟩
  have uQ:∀ e,(S.refuse f e).2.now=S.now∧(S.refuse f e).2.a6=S.a6:=fun e=>by
   unfold NS.refuse;split<;>exact ⟨rfl,rfl⟩
  have go:∀ (m:Mp) (es:List Ev) (S1:NS) (T1:WT) (D1:List Tm),NI S1→WI T1 S1.now D1→D1.Perm S1.a6→S1.b8≤1000000→S1.told≤100000→es.length≤64→(∀ e ∈ es,Ul e.t e.s e.a e.b=true∧e.t=(es.headD ⟨0,0,0,0,false⟩).t)→0≤m.a∧m.a < 3 →
    (S.cR (az f)≠0→GD Tryz.prog gl 93 [.ptr 67 0,.int .i64 (S.cR (az f)),.agg (az f).enc,.bool false] (Qm S T) 70 [67] (.aX []) (Qm S1 T1)) →
    (S.cR (az f)=0→DB m∧GD Tryz.prog gl 91 [.ptr 67 0,.agg (Fl.enc ⟨m,(az f).dst,(az f).aj,rz (az f).ae,0,0⟩)] (Qm { S with tb:=(S.tb.cx (az f).ae ((az f).aA - 167772161) (az f).ah ad).1 } T) 70 [67] (.aX []) (Qm S1 T1)) →
    (S1.en f m es,some (m,es,S1))=(x,y)→∃ T' D' T1,WI T' x.2.now D'∧D'.Perm x.2.a6∧T1.wf∧(y=none→T'=T) ∧
    ∀ m es S1,y=some (m,es,S1)→uP gl S T T1 T' f (az f) (S.tb.cx (az f).ae ((az f).aA - 167772161) (az f).ah ad).1 m es S1:=by
   intro m es S1 T1 D1 Ob di jq sS wo hl hg ha h1 h2 e
   obtain ⟨rfl,rfl⟩:=Prod.mk.inj e
   rw[wm]
   by_cases il:0≤(az f).dst - 3405803777∧(az f).dst - 3405803777 < 3
   ·rw[if_pos il]
    obtain ⟨T3,D3,mE,VL,hi⟩:=Vz gl (S1.log es) T1 D1 (VJ Ob es) sS di jq (Yq f 0 (3405803777 + m.a) m.port) (Nat.le_trans (EC ..) hf)
    refine ⟨T3,D3,T1,mE,VL,di.wf,by simp,fun m' es' S' e=>?_⟩
    obtain ⟨rfl,rfl,rfl⟩:m=m'∧es=es'∧S1=S':=by simpa using e
    exact ⟨Ob.toNJ,wo,hl,hg,ha,h1,h2,fun _=>hi,fun h=>(h il).elim⟩
   ·rw[if_neg il]
    refine ⟨T1,D1,T1,di,jq,di.wf,by simp,fun m' es' S' e=>?_⟩
    obtain ⟨rfl,rfl,rfl⟩:m=m'∧es=es'∧S1=S':=by simpa using e
    exact ⟨Ob.toNJ,wo,hl,hg,ha,h1,h2,fun h=>(il h).elim,fun _=>rfl⟩
  unfold NS.mX at hx
  split at hx
  ·exact stay (_,S) rfl rfl hx
  rename_i he
  have he:bP f=0:=Decidable.not_not.1 he
  split at hx
  ·exact stay (_,S) rfl rfl hx
  rename_i hs
  split at hx
  ·exact stay (_,S) rfl rfl hx
  split at hx
  ·exact stay (_,S) rfl rfl hx
  split at hx
  ·rename_i hk
   split at hx
   ·rename_i m hm
    obtain ⟨q,hq,e,_⟩:=Ex (S:=S) (m:=m) (r:=(az f).dst) (rp:=(az f).aj) (by unfold NS.cR at hk;rw[hm]at hk;exact hk)
    have ek:S.cR (az f)=q.1:=by unfold NS.cR;rw[hm];exact e
    rw[ek]at hx
    obtain ⟨T1,D1,di,jq,hg⟩:=Vo gl S T D hS hW hD q hq (az f) false
    have hma:=(hS.gt.maps m (List.mem_of_find?_eq_some hm)).1.2.2
    exact go m [] _ T1 D1 (hS.goes q.1 (az f) false) di jq (by show S.b8≤_;omega) (by show S.told≤_;omega) au au hma (fun _=>by rw[ek];exact hg) (fun h=>(hk h).elim) hx
   ·exact stay (_,S) rfl rfl hx
  rename_i hk
  have gT:S.cR (az f)=0:=Decidable.not_not.1 hk
  split at hx
  ·exact stay (_,S) rfl rfl hx
  split at hx
  ·exact stay _ (uQ _).1 (uQ _).2 hx
  rename_i hl
  split at hx
  ·exact stay _ (uQ _).1 (uQ _).2 hx
  rename_i ho
  have ho:=Decidable.not_not.1 ho
  obtain ⟨S0,lU,_,bB,bh,b9,hb⟩:=hS.opened he hs gT af ho
  have hb:=hb (rz (az f).ae)
  have nT:=bh.wf hS.wf
  have HZ:=bh.ca hS.gt hS.wf bB
  have bH:=(bh.has (by rw[← lU];exact ho)).1
  clear bh b9
  rw[← lU]at hb nT HZ bH
  generalize S.tb.cx (az f).ae ((az f).aA - 167772161) (az f).ah ad=o at *
  obtain ⟨T1,D1,di,jq,hg⟩:=Vk gl { S with tb:=o.1 } T D (hS.toNJ.nb.rB nT) (by show S.b8≤_;omega) hW hD (by show S.fl.length < 48;omega) o.2.1 (az f).dst (az f).aj (rz (az f).ae)
  have bm:=Vs (S:={ S with tb:=o.1 }) hS.now HZ bH false
  refine go o.2.1 (if o.2.2.1 then [({ S with tb:=o.1 }:NS).ev o.2.1 false] else []) _ T1 D1 hb di jq (by show S.b8 + 1≤_;omega) (by show S.told≤_;omega) (by split<;>simp) (fun e he=>?_) (HZ.maps _ bH).1.2.2 (fun h=>(h gT).elim) (fun _=>⟨(HZ.ok nT).bd _ bH,hg⟩) hx
  split at he
  ·rename_i ht
   rw[if_pos ht]
   obtain rfl:=List.mem_singleton.1 he
   exact ⟨bm,rfl⟩
  ·cases he
 have e2:=Ycv S f ad
 obtain ⟨x,hx⟩:∃ x,S.mX f ad=x:=⟨_,rfl⟩
 rw[hx]at e2
 obtain ⟨x,y⟩:=x
 obtain ⟨T',D',T1,h1,h2,h3,h4,h5⟩:=key x y hx
 dsimp only at e2
 subst e2
 exact ⟨T',D',h1,h2,Ye2 gl h0 S T T1 T' D hS hW h3 h1.wf ak an ad f hf _ y hx h4 h5⟩
theorem To.EE {p:List Nat} {t t':List (Nat × AV)} {ex ex':List (Nat × Bk)} {S:NS} {T:WT} {σ:Nat→Nat} {n k r:Nat} (hT:T.wf) (H':HL (ex'++Qm S T) k) (qva:70≤k) (kj:∀ q ∈ ex',70≤q.1) (hp:∀ b ∈ p,b=67∨b=68) (bT:∀ b b',b < 67→b' < 67→σ b=σ b'→b=b') (hex:∀ q ∈ ex,∀ b,b < 67→σ b≠q.1)
  (hr:r≠67∧r≠68∧(r=69∨k≤r)) (aI:∀ b,b < 67→σ b≠67∧σ b≠68∧σ b≠r∧(σ b < 67∨k≤σ b))
  (nS:Qc (ex++Xc σ T.hb) n 67=.cells (S.tb.enc++S.Bn r (σ 0))) (qa:Qc (ex++Xc σ T.hb) n 68=.aE (fR S.fl) false) (yN:Qc (ex++Xc σ T.hb) n r=.cells (Qp S.keys)) (hl:∀ b,70≤b→b < k→Qc (ex++Xc σ T.hb) n b=Xg (nr σ r) (Qc (ex'++Qm S T) k b)) (ht:Qu (nr σ r) k t t'):To p ⟨t,ex++Xc σ T.hb,n⟩ ⟨t',ex'++Qm S T,k⟩:=by
 have yO:nr σ r 67=67:=rfl
 have uJ:nr σ r 68=68:=rfl
 have rH:nr σ r 69=r:=rfl
 have rN:∀ b,70≤b→nr σ r b=b:=fun b hb=>by unfold nr;rw[if_neg af,if_neg af]
 have km:∀ b,b < 70→Qc (ex'++Qm S T) k b=Qc (Qm S T) 70 b:=fun b hb=>by
  rw[Xm fun q hq e=>by have:=kj q hq;omega]
  exact (Qj hT).lo hb k
 refine To.mV (nr σ r) H' (fun b hb=>?_) (fun b b' hb bJ e=>?_) (fun b hb=>?_) ht
 ·rcases hp b hb with rfl|rfl<;>exact ⟨rfl,by omega⟩
 ·rcases (by omega:b < 67∨b=67∨b=68∨b=69∨70≤b) with h|rfl|rfl|rfl|h<;>rcases (by omega:b' < 67∨b'=67∨b'=68∨b'=69∨70≤b') with h'|rfl|rfl|rfl|h'
  ·rw[Kw h,Kw h']at e;exact bT _ _ h h' e
  ·rw[Kw h]at e;exact absurd e (aI _ h).1
  ·rw[Kw h]at e;exact absurd e (aI _ h).2.1
  ·rw[Kw h]at e;exact absurd e (aI _ h).2.2.1
  ·rw[Kw h,rN _ h']at e;have:=(aI _ h).2.2.2;omega
  ·rw[Kw h']at e;exact absurd e.symm (aI _ h').1
  ·rfl
  ·cases e
  ·rw[yO,rH]at e;omega
  ·rw[yO,rN _ h']at e;omega
  ·rw[Kw h']at e;exact absurd e.symm (aI _ h').2.1
  ·cases e
  ·rfl
  ·rw[uJ,rH]at e;omega
  ·rw[uJ,rN _ h']at e;omega
  ·rw[Kw h']at e;exact absurd e.symm (aI _ h').2.2.1
  ·rw[yO,rH]at e;omega
  ·rw[uJ,rH]at e;omega
  ·rfl
  ·rw[rH,rN _ h']at e;omega
  ·rw[Kw h',rN _ h]at e;have:=(aI _ h').2.2.2;omega
  ·rw[yO,rN _ h]at e;omega
  ·rw[uJ,rN _ h]at e;omega
  ·rw[rH,rN _ h]at e;omega
  ·rw[rN _ h,rN _ h']at e;exact e
 ·rcases (by omega:b < 67∨b=67∨b=68∨b=69∨70≤b) with h|rfl|rfl|rfl|h
  ·rw[Kw h,UU hT bT hex h,km b af]
   have e:Qc (Qm S T) 70 b=Qc T.hb 67 b:=by
    unfold Qm
    rw[Qd,if_neg af,Qd,if_neg af,Qd,if_neg af]
    exact ((WT.gM hT).live h 70).1
   rw[e]
   exact Wv (n:=67) (fun b hb=>(Kw hb).symm) (Ny hT h).2
  ·rw[yO,nS,km 67 af,Kx]
   show _=Bk.cells (ay (nr σ r) S.cells)
   rw[NS.jZ,uJ,rH,Kw (by decide:0 < 67)]
   rfl
  ·rw[uJ,qa,km 68 af,v8,Vi]
  ·rw[rH,yN,km 69 af,wa,Vj]
  ·rw[rN b h];exact hl b h hb
theorem Xoe {D D':List Tm} (h:D.Perm D') (n:Nat):bf D n=bf D' n:=by
 unfold bf
 rw[Xad (h.filter _)]
theorem Xy1 {S:NS} (h:S.fl.Pairwise fun p q=>p.1≠q.1):S.a6.Pairwise fun a b=>a.id≠b.id:=by
 unfold NS.a6
 exact List.pairwise_map.2 h
theorem Xi1 {D:List Tm} (h:D.Pairwise fun a b=>a.id≠b.id) (n:Nat):(bf D n).Pairwise (·≠·):=by
 unfold bf
 refine List.pairwise_map.2 ?_
 have h1:=h.filter fun t=>decide (t.due < n)
 exact (List.Perm.pairwise_iff (fun {a b} (e:a.id≠b.id)=>e.symm) (Wq _)).2 h1
def NS.cut (S:NS) (k:Int):NS:={ S with fl:=S.fl.filter fun r=>!(r.1 == k) }
noncomputable def Oc (S:NS) (es:List Ev) (q:Int × Fl):NS × List Ev :=
 if ((S.cut q.1).fl.any fun r=>decide (r.2.map=q.2.map)) then (S.cut q.1,es) else
 ({ S.cut q.1 with tb:=(S.tb.cls q.2.map).1 },if (S.tb.cls q.2.map).2.1 then es++[(S.cut q.1).ev q.2.map true] else es)
theorem Xpp {S:NS} (hd:S.fl.Pairwise fun p q=>p.1≠q.1) {q:Int × Fl} (hq:q ∈ S.fl) (es:List Ev):cr (S,es) q.1=Oc S es q:=by
 have hf:S.fl.find? (fun r=>r.1 == q.1)=some q:=by
  cases hx:S.fl.find? (fun r=>r.1 == q.1) with
  | none=>have:=List.find?_eq_none.1 hx q hq;simp at this
  | some r =>
   have h1:=List.find?_some hx
   rw[Et hd (List.mem_of_find?_eq_some hx) hq (by simpa using h1)]
 unfold cr Oc NS.cut
 dsimp only
 rw[hf]
theorem Yeg {S:NS} (h:NJ S) (k:Int):NB (S.cut k) :=
 ⟨h.wf,fun q hq=>h.ids q (List.mem_filter.1 hq).1,h.dM.sublist List.filter_sublist,h.now,h.lT⟩
theorem Xuz (S:NS) (k:Int):(S.cut k).keys=dS k S.keys:=by
 unfold NS.keys NS.cut dS
 dsimp only
 rw[List.filter_map]
 rfl
noncomputable def NS.lW (S:NS) (d:Int) (i:Nat):NS × List Ev:=((S.ended d).take i).foldl cr (S.later d,[])
theorem VM (S:NS) (d:Int) (i:Nat) (h:i < (S.ended d).length):S.lW d (i + 1)=cr (S.lW d i) (S.ended d)[i]:=by
 unfold NS.lW
 rw[List.take_succ,List.getElem?_eq_getElem h,List.foldl_append]
 rfl
theorem Od {S:NS} (h:NI S) {d:Int} (hd:¬ (d < 1∨549755813888 - S.now < d)) (i:Nat):lV (S.later d) (S.lW d i).1 ((S.ended d).take i) (S.lW d i).2:=by
 obtain ⟨es,e,hE⟩:=Vt (h.later hd) ((S.ended d).take i)
 unfold NS.lW
 rw[e];exact hE
theorem Yao {S:NS} (h:NI S) {d:Int} (hd:¬ (d < 1∨549755813888 - S.now < d)) {i:Nat} (hi:i < (S.ended d).length):∃ q ∈ (S.lW d i).1.fl,q.1=(S.ended d)[i]:=by
 have hE:=Od h hd i
 obtain ⟨t,ht,_,e⟩:=HT.1 (List.getElem_mem hi:(S.ended d)[i] ∈ bf S.a6 (S.now + d.toNat + 1))
 obtain ⟨q,hq,rfl⟩:=List.mem_map.1 ht
 refine ⟨q,?_,e⟩
 rw[hE.fl]
 refine List.mem_filter.2 ⟨hq,?_⟩
 have qB:(S.ended d).Pairwise (·≠·):=Xi1 (Xy1 h.dM) _
 have:q.1 ∉ (S.ended d).take i:=fun hm=>by
  obtain ⟨j,hj,ej⟩:=List.getElem_of_mem hm
  rw[List.length_take]at hj
  rw[List.getElem_take]at ej
  have:=(List.pairwise_iff_getElem.1 qB) j i af hi af
  exact this (ej.trans e)
 rw[List.contains_eq_mem]
 simpa using this
theorem Xxa {l:List (Int × Fl)} (hd:l.Pairwise fun p q=>p.1≠q.1) {q:Int × Fl} (hq:q ∈ l):xE (fR l) (.int .i64 q.1)=fR (l.filter fun r=>!(r.1 == q.1)):=by
 obtain ⟨i,hi,rfl⟩:=List.getElem_of_mem hq
 unfold xE
 rw[HO,NL hd hi]
 dsimp only
 have hs:l=l.take i++l[i]::l.drop (i + 1):=by rw[← List.drop_eq_getElem_cons hi,List.take_append_drop]
 have iV:=List.pairwise_iff_getElem.1 hd
 have hA:(l.take i).filter (fun r=>!(r.1 == l[i].1))=l.take i:=List.filter_eq_self.2 fun r hr=>by
  obtain ⟨j,hj,rfl⟩:=List.getElem_of_mem hr
  rw[List.length_take]at hj
  rw[List.getElem_take]
  simpa using iV j i af hi af
 have hB:(l.drop (i + 1)).filter (fun r=>!(r.1 == l[i].1))=l.drop (i + 1):=List.filter_eq_self.2 fun r hr=>by
  obtain ⟨j,hj,rfl⟩:=List.getElem_of_mem hr
  rw[List.length_drop]at hj
  rw[List.getElem_drop]
  simpa using (iV i (i + 1 + j) hi af af).symm
 have hf:(l.filter fun r=>!(r.1 == l[i].1))=l.take i++l.drop (i + 1):=by
  generalize hx:l[i]=x at *
  conv=>lhs;rw[hs]
  rw[List.filter_append,List.filter_cons,if_neg au,hA,hB]
 rw[hf,List.eraseIdx_eq_take_drop_succ]
 unfold fR
 rw[List.map_append,List.map_take,List.map_drop]
theorem To.jJ {p:List Nat} {t t':List (Nat × AV)} {ex ex':List (Nat × Bk)} {S S':NS} {T:WT} {n k:Nat} (ρ:Nat→Nat) (hT:T.wf) (H':HL (ex'++Qm S' T) k) (hk:70≤k) (kj:∀ q ∈ ex',70≤q.1) (hex:∀ q ∈ ex,67≤q.1) (hp:∀ b ∈ p,b < 70) (hρ:∀ b,b < 70→ρ b=b) (hρ2:∀ b,70≤b→b < k→70≤ρ b) (bT:∀ b b',70≤b→b < k→70≤b'→b' < k→ρ b=ρ b'→b=b')
  (nS:Qc (ex++Qm S T) n 67=.cells S'.cells) (qa:Qc (ex++Qm S T) n 68=.aE (fR S'.fl) false) (yN:Qc (ex++Qm S T) n 69=.cells (Qp S'.keys)) (hl:∀ b,70≤b→b < k→Qc (ex++Qm S T) n (ρ b)=Xg ρ (Qc (ex'++Qm S' T) k b)) (ht:Qu ρ k t t'):To p ⟨t,ex++Qm S T,n⟩ ⟨t',ex'++Qm S' T,k⟩:=by
 have km:∀ b,b < 70→Qc (ex'++Qm S' T) k b=Qc (Qm S' T) 70 b:=fun b hb=>by
  rw[Xm fun q hq e=>by have:=kj q hq;omega]
  exact (Qj hT).lo hb k
 refine To.mV ρ H' (fun b hb=>⟨hρ b (hp b hb),by have:=hp b hb;omega⟩) (fun b b' hb bJ e=>?_) (fun b hb=>?_) ht
 ·by_cases h1:b < 70<;>by_cases h2:b' < 70
  ·rw[hρ b h1,hρ b' h2]at e;exact e
  ·rw[hρ b h1]at e;have:=hρ2 b' af bJ;omega
  ·rw[hρ b' h2]at e;have:=hρ2 b af hb;omega
  ·exact bT b b' af hb af bJ e
 ·by_cases h1:b < 70
  ·rw[hρ b h1,km b h1]
   have Oe:Xg ρ (Qc (Qm S' T) 70 b)=Qc (Qm S' T) 70 b:=by
    rw[Wv (g:=id) (fun b hb=>hρ b hb) ((Qj hT).nm h1),Ws]
   rw[Oe]
   rcases (by omega:b < 67∨b=67∨b=68∨b=69) with h|rfl|rfl|rfl
   ·rw[Xm fun q hq e=>by have:=hex q hq;omega]
    have e:∀ (X:NS) (m:Nat),Qc (Qm X T) m b=Qc T.hb 67 b:=fun X m=>by
     unfold Qm
     rw[Qd,if_neg af,Qd,if_neg af,Qd,if_neg af]
     exact ((WT.gM hT).live h m).1
    rw[e,e]
   ·exact nS
   ·exact qa
   ·exact yN
  ·exact hl b af hb
theorem Xrp {S:NS} (h:S.tb.wf) (k:Int):(S.cut k).cells=S.cells.set 31 (.sl 1 69 0 (S.cut k).fl.length (S.cut k).fl.length):=by
 rw[NS.dm h 1];rfl
theorem Xwy (a b:List Ev):Zn a++Zn b=Zn (a++b):=by simp[Zn]
def bM (S:NS) (m:Mp) (x:Int):Bool:=S.fl.any fun q=>q.1 == x && decide (q.2.map=m)
theorem Og {S:NS} (hd:S.fl.Pairwise fun p q=>p.1≠q.1) {q:Int × Fl} (hq:q ∈ S.fl) (m:Mp):bM S m q.1=decide (q.2.map=m):=by
 unfold bM
 rw[Bool.eq_iff_iff,List.any_eq_true]
 constructor
 ·rintro ⟨x,hx,h⟩
  rw[Bool.and_eq_true,beq_iff_eq]at h
  rw[← Et hd hx hq h.1];exact h.2
 ·intro h
  exact ⟨q,hq,by rw[h];simp⟩
theorem Yd5 {S:NS} (hd:S.fl.Pairwise fun p q=>p.1≠q.1) (m:Mp):S.keys.any (bM S m)=S.fl.any fun q=>decide (q.2.map=m):=by
 unfold NS.keys
 rw[List.any_map,Bool.eq_iff_iff,List.any_eq_true,List.any_eq_true]
 constructor<;>rintro ⟨q,hq,h⟩
 ·exact ⟨q,hq,by rw[← Og hd hq];exact h⟩
 ·exact ⟨q,hq,by show bM S m q.1=true;rw[Og hd hq];exact h⟩
theorem Xmf (gl:Nat→AV) (S:NS) (T:WT) (D:List Tm) (hS:NI S) (hW:WI T S.now D) (d:Int) (hd:d < 1∨549755813888 - S.now < d):GD Tryz.prog gl 60 [.ptr 67 0,.int .i64 d] (Qm S T) 70 [67] (.agg (bR 2).enc) (Qm S T):=by
 have hT:=hW.wf
 refine NH.gq (of_decide_eq_true rfl) (Zs hT) au fun c aY hg=>?_
 subst hg
 conv in aO _ _=>cbv
 obtain ⟨Z1,qc,so⟩:∃ Z:Int,(549755813888:Int)=Z∧0≤Z∧Z≤549755813888:=⟨_,rfl,by decide,by decide⟩
 rw[qc]
 have aH:=fun n b hb=>Ya (S:=S) hT n b hb
 have bI:=Kx S T
 have aV:=NS.aS hS.wf
 have ja:=NS.ja hS.wf
 have im:=hW.gO c.gl
 have VN:=hS.now
 refine Qh (An @aH (An @bI (An @aV @ja))) ?_
 refine Vg (ex:=[(71,_),(70,_),(67,_),(68,_),(69,_)]) im hT aR au (by exact Qr (An @aV @ja)) (by simp[Qe]) ?_
 refine Qf ?_
 (refine Qa (fun h1=>?_) (fun h1=>?_)<;>try exact h1.elim)
 rotate_left
 ·omega
 unfold bR Rp.enc
 refine Qh @aH ?_
 exact ⟨(),To.drop (ex:=[(71,_),(71,_),(70,_)]) (Qj hT) au au (by simp[Qu,Qe,ai,look,aD,ay])⟩
theorem Xxk (gl:Nat→AV) (h0:gl 0=.xp (Qp Xi) 0) (S:NS) (T:WT) (D:List Tm) (hS:NI S) (we:S.told≤90000) (hW:WI T S.now D) (hD:D.Perm S.a6) (d:Int) (hd:¬ (d < 1∨549755813888 - S.now < d)):∃ T' D',WI T' (S.tick d).2.now D'∧D'.Perm (S.tick d).2.a6∧GD Tryz.prog gl 60 [.ptr 67 0,.int .i64 d] (Qm S T) 70 [67] (.agg (S.tick d).1.enc) (Qm (S.tick d).2 T'):=by
 have hT:=hW.wf
 have VN:=hS.now
 obtain ⟨dn,rfl⟩:∃ k:Nat,d=k:=⟨d.toNat,by omega⟩
 obtain ⟨T',lC,yV⟩:=hW.yH gl (S.now + dn)
 have hR:vW S.now D (S.now + dn)=(0,S.ended dn,S.now + dn,D.filter fun t=>decide (S.now + dn < t.due)):=by
  unfold vW NS.ended
  rw[if_neg af,Xoe hD]
  have:((S.now:Int) + dn).toNat=S.now + dn:=by omega
  rw[this,Int.toNat_natCast]
 rw[hR]at lC yV
 dsimp only at lC yV
 have eU:=lC.wf
 rw[Bs,if_neg hd]
 have EF:=(hS.rJ hd).choose_spec.2.1
 refine ⟨T',D.filter fun t=>decide (S.now + dn < t.due),?_,?_,?_⟩
 ·show WI T' (List.foldl cr (S.later dn,[]) (S.ended dn)).1.now _
  rw[EF.now];exact lC
 ·refine (hD.filter _).trans (List.Perm.of_eq ?_)
  show _=NS.a6 (List.foldl cr (S.later dn,[]) (S.ended dn)).1
  unfold NS.a6
  rw[EF.fl,List.filter_map]
  show List.map _ (S.fl.filter _)=List.map _ (S.fl.filter _)
  congr 1
  refine List.filter_congr fun q hq=>?_
  show decide (S.now + dn < q.2.due.toNat)=!((S.ended dn).contains q.1)
  rw[List.contains_eq_mem,← decide_not,decide_eq_decide]
  constructor
  ·intro hlt hm
   obtain ⟨t,ht,h1,h2⟩:=HT.1 hm
   obtain ⟨r,hr,rfl⟩:=List.mem_map.1 ht
   rw[Et hS.dM hr hq h2]at h1
   simp only[Int.toNat_natCast]at h1
   omega
  ·intro hm
   refine Nat.lt_of_not_le fun hle=>hm (HT.2 ⟨⟨q.1,q.2.due.toNat⟩,List.mem_map.2 ⟨q,hq,rfl⟩,?_,rfl⟩)
   show q.2.due.toNat < S.now + (dn:Int).toNat + 1
   rw[Int.toNat_natCast];omega
 refine NH.gq (of_decide_eq_true rfl) (Zs hT) au fun c aY hg=>?_
 subst hg
 conv in aO _ _=>cbv
 obtain ⟨Z1,qc,so⟩:∃ Z:Int,(549755813888:Int)=Z∧0≤Z∧Z≤549755813888:=⟨_,rfl,by decide,by decide⟩
 rw[qc]
 have aH:=fun n b hb=>Ya (S:=S) hT n b hb
 have bI:=Kx S T
 have aV:=NS.aS hS.wf
 have ja:=NS.ja hS.wf
 have uG:=NS.uG hS.wf
 have im:=hW.gO c.gl
 have NO:=hS.ref
 obtain ⟨v,hv⟩:∃ v:Nat,v=min 4 (S.ref + min dn 4):=⟨_,rfl⟩
 obtain ⟨m1,nD⟩:∃ m1:Nat,m1=min dn 4:=⟨_,rfl⟩
 have EG:∀ d1:Decidable ((4:Int) < (dn:Int)),@ite Int ((4:Int) < (dn:Int)) d1 4 dn=m1:=fun d1=>by split<;>omega
 have EH:∀ d1:Decidable ((S.ref:Int) + m1 < 4),@ite Int ((S.ref:Int) + m1 < 4) d1 (S.ref + m1) 4=v:=fun d1=>by split<;>omega
 have Oh:S.later dn={ S with now:=S.now + dn,ref:=v }:=by unfold NS.later;rw[hv,Int.toNat_natCast]
 have Es:S.cells.set 35 (.int .i64 v)=(S.later dn).cells:=by rw[Oh,NS.Es hS.wf];rfl
 have Oi:(S.later dn).cells.length=38:=NS.aS (S:=S.later dn) hS.wf
 have VO:(S.later dn).cells.getD 33 .any=.ptr 0 0:=NS.ja (S:=S.later dn) hS.wf
 refine Qh (An @aH (An @bI (An @aV @ja))) ?_
 refine Vg (ex:=[(71,_),(70,_),(67,_),(68,_),(69,_)]) im hT aR au (by exact Qr (An @aV @ja)) (by simp[Qe]) ?_
 refine Qf ?_
 (refine Qa (fun h1=>?_) (fun h1=>?_)<;>try exact h1.elim)
 ·omega
 refine Qh (An @aV @uG) ?_
 erw [EG,EH,Es]
 refine Qh (An @Oi @VO) ?_
 have H2:HL ([(71,.cells [.int .i64 0,.str [],.bool false,.str []]),(70,.cells [.ptr 67 0])]++Qm (S.later dn) T') 72:=((Qj eU).more (by simp[bG,ai,Qe])).more (by simp[bG,ai,Qe])
 refine Uu (v:=false) (pp:=[67]) (ex:=[(67,_),(71,_),(70,_),(67,_),(68,_),(69,_)]) (s3:=⟨[(2,.ptr 70 0),(4,.ptr 71 0),(48,.aX [.isl (S.ended dn).length (Qp (S.ended dn)),.int .i64 0])],[(71,.cells [.int .i64 0,.str [],.bool false,.str []]),(70,.cells [.ptr 67 0])]++Qm (S.later dn) T',72⟩) aY yV (WT.gM hT) (WT.gM eU) (by simp[Qe,ai,pW]) aR aR au rfl ?_ ?_ ?_
 ·exact Qr @Xw
 ·rw[NA (by simp[Qe,ai,pW])]
  refine To.EE (k:=72) (r:=69) eU H2 aR au au (fun b b' h h' e=>Nz aR h h' e) ?_ aR ?_ ?_ rfl rfl (fun b h1 h2=>?_) ?_
  ·intro q hq b hb e
   have h1:gH 139 b < 2∨141≤gH 139 b:=by unfold gH;split<;>omega
   simp at hq
   rcases hq with rfl|rfl|rfl|rfl|rfl|rfl<;>dsimp only at e<;>omega
  ·intro b hb
   have h1:gH 139 b < 2∨141≤gH 139 b:=by unfold gH;split<;>omega
   omega
  ·rfl
  ·rcases (by omega:b=70∨b=71) with rfl|rfl<;>rfl
  ·have uR:ay (nr (gH 139) 69) (Qp (S.ended dn))=Qp (S.ended dn):=zV _ _
   simp[Qu,Qe,ai,look,aD,ay,pW,nr,uR]
 clear Es EG EH VO
 have hEl:=Ye (S.ended dn)
 have qJa:(S.ended dn).length≤48:=Nat.le_trans (Vv _ _) (by unfold NS.a6;rw[List.length_map];exact hS.len)
 refine Qf ?_
 have uo:=fun n b hb=>Ya (S:=S.later dn) eU n b hb
 refine xA 8 5 rfl (by exact Qr @uo) ?_
 unfold St.named
 refine Yi (fun i:Nat=>i≤(S.ended dn).length) (fun i=>⟨[(2,.ptr 70 0),(4,.ptr 71 0),(8,.sl 5 72 0 (S.lW dn i).2.length (S.lW dn i).2.length),(51,.isl (S.ended dn).length (Qp (S.ended dn))),(52,.int .i64 (S.ended dn).length),(53,.int .i64 i)],[(72,.cells (Zn (S.lW dn i).2)),(71,.cells [.int .i64 0,.str [],.bool false,.str []]),(70,.cells [.ptr 67 0])]++Qm (S.lW dn i).1 T',73⟩) (fun i=>(S.ended dn).length - i) NH.mixed [67] aY
  ⟨0,Nat.zero_le _,To.c6 (by (refine XG ?_;((try (repeat' with_reducible refine And.intro ?_ ?_));(try any_goals (first|refine zm ?_|exact CL|fail))));all_goals rfl) fun b=>rfl⟩ fun i hi=>?_
 have hE:=Od hS hd i
 have dB:=VM S dn i
 have bH:=Yao hS hd (i:=i)
 have hlen:(S.lW dn i).2.length≤48:=Nat.le_trans hE.len (by rw[List.length_take];omega)
 have EI:i=(S.ended dn).length→(S.lW dn i)=(S.ended dn).foldl cr (S.later dn,[]):=fun e=>by unfold NS.lW;rw[e,List.take_length]
 generalize hx:S.lW dn i=x at *
 obtain ⟨Si,es⟩:=x
 dsimp only at hE bH hlen dB ⊢
 have aH:=fun n b hb=>Ya (S:=Si) eU n b hb
 have bI:=Kx Si T'
 have rF:=v8 Si T'
 have wc:=wa Si T'
 have aV:=NS.aS hE.nj.wf
 have eZ:=NS.eZ hE.nj.wf
 have jI:=NS.jI hE.nj.wf
 have dZ:=yL Si.fl
 have iO:=Er Si
 refine Qf ?_
 (refine Qa (fun h2=>?_) (fun h2=>?_)<;>try exact h2.elim)
 ·have aI:i < (S.ended dn).length:=by omega
  have kn:=Bh (S.ended dn) i aI
  have dB:=dB aI
  obtain ⟨q,hq,MJ⟩:=bH aI
  rw[← MJ]at kn dB
  rw[Xpp hE.nj.dM hq]at dB
  have dW:=pU q.1
  have eK:=HQ hE.nj.dM hq (.agg Fl.zero)
  have hqm:=hE.nj.gt.maps _ (hE.nj.lS q hq)
  have VP:=hE.nj.ok.bd _ (hE.nj.lS q hq)
  obtain ⟨k,⟨mp,ms,mi,ma,mt⟩,g0,g1,g2,g3,g4⟩:=q
  unfold Fl.enc Up at eK
  dsimp only at eK kn dW hqm VP dB
  refine Qh (An @kn (An @aH (An @bI (An @aV @eZ)))) ?_
  ((first|refine oz Wh ?_|refine Ut Wh ?_);(have aB:=@rF;have aQ:=@dZ;have a8:=@dW;have bU:=@eK;have cI:=@aH;have dC:=@bI;have fc:=@aV;have jk:=@eZ;refine XG ?_;clear aB aQ a8 bU cI dC fc jk;((try (repeat' with_reducible refine And.intro ?_ ?_));(try any_goals (first|refine zm ?_|exact CL|fail)))))
  refine Qh (An @bI (An @aV @eZ)) ?_
  have yt:=Xxa hE.nj.dM hq
  dsimp only at yt
  have EJ:Si.keys.length=Si.fl.length:=by simp[NS.keys]
  have Nd:=hE.nj.len
  have uj:=Yaj c.gl Si.keys af k
  rw[EJ]at uj
  have f31:(Si.cells.set 31 (.sl 1 69 0 (dS k Si.keys).length Si.fl.length)).getD 31 .any=.sl 1 69 0 (dS k Si.keys).length Si.fl.length:=by rw[xf (by rw[aV];decide),if_pos rfl]
  ((first|refine Lj Wh ?_|refine Lk Wh ?_);(have aB:=@rF;have aQ:=@dZ;have a8:=@dW;have bU:=@yt;have cI:=@bI;have dC:=@aV;have fc:=@jI;refine XG ?_;clear aB aQ a8 bU cI dC fc;((try (repeat' with_reducible refine And.intro ?_ ?_));(try any_goals (first|refine zm ?_|exact CL|fail)))))
  ((first|refine Xa (ins:=[69,73]) uj ?_ ?_|refine Qw (ins:=[69,73]) uj ?_ ?_|refine Qx (ins:=[69,73]) uj ?_ ?_|refine Qt (ins:=[69,73]) uj ?_ ?_)<;>(have aB:=@wc;have aQ:=@aH;have a8:=@bI;have bU:=@aV;have cI:=@jI;have dC:=@f31;refine XG ?_;clear aB aQ a8 bU cI dC;(try first|exact rfl|exact True.intro);((try (repeat' with_reducible refine And.intro ?_ ?_));(try any_goals (first|refine zm ?_|exact CL|fail)))))
  ·decide
  have cX:=Xuz Si k
  have oQ:(dS k Si.keys).length=(Si.cut k).fl.length:=by rw[← cX];simp[NS.keys]
  have qg:=Xrp hE.nj.wf k
  rw[oQ]
  rw[← cX]
  have jR:(Si.cut k).fl.length≤Si.fl.length:=List.length_filter_le _ _
  have oW:∀ n,ai n (Zn es):=fun n=>uF n es
  have Bv:∀ ρ,ay ρ (Zn es)=Zn es:=fun ρ=>by
   rw[Yf]
   exact (List.map_congr_left fun v hv=>Ks (Xj.1 (oW 0) v hv)).trans (List.map_id _)
  have H5:HL ([(74,.cells [.int .i64 mp,.int .i64 ms,.int .i64 mi,.int .i64 ma,.int .i64 mt]),(73,.cells [.int .i64 k]),(72,.cells (Zn es)),(71,.cells [.int .i64 0,.str [],.bool false,.str []]),(70,.cells [.ptr 67 0])]++Qm (Si.cut k) T') 75:=((((Eu eU).more (by simp[bG,ai,Qe])).more (by exact oW _)).more (by simp[bG,ai,Qe])).more (by simp[bG,ai,Qe])
  refine nn (p:=[67]) aY (To.R6 81 (y:=.sl 1 69 0 (Si.cut k).fl.length (Si.cut k).fl.length) (Wk.cap 1 69 0 _ _)) ?_
  refine nn (p:=[67]) aY (To.R7 (b:=67) (cs:=Si.cells.set 31 (.sl 1 69 0 (Si.cut k).fl.length Si.fl.length)) (cs':=(Si.cut k).cells) rfl (by rw[qg];simp) fun j hj=>?_) ?_
  ·rw[qg]
   rw[List.length_set]at hj
   by_cases e:31=j
   ·subst e
    rw[xf (by rw[aV];decide),xf (by rw[aV];decide),if_pos rfl,if_pos rfl]
    exact Wk.cap 1 69 0 _ _
   ·rw[xf (by rw[aV];decide),xf (by rw[aV];decide),if_neg e,if_neg e]
    exact Wk.refl _
  refine nn (p:=[67]) (s':=⟨[(2,.ptr 70 0),(4,.ptr 71 0),(8,.sl 5 72 0 es.length es.length),(11,.ptr 74 0),(51,.isl (S.ended dn).length (Qp (S.ended dn))),(52,.int .i64 (S.ended dn).length),(53,.int .i64 i),(81,.sl 1 69 0 (Si.cut k).fl.length (Si.cut k).fl.length),(82,.cl 101 [.ptr 70 0,.ptr 74 0])],[(74,.cells [.int .i64 mp,.int .i64 ms,.int .i64 mi,.int .i64 ma,.int .i64 mt]),(73,.cells [.int .i64 k]),(72,.cells (Zn es)),(71,.cells [.int .i64 0,.str [],.bool false,.str []]),(70,.cells [.ptr 67 0])]++Qm (Si.cut k) T',75⟩) aY ?_ ?_
  ·refine To.jJ (ex:=[(67,_),(67,_),(73,_),(69,_),(68,_),(74,_),(74,_),(73,_),(73,_),(72,_),(71,_),(70,_)]) id eU H5 aR au au au (fun _ _=>rfl) (fun b h _=>h) (fun b b' _ _ _ _ e=>e) rfl rfl rfl (fun b h1 h2=>?_) ?_
   ·rw[Ws]
    rcases (by omega:b=70∨b=71∨b=72∨b=73∨b=74) with rfl|rfl|rfl|rfl|rfl<;>rfl
   ·have uR:=Jp (Qp (S.ended dn))
    simp[Qu,Qe,ai,look,aD,ay,pW,uR]
  have pn:=Yeg hE.nj k
  have rK:=Vr c.gl (l:=(Si.cut k).keys) (kb:=69) (f:=101) (caps:=[.ptr 70 0,.ptr 74 0]) (b:=bM (Si.cut k) ⟨mp,ms,mi,ma,mt⟩) H5 (by rw[cX,oQ];omega) aR (fun n=>rfl) (by simp[ai,Qe]) (fun x hx=>by
   obtain ⟨q,hq,rfl⟩:=List.mem_map.1 hx
   rw[Og pn.dM hq]
   exact Xj7 c.gl pn H5 (fun n=>rfl) (fun n=>rfl) (fun n=>rfl) (fun n=>rfl) hq)
  rw[Yd5 pn.dM,cX,oQ]at rK
  refine oT (v:=false) (ex:=[]) rK H5 H5 (by simp[Qe]) aR au rfl ?_ ?_
  ·exact Qr @Xw
  unfold Oc at dB
  dsimp only at dB
  cases oU:(Si.cut k).fl.any (fun q=>decide (q.2.map=⟨mp,ms,mi,ma,mt⟩)) with
  | true =>
   rw[oU,if_pos rfl]at dB
   refine Qf ?_
   (refine Qa (fun h3=>?_) (fun h3=>?_)<;>try exact h3.elim)
   refine Qf ?_
   refine ⟨i + 1,by omega,?_,by omega⟩
   rw[dB]
   have H3:HL ([(72,.cells (Zn es)),(71,.cells [.int .i64 0,.str [],.bool false,.str []]),(70,.cells [.ptr 67 0])]++Qm (Si.cut k) T') 73:=((Eu eU).more (by simp[bG,ai,Qe])).more (by exact oW _)
   refine To.drop (ex:=[(74,_),(73,_)]) H3 au au ?_
   have uR:=Jp (Qp (S.ended dn))
   simp[Qu,Qe,ai,look,aD,ay,pW,uR]
  | false =>
   rw[oU,if_neg au]at dB
   have hC:=Xqc c.gl Si.tb hE.nj.ok ⟨mp,ms,mi,ma,mt⟩
   obtain ⟨_,_,_,vj,fG,_,_⟩:=hE.nj.gt.cls hE.nj.wf (hE.nj.lS _ hq)
   dsimp only at vj fG
   unfold mf Mp.enc at hC
   dsimp only at hC
   have bI:=Kx (Si.cut k) T'
   have aH:=fun n b hb=>Ya (S:=Si.cut k) eU n b hb
   have yW:=NS.aS (S:=Si.cut k) hE.nj.wf
   have Oj:List.take 30 (Si.cut k).cells=Si.tb.enc:=NS.eY (S:=Si.cut k) hE.nj.wf
   have qLa:∀ tb,GT tb→True:=fun _ _=>trivial
   generalize Si.tb.cls ⟨mp,ms,mi,ma,mt⟩=cl at *
   obtain ⟨uS,gv,ce⟩:=cl
   dsimp only at hC fG vj dB
   have aJ:=Tb.aC fG
   have KO:=Tb.bw uS
   have wU:uS.enc.take 30=uS.enc:=List.take_of_length_le (by rw[aJ];decide)
   have dN:=NS.EB (S:=Si.cut k) hE.nj.wf fG
   refine Qf ?_
   (refine Qa (fun h3=>?_) (fun h3=>?_)<;>try exact h3.elim)
   refine Qh (An @bI (An @yW @Oj)) ?_
   refine Qy hC (An @aH (An @aJ (An @bI (An @yW (An @wU @dN))))) ?_
   refine Qh (An @bI (An @yW (An @aJ (An @wU @dN)))) ?_
   cases gv with
   | false =>
    (refine Qa (fun h4=>?_) (fun h4=>?_)<;>try exact h4.elim)
    refine Qf ?_
    refine ⟨i + 1,by omega,?_,by omega⟩
    rw[dB,if_neg au]
    have H3:HL ([(72,.cells (Zn es)),(71,.cells [.int .i64 0,.str [],.bool false,.str []]),(70,.cells [.ptr 67 0])]++Qm { Si.cut k with tb:=uS } T') 73:=((Eu eU).more (by simp[bG,ai,Qe])).more (by exact oW _)
    refine To.jJ (ex:=[(67,_),(150,_),(150,_),(74,_),(73,_),(72,_),(71,_),(70,_)]) id eU H3 aR au au au (fun _ _=>rfl) (fun b h _=>h) (fun b b' _ _ _ _ e=>e) rfl rfl rfl (fun b h1 h2=>?_) ?_
    ·rw[Ws]
     rcases (by omega:b=70∨b=71∨b=72) with rfl|rfl|rfl<;>rfl
    ·have uR:=Jp (Qp (S.ended dn))
     simp[Qu,Qe,ai,look,aD,ay,pW,uR]
   | true =>
    (refine Qa (fun h4=>?_) (fun h4=>?_)<;>try exact h4.elim)
    rw[if_pos rfl]at dB
    have EK:(Si.cut k).now=S.now + dn:=hE.now
    have jv:=Vh c.gl { Si.cut k with tb:=uS } T' _ (pn.rB fG) (by show WI T' (Si.cut k).now _;rw[EK];exact lC) ⟨mp,ms,mi,ma,mt⟩ VP true
    unfold Mp.enc at jv
    dsimp only at jv
    rw[show ({ Si.cut k with tb:=uS }:NS).ev ⟨mp,ms,mi,ma,mt⟩ true=(Si.cut k).ev ⟨mp,ms,mi,ma,mt⟩ true from rfl]at jv
    have EL:=Xwy es [(Si.cut k).ev ⟨mp,ms,mi,ma,mt⟩ true]
    obtain ⟨E,Ol⟩:∃ E,Zn [(Si.cut k).ev ⟨mp,ms,mi,ma,mt⟩ true]=E:=⟨_,rfl⟩
    have hE1:∀ n,ai n E:=fun n=>by rw[← Ol];exact uF n _
    have hE5:E.length=1 * 5:=by rw[← Ol,Eo];rfl
    have VQ:(Zn es).length=es.length * 5:=Eo es
    rw[Ol]at jv EL
    refine Qf ?_
    refine EA (Bt (A:=[]) (B:=[(150,_),(150,_),(74,_),(73,_),(72,_),(71,_),(70,_)]) (S:=Si.cut k) (S':={ Si.cut k with tb:=uS }) (T:=T') rfl au au) ?_
    refine oT (v:=false) (ex:=[(150,_),(150,_),(74,_),(73,_),(72,_),(71,_),(70,_)]) jv (Qj eU) (Qj eU) (by simp[Qe,hE1]) aR au rfl ?_ ?_
    ·exact Qr @Xw
    have rq:=fun n b hb=>Ya (S:={ Si.cut k with tb:=uS }) eU n b hb
    refine Qf ?_
    refine Zm (An @rq (An @hE5 (An @VQ @EL))) ?_
    refine ⟨i + 1,by omega,?_,by omega⟩
    rw[dB]
    have EM:∀ n,ai n (Zn (es++[(Si.cut k).ev ⟨mp,ms,mi,ma,mt⟩ true])):=fun n=>uF n _
    have hl2:(es++[(Si.cut k).ev ⟨mp,ms,mi,ma,mt⟩ true]).length=es.length + 1:=by simp
    dsimp only
    rw[hl2]
    generalize Zn (es++[(Si.cut k).ev ⟨mp,ms,mi,ma,mt⟩ true])=E2 at *
    have Om:∀ ρ,ay ρ E2=E2:=fun ρ=>by
     rw[Yf]
     exact (List.map_congr_left fun v hv=>Ks (Xj.1 (EM 0) v hv)).trans (List.map_id _)
    have H3:HL ([(72,.cells E2),(71,.cells [.int .i64 0,.str [],.bool false,.str []]),(70,.cells [.ptr 67 0])]++Qm { Si.cut k with tb:=uS } T') 73:=((Eu eU).more (by simp[bG,ai,Qe])).more (by exact EM _)
    refine To.jJ (ex:=[(221,_),(72,.dead),(150,_),(150,_),(74,_),(73,_),(72,_),(71,_),(70,_)]) (fun b=>if b=72 then 221 else b) eU H3 aR au au au (fun b hb=>if_neg af) (fun b h h2=>?_) (fun b b' h1 h2 h3 h4 e=>?_) rfl rfl rfl (fun b h1 h2=>?_) ?_
    ·split<;>omega
    ·(repeat' split at e)<;>omega
    ·rcases (by omega:b=70∨b=71∨b=72) with rfl|rfl|rfl
     ·rfl
     ·rfl
     ·show Bk.cells E2=Bk.cells (ay _ E2)
      rw[Om]
    ·have uR:ay (fun b=>if b=72 then 221 else b) (Qp (S.ended dn))=Qp (S.ended dn):=zV _ _
     simp[Qu,Qe,ai,look,aD,ay,pW,uR]
 ·obtain rfl:i=(S.ended dn).length:=by omega
  rw[← EI rfl]
  have dD:Si.told=S.told:=hE.told
  have mW:=Vd c.gl h0 Si T' hE.nj eU af es af (fun e he=>by
   obtain ⟨g1,g2⟩:=hE.ca e he
   refine ⟨g2,?_⟩
   cases es with
   | nil=>cases he
   | cons e0 l=>exact g1.trans (hE.ca e0 List.mem_cons_self).1.symm)
  rw[dD]at mW
  have VQ:(Zn es).length=es.length * 5:=Eo es
  have EN:((Zn es).drop 0).take (es.length * 5)=Zn es:=by rw[List.drop_zero,List.take_of_length_le af]
  have oW:∀ n,ai n (Zn es):=fun n=>uF n es
  refine Qf ?_
  refine nn (p:=[67]) aY (To.fC (b:=72) (i:=106) rfl rfl) ?_
  rw[EN]
  refine oT (v:=false) (n:=73) (ex:=[(72,.dead),(72,_),(71,_),(70,_)]) mW (Qj eU) (Qj eU) (by simp[Qe]) aR au rfl ?_ ?_
  ·exact Qr (An @Xw @oW)
  refine Qf ?_
  unfold Rp.enc
  exact ⟨(),To.drop (ex:=[(71,_),(72,.dead),(72,_),(71,_),(70,_)]) (Qj eU) au au (by simp[Qu,Qe,ai,look,aD,ay])⟩
theorem NS.kO {S:NS} (h:S.tb.wf) (v:Nat):S.cells.set 36 (.int .i64 v)=({ S with aF:=v }:NS).cells:=NS.dm h 6 _
theorem NS.jc {S:NS} (h:S.tb.wf):S.cells.take 21=S.tb.aq.enc:=by
 rw[← Tb.dU h,← NS.eY h,List.take_take];rfl
theorem NS.rO {S:NS} (h:S.tb.wf) {p:aw} (hp:p.wf):Yu S.cells 0 p.enc=({ S with tb:={ S.tb with aq:=p } }:NS).cells:=by
 unfold Yu NS.cells Tb.enc Tb.hd
 rw[List.take_zero,List.nil_append,Nat.zero_add,aw.aC hp,← aw.aC h.aq,List.append_assoc,List.append_assoc,List.append_assoc,List.drop_left]
 simp[NS.tl]
theorem Xtg (gl:Nat→AV) (S:NS) (T:WT) (hw:S.tb.wf) (hT:T.wf) (ak an ad:Int) (f:List UInt8) (ha:300≤S.aF):GD Tryz.prog gl 20 [.ptr 67 0,.agg [.int .i64 ak,.int .i64 an,.int .i64 ad,.str f]] (Qm S T) 70 [67] (.agg (bR 6).enc) (Qm S T):=by
 refine yK.gq (of_decide_eq_true rfl) (Zs hT) au fun c aY hg=>?_
 subst hg
 conv in aO _ _=>cbv
 have aH:=fun n b hb=>Ya (S:=S) hT n b hb
 have bI:=Kx S T
 have aV:=NS.aS hw
 have fe:=NS.fe hw
 refine Qh (An @aH (An @bI (An @aV @fe))) ?_
 (refine Qa (fun h1=>?_) (fun h1=>?_)<;>try exact h1.elim)
 refine Qh (An @aH (An @bI (An @aV @fe))) ?_
 (refine Qa (fun h2=>?_) (fun h2=>?_)<;>try exact h2.elim)
 ·unfold bR Rp.enc
  refine Qh @aH ?_
  exact ⟨(),To.drop (ex:=[(71,_),(71,_),(70,_)]) (Qj hT) au au (by simp[Qu,Qe,ai,look,aD,ay])⟩
 ·omega
theorem Yf8 (gl:Nat→AV) (S:NS) (T:WT) (hw:S.tb.wf) (hT:T.wf) (an ad:Int) (f:List UInt8) (ha:S.aF < 300) (r:Rp) (S1:NS) (T1:WT) (bj:T1.wf) (ho:GD Tryz.prog gl 58 [.ptr 67 0,.agg [.int .i64 1,.int .i64 an,.int .i64 ad,.str f]] (Qm { S with aF:=S.aF + 1 } T) 70 [67] (.agg r.enc) (Qm S1 T1)):GD Tryz.prog gl 20 [.ptr 67 0,.agg [.int .i64 1,.int .i64 an,.int .i64 ad,.str f]] (Qm S T) 70 [67] (.agg r.enc) (Qm S1 T1):=by
 refine yK.gq (of_decide_eq_true rfl) (Zs hT) au fun c aY hg=>?_
 subst hg
 conv in aO _ _=>cbv
 have aH:=fun n b hb=>Ya (S:=S) hT n b hb
 have bI:=Kx S T
 have aV:=NS.aS hw
 have fe:=NS.fe hw
 have kO:=NS.kO hw (S.aF + 1)
 have dt:(S.aF:Int) + 1=((S.aF + 1:Nat):Int):=by omega
 obtain ⟨r1,r2,r3,r4⟩:=r
 unfold Rp.enc at ho ⊢
 dsimp only at ho ⊢
 refine Qh (An @aH (An @bI (An @aV @fe))) ?_
 (refine Qa (fun h1=>?_) (fun h1=>?_)<;>try exact h1.elim)
 refine Qh (An @aH (An @bI (An @aV @fe))) ?_
 (refine Qa (fun h2=>?_) (fun h2=>?_)<;>try exact h2.elim)
 ·omega
 refine Qh (An @aH (An @bI (An @aV (An @fe (An @dt @kO))))) ?_
 (refine Qa (fun h3=>?_) (fun h3=>?_)<;>try exact h3.elim)
 refine Qf ?_
 refine EA (Bt (A:=[]) (B:=[(71,_),(70,_)]) (S:=S) (S':={ S with aF:=S.aF + 1 }) (T:=T) rfl au au) ?_
 have H2:HL ([(71,.cells [.int .i64 0,.str [],.bool false,.str []]),(70,.cells [.int .i64 1,.int .i64 an,.int .i64 ad,.str f])]++Qm S1 T1) 72:=((Qj bj).more (by simp[bG,ai,Qe])).more (by simp[bG,ai,Qe])
 refine Uu (v:=false) (pp:=[67]) (ex:=[(71,_),(70,_)]) (s3:=⟨[(4,.ptr 71 0),(31,.agg [.int .i64 r1,.str r2,.bool r3,.str r4])],[(71,.cells [.int .i64 0,.str [],.bool false,.str []]),(70,.cells [.int .i64 1,.int .i64 an,.int .i64 ad,.str f])]++Qm S1 T1,72⟩) aY ho (Qj hT) (Qj bj) (by simp[Qe,ai]) aR au au rfl ?_ ?_ ?_
 ·exact Qr @Xw
 ·unfold Zq
  refine To.iq bj H2 aR aR au au au (fun b h1 h2=>?_) ?_
  ·rcases (by omega:b=70∨b=71) with rfl|rfl<;>rfl
  ·simp[Qu,Qe,ai,look,aD,ay,qb,lw,rL]
 have jb:=fun n b hb=>Ya (S:=S1) bj n b hb
 refine Qh @jb ?_
 exact ⟨(),To.drop (ex:=[(71,_),(71,_),(70,_)]) (Qj bj) au au (by simp[Qu,Qe,ai,look,aD,ay])⟩
theorem Yfl (gl:Nat→AV) (S:NS) (T:WT) (hw:S.tb.wf) (hT:T.wf) (an ad:Int) (f:List UInt8) (ha:S.aF < 300) (r:Rp) (S1:NS) (T1:WT) (bj:T1.wf) (ho:GD Tryz.prog gl 59 [.ptr 67 0,.str f] (Qm { S with aF:=S.aF + 1 } T) 70 [67] (.agg r.enc) (Qm S1 T1)):GD Tryz.prog gl 20 [.ptr 67 0,.agg [.int .i64 2,.int .i64 an,.int .i64 ad,.str f]] (Qm S T) 70 [67] (.agg r.enc) (Qm S1 T1):=by
 refine yK.gq (of_decide_eq_true rfl) (Zs hT) au fun c aY hg=>?_
 subst hg
 conv in aO _ _=>cbv
 have aH:=fun n b hb=>Ya (S:=S) hT n b hb
 have bI:=Kx S T
 have aV:=NS.aS hw
 have fe:=NS.fe hw
 have kO:=NS.kO hw (S.aF + 1)
 have dt:(S.aF:Int) + 1=((S.aF + 1:Nat):Int):=by omega
 obtain ⟨r1,r2,r3,r4⟩:=r
 unfold Rp.enc at ho ⊢
 dsimp only at ho ⊢
 refine Qh (An @aH (An @bI (An @aV @fe))) ?_
 (refine Qa (fun h1=>?_) (fun h1=>?_)<;>try exact h1.elim)
 refine Qh (An @aH (An @bI (An @aV @fe))) ?_
 (refine Qa (fun h2=>?_) (fun h2=>?_)<;>try exact h2.elim)
 ·omega
 refine Qh (An @aH (An @bI (An @aV (An @fe (An @dt @kO))))) ?_
 (refine Qa (fun h3=>?_) (fun h3=>?_)<;>try exact h3.elim)
 refine Qf ?_
 (refine Qa (fun h4=>?_) (fun h4=>?_)<;>try exact h4.elim)
 refine Qf ?_
 refine EA (Bt (A:=[]) (B:=[(71,_),(70,_)]) (S:=S) (S':={ S with aF:=S.aF + 1 }) (T:=T) rfl au au) ?_
 have H2:HL ([(71,.cells [.int .i64 0,.str [],.bool false,.str []]),(70,.cells [.int .i64 2,.int .i64 an,.int .i64 ad,.str f])]++Qm S1 T1) 72:=((Qj bj).more (by simp[bG,ai,Qe])).more (by simp[bG,ai,Qe])
 refine Uu (v:=false) (pp:=[67]) (ex:=[(71,_),(70,_)]) (s3:=⟨[(4,.ptr 71 0),(37,.agg [.int .i64 r1,.str r2,.bool r3,.str r4])],[(71,.cells [.int .i64 0,.str [],.bool false,.str []]),(70,.cells [.int .i64 2,.int .i64 an,.int .i64 ad,.str f])]++Qm S1 T1,72⟩) aY ho (Qj hT) (Qj bj) (by simp[Qe,ai]) aR au au rfl ?_ ?_ ?_
 ·exact Qr @Xw
 ·unfold Zq
  refine To.iq bj H2 aR aR au au au (fun b h1 h2=>?_) ?_
  ·rcases (by omega:b=70∨b=71) with rfl|rfl<;>rfl
  ·simp[Qu,Qe,ai,look,aD,ay,qb,lw,rL]
 have jb:=fun n b hb=>Ya (S:=S1) bj n b hb
 refine Qh @jb ?_
 exact ⟨(),To.drop (ex:=[(71,_),(71,_),(70,_)]) (Qj bj) au au (by simp[Qu,Qe,ai,look,aD,ay])⟩
theorem VS (gl:Nat→AV) (S:NS) (T:WT) (hw:S.tb.wf) (hT:T.wf) (an ad:Int) (f:List UInt8) (ha:S.aF < 300) (r:Rp) (S1:NS) (T1:WT) (bj:T1.wf) (ho:GD Tryz.prog gl 60 [.ptr 67 0,.int .i64 an] (Qm { S with aF:=S.aF + 1 } T) 70 [67] (.agg r.enc) (Qm S1 T1)):GD Tryz.prog gl 20 [.ptr 67 0,.agg [.int .i64 3,.int .i64 an,.int .i64 ad,.str f]] (Qm S T) 70 [67] (.agg r.enc) (Qm S1 T1):=by
 refine yK.gq (of_decide_eq_true rfl) (Zs hT) au fun c aY hg=>?_
 subst hg
 conv in aO _ _=>cbv
 have aH:=fun n b hb=>Ya (S:=S) hT n b hb
 have bI:=Kx S T
 have aV:=NS.aS hw
 have fe:=NS.fe hw
 have kO:=NS.kO hw (S.aF + 1)
 have dt:(S.aF:Int) + 1=((S.aF + 1:Nat):Int):=by omega
 obtain ⟨r1,r2,r3,r4⟩:=r
 unfold Rp.enc at ho ⊢
 dsimp only at ho ⊢
 refine Qh (An @aH (An @bI (An @aV @fe))) ?_
 (refine Qa (fun h1=>?_) (fun h1=>?_)<;>try exact h1.elim)
 refine Qh (An @aH (An @bI (An @aV @fe))) ?_
 (refine Qa (fun h2=>?_) (fun h2=>?_)<;>try exact h2.elim)
 ·omega
 refine Qh (An @aH (An @bI (An @aV (An @fe (An @dt @kO))))) ?_
 (refine Qa (fun h3=>?_) (fun h3=>?_)<;>try exact h3.elim)
 refine Qf ?_
 (refine Qa (fun h4=>?_) (fun h4=>?_)<;>try exact h4.elim)
 refine Qf ?_
 (refine Qa (fun h5=>?_) (fun h5=>?_)<;>try exact h5.elim)
 refine Qf ?_
 refine EA (Bt (A:=[]) (B:=[(71,_),(70,_)]) (S:=S) (S':={ S with aF:=S.aF + 1 }) (T:=T) rfl au au) ?_
 have H2:HL ([(71,.cells [.int .i64 0,.str [],.bool false,.str []]),(70,.cells [.int .i64 3,.int .i64 an,.int .i64 ad,.str f])]++Qm S1 T1) 72:=((Qj bj).more (by simp[bG,ai,Qe])).more (by simp[bG,ai,Qe])
 refine Uu (v:=false) (pp:=[67]) (ex:=[(71,_),(70,_)]) (s3:=⟨[(4,.ptr 71 0),(43,.agg [.int .i64 r1,.str r2,.bool r3,.str r4])],[(71,.cells [.int .i64 0,.str [],.bool false,.str []]),(70,.cells [.int .i64 3,.int .i64 an,.int .i64 ad,.str f])]++Qm S1 T1,72⟩) aY ho (Qj hT) (Qj bj) (by simp[Qe,ai]) aR au au rfl ?_ ?_ ?_
 ·exact Qr @Xw
 ·unfold Zq
  refine To.iq bj H2 aR aR au au au (fun b h1 h2=>?_) ?_
  ·rcases (by omega:b=70∨b=71) with rfl|rfl<;>rfl
  ·simp[Qu,Qe,ai,look,aD,ay,qb,lw,rL]
 have jb:=fun n b hb=>Ya (S:=S1) bj n b hb
 refine Qh @jb ?_
 exact ⟨(),To.drop (ex:=[(71,_),(71,_),(70,_)]) (Qj bj) au au (by simp[Qu,Qe,ai,look,aD,ay])⟩
theorem Yfi (gl:Nat→AV) (S:NS) (T:WT) (hw:S.tb.wf) (hT:T.wf) (ak:Int) (an ad:Int) (f:List UInt8) (ha:S.aF < 300) (hk:ak≠1∧ak≠2∧ak≠3∧ak≠4∧ak≠5):GD Tryz.prog gl 20 [.ptr 67 0,.agg [.int .i64 ak,.int .i64 an,.int .i64 ad,.str f]] (Qm S T) 70 [67] (.agg (bR 4).enc) (Qm { S with aF:=S.aF + 1 } T):=by
 refine yK.gq (of_decide_eq_true rfl) (Zs hT) au fun c aY hg=>?_
 subst hg
 conv in aO _ _=>cbv
 have aH:=fun n b hb=>Ya (S:=S) hT n b hb
 have bI:=Kx S T
 have aV:=NS.aS hw
 have fe:=NS.fe hw
 have kO:=NS.kO hw (S.aF + 1)
 have dt:(S.aF:Int) + 1=((S.aF + 1:Nat):Int):=by omega
 refine Qh (An @aH (An @bI (An @aV @fe))) ?_
 (refine Qa (fun h1=>?_) (fun h1=>?_)<;>try exact h1.elim)
 refine Qh (An @aH (An @bI (An @aV @fe))) ?_
 (refine Qa (fun h2=>?_) (fun h2=>?_)<;>try exact h2.elim)
 ·omega
 refine Qh (An @aH (An @bI (An @aV (An @fe (An @dt @kO))))) ?_
 (refine Qa (fun h3=>?_) (fun h3=>?_)<;>try exact h3.elim)
 ·omega
 refine Qf ?_
 (refine Qa (fun h4=>?_) (fun h4=>?_)<;>try exact h4.elim)
 ·omega
 refine Qf ?_
 (refine Qa (fun h5=>?_) (fun h5=>?_)<;>try exact h5.elim)
 ·omega
 refine Qf ?_
 (refine Qa (fun h6=>?_) (fun h6=>?_)<;>try exact h6.elim)
 ·omega
 refine Qf ?_
 (refine Qa (fun h7=>?_) (fun h7=>?_)<;>try exact h7.elim)
 ·omega
 unfold bR Rp.enc
 refine Qh @aH ?_
 exact ⟨(),To.jJ (ex:=[(71,_),(67,_),(71,_),(70,_)]) (ex':=[]) id hT (Qj (S:={ S with aF:=S.aF + 1 }) hT) (Nat.le_refl 70) au au au (fun _ _=>rfl) (fun b h _=>h) (fun b b' _ _ _ _ e=>e) rfl rfl rfl (fun b h1 h2=>by omega) (by simp[Qu,Qe,ai,look,aD,ay])⟩
theorem Yft (gl:Nat→AV) (S:NS) (T:WT) (hw:S.tb.wf) (hT:T.wf) (an ad:Int) (f:List UInt8) (ha:S.aF < 300) (x:aw × Int) (hx:S.tb.aq.drain an true=x):GD Tryz.prog gl 20 [.ptr 67 0,.agg [.int .i64 4,.int .i64 an,.int .i64 ad,.str f]] (Qm S T) 70 [67] (.agg (bR x.2).enc) (Qm (if x.2=0 then { S with aF:=S.aF + 1,tb:={ S.tb with aq:=x.1 } } else { S with aF:=S.aF + 1 }) T):=by
 refine yK.gq (of_decide_eq_true rfl) (Zs hT) au fun c aY hg=>?_
 subst hg
 conv in aO _ _=>cbv
 have aH:=fun n b hb=>Ya (S:=S) hT n b hb
 have bI:=Kx S T
 have aV:=NS.aS hw
 have fe:=NS.fe hw
 have kO:=NS.kO hw (S.aF + 1)
 have dt:(S.aF:Int) + 1=((S.aF + 1:Nat):Int):=by omega
 have pX:=SS c.gl S.tb.aq hw.aq an
 have nT:x.1.wf:=by rw[← hx];exact aw.dT _ hw.aq an true
 rw[hx]at pX
 obtain ⟨p,e⟩:=x
 unfold Ub at pX
 dsimp only at *
 have iX:=NS.aS (S:={ S with aF:=S.aF + 1 }) hw
 have um:List.take 21 ({ S with aF:=S.aF + 1 }:NS).cells=S.tb.aq.enc:=NS.jc (S:={ S with aF:=S.aF + 1 }) hw
 have eQ:=aw.aC nT
 have jF:p.enc.take 21=p.enc:=List.take_of_length_le (by rw[eQ];decide)
 have oM:=NS.rO (S:={ S with aF:=S.aF + 1 }) hw nT
 refine Qh (An @aH (An @bI (An @aV @fe))) ?_
 (refine Qa (fun h1=>?_) (fun h1=>?_)<;>try exact h1.elim)
 refine Qh (An @aH (An @bI (An @aV @fe))) ?_
 (refine Qa (fun h2=>?_) (fun h2=>?_)<;>try exact h2.elim)
 ·omega
 refine Qh (An @aH (An @bI (An @aV (An @fe (An @dt @kO))))) ?_
 (refine Qa (fun h3=>?_) (fun h3=>?_)<;>try exact h3.elim)
 refine Qf ?_
 (refine Qa (fun h4=>?_) (fun h4=>?_)<;>try exact h4.elim)
 refine Qf ?_
 (refine Qa (fun h5=>?_) (fun h5=>?_)<;>try exact h5.elim)
 refine Qf ?_
 (refine Qa (fun h6=>?_) (fun h6=>?_)<;>try exact h6.elim)
 (refine Qa (fun h7=>?_) (fun h7=>?_)<;>try exact h7.elim)
 refine Qh (An @iX @um) ?_
 refine Qy pX (An @aH (An @eQ @jF)) ?_
 refine Qh (An @aH (An @eQ @jF)) ?_
 (refine Qa (fun h8=>?_) (fun h8=>?_)<;>try exact h8.elim)
 refine Qh (An @eQ @jF) ?_
 by_cases he:e=0
 ·subst he
  rw[if_pos rfl]
  (refine Qa (fun h9=>?_) (fun h9=>?_)<;>try exact h9.elim)
  refine Qh (An @iX (An @eQ (An @jF @oM))) ?_
  unfold bR Rp.enc
  exact ⟨(),To.jJ (ex:=[(71,_),(67,_),(72,_),(72,_),(67,_),(71,_),(70,_)]) (ex':=[]) id hT (Qj (S:={ S with aF:=S.aF + 1,tb:={ S.tb with aq:=p } }) hT) (Nat.le_refl 70) au au au (fun _ _=>rfl) (fun b h _=>h) (fun b b' _ _ _ _ e=>e) rfl rfl rfl (fun b h1 h2=>by omega) (by simp[Qu,Qe,ai,look,aD,ay])⟩
 ·rw[if_neg he]
  (refine Qa (fun h9=>?_) (fun h9=>?_)<;>try exact h9.elim)
  ·exact absurd h9 he
  refine Qf ?_
  unfold bR Rp.enc
  exact ⟨(),To.jJ (ex:=[(71,_),(72,_),(72,_),(67,_),(71,_),(70,_)]) (ex':=[]) id hT (Qj (S:={ S with aF:=S.aF + 1 }) hT) (Nat.le_refl 70) au au au (fun _ _=>rfl) (fun b h _=>h) (fun b b' _ _ _ _ e=>e) rfl rfl rfl (fun b h1 h2=>by omega) (by simp[Qu,Qe,ai,look,aD,ay])⟩
theorem Yeq (gl:Nat→AV) (S:NS) (T:WT) (hw:S.tb.wf) (hT:T.wf) (an ad:Int) (f:List UInt8) (ha:S.aF < 300) (x:aw × Int) (hx:S.tb.aq.drain an false=x):GD Tryz.prog gl 20 [.ptr 67 0,.agg [.int .i64 5,.int .i64 an,.int .i64 ad,.str f]] (Qm S T) 70 [67] (.agg (bR x.2).enc) (Qm (if x.2=0 then { S with aF:=S.aF + 1,tb:={ S.tb with aq:=x.1 } } else { S with aF:=S.aF + 1 }) T):=by
 refine yK.gq (of_decide_eq_true rfl) (Zs hT) au fun c aY hg=>?_
 subst hg
 conv in aO _ _=>cbv
 have aH:=fun n b hb=>Ya (S:=S) hT n b hb
 have bI:=Kx S T
 have aV:=NS.aS hw
 have fe:=NS.fe hw
 have kO:=NS.kO hw (S.aF + 1)
 have dt:(S.aF:Int) + 1=((S.aF + 1:Nat):Int):=by omega
 have pX:=SS c.gl S.tb.aq hw.aq an
 have yC:=Xaj c.gl S.tb.aq hw.aq an
 have nT:x.1.wf:=by rw[← hx];exact aw.dT _ hw.aq an false
 rw[hx]at yC
 have VT:=aw.dT _ hw.aq an true
 generalize S.tb.aq.drain an true=y at pX VT
 obtain ⟨yp,ye⟩:=y
 have vo:=aw.aC VT
 have VU:yp.enc.take 21=yp.enc:=List.take_of_length_le (by rw[vo];decide)
 obtain ⟨p,e⟩:=x
 unfold Ub at pX yC
 dsimp only at *
 have iX:=NS.aS (S:={ S with aF:=S.aF + 1 }) hw
 have um:List.take 21 ({ S with aF:=S.aF + 1 }:NS).cells=S.tb.aq.enc:=NS.jc (S:={ S with aF:=S.aF + 1 }) hw
 have eQ:=aw.aC nT
 have jF:p.enc.take 21=p.enc:=List.take_of_length_le (by rw[eQ];decide)
 have oM:=NS.rO (S:={ S with aF:=S.aF + 1 }) hw nT
 refine Qh (An @aH (An @bI (An @aV @fe))) ?_
 (refine Qa (fun h1=>?_) (fun h1=>?_)<;>try exact h1.elim)
 refine Qh (An @aH (An @bI (An @aV @fe))) ?_
 (refine Qa (fun h2=>?_) (fun h2=>?_)<;>try exact h2.elim)
 ·omega
 refine Qh (An @aH (An @bI (An @aV (An @fe (An @dt @kO))))) ?_
 (refine Qa (fun h3=>?_) (fun h3=>?_)<;>try exact h3.elim)
 refine Qf ?_
 (refine Qa (fun h4=>?_) (fun h4=>?_)<;>try exact h4.elim)
 refine Qf ?_
 (refine Qa (fun h5=>?_) (fun h5=>?_)<;>try exact h5.elim)
 refine Qf ?_
 (refine Qa (fun h6=>?_) (fun h6=>?_)<;>try exact h6.elim)
 refine Qf ?_
 (refine Qa (fun h7=>?_) (fun h7=>?_)<;>try exact h7.elim)
 refine Qh (An @iX @um) ?_
 refine Qy pX (An @aH (An @vo (An @VU (An @iX @um)))) ?_
 refine Qh (An @aH (An @vo (An @VU (An @iX @um)))) ?_
 (refine Qa (fun h8=>?_) (fun h8=>?_)<;>try exact h8.elim)
 refine Qh (An @iX @um) ?_
 refine Qy yC (An @aH (An @eQ (An @jF @vo))) ?_
 refine Qh (An @eQ @jF) ?_
 by_cases he:e=0
 ·subst he
  rw[if_pos rfl]
  (refine Qa (fun h9=>?_) (fun h9=>?_)<;>try exact h9.elim)
  refine Qh (An @iX (An @eQ (An @jF @oM))) ?_
  unfold bR Rp.enc
  exact ⟨(),To.jJ (ex:=[(71,_),(67,_),(72,_),(72,_),(72,_),(67,_),(71,_),(70,_)]) (ex':=[]) id hT (Qj (S:={ S with aF:=S.aF + 1,tb:={ S.tb with aq:=p } }) hT) (Nat.le_refl 70) au au au (fun _ _=>rfl) (fun b h _=>h) (fun b b' _ _ _ _ e=>e) rfl rfl rfl (fun b h1 h2=>by omega) (by simp[Qu,Qe,ai,look,aD,ay])⟩
 ·rw[if_neg he]
  (refine Qa (fun h9=>?_) (fun h9=>?_)<;>try exact h9.elim)
  ·exact absurd h9 he
  refine Qf ?_
  unfold bR Rp.enc
  exact ⟨(),To.jJ (ex:=[(71,_),(72,_),(72,_),(72,_),(67,_),(71,_),(70,_)]) (ex':=[]) id hT (Qj (S:={ S with aF:=S.aF + 1 }) hT) (Nat.le_refl 70) au au au (fun _ _=>rfl) (fun b h _=>h) (fun b b' _ _ _ _ e=>e) rfl rfl rfl (fun b h1 h2=>by omega) (by simp[Qu,Qe,ai,look,aD,ay])⟩
theorem EO (gl:Nat→AV) (h0:gl 0=.xp (Qp Xi) 0) (S:NS) (T:WT) (D:List Tm) (hK:NK S) (hW:WI T S.now D) (hD:D.Perm S.a6) (a:Ac) (hf:a.frame.length≤140737488351232):VK gl S T 20 [.ptr 67 0,.agg a.enc] (S.step a):=by
 obtain ⟨ak,an,ad,f⟩:=a
 unfold Ac.enc NS.step
 dsimp only at hf ⊢
 have hT:=hW.wf
 have hw:=hK.wf
 by_cases ha:300≤S.aF
 ·rw[if_pos ha]
  exact ⟨T,D,hW,hD,Xtg gl S T hw hT ak an ad f ha⟩
 rw[if_neg ha]
 have yX:S.aF < 300:=by omega
 have h1:=hK.toNI.cP (S.aF + 1)
 have hx:=hK.nx
 have ht:=hK.uL
 by_cases k1:ak=1
 ·subst k1
  rw[if_pos rfl]
  obtain ⟨T1,D1,di,jq,hg⟩:=Yai gl h0 { S with aF:=S.aF + 1 } T D h1 (by show S.b8≤_;omega) (by show S.told≤_;omega) hW hD 1 an ad f hf
  exact ⟨T1,D1,di,jq,Yf8 gl S T hw hT an ad f yX _ _ T1 di.wf hg⟩
 rw[if_neg k1]
 by_cases k2:ak=2
 ·subst k2
  rw[if_pos rfl]
  obtain ⟨T1,D1,di,jq,hg⟩:=Vz gl { S with aF:=S.aF + 1 } T D h1 (by show S.b8≤_;omega) hW hD f hf
  exact ⟨T1,D1,di,jq,Yfl gl S T hw hT an ad f yX _ _ T1 di.wf hg⟩
 rw[if_neg k2]
 by_cases k3:ak=3
 ·subst k3
  rw[if_pos rfl]
  by_cases hd:an < 1∨549755813888 - ({ S with aF:=S.aF + 1 }:NS).now < an
  ·have hb:=Xmf gl { S with aF:=S.aF + 1 } T D h1 hW an hd
   rw[Bs,if_pos hd]
   exact ⟨T,D,hW,hD,VS gl S T hw hT an ad f yX _ _ T hT hb⟩
  ·obtain ⟨T1,D1,di,jq,hg⟩:=Xxk gl h0 { S with aF:=S.aF + 1 } T D h1 (by show S.told≤_;omega) hW hD an hd
   exact ⟨T1,D1,di,jq,VS gl S T hw hT an ad f yX _ _ T1 di.wf hg⟩
 rw[if_neg k3]
 by_cases k4:ak=4
 ·subst k4
  rw[if_pos (.inl rfl)]
  have hg:=Yft gl S T hw hT an ad f yX _ rfl
  refine ⟨T,D,?_,?_,hg⟩
  ·dsimp only[decide_true];split<;>exact hW
  ·dsimp only[decide_true];split<;>exact hD
 by_cases k5:ak=5
 ·subst k5
  rw[if_pos (.inr rfl)]
  have hg:=Yeq gl S T hw hT an ad f yX _ rfl
  refine ⟨T,D,?_,?_,hg⟩
  ·dsimp only;split<;>exact hW
  ·dsimp only;split<;>exact hD
 rw[if_neg af]
 exact ⟨T,D,hW,hD,Yfi gl S T hw hT ak an ad f yX ⟨k1,k2,k3,k4,k5⟩⟩
section
variable {P:Program}
def EP (m:Nat) (rs:List RS) (r:AV) (ax:List (Nat × Bk)) (n:Nat):EX→St→Prop
 | .exit _,_=>False
 | _,s=>Wr s.fs rs∧To (List.range m) ⟨[(0,ga s.fs rs)],s.h,s.n⟩ ⟨[(0,r)],ax,n⟩
theorem Xpx {gl : Nat → AV} {f : FuncId} {fn : Func} {code : Code} {t : TC} {rs : List RS} {args : List AV} {ax : List (Nat × Bk)} {n : Nat} {r : AV} (hm : P.follows .mixedOrders = true) (hf : P.funcs[f]? = some fn) (hb : fn.body = some code) (dQ : (fn.name == "runtime.NumGoroutine") = false)
  (he:Jh P fn.ntmps code=some t) (hr:m9 P fn.results.toList=some rs) (hN:args.length≤fn.ntmps)
  (h:∀ c:Cx,(∀ q ∈ c.gh,q.1 ∈ List.range 0)→c.gl=gl→xw P c t (EP 0 rs r ax n) ⟨jx 0 args,[],0⟩):GS P gl f args [] 0 r ax n:=by
 refine ⟨⟨fn,hf,by rw[hb];rfl,dQ⟩,fun w vs G X g jM hv=>?_⟩
 refine calls_of_wp hf hb ?_
 have hR:=Ga (N:=fn.ntmps) (gh:=[]) hN jM hv (fun q hq=>by cases hq)
 have:=va (c:=⟨fn.ntmps,w,G,X,gl,[]⟩) hm code t _ _ he (h _ (fun q hq=>by cases hq) rfl) _ _ _ hR
 refine wp_mono this fun e a' w' hq=>?_
 have fin:∀ (g1:Nat→GM) (s:St),R ⟨fn.ntmps,w,G,X,gl,[]⟩ g1 s.fs a' w'→(Wr s.fs rs∧To (List.range 0) ⟨[(0,ga s.fs rs)],s.h,s.n⟩ ⟨[(0,r)],ax,n⟩) →
   a'.defers=[]∧∃ v,(results fn a'.tmps).run P w'=.ok v w'∧(∃ nd g',Ending.returned v=.returned nd∧R ⟨0,w,G,X,gl,[]⟩ g' (cW ax n) ⟨#[],[]⟩ w'∧(∀ b,b < 0→g' b=g b)∧VR g' (Qo ⟨0,w,G,X,gl,[]⟩ g' (cW ax n)) w' r nd):=by
  intro g1 s bb ⟨h1,h3⟩
  obtain ⟨v,h4,h5⟩:=Cm bb hr h1
  refine ⟨bb.dI,v,h4,v,?_⟩
  have cy:R ⟨1,w,G,X,gl,[]⟩ g1 (⟨[(0,ga s.fs rs)],s.h,s.n⟩:St).fs ⟨#[v],[]⟩ w':=by
   refine ⟨rfl,rfl,fun i=>?_,bb.gl,bb.h,bb.inj,bb.old,bb.fr,bb.xs,bb.gX⟩
   show VR g1 _ w' (look [(0,ga s.fs rs)] i) _
   rw[Zo]
   split
   ·rename_i hi;subst hi;exact h5
   ·exact .any _
  obtain ⟨g2,bV⟩:=h3 _ g1 _ _ (fun q hq=>by cases hq) cy
  exact ⟨g2,rfl,⟨rfl,rfl,fun i=>.any _,bV.gl,bV.h,bV.inj,bV.old,bV.fr,bV.xs,fun p hp=>by cases hp⟩,fun b hb=>by omega,bV.t 0⟩
 cases e with
 | normal=>obtain ⟨g,s,bb,cF⟩:=hq;exact fin g s bb cF
 | ret=>obtain ⟨g,s,bb,cF⟩:=hq;exact fin g s bb cF
 | exit i=>obtain ⟨g,s,bb,cF⟩:=hq;exact cF.elim
 | goto l=>exact hq.elim
 | panic ch=>exact hq.elim
 | outgrown=>exact hq.elim
theorem FT.On {gl:Nat→AV} {f:FuncId} {fn:Func} {t:TC} {rs:List RS} (hF:FT P f fn t rs) {args:List AV} {ax:List (Nat × Bk)} {n:Nat} {r:AV} (hN:args.length≤fn.ntmps)
  (h:∀ c:Cx,(∀ q ∈ c.gh,q.1 ∈ List.range 0)→c.gl=gl→xw P c t (EP 0 rs r ax n) ⟨jx 0 args,[],0⟩):GS P gl f args [] 0 r ax n:=by
 have hc:=hF.code
 cases hb:fn.body with
 | none=>rw[hb]at hc;simp at hc
 | some code =>
  rw[hb]at hc
  exact Xpx hF.mixed hF.func hb hF.name hc hF.res hN h
theorem Xgl (m:Nat) (rs:List RS) (r:AV) (ax:List (Nat × Bk)) (n:Nat) (s:St):EP m rs r ax n .ret s=(Wr s.fs rs∧To (List.range m) ⟨[(0,ga s.fs rs)],s.h,s.n⟩ ⟨[(0,r)],ax,n⟩):=rfl
attribute [go_sem] Xgl
end
def kP (l:List Fl):List AV:=l.flatMap Fl.enc
theorem VV (l:List Fl):(kP l).length=l.length * 10:=by
 induction l with
 | nil=>rfl
 | cons f l ih=>simp only[kP,List.flatMap_cons,List.length_append]at ih ⊢;rw[ih];simp[Fl.enc,Up];omega
theorem H0 (n:Nat) (l:List Fl):ai n (kP l):=by
 rw[Xj]
 intro v hv
 obtain ⟨f,_,hf⟩:=List.mem_flatMap.1 hv
 simp[Fl.enc,Up]at hf
 rcases hf with rfl|rfl|rfl|rfl|rfl|rfl|rfl|rfl|rfl|rfl<;>simp[Qe]
theorem Xvk (ρ:Nat→Nat) (l:List Fl):ay ρ (kP l)=kP l:=by
 rw[Yf]
 exact (List.map_congr_left fun v hv=>Ks (Xj.1 (H0 0 l) v hv)).trans (List.map_id _)
theorem Xt1 (l:List Fl) (f:Fl):kP l++f.enc=kP (l++[f]):=by simp[kP]
def NS.cE (S:NS):List Fl:=S.fl.map (·.2)
theorem Xnv (gl:Nat→AV) (S:NS) (T:WT) (hS:NJ S) (hT:T.wf):GD Tryz.prog gl 24 [.ptr 67 0] (Qm S T) 70 (List.range 70) (.isl S.cE.length (kP S.cE)) (Qm S T):=by
 refine U4.gq (of_decide_eq_true rfl) (Zs hT) (fun b hb=>List.mem_range.1 hb) fun c aY hg=>?_
 subst hg
 conv in aO _ _=>cbv
 have aH:=fun n b hb=>Ya (S:=S) hT n b hb
 have bI:=Kx S T
 have rF:=v8 S T
 have wc:=wa S T
 have aV:=NS.aS hS.wf
 have eZ:=NS.eZ hS.wf
 have jI:=NS.jI hS.wf
 have iO:=Er S
 have dZ:=yL S.fl
 have h48:=hS.len
 have kz:S.cE.length=S.fl.length:=by simp[NS.cE]
 refine Qh @aH ?_
 (refine Qa (fun h1=>?_) (fun h1=>?_)<;>try exact h1.elim)
 refine Qh (An @bI (An @aV @jI)) ?_
 refine xA 3 10 rfl (by exact Qr @aH) ?_
 unfold St.named
 refine Yi (fun k:Nat=>k≤S.fl.length) (fun k=>⟨[(0,.ptr 67 0),(3,.sl 10 70 0 k k),(11,.sl 1 69 0 S.fl.length S.fl.length),(12,.int .i64 S.fl.length),(13,.int .i64 k)],[(70,.cells (kP (S.cE.take k)))]++Qm S T,71⟩) (fun k=>S.fl.length - k) U4.mixed (List.range 70) aY
  ⟨0,Nat.zero_le _,To.c6 (by exact Qs) fun b=>rfl⟩ fun k hk=>?_
 refine Qf ?_
 (refine Qa (fun h2=>?_) (fun h2=>?_)<;>try exact h2.elim)
 ·have bB:k < S.fl.length:=by omega
  have kn:=U8 S bB
  have dW:=pU S.fl[k].1
  have eK:=NM hS.dM bB (.agg Fl.zero)
  have ec:kP (S.cE.take k)++S.fl[k].2.enc=kP (S.cE.take (k + 1)):=by
   rw[Xt1,List.take_succ]
   congr 2
   simp[NS.cE,bB]
  have kH:(kP (S.cE.take k)).length=k * 10:=by rw[VV,List.length_take];omega
  generalize S.fl[k]=q at *
  obtain ⟨x,⟨⟨p0,p1,p2,p3,p4⟩,g0,g1,g2,g3,g4⟩⟩:=q
  unfold Fl.enc Up at eK ec
  dsimp only at eK kn dW ec
  refine Qh (An @wc (An @iO (An @kn (An @bI (An @aV @eZ))))) ?_
  ((first|refine oz Wh ?_|refine Ut Wh ?_);(have aB:=@rF;have aQ:=@dZ;have a8:=@dW;have bU:=@eK;have cI:=@aH;refine XG ?_;clear aB aQ a8 bU cI;((try (repeat' with_reducible refine And.intro ?_ ?_));(try any_goals (first|refine zm ?_|exact CL|fail)))))
  refine Zm @aH ?_
  refine Zm (An @aH (An @kH @ec)) ?_
  have oW:=H0 71 (S.cE.take (k + 1))
  have Bv:=fun ρ=>Xvk ρ (S.cE.take (k + 1))
  refine ⟨k + 1,by omega,?_,by omega⟩
  generalize kP (S.cE.take (k + 1))=E at *
  refine To.jJ (ex:=[(72,_),(70,.dead),(71,_),(70,_)]) (ex':=[(70,.cells E)]) (fun b=>if b=70 then 72 else b) hT ((Qj hT).more (by exact oW)) aR au au aR (fun b hb=>if_neg af) (fun b h h2=>?_) (fun b b' h1 h2 h3 h4 e=>?_) rfl rfl rfl (fun b h1 h2=>?_) ?_
  ·split<;>omega
  ·omega
  ·obtain rfl:b=70:=by omega
   show Bk.cells E=Bk.cells (ay _ E)
   rw[Bv]
  ·simp[Qu,Qe,ai,look,aD,ay]
 ·obtain rfl:k=S.fl.length:=by omega
  have dD:S.cE.take S.fl.length=S.cE:=List.take_of_length_le (by rw[kz];exact Nat.le_refl _)
  have bg:((kP S.cE).drop 0).take (S.fl.length * 10)=kP S.cE:=by rw[List.drop_zero,List.take_of_length_le (by rw[VV,kz];exact Nat.le_refl _)]
  have Oo:=Jp (kP S.cE)
  have eM:=H0 70 S.cE
  rw[dD]
  refine Qf ?_
  refine ⟨(),(To.fC (b:=70) (i:=0) rfl rfl).trans ?_⟩
  rw[bg,kz]
  exact To.drop (ex:=[(70,.dead),(70,_)]) (Qj hT) au aR (by simp[Qu,Qe,look,aD,Oo,eM])
theorem To.wkM {p:List Nat} {s:St} {b:Nat} {kvs:List (AV × AV)} (hb:Qc s.h s.n b=.aE kvs true):To p s ⟨s.t,(b,.aE kvs false)::s.h,s.n⟩:=fun c g a w _ hR=>by
 have hH:∀ i,(⟨s.t,(b,.aE kvs false)::s.h,s.n⟩:St).fs.H i=if b=i then .aE kvs false else s.fs.H i:=fun i=>by
  show Qc ((b,_)::s.h) s.n i=_
  rw[Qd];rfl
 refine ⟨g,hR.gj (fun k v hv=>hv) (fun i h=>?_) fun i=>?_⟩
 ·rw[hH];split
  ·rename_i e;subst e
   rw[show s.fs.H b=.aE kvs true from hb]at h
   generalize g b=m at h ⊢
   cases h with
   | aE hb hs j5 hv hc ha hd=>exact .aE hb hs j5 hv hc ha (fun h=>by cases h)
  ·exact h
 ·rw[hH];split
  ·rename_i e;subst e;rw[show s.fs.H b=.aE kvs true from hb];exact Iff.rfl
  ·exact Iff.rfl
def zT:List AV:=Qp (List.replicate 18 0)++Zh (List.replicate 3 false)++Qp (List.replicate 8 0)
theorem To.VW {p:List Nat} {s:St} {b:Nat} {A B:List AV} {x y:AV} (hb:Qc s.h s.n b=.cells (A++x::B)) (h:Wk x y):To p s ⟨s.t,(b,.cells (A++y::B))::s.h,s.n⟩:=To.R7 hb (by simp) fun j hj=>by
 have e:∀ z:AV,(A++z::B).getD j .any=if j < A.length then A.getD j .any else if j=A.length then z else B.getD (j - A.length - 1) .any:=fun z=>by
  simp only[List.getD]
  by_cases h1:j < A.length
  ·rw[if_pos h1,List.getElem?_append_left h1]
  ·rw[if_neg h1,List.getElem?_append_right af]
   by_cases h2:j=A.length
   ·subst h2;simp
   ·rw[if_neg h2,show j - A.length=(j - A.length - 1) + 1 by omega,List.getElem?_cons_succ]
    simp
 rw[e,e]
 split
 ·exact Wk.refl _
 ·split
  ·exact h
  ·exact Wk.refl _
theorem ER (gl:Nat→AV) (b:Bool):GS Tryz.prog gl 28 [.bool b] [] 0 (.ptr 67 0) (Qm (NS.new b) (Kc 0 (.aE [] true))) 70:=by
 have bN:=Xwa gl 0 aR
 have vX:=Nv 0 aR
 have hT:=vX.wf
 refine Ybv.On (of_decide_eq_true rfl) fun c aY hg=>?_
 subst hg
 conv in aO _ _=>cbv
 generalize Kc 0 (.aE [] true)=T0 at *
 have l9:=Yfx hT (σ:=fun b=>b) (m:=67) fun b hb=>hb
 refine Qf ?_
 refine uE bN (WT.gM hT) ?_ au ?_
 ·exact Qs
 dsimp only[List.nil_append]
 have hid:Xc (fun b=>0 + b) T0.hb=T0.hb:=by
  have e:(fun b:Nat=>0 + b)=id:=by funext b;exact Nat.zero_add b
  rw[e,Kj]
 have DU:=fun n b hb=>WT.oK hT n (b:=b) hb
 rw[hid]
 refine Qf ?_
 (refine RV Wh ?_;(have aB:=@DU;refine XG ?_;clear aB;((try (repeat' with_reducible refine And.intro ?_ ?_));(try any_goals (first|refine zm ?_|exact CL|fail)))))
 refine (To.VW (b:=68) (A:=zT) (x:=.nils) (y:=.isl 0 []) (B:=[.mp 67,.nils,.int .i64 0,.ptr 0 0,.int .i64 0,.int .i64 4,.int .i64 0,.bool b]) rfl Wk.nils).trans ?_
 refine (To.kU (b:=68) (j:=31) (es:=1) (cs:=zT++.isl 0 []::[.mp 67,.nils,.int .i64 0,.ptr 0 0,.int .i64 0,.int .i64 4,.int .i64 0,.bool b]) rfl rfl ?_).trans ?_
 ·change Qc _ _ _=Bk.free
  dsimp only
  rw[Qd,if_neg aR,Qd,if_neg aR,Qd,if_neg aR,DU 69 69 aR]
  rfl
 refine (To.wkM (b:=67) (kvs:=[]) rfl).trans ?_
 refine To.mV (fun i=>if i=67 then 68 else if i=68 then 67 else i) (Qj hT) (fun i hi=>by simp at hi) (fun i j h1 h2 e=>?_) (fun i hi=>?_) ?_
 ·(repeat' split at e)<;>omega
 ·rcases (by omega:i < 67∨i=67∨i=68∨i=69) with h|rfl|rfl|rfl
  ·have e1:(if i=67 then 68 else if i=68 then 67 else i)=i:=by rw[if_neg af,if_neg af]
   have e2:Qc (Qm (NS.new b) T0) 70 i=Qc T0.hb 67 i:=by
    unfold Qm
    rw[Qd,if_neg af,Qd,if_neg af,Qd,if_neg af]
    exact ((WT.gM hT).live h 70).1
   rw[e1,e2,Wv (g:=id) (fun j hj=>by rw[if_neg af,if_neg af];rfl) (Ny hT h).2,Ws]
   dsimp only
   rw[Qd,if_neg af,Qd,if_neg af,Qd,if_neg af,Qd,if_neg af,Qd,if_neg af,Qd,if_neg af]
   exact ((WT.gM hT).live h _).1
  ·rfl
  ·rfl
  ·rfl
 ·simp[Qu,Qe,look,aD]
def uT:Pk:=⟨17,167772161,5,9,6,9,0,0,0,0,0,[]⟩
def qe:List UInt8:=[69,0,0,28,0,0,0,0,9,17,167,200,10,0,0,1,0,0,0,9,0,5,0,6,0,8,245,201]
def sT:List UInt8:=[69,0,0,28,0,0,0,0,8,17,118,199,203,0,113,1,0,0,0,9,4,0,0,6,0,8,191,205]
def ES:Mp:=⟨17,0,5,0,1024⟩
def H7:Tb:=⟨⟨1::List.replicate 17 0,List.replicate 3 false⟩,1::List.replicate 7 0,[ES]⟩
def yY:NS:=⟨H7,[(1,⟨ES,9,6,2,0,20⟩)],1,0,1,4,1,false⟩
def Oq:List UInt8:=pZ 0 [⟨0,0,0,0,false⟩]
theorem Ydo:Xl uT=qe:=by decide +kernel
theorem Yd4:Yr uT=0:=by decide +kernel
theorem Yg3:bP qe=0:=by decide +kernel
theorem Ot:az qe=uT:=by
 have h:(az qe).enc=uT.enc:=rfl
 rfl
theorem Ygh:Yq qe 0 3405803777 1024=sT:=by decide +kernel
theorem Yfs:bP sT=0:=by decide +kernel
theorem Yf9:(az sT).aA=3405803777∧(az sT).ah=1024:=by decide +kernel
theorem Yg6:Oq.length=89:=by decide +kernel
theorem Yce:(NS.new false).tb.cx 17 0 5 0=(H7,ES,true,0):=by
 have hg:Wi (NS.new false).tb=true:=(vJ _).2 (Wc.2 (NK.new false).gt)
 unfold Tb.cx
 rw[hg]
 rfl
theorem VX:(NS.new false).step ⟨1,0,0,qe⟩=(⟨0,sT,false,Oq⟩,yY):=by
 have e:(NS.new false).step ⟨1,0,0,qe⟩=NS.out { (NS.new false) with aF:=1 } qe 0:=rfl
 rw[e,Br,Yg3,Ot]
 have ho:({ (NS.new false) with aF:=1 }:NS).tb.cx 17 0 5 0=(H7,ES,true,0):=Yce
 have px:({ (NS.new false) with aF:=1 }:NS).tb.cx uT.ae (uT.aA - 167772161) uT.ah 0=(H7,ES,true,0):=ho
 rw[px]
 rw[if_neg au,if_neg aR,if_neg aR,if_neg aR,if_neg aR,if_neg aR,if_neg aR,if_neg aR]
 unfold NS.opened
 rw[Ot]
 unfold NS.en
 rw[Ot]
 dsimp only
 rw[if_neg aR]
 show ((⟨0,Yq qe 0 3405803777 1024,false,_⟩:Rp),_)=_
 rw[Ygh]
 rfl
theorem Xqu:FT Tryz.prog 33 Tryz.f33 (aO Tryz.prog Tryz.f33) [.t 2]:=.of Tryz.func33
theorem Xok:FT Tryz.prog 50 Tryz.f50 (aO Tryz.prog Tryz.f50) [.t 0]:=.of Tryz.func50
theorem H8 (gl:Nat→AV) (p:Pk) (h:Yr p=0):PS Tryz.prog gl 33 [.agg p.enc] (.str (Xl p)):=by
 refine Xqu.ps (of_decide_eq_true rfl) (by simp[Qe]) fun c hN hg=>?_
 conv in aO _ _=>cbv
 have hb:=Xww c.gl p
 unfold Lx at hb
 rw[if_pos h]at hb
 generalize Xl p=B at *
 obtain ⟨p1,p2,p3,p4,p5,p6,p7,p8,p9,fS,fT,pb⟩:=p
 unfold Pk.enc at hb ⊢
 dsimp only at hb ⊢
 refine Qf ?_
 exact KL hb
def wq (d:Option Nat) (r:AV) (t:List (Nat × AV)):List (Nat × AV):=match d with
 | some d=>(d,r)::t
 | none=>t
theorem To.wu {p:List Nat} {S:NS} {T:WT} {t t':List (Nat × AV)} {ex:List (Nat × Bk)} {n:Nat} {d:Option Nat} {r:AV} (hT:T.wf) (hn:70≤n) (hp:∀ b ∈ p,b=67) (hex:∀ q ∈ ex,70≤q.1∧q.1 < n)
  (ht:Qu (cC id [67] n) 70 (wq d (aD (cC id [67] n) r) t) t'):To p (Zq t ex (Qm S T) id [67] 70 n d r) ⟨t',Qm S T,70⟩:=by
 have dY:∀ q ∈ ex,jB (cC id [67] n) 70 q.1:=fun q hq=>Xzp (fun b hb _ e=>by have:=(hex q hq).1;have e:b=q.1:=e;omega) (hex q hq).2
 have bT:∀ b b',b < 70→b' < 70→cC id [67] n b=cC id [67] n b'→b=b':=fun b b' h1 h2 e=>Ls (m:=70) (fun b b' _ _ e=>e) (fun b hb=>by show b < n;omega) h1 h2 e
 have:=To.home (p:=p) (t:=wq d (aD (cC id [67] n) r) t) (t':=t') (ex:=ex) (n:=n + 70) (Qj (S:=S) hT) bT dY (fun b hb=>by rw[hp b hb];exact ⟨rfl,by decide⟩) ht
 cases d<;>exact this
theorem H9 {hh:List (Nat × Bk)}:Xc (fun b=>0 + b) hh=hh:=by
 have e:(fun b:Nat=>0 + b)=id:=by funext b;exact Nat.zero_add b
 rw[e,Kj]
section
variable {P:Program} {c:Cx} {h h1 ex:List (Nat × Bk)} {m n:Nat} {v:Bool} {d:Option Nat} {kk:PK} {f:FuncId} {xs:List TV} {args:List AV} {r:AV} {t:List (Nat × AV)} {r0:List bF} {K:St→Prop} {gd:Option (Nat × Bool)}
theorem Ybl (hq:GD P c.gl f args h m (List.range m) r h1) (H:HL h m) (H1:HL h1 m) (hr:Qe m r) (hn:m≤n) (hex:∀ q ∈ ex,m≤q.1∧q.1 < n) (hk:kk=(bif v then .cu else .call f))
  (hb:gB (⟨t,ex++h,n⟩:St).fs gd=some true∧fL (⟨t,ex++h,n⟩:St).fs gd)
  (hc:Qv none (aG c.gl (⟨t,ex++h,n⟩:St).fs xs)∧mK v f ((aG c.gl (⟨t,ex++h,n⟩:St).fs xs).map Qk)=some (f,args)∧ai m args) (hx:XP P c r0 K (St.bQ ⟨t,ex++h1,n + m⟩ d r)):Yl P c (.pd d kk xs gd) r0 K ⟨t,ex++h,n⟩:=by
 have aU:=Bm (v:=v) H hn (fun b hb=>List.mem_range.1 hb) hex hc
 have hA:=De (d:=d) hq aU hk H1 hr
 rw[Kj,HF H1 hr]at hA
 exact .inl ⟨_,_,KK hb.1 hb.2 hA,hx⟩
end
theorem Ia (gl:Nat→AV) (h0:gl 0=.xp (Qp Xi) 0):PS Tryz.prog gl 50 [] (.bool true):=by
 have bN:=ER gl false
 have vX:=Nv 0 aR
 have hT:=vX.wf
 obtain ⟨T1,D1,di,jq,rP⟩:=EO gl h0 (NS.new false) _ [] (NK.new false) vX (by exact List.Perm.refl _) ⟨1,0,0,qe⟩ aR
 have bj:=di.wf
 rw[VX]at rP di
 dsimp only[Ac.enc,Rp.enc]at rP
 have kz:=Xnv gl yY T1 (by have:=(NK.new false).step ⟨1,0,0,qe⟩;rw[VX]at this;exact this.toNI.toNJ) bj
 have dK:=Wu gl sT aR
 have jF:Kt sT=.aX [.agg (az sT).enc,.int .i64 0]:=by
  unfold Kt;rw[Yfs];rfl
 rw[jF]at dK
 have oc:=H8 gl uT Yd4
 rw[Ydo]at oc
 simp only[Pk.enc,uT]at oc
 obtain ⟨k2,k3⟩:=Yf9
 have hL:=Yg6
 generalize az sT=K at *
 obtain ⟨K1,K2,K3,K4,K5,K6,K7,K8,K9,Ou,Ov,Ow⟩:=K
 dsimp only at k2 k3
 subst k2 k3
 unfold Pk.enc at dK
 dsimp only at dK
 generalize qe=F at *
 generalize sT=G at *
 generalize Oq=L at *
 generalize Kc 0 (.aE [] true)=T0 at *
 refine Xok.ps (of_decide_eq_true rfl) (by simp[Qe]) fun c hN hg=>?_
 subst hg
 conv in aO _ _=>cbv
 refine Qf ?_
 refine uE bN (Qj hT) ?_ au ?_
 ·exact Qs
 dsimp only[List.nil_append]
 rw[H9]
 refine Qf ?_
 (refine Qa (fun h1=>?_) (fun h1=>?_)<;>try exact h1.elim)
 refine Qf ?_
 refine Zg oc ?_
 refine Uu (v:=false) (pp:=[]) (ex:=[]) (s3:=⟨[(1,.ptr 67 0),(12,.agg [.int .i64 0,.str G,.bool false,.str L])],Qm yY T1,70⟩) (by rw[hN];simp) rP (Qj hT) (Qj bj) (by simp[Qe,ai]) aR au au rfl ?_ ?_ ?_
 ·exact Qr @Xw
 ·refine To.wu bj aR au au ?_
  simp[wq,Qu,Qe,ai,look,aD,ay,rL]
 have aH:=fun n b hb=>Ya (S:=yY) bj n b hb
 refine Qh @aH ?_
 have jR:(L.length:Int)=89:=by omega
 have lB:yY.cE.length=1:=rfl
 rw[lB]at kz
 refine Qy dK (An @aH @jR) ?_
 have pL:=H0 70 yY.cE
 generalize kP yY.cE=fz at *
 refine Ybl (v:=false) (ex:=[(71,_),(71,_),(70,_),(70,_)]) kz (Qj bj) (Qj bj) (by simpa [Qe] using pL) aR au rfl ?_ ?_ ?_
 ·exact Qs
 ·exact Qr @Xw
 exact Qs
def fU:Ac:=⟨0,0,0,[]⟩
noncomputable def Xq (b:Bool) (l:List Ac):Nat→NS
 | 0=>NS.new b
 | i + 1=>((Xq b l i).step (l.getD i fU)).2
noncomputable def Wa (b:Bool) (l:List Ac) (i:Nat):Rp:=((Xq b l i).step (l.getD i fU)).1
theorem We (b:Bool) (l:List Ac):∀ i,NK (Xq b l i)
 | 0=>NK.new b
 | i + 1=>(We b l i).step _
def mh (l:List Ac):Prop:=∀ a ∈ l,a.frame.length≤140737488351232
theorem ET {l:List Ac} (h:mh l) (i:Nat):(l.getD i fU).frame.length≤140737488351232:=by
 by_cases hi:i < l.length
 ·simp only[List.getD,List.getElem?_eq_getElem hi,Option.getD_some];exact h _ (List.getElem_mem hi)
 ·simp[List.getD,List.getElem?_eq_none (Nat.le_of_not_lt hi),fU]
theorem Ib (gl:Nat→AV) (h0:gl 0=.xp (Qp Xi) 0) (b:Bool) (l:List Ac) (hl:mh l) :
  ∃ Ts:Nat→WT,Ts 0=Kc 0 (.aE [] true)∧(∀ i,∃ D,WI (Ts i) (Xq b l i).now D∧D.Perm (Xq b l i).a6) ∧
   ∀ i,GD Tryz.prog gl 20 [.ptr 67 0,.agg (l.getD i fU).enc] (Qm (Xq b l i) (Ts i)) 70 [67] (.agg (Wa b l i).enc) (Qm (Xq b l (i + 1)) (Ts (i + 1))):=by
 have step:∀ i (T:{T:WT // ∃ D,WI T (Xq b l i).now D∧D.Perm (Xq b l i).a6}),∃ T':{T:WT // ∃ D,WI T (Xq b l (i + 1)).now D∧D.Perm (Xq b l (i + 1)).a6},
   GD Tryz.prog gl 20 [.ptr 67 0,.agg (l.getD i fU).enc] (Qm (Xq b l i) T.1) 70 [67] (.agg (Wa b l i).enc) (Qm (Xq b l (i + 1)) T'.1):=fun i ⟨T,D,hW,hP⟩=>by
  obtain ⟨T1,D1,di,jq,hg⟩:=EO gl h0 (Xq b l i) T D (We b l i) hW hP (l.getD i fU) (ET hl i)
  exact ⟨⟨T1,D1,di,jq⟩,hg⟩
 let f:∀ i,{T:WT // ∃ D,WI T (Xq b l i).now D∧D.Perm (Xq b l i).a6}→{T:WT // ∃ D,WI T (Xq b l (i + 1)).now D∧D.Perm (Xq b l (i + 1)).a6}:=fun i T=>Classical.choose (step i T)
 have hf:=fun i T=>Classical.choose_spec (step i T)
 let T0:{T:WT // ∃ D,WI T (Xq b l 0).now D∧D.Perm (Xq b l 0).a6}:=⟨Kc 0 (.aE [] true),[],Nv 0 aR,List.Perm.refl _⟩
 let g:∀ i,{T:WT // ∃ D,WI T (Xq b l i).now D∧D.Perm (Xq b l i).a6}:=fun i=>Nat.rec T0 (fun i T=>f i T) i
 exact ⟨fun i=>(g i).1,rfl,fun i=>(g i).2,fun i=>hf i (g i)⟩
def cT (l:List Ac):List AV:=l.flatMap Ac.enc
theorem Bw (l:List Ac):(cT l).length=l.length * 4:=by
 induction l with
 | nil=>rfl
 | cons f l ih=>simp only[cT,List.flatMap_cons,List.length_append]at ih ⊢;rw[ih];simp[Ac.enc];omega
theorem Wl (n:Nat) (l:List Ac):ai n (cT l):=by
 rw[Xj]
 intro v hv
 obtain ⟨f,_,hf⟩:=List.mem_flatMap.1 hv
 simp[Ac.enc]at hf
 rcases hf with rfl|rfl|rfl|rfl<;>simp[Qe]
theorem Ic (l:List Ac) {i:Nat} (h:i < l.length):((cT l).drop (i * 4)).take 4=(l.getD i fU).enc:=by
 induction l generalizing i with
 | nil=>simp at h
 | cons a l ih =>
  cases i with
  | zero=>simp[cT,Ac.enc]
  | succ i =>
   have:=ih (i:=i) (by simpa using h)
   rw[show (i + 1) * 4=4 + i * 4 by omega,← List.drop_drop]
   simpa [cT,Ac.enc] using this
def Yb (l:List Ac):Nat:=min l.length 100
end Go.Proofs.YtogckmommodmhaaGreatDoor
namespace Go.Proofs.YtogckmommodmhaaGreatDoor
open Go.RowKit
open Go.RowKit Go.ChangeShapes Go.WideShapes Go.Deep
set_option linter.all false
set_option linter.unusedSimpArgs false
set_option maxRecDepth 100000
theorem qF.isl {W:World} {v:Value} {n sz:Nat} {R:Nat→Nat→Value→Prop} (cd:0 < sz) (h:qF W v n sz R) (h1:∀ i j u,R i j u→u.oneCell'=true) :
  ∃ us:Nat→Value,(∀ i,i < n→∀ j,j < sz→R i j (us (i * sz + j)))∧VR (fun _=>.un) (fun _=>False) W (.isl n ((List.range (n * sz)).map fun m=>fg (us m))) v:=by
 obtain ⟨A,cap,rfl,hn,hm,hc⟩:=h.form
 rcases Nat.eq_zero_or_pos n with rfl|eF
 ·exact ⟨fun _=>undef,fun i hi=>absurd hi af,.isl (us:=fun _=>undef) hn hm (fun j hj=>by simp at hj) fun j hj=>by simp at hj⟩
 ·obtain ⟨b,o,rfl,hb,ep⟩:=hc eF
  have key:∀ i,i < n→∀ j,j < sz→W.cell? ⟨b,o + (i * sz + j),none⟩=some ((W.cell? ⟨b,o + (i * sz + j),none⟩).getD undef)∧R i j ((W.cell? ⟨b,o + (i * sz + j),none⟩).getD undef):=by
   intro i hi j hj
   obtain ⟨u,hu,hr⟩:=ep i hi j hj
   rw[hu];exact ⟨rfl,hr⟩
  refine ⟨fun m=>(W.cell? ⟨b,o + m,none⟩).getD undef,fun i hi j hj=>(key i hi j hj).2,?_⟩
  have at_:∀ m,m < n * sz→W.cell? ⟨b,o + m,none⟩=some ((W.cell? ⟨b,o + m,none⟩).getD undef)∧((W.cell? ⟨b,o + m,none⟩).getD undef).oneCell'=true:=by
   intro m hm
   have hd:m / sz < n:=Nat.div_lt_of_lt_mul (by rw[Nat.mul_comm];exact hm)
   have hr:=Nat.mod_lt m cd
   have e:m / sz * sz + m % sz=m:=by rw[Nat.mul_comm];exact Nat.div_add_mod m sz
   have:=key _ hd _ hr
   rw[e]at this
   exact ⟨this.1,h1 _ _ _ this.2⟩
  refine .isl (us:=fun m=>(W.cell? ⟨b,o + m,none⟩).getD undef) hn hm (fun j hj=>⟨b,o,rfl,?_,id,?_⟩) fun j hj=>?_
  ·simp only[List.length_map,List.length_range]at hj;exact (at_ j hj).1
  ·simp only[List.length_map,List.length_range]at hj;exact (at_ j hj).2
  ·simp only[List.length_map,List.length_range]at hj
   have:((List.range (n * sz)).map fun m=>fg ((W.cell? ⟨b,o + m,none⟩).getD undef)).getD j .any=fg ((W.cell? ⟨b,o + j,none⟩).getD undef):=by simp[List.getD,hj]
   rw[this]
   exact Fm _
end Go.Proofs.YtogckmommodmhaaGreatDoor
namespace Go.Proofs.YtogckmommodmhaaGreatDoor
open Go.RowKit
open Go.RowKit Go.ChangeShapes Go.WideShapes
set_option linter.all false
set_option linter.unusedSimpArgs false
set_option maxRecDepth 100000
end Go.Proofs.YtogckmommodmhaaGreatDoor
namespace Go.Proofs.YtogckmommodmhaaGreatDoor
open Go.RowKit
open Go.RowKit Go.ChangeShapes Go.WideShapes Go.Deep
set_option linter.all false
set_option linter.unusedSimpArgs false
set_option maxRecDepth 100000
theorem VY:((Tryz.prog.fieldsOf 23).toList.map (·.type))=[3,3,3,9]:=by kernel_rfl
theorem VZ:Tryz.prog.underlying 23=some (.struct (Tryz.prog.fieldsOf 23)):=by kernel_rfl
theorem Yaf:(Tryz.prog.fieldsOf 23).size=4:=by kernel_rfl
theorem Ye8:oneCellFields Tryz.prog (Tryz.prog.fieldsOf 23)=true:=by kernel_rfl
theorem Xsy:Tryz.prog.cellsOf 23=(Tryz.prog.fieldsOf 23).size:=by kernel_rfl
theorem Xsn:Tryz.prog.bytesOf 23=40:=by kernel_rfl
def Ox {H:Type} (a:Ac) (d:DataW H):Prop:=∃ parts,d=.agg parts∧parts[3]?=some (.lit (.string a.frame))
theorem V0 {H:Type} {P:Program} {e:TypeId} {d:DataW H} {n:Nat}:∀ {es:List (DataW H)},d ∈ es→n ∈ d.weights P e→n ∈ DataW.weightsAll P e es
 | d0::es,hd,hn=>by
  simp only[DataW.weightsAll,List.mem_append]
  rcases List.mem_cons.1 hd with rfl|hd
  ·exact .inl hn
  ·exact .inr (V0 hd hn)
theorem Ox.weight {H:Type} {a:Ac} {d:DataW H} (h:Ox a d):a.frame.length ∈ d.weights Tryz.prog 23:=by
 obtain ⟨parts,rfl,h3⟩:=h
 simp only[DataW.weights,VZ,VY]
 exact DataW.weights_mem_each (j:=3) rfl h3 _ (by simp[DataW.weights])
theorem Xt4 {j:Nat} {f:Field} (h:(Tryz.prog.fieldsOf 23)[j]?=some f):[3,3,3,9][j]?=some f.type:=by
 rw[← VY,List.getElem?_map,Array.getElem?_toList,h];rfl
section
variable {H:Type} {enc:TypeId × Value→H} {w:World} {base:Nat} {spare:Nat→Bool} {held:Bool}
def V1 (d:DataW H) (i j:Nat) (u:Value):Prop:=∃ es sp parts,d=.slice es sp∧es[i]?=some (.agg parts) ∧
 ((j < 3∧∃ z,u=.int .i64 z)∨(j=3∧∃ s:ByteArray,u=.string s∧parts[3]?=some (.lit (.string s.data.toList))))
set_option maxRecDepth 100000 in
theorem yZ {b0:Nat} {v:Value} {d:DataW H} {p:List MemPlace} (eO:Value.okWide Tryz.prog w .any b0 44 v) (h:DataW.Trod enc Tryz.prog w base spare held 44 v d p) :
  ∃ n,(d=.nil∧n=0∨∃ es sp,d=.slice es sp∧es.length=n)∧qF w v n 4 (V1 d):=by
 obtain ⟨A,len,cap,rfl⟩:=okWide_slice Tryz.underlying44 eO
 obtain ⟨fuel,h⟩:=h
 have cd:=Yaf
 rcases Qn5 Tryz.underlying44 VZ Ye8 Xsy h with ⟨h0,h1⟩|⟨a,rga,rha,m,D,Pl,iv,hb,hl,hm,sI,hx,hi⟩
 ·simp[Value.cells]at h0
  obtain ⟨rfl,rfl,rfl⟩:=h0
  exact ⟨0,.inl ⟨(Prod.mk.inj h1).1,rfl⟩,⟨none,0,rfl,Nat.le_refl _,by unfold maxLen;omega,fun h=>by omega⟩⟩
 ·simp[Value.cells]at iv
  obtain ⟨rfl,rfl,rfl⟩:=iv
  refine ⟨len,.inr ⟨_,_,(Prod.mk.inj hx).1,by simp⟩,⟨some a,cap,rfl,hl,hm,fun h0=>?_⟩⟩
  have AM:len≤m:=by rw[sI];split<;>omega
  obtain ⟨ab,ao,V2⟩:=a
  obtain ⟨ys,n',_,_,_,hf⟩:=hi 0 af
  obtain ⟨v0,y0,jw,_,_⟩:=hf 0 _ (Array.getElem?_eq_getElem (by rw[cd];decide))
  have oM:V2=none:=by
   simp only[Nat.zero_mul,Nat.add_zero,Addr.add,if_pos]at jw
   unfold World.cell? at jw
   cases V2 with
   | none=>rfl
   | some s=>revert jw;cases w.heap[ab]? with
    | none=>simp
    | some o=>cases o<;>simp
  subst oM
  refine ⟨ab,ao,rfl,?_,fun i aI j hj=>?_⟩
  ·rcases Nat.lt_or_ge ab w.heap.size with h|h
   ·exact h
   ·simp only[Nat.zero_mul,Nat.add_zero,Addr.add,if_pos]at jw
    unfold World.cell? at jw
    rw[Array.getElem?_eq_none h]at jw
    cases jw
  ·obtain ⟨ys,n',hD,_,vo,hf⟩:=hi i af
   have fB:j < (Tryz.prog.fieldsOf 23).size:=by rw[cd];exact hj
   obtain ⟨u,y,hc,hy,mz⟩:=hf j _ (Array.getElem?_eq_getElem fB)
   rw[Addr.add_mid,cd]at hc
   refine ⟨u,hc,_,_,ys.map (·.1),(Prod.mk.inj hx).1,by simp[aI,hD],?_⟩
   have ht:=Xt4 (Array.getElem?_eq_getElem fB)
   generalize (Tryz.prog.fieldsOf 23)[j]=f at ht mz
   rcases (by omega:j=0∨j=1∨j=2∨j=3) with rfl|rfl|rfl|rfl
   ·have e:f.type=3:=by simpa using ht.symm
    rw[e]at mz
    obtain ⟨z,hz,_⟩:=DataW.trod_int Tryz.underlying3 mz
    exact .inl ⟨by decide,z,by simpa using hz⟩
   ·have e:f.type=3:=by simpa using ht.symm
    rw[e]at mz
    obtain ⟨z,hz,_⟩:=DataW.trod_int Tryz.underlying3 mz
    exact .inl ⟨by decide,z,by simpa using hz⟩
   ·have e:f.type=3:=by simpa using ht.symm
    rw[e]at mz
    obtain ⟨z,hz,_⟩:=DataW.trod_int Tryz.underlying3 mz
    exact .inl ⟨by decide,z,by simpa using hz⟩
   ·have e:f.type=9:=by simpa using ht.symm
    rw[e]at mz
    obtain ⟨s,hz,he,_⟩:=DataW.trod_string Tryz.underlying9 mz
    exact .inr ⟨rfl,s,by simpa using hz,by rw[List.getElem?_map,hy,he];rfl⟩
theorem qF.aF {v:Value} {d:DataW H} {n:Nat} (h:qF w v n 4 (V1 d)) (hn:d=.nil∧n=0∨∃ es sp,d=.slice es sp∧es.length=n) {ts:List TypeId} {ds:List (DataW H)} (cd:(DataW.weightsEach Tryz.prog ts ds).all (·≤reachBytes)=true) {j:Nat} (ht:ts[j]?=some 44) (hd:ds[j]?=some d) :
  ∃ l:List Ac,l.length=n∧mh l∧l.length≤140737488351232∧VR (fun _=>.un) (fun _=>False) w (.isl n (cT l)) v:=by
 obtain ⟨us,hu,hv⟩:=h.isl aR fun i j u ⟨es,sp,parts,_,_,hr⟩=>by
  rcases hr with ⟨_,z,rfl⟩|⟨_,s,rfl,_⟩<;>rfl
 let gi (v:Value):Int:=match v with|.int _ z=>z|_=>0
 let gs (v:Value):List UInt8:=match v with|.string s=>s.data.toList|_=>[]
 let ac (i:Nat):Ac:=⟨gi (us (i * 4 + 0)),gi (us (i * 4 + 1)),gi (us (i * 4 + 2)),gs (us (i * 4 + 3))⟩
 have heq:∀ k,k≤n→(List.range (k * 4)).map (fun m=>fg (us m))=cT ((List.range k).map ac):=fun k=>by
  induction k with
  | zero=>intro _;rfl
  | succ k ih =>
   intro hk
   rw[show (k + 1) * 4=k * 4 + 1 + 1 + 1 + 1 by omega,List.range_succ,List.range_succ,List.range_succ,List.range_succ,List.range_succ]
   simp only[List.map_append,List.map_cons,List.map_nil,List.append_assoc]
   rw[ih af]
   simp only[cT,List.flatMap_append,List.flatMap_cons,List.flatMap_nil,List.append_nil,Ac.enc]
   congr 1
   obtain ⟨_,_,_,_,_,h0⟩:=hu k af 0 aR
   obtain ⟨_,_,_,_,_,h1⟩:=hu k af 1 aR
   obtain ⟨_,_,_,_,_,h2⟩:=hu k af 2 aR
   obtain ⟨_,_,_,_,_,h3⟩:=hu k af 3 aR
   obtain ⟨_,z0,e0⟩:=h0.resolve_right au
   obtain ⟨_,z1,e1⟩:=h1.resolve_right au
   obtain ⟨_,z2,e2⟩:=h2.resolve_right au
   obtain ⟨_,s3,e3,_⟩:=h3.resolve_left au
   have e0:us (k * 4)=_:=e0
   have e2:us (k * 4 + 1 + 1)=_:=e2
   have e3:us (k * 4 + 1 + 1 + 1)=_:=e3
   simp only[ac,gi,gs,e0,e1,e2,e3,fg]
   rw[show us (k * 4 + 0)=_ from e0]
   rfl
 refine ⟨(List.range n).map ac,by simp,fun a ha=>?_,?_,?_⟩
 ·obtain ⟨i,hi,rfl⟩:=List.mem_map.1 ha
  rw[List.mem_range]at hi
  obtain ⟨es,sp,parts,e1,e2,h3⟩:=hu i hi 3 aR
  obtain ⟨_,s3,e3,e4⟩:=h3.resolve_left au
  have hf:(ac i).frame=s3.data.toList:=by simp only[ac,gs,e3]
  have hw:(ac i).frame.length ∈ d.weights Tryz.prog 44:=by
   subst e1
   simp only[DataW.weights,Tryz.underlying44]
   refine List.mem_cons_of_mem _ (List.mem_append_left _ (V0 (List.mem_of_getElem? e2) (Ox.weight ⟨parts,rfl,?_⟩)))
   rw[hf];exact e4
  have:=List.all_eq_true.1 cd _ (DataW.weights_mem_each ht hd _ hw)
  simp only[reachBytes]at this
  exact of_decide_eq_true this
 ·rcases hn with ⟨_,rfl⟩|⟨es,sp,rfl,rfl⟩
  ·simp
  ·have:=sized_slice cd ht hd Tryz.underlying44
   rw[Xsn]at this
   simp only[reachBytes]at this
   simp;omega
 ·rw[heq n (Nat.le_refl n)]at hv
  exact hv
end
end Go.Proofs.YtogckmommodmhaaGreatDoor
namespace Go.Proofs.YtogckmommodmhaaGreatDoor
open Go.RowKit
open Go.RowKit Go.ChangeShapes Go.WideShapes
set_option linter.all false
set_option linter.unusedSimpArgs false
set_option maxRecDepth 100000
theorem PS.law {f:FuncId} {args:List AV} {vs:List Value} {W:World} (h:PS Tryz.prog oy f args (.bool true)) (hg:∀ i,VR (fun _=>.un) (fun _=>False) W (oy i) (.pointer (some ⟨i,0,none⟩))) (hv:bL (fun _=>.un) (fun _=>False) W args vs) :
  Calls Tryz.prog f vs.toArray W fun e W'=>e=.returned (.bool true)∧Below W.heap.size W W' :=
 (h.2 W vs (fun _=>False) (fun _ h=>h.elim) hg hv).mono fun e w' ⟨u,e1,e2,e3⟩=>by
  cases e2
  exact ⟨e1,⟨e3.os,e3.tape,e3.output,e3.size,fun k hk=>e3.eC k hk fun h=>h.elim⟩⟩
end Go.Proofs.YtogckmommodmhaaGreatDoor
namespace Go.Proofs.YtogckmommodmhaaGreatDoor
open Go.RowKit
set_option linter.all false
set_option linter.unusedSimpArgs false
set_option maxRecDepth 100000
def up (h:List (Nat × Bk)):List (Nat × Bk):=h.map fun q=>(q.1 + 70,q.2)
def sU (a:Ac) (r:Rp):Prop:=a.kind=3∧r.code=0
def sV (r:Rp):Prop:=r.code≠0∧r.frame≠[]
instance (a:Ac) (r:Rp):Decidable (sU a r):=by unfold sU;infer_instance
instance (r:Rp):Decidable (sV r):=by unfold sV;infer_instance
end Go.Proofs.YtogckmommodmhaaGreatDoor
