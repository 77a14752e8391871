import Derived.Test.YtogckmommodmhaaGreatDoorZv6
import Derived.Test.YtogckmommodmhaaGreatDoorZv2
import Derived.Deep.Slices
import Derived.Deep.Fields
import Derived.ChangeSame
import Derived.Deep.MidRow
namespace Go.Proofs.YtogckmommodmhaaGreatDoor
open Go.RowKit
set_option linter.all false
set_option linter.unusedSimpArgs false
set_option maxRecDepth 100000
def cD (σ:Nat→Nat) (p:List Nat) (n0 b:Nat):Nat:=bif p.contains b then σ b else n0 + b
theorem Wm {σ:Nat→Nat} {p:List Nat} {n0 b:Nat} (h:b ∈ p):cD σ p n0 b=σ b:=by
 unfold cD;rw[List.contains_iff_mem.2 h];rfl
theorem Wr {σ:Nat→Nat} {p:List Nat} {n0 b:Nat} (h:b ∉ p):cD σ p n0 b=n0 + b:=by
 unfold cD
 cases e:p.contains b with
 | true=>exact absurd (List.contains_iff_mem.1 e) h
 | false=>rfl
theorem Lb {σ:Nat→Nat} {p:List Nat} {m n0:Nat} (bU:∀ b b',b < m→b' < m→σ b=σ b'→b=b') (hlt:∀ b,b < m→σ b < n0) {b b':Nat} (hb:b < m) (bL:b' < m) (e:cD σ p n0 b=cD σ p n0 b'):b=b':=by
 by_cases h1:b ∈ p<;>by_cases h2:b' ∈ p
 ·rw[Wm h1,Wm h2]at e;exact bU _ _ hb bL e
 ·rw[Wm h1,Wr h2]at e;have:=hlt b hb;omega
 ·rw[Wr h1,Wm h2]at e;have:=hlt b' bL;omega
 ·rw[Wr h1,Wr h2]at e;omega
section
variable {P:Program} {c:Cx}
theorem Ybs {σ:Nat→Nat} {n0:Nat} {s s3:FS} {a:Act} {w w':World} {g g1 g2:Nat→GM} {h h':List (Nat × Bk)} {m:Nat} {p:List Nat} (hR:R c g s a w) (bU:∀ b b',b < m→b' < m→σ b=σ b'→b=b') (hlt:∀ b,b < m→σ b < n0) (bq:∀ b,b < m→s.H (n0 + b)=.free)
  (hh:HL h m) (sN:HL h' m) (fit:∀ b,b < m→s.H (σ b)=Xg σ (Qc h m b)) (hp:∀ b ∈ p,b < m)
  (jv:∀ b,b < m→g (σ b)≠.un→g (σ b)=g1 b) (vu:∀ b,b ∈ p→g2 b=g1 b) (bV:R (pH c g s w σ h m) g2 (cV h' m) ⟨#[],[]⟩ w')
  (KT:∀ i,s3.T i=s.T i) (CB:∀ b,b < m→s3.H (cD σ p n0 b)=Xg (cD σ p n0) (Qc h' m b)) (F6:∀ b,b < m→b ∉ p→s3.H (σ b)=.dead) (F7:∀ b,b ∈ p→s3.H (n0 + b)=.dead)
  (xl:∀ j,jM σ m j→(∀ b,b < m→n0 + b≠j)→s3.H j=s.H j) :
  ∃ g3,R c g3 s3 a w'∧∀ {r:AV} {v:Value},Qe m r→VR g2 (Qo (pH c g s w σ h m) g2 (cV h' m)) w' r v→VR g3 (Qo c g3 s3) w' (aE (cD σ p n0) r) v:=by
 have di:∀ b,b < m→(Qc h m b).live:=fun b hb=>by
  obtain ⟨_,q,hq,_,e⟩:=hh.live hb m
  rw[e];exact Xj (hh.mem q hq).2
 have jx:∀ b,b < m→(Qc h' m b).live:=fun b hb=>by
  obtain ⟨_,q,hq,_,e⟩:=sN.live hb m
  rw[e];exact Xj (sN.mem q hq).2
 have ez:∀ b,b < m→(s.H (σ b)).live:=fun b hb=>by rw[fit b hb,zC];exact di b hb
 have named:∀ b,b < m→g (σ b)≠.un:=fun b hb e=>(e ▸ hR.h (σ b)).fU (ez b hb)
 have xq:∀ b,b < m→g2 b≠.un:=fun b hb e=>by
  have:=bV.h b
  rw[e]at this
  exact this.fU (jx b hb)
 have unf:∀ b,b < m→g (n0 + b)=.un:=fun b hb=>by
  have:=hR.h (n0 + b)
  rw[bq b hb]at this
  generalize g (n0 + b)=x at this
  cases this;rfl
 have low:∀ b,(Qc h m b).live→b < m:=fun b hl=>by
  rcases Zs h m b with q|⟨q,hq,rfl,_⟩
  ·rw[q]at hl;split at hl<;>exact hl.elim
  ·exact (hh.mem q hq).1
 let g3:Nat→GM:=fun j=>if n0≤j∧j < n0 + m then g2 (j - n0) else g j
 have R6:∀ b,b < m→g3 (n0 + b)=g2 b:=fun b hb=>by
  show (if n0≤n0 + b∧n0 + b < n0 + m then g2 (n0 + b - n0) else g (n0 + b))=g2 b
  rw[if_pos af,Nat.add_sub_cancel_left]
 have sO:∀ j,(∀ b,b < m→n0 + b≠j)→g3 j=g j:=fun j hj=>by
  show (if _ then _ else _)=_
  rw[if_neg]
  rintro ⟨h1,h2⟩
  exact hj (j - n0) af af
 have gk:∀ j,g j≠.un→g3 j=g j:=fun j hj=>sO j fun b hb e=>hj (e ▸ unf b hb)
 have Lc:∀ b,b < m→∀ b',b' < m→n0 + b'≠σ b:=fun b hb b' bL=>by have:=hlt b hb;omega
 have R7:∀ b,b < m→g3 (σ b)=g (σ b):=fun b hb=>sO _ fun b' bL=>Lc b hb b' bL
 have gm:∀ b,b < m→g3 (cD σ p n0 b)=g2 b:=fun b hb=>by
  by_cases fq:b ∈ p
  ·rw[Wm fq,R7 b hb,vu b fq];exact jv b hb (named b hb)
  ·rw[Wr fq];exact R6 b hb
 have part:∀ j,(∃ b,b < m∧cD σ p n0 b=j)∨(∃ b,b < m∧b ∉ p∧σ b=j)∨(∃ b,b ∈ p∧n0 + b=j)∨(jM σ m j∧∀ b,b < m→n0 + b≠j):=fun j=>by
  by_cases e1:∃ b,b < m∧cD σ p n0 b=j
  ·exact .inl e1
  by_cases e2:∃ b,b < m∧σ b=j
  ·obtain ⟨b,hb,e⟩:=e2
   exact .inr (.inl ⟨b,hb,fun fq=>e1 ⟨b,hb,by rw[Wm fq];exact e⟩,e⟩)
  by_cases e3:∃ b,b < m∧n0 + b=j
  ·obtain ⟨b,hb,e⟩:=e3
   by_cases fq:b ∈ p
   ·exact .inr (.inr (.inl ⟨b,fq,e⟩))
   ·exact (e1 ⟨b,hb,by rw[Wr fq];exact e⟩).elim
  ·exact .inr (.inr (.inr ⟨fun b h1 h2=>e2 ⟨b,h1,h2⟩,fun b h1 h2=>e3 ⟨b,h1,h2⟩⟩))
 have hf:Fr w w' (qz g σ h m):=bV.fr
 have zN:∀ k,qz g σ h m k→Qo c g s k:=fun k ⟨b,h1,h2⟩=>.inr ⟨σ b,ez b (low b h1),h2⟩
 have qD:Fr w w' (Qo c g s):=hf.weak zN
 have sB:∀ j k,jM σ m j→(s.H j).live→g j=.re k→¬ qz g σ h m k:=fun j k h1 h2 h3 ⟨b,q1,q2⟩ =>
  h1 b (low b q1) (hR.inj (σ b) j k (ez b (low b q1)) h2 q2 h3)
 have ga:∀ b k,b < m→g2 b=.re k→w.heap.size≤k∨∃ b0,b0 < m∧g (σ b0)=.re k:=fun b k hb hk=>by
  rcases bV.old b k (jx b hb) hk with h|⟨b0,q1,q2⟩
  ·exact .inl h
  ·exact .inr ⟨b0,low b0 q1,q2⟩
 have cZ:∀ j,(s3.H j).live→(∃ b,b < m∧cD σ p n0 b=j)∨(jM σ m j∧(∀ b,b < m→n0 + b≠j)∧(s.H j).live):=fun j hl=>by
  rcases part j with h|⟨b,hb,fq,rfl⟩|⟨b,fq,rfl⟩|⟨h1,h2⟩
  ·exact .inl h
  ·rw[F6 b hb fq]at hl;exact hl.elim
  ·rw[F7 b fq]at hl;exact hl.elim
  ·rw[xl j h1 h2]at hl;exact .inr ⟨h1,h2,hl⟩
 have nk:∀ k,k < w.heap.size→Qo c g3 s3 k→Qo c g s k:=by
  rintro k hk (h|⟨j,h1,h2⟩)
  ·exact .inl h
  ·rcases cZ j h1 with ⟨b,hb,rfl⟩|⟨hj,fD,hl⟩
   ·rw[gm b hb]at h2
    rcases ga b k hb h2 with h|⟨b0,q1,q2⟩
    ·omega
    ·exact .inr ⟨σ b0,ez b0 q1,q2⟩
   ·rw[sO j fD]at h2;exact .inr ⟨j,hl,h2⟩
 have mA:∀ k,Qo c g3 s3 k→Qo (pH c g s w σ h m) g2 (cV h' m) k:=by
  rintro k (h|⟨j,h1,h2⟩)
  ·refine .inl ⟨.inl h,fun ⟨b,q1,q2⟩=>?_⟩
   obtain ⟨x1,x2⟩:=hR.xs k h
   rcases hR.old (σ b) k (ez b (low b q1)) q2 with h|h
   ·omega
   ·exact x2 h
  ·rcases cZ j h1 with ⟨b,hb,rfl⟩|⟨hj,fD,hl⟩
   ·rw[gm b hb]at h2;exact .inr ⟨b,jx b hb,h2⟩
   ·rw[sO j fD]at h2;exact .inl ⟨.inr ⟨j,hl,h2⟩,sB j k hj hl h2⟩
 have CH:=fun {b b'}=>@Lb σ p m n0 bU hlt b b'
 refine ⟨g3,⟨hR.size,hR.dL,fun i=>?_,fun i=>(hR.gl i).mono qD nk (fun _ _=>rfl),fun j=>?_,fun j j' k h1 h2 e1 e2=>?_,fun j k h1 e1=>?_,hR.fr.trans hf fun k hk ⟨b,q1,q2⟩=>?_,hR.xs,fun q hq=>?_⟩,fun {r v} hn hv=>?_⟩
 ·rw[KT];exact (hR.t i).mono qD nk gk
 ·rcases part j with ⟨b,hb,rfl⟩|⟨b,hb,fq,rfl⟩|⟨b,fq,rfl⟩|⟨hj,fD⟩
  ·rw[gm b hb,CB b hb]
   have dV:=bV.h b
   have e:(cV h' m).H b=Qc h' m b:=rfl
   rw[e]at dV
   obtain ⟨_,q,hq,_,eq⟩:=sN.live hb m
   rw[eq]at dV ⊢
   exact dV.aE (n:=m) gm (sN.mem q hq).2 mA
  ·rw[F6 b hb fq,R7 b hb];exact .dead (named b hb)
  ·rw[F7 b fq,R6 b (hp b fq)];exact .dead (xq b (hp b fq))
  ·rw[sO j fD,xl j hj fD]
   refine (hR.h j).mono qD nk gk fun k hk hl=>hf.eg k ?_ (sB j k hj hl hk)
   exact BR.lt (hk ▸ hR.h j) hl
 ·change g3 j=_ at e1
  change g3 j'=_ at e2
  rcases cZ j h1 with ⟨b,hb,rfl⟩|⟨hj,fD,hl⟩<;>rcases cZ j' h2 with ⟨b',bL,rfl⟩|⟨cU,CI,kR⟩
  ·rw[gm b hb]at e1;rw[gm b' bL]at e2
   rw[bV.inj b b' k (jx b hb) (jx b' bL) e1 e2]
  ·rw[gm b hb]at e1;rw[sO j' CI]at e2
   have hlt:=BR.lt (e2 ▸ hR.h j') kR
   rcases ga b k hb e1 with h|⟨b0,q1,q2⟩
   ·omega
   ·exact (cU b0 q1 (hR.inj (σ b0) j' k (ez b0 q1) kR q2 e2)).elim
  ·rw[gm b' bL]at e2;rw[sO j fD]at e1
   have hlt:=BR.lt (e1 ▸ hR.h j) hl
   rcases ga b' k bL e2 with h|⟨b0,q1,q2⟩
   ·omega
   ·exact (hj b0 q1 (hR.inj (σ b0) j k (ez b0 q1) hl q2 e1)).elim
  ·rw[sO j fD]at e1;rw[sO j' CI]at e2
   exact hR.inj j j' k hl kR e1 e2
 ·change g3 j=_ at e1
  rcases cZ j h1 with ⟨b,hb,rfl⟩|⟨hj,fD,hl⟩
  ·rw[gm b hb]at e1
   rcases ga b k hb e1 with h|⟨b0,q1,q2⟩
   ·have:=hR.fr.size;exact .inl af
   ·exact hR.old (σ b0) k (ez b0 q1) q2
  ·rw[sO j fD]at e1;exact hR.old j k hl e1
 ·rcases hR.old (σ b) k (ez b (low b q1)) q2 with h|h
  ·omega
  ·exact h
 ·obtain ⟨q1,q2⟩:=hR.ib q hq
  refine ⟨?_,q2⟩
  show g3 q.1=_
  rw[gk q.1 (by rw[q1];exact q2),q1]
 ·exact (hv.aE (ρ:=cD σ p n0) (g:=g3) gm hn).mono (Fr.refl _ _) (fun k _=>mA k) (fun _ _=>rfl)
structure oI (gl:Nat→AV) (xs:List TV) (v:Bool) (f:FuncId) (args:List AV) (σ:Nat→Nat) (p:List Nat) (m:Nat) (t:List (Nat × AV)) (ex aI:List (Nat × Bk)) (n:Nat):Prop where
 inj:∀ b b',b < m→b' < m→σ b=σ b'→b=b'
 lt:∀ b,b < m→σ b < n
 hl:HL aI m
 ib:∀ b ∈ p,b < m
 hex:∀ q ∈ ex,jM σ m q.1∧q.1 < n
 eP:Qv none (aG gl (⟨t,ex++Xc σ aI,n⟩:St).fs xs)
 aN:lR v f ((aG gl (⟨t,ex++Xc σ aI,n⟩:St).fs xs).map Qk)=some (f,az σ args)
 nm:ai m args
def gO (σ:Nat→Nat) (m n:Nat):List Nat:=(List.range m).map σ++(List.range m).map fun b=>n + b
theorem ug {σ:Nat→Nat} {m n j:Nat}:j ∈ gO σ m n ↔ (∃ b,b < m∧σ b=j)∨∃ b,b < m∧n + b=j:=by simp[gO]
def Jb (t:List (Nat × AV)) (ex ax:List (Nat × Bk)) (σ:Nat→Nat) (p:List Nat) (m n:Nat) (d:Option Nat) (r:AV):St:=St.bQ ⟨t,ex++Xc (cD σ p n) ax,n + m⟩ d (aE (cD σ p n) r)
theorem Ad {v:Bool} {d:Option Nat} {k:PK} {f:FuncId} {xs:List TV} {args:List AV} {aI ax:List (Nat × Bk)} {σ:Nat→Nat} {m n:Nat} {p:List Nat} {r:AV} {t:List (Nat × AV)} {ex:List (Nat × Bk)} (hq:GQ P c.gl f args aI m p (fun _:Unit=>True) (fun _=>r) (fun _=>ax))
  (ok:oI c.gl xs v f args σ p m t ex aI n) (hk:k=(bif v then .cX else .call f)) (gf:HL ax m) (hr:Qe m r):Ky P c (.pd d k xs none) (⟨t,ex++Xc σ aI,n⟩:St).fs ⟨Xr xs,gO σ m n,d.toList,gO σ m n⟩ (Jb t ex ax σ p m n d r).fs:=by
 intro ops io he
 obtain ⟨bf,bh,hd,ys,aJ,rfl⟩:=Zr he
 have iK:∀ (s2:FS) (g:Nat→GM) (a:Act) (w:World),(∀ i ∈ Xr (ys.map aT),s2.T i=(⟨t,ex++Xc σ aI,n⟩:St).fs.T i)→R c g s2 a w→∃ vs:List Value,(execOp a.eval io).run P w=.ok (.enter f vs.toArray) w∧bO g (Qo c g s2) w (az σ args) vs:=fun s2 g a w hT hR=>by
  have aN:=ok.aN
  have tH:=ok.eP
  cases v with
  | false =>
   subst hk
   obtain ⟨ts,bl⟩:=wV aJ
   have bp:aG c.gl s2 (ys.map aT)=aG c.gl (⟨t,ex++Xc σ aI,n⟩:St).fs (ys.map aT):=Yi fun i hi=>hT i hi
   have hv:=Yn (hR.aG ys) (by rw[bp];exact tH)
   rw[bp]at hv
   simp only[lR,cond_false,Option.some.injEq,Prod.mk.injEq,true_and]at aN
   rw[aN]at hv
   exact ⟨_,wW hq.1 bl a w,hv⟩
  | true =>
   subst hk
   obtain ⟨x,ys,ts,rfl,bl⟩:=Rl aJ
   have bp:aG c.gl s2 ((x::ys).map aT)=aG c.gl (⟨t,ex++Xc σ aI,n⟩:St).fs ((x::ys).map aT):=Yi fun i hi=>hT i hi
   have hv:=Yn (hR.aG (x::ys)) (by rw[bp];exact tH)
   rw[bp]at hv
   simp only[lR,cond_true]at aN
   generalize (aG c.gl (⟨t,ex++Xc σ aI,n⟩:St).fs ((x::ys).map aT)).map Qk=zs at aN hv
   cases zs with
   | nil=>simp[tW]at aN
   | cons z zs =>
    unfold tW at aN
    split at aN
    ·rename_i f' qG r' heq
     simp only[Option.some.injEq,Prod.mk.injEq]at aN
     obtain ⟨rfl,aN⟩:=aN
     simp only[List.cons.injEq]at heq
     obtain ⟨rfl,rfl⟩:=heq
     rw[List.map_cons]at hv
     obtain ⟨h1,h2⟩:=hv
     generalize hx:a.eval x=vx at h1
     cases h1 with
     | cl hs h =>
      refine ⟨_,Rm hq.1 bl a w _ hx,?_⟩
      rw[← aN]
      exact J2 h2 (J3 (xs:=qG) (us:=Array.toList _) (by simpa using hs) fun j hj=>by
       have:=h j hj
       simpa [Array.getD_eq_getD_getElem?,List.getD] using this)
    ·cases aN
 have tX:∀ (y:Option Nat) j,((Jb t ex ax σ p m n y r).fs.H j)=Qc (ex++Xc (cD σ p n) ax) (n + m) j:=fun y j=>by cases y<;>rfl
 have eW:∀ i,(Jb t ex ax σ p m n d r).fs.T i=match d with|some d=>(if d=i then aE (cD σ p n) r else look t i)|none=>look t i:=fun i=>by
  cases d with
  | none=>rfl
  | some d=>show look ((d,_)::t) i=_;rw[Zn]
 have oH:∀ b,b < m→∀ q ∈ ex,q.1≠σ b:=fun b hb q hq e=>(ok.hex q hq).1 b hb e.symm
 have dY:∀ b,∀ q ∈ ex,q.1≠n + b:=fun b q hq=>by have:=(ok.hex q hq).2;omega
 have fit:∀ b,b < m→(⟨t,ex++Xc σ aI,n⟩:St).fs.H (σ b)=Xg σ (Qc aI m b):=fun b hb=>by
  show Qc (ex++Xc σ aI) n (σ b)=_
  rw[Xn (oH b hb)];exact Kb ok.inj hb (fun q hq=>(ok.hl.mem q hq).1) (ok.hl.fN b hb)
 have CH:=fun {b b'}=>@Lb σ p m n ok.inj ok.lt b b'
 have Ae:∀ q ∈ aI,q.1 < m:=fun q hq=>(ok.hl.mem q hq).1
 have F8:∀ q ∈ ax,q.1 < m:=fun q hq=>(gf.mem q hq).1
 have free:∀ b,(⟨t,ex++Xc σ aI,n⟩:St).fs.H (n + b)=.free:=fun b=>by
  show Qc (ex++Xc σ aI) n (n + b)=_
  rw[Xn (dY b),Wv (fun b' bL e=>by have:=ok.lt b' bL;omega) Ae,if_neg af]
 have CB:∀ b,b < m→Qc (ex++Xc (cD σ p n) ax) (n + m) (cD σ p n b)=Xg (cD σ p n) (Qc ax m b):=fun b hb=>by
  rw[Xn]
  ·exact Kb (fun b b' h1 h2 e=>CH h1 h2 e) hb F8 (gf.fN b hb)
  ·by_cases h:b ∈ p
   ·rw[Wm h];exact oH b hb
   ·rw[Wr h];exact dY b
 have F6:∀ b,b < m→b ∉ p→Qc (ex++Xc (cD σ p n) ax) (n + m) (σ b)=.dead:=fun b hb fq=>by
  rw[Xn (oH b hb),Wv (fun b' bL e=>?_) F8,if_pos (by have:=ok.lt b hb;omega)]
  by_cases h:b' ∈ p
  ·rw[Wm h]at e;exact fq (ok.inj _ _ bL hb e ▸ h)
  ·rw[Wr h]at e;have:=ok.lt b hb;omega
 have F7:∀ b,b ∈ p→Qc (ex++Xc (cD σ p n) ax) (n + m) (n + b)=.dead:=fun b fq=>by
  have hb:=ok.ib b fq
  rw[Xn (dY b),Wv (fun b' bL e=>?_) F8,if_pos af]
  by_cases h:b' ∈ p
  ·rw[Wm h]at e;have:=ok.lt b' bL;omega
  ·rw[Wr h]at e;exact h ((by omega:b'=b) ▸ fq)
 have xl:∀ j,jM σ m j→(∀ b,b < m→n + b≠j)→Qc (ex++Xc (cD σ p n) ax) (n + m) j=(⟨t,ex++Xc σ aI,n⟩:St).fs.H j:=fun j h1 h2=>by
  show _=Qc (ex++Xc σ aI) n j
  have ho:jM (cD σ p n) m j:=fun b hb e=>by
   by_cases h:b ∈ p
   ·rw[Wm h]at e;exact h1 b hb e
   ·rw[Wr h]at e;exact h2 b hb e
  have key:∀ l:List (Nat × Bk),Qc (l++Xc (cD σ p n) ax) (n + m) j=Qc (l++Xc σ aI) n j:=fun l=>by
   induction l with
   | nil =>
    rw[List.nil_append,List.nil_append,Wv ho F8,Wv h1 Ae]
    by_cases hj:j < n
    ·rw[if_pos hj,if_pos af]
    ·rw[if_neg hj,if_neg]
     intro fD
     exact h2 (j - n) af af
   | cons q l ih=>obtain ⟨i,x⟩:=q;rw[List.cons_append,List.cons_append,Qd,Qd,ih]
  exact key ex
 have vz:∀ b,b < m→cD σ p n b ∈ gO σ m n:=fun b hb=>by
  by_cases h:b ∈ p
  ·rw[Wm h];exact ug.2 (.inl ⟨b,hb,rfl⟩)
  ·rw[Wr h];exact ug.2 (.inr ⟨b,hb,rfl⟩)
 refine ⟨fun i hi=>?_,fun j hj=>?_,fun s2 hT hH g a w hR K Q' hK=>Zc (Ka bf) ?_⟩
 ·rw[eW]
  cases d with
  | none=>rfl
  | some d=>simp only[Option.toList_some,List.mem_singleton]at hi;simp only;rw[if_neg fun e=>hi e.symm];rfl
 ·rw[tX]
  exact xl j (fun b hb e=>hj (ug.2 (.inl ⟨b,hb,e⟩))) (fun b hb e=>hj (ug.2 (.inr ⟨b,hb,e⟩)))
 ·obtain ⟨vs,dM,hv⟩:=iK s2 g a w hT hR
  have lh:∀ b,b < m→s2.H (σ b)=Xg σ (Qc aI m b):=fun b hb=>by rw[hH _ (ug.2 (.inl ⟨b,hb,rfl⟩))];exact fit b hb
  have xn:Fit σ s2 aI m:=by
   refine ⟨fun q hq=>⟨Ae q hq,(ok.hl.mem q hq).2,?_⟩,fun q hq q' cF e=>ok.inj _ _ (Ae q hq) (Ae q' cF) e⟩
   rw[lh q.1 (Ae q hq),ok.hl.self q hq]
  obtain ⟨g1,jv,sC,sD⟩:=FF hR xn
  have m9:=Cc (g1:=g1) jv sD ok.nm hv
  unfold Oper.wp
  rw[dM]
  rw[Oper.upon_enter]
  refine (hq.2 w _ _ _ g1 sC m9).mono fun e w' ⟨x,v,g2,hQ,e1,e2,e3,e4⟩=>?_
  subst e1
  let s3:FS:=⟨s2.T,fun j=>if j ∈ gO σ m n then Qc (ex++Xc (cD σ p n) ax) (n + m) j else s2.H j⟩
  have xr:∀ j,j ∈ gO σ m n→s3.H j=Qc (ex++Xc (cD σ p n) ax) (n + m) j:=fun j hj=>if_pos hj
  obtain ⟨g3,j8,fA⟩:=Ybs (s3:=s3) (n0:=n) (p:=p) hR ok.inj ok.lt (fun b hb=>by rw[hH _ (ug.2 (.inr ⟨b,hb,rfl⟩))];exact free b) ok.hl gf lh ok.ib jv e3 e2 (fun i=>rfl)
   (fun b hb=>by rw[xr _ (vz b hb)];exact CB b hb) (fun b hb fq=>by rw[xr _ (ug.2 (.inl ⟨b,hb,rfl⟩))];exact F6 b hb fq) (fun b fq=>by rw[xr _ (ug.2 (.inr ⟨b,ok.ib b fq,rfl⟩))];exact F7 b fq)
   (fun j h1 h2=>if_neg fun hj=>by
    rcases ug.1 hj with ⟨b,hb,e⟩|⟨b,hb,e⟩
    ·exact h1 b hb e
    ·exact h2 b hb e)
  have tU:=fA hr e4
  show K (a.put io.dst v) w'
  rw[bh]
  cases d with
  | none =>
   refine hK g3 _ w' ?_
   have:dj s2 (Jb t ex ax σ p m n none r).fs ⟨Xr (ys.map aT),gO σ m n,[],gO σ m n⟩=s3:=by
    refine pG (fun i=>?_) fun j=>?_
    ·show (if i ∈ ([]:List Nat) then (Jb t ex ax σ p m n none r).fs.T i else s2.T i)=s2.T i
     simp
    ·show (if j ∈ gO σ m n then (Jb t ex ax σ p m n none r).fs.H j else s2.H j)=_
     rw[tX]
   show R c _ (dj s2 (Jb t ex ax σ p m n none r).fs ⟨Xr (ys.map aT),gO σ m n,[],gO σ m n⟩) _ _
   rw[this];exact j8
  | some d =>
   refine hK g3 _ w' ?_
   have:dj s2 (Jb t ex ax σ p m n (some d) r).fs ⟨Xr (ys.map aT),gO σ m n,[d],gO σ m n⟩=s3.put d (aE (cD σ p n) r):=by
    refine pG (fun i=>?_) fun j=>?_
    ·show (if i ∈ [d] then (Jb t ex ax σ p m n (some d) r).fs.T i else s2.T i)=_
     rw[FS.dg,eW]
     by_cases h:d=i
     ·subst h;simp
     ·rw[if_neg (by simpa using fun e:i=d=>h e.symm),if_neg h]
    ·show (if j ∈ gO σ m n then (Jb t ex ax σ p m n (some d) r).fs.H j else s2.H j)=_
     rw[tX];rfl
   show R c _ (dj s2 (Jb t ex ax σ p m n (some d) r).fs ⟨Xr (ys.map aT),gO σ m n,[d],gO σ m n⟩) _ _
   rw[this];exact j8.put (by simpa using hd) tU
abbrev GD (P:Program) (gl:Nat→AV) (f:FuncId) (args:List AV) (aI:List (Nat × Bk)) (m:Nat) (p:List Nat) (r:AV) (ax:List (Nat × Bk)):Prop:=GQ P gl f args aI m p (fun _:Unit=>True) (fun _=>r) (fun _=>ax)
theorem Ld {v:Bool} {d:Option Nat} {k:PK} {f:FuncId} {xs:List TV} {args:List AV} {aI ax:List (Nat × Bk)} {σ:Nat→Nat} {m n:Nat} {p:List Nat} {r:AV} {t:List (Nat × AV)} {ex:List (Nat × Bk)} {r0:List bG} {K:St→Prop} (hq:GD P c.gl f args aI m p r ax)
  (ok:oI c.gl xs v f args σ p m t ex aI n) (hk:k=(bif v then .cX else .call f)) (gf:HL ax m) (hr:Qe m r) (h:XP P c r0 K (Jb t ex ax σ p m n d r)):Yh P c (.pd d k xs none) r0 K ⟨t,ex++Xc σ aI,n⟩ :=
 .inl ⟨_,_,Ad hq ok hk gf hr,h⟩
theorem F9 {v:Bool} {d:Option Nat} {k:PK} {f:FuncId} {xs:List TV} {args:List AV} {aI ax:List (Nat × Bk)} {σ:Nat→Nat} {m n:Nat} {p:List Nat} {r:AV} {t:List (Nat × AV)} {ex:List (Nat × Bk)} {anc:List Nat} {fs:List bn} {r0:List bG} {K:St→Prop} (hq:GD P c.gl f args aI m p r ax)
  (ok:oI c.gl xs v f args σ p m t ex aI n) (hk:k=(bif v then .cX else .call f)) (gf:HL ax m) (hr:Qe m r) (h:XD P c anc r0 (⟨Xr xs,gO σ m n,d.toList,gO σ m n⟩::fs) K (Jb t ex ax σ p m n d r)):Zm P c anc (.pd d k xs none) r0 fs K ⟨t,ex++Xc σ aI,n⟩ :=
 ⟨_,_,Ad hq ok hk gf hr,h⟩
end
end Go.Proofs.YtogckmommodmhaaGreatDoor
namespace Go.Proofs.YtogckmommodmhaaGreatDoor
open Go.ChangeShapes Go.WideShapes Go.Deep Go.RowKit
open Go.RowKit
set_option linter.all false
set_option linter.unusedSimpArgs false
set_option maxRecDepth 100000
section
variable {H:Type} {enc:TypeId × Value→H} {P:Program} {w:World} {base:Nat} {spare:Nat→Bool} {held:Bool}
theorem Qmt {t e:TypeId} {fs:Array Field} {fuel:Nat} {cs:List Value} {x:DataW H × List MemPlace} (ht:P.underlying t=some (.slice e)) (he:P.underlying e=some (.struct fs))
  (Le:oneCellFields P fs=true) (hC:P.cellsOf e=fs.size) (h:DataW.trod enc P w base spare held fuel t cs=some x) :
  (cs=[.slice none 0 0]∧x=(.nil,[])) ∨
  ∃ (a:Addr) (len cap m:Nat) (D:Nat→DataW H) (Pl:Nat→List MemPlace),cs=[.slice (some a) len cap]∧base≤a.block∧len≤cap∧cap≤maxLen∧m=(if spare a.block then cap else len) ∧
   x=(.slice ((List.range len).map D) ((List.range (m - len)).map fun j=>D (len + j)),MemPlace.row a (m * fs.size)++(List.range m).flatMap Pl) ∧
   ∀ i,i < m→∃ (ys:List (DataW H × List MemPlace)) (n:Nat),D i=.agg (ys.map (·.1))∧Pl i=ys.flatMap (·.2)∧ys.length=fs.size ∧
    ∀ (j:Nat) (f:Field),fs[j]?=some f→∃ (v:Value) (y:DataW H × List MemPlace),w.cell? (a.add (i * fs.size + j))=some v∧ys[j]?=some y∧DataW.trod enc P w base spare held n f.type [v]=some y:=by
 rcases open_slice ht h with h0|⟨a,len,cap,m,n,D,Pl,iw,hb,hl,hm,CJ,hx,hi⟩
 ·exact .inl h0
 ·refine .inr ⟨a,len,cap,m,D,Pl,iw,hb,hl,hm,CJ,by rw[hC]at hx;exact hx,fun i Lf=>?_⟩
  obtain ⟨cs',hc,mq⟩:=hi i Lf
  rw[hC]at hc
  obtain ⟨ys,n',mr,hy,hlen,vB,hf⟩:=DataW.trod_struct he mq
  obtain ⟨_,aX,Af⟩:=World.cells?_some hc
  simp only[Prod.mk.injEq]at hy
  refine ⟨ys,n',hy.1,hy.2,vB,fun j f hj=>?_⟩
  obtain ⟨ho,hk⟩:=hone_of Le j f hj
  have ln:j < fs.size:=(Array.getElem?_eq_some_iff.1 hj).1
  have eE:=Af j ln
  have hv:cs'[j]?=some (cs'[j]'af):=List.getElem?_eq_getElem af
  have h1:=hf j f hj
  rw[ho,hk]at h1
  have CK:(cs'.drop j).take 1=[cs'[j]'af]:=by
   rw[List.drop_eq_getElem_cons af]
   rfl
  rw[CK]at h1
  have my:ys[j]?=some (ys[j]'af):=List.getElem?_eq_getElem af
  refine ⟨_,_,?_,my,h1.trans my⟩
  rw[← Go.Deep.add_add,eE,hv]
structure qN (w:World) (v:Value) (n sz:Nat) (R:Nat→Nat→Value→Prop):Prop where
 form:∃ A cap,v=.slice A n cap∧n≤cap∧cap≤maxLen∧(0 < n→∃ b o,A=some ⟨b,o,none⟩∧b < w.heap.size∧∀ i,i < n→∀ j,j < sz→∃ u,w.cell? ⟨b,o + (i * sz + j),none⟩=some u∧R i j u)
end
end Go.Proofs.YtogckmommodmhaaGreatDoor
