import Derived.Test.YtogckmommodmhaaGreatDoorZw6
import Derived.Test.YtogckmommodmhaaGreatDoorZw2
import Derived.Deep.Slices
import Derived.Deep.Fields
import Derived.ChangeSame
import Derived.Deep.MidRow
namespace Go.Proofs.YtogckmommodmhaaGreatDoor
open Go.RowKit
set_option linter.all false
set_option linter.unusedSimpArgs false
set_option maxRecDepth 100000
def bU (σ:Nat→Nat) (p:List Nat) (n0 b:Nat):Nat:=bif p.contains b then σ b else n0 + b
theorem Kq {σ:Nat→Nat} {p:List Nat} {n0 b:Nat} (h:b ∈ p):bU σ p n0 b=σ b:=by
 unfold bU;rw[List.contains_iff_mem.2 h];rfl
theorem Jy {σ:Nat→Nat} {p:List Nat} {n0 b:Nat} (h:b ∉ p):bU σ p n0 b=n0 + b:=by
 unfold bU
 cases e:p.contains b with
 | true=>exact absurd (List.contains_iff_mem.1 e) h
 | false=>rfl
theorem Gh {σ:Nat→Nat} {p:List Nat} {m n0:Nat} (bN:∀ b b',b < m→b' < m→σ b=σ b'→b=b') (hlt:∀ b,b < m→σ b < n0) {b b':Nat} (hb:b < m) (bH:b' < m) (e:bU σ p n0 b=bU σ p n0 b'):b=b':=by
 by_cases h1:b ∈ p<;>by_cases h2:b' ∈ p
 ·rw[Kq h1,Kq h2]at e;exact bN _ _ hb bH e
 ·rw[Kq h1,Jy h2]at e;have:=hlt b hb;omega
 ·rw[Jy h1,Kq h2]at e;have:=hlt b' bH;omega
 ·rw[Jy h1,Jy h2]at e;omega
section
variable {P:Program} {c:Cx}
theorem Xyx {σ:Nat→Nat} {n0:Nat} {s s3:FS} {a:Act} {w w':World} {g g1 g2:Nat→GM} {h h':List (Nat × Bk)} {m:Nat} {p:List Nat} (hR:R c g s a w) (bN:∀ b b',b < m→b' < m→σ b=σ b'→b=b') (hlt:∀ b,b < m→σ b < n0) (bq:∀ b,b < m→s.H (n0 + b)=.free)
  (hh:HL h m) (sy:HL h' m) (fit:∀ b,b < m→s.H (σ b)=Qx σ (Qc h m b)) (hp:∀ b ∈ p,b < m)
  (jB:∀ b,b < m→g (σ b)≠.un→g (σ b)=g1 b) (vz:∀ b,b ∈ p→g2 b=g1 b) (bR:R (pE c g s w σ h m) g2 (cW h' m) ⟨#[],[]⟩ w')
  (KZ:∀ i,s3.T i=s.T i) (CQ:∀ b,b < m→s3.H (bU σ p n0 b)=Qx (bU σ p n0) (Qc h' m b)) (Gi:∀ b,b < m→b ∉ p→s3.H (σ b)=.dead) (Gj:∀ b,b ∈ p→s3.H (n0 + b)=.dead)
  (xr:∀ j,jr σ m j→(∀ b,b < m→n0 + b≠j)→s3.H j=s.H j) :
  ∃ g3,R c g3 s3 a w'∧∀ {r:AV} {v:Value},Qf m r→VR g2 (Qn (pE c g s w σ h m) g2 (cW h' m)) w' r v→VR g3 (Qn c g3 s3) w' (aD (bU σ p n0) r) v:=by
 have cR:∀ b,b < m→(Qc h m b).live:=fun b hb=>by
  obtain ⟨_,q,hq,_,e⟩:=hh.live hb m
  rw[e];exact Xc (hh.mem q hq).2
 have jE:∀ b,b < m→(Qc h' m b).live:=fun b hb=>by
  obtain ⟨_,q,hq,_,e⟩:=sy.live hb m
  rw[e];exact Xc (sy.mem q hq).2
 have ez:∀ b,b < m→(s.H (σ b)).live:=fun b hb=>by rw[fit b hb,w5];exact cR b hb
 have named:∀ b,b < m→g (σ b)≠.un:=fun b hb e=>(e ▸ hR.h (σ b)).fW (ez b hb)
 have xx:∀ b,b < m→g2 b≠.un:=fun b hb e=>by
  have:=bR.h b
  rw[e]at this
  exact this.fW (jE b hb)
 have unf:∀ b,b < m→g (n0 + b)=.un:=fun b hb=>by
  have:=hR.h (n0 + b)
  rw[bq b hb]at this
  generalize g (n0 + b)=x at this
  cases this;rfl
 have low:∀ b,(Qc h m b).live→b < m:=fun b hl=>by
  rcases Zn h m b with q|⟨q,hq,rfl,_⟩
  ·rw[q]at hl;split at hl<;>exact hl.elim
  ·exact (hh.mem q hq).1
 let g3:Nat→GM:=fun j=>if n0≤j∧j < n0 + m then g2 (j - n0) else g j
 have Se:∀ b,b < m→g3 (n0 + b)=g2 b:=fun b hb=>by
  show (if n0≤n0 + b∧n0 + b < n0 + m then g2 (n0 + b - n0) else g (n0 + b))=g2 b
  rw[if_pos ae,Nat.add_sub_cancel_left]
 have sA:∀ j,(∀ b,b < m→n0 + b≠j)→g3 j=g j:=fun j hj=>by
  show (if _ then _ else _)=_
  rw[if_neg]
  rintro ⟨h1,h2⟩
  exact hj (j - n0) ae ae
 have gk:∀ j,g j≠.un→g3 j=g j:=fun j hj=>sA j fun b hb e=>hj (e ▸ unf b hb)
 have Lj:∀ b,b < m→∀ b',b' < m→n0 + b'≠σ b:=fun b hb b' bH=>by have:=hlt b hb;omega
 have Sf:∀ b,b < m→g3 (σ b)=g (σ b):=fun b hb=>sA _ fun b' bH=>Lj b hb b' bH
 have gm:∀ b,b < m→g3 (bU σ p n0 b)=g2 b:=fun b hb=>by
  by_cases fo:b ∈ p
  ·rw[Kq fo,Sf b hb,vz b fo];exact jB b hb (named b hb)
  ·rw[Jy fo];exact Se b hb
 have part:∀ j,(∃ b,b < m∧bU σ p n0 b=j)∨(∃ b,b < m∧b ∉ p∧σ b=j)∨(∃ b,b ∈ p∧n0 + b=j)∨(jr σ m j∧∀ b,b < m→n0 + b≠j):=fun j=>by
  by_cases e1:∃ b,b < m∧bU σ p n0 b=j
  ·exact .inl e1
  by_cases e2:∃ b,b < m∧σ b=j
  ·obtain ⟨b,hb,e⟩:=e2
   exact .inr (.inl ⟨b,hb,fun fo=>e1 ⟨b,hb,by rw[Kq fo];exact e⟩,e⟩)
  by_cases e3:∃ b,b < m∧n0 + b=j
  ·obtain ⟨b,hb,e⟩:=e3
   by_cases fo:b ∈ p
   ·exact .inr (.inr (.inl ⟨b,fo,e⟩))
   ·exact (e1 ⟨b,hb,by rw[Jy fo];exact e⟩).elim
  ·exact .inr (.inr (.inr ⟨fun b h1 h2=>e2 ⟨b,h1,h2⟩,fun b h1 h2=>e3 ⟨b,h1,h2⟩⟩))
 have hf:Fr w w' (ql g σ h m):=bR.fr
 have z6:∀ k,ql g σ h m k→Qn c g s k:=fun k ⟨b,h1,h2⟩=>.inr ⟨σ b,ez b (low b h1),h2⟩
 have qo:Fr w w' (Qn c g s):=hf.weak z6
 have si:∀ j k,jr σ m j→(s.H j).live→g j=.re k→¬ ql g σ h m k:=fun j k h1 h2 h3 ⟨b,q1,q2⟩ =>
  h1 b (low b q1) (hR.inj (σ b) j k (ez b (low b q1)) h2 q2 h3)
 have gf:∀ b k,b < m→g2 b=.re k→w.heap.size≤k∨∃ b0,b0 < m∧g (σ b0)=.re k:=fun b k hb hk=>by
  rcases bR.old b k (jE b hb) hk with h|⟨b0,q1,q2⟩
  ·exact .inl h
  ·exact .inr ⟨b0,low b0 q1,q2⟩
 have db:∀ j,(s3.H j).live→(∃ b,b < m∧bU σ p n0 b=j)∨(jr σ m j∧(∀ b,b < m→n0 + b≠j)∧(s.H j).live):=fun j hl=>by
  rcases part j with h|⟨b,hb,fo,rfl⟩|⟨b,fo,rfl⟩|⟨h1,h2⟩
  ·exact .inl h
  ·rw[Gi b hb fo]at hl;exact hl.elim
  ·rw[Gj b fo]at hl;exact hl.elim
  ·rw[xr j h1 h2]at hl;exact .inr ⟨h1,h2,hl⟩
 have nk:∀ k,k < w.heap.size→Qn c g3 s3 k→Qn c g s k:=by
  rintro k hk (h|⟨j,h1,h2⟩)
  ·exact .inl h
  ·rcases db j h1 with ⟨b,hb,rfl⟩|⟨hj,fG,hl⟩
   ·rw[gm b hb]at h2
    rcases gf b k hb h2 with h|⟨b0,q1,q2⟩
    ·omega
    ·exact .inr ⟨σ b0,ez b0 q1,q2⟩
   ·rw[sA j fG]at h2;exact .inr ⟨j,hl,h2⟩
 have mz:∀ k,Qn c g3 s3 k→Qn (pE c g s w σ h m) g2 (cW h' m) k:=by
  rintro k (h|⟨j,h1,h2⟩)
  ·refine .inl ⟨.inl h,fun ⟨b,q1,q2⟩=>?_⟩
   obtain ⟨x1,x2⟩:=hR.xs k h
   rcases hR.old (σ b) k (ez b (low b q1)) q2 with h|h
   ·omega
   ·exact x2 h
  ·rcases db j h1 with ⟨b,hb,rfl⟩|⟨hj,fG,hl⟩
   ·rw[gm b hb]at h2;exact .inr ⟨b,jE b hb,h2⟩
   ·rw[sA j fG]at h2;exact .inl ⟨.inr ⟨j,hl,h2⟩,si j k hj hl h2⟩
 have CZ:=fun {b b'}=>@Gh σ p m n0 bN hlt b b'
 refine ⟨g3,⟨hR.size,hR.dK,fun i=>?_,fun i=>(hR.gl i).mono qo nk (fun _ _=>rfl),fun j=>?_,fun j j' k h1 h2 e1 e2=>?_,fun j k h1 e1=>?_,hR.fr.trans hf fun k hk ⟨b,q1,q2⟩=>?_,hR.xs,fun q hq=>?_⟩,fun {r v} hn hv=>?_⟩
 ·rw[KZ];exact (hR.t i).mono qo nk gk
 ·rcases part j with ⟨b,hb,rfl⟩|⟨b,hb,fo,rfl⟩|⟨b,fo,rfl⟩|⟨hj,fG⟩
  ·rw[gm b hb,CQ b hb]
   have dT:=bR.h b
   have e:(cW h' m).H b=Qc h' m b:=rfl
   rw[e]at dT
   obtain ⟨_,q,hq,_,eq⟩:=sy.live hb m
   rw[eq]at dT ⊢
   exact dT.aD (n:=m) gm (sy.mem q hq).2 mz
  ·rw[Gi b hb fo,Sf b hb];exact .dead (named b hb)
  ·rw[Gj b fo,Se b (hp b fo)];exact .dead (xx b (hp b fo))
  ·rw[sA j fG,xr j hj fG]
   refine (hR.h j).mono qo nk gk fun k hk hl=>hf.fV k ?_ (si j k hj hl hk)
   exact BR.lt (hk ▸ hR.h j) hl
 ·change g3 j=_ at e1
  change g3 j'=_ at e2
  rcases db j h1 with ⟨b,hb,rfl⟩|⟨hj,fG,hl⟩<;>rcases db j' h2 with ⟨b',bH,rfl⟩|⟨cV,C0,kP⟩
  ·rw[gm b hb]at e1;rw[gm b' bH]at e2
   rw[bR.inj b b' k (jE b hb) (jE b' bH) e1 e2]
  ·rw[gm b hb]at e1;rw[sA j' C0]at e2
   have hlt:=BR.lt (e2 ▸ hR.h j') kP
   rcases gf b k hb e1 with h|⟨b0,q1,q2⟩
   ·omega
   ·exact (cV b0 q1 (hR.inj (σ b0) j' k (ez b0 q1) kP q2 e2)).elim
  ·rw[gm b' bH]at e2;rw[sA j fG]at e1
   have hlt:=BR.lt (e1 ▸ hR.h j) hl
   rcases gf b' k bH e2 with h|⟨b0,q1,q2⟩
   ·omega
   ·exact (hj b0 q1 (hR.inj (σ b0) j k (ez b0 q1) hl q2 e1)).elim
  ·rw[sA j fG]at e1;rw[sA j' C0]at e2
   exact hR.inj j j' k hl kP e1 e2
 ·change g3 j=_ at e1
  rcases db j h1 with ⟨b,hb,rfl⟩|⟨hj,fG,hl⟩
  ·rw[gm b hb]at e1
   rcases gf b k hb e1 with h|⟨b0,q1,q2⟩
   ·have:=hR.fr.size;exact .inl ae
   ·exact hR.old (σ b0) k (ez b0 q1) q2
  ·rw[sA j fG]at e1;exact hR.old j k hl e1
 ·rcases hR.old (σ b) k (ez b (low b q1)) q2 with h|h
  ·omega
  ·exact h
 ·obtain ⟨q1,q2⟩:=hR.hU q hq
  refine ⟨?_,q2⟩
  show g3 q.1=_
  rw[gk q.1 (by rw[q1];exact q2),q1]
 ·exact (hv.aD (ρ:=bU σ p n0) (g:=g3) gm hn).mono (Fr.refl _ _) (fun k _=>mz k) (fun _ _=>rfl)
structure mI (gl:Nat→AV) (xs:List TV) (v:Bool) (f:FuncId) (args:List AV) (σ:Nat→Nat) (p:List Nat) (m:Nat) (t:List (Nat × AV)) (ex aG:List (Nat × Bk)) (n:Nat):Prop where
 inj:∀ b b',b < m→b' < m→σ b=σ b'→b=b'
 lt:∀ b,b < m→σ b < n
 hl:HL aG m
 hU:∀ b ∈ p,b < m
 hex:∀ q ∈ ex,jr σ m q.1∧q.1 < n
 eR:Qt none (aF gl (⟨t,ex++Qs σ aG,n⟩:St).fs xs)
 aN:mG v f ((aF gl (⟨t,ex++Qs σ aG,n⟩:St).fs xs).map Qj)=some (f,ay σ args)
 nm:ah m args
def gP (σ:Nat→Nat) (m n:Nat):List Nat:=(List.range m).map σ++(List.range m).map fun b=>n + b
theorem tZ {σ:Nat→Nat} {m n j:Nat}:j ∈ gP σ m n ↔ (∃ b,b < m∧σ b=j)∨∃ b,b < m∧n + b=j:=by simp[gP]
def Zr (t:List (Nat × AV)) (ex aw:List (Nat × Bk)) (σ:Nat→Nat) (p:List Nat) (m n:Nat) (d:Option Nat) (r:AV):St:=St.bD ⟨t,ex++Qs (bU σ p n) aw,n + m⟩ d (aD (bU σ p n) r)
theorem xy {v:Bool} {d:Option Nat} {k:PK} {f:FuncId} {xs:List TV} {args:List AV} {aG aw:List (Nat × Bk)} {σ:Nat→Nat} {m n:Nat} {p:List Nat} {r:AV} {t:List (Nat × AV)} {ex:List (Nat × Bk)} (hq:GQ P c.gl f args aG m p (fun _:Unit=>True) (fun _=>r) (fun _=>aw))
  (ok:mI c.gl xs v f args σ p m t ex aG n) (hk:k=(bif v then .cY else .call f)) (gj:HL aw m) (hr:Qf m r):Kv P c (.pd d k xs none) (⟨t,ex++Qs σ aG,n⟩:St).fs ⟨Xf xs,gP σ m n,d.toList,gP σ m n⟩ (Zr t ex aw σ p m n d r).fs:=by
 intro ops io he
 obtain ⟨bc,bg,hd,ys,aH,rfl⟩:=Zl he
 have iP:∀ (s2:FS) (g:Nat→GM) (a:Act) (w:World),(∀ i ∈ Xf (ys.map aS),s2.T i=(⟨t,ex++Qs σ aG,n⟩:St).fs.T i)→R c g s2 a w→∃ vs:List Value,(execOp a.eval io).run P w=.ok (.enter f vs.toArray) w∧bO g (Qn c g s2) w (ay σ args) vs:=fun s2 g a w hT hR=>by
  have aN:=ok.aN
  have tu:=ok.eR
  cases v with
  | false =>
   subst hk
   obtain ⟨ts,bl⟩:=tC aH
   have bj:aF c.gl s2 (ys.map aS)=aF c.gl (⟨t,ex++Qs σ aG,n⟩:St).fs (ys.map aS):=Xu fun i hi=>hT i hi
   have hv:=Xx (hR.aF ys) (by rw[bj];exact tu)
   rw[bj]at hv
   simp only[mG,cond_false,Option.some.injEq,Prod.mk.injEq,true_and]at aN
   rw[aN]at hv
   exact ⟨_,tD hq.1 bl a w,hv⟩
  | true =>
   subst hk
   obtain ⟨x,ys,ts,rfl,bl⟩:=Rr aH
   have bj:aF c.gl s2 ((x::ys).map aS)=aF c.gl (⟨t,ex++Qs σ aG,n⟩:St).fs ((x::ys).map aS):=Xu fun i hi=>hT i hi
   have hv:=Xx (hR.aF (x::ys)) (by rw[bj];exact tu)
   rw[bj]at hv
   simp only[mG,cond_true]at aN
   generalize (aF c.gl (⟨t,ex++Qs σ aG,n⟩:St).fs ((x::ys).map aS)).map Qj=zs at aN hv
   cases zs with
   | nil=>simp[tP]at aN
   | cons z zs =>
    unfold tP at aN
    split at aN
    ·rename_i f' qt r' heq
     simp only[Option.some.injEq,Prod.mk.injEq]at aN
     obtain ⟨rfl,aN⟩:=aN
     simp only[List.cons.injEq]at heq
     obtain ⟨rfl,rfl⟩:=heq
     rw[List.map_cons]at hv
     obtain ⟨h1,h2⟩:=hv
     generalize hx:a.eval x=vx at h1
     cases h1 with
     | cl hs h =>
      refine ⟨_,Rs hq.1 bl a w _ hx,?_⟩
      rw[← aN]
      exact KC h2 (KD (xs:=qt) (us:=Array.toList _) (by simpa using hs) fun j hj=>by
       have:=h j hj
       simpa [Array.getD_eq_getD_getElem?,List.getD] using this)
    ·cases aN
 have oB:∀ (y:Option Nat) j,((Zr t ex aw σ p m n y r).fs.H j)=Qc (ex++Qs (bU σ p n) aw) (n + m) j:=fun y j=>by cases y<;>rfl
 have eX:∀ i,(Zr t ex aw σ p m n d r).fs.T i=match d with|some d=>(if d=i then aD (bU σ p n) r else look t i)|none=>look t i:=fun i=>by
  cases d with
  | none=>rfl
  | some d=>show look ((d,_)::t) i=_;rw[Yw]
 have oD:∀ b,b < m→∀ q ∈ ex,q.1≠σ b:=fun b hb q hq e=>(ok.hex q hq).1 b hb e.symm
 have dY:∀ b,∀ q ∈ ex,q.1≠n + b:=fun b q hq=>by have:=(ok.hex q hq).2;omega
 have fit:∀ b,b < m→(⟨t,ex++Qs σ aG,n⟩:St).fs.H (σ b)=Qx σ (Qc aG m b):=fun b hb=>by
  show Qc (ex++Qs σ aG) n (σ b)=_
  rw[Qw (oD b hb)];exact Zc ok.inj hb (fun q hq=>(ok.hl.mem q hq).1) (ok.hl.dW b hb)
 have CZ:=fun {b b'}=>@Gh σ p m n ok.inj ok.lt b b'
 have Am:∀ q ∈ aG,q.1 < m:=fun q hq=>(ok.hl.mem q hq).1
 have Gk:∀ q ∈ aw,q.1 < m:=fun q hq=>(gj.mem q hq).1
 have free:∀ b,(⟨t,ex++Qs σ aG,n⟩:St).fs.H (n + b)=.free:=fun b=>by
  show Qc (ex++Qs σ aG) n (n + b)=_
  rw[Qw (dY b),Km (fun b' bH e=>by have:=ok.lt b' bH;omega) Am,if_neg ae]
 have CQ:∀ b,b < m→Qc (ex++Qs (bU σ p n) aw) (n + m) (bU σ p n b)=Qx (bU σ p n) (Qc aw m b):=fun b hb=>by
  rw[Qw]
  ·exact Zc (fun b b' h1 h2 e=>CZ h1 h2 e) hb Gk (gj.dW b hb)
  ·by_cases h:b ∈ p
   ·rw[Kq h];exact oD b hb
   ·rw[Jy h];exact dY b
 have Gi:∀ b,b < m→b ∉ p→Qc (ex++Qs (bU σ p n) aw) (n + m) (σ b)=.dead:=fun b hb fo=>by
  rw[Qw (oD b hb),Km (fun b' bH e=>?_) Gk,if_pos (by have:=ok.lt b hb;omega)]
  by_cases h:b' ∈ p
  ·rw[Kq h]at e;exact fo (ok.inj _ _ bH hb e ▸ h)
  ·rw[Jy h]at e;have:=ok.lt b hb;omega
 have Gj:∀ b,b ∈ p→Qc (ex++Qs (bU σ p n) aw) (n + m) (n + b)=.dead:=fun b fo=>by
  have hb:=ok.hU b fo
  rw[Qw (dY b),Km (fun b' bH e=>?_) Gk,if_pos ae]
  by_cases h:b' ∈ p
  ·rw[Kq h]at e;have:=ok.lt b' bH;omega
  ·rw[Jy h]at e;exact h ((by omega:b'=b) ▸ fo)
 have xr:∀ j,jr σ m j→(∀ b,b < m→n + b≠j)→Qc (ex++Qs (bU σ p n) aw) (n + m) j=(⟨t,ex++Qs σ aG,n⟩:St).fs.H j:=fun j h1 h2=>by
  show _=Qc (ex++Qs σ aG) n j
  have ho:jr (bU σ p n) m j:=fun b hb e=>by
   by_cases h:b ∈ p
   ·rw[Kq h]at e;exact h1 b hb e
   ·rw[Jy h]at e;exact h2 b hb e
  have key:∀ l:List (Nat × Bk),Qc (l++Qs (bU σ p n) aw) (n + m) j=Qc (l++Qs σ aG) n j:=fun l=>by
   induction l with
   | nil =>
    rw[List.nil_append,List.nil_append,Km ho Gk,Km h1 Am]
    by_cases hj:j < n
    ·rw[if_pos hj,if_pos ae]
    ·rw[if_neg hj,if_neg]
     intro fG
     exact h2 (j - n) ae ae
   | cons q l ih=>obtain ⟨i,x⟩:=q;rw[List.cons_append,List.cons_append,Qd,Qd,ih]
  exact key ex
 have vB:∀ b,b < m→bU σ p n b ∈ gP σ m n:=fun b hb=>by
  by_cases h:b ∈ p
  ·rw[Kq h];exact tZ.2 (.inl ⟨b,hb,rfl⟩)
  ·rw[Jy h];exact tZ.2 (.inr ⟨b,hb,rfl⟩)
 refine ⟨fun i hi=>?_,fun j hj=>?_,fun s2 hT hH g a w hR K Q' hK=>Ys (Ka bc) ?_⟩
 ·rw[eX]
  cases d with
  | none=>rfl
  | some d=>simp only[Option.toList_some,List.mem_singleton]at hi;simp only;rw[if_neg fun e=>hi e.symm];rfl
 ·rw[oB]
  exact xr j (fun b hb e=>hj (tZ.2 (.inl ⟨b,hb,e⟩))) (fun b hb e=>hj (tZ.2 (.inr ⟨b,hb,e⟩)))
 ·obtain ⟨vs,dL,hv⟩:=iP s2 g a w hT hR
  have lf:∀ b,b < m→s2.H (σ b)=Qx σ (Qc aG m b):=fun b hb=>by rw[hH _ (tZ.2 (.inl ⟨b,hb,rfl⟩))];exact fit b hb
  have xu:Fit σ s2 aG m:=by
   refine ⟨fun q hq=>⟨Am q hq,(ok.hl.mem q hq).2,?_⟩,fun q hq q' cD e=>ok.inj _ _ (Am q hq) (Am q' cD) e⟩
   rw[lf q.1 (Am q hq),ok.hl.self q hq]
  obtain ⟨g1,jB,sj,sk⟩:=FW hR xu
  have nc:=Cn (g1:=g1) jB sk ok.nm hv
  unfold Oper.wp
  rw[dL]
  rw[Oper.upon_enter]
  refine (hq.2 w _ _ _ g1 sj nc).mono fun e w' ⟨x,v,g2,hQ,e1,e2,e3,e4⟩=>?_
  subst e1
  let s3:FS:=⟨s2.T,fun j=>if j ∈ gP σ m n then Qc (ex++Qs (bU σ p n) aw) (n + m) j else s2.H j⟩
  have xA:∀ j,j ∈ gP σ m n→s3.H j=Qc (ex++Qs (bU σ p n) aw) (n + m) j:=fun j hj=>if_pos hj
  obtain ⟨g3,jD,fD⟩:=Xyx (s3:=s3) (n0:=n) (p:=p) hR ok.inj ok.lt (fun b hb=>by rw[hH _ (tZ.2 (.inr ⟨b,hb,rfl⟩))];exact free b) ok.hl gj lf ok.hU jB e3 e2 (fun i=>rfl)
   (fun b hb=>by rw[xA _ (vB b hb)];exact CQ b hb) (fun b hb fo=>by rw[xA _ (tZ.2 (.inl ⟨b,hb,rfl⟩))];exact Gi b hb fo) (fun b fo=>by rw[xA _ (tZ.2 (.inr ⟨b,ok.hU b fo,rfl⟩))];exact Gj b fo)
   (fun j h1 h2=>if_neg fun hj=>by
    rcases tZ.1 hj with ⟨b,hb,e⟩|⟨b,hb,e⟩
    ·exact h1 b hb e
    ·exact h2 b hb e)
  have tL:=fD hr e4
  show K (a.put io.dst v) w'
  rw[bg]
  cases d with
  | none =>
   refine hK g3 _ w' ?_
   have:dj s2 (Zr t ex aw σ p m n none r).fs ⟨Xf (ys.map aS),gP σ m n,[],gP σ m n⟩=s3:=by
    refine pD (fun i=>?_) fun j=>?_
    ·show (if i ∈ ([]:List Nat) then (Zr t ex aw σ p m n none r).fs.T i else s2.T i)=s2.T i
     simp
    ·show (if j ∈ gP σ m n then (Zr t ex aw σ p m n none r).fs.H j else s2.H j)=_
     rw[oB]
   show R c _ (dj s2 (Zr t ex aw σ p m n none r).fs ⟨Xf (ys.map aS),gP σ m n,[],gP σ m n⟩) _ _
   rw[this];exact jD
  | some d =>
   refine hK g3 _ w' ?_
   have:dj s2 (Zr t ex aw σ p m n (some d) r).fs ⟨Xf (ys.map aS),gP σ m n,[d],gP σ m n⟩=s3.put d (aD (bU σ p n) r):=by
    refine pD (fun i=>?_) fun j=>?_
    ·show (if i ∈ [d] then (Zr t ex aw σ p m n (some d) r).fs.T i else s2.T i)=_
     rw[FS.dh,eX]
     by_cases h:d=i
     ·subst h;simp
     ·rw[if_neg (by simpa using fun e:i=d=>h e.symm),if_neg h]
    ·show (if j ∈ gP σ m n then (Zr t ex aw σ p m n (some d) r).fs.H j else s2.H j)=_
     rw[oB];rfl
   show R c _ (dj s2 (Zr t ex aw σ p m n (some d) r).fs ⟨Xf (ys.map aS),gP σ m n,[d],gP σ m n⟩) _ _
   rw[this];exact jD.put (by simpa using hd) tL
abbrev GD (P:Program) (gl:Nat→AV) (f:FuncId) (args:List AV) (aG:List (Nat × Bk)) (m:Nat) (p:List Nat) (r:AV) (aw:List (Nat × Bk)):Prop:=GQ P gl f args aG m p (fun _:Unit=>True) (fun _=>r) (fun _=>aw)
theorem Lk {v:Bool} {d:Option Nat} {k:PK} {f:FuncId} {xs:List TV} {args:List AV} {aG aw:List (Nat × Bk)} {σ:Nat→Nat} {m n:Nat} {p:List Nat} {r:AV} {t:List (Nat × AV)} {ex:List (Nat × Bk)} {r0:List bG} {K:St→Prop} (hq:GD P c.gl f args aG m p r aw)
  (ok:mI c.gl xs v f args σ p m t ex aG n) (hk:k=(bif v then .cY else .call f)) (gj:HL aw m) (hr:Qf m r) (h:XP P c r0 K (Zr t ex aw σ p m n d r)):Xw P c (.pd d k xs none) r0 K ⟨t,ex++Qs σ aG,n⟩ :=
 .inl ⟨_,_,xy hq ok hk gj hr,h⟩
theorem C2 {v:Bool} {d:Option Nat} {k:PK} {f:FuncId} {xs:List TV} {args:List AV} {aG aw:List (Nat × Bk)} {σ:Nat→Nat} {m n:Nat} {p:List Nat} {r:AV} {t:List (Nat × AV)} {ex:List (Nat × Bk)} {anc:List Nat} {fs:List bp} {r0:List bG} {K:St→Prop} (hq:GD P c.gl f args aG m p r aw)
  (ok:mI c.gl xs v f args σ p m t ex aG n) (hk:k=(bif v then .cY else .call f)) (gj:HL aw m) (hr:Qf m r) (h:XD P c anc r0 (⟨Xf xs,gP σ m n,d.toList,gP σ m n⟩::fs) K (Zr t ex aw σ p m n d r)):Zi P c anc (.pd d k xs none) r0 fs K ⟨t,ex++Qs σ aG,n⟩ :=
 ⟨_,_,xy hq ok hk gj hr,h⟩
end
end Go.Proofs.YtogckmommodmhaaGreatDoor
namespace Go.Proofs.YtogckmommodmhaaGreatDoor
open Go.ChangeShapes Go.WideShapes Go.Deep Go.RowKit
open Go.RowKit
set_option linter.all false
set_option linter.unusedSimpArgs false
set_option maxRecDepth 100000
section
variable {H:Type} {enc:TypeId × Value→H} {P:Program} {w:World} {base:Nat} {spare:Nat→Bool} {held:Bool}
theorem Qn1 {t e:TypeId} {fs:Array Field} {fuel:Nat} {cs:List Value} {x:DataW H × List MemPlace} (ht:P.underlying t=some (.slice e)) (he:P.underlying e=some (.struct fs))
  (Ll:oneCellFields P fs=true) (hC:P.cellsOf e=fs.size) (h:DataW.trod enc P w base spare held fuel t cs=some x) :
  (cs=[.slice none 0 0]∧x=(.nil,[])) ∨
  ∃ (a:Addr) (len cap m:Nat) (D:Nat→DataW H) (Pl:Nat→List MemPlace),cs=[.slice (some a) len cap]∧base≤a.block∧len≤cap∧cap≤maxLen∧m=(if spare a.block then cap else len) ∧
   x=(.slice ((List.range len).map D) ((List.range (m - len)).map fun j=>D (len + j)),MemPlace.row a (m * fs.size)++(List.range m).flatMap Pl) ∧
   ∀ i,i < m→∃ (ys:List (DataW H × List MemPlace)) (n:Nat),D i=.agg (ys.map (·.1))∧Pl i=ys.flatMap (·.2)∧ys.length=fs.size ∧
    ∀ (j:Nat) (f:Field),fs[j]?=some f→∃ (v:Value) (y:DataW H × List MemPlace),w.cell? (a.add (i * fs.size + j))=some v∧ys[j]?=some y∧DataW.trod enc P w base spare held n f.type [v]=some y:=by
 rcases open_slice ht h with h0|⟨a,len,cap,m,n,D,Pl,iw,hb,hl,hm,C3,hx,hi⟩
 ·exact .inl h0
 ·refine .inr ⟨a,len,cap,m,D,Pl,iw,hb,hl,hm,C3,by rw[hC]at hx;exact hx,fun i Lm=>?_⟩
  obtain ⟨cs',hc,ml⟩:=hi i Lm
  rw[hC]at hc
  obtain ⟨ys,n',mo,hy,hlen,vD,hf⟩:=DataW.trod_struct he ml
  obtain ⟨_,aW,Ao⟩:=World.cells?_some hc
  simp only[Prod.mk.injEq]at hy
  refine ⟨ys,n',hy.1,hy.2,vD,fun j f hj=>?_⟩
  obtain ⟨ho,hk⟩:=hone_of Ll j f hj
  have mE:j < fs.size:=(Array.getElem?_eq_some_iff.1 hj).1
  have eD:=Ao j mE
  have hv:cs'[j]?=some (cs'[j]'ae):=List.getElem?_eq_getElem ae
  have h1:=hf j f hj
  rw[ho,hk]at h1
  have C4:(cs'.drop j).take 1=[cs'[j]'ae]:=by
   rw[List.drop_eq_getElem_cons ae]
   rfl
  rw[C4]at h1
  have mw:ys[j]?=some (ys[j]'ae):=List.getElem?_eq_getElem ae
  refine ⟨_,_,?_,mw,h1.trans mw⟩
  rw[← Go.Deep.add_add,eD,hv]
structure qB (w:World) (v:Value) (n sz:Nat) (R:Nat→Nat→Value→Prop):Prop where
 form:∃ A cap,v=.slice A n cap∧n≤cap∧cap≤maxLen∧(0 < n→∃ b o,A=some ⟨b,o,none⟩∧b < w.heap.size∧∀ i,i < n→∀ j,j < sz→∃ u,w.cell? ⟨b,o + (i * sz + j),none⟩=some u∧R i j u)
end
end Go.Proofs.YtogckmommodmhaaGreatDoor
