import Derived.Test.YtogckmommodmhaaGreatDoorZt6
import Derived.Test.YtogckmommodmhaaGreatDoorZt2
import Derived.Deep.Slices
import Derived.Deep.Fields
import Derived.ChangeSame
import Derived.Deep.MidRow
set_option maxHeartbeats 16000000
namespace Go.Proofs.YtogckmommodmhaaGreatDoor
open Go.RowKit
set_option linter.all false
set_option linter.unusedSimpArgs false
set_option maxRecDepth 100000
section
variable {P:Program} {c:Cx} {g:Nat→GM} {a:Act} {w:World}
theorem R.gj {s s':FS} (hR:R c g s a w) (hT:∀ i v,VR g (Qo c g s) w (s.T i) v→VR g (Qo c g s) w (s'.T i) v) (hB:∀ b,BR g (Qo c g s) w (g b) (s.H b)→BR g (Qo c g s) w (g b) (s'.H b)) (hl:∀ b,(s'.H b).live ↔ (s.H b).live):R c g s' a w:=by
 have hW:Qo c g s'=Qo c g s:=by funext i;simp only[Qo,hl]
 refine ⟨hR.size,hR.dI,fun i=>?_,fun i=>?_,fun b=>?_,fun x y k hx hy=>hR.inj x y k ((hl x).1 hx) ((hl y).1 hy),fun x k hx=>hR.old x k ((hl x).1 hx),hR.fr,hR.xs,hR.gX⟩
 ·rw[hW];exact hT i _ (hR.t i)
 ·rw[hW];exact hR.gl i
 ·rw[hW];exact hB b (hR.h b)
theorem R.Db {s:FS} {n:Nat} (hR:R c g s a w) (hf:s.H n=.free):R c (Zf g n .ph) (s.aK n (.cells [])) a w:=by
 have js:g n=.un:=by
  have:=hR.h n
  rw[hf]at this
  generalize g n=m at this
  cases this;rfl
 have bX:∀ {b k},Zf g n .ph b=.re k→b≠n∧g b=.re k:=fun {b k} h=>by
  unfold Zf at h
  split at h
  ·cases h
  ·rename_i hb;exact ⟨hb,h⟩
 have hg:∀ b,g b≠.un→Zf g n .ph b=g b:=zx js
 have hH:∀ b,b≠n→(s.aK n (.cells [])).H b=s.H b:=fun b hb=>by rw[FS.a7,if_neg fun e=>hb e.symm]
 have hW:∀ k,Qo c (Zf g n .ph) (s.aK n (.cells [])) k→Qo c g s k:=by
  rintro k (h|⟨b,h1,h2⟩)
  ·exact .inl h
  ·obtain ⟨hb,h3⟩:=bX h2
   rw[hH b hb]at h1
   exact .inr ⟨b,h1,h3⟩
 have mono:∀ {v u},VR g (Qo c g s) w v u→VR (Zf g n .ph) (Qo c (Zf g n .ph) (s.aK n (.cells []))) w v u:=fun h=>h.mono (Fr.refl _ _) (fun k _=>hW k) hg
 refine ⟨hR.size,hR.dI,fun j=>mono (hR.t j),fun j=>(hR.gl j).mono (Fr.refl _ _) (fun k _=>hW k) (fun _ _=>rfl),fun b=>?_,fun b b' k h1 h2 e1 e2=>?_,fun b k h1 e1=>?_,hR.fr,hR.xs,Fj hR js⟩
 ·by_cases hb:b=n
  ·subst hb
   rw[FS.a7,if_pos rfl]
   unfold Zf;rw[if_pos rfl];exact .ph
  ·rw[hH b hb]
   have:Zf g n .ph b=g b:=by unfold Zf;rw[if_neg hb]
   rw[this]
   exact (hR.h b).mono (Fr.refl _ _) (fun k _=>hW k) hg (fun _ _ _=>rfl)
 ·obtain ⟨b1,g1⟩:=bX e1
  obtain ⟨b2,g2⟩:=bX e2
  rw[hH b b1]at h1
  rw[hH b' b2]at h2
  exact hR.inj b b' k h1 h2 g1 g2
 ·obtain ⟨b1,g1⟩:=bX e1
  rw[hH b b1]at h1
  exact hR.old b k h1 g1
theorem BR.jP {W:Nat→Prop} {m:GM} {cs cs':List AV} (h:BR g W w m (.cells cs)) (hl:cs'.length=cs.length) (hv:∀ j v,j < cs.length→VR g W w (cs.getD j .any) v→VR g W w (cs'.getD j .any) v):BR g W w m (.cells cs'):=by
 cases h with
 | ph =>
  obtain rfl:cs'=[]:=List.eq_nil_of_length_eq_zero hl
  exact .ph
 | cells hb h1 h2 h3 h4=>exact .cells hb af (fun j hj=>h2 j af) (fun j hj=>hv j _ af (h3 j af)) h4
end
theorem To.kU {p:List Nat} {s:St} {b j es:Nat} {cs:List AV} (hb:Qc s.h s.n b=.cells cs) (hj:cs[j]?=some .nils) (hf:s.fs.H s.n=.free) :
  To p s ⟨s.t,(b,.cells (cs.set j (.sl es s.n 0 0 0)))::(s.n,.cells [])::s.h,s.n + 1⟩:=fun c g a w _ hR=>by
 have dO:b≠s.n:=fun e=>by
  have:s.fs.H b=.cells cs:=hb
  rw[e,hf]at this;cases this
 refine ⟨Zf g s.n .ph,?_⟩
 have h1:=hR.Db hf
 have hH:∀ i,(⟨s.t,(b,.cells (cs.set j (.sl es s.n 0 0 0)))::(s.n,.cells [])::s.h,s.n + 1⟩:St).fs.H i=if b=i then .cells (cs.set j (.sl es s.n 0 0 0)) else (s.fs.aK s.n (.cells [])).H i:=fun i=>by
  show Qc ((b,_)::(s.n,_)::s.h) (s.n + 1) i=_
  rw[Qd,FS.a7,Qd]
  split
  ·rfl
  ·split
   ·rfl
   ·rename_i h;exact Kz _ _ _ fun e=>h e.symm
 have dE:(s.fs.aK s.n (.cells [])).H b=.cells cs:=by rw[FS.a7,if_neg fun e=>dO e.symm];exact hb
 refine h1.gj (fun i v h=>h) (fun i h=>?_) fun i=>?_
 ·rw[hH]
  split
  ·rename_i e;subst e
   rw[dE]at h
   refine h.jP au fun k v hk hv=>?_
   by_cases R5:j=k
   ·subst R5
    have e1:cs.getD j .any=.nils:=by simp[List.getD,hj]
    have e2:(cs.set j (.sl es s.n 0 0 0)).getD j .any=.sl es s.n 0 0 0:=by simp[List.getD,List.getElem?_set,hk]
    rw[e1]at hv;rw[e2]
    cases hv
    exact .kr (by unfold Zf;rw[if_pos rfl]) rfl
   ·have:(cs.set j (.sl es s.n 0 0 0)).getD k .any=cs.getD k .any:=by simp[List.getD,List.getElem?_set,R5]
    rw[this];exact hv
  ·exact h
 ·rw[hH]
  split
  ·rename_i e;subst e;rw[dE];exact Iff.rfl
  ·exact Iff.rfl
def Wk (x y:AV):Prop:=∀ (g:Nat→GM) (W:Nat→Prop) (w:World) (v:Value),VR g W w x v→VR g W w y v
theorem Wk.refl (x:AV):Wk x x:=fun _ _ _ _ h=>h
theorem Wk.nils:Wk .nils (.isl 0 []):=fun g W w v h=>by
 cases h
 exact .isl (us:=fun _=>undef) (Nat.le_refl 0) (by simp[maxLen]) (fun j hj=>by simp at hj) fun j hj=>by simp at hj
theorem Wk.cap (es b off n c:Nat):Wk (.sl es b off n c) (.sl es b off n n):=fun g W w v h=>by
 cases h with
 | sl hg hn hc hm hb hs=>exact .sl hg (Nat.le_refl _) af hm hb hs
 | kr hg hc=>exact .kr hg rfl
theorem Wk.Lq {x x' y y':AV} (h:Wk x x') (k:Wk y y'):Wk (.aX [x,y]) (.aX [x',y']):=fun g W w v hv=>by
 obtain ⟨us,rfl,h1,h2⟩:=BY hv
 refine .aX (by simpa using h1) fun j hj=>?_
 have h3:=h2 j (by simpa using hj)
 have hj:j < 2:=by simpa using hj
 obtain rfl|rfl:j=0∨j=1:=by omega
 ·exact h g W w _ (by simpa [List.getD] using h3)
 ·exact k g W w _ (by simpa [List.getD] using h3)
theorem To.R6 {p:List Nat} {s:St} (i:Nat) {y:AV} (h:Wk (look s.t i) y):To p s ⟨(i,y)::s.t,s.h,s.n⟩:=fun c g a w _ hR=>by
 refine ⟨g,hR.gj (fun k v hv=>?_) (fun _ h=>h) fun _=>Iff.rfl⟩
 show VR _ _ _ (look ((i,y)::s.t) k) v
 rw[Zo]
 split
 ·rename_i e;subst e;exact h _ _ _ _ hv
 ·exact hv
theorem To.R7 {p:List Nat} {s:St} {b:Nat} {cs cs':List AV} (hb:Qc s.h s.n b=.cells cs) (hl:cs'.length=cs.length) (hv:∀ j,j < cs.length→Wk (cs.getD j .any) (cs'.getD j .any)):To p s ⟨s.t,(b,.cells cs')::s.h,s.n⟩:=fun c g a w _ hR=>by
 have hH:∀ i,(⟨s.t,(b,.cells cs')::s.h,s.n⟩:St).fs.H i=if b=i then .cells cs' else s.fs.H i:=fun i=>by
  show Qc ((b,_)::s.h) s.n i=_
  rw[Qd];rfl
 refine ⟨g,hR.gj (fun k v hv=>hv) (fun i h=>?_) fun i=>?_⟩
 ·rw[hH];split
  ·rename_i e;subst e
   rw[show s.fs.H b=.cells cs from hb]at h
   exact h.jP hl fun j v hj=>hv j hj _ _ _ _
  ·exact h
 ·rw[hH];split
  ·rename_i e;subst e;rw[show s.fs.H b=.cells cs from hb];exact Iff.rfl
  ·exact Iff.rfl
theorem VR.froze {c:Cx} {g:Nat→GM} {s:FS} {a:Act} {w:World} (hR:R c g s a w) {es b off n k:Nat} {cs:List AV} (hb:s.H b=.cells cs) {u:Value} (h:VR g (Qo c g s) w (.sl es b off n k) u) :
  VR g (Qo c g (s.aK b .dead)) w (.isl n ((cs.drop off).take (n * es))) u:=by
 have dP:=hR.h b
 rw[hb]at dP
 rcases po h with ⟨kk,cap,e,cur,fz,rfl,hg,h1,h2,h3,h4,h5⟩|⟨u5,rfl,hg,rfl,rfl⟩
 ·rw[hg]at dP
  have hx:¬ Qo c g (s.aK b .dead) kk:=by
   rintro (hx|⟨b',h6,h7⟩)
   ·exact QD hR (by rw[hb];trivial) hg hx
   ·rw[FS.a7]at h6
    split at h6
    ·exact h6.elim
    ·rename_i bX
     exact bX (hR.inj b b' kk (by rw[hb];trivial) h6 hg h7)
  cases dP with
  | cells dE hl iH hv hz =>
   rename_i JL e2 fz2
   rw[h4]at dE;cases dE
   have hlen:∀ j,j < ((cs.drop off).take (n * es)).length→off + j < cs.length∧j < n * es:=fun j hj=>by simp at hj;omega
   refine .isl (us:=fun j=>cur.getD (off + j) undef) af h3 (fun j hj=>?_) fun j hj=>?_
   ·obtain ⟨pq,fB⟩:=hlen j hj
    refine ⟨kk,off,rfl,?_,hx,iH _ pq⟩
    have:=cell_of_row w kk (off + j) cur e fz h4
    unfold Ug
    rw[this]
    have:off + j < cur.size:=by omega
    simp[Array.getD,this]
   ·obtain ⟨pq,fB⟩:=hlen j hj
    have ee:((cs.drop off).take (n * es)).getD j .any=cs.getD (off + j) .any:=by simp only[List.getD,List.getElem?_take,List.getElem?_drop,if_pos fB]
    rw[ee]
    exact (hv _ pq).mono (Fr.refl _ _) (fun k _=>Fi k) (fun _ _=>rfl)
 ·refine .isl (us:=fun _=>undef) (Nat.le_refl 0) (by simp[maxLen]) (fun j hj=>?_) fun j hj=>?_
  ·simp at hj
  ·simp at hj
theorem VR.dead {c:Cx} {g:Nat→GM} {s:FS} {w:World} {b:Nat} {x:AV} {u:Value} (h:VR g (Qo c g s) w x u):VR g (Qo c g (s.aK b .dead)) w x u:=h.mono (Fr.refl _ _) (fun k _=>Fi k) (fun _ _=>rfl)
theorem To.vt {p:List Nat} {s:St} {b i:Nat} {v':AV} (hl:(s.fs.H b).live) (hv:∀ (c:Cx) (g:Nat→GM) (a:Act) (w:World),R c g s.fs a w→∀ u,VR g (Qo c g s.fs) w (look s.t i) u→VR g (Qo c g (s.fs.aK b .dead)) w v' u) :
  To p s ⟨(i,v')::s.t,(b,.dead)::s.h,s.n⟩:=fun c g a w _ hR=>by
 have hb:g b≠.un:=fun e=>by
  have:=hR.h b
  rw[e]at this
  exact this.fV hl
 have hk:=hR.kill hb
 have e:(⟨(i,v')::s.t,(b,.dead)::s.h,s.n⟩:St).fs=(s.fs.aK b .dead).put i v':=by
  rw[← St.cK,← St.bS];rfl
 refine ⟨g,?_⟩
 rw[e]
 refine ⟨hk.size,hk.dI,fun j=>?_,hk.gl,hk.h,hk.inj,hk.old,hk.fr,hk.xs,hk.gX⟩
 show VR g _ w (if i=j then v' else s.fs.T j) _
 split
 ·rename_i e;subst e;exact hv c g a w hR _ (hR.t i)
 ·exact hk.t j
theorem To.fC {p:List Nat} {s:St} {b i es off n k:Nat} {cs:List AV} (hb:Qc s.h s.n b=.cells cs) (hi:look s.t i=.sl es b off n k):To p s ⟨(i,.isl n ((cs.drop off).take (n * es)))::s.t,(b,.dead)::s.h,s.n⟩ :=
 To.vt (by rw[show s.fs.H b=.cells cs from hb];trivial) fun c g a w hR u hu=>by
  rw[hi]at hu
  exact VR.froze hR hb hu
theorem To.Lr {p:List Nat} {s:St} {b i es off n k:Nat} {cs:List AV} {y:AV} (hb:Qc s.h s.n b=.cells cs) (hi:look s.t i=.aX [.sl es b off n k,y]):To p s ⟨(i,.aX [.isl n ((cs.drop off).take (n * es)),y])::s.t,(b,.dead)::s.h,s.n⟩ :=
 To.vt (by rw[show s.fs.H b=.cells cs from hb];trivial) fun c g a w hR u hu=>by
  rw[hi]at hu
  obtain ⟨us,rfl,h1,h2⟩:=BY hu
  refine .aX (by simpa using h1) fun j hj=>?_
  have h3:=h2 j (by simpa using hj)
  have hj:j < 2:=by simpa using hj
  obtain rfl|rfl:j=0∨j=1:=by omega
  ·exact VR.froze hR hb (by simpa [List.getD] using h3)
  ·exact VR.dead (by simpa [List.getD] using h3)
def Aw (t:List (Nat × AV)):List (Nat × AV)→Prop
 | []=>True
 | q::r=>look t q.1=q.2∧Aw t r
theorem R8 {t:List (Nat × AV)}:∀ {t':List (Nat × AV)},Aw t t'→∀ i,look t' i=.any∨look t' i=look t i
 | [],_,_=>.inl rfl
 | (j,v)::r,h,i=>by
  rw[Zo]
  split
  ·rename_i e;subst e;exact .inr h.1.symm
  ·exact R8 h.2 i
theorem To.c6 {p:List Nat} {t t':List (Nat × AV)} {h h':List (Nat × Bk)} {n n':Nat} (hs:Aw t t') (hh:∀ b,Qc h' n' b=Qc h n b):To p ⟨t,h,n⟩ ⟨t',h',n'⟩:=fun c g a w _ hR=>by
 refine ⟨g,hR.gj (fun i v hv=>?_) (fun b hb=>?_) fun b=>?_⟩
 ·show VR _ _ _ (look t' i) v
  rcases R8 hs i with e|e
  ·rw[e];exact .any _
  ·rw[e];exact hv
 ·show BR _ _ _ _ (Qc h' n' b)
  rw[hh];exact hb
 ·show (Qc h' n' b).live ↔ (Qc h n b).live
  rw[hh]
theorem Xht (t:List (Nat × AV)):Aw t []=True:=rfl
theorem Xal (t:List (Nat × AV)) (i:Nat) (v:AV) (r:List (Nat × AV)):Aw t ((i,v)::r)=(look t i=v∧Aw t r):=rfl
attribute [go_sem] Xht Xal
theorem Qpd {σ:Type} (p:List Nat) (I:σ→Prop) (cY:σ→St) (μ:σ→Nat) (x:σ) (Q:EX→St→Prop) (s:St):Gs p I cY μ x Q .normal s=∃ y,I y∧To p s (cY y)∧μ y < μ x:=rfl
theorem Qxx {σ:Type} (p:List Nat) (I:σ→Prop) (cY:σ→St) (μ:σ→Nat) (x:σ) (Q:EX→St→Prop) (s:St):Gs p I cY μ x Q .ret s=Q .ret s:=rfl
theorem Qsy {σ:Type} (p:List Nat) (I:σ→Prop) (cY:σ→St) (μ:σ→Nat) (x:σ) (Q:EX→St→Prop) (i:Nat) (s:St):Gs p I cY μ x Q (.exit i) s=Q (.exit i) s:=rfl
theorem Xd9 {ι:Type} (m:Nat) (p:List Nat) (rs:List RS) (Q:ι→Prop) (r:ι→AV) (ax:ι→List (Nat × Bk)) (s:St):Gt m p rs Q r ax .ret s=(Wr s.fs rs∧∃ x,Q x∧To p ⟨[(0,ga s.fs rs)],s.h,s.n⟩ ⟨[(0,r x)],ax x,m⟩):=rfl
theorem Qsn {ι:Type} (m:Nat) (p:List Nat) (rs:List RS) (Q:ι→Prop) (r:ι→AV) (ax:ι→List (Nat × Bk)) (s:St):Gt m p rs Q r ax .normal s=(Wr s.fs rs∧∃ x,Q x∧To p ⟨[(0,ga s.fs rs)],s.h,s.n⟩ ⟨[(0,r x)],ax x,m⟩):=rfl
attribute [go_sem] Qpd Qxx Qsy Xd9 Qsn
theorem GS.wk {P:Program} {gl:Nat→AV} {f:FuncId} {args:List AV} {aI ax:List (Nat × Bk)} {m n:Nat} {r r':AV} (h:GS P gl f args aI m r ax n) (hr:Wk r r'):GS P gl f args aI m r' ax n:=by
 refine ⟨h.1,fun w vs G X g hR hv=>(h.2 w vs G X g hR hv).mono ?_⟩
 rintro e w' ⟨v,g',q1,q2,q3,q4⟩
 exact ⟨v,g',q1,q2,q3,hr _ _ _ _ q4⟩
def cC (σ:Nat→Nat) (p:List Nat) (n0 b:Nat):Nat:=bif p.contains b then σ b else n0 + b
theorem Wm {σ:Nat→Nat} {p:List Nat} {n0 b:Nat} (h:b ∈ p):cC σ p n0 b=σ b:=by
 unfold cC;rw[List.contains_iff_mem.2 h];rfl
theorem Wp {σ:Nat→Nat} {p:List Nat} {n0 b:Nat} (h:b ∉ p):cC σ p n0 b=n0 + b:=by
 unfold cC
 cases e:p.contains b with
 | true=>exact absurd (List.contains_iff_mem.1 e) h
 | false=>rfl
theorem Ls {σ:Nat→Nat} {p:List Nat} {m n0:Nat} (bT:∀ b b',b < m→b' < m→σ b=σ b'→b=b') (hlt:∀ b,b < m→σ b < n0) {b b':Nat} (hb:b < m) (bJ:b' < m) (e:cC σ p n0 b=cC σ p n0 b'):b=b':=by
 by_cases h1:b ∈ p<;>by_cases h2:b' ∈ p
 ·rw[Wm h1,Wm h2]at e;exact bT _ _ hb bJ e
 ·rw[Wm h1,Wp h2]at e;have:=hlt b hb;omega
 ·rw[Wp h1,Wm h2]at e;have:=hlt b' bJ;omega
 ·rw[Wp h1,Wp h2]at e;omega
section
variable {P:Program} {c:Cx}
theorem Xy8 {σ:Nat→Nat} {n0:Nat} {s s3:FS} {a:Act} {w w':World} {g g1 g2:Nat→GM} {h h':List (Nat × Bk)} {m:Nat} {p:List Nat} (hR:R c g s a w) (bT:∀ b b',b < m→b' < m→σ b=σ b'→b=b') (hlt:∀ b,b < m→σ b < n0) (bp:∀ b,b < m→s.H (n0 + b)=.free)
  (hh:HL h m) (sG:HL h' m) (fit:∀ b,b < m→s.H (σ b)=Xg σ (Qc h m b)) (hp:∀ b ∈ p,b < m)
  (jz:∀ b,b < m→g (σ b)≠.un→g (σ b)=g1 b) (vj:∀ b,b ∈ p→g2 b=g1 b) (bV:R (pB c g s w σ h m) g2 (cW h' m) ⟨#[],[]⟩ w')
  (Lg:∀ i,s3.T i=s.T i) (C5:∀ b,b < m→s3.H (cC σ p n0 b)=Xg (cC σ p n0) (Qc h' m b)) (Gw:∀ b,b < m→b ∉ p→s3.H (σ b)=.dead) (Gx:∀ b,b ∈ p→s3.H (n0 + b)=.dead)
  (xF:∀ j,jB σ m j→(∀ b,b < m→n0 + b≠j)→s3.H j=s.H j) :
  ∃ g3,R c g3 s3 a w'∧∀ {r:AV} {v:Value},Qe m r→VR g2 (Qo (pB c g s w σ h m) g2 (cW h' m)) w' r v→VR g3 (Qo c g3 s3) w' (aD (cC σ p n0) r) v:=by
 have dg:∀ b,b < m→(Qc h m b).live:=fun b hb=>by
  obtain ⟨_,q,hq,_,e⟩:=hh.live hb m
  rw[e];exact Xf (hh.mem q hq).2
 have jC:∀ b,b < m→(Qc h' m b).live:=fun b hb=>by
  obtain ⟨_,q,hq,_,e⟩:=sG.live hb m
  rw[e];exact Xf (sG.mem q hq).2
 have ea:∀ b,b < m→(s.H (σ b)).live:=fun b hb=>by rw[fit b hb,zR];exact dg b hb
 have named:∀ b,b < m→g (σ b)≠.un:=fun b hb e=>(e ▸ hR.h (σ b)).fV (ea b hb)
 have xI:∀ b,b < m→g2 b≠.un:=fun b hb e=>by
  have:=bV.h b
  rw[e]at this
  exact this.fV (jC b hb)
 have unf:∀ b,b < m→g (n0 + b)=.un:=fun b hb=>by
  have:=hR.h (n0 + b)
  rw[bp b hb]at this
  generalize g (n0 + b)=x at this
  cases this;rfl
 have low:∀ b,(Qc h m b).live→b < m:=fun b hl=>by
  rcases Zx h m b with q|⟨q,hq,rfl,_⟩
  ·rw[q]at hl;split at hl<;>exact hl.elim
  ·exact (hh.mem q hq).1
 let g3:Nat→GM:=fun j=>if n0≤j∧j < n0 + m then g2 (j - n0) else g j
 have R9:∀ b,b < m→g3 (n0 + b)=g2 b:=fun b hb=>by
  show (if n0≤n0 + b∧n0 + b < n0 + m then g2 (n0 + b - n0) else g (n0 + b))=g2 b
  rw[if_pos af,Nat.add_sub_cancel_left]
 have sH:∀ j,(∀ b,b < m→n0 + b≠j)→g3 j=g j:=fun j hj=>by
  show (if _ then _ else _)=_
  rw[if_neg]
  rintro ⟨h1,h2⟩
  exact hj (j - n0) af af
 have gk:∀ j,g j≠.un→g3 j=g j:=fun j hj=>sH j fun b hb e=>hj (e ▸ unf b hb)
 have Lt:∀ b,b < m→∀ b',b' < m→n0 + b'≠σ b:=fun b hb b' bJ=>by have:=hlt b hb;omega
 have Sa:∀ b,b < m→g3 (σ b)=g (σ b):=fun b hb=>sH _ fun b' bJ=>Lt b hb b' bJ
 have gm:∀ b,b < m→g3 (cC σ p n0 b)=g2 b:=fun b hb=>by
  by_cases fv:b ∈ p
  ·rw[Wm fv,Sa b hb,vj b fv];exact jz b hb (named b hb)
  ·rw[Wp fv];exact R9 b hb
 have part:∀ j,(∃ b,b < m∧cC σ p n0 b=j)∨(∃ b,b < m∧b ∉ p∧σ b=j)∨(∃ b,b ∈ p∧n0 + b=j)∨(jB σ m j∧∀ b,b < m→n0 + b≠j):=fun j=>by
  by_cases e1:∃ b,b < m∧cC σ p n0 b=j
  ·exact .inl e1
  by_cases e2:∃ b,b < m∧σ b=j
  ·obtain ⟨b,hb,e⟩:=e2
   exact .inr (.inl ⟨b,hb,fun fv=>e1 ⟨b,hb,by rw[Wm fv];exact e⟩,e⟩)
  by_cases e3:∃ b,b < m∧n0 + b=j
  ·obtain ⟨b,hb,e⟩:=e3
   by_cases fv:b ∈ p
   ·exact .inr (.inr (.inl ⟨b,fv,e⟩))
   ·exact (e1 ⟨b,hb,by rw[Wp fv];exact e⟩).elim
  ·exact .inr (.inr (.inr ⟨fun b h1 h2=>e2 ⟨b,h1,h2⟩,fun b h1 h2=>e3 ⟨b,h1,h2⟩⟩))
 have hf:Fr w w' (qq g σ h m):=bV.fr
 have Ag:∀ k,qq g σ h m k→Qo c g s k:=fun k ⟨b,h1,h2⟩=>.inr ⟨σ b,ea b (low b h1),h2⟩
 have qw:Fr w w' (Qo c g s):=hf.weak Ag
 have sq:∀ j k,jB σ m j→(s.H j).live→g j=.re k→¬ qq g σ h m k:=fun j k h1 h2 h3 ⟨b,q1,q2⟩ =>
  h1 b (low b q1) (hR.inj (σ b) j k (ea b (low b q1)) h2 q2 h3)
 have gb:∀ b k,b < m→g2 b=.re k→w.heap.size≤k∨∃ b0,b0 < m∧g (σ b0)=.re k:=fun b k hb hk=>by
  rcases bV.old b k (jC b hb) hk with h|⟨b0,q1,q2⟩
  ·exact .inl h
  ·exact .inr ⟨b0,low b0 q1,q2⟩
 have cZ:∀ j,(s3.H j).live→(∃ b,b < m∧cC σ p n0 b=j)∨(jB σ m j∧(∀ b,b < m→n0 + b≠j)∧(s.H j).live):=fun j hl=>by
  rcases part j with h|⟨b,hb,fv,rfl⟩|⟨b,fv,rfl⟩|⟨h1,h2⟩
  ·exact .inl h
  ·rw[Gw b hb fv]at hl;exact hl.elim
  ·rw[Gx b fv]at hl;exact hl.elim
  ·rw[xF j h1 h2]at hl;exact .inr ⟨h1,h2,hl⟩
 have mE:∀ k,k < w.heap.size→Qo c g3 s3 k→Qo c g s k:=by
  rintro k hk (h|⟨j,h1,h2⟩)
  ·exact .inl h
  ·rcases cZ j h1 with ⟨b,hb,rfl⟩|⟨hj,fB,hl⟩
   ·rw[gm b hb]at h2
    rcases gb b k hb h2 with h|⟨b0,q1,q2⟩
    ·omega
    ·exact .inr ⟨σ b0,ea b0 q1,q2⟩
   ·rw[sH j fB]at h2;exact .inr ⟨j,hl,h2⟩
 have lj:∀ k,Qo c g3 s3 k→Qo (pB c g s w σ h m) g2 (cW h' m) k:=by
  rintro k (h|⟨j,h1,h2⟩)
  ·refine .inl ⟨.inl h,fun ⟨b,q1,q2⟩=>?_⟩
   obtain ⟨x1,x2⟩:=hR.xs k h
   rcases hR.old (σ b) k (ea b (low b q1)) q2 with h|h
   ·omega
   ·exact x2 h
  ·rcases cZ j h1 with ⟨b,hb,rfl⟩|⟨hj,fB,hl⟩
   ·rw[gm b hb]at h2;exact .inr ⟨b,jC b hb,h2⟩
   ·rw[sH j fB]at h2;exact .inl ⟨.inr ⟨j,hl,h2⟩,sq j k hj hl h2⟩
 have Dc:=fun {b b'}=>@Ls σ p m n0 bT hlt b b'
 refine ⟨g3,⟨hR.size,hR.dI,fun i=>?_,fun i=>(hR.gl i).mono qw mE (fun _ _=>rfl),fun j=>?_,fun j j' k h1 h2 e1 e2=>?_,fun j k h1 e1=>?_,hR.fr.trans hf fun k hk ⟨b,q1,q2⟩=>?_,hR.xs,fun q hq=>?_⟩,fun {r v} hn hv=>?_⟩
 ·rw[Lg];exact (hR.t i).mono qw mE gk
 ·rcases part j with ⟨b,hb,rfl⟩|⟨b,hb,fv,rfl⟩|⟨b,fv,rfl⟩|⟨hj,fB⟩
  ·rw[gm b hb,C5 b hb]
   have dP:=bV.h b
   have e:(cW h' m).H b=Qc h' m b:=rfl
   rw[e]at dP
   obtain ⟨_,q,hq,_,eq⟩:=sG.live hb m
   rw[eq]at dP ⊢
   exact dP.aD (n:=m) gm (sG.mem q hq).2 lj
  ·rw[Gw b hb fv,Sa b hb];exact .dead (named b hb)
  ·rw[Gx b fv,R9 b (hp b fv)];exact .dead (xI b (hp b fv))
  ·rw[sH j fB,xF j hj fB]
   refine (hR.h j).mono qw mE gk fun k hk hl=>hf.eC k ?_ (sq j k hj hl hk)
   exact BR.lt (hk ▸ hR.h j) hl
 ·change g3 j=_ at e1
  change g3 j'=_ at e2
  rcases cZ j h1 with ⟨b,hb,rfl⟩|⟨hj,fB,hl⟩<;>rcases cZ j' h2 with ⟨b',bJ,rfl⟩|⟨cV,Dd,kW⟩
  ·rw[gm b hb]at e1;rw[gm b' bJ]at e2
   rw[bV.inj b b' k (jC b hb) (jC b' bJ) e1 e2]
  ·rw[gm b hb]at e1;rw[sH j' Dd]at e2
   have hlt:=BR.lt (e2 ▸ hR.h j') kW
   rcases gb b k hb e1 with h|⟨b0,q1,q2⟩
   ·omega
   ·exact (cV b0 q1 (hR.inj (σ b0) j' k (ea b0 q1) kW q2 e2)).elim
  ·rw[gm b' bJ]at e2;rw[sH j fB]at e1
   have hlt:=BR.lt (e1 ▸ hR.h j) hl
   rcases gb b' k bJ e2 with h|⟨b0,q1,q2⟩
   ·omega
   ·exact (hj b0 q1 (hR.inj (σ b0) j k (ea b0 q1) hl q2 e1)).elim
  ·rw[sH j fB]at e1;rw[sH j' Dd]at e2
   exact hR.inj j j' k hl kW e1 e2
 ·change g3 j=_ at e1
  rcases cZ j h1 with ⟨b,hb,rfl⟩|⟨hj,fB,hl⟩
  ·rw[gm b hb]at e1
   rcases gb b k hb e1 with h|⟨b0,q1,q2⟩
   ·have:=hR.fr.size;exact .inl af
   ·exact hR.old (σ b0) k (ea b0 q1) q2
  ·rw[sH j fB]at e1;exact hR.old j k hl e1
 ·rcases hR.old (σ b) k (ea b (low b q1)) q2 with h|h
  ·omega
  ·exact h
 ·obtain ⟨q1,q2⟩:=hR.gX q hq
  refine ⟨?_,q2⟩
  show g3 q.1=_
  rw[gk q.1 (by rw[q1];exact q2),q1]
 ·exact (hv.aD (ρ:=cC σ p n0) (g:=g3) gm hn).mono (Fr.refl _ _) (fun k _=>lj k) (fun _ _=>rfl)
structure oB (gl:Nat→AV) (xs:List TV) (v:Bool) (f:FuncId) (args:List AV) (σ:Nat→Nat) (p:List Nat) (m:Nat) (t:List (Nat × AV)) (ex aI:List (Nat × Bk)) (n:Nat):Prop where
 inj:∀ b b',b < m→b' < m→σ b=σ b'→b=b'
 lt:∀ b,b < m→σ b < n
 hl:HL aI m
 gX:∀ b ∈ p,b < m
 hex:∀ q ∈ ex,jB σ m q.1∧q.1 < n
 eL:Qv none (aG gl (⟨t,ex++Xc σ aI,n⟩:St).fs xs)
 aM:mK v f ((aG gl (⟨t,ex++Xc σ aI,n⟩:St).fs xs).map Qk)=some (f,ay σ args)
 nm:ai m args
def ib (σ:Nat→Nat) (m n:Nat):List Nat:=(List.range m).map σ++(List.range m).map fun b=>n + b
theorem tT {σ:Nat→Nat} {m n j:Nat}:j ∈ ib σ m n ↔ (∃ b,b < m∧σ b=j)∨∃ b,b < m∧n + b=j:=by simp[ib]
def Zq (t:List (Nat × AV)) (ex ax:List (Nat × Bk)) (σ:Nat→Nat) (p:List Nat) (m n:Nat) (d:Option Nat) (r:AV):St:=St.bQ ⟨t,ex++Xc (cC σ p n) ax,n + m⟩ d (aD (cC σ p n) r)
theorem De {v:Bool} {d:Option Nat} {k:PK} {f:FuncId} {xs:List TV} {args:List AV} {aI ax:List (Nat × Bk)} {σ:Nat→Nat} {m n:Nat} {p:List Nat} {r:AV} {t:List (Nat × AV)} {ex:List (Nat × Bk)} (hq:GQ P c.gl f args aI m p (fun _:Unit=>True) (fun _=>r) (fun _=>ax))
  (ok:oB c.gl xs v f args σ p m t ex aI n) (hk:k=(bif v then .cu else .call f)) (gg:HL ax m) (hr:Qe m r):Ky P c (.pd d k xs none) (⟨t,ex++Xc σ aI,n⟩:St).fs ⟨Xp xs,ib σ m n,d.toList,ib σ m n⟩ (Zq t ex ax σ p m n d r).fs:=by
 intro ops io he
 obtain ⟨bm,bc,hd,ys,aJ,rfl⟩:=Zt he
 have iM:∀ (s2:FS) (g:Nat→GM) (a:Act) (w:World),(∀ i ∈ Xp (ys.map aT),s2.T i=(⟨t,ex++Xc σ aI,n⟩:St).fs.T i)→R c g s2 a w→∃ vs:List Value,(execOp a.eval io).run P w=.ok (.enter f vs.toArray) w∧bL g (Qo c g s2) w (ay σ args) vs:=fun s2 g a w hT hR=>by
  have aM:=ok.aM
  have tv:=ok.eL
  cases v with
  | false =>
   subst hk
   obtain ⟨ts,bh⟩:=xd aJ
   have bn:aG c.gl s2 (ys.map aT)=aG c.gl (⟨t,ex++Xc σ aI,n⟩:St).fs (ys.map aT):=Yj fun i hi=>hT i hi
   have hv:=Yp (hR.aG ys) (by rw[bn];exact tv)
   rw[bn]at hv
   simp only[mK,cond_false,Option.some.injEq,Prod.mk.injEq,true_and]at aM
   rw[aM]at hv
   exact ⟨_,xe hq.1 bh a w,hv⟩
  | true =>
   subst hk
   obtain ⟨x,ys,ts,rfl,bh⟩:=KI aJ
   have bn:aG c.gl s2 ((x::ys).map aT)=aG c.gl (⟨t,ex++Xc σ aI,n⟩:St).fs ((x::ys).map aT):=Yj fun i hi=>hT i hi
   have hv:=Yp (hR.aG (x::ys)) (by rw[bn];exact tv)
   rw[bn]at hv
   simp only[mK,cond_true]at aM
   generalize (aG c.gl (⟨t,ex++Xc σ aI,n⟩:St).fs ((x::ys).map aT)).map Qk=zs at aM hv
   cases zs with
   | nil=>simp[tL]at aM
   | cons z zs =>
    unfold tL at aM
    split at aM
    ·rename_i f' qz r' heq
     simp only[Option.some.injEq,Prod.mk.injEq]at aM
     obtain ⟨rfl,aM⟩:=aM
     simp only[List.cons.injEq]at heq
     obtain ⟨rfl,rfl⟩:=heq
     rw[List.map_cons]at hv
     obtain ⟨h1,h2⟩:=hv
     generalize hx:a.eval x=vx at h1
     cases h1 with
     | cl hs h =>
      refine ⟨_,KJ hq.1 bh a w _ hx,?_⟩
      rw[← aM]
      exact Ge h2 (Gf (xs:=qz) (us:=Array.toList _) (by simpa using hs) fun j hj=>by
       have:=h j hj
       simpa [Array.getD_eq_getD_getElem?,List.getD] using this)
    ·cases aM
 have tM:∀ (y:Option Nat) j,((Zq t ex ax σ p m n y r).fs.H j)=Qc (ex++Xc (cC σ p n) ax) (n + m) j:=fun y j=>by cases y<;>rfl
 have eU:∀ i,(Zq t ex ax σ p m n d r).fs.T i=match d with|some d=>(if d=i then aD (cC σ p n) r else look t i)|none=>look t i:=fun i=>by
  cases d with
  | none=>rfl
  | some d=>show look ((d,_)::t) i=_;rw[Zo]
 have oA:∀ b,b < m→∀ q ∈ ex,q.1≠σ b:=fun b hb q hq e=>(ok.hex q hq).1 b hb e.symm
 have dS:∀ b,∀ q ∈ ex,q.1≠n + b:=fun b q hq=>by have:=(ok.hex q hq).2;omega
 have fit:∀ b,b < m→(⟨t,ex++Xc σ aI,n⟩:St).fs.H (σ b)=Xg σ (Qc aI m b):=fun b hb=>by
  show Qc (ex++Xc σ aI) n (σ b)=_
  rw[Xm (oA b hb)];exact Kk ok.inj hb (fun q hq=>(ok.hl.mem q hq).1) (ok.hl.fN b hb)
 have Dc:=fun {b b'}=>@Ls σ p m n ok.inj ok.lt b b'
 have Ax:∀ q ∈ aI,q.1 < m:=fun q hq=>(ok.hl.mem q hq).1
 have Gy:∀ q ∈ ax,q.1 < m:=fun q hq=>(gg.mem q hq).1
 have free:∀ b,(⟨t,ex++Xc σ aI,n⟩:St).fs.H (n + b)=.free:=fun b=>by
  show Qc (ex++Xc σ aI) n (n + b)=_
  rw[Xm (dS b),Ww (fun b' bJ e=>by have:=ok.lt b' bJ;omega) Ax,if_neg af]
 have C5:∀ b,b < m→Qc (ex++Xc (cC σ p n) ax) (n + m) (cC σ p n b)=Xg (cC σ p n) (Qc ax m b):=fun b hb=>by
  rw[Xm]
  ·exact Kk (fun b b' h1 h2 e=>Dc h1 h2 e) hb Gy (gg.fN b hb)
  ·by_cases h:b ∈ p
   ·rw[Wm h];exact oA b hb
   ·rw[Wp h];exact dS b
 have Gw:∀ b,b < m→b ∉ p→Qc (ex++Xc (cC σ p n) ax) (n + m) (σ b)=.dead:=fun b hb fv=>by
  rw[Xm (oA b hb),Ww (fun b' bJ e=>?_) Gy,if_pos (by have:=ok.lt b hb;omega)]
  by_cases h:b' ∈ p
  ·rw[Wm h]at e;exact fv (ok.inj _ _ bJ hb e ▸ h)
  ·rw[Wp h]at e;have:=ok.lt b hb;omega
 have Gx:∀ b,b ∈ p→Qc (ex++Xc (cC σ p n) ax) (n + m) (n + b)=.dead:=fun b fv=>by
  have hb:=ok.gX b fv
  rw[Xm (dS b),Ww (fun b' bJ e=>?_) Gy,if_pos af]
  by_cases h:b' ∈ p
  ·rw[Wm h]at e;have:=ok.lt b' bJ;omega
  ·rw[Wp h]at e;exact h ((by omega:b'=b) ▸ fv)
 have xF:∀ j,jB σ m j→(∀ b,b < m→n + b≠j)→Qc (ex++Xc (cC σ p n) ax) (n + m) j=(⟨t,ex++Xc σ aI,n⟩:St).fs.H j:=fun j h1 h2=>by
  show _=Qc (ex++Xc σ aI) n j
  have ho:jB (cC σ p n) m j:=fun b hb e=>by
   by_cases h:b ∈ p
   ·rw[Wm h]at e;exact h1 b hb e
   ·rw[Wp h]at e;exact h2 b hb e
  have key:∀ l:List (Nat × Bk),Qc (l++Xc (cC σ p n) ax) (n + m) j=Qc (l++Xc σ aI) n j:=fun l=>by
   induction l with
   | nil =>
    rw[List.nil_append,List.nil_append,Ww ho Gy,Ww h1 Ax]
    by_cases hj:j < n
    ·rw[if_pos hj,if_pos af]
    ·rw[if_neg hj,if_neg]
     intro fB
     exact h2 (j - n) af af
   | cons q l ih=>obtain ⟨i,x⟩:=q;rw[List.cons_append,List.cons_append,Qd,Qd,ih]
  exact key ex
 have su:∀ b,b < m→cC σ p n b ∈ ib σ m n:=fun b hb=>by
  by_cases h:b ∈ p
  ·rw[Wm h];exact tT.2 (.inl ⟨b,hb,rfl⟩)
  ·rw[Wp h];exact tT.2 (.inr ⟨b,hb,rfl⟩)
 refine ⟨fun i hi=>?_,fun j hj=>?_,fun s2 hT hH g a w hR K Q' hK=>Yz (Jz bm) ?_⟩
 ·rw[eU]
  cases d with
  | none=>rfl
  | some d=>simp only[Option.toList_some,List.mem_singleton]at hi;simp only;rw[if_neg fun e=>hi e.symm];rfl
 ·rw[tM]
  exact xF j (fun b hb e=>hj (tT.2 (.inl ⟨b,hb,e⟩))) (fun b hb e=>hj (tT.2 (.inr ⟨b,hb,e⟩)))
 ·obtain ⟨vs,dJ,hv⟩:=iM s2 g a w hT hR
  have lq:∀ b,b < m→s2.H (σ b)=Xg σ (Qc aI m b):=fun b hb=>by rw[hH _ (tT.2 (.inl ⟨b,hb,rfl⟩))];exact fit b hb
  have xH:Fit σ s2 aI m:=by
   refine ⟨fun q hq=>⟨Ax q hq,(ok.hl.mem q hq).2,?_⟩,fun q hq q' cF e=>ok.inj _ _ (Ax q hq) (Ax q' cF) e⟩
   rw[lq q.1 (Ax q hq),ok.hl.self q hq]
  obtain ⟨g1,jz,sr,ss⟩:=F8 hR xH
  have nc:=CG (g1:=g1) jz ss ok.nm hv
  unfold Oper.wp
  rw[dJ]
  rw[Oper.upon_enter]
  refine (hq.2 w _ _ _ g1 sr nc).mono fun e w' ⟨x,v,g2,hQ,e1,e2,e3,e4⟩=>?_
  subst e1
  let s3:FS:=⟨s2.T,fun j=>if j ∈ ib σ m n then Qc (ex++Xc (cC σ p n) ax) (n + m) j else s2.H j⟩
  have xJ:∀ j,j ∈ ib σ m n→s3.H j=Qc (ex++Xc (cC σ p n) ax) (n + m) j:=fun j hj=>if_pos hj
  obtain ⟨g3,j9,eO⟩:=Xy8 (s3:=s3) (n0:=n) (p:=p) hR ok.inj ok.lt (fun b hb=>by rw[hH _ (tT.2 (.inr ⟨b,hb,rfl⟩))];exact free b) ok.hl gg lq ok.gX jz e3 e2 (fun i=>rfl)
   (fun b hb=>by rw[xJ _ (su b hb)];exact C5 b hb) (fun b hb fv=>by rw[xJ _ (tT.2 (.inl ⟨b,hb,rfl⟩))];exact Gw b hb fv) (fun b fv=>by rw[xJ _ (tT.2 (.inr ⟨b,ok.gX b fv,rfl⟩))];exact Gx b fv)
   (fun j h1 h2=>if_neg fun hj=>by
    rcases tT.1 hj with ⟨b,hb,e⟩|⟨b,hb,e⟩
    ·exact h1 b hb e
    ·exact h2 b hb e)
  have tK:=eO hr e4
  show K (a.put io.dst v) w'
  rw[bc]
  cases d with
  | none =>
   refine hK g3 _ w' ?_
   have:dh s2 (Zq t ex ax σ p m n none r).fs ⟨Xp (ys.map aT),ib σ m n,[],ib σ m n⟩=s3:=by
    refine pA (fun i=>?_) fun j=>?_
    ·show (if i ∈ ([]:List Nat) then (Zq t ex ax σ p m n none r).fs.T i else s2.T i)=s2.T i
     simp
    ·show (if j ∈ ib σ m n then (Zq t ex ax σ p m n none r).fs.H j else s2.H j)=_
     rw[tM]
   show R c _ (dh s2 (Zq t ex ax σ p m n none r).fs ⟨Xp (ys.map aT),ib σ m n,[],ib σ m n⟩) _ _
   rw[this];exact j9
  | some d =>
   refine hK g3 _ w' ?_
   have:dh s2 (Zq t ex ax σ p m n (some d) r).fs ⟨Xp (ys.map aT),ib σ m n,[d],ib σ m n⟩=s3.put d (aD (cC σ p n) r):=by
    refine pA (fun i=>?_) fun j=>?_
    ·show (if i ∈ [d] then (Zq t ex ax σ p m n (some d) r).fs.T i else s2.T i)=_
     rw[FS.de,eU]
     by_cases h:d=i
     ·subst h;simp
     ·rw[if_neg (by simpa using fun e:i=d=>h e.symm),if_neg h]
    ·show (if j ∈ ib σ m n then (Zq t ex ax σ p m n (some d) r).fs.H j else s2.H j)=_
     rw[tM];rfl
   show R c _ (dh s2 (Zq t ex ax σ p m n (some d) r).fs ⟨Xp (ys.map aT),ib σ m n,[d],ib σ m n⟩) _ _
   rw[this];exact j9.put (by simpa using hd) tK
abbrev GD (P:Program) (gl:Nat→AV) (f:FuncId) (args:List AV) (aI:List (Nat × Bk)) (m:Nat) (p:List Nat) (r:AV) (ax:List (Nat × Bk)):Prop:=GQ P gl f args aI m p (fun _:Unit=>True) (fun _=>r) (fun _=>ax)
theorem Lu {v:Bool} {d:Option Nat} {k:PK} {f:FuncId} {xs:List TV} {args:List AV} {aI ax:List (Nat × Bk)} {σ:Nat→Nat} {m n:Nat} {p:List Nat} {r:AV} {t:List (Nat × AV)} {ex:List (Nat × Bk)} {r0:List bF} {K:St→Prop} (hq:GD P c.gl f args aI m p r ax)
  (ok:oB c.gl xs v f args σ p m t ex aI n) (hk:k=(bif v then .cu else .call f)) (gg:HL ax m) (hr:Qe m r) (h:XP P c r0 K (Zq t ex ax σ p m n d r)):Yl P c (.pd d k xs none) r0 K ⟨t,ex++Xc σ aI,n⟩ :=
 .inl ⟨_,_,De hq ok hk gg hr,h⟩
theorem Df {v:Bool} {d:Option Nat} {k:PK} {f:FuncId} {xs:List TV} {args:List AV} {aI ax:List (Nat × Bk)} {σ:Nat→Nat} {m n:Nat} {p:List Nat} {r:AV} {t:List (Nat × AV)} {ex:List (Nat × Bk)} {anc:List Nat} {fs:List bq} {r0:List bF} {K:St→Prop} (hq:GD P c.gl f args aI m p r ax)
  (ok:oB c.gl xs v f args σ p m t ex aI n) (hk:k=(bif v then .cu else .call f)) (gg:HL ax m) (hr:Qe m r) (h:XD P c anc r0 (⟨Xp xs,ib σ m n,d.toList,ib σ m n⟩::fs) K (Zq t ex ax σ p m n d r)):Zr P c anc (.pd d k xs none) r0 fs K ⟨t,ex++Xc σ aI,n⟩ :=
 ⟨_,_,De hq ok hk gg hr,h⟩
end
end Go.Proofs.YtogckmommodmhaaGreatDoor
namespace Go.Proofs.YtogckmommodmhaaGreatDoor
open Go.ChangeShapes Go.WideShapes Go.Deep Go.RowKit
open Go.RowKit
set_option linter.all false
set_option linter.unusedSimpArgs false
set_option maxRecDepth 100000
section
variable {H:Type} {enc:TypeId × Value→H} {P:Program} {w:World} {base:Nat} {spare:Nat→Bool} {held:Bool}
theorem Qn5 {t e:TypeId} {fs:Array Field} {fuel:Nat} {cs:List Value} {x:DataW H × List MemPlace} (ht:P.underlying t=some (.slice e)) (he:P.underlying e=some (.struct fs))
  (Lv:oneCellFields P fs=true) (hC:P.cellsOf e=fs.size) (h:DataW.trod enc P w base spare held fuel t cs=some x) :
  (cs=[.slice none 0 0]∧x=(.nil,[])) ∨
  ∃ (a:Addr) (len cap m:Nat) (D:Nat→DataW H) (Pl:Nat→List MemPlace),cs=[.slice (some a) len cap]∧base≤a.block∧len≤cap∧cap≤maxLen∧m=(if spare a.block then cap else len) ∧
   x=(.slice ((List.range len).map D) ((List.range (m - len)).map fun j=>D (len + j)),MemPlace.row a (m * fs.size)++(List.range m).flatMap Pl) ∧
   ∀ i,i < m→∃ (ys:List (DataW H × List MemPlace)) (n:Nat),D i=.agg (ys.map (·.1))∧Pl i=ys.flatMap (·.2)∧ys.length=fs.size ∧
    ∀ (j:Nat) (f:Field),fs[j]?=some f→∃ (v:Value) (y:DataW H × List MemPlace),w.cell? (a.add (i * fs.size + j))=some v∧ys[j]?=some y∧DataW.trod enc P w base spare held n f.type [v]=some y:=by
 rcases open_slice ht h with h0|⟨a,len,cap,m,n,D,Pl,iv,hb,hl,hm,sI,hx,hi⟩
 ·exact .inl h0
 ·refine .inr ⟨a,len,cap,m,D,Pl,iv,hb,hl,hm,sI,by rw[hC]at hx;exact hx,fun i Lw=>?_⟩
  obtain ⟨cs',hc,mz⟩:=hi i Lw
  rw[hC]at hc
  obtain ⟨ys,n',mA,hy,hlen,vo,hf⟩:=DataW.trod_struct he mz
  obtain ⟨_,aV,vu⟩:=World.cells?_some hc
  simp only[Prod.mk.injEq]at hy
  refine ⟨ys,n',hy.1,hy.2,vo,fun j f hj=>?_⟩
  obtain ⟨ho,hk⟩:=hone_of Lv j f hj
  have mI:j < fs.size:=(Array.getElem?_eq_some_iff.1 hj).1
  have ep:=vu j mI
  have hv:cs'[j]?=some (cs'[j]'af):=List.getElem?_eq_getElem af
  have h1:=hf j f hj
  rw[ho,hk]at h1
  have Dh:(cs'.drop j).take 1=[cs'[j]'af]:=by
   rw[List.drop_eq_getElem_cons af]
   rfl
  rw[Dh]at h1
  have mC:ys[j]?=some (ys[j]'af):=List.getElem?_eq_getElem af
  refine ⟨_,_,?_,mC,h1.trans mC⟩
  rw[← Go.Deep.add_add,ep,hv]
structure qF (w:World) (v:Value) (n sz:Nat) (R:Nat→Nat→Value→Prop):Prop where
 form:∃ A cap,v=.slice A n cap∧n≤cap∧cap≤maxLen∧(0 < n→∃ b o,A=some ⟨b,o,none⟩∧b < w.heap.size∧∀ i,i < n→∀ j,j < sz→∃ u,w.cell? ⟨b,o + (i * sz + j),none⟩=some u∧R i j u)
end
end Go.Proofs.YtogckmommodmhaaGreatDoor
