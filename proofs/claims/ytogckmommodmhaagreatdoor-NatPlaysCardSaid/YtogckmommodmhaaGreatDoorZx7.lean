import Derived.Test.YtogckmommodmhaaGreatDoorZx6
import Derived.Deep.Fields
import Derived.Deep.MidRow
namespace Go.Proofs.YtogckmommodmhaaGreatDoor
open Go.RowKit
set_option linter.all false
set_option maxRecDepth 100000
variable {c:Cx}{σ:Nat->Nat}{p:List Nat}{s:St}{w:World}{y:AV}{cs':List AV}{b:Nat}{cs:List AV}{u:Value}(gl:Nat->AV)(t:List (Nat×AV))(l:List UInt8)(m i:Nat)
section
variable {P:Program}{c:Cx}{g:Nat->GM}{a:Act}{w:World}
def R.gQ {s s':FS}(hR:R c g s a w)(hT:∀ i v,VR g (Qm c g s) w (s.T i) v->VR g (Qm c g s) w (s'.T i) v)(hB:∀ b,BR g (Qm c g s) w (g b) (s.H b)->BR g (Qm c g s) w (g b) (s'.H b))(hl:∀ b,(s'.H b).live ↔ (s.H b).live):R c g s' a w:=by
 have hW:Qm c g s'=Qm c g s:=by funext i;simp only[Qm,hl]
 refine ⟨hR.size,hR.ew,fun i=>?_,fun i=>?_,fun b=>?_,fun x y k hx hy=>hR.inj x y k ((hl x).1 hx) ((hl y).1 hy),fun x k hx=>hR.old x k ((hl x).1 hx),hR.fr,hR.xs,hR.jn⟩
 ·rw[hW];exact hT i _ (hR.t i)
 ·rw[hW];exact hR.gl i
 ·rw[hW];exact hB b (hR.h b)
def R.EW {s:FS}{n:Nat}(hR:R c g s a w)(hf:s.H n=.free):R c (Zh g n .ph) (s.aI n (.cells [])) a w:=by
 have kJ:g n=.un:=by
  have:=hR.h n;rw[hf]at this;generalize g n=m at this;cases this;rfl
 have cf:∀ {b k},Zh g n .ph b=.re k->b≠n/\g b=.re k:=fun {b k} h=>by
  unfold Zh at h;split at h
  ·cases h
  ·rename_i hb;exact ⟨hb,h⟩
 have hg:∀ b,g b≠.un->Zh g n .ph b=g b:=Bz kJ;have hH:∀ b,b≠n->(s.aI n (.cells [])).H b=s.H b:=fun b hb=>by rw[FS.a8,aa fun e=>hb e.symm]
 have hW:∀ k,Qm c (Zh g n .ph) (s.aI n (.cells [])) k->Qm c g s k:=by
  rintro k (h|⟨b,h1,h2⟩)
  ·exact .inl h
  ·obtain ⟨hb,h3⟩:=cf h2;rw[hH b hb]at h1;exact .inr ⟨b,h1,h3⟩
 have mono:∀ {v u},VR g (Qm c g s) w v u->VR (Zh g n .ph) (Qm c (Zh g n .ph) (s.aI n (.cells []))) w v u:=fun h=>h.mono (Fr.refl _ _) (fun k _=>hW k) hg;refine ⟨hR.size,hR.ew,fun j=>mono (hR.t j),fun j=>(hR.gl j).mono (Fr.refl _ _) (fun k _=>hW k) (fun _ _=>rfl),fun b=>?_,fun b b' k h1 h2 e1 e2=>?_,fun b k h1 e1=>?_,hR.fr,hR.xs,HT hR kJ⟩
 ·by_cases hb:b=n
  ·subst hb;rw[FS.a8,am rfl];unfold Zh;rw[am rfl];exact .ph
  ·rw[hH b hb];have:Zh g n .ph b=g b:=by unfold Zh;rw[aa hb]
   rw[this];exact (hR.h b).mono (Fr.refl _ _) (fun k _=>hW k) hg (fun _ _ _=>rfl)
 ·obtain ⟨b1,g1⟩:=cf e1;obtain ⟨b2,g2⟩:=cf e2;rw[hH b b1]at h1;rw[hH b' b2]at h2;exact hR.inj b b' k h1 h2 g1 g2
 ·obtain ⟨b1,g1⟩:=cf e1;rw[hH b b1]at h1;exact hR.old b k h1 g1
def BR.km {W:Nat->Prop}{m:GM}  (h:BR g W w m (.cells cs))(hl:cs'.length=cs.length)(hv:∀ j v,j<cs.length->VR g W w (cs.getD j .any) v->VR g W w (cs'.getD j .any) v):BR g W w m (.cells cs'):=by
 cases h with
 | ph =>
  obtain rfl:cs'=[]:=List.eq_nil_of_length_eq_zero hl;exact .ph
 | cells hb h1 h2 h3 h4=>exact .cells hb af (fun j hj=>h2 j af) (fun j hj=>hv j _ af (h3 j af)) h4
end
def To.jZ {b j es:Nat}  (hb:Qb s.h s.n b=.cells cs)(hj:cs[j]?=some .nils)(hf:s.fs.H s.n=.free) :
  To p s ⟨s.t,(b,.cells (cs.set j (.sl es s.n 0 0 0)))::(s.n,.cells [])::s.h,s.n+1⟩:=fun c g a w _ hR=>by
 have dK:b≠s.n:=fun e=>by
  have:s.fs.H b=.cells cs:=hb;rw[e,hf]at this;cases this
 refine ⟨Zh g s.n .ph,?_⟩;have h1:=hR.EW hf;have hH:∀ i,(⟨s.t,(b,.cells (cs.set j (.sl es s.n 0 0 0)))::(s.n,.cells [])::s.h,s.n+1⟩:St).fs.H i=if b=i then .cells (cs.set j (.sl es s.n 0 0 0)) else (s.fs.aI s.n (.cells [])).H i:=fun i=>by
  show Qb ((b,_)::(s.n,_)::s.h) (s.n+1) i=_;rw[Qf,FS.a8,Qf];split
  ·rfl
  ·split
   ·rfl
   ·rename_i h;exact Wa _ _ _ fun e=>h e.symm
 have hb2:(s.fs.aI s.n (.cells [])).H b=.cells cs:=by rw[FS.a8,aa fun e=>dK e.symm];exact hb
 refine h1.gQ (fun i v h=>h) (fun i h=>?_) fun i=>?_
 ·rw[hH];split
  ·rename_i e;subst e;rw[hb2]at h;refine h.km av fun k v hk hv=>?_;by_cases XU:j=k
   ·subst XU;have e1:cs.getD j .any=.nils:=by simp[List.getD,hj]
    have e2:(cs.set j (.sl es s.n 0 0 0)).getD j .any=.sl es s.n 0 0 0:=by simp[List.getD,List.getElem?_set,hk]
    rw[e1]at hv;rw[e2];cases hv;exact .kH (by unfold Zh;rw[am rfl]) rfl
   ·have:(cs.set j (.sl es s.n 0 0 0)).getD k .any=cs.getD k .any:=by simp[List.getD,List.getElem?_set,XU]
    rw[this];exact hv
  ·exact h
 ·rw[hH];split
  ·rename_i e;subst e;rw[hb2];exact Iff.rfl
  ·exact Iff.rfl
def Wk (x y:AV):Prop:=∀ (g:Nat->GM) (W:Nat->Prop) (w:World) (v:Value),VR g W w x v->VR g W w y v
def Wk.refl (x:AV):Wk x x:=fun _ _ _ _ h=>h
def Wk.nils:Wk .nils (.isl 0 []):=fun g W w v h=>by
 cases h;exact .isl (us:=fun _=>undef) (Nat.le_refl 0) (by simp[maxLen]) (fun j hj=>by simp at hj) fun j hj=>by simp at hj
def Wk.cap (es b off n c:Nat):Wk (.sl es b off n c) (.sl es b off n n):=fun g W w v h=>by
 cases h with
 | sl hg hn hc hm hb hs=>exact .sl hg (Nat.le_refl _) af hm hb hs
 | kH hg hc=>exact .kH hg rfl
def Wk.ON {x x' y y':AV}(h:Wk x x')(k:Wk y y'):Wk (.aR [x,y]) (.aR [x',y']):=fun g W w v hv=>by
 obtain ⟨us,rfl,h1,h2⟩:=DJ hv;refine .aR (by simpa using h1) fun j hj=>?_;have h3:=h2 j (by simpa using hj);have hj:j<2:=by simpa using hj
 obtain rfl|rfl:j=0\/j=1:=by omega
 ·exact h g W w _ (by simpa [List.getD] using h3)
 ·exact k g W w _ (by simpa [List.getD] using h3)
def To.XV (h:Wk (look s.t i) y):To p s ⟨(i,y)::s.t,s.h,s.n⟩:=fun c g a w _ hR=>by
 refine ⟨g,hR.gQ (fun k v hv=>?_) (fun _ h=>h) fun _=>Iff.rfl⟩;show VR _ _ _ (look ((i,y)::s.t) k) v;rw[Jn];split
 ·rename_i e;subst e;exact h _ _ _ _ hv
 ·exact hv
def To.XW (hb:Qb s.h s.n b=.cells cs)(hl:cs'.length=cs.length)(hv:∀ j,j<cs.length->Wk (cs.getD j .any) (cs'.getD j .any)):To p s ⟨s.t,(b,.cells cs')::s.h,s.n⟩:=fun c g a w _ hR=>by
 have hH:∀ i,(⟨s.t,(b,.cells cs')::s.h,s.n⟩:St).fs.H i=if b=i then .cells cs' else s.fs.H i:=fun i=>by
  show Qb ((b,_)::s.h) s.n i=_;rw[Qf];rfl
 refine ⟨g,hR.gQ (fun k v hv=>hv) (fun i h=>?_) fun i=>?_⟩
 ·rw[hH];split
  ·rename_i e;subst e;rw[show s.fs.H b=.cells cs from hb]at h;exact h.km hl fun j v hj=>hv j hj _ _ _ _
  ·exact h
 ·rw[hH];split
  ·rename_i e;subst e;rw[show s.fs.H b=.cells cs from hb];exact Iff.rfl
  ·exact Iff.rfl
def VR.froze {g:Nat->GM}{s:FS}{a:Act}  (hR:R c g s a w){es b off n k:Nat}  (hb:s.H b=.cells cs)  (h:VR g (Qm c g s) w (.sl es b off n k) u) :
  VR g (Qm c g (s.aI b .dead)) w (.isl n ((cs.drop off).take (n*es))) u:=by
 have ez:=hR.h b;rw[hb]at ez;rcases qW h with ⟨kk,cap,e,cur,fz,rfl,hg,h1,h2,h3,h4,h5⟩|⟨wQ,rfl,hg,rfl,rfl⟩
 ·rw[hg]at ez;have hx:¬ Qm c g (s.aI b .dead) kk:=by
   rintro (hx|⟨b',h6,h7⟩)
   ·exact Vl hR (by rw[hb];trivial) hg hx
   ·rw[FS.a8]at h6;split at h6
    ·exact h6.elim
    ·rename_i cf;exact cf (hR.inj b b' kk (by rw[hb];trivial) h6 hg h7)
  cases ez with
  | cells hb2 hl iJ hv hz =>
   rename_i Nu e2 fz2;rw[h4]at hb2;cases hb2;have hlen:∀ j,j<((cs.drop off).take (n*es)).length->off+j<cs.length/\j<n*es:=fun j hj=>by simp at hj;omega
   refine .isl (us:=fun j=>cur.getD (off+j) undef) af h3 (fun j hj=>?_) fun j hj=>?_
   ·obtain ⟨qX,eJ⟩:=hlen j hj;refine ⟨kk,off,rfl,?_,hx,iJ _ qX⟩;have:=cell_of_row w kk (off + j) cur e fz h4;unfold Uw;rw[this];have:off + j < cur.size:=by omega
    simp[Array.getD,this]
   ·obtain ⟨qX,eJ⟩:=hlen j hj;have ee:((cs.drop off).take (n * es)).getD j .any=cs.getD (off + j) .any:=by simp only[List.getD,List.getElem?_take,List.getElem?_drop,am eJ]
    rw[ee];exact (hv _ qX).mono (Fr.refl _ _) (fun k _=>HQ k) (fun _ _=>rfl)
 ·refine .isl (us:=fun _=>undef) (Nat.le_refl 0) (by simp[maxLen]) (fun j hj=>?_) fun j hj=>?_
  ·simp at hj
  ·simp at hj
def VR.dead {g:Nat->GM}{s:FS}   {x:AV}  (h:VR g (Qm c g s) w x u):VR g (Qm c g (s.aI b .dead)) w x u:=h.mono (Fr.refl _ _) (fun k _=>HQ k) (fun _ _=>rfl)
def To.xr {b i:Nat}{v':AV}(hl:(s.fs.H b).live)(hv:∀ (c:Cx) (g:Nat->GM) (a:Act) (w:World),R c g s.fs a w->∀ u,VR g (Qm c g s.fs) w (look s.t i) u->VR g (Qm c g (s.fs.aI b .dead)) w v' u) :
  To p s ⟨(i,v')::s.t,(b,.dead)::s.h,s.n⟩:=fun c g a w _ hR=>by
 have hb:g b≠.un:=fun e=>by
  have:=hR.h b;rw[e]at this;exact this.gK hl
 have hk:=hR.kill hb;have e:(⟨(i,v')::s.t,(b,.dead)::s.h,s.n⟩:St).fs=(s.fs.aI b .dead).put i v':=by
  rw[<- St.cg,<- St.bU];rfl
 refine ⟨g,?_⟩;rw[e];refine ⟨hk.size,hk.ew,fun j=>?_,hk.gl,hk.h,hk.inj,hk.old,hk.fr,hk.xs,hk.jn⟩;show VR g _ w (if i=j then v' else s.fs.T j) _;split
 ·rename_i e;subst e;exact hv c g a w hR _ (hR.t i)
 ·exact hk.t j
def To.gM {b i es off n k:Nat}  (hb:Qb s.h s.n b=.cells cs)(hi:look s.t i=.sl es b off n k):To p s ⟨(i,.isl n ((cs.drop off).take (n*es)))::s.t,(b,.dead)::s.h,s.n⟩ :=
 To.xr (by rw[show s.fs.H b=.cells cs from hb];trivial) fun c g a w hR u hu=>by
  rw[hi]at hu;exact VR.froze hR hb hu
def To.OO {b i es off n k:Nat}   (hb:Qb s.h s.n b=.cells cs)(hi:look s.t i=.aR [.sl es b off n k,y]):To p s ⟨(i,.aR [.isl n ((cs.drop off).take (n*es)),y])::s.t,(b,.dead)::s.h,s.n⟩ :=
 To.xr (by rw[show s.fs.H b=.cells cs from hb];trivial) fun c g a w hR u hu=>by
  rw[hi]at hu;obtain ⟨us,rfl,h1,h2⟩:=DJ hu;refine .aR (by simpa using h1) fun j hj=>?_;have h3:=h2 j (by simpa using hj);have hj:j<2:=by simpa using hj
  obtain rfl|rfl:j=0\/j=1:=by omega
  ·exact VR.froze hR hb (by simpa [List.getD] using h3)
  ·exact VR.dead (by simpa [List.getD] using h3)
def Cw (t:List (Nat×AV)):List (Nat×AV)->Prop
 | []=>True
 | q::r=>look t q.1=q.2/\Cw t r
def XX {t:List (Nat×AV)}:∀ {t':List (Nat×AV)},Cw t t'->∀ i,look t' i=.any\/look t' i=look t i
 | [],_,_=>.inl rfl
 | (j,v)::r,h,i=>by
   rw[Jn];split
   ·rename_i e;subst e;exact .inr h.1.symm
   ·exact XX h.2 i
def To.fK {t t':List (Nat×AV)}{h h':List (Nat×Bk)}{n n':Nat}(hs:Cw t t')(hh:∀ b,Qb h' n' b=Qb h n b):To p ⟨t,h,n⟩ ⟨t',h',n'⟩:=fun c g a w _ hR=>by
 refine ⟨g,hR.gQ (fun i v hv=>?_) (fun b hb=>?_) fun b=>?_⟩
 ·show VR _ _ _ (look t' i) v;rcases XX hs i with e|e
  ·rw[e];exact .any _
  ·rw[e];exact hv
 ·show BR _ _ _ _ (Qb h' n' b);rw[hh];exact hb
 ·show (Qb h' n' b).live ↔ (Qb h n b).live;rw[hh]
theorem Xji:Cw t []=True:=rfl
theorem Xc4 (v:AV)(r:List (Nat×AV)):Cw t ((i,v)::r)=(look t i=v/\Cw t r):=rfl
attribute [go_sem] Xji Xc4
theorem Qq4 {σ:Type}(p:List Nat)(I:σ->Prop)(df:σ->St)(μ:σ->Nat)(x:σ)(Q:EX->St->Prop)(s:St):JE p I df μ x Q .normal s=∃ y,I y/\To p s (df y)/\μ y<μ x:=rfl
theorem Xan {σ:Type}(p:List Nat)(I:σ->Prop)(df:σ->St)(μ:σ->Nat)(x:σ)(Q:EX->St->Prop)(s:St):JE p I df μ x Q .ret s=Q .ret s:=rfl
theorem Quv {σ:Type}(p:List Nat)(I:σ->Prop)(df:σ->St)(μ:σ->Nat)(x:σ)(Q:EX->St->Prop)(i:Nat)(s:St):JE p I df μ x Q (.exit i) s=Q (.exit i) s:=rfl
theorem Xl7 {ι:Type}  (p:List Nat)(rs:List RS)(Q:ι->Prop)(r:ι->AV)(ax:ι->List (Nat×Bk))(s:St):JF m p rs Q r ax .ret s=(Un s.fs rs/\∃ x,Q x/\To p ⟨[(0,iE s.fs rs)],s.h,s.n⟩ ⟨[(0,r x)],ax x,m⟩):=rfl
theorem Qum {ι:Type}  (p:List Nat)(rs:List RS)(Q:ι->Prop)(r:ι->AV)(ax:ι->List (Nat×Bk))(s:St):JF m p rs Q r ax .normal s=(Un s.fs rs/\∃ x,Q x/\To p ⟨[(0,iE s.fs rs)],s.h,s.n⟩ ⟨[(0,r x)],ax x,m⟩):=rfl
attribute [go_sem] Qq4 Xan Quv Xl7 Qum
def GS.wk {P:Program}{gl:Nat->AV}{f:FuncId}{args:List AV}{aL ax:List (Nat×Bk)}{m n:Nat}{r r':AV}(h:GS P gl f args aL m r ax n)(hr:Wk r r'):GS P gl f args aL m r' ax n:=by
 refine ⟨h.1,fun w vs G X g hR hv=>(h.2 w vs G X g hR hv).mono ?_⟩;rintro e w' ⟨v,g',q1,q2,q3,q4⟩;exact ⟨v,g',q1,q2,q3,hr _ _ _ _ q4⟩
def cG (σ:Nat->Nat)(p:List Nat)(n0 b:Nat):Nat:=bif p.contains b then σ b else n0+b
def Ks {n0 b:Nat}(h:b ∈ p):cG σ p n0 b=σ b:=by
 unfold cG;rw[List.contains_iff_mem.2 h];rfl
theorem Uh {n0 b:Nat}(h:b ∉ p):cG σ p n0 b=n0+b:=by
 unfold cG;cases e:p.contains b with
 | true=>exact absurd (List.contains_iff_mem.1 e) h
 | false=>rfl
def OP {σ:Nat->Nat}{p:List Nat}{m n0:Nat}(ct:∀ b b',b<m->b'<m->σ b=σ b'->b=b')(hlt:∀ b,b<m->σ b<n0){b b':Nat}(hb:b<m)(bL:b'<m)(e:cG σ p n0 b=cG σ p n0 b'):b=b':=by
 by_cases h1:b ∈ p<;>by_cases h2:b' ∈ p
 ·rw[Ks h1,Ks h2]at e;exact ct _ _ hb bL e
 ·rw[Ks h1,Uh h2]at e;have:=hlt b hb;omega
 ·rw[Uh h1,Ks h2]at e;have:=hlt b' bL;omega
 ·rw[Uh h1,Uh h2]at e;omega
section
variable {P:Program}{c:Cx}
def Ycm {σ:Nat->Nat}{n0:Nat}{s s3:FS}{a:Act}{w w':World}{g g1 g2:Nat->GM}{h h':List (Nat×Bk)}{m:Nat}{p:List Nat}(hR:R c g s a w)(ct:∀ b b',b<m->b'<m->σ b=σ b'->b=b')(hlt:∀ b,b<m->σ b<n0)(bq:∀ b,b<m->s.H (n0+b)=.free)
  (hh:HL h m) (ua:HL h' m) (fit:∀ b,b<m->s.H (σ b)=Qw σ (Qb h m b)) (hp:∀ b ∈ p,b<m)
  (iv:∀ b,b<m->g (σ b)≠.un->g (σ b)=g1 b) (mA:∀ b,b ∈ p->g2 b=g1 b) (cp:R (rm c g s w σ h m) g2 (dD h' m) ⟨#[],[]⟩ w')
  (OD:∀ i,s3.T i=s.T i) (ES:∀ b,b<m->s3.H (cG σ p n0 b)=Qw (cG σ p n0) (Qb h' m b)) (JJ:∀ b,b<m->b ∉ p->s3.H (σ b)=.dead) (JK:∀ b,b ∈ p->s3.H (n0+b)=.dead)
  (zX:∀ j,iZ σ m j->(∀ b,b<m->n0+b≠j)->s3.H j=s.H j) :
  ∃ g3,R c g3 s3 a w'/\∀ {r:AV} {v:Value},Qe m r->VR g2 (Qm (rm c g s w σ h m) g2 (dD h' m)) w' r v->VR g3 (Qm c g3 s3) w' (aB (cG σ p n0) r) v:=by
 have dJ:∀ b,b<m->(Qb h m b).live:=fun b hb=>by
  obtain ⟨_,q,hq,_,e⟩:=hh.live hb m;rw[e];exact Xa (hh.mem q hq).2
 have j7:∀ b,b<m->(Qb h' m b).live:=fun b hb=>by
  obtain ⟨_,q,hq,_,e⟩:=ua.live hb m;rw[e];exact Xa (ua.mem q hq).2
 have eP:∀ b,b<m->(s.H (σ b)).live:=fun b hb=>by rw[fit b hb,BX];exact dJ b hb
 have named:∀ b,b<m->g (σ b)≠.un:=fun b hb e=>(e ▸ hR.h (σ b)).gK (eP b hb);have z7:∀ b,b<m->g2 b≠.un:=fun b hb e=>by
  have:=cp.h b;rw[e]at this;exact this.gK (j7 b hb)
 have unf:∀ b,b<m->g (n0+b)=.un:=fun b hb=>by
  have:=hR.h (n0+b);rw[bq b hb]at this;generalize g (n0+b)=x at this;cases this;rfl
 have low:∀ b,(Qb h m b).live->b<m:=fun b hl=>by
  rcases Jk h m b with q|⟨q,hq,rfl,_⟩
  ·rw[q]at hl;split at hl<;>exact hl.elim
  ·exact (hh.mem q hq).1
 let g3:Nat->GM:=fun j=>if n0<=j/\j<n0+m then g2 (j-n0) else g j
 have XY:∀ b,b<m->g3 (n0+b)=g2 b:=fun b hb=>by
  show (if n0<=n0+b/\n0+b<n0+m then g2 (n0+b-n0) else g (n0+b))=g2 b;rw[am af,Nat.add_sub_cancel_left]
 have uc:∀ j,(∀ b,b<m->n0+b≠j)->g3 j=g j:=fun j hj=>by
  show (if _ then _ else _)=_;rw[aa];rintro ⟨h1,h2⟩;exact hj (j-n0) af af
 have gk:∀ j,g j≠.un->g3 j=g j:=fun j hj=>uc j fun b hb e=>hj (e ▸ unf b hb);have OQ:∀ b,b<m->∀ b',b'<m->n0+b'≠σ b:=fun b hb b' bL=>by have:=hlt b hb;omega
 have XZ:∀ b,b<m->g3 (σ b)=g (σ b):=fun b hb=>uc _ fun b' bL=>OQ b hb b' bL;have gm:∀ b,b<m->g3 (cG σ p n0 b)=g2 b:=fun b hb=>by
  by_cases fW:b ∈ p
  ·rw[Ks fW,XZ b hb,mA b fW];exact iv b hb (named b hb)
  ·rw[Uh fW];exact XY b hb
 have part:∀ j,(∃ b,b<m/\cG σ p n0 b=j)\/(∃ b,b<m/\b ∉ p/\σ b=j)\/(∃ b,b ∈ p/\n0+b=j)\/(iZ σ m j/\∀ b,b<m->n0+b≠j):=fun j=>by
  by_cases e1:∃ b,b<m/\cG σ p n0 b=j
  ·exact .inl e1
  by_cases e2:∃ b,b<m/\σ b=j
  ·obtain ⟨b,hb,e⟩:=e2;exact .inr (.inl ⟨b,hb,fun fW=>e1 ⟨b,hb,by rw[Ks fW];exact e⟩,e⟩)
  by_cases e3:∃ b,b<m/\n0+b=j
  ·obtain ⟨b,hb,e⟩:=e3;by_cases fW:b ∈ p
   ·exact .inr (.inr (.inl ⟨b,fW,e⟩))
   ·exact (e1 ⟨b,hb,by rw[Uh fW];exact e⟩).elim
  ·exact .inr (.inr (.inr ⟨fun b h1 h2=>e2 ⟨b,h1,h2⟩,fun b h1 h2=>e3 ⟨b,h1,h2⟩⟩))
 have hf:Fr w w' (sa g σ h m):=cp.fr;have Cj:∀ k,sa g σ h m k->Qm c g s k:=fun k ⟨b,h1,h2⟩=>.inr ⟨σ b,eP b (low b h1),h2⟩;have sj:Fr w w' (Qm c g s):=hf.weak Cj;have tT:∀ j k,iZ σ m j->(s.H j).live->g j=.re k->¬ sa g σ h m k:=fun j k h1 h2 h3 ⟨b,q1,q2⟩ =>
  h1 b (low b q1) (hR.inj (σ b) j k (eP b (low b q1)) h2 q2 h3)
 have gN:∀ b k,b<m->g2 b=.re k->w.heap.size<=k\/∃ b0,b0<m/\g (σ b0)=.re k:=fun b k hb hk=>by
  rcases cp.old b k (j7 b hb) hk with h|⟨b0,q1,q2⟩
  ·exact .inl h
  ·exact .inr ⟨b0,low b0 q1,q2⟩
 have dw:∀ j,(s3.H j).live->(∃ b,b<m/\cG σ p n0 b=j)\/(iZ σ m j/\(∀ b,b<m->n0+b≠j)/\(s.H j).live):=fun j hl=>by
  rcases part j with h|⟨b,hb,fW,rfl⟩|⟨b,fW,rfl⟩|⟨h1,h2⟩
  ·exact .inl h
  ·rw[JJ b hb fW]at hl;exact hl.elim
  ·rw[JK b fW]at hl;exact hl.elim
  ·rw[zX j h1 h2]at hl;exact .inr ⟨h1,h2,hl⟩
 have qf:∀ k,k<w.heap.size->Qm c g3 s3 k->Qm c g s k:=by
  rintro k hk (h|⟨j,h1,h2⟩)
  ·exact .inl h
  ·rcases dw j h1 with ⟨b,hb,rfl⟩|⟨hj,eJ,hl⟩
   ·rw[gm b hb]at h2;rcases gN b k hb h2 with h|⟨b0,q1,q2⟩
    ·omega
    ·exact .inr ⟨σ b0,eP b0 q1,q2⟩
   ·rw[uc j eJ]at h2;exact .inr ⟨j,hl,h2⟩
 have qg:∀ k,Qm c g3 s3 k->Qm (rm c g s w σ h m) g2 (dD h' m) k:=by
  rintro k (h|⟨j,h1,h2⟩)
  ·refine .inl ⟨.inl h,fun ⟨b,q1,q2⟩=>?_⟩;obtain ⟨x1,x2⟩:=hR.xs k h;rcases hR.old (σ b) k (eP b (low b q1)) q2 with h|h
   ·omega
   ·exact x2 h
  ·rcases dw j h1 with ⟨b,hb,rfl⟩|⟨hj,eJ,hl⟩
   ·rw[gm b hb]at h2;exact .inr ⟨b,j7 b hb,h2⟩
   ·rw[uc j eJ]at h2;exact .inl ⟨.inr ⟨j,hl,h2⟩,tT j k hj hl h2⟩
 have EY:=fun {b b'}=>@OP σ p m n0 ct hlt b b';refine ⟨g3,⟨hR.size,hR.ew,fun i=>?_,fun i=>(hR.gl i).mono sj qf (fun _ _=>rfl),fun j=>?_,fun j j' k h1 h2 e1 e2=>?_,fun j k h1 e1=>?_,hR.fr.trans hf fun k hk ⟨b,q1,q2⟩=>?_,hR.xs,fun q hq=>?_⟩,fun {r v} hn hv=>?_⟩
 ·rw[OD];exact (hR.t i).mono sj qf gk
 ·rcases part j with ⟨b,hb,rfl⟩|⟨b,hb,fW,rfl⟩|⟨b,fW,rfl⟩|⟨hj,eJ⟩
  ·rw[gm b hb,ES b hb];have ez:=cp.h b;have e:(dD h' m).H b=Qb h' m b:=rfl;rw[e]at ez;obtain ⟨_,q,hq,_,eq⟩:=ua.live hb m;rw[eq]at ez ⊢;exact ez.bv (n:=m) gm (ua.mem q hq).2 qg
  ·rw[JJ b hb fW,XZ b hb];exact .dead (named b hb)
  ·rw[JK b fW,XY b (hp b fW)];exact .dead (z7 b (hp b fW))
  ·rw[uc j eJ,zX j hj eJ];refine (hR.h j).mono sj qf gk fun k hk hl=>hf.iq k ?_ (tT j k hj hl hk);exact BR.lt (hk ▸ hR.h j) hl
 ·change g3 j=_ at e1;change g3 j'=_ at e2;rcases dw j h1 with ⟨b,hb,rfl⟩|⟨hj,eJ,hl⟩<;>rcases dw j' h2 with ⟨b',bL,rfl⟩|⟨dd,EZ,mf⟩
  ·rw[gm b hb]at e1;rw[gm b' bL]at e2;rw[cp.inj b b' k (j7 b hb) (j7 b' bL) e1 e2]
  ·rw[gm b hb]at e1;rw[uc j' EZ]at e2;have hlt:=BR.lt (e2 ▸ hR.h j') mf;rcases gN b k hb e1 with h|⟨b0,q1,q2⟩
   ·omega
   ·exact (dd b0 q1 (hR.inj (σ b0) j' k (eP b0 q1) mf q2 e2)).elim
  ·rw[gm b' bL]at e2;rw[uc j eJ]at e1;have hlt:=BR.lt (e1 ▸ hR.h j) hl;rcases gN b' k bL e2 with h|⟨b0,q1,q2⟩
   ·omega
   ·exact (hj b0 q1 (hR.inj (σ b0) j k (eP b0 q1) hl q2 e1)).elim
  ·rw[uc j eJ]at e1;rw[uc j' EZ]at e2;exact hR.inj j j' k hl mf e1 e2
 ·change g3 j=_ at e1;rcases dw j h1 with ⟨b,hb,rfl⟩|⟨hj,eJ,hl⟩
  ·rw[gm b hb]at e1;rcases gN b k hb e1 with h|⟨b0,q1,q2⟩
   ·have:=hR.fr.size;exact .inl af
   ·exact hR.old (σ b0) k (eP b0 q1) q2
  ·rw[uc j eJ]at e1;exact hR.old j k hl e1
 ·rcases hR.old (σ b) k (eP b (low b q1)) q2 with h|h
  ·omega
  ·exact h
 ·obtain ⟨q1,q2⟩:=hR.jn q hq;refine ⟨?_,q2⟩;show g3 q.1=_;rw[gk q.1 (by rw[q1];exact q2),q1]
 ·exact (hv.bv (ρ:=cG σ p n0) (g:=g3) gm hn).mono (Fr.refl _ _) (fun k _=>qg k) (fun _ _=>rfl)
structure qn (gl:Nat->AV)(xs:List TV)(v:Bool)(f:FuncId)(args:List AV)(σ:Nat->Nat)(p:List Nat)(m:Nat)(t:List (Nat×AV))(ex aL:List (Nat×Bk))(n:Nat):Prop where
 inj:∀ b b',b<m->b'<m->σ b=σ b'->b=b'
 lt:∀ b,b<m->σ b<n
 hl:HL aL m
 jn:∀ b ∈ p,b<m
 hex:∀ q ∈ ex,iZ σ m q.1/\q.1<n
 fh:Qr none (aD gl (⟨t,ex++Qq σ aL,n⟩:St).fs xs)
 aM:lP v f ((aD gl (⟨t,ex++Qq σ aL,n⟩:St).fs xs).map Qh)=some (f,ay σ args)
 nm:ah m args
def eU (σ:Nat->Nat)(m n:Nat):List Nat:=(List.range m).map σ++(List.range m).map fun b=>n+b
def ud {m n j:Nat}:j ∈ eU σ m n ↔ (∃ b,b<m/\σ b=j)\/∃ b,b<m/\n+b=j:=by simp[eU]
def Ju (t:List (Nat×AV))(ex ax:List (Nat×Bk))(σ:Nat->Nat)(p:List Nat)(m n:Nat)(d:Option Nat)(r:AV):St:=St.ca ⟨t,ex++Qq (cG σ p n) ax,n+m⟩ d (aB (cG σ p n) r)
def E0 {v:Bool}{d:Option Nat}{k:PK}{f:FuncId}{xs:List TV}{args:List AV}{aL ax:List (Nat×Bk)}{σ:Nat->Nat}{m n:Nat}{p:List Nat}{r:AV}{t:List (Nat×AV)}{ex:List (Nat×Bk)}(hq:GQ P c.gl f args aL m p (fun _:Unit=>True) (fun _=>r) (fun _=>ax))
  (ok:qn c.gl xs v f args σ p m t ex aL n) (hk:k=(bif v then .cC else .call f)) (dS:HL ax m) (hr:Qe m r):Ki P c (.pd d k xs none) (⟨t,ex++Qq σ aL,n⟩:St).fs ⟨Xe xs,eU σ m n,d.toList,eU σ m n⟩ (Ju t ex ax σ p m n d r).fs:=by
 intro ops io he;obtain ⟨aX,bb,hd,ys,aE,rfl⟩:=Zm he;have jy:∀ (s2:FS) (g:Nat->GM) (a:Act) (w:World),(∀ i ∈ Xe (ys.map aP),s2.T i=(⟨t,ex++Qq σ aL,n⟩:St).fs.T i)->R c g s2 a w->∃ vs:List Value,(execOp a.eval io).run P w=.ok (.enter f vs.toArray) w/\bT g (Qm c g s2) w (ay σ args) vs:=fun s2 g a w hT hR=>by
  have aM:=ok.aM;have va:=ok.fh;cases v with
  | false =>
   subst hk;obtain ⟨ts,hop⟩:=BZ aE;have bj:aD c.gl s2 (ys.map aP)=aD c.gl (⟨t,ex++Qq σ aL,n⟩:St).fs (ys.map aP):=Yd fun i hi=>hT i hi;have hv:=Yk (hR.ci ys) (by rw[bj];exact va);rw[bj]at hv;simp only[lP,cond_false,Option.some.injEq,Prod.mk.injEq,true_and]at aM;rw[aM]at hv;exact ⟨_,B0 hq.1 hop a w,hv⟩
  | true =>
   subst hk;obtain ⟨x,ys,ts,rfl,hop⟩:=Oa aE;have bj:aD c.gl s2 ((x::ys).map aP)=aD c.gl (⟨t,ex++Qq σ aL,n⟩:St).fs ((x::ys).map aP):=Yd fun i hi=>hT i hi;have hv:=Yk (hR.ci (x::ys)) (by rw[bj];exact va);rw[bj]at hv;simp only[lP,cond_true]at aM;generalize (aD c.gl (⟨t,ex++Qq σ aL,n⟩:St).fs ((x::ys).map aP)).map Qh=zs at aM hv;cases zs with
   | nil=>simp[vr]at aM
   | cons z zs =>
    unfold vr at aM;split at aM
    ·rename_i f' so r' heq;simp only[Option.some.injEq,Prod.mk.injEq]at aM;obtain ⟨rfl,aM⟩:=aM;simp only[List.cons.injEq]at heq;obtain ⟨rfl,rfl⟩:=heq;rw[List.map_cons]at hv;obtain ⟨h1,h2⟩:=hv;generalize hx:a.eval x=vx at h1;cases h1 with
     | cl hs h =>
      refine ⟨_,Ob hq.1 hop a w _ hx,?_⟩;rw[<- aM];exact IU h2 (IV (xs:=so) (us:=Array.toList _) (by simpa using hs) fun j hj=>by
       have:=h j hj;simpa [Array.getD_eq_getD_getElem?,List.getD] using this)
    ·cases aM
 have vt:∀ (y:Option Nat) j,((Ju t ex ax σ p m n y r).fs.H j)=Qb (ex++Qq (cG σ p n) ax) (n+m) j:=fun y j=>by cases y<;>rfl
 have fB:∀ i,(Ju t ex ax σ p m n d r).fs.T i=match d with|some d=>(if d=i then aB (cG σ p n) r else look t i)|none=>look t i:=fun i=>by
  cases d with
  | none=>rfl
  | some d=>show look ((d,_)::t) i=_;rw[Jn]
 have qm:∀ b,b<m->∀ q ∈ ex,q.1≠σ b:=fun b hb q hq e=>(ok.hex q hq).1 b hb e.symm;have eD:∀ b,∀ q ∈ ex,q.1≠n+b:=fun b q hq=>by have:=(ok.hex q hq).2;omega
 have fit:∀ b,b<m->(⟨t,ex++Qq σ aL,n⟩:St).fs.H (σ b)=Qw σ (Qb aL m b):=fun b hb=>by
  show Qb (ex++Qq σ aL) n (σ b)=_;rw[Xl (qm b hb)];exact Ku ok.inj hb (fun q hq=>(ok.hl.mem q hq).1) (ok.hl.jV b hb)
 have EY:=fun {b b'}=>@OP σ p m n ok.inj ok.lt b b';have Cy:∀ q ∈ aL,q.1<m:=fun q hq=>(ok.hl.mem q hq).1;have JL:∀ q ∈ ax,q.1<m:=fun q hq=>(dS.mem q hq).1;have free:∀ b,(⟨t,ex++Qq σ aL,n⟩:St).fs.H (n+b)=.free:=fun b=>by
  show Qb (ex++Qq σ aL) n (n+b)=_;rw[Xl (eD b),Kx (fun b' bL e=>by have:=ok.lt b' bL;omega) Cy,aa af]
 have ES:∀ b,b<m->Qb (ex++Qq (cG σ p n) ax) (n+m) (cG σ p n b)=Qw (cG σ p n) (Qb ax m b):=fun b hb=>by
  rw[Xl]
  ·exact Ku (fun b b' h1 h2 e=>EY h1 h2 e) hb JL (dS.jV b hb)
  ·by_cases h:b ∈ p
   ·rw[Ks h];exact qm b hb
   ·rw[Uh h];exact eD b
 have JJ:∀ b,b<m->b ∉ p->Qb (ex++Qq (cG σ p n) ax) (n+m) (σ b)=.dead:=fun b hb fW=>by
  rw[Xl (qm b hb),Kx (fun b' bL e=>?_) JL,am (by have:=ok.lt b hb;omega)];by_cases h:b' ∈ p
  ·rw[Ks h]at e;exact fW (ok.inj _ _ bL hb e ▸ h)
  ·rw[Uh h]at e;have:=ok.lt b hb;omega
 have JK:∀ b,b ∈ p->Qb (ex++Qq (cG σ p n) ax) (n+m) (n+b)=.dead:=fun b fW=>by
  have hb:=ok.jn b fW;rw[Xl (eD b),Kx (fun b' bL e=>?_) JL,am af];by_cases h:b' ∈ p
  ·rw[Ks h]at e;have:=ok.lt b' bL;omega
  ·rw[Uh h]at e;exact h ((by omega:b'=b) ▸ fW)
 have zX:∀ j,iZ σ m j->(∀ b,b<m->n+b≠j)->Qb (ex++Qq (cG σ p n) ax) (n+m) j=(⟨t,ex++Qq σ aL,n⟩:St).fs.H j:=fun j h1 h2=>by
  show _=Qb (ex++Qq σ aL) n j;have ho:iZ (cG σ p n) m j:=fun b hb e=>by
   by_cases h:b ∈ p
   ·rw[Ks h]at e;exact h1 b hb e
   ·rw[Uh h]at e;exact h2 b hb e
  have key:∀ l:List (Nat×Bk),Qb (l++Qq (cG σ p n) ax) (n+m) j=Qb (l++Qq σ aL) n j:=fun l=>by
   induction l with
   | nil =>
    rw[List.nil_append,List.nil_append,Kx ho JL,Kx h1 Cy];by_cases hj:j<n
    ·rw[am hj,am af]
    ·rw[aa hj,aa];intro eJ;exact h2 (j-n) af af
   | cons q l ih=>obtain ⟨i,x⟩:=q;rw[List.cons_append,List.cons_append,Qf,Qf,ih]
  exact key ex
 have xj:∀ b,b<m->cG σ p n b ∈ eU σ m n:=fun b hb=>by
  by_cases h:b ∈ p
  ·rw[Ks h];exact ud.2 (.inl ⟨b,hb,rfl⟩)
  ·rw[Uh h];exact ud.2 (.inr ⟨b,hb,rfl⟩)
 refine ⟨fun i hi=>?_,fun j hj=>?_,fun s2 hT hH g a w hR K Q' hK=>Ze (Jj aX) ?_⟩
 ·rw[fB];cases d with
  | none=>rfl
  | some d=>simp only[Option.toList_some,List.mem_singleton]at hi;simp only;rw[aa fun e=>hi e.symm];rfl
 ·rw[vt];exact zX j (fun b hb e=>hj (ud.2 (.inl ⟨b,hb,e⟩))) (fun b hb e=>hj (ud.2 (.inr ⟨b,hb,e⟩)))
 ·obtain ⟨vs,hrun,hv⟩:=jy s2 g a w hT hR;have mE:∀ b,b < m→s2.H (σ b)=Qw σ (Qb aL m b):=fun b hb=>by rw[hH _ (ud.2 (.inl ⟨b,hb,rfl⟩))];exact fit b hb
  have zZ:Fit σ s2 aL m:=by
   refine ⟨fun q hq=>⟨Cy q hq,(ok.hl.mem q hq).2,?_⟩,fun q hq q' db e=>ok.inj _ _ (Cy q hq) (Cy q' db) e⟩;rw[mE q.1 (Cy q hq),ok.hl.self q hq]
  obtain ⟨g1,iv,zE,tU⟩:=IN hR zZ;have kh:=Ex (g1:=g1) iv tU ok.nm hv;unfold Oper.wp;rw[hrun];rw[Oper.upon_enter];refine (hq.2 w _ _ _ g1 zE kh).mono fun e w' ⟨x,v,g2,hQ,e1,e2,e3,e4⟩=>?_;subst e1
  let s3:FS:=⟨s2.T,fun j=>if j ∈ eU σ m n then Qb (ex++Qq (cG σ p n) ax) (n+m) j else s2.H j⟩
  have z8:∀ j,j ∈ eU σ m n->s3.H j=Qb (ex++Qq (cG σ p n) ax) (n+m) j:=fun j hj=>am hj
  obtain ⟨g3,mF,fZ⟩:=Ycm (s3:=s3) (n0:=n) (p:=p) hR ok.inj ok.lt (fun b hb=>by rw[hH _ (ud.2 (.inr ⟨b,hb,rfl⟩))];exact free b) ok.hl dS mE ok.jn iv e3 e2 (fun i=>rfl)
   (fun b hb=>by rw[z8 _ (xj b hb)];exact ES b hb) (fun b hb fW=>by rw[z8 _ (ud.2 (.inl ⟨b,hb,rfl⟩))];exact JJ b hb fW) (fun b fW=>by rw[z8 _ (ud.2 (.inr ⟨b,ok.jn b fW,rfl⟩))];exact JK b fW)
   (fun j h1 h2=>aa fun hj=>by
    rcases ud.1 hj with ⟨b,hb,e⟩|⟨b,hb,e⟩
    ·exact h1 b hb e
    ·exact h2 b hb e)
  have vq:=fZ hr e4;show K (a.put io.dst v) w';rw[bb];cases d with
  | none =>
   refine hK g3 _ w' ?_;have:dB s2 (Ju t ex ax σ p m n none r).fs ⟨Xe (ys.map aP),eU σ m n,[],eU σ m n⟩=s3:=by
    refine pj (fun i=>?_) fun j=>?_
    ·show (if i ∈ ([]:List Nat) then (Ju t ex ax σ p m n none r).fs.T i else s2.T i)=s2.T i;simp
    ·show (if j ∈ eU σ m n then (Ju t ex ax σ p m n none r).fs.H j else s2.H j)=_;rw[vt]
   show R c _ (dB s2 (Ju t ex ax σ p m n none r).fs ⟨Xe (ys.map aP),eU σ m n,[],eU σ m n⟩) _ _;rw[this];exact mF
  | some d =>
   refine hK g3 _ w' ?_;have:dB s2 (Ju t ex ax σ p m n (some d) r).fs ⟨Xe (ys.map aP),eU σ m n,[d],eU σ m n⟩=s3.put d (aB (cG σ p n) r):=by
    refine pj (fun i=>?_) fun j=>?_
    ·show (if i ∈ [d] then (Ju t ex ax σ p m n (some d) r).fs.T i else s2.T i)=_;rw[FS.dF,fB];by_cases h:d=i
     ·subst h;simp
     ·rw[aa (by simpa using fun e:i=d=>h e.symm),aa h]
    ·show (if j ∈ eU σ m n then (Ju t ex ax σ p m n (some d) r).fs.H j else s2.H j)=_;rw[vt];rfl
   show R c _ (dB s2 (Ju t ex ax σ p m n (some d) r).fs ⟨Xe (ys.map aP),eU σ m n,[d],eU σ m n⟩) _ _;rw[this];exact mF.put (by simpa using hd) vq
abbrev GD (P:Program)(gl:Nat->AV)(f:FuncId)(args:List AV)(aL:List (Nat×Bk))(m:Nat)(p:List Nat)(r:AV)(ax:List (Nat×Bk)):Prop:=GQ P gl f args aL m p (fun _:Unit=>True) (fun _=>r) (fun _=>ax)
def OR {v:Bool}{d:Option Nat}{k:PK}{f:FuncId}{xs:List TV}{args:List AV}{aL ax:List (Nat×Bk)}{σ:Nat->Nat}{m n:Nat}{p:List Nat}{r:AV}{t:List (Nat×AV)}{ex:List (Nat×Bk)}{r0:List bB}{K:St->Prop}(hq:GD P c.gl f args aL m p r ax)
  (ok:qn c.gl xs v f args σ p m t ex aL n) (hk:k=(bif v then .cC else .call f)) (dS:HL ax m) (hr:Qe m r) (h:XP P c r0 K (Ju t ex ax σ p m n d r)):Yo P c (.pd d k xs none) r0 K ⟨t,ex++Qq σ aL,n⟩ :=
 .inl ⟨_,_,E0 hq ok hk dS hr,h⟩
def X0 {v:Bool}{d:Option Nat}{k:PK}{f:FuncId}{xs:List TV}{args:List AV}{aL ax:List (Nat×Bk)}{σ:Nat->Nat}{m n:Nat}{p:List Nat}{r:AV}{t:List (Nat×AV)}{ex:List (Nat×Bk)}{anc:List Nat}{fs:List bc}{r0:List bB}{K:St->Prop}(hq:GD P c.gl f args aL m p r ax)
  (ok:qn c.gl xs v f args σ p m t ex aL n) (hk:k=(bif v then .cC else .call f)) (dS:HL ax m) (hr:Qe m r) (h:XD P c anc r0 (⟨Xe xs,eU σ m n,d.toList,eU σ m n⟩::fs) K (Ju t ex ax σ p m n d r)):Yz P c anc (.pd d k xs none) r0 fs K ⟨t,ex++Qq σ aL,n⟩ :=
 ⟨_,_,E0 hq ok hk dS hr,h⟩
end
def Fix (x:AV)(v:Value):Prop:=∀ (g:Nat->GM) (W:Nat->Prop) (w:World) (u:Value),VR g W w x u ↔ u=v
def E1:List AV->List Value->Prop
 | [],[]=>True
 | x::xs,v::vs=>Fix x v/\E1 xs vs
 | _,_=>False
def Fix.int (k:IntKind)(n:Int):Fix (.int k n) (.int k n):=fun _ _ _ u=>⟨fun h=>by cases h;rfl,fun h=>by subst h;exact .int _ _⟩
def E1.args {g:Nat->GM}{W:Nat->Prop}{w:World}:∀ {xs:List AV} {vs us:List Value},E1 xs vs->bT g W w xs us->us=vs
 | [],[],[],_,_=>rfl
 | _::_,_::_,_::_,h,k=>by rw[(h.1 g W w _).1 k.1,E1.args h.2 k.2]
 | [],_::_,_,h,_=>h.elim
 | _::_,[],_,h,_=>h.elim
 | [],[],_::_,_,k=>k.elim
 | _::_,_::_,[],_,k=>k.elim
def Fr.Aa {w w':World}(h:Ext w w'):Fr w w' (fun _=>False) :=
 ⟨h.os,h.tape,h.output,h.size,fun k hk _=>h.block k hk,fun k cur e fz hk=>⟨cur,(h.block k (Ws hk)).trans hk,rfl⟩⟩
def PS.fC {P:Program}{gl:Nat->AV}{f:FuncId}{args:List AV}{vs:List Value}{r:AV}{v:Value}(hc:BY P f)(ha:E1 args vs)(hr:Fix r v)
  (h:∀ w,Calls P f vs.toArray w fun e w'=>e=.returned v/\Ext w w'):PS P gl f args r :=
 ⟨hc,fun w us X _ _ hv=>by
  rw[ha.args hv];exact (h w).mono fun e w' ⟨e1,e2⟩=>⟨v,e1,(hr _ _ _ _).2 rfl,.Aa e2⟩⟩
def Fix.str:Fix (.str l) (.string ⟨l.toArray⟩):=fun _ _ _ u=>⟨fun h=>by cases h;rfl,fun h=>by subst h;exact .str _⟩
def E3 (h:l.length<=140737488351232):PS Tryz.prog gl 38 [.str l] (.int .i64 (dE l)) :=
 .fC (vs:=[.string ⟨l.toArray⟩]) ⟨_,Tryz.func38,by kernel_rfl,by kernel_rfl⟩ ⟨.str l,trivial⟩ (.int _ _) fun w=>Xxh ⟨l.toArray⟩ w h
def X4 (h:l.length<=140737488351232):PS Tryz.prog gl 120 [.str l] (.int .i64 (Yj l)) :=
 .fC (vs:=[.string ⟨l.toArray⟩]) ⟨_,Tryz.func120,by kernel_rfl,by kernel_rfl⟩ ⟨.str l,trivial⟩ (.int _ _)
  fun w=>(Xn6 ⟨l.toArray⟩ w (Nat.le_trans h aJ)).mono fun _ _ ⟨he,n,hn⟩=>⟨he,by rw[hn];exact Ext.drewN w n⟩
def Xrd (c m n:Int):PS Tryz.prog gl 166 [.int .i64 c,.int .i64 m,.int .i64 n] (.int .i64 (65535-qV (qV (65535-c%65536) (65535-m%65536)) n)) :=
 .fC (vs:=[.int .i64 c,.int .i64 m,.int .i64 n]) ⟨_,Tryz.func166,by kernel_rfl,by kernel_rfl⟩ ⟨.int _ _,.int _ _,.int _ _,trivial⟩ (.int _ _)
  fun w=>(Xg0 c m n w).mono fun _ _ ⟨he,hn⟩=>⟨he,by rw[hn];exact Ext.refl w⟩
def JM (h:l.length<=140737488351232):PS Tryz.prog gl 147 [.str l] (.int .i64 (dE l)) :=
 .fC (vs:=[.string ⟨l.toArray⟩]) ⟨_,Tryz.func147,by kernel_rfl,by kernel_rfl⟩ ⟨.str l,trivial⟩ (.int _ _) fun w=>T4 ⟨l.toArray⟩ w h
def E4 (h:l.length<=140737488351232):PS Tryz.prog gl 145 [.str l] (.int .i64 (Yj l)) :=
 .fC (vs:=[.string ⟨l.toArray⟩]) ⟨_,Tryz.func145,by kernel_rfl,by kernel_rfl⟩ ⟨.str l,trivial⟩ (.int _ _) fun w=>Xbi ⟨l.toArray⟩ w h
def OS:FT Tryz.prog 170 Tryz.f170 (aG Tryz.prog Tryz.f170) [.t 2]:=.of Tryz.func170
def X5:FT Tryz.prog 171 Tryz.f171 (aG Tryz.prog Tryz.f171) [.t 4]:=.of Tryz.func171
def Xka:FT Tryz.prog 172 Tryz.f172 (aG Tryz.prog Tryz.f172) [.t 4]:=.of Tryz.func172
def X6:FT Tryz.prog 158 Tryz.f158 (aG Tryz.prog Tryz.f158) [.t 4,.t 5]:=.of Tryz.func158
def Xwy:FT Tryz.prog 159 Tryz.f159 (aG Tryz.prog Tryz.f159) [.cell 8 (.ag 21),.t 9,.t 10]:=.of Tryz.func159
def Xb3:FT Tryz.prog 111 Tryz.f111 (aG Tryz.prog Tryz.f111) [.t 2,.t 3,.t 4]:=.of Tryz.func111
def Xbv:FT Tryz.prog 155 Tryz.f155 (aG Tryz.prog Tryz.f155) [.t 2]:=.of Tryz.func155
def E5:FT Tryz.prog 154 Tryz.f154 (aG Tryz.prog Tryz.f154) [.t 2]:=.of Tryz.func154
def X7:FT Tryz.prog 156 Tryz.f156 (aG Tryz.prog Tryz.f156) [.cell 8 (.ag 5),.t 9]:=.of Tryz.func156
def X8:FT Tryz.prog 117 Tryz.f117 (aG Tryz.prog Tryz.f117) [.cell 8 (.ag 5),.t 9]:=.of Tryz.func117
def JN:FT Tryz.prog 110 Tryz.f110 (aG Tryz.prog Tryz.f110) [.cell 10 (.ag 30),.cell 11 (.ag 5),.t 12,.t 13]:=.of Tryz.func110
def JO:FT Tryz.prog 118 Tryz.f118 (aG Tryz.prog Tryz.f118) [.cell 4 (.ag 30),.t 5,.t 6]:=.of Tryz.func118
def Xyz:FT Tryz.prog 157 Tryz.f157 (aG Tryz.prog Tryz.f157) [.cell 2 (.ag 30)]:=.of Tryz.func157
def X9:FT Tryz.prog 22 Tryz.f22 (aG Tryz.prog Tryz.f22) [.t 4]:=.of Tryz.func22
end Go.Proofs.YtogckmommodmhaaGreatDoor
namespace Go.Proofs.YtogckmommodmhaaGreatDoor
open Go.ChangeShapes Go.WideShapes Go.Deep Go.RowKit
open Go.RowKit
set_option linter.all false
set_option maxRecDepth 100000
section
variable {H:Type}{enc:TypeId×Value->H}{P:Program}{w:World}{base:Nat}{spare:Nat->Bool}{held:Bool}
def Qnv {t e:TypeId}{fs:Array Field}{fuel:Nat}{cs:List Value}{x:DataW H×List MemPlace}(ht:P.underlying t=some (.slice e))(he:P.underlying e=some (.struct fs))
  (OT:oneCellFields P fs=true) (hC:P.cellsOf e=fs.size) (h:DataW.trod enc P w base spare held fuel t cs=some x) :
  (cs=[.slice none 0 0]/\x=(.nil,[])) \/
  ∃ (a:Addr) (len cap m:Nat) (D:Nat→DataW H) (Pl:Nat→List MemPlace),cs=[.slice (some a) len cap]∧base≤a.block∧len≤cap∧cap≤maxLen∧m=(if spare a.block then cap else len) ∧
   x=(.slice ((List.range len).map D) ((List.range (m-len)).map fun j=>D (len+j)),MemPlace.row a (m*fs.size)++(List.range m).flatMap Pl) /\
   ∀ i,i < m→∃ (ys:List (DataW H × List MemPlace)) (n:Nat),D i=.agg (ys.map (·.1))∧Pl i=ys.flatMap (·.2)∧ys.length=fs.size ∧
    ∀ (j:Nat) (f:Field),fs[j]?=some f->∃ (v:Value) (y:DataW H×List MemPlace),w.cell? (a.add (i*fs.size+j))=some v/\ys[j]?=some y/\DataW.trod enc P w base spare held n f.type [v]=some y:=by
 rcases open_slice ht h with h0|⟨a,len,cap,m,n,D,Pl,iV,hb,hl,hm,ry,hx,hi⟩
 ·exact .inl h0
 ·refine .inr ⟨a,len,cap,m,D,Pl,iV,hb,hl,hm,ry,by rw[hC]at hx;exact hx,fun i xt=>?_⟩;obtain ⟨cs',hc,nu⟩:=hi i xt;rw[hC]at hc;obtain ⟨ys,n',oc,hy,hlen,Cm,hf⟩:=DataW.trod_struct he nu;obtain ⟨_,aY,uf⟩:=World.cells?_some hc;simp only[Prod.mk.injEq]at hy;refine ⟨ys,n',hy.1,hy.2,Cm,fun j f hj=>?_⟩;obtain ⟨ho,hk⟩:=hone_of OT j f hj;have oz:j<fs.size:=(Array.getElem?_eq_some_iff.1 hj).1;have eS:=uf j oz;have hv:cs'[j]?=some (cs'[j]'af):=List.getElem?_eq_getElem af;have h1:=hf j f hj;rw[ho,hk]at h1;have E6:(cs'.drop j).take 1=[cs'[j]'af]:=by
   rw[List.drop_eq_getElem_cons af];rfl
  rw[E6]at h1;have og:ys[j]?=some (ys[j]'af):=List.getElem?_eq_getElem af;refine ⟨_,_,?_,og,h1.trans og⟩;rw[<- Go.Deep.add_add,eS,hv]
structure sx (w:World)(v:Value)(n sz:Nat)(R:Nat->Nat->Value->Prop):Prop where
 form:∃ A cap,v=.slice A n cap/\n<=cap/\cap<=maxLen/\(0<n->∃ b o,A=some ⟨b,o,none⟩/\b<w.heap.size/\∀ i,i<n->∀ j,j<sz->∃ u,w.cell? ⟨b,o+(i*sz+j),none⟩=some u/\R i j u)
end
end Go.Proofs.YtogckmommodmhaaGreatDoor
