import Derived.Test.YtogckmommodmhaaGreatDoorZy6
import Derived.Deep.Fields
import Derived.Deep.MidRow
namespace Go.Proofs.YtogckmommodmhaaGreatDoor
open Go.RowKit
set_option linter.all false
set_option maxRecDepth 100000
variable {c:Cx}{σ:Nat->Nat}{p:List Nat}{s:St}{w:World}{y:AV}{cs':List AV}{b:Nat}{cs:List AV}{u:Value}(gl:Nat->AV)(t:List (Nat×AV))(l:List UInt8)(m i:Nat)
section
variable {P:Program}{c:Cx}{g:Nat->GM}{a:Act}{w:World}
def R.gK {s s':FS}(hR:R c g s a w)(hT:∀ i v,VR g (Qm c g s) w (s.T i) v->VR g (Qm c g s) w (s'.T i) v)(hB:∀ b,BR g (Qm c g s) w (g b) (s.H b)->BR g (Qm c g s) w (g b) (s'.H b))(hl:∀ b,(s'.H b).live ↔ (s.H b).live):R c g s' a w:=by
 have hW:Qm c g s'=Qm c g s:=by funext i;simp only[Qm,hl]
 refine ⟨hR.size,hR.ew,fun i=>?_,fun i=>?_,fun b=>?_,fun x y k hx hy=>hR.inj x y k ((hl x).1 hx) ((hl y).1 hy),fun x k hx=>hR.old x k ((hl x).1 hx),hR.fr,hR.xs,hR.jj⟩
 ·rw[hW];exact hT i _ (hR.t i)
 ·rw[hW];exact hR.gl i
 ·rw[hW];exact hB b (hR.h b)
def R.EK {s:FS}{n:Nat}(hR:R c g s a w)(hf:s.H n=.free):R c (Zg g n .ph) (s.aH n (.cells [])) a w:=by
 have kA:g n=.un:=by
  have:=hR.h n;rw[hf]at this;generalize g n=m at this;cases this;rfl
 have cb:∀ {b k},Zg g n .ph b=.re k->b≠n/\g b=.re k:=fun {b k} h=>by
  unfold Zg at h;split at h
  ·cases h
  ·rename_i hb;exact ⟨hb,h⟩
 have hg:∀ b,g b≠.un->Zg g n .ph b=g b:=Bs kA;have hH:∀ b,b≠n->(s.aH n (.cells [])).H b=s.H b:=fun b hb=>by rw[FS.a7,aa fun e=>hb e.symm]
 have hW:∀ k,Qm c (Zg g n .ph) (s.aH n (.cells [])) k->Qm c g s k:=by
  rintro k (h|⟨b,h1,h2⟩)
  ·exact .inl h
  ·obtain ⟨hb,h3⟩:=cb h2;rw[hH b hb]at h1;exact .inr ⟨b,h1,h3⟩
 have mono:∀ {v u},VR g (Qm c g s) w v u->VR (Zg g n .ph) (Qm c (Zg g n .ph) (s.aH n (.cells []))) w v u:=fun h=>h.mono (Fr.refl _ _) (fun k _=>hW k) hg;refine ⟨hR.size,hR.ew,fun j=>mono (hR.t j),fun j=>(hR.gl j).mono (Fr.refl _ _) (fun k _=>hW k) (fun _ _=>rfl),fun b=>?_,fun b b' k h1 h2 e1 e2=>?_,fun b k h1 e1=>?_,hR.fr,hR.xs,HA hR kA⟩
 ·by_cases hb:b=n
  ·subst hb;rw[FS.a7,am rfl];unfold Zg;rw[am rfl];exact .ph
  ·rw[hH b hb];have:Zg g n .ph b=g b:=by unfold Zg;rw[aa hb]
   rw[this];exact (hR.h b).mono (Fr.refl _ _) (fun k _=>hW k) hg (fun _ _ _=>rfl)
 ·obtain ⟨b1,g1⟩:=cb e1;obtain ⟨b2,g2⟩:=cb e2;rw[hH b b1]at h1;rw[hH b' b2]at h2;exact hR.inj b b' k h1 h2 g1 g2
 ·obtain ⟨b1,g1⟩:=cb e1;rw[hH b b1]at h1;exact hR.old b k h1 g1
def BR.ka {W:Nat->Prop}{m:GM}  (h:BR g W w m (.cells cs))(hl:cs'.length=cs.length)(hv:∀ j v,j<cs.length->VR g W w (cs.getD j .any) v->VR g W w (cs'.getD j .any) v):BR g W w m (.cells cs'):=by
 cases h with
 | ph =>
  obtain rfl:cs'=[]:=List.eq_nil_of_length_eq_zero hl;exact .ph
 | cells hb h1 h2 h3 h4=>exact .cells hb af (fun j hj=>h2 j af) (fun j hj=>hv j _ af (h3 j af)) h4
end
def To.jS {b j es:Nat}  (hb:Qc s.h s.n b=.cells cs)(hj:cs[j]?=some .nils)(hf:s.fs.H s.n=.free) :
  To p s ⟨s.t,(b,.cells (cs.set j (.sl es s.n 0 0 0)))::(s.n,.cells [])::s.h,s.n+1⟩:=fun c g a w _ hR=>by
 have dH:b≠s.n:=fun e=>by
  have:s.fs.H b=.cells cs:=hb;rw[e,hf]at this;cases this
 refine ⟨Zg g s.n .ph,?_⟩;have h1:=hR.EK hf;have hH:∀ i,(⟨s.t,(b,.cells (cs.set j (.sl es s.n 0 0 0)))::(s.n,.cells [])::s.h,s.n+1⟩:St).fs.H i=if b=i then .cells (cs.set j (.sl es s.n 0 0 0)) else (s.fs.aH s.n (.cells [])).H i:=fun i=>by
  show Qc ((b,_)::(s.n,_)::s.h) (s.n+1) i=_;rw[Qf,FS.a7,Qf];split
  ·rfl
  ·split
   ·rfl
   ·rename_i h;exact Ku _ _ _ fun e=>h e.symm
 have hb2:(s.fs.aH s.n (.cells [])).H b=.cells cs:=by rw[FS.a7,aa fun e=>dH e.symm];exact hb
 refine h1.gK (fun i v h=>h) (fun i h=>?_) fun i=>?_
 ·rw[hH];split
  ·rename_i e;subst e;rw[hb2]at h;refine h.ka aw fun k v hk hv=>?_;by_cases XI:j=k
   ·subst XI;have e1:cs.getD j .any=.nils:=by simp[List.getD,hj]
    have e2:(cs.set j (.sl es s.n 0 0 0)).getD j .any=.sl es s.n 0 0 0:=by simp[List.getD,List.getElem?_set,hk]
    rw[e1]at hv;rw[e2];cases hv;exact .kz (by unfold Zg;rw[am rfl]) rfl
   ·have:(cs.set j (.sl es s.n 0 0 0)).getD k .any=cs.getD k .any:=by simp[List.getD,List.getElem?_set,XI]
    rw[this];exact hv
  ·exact h
 ·rw[hH];split
  ·rename_i e;subst e;rw[hb2];exact Iff.rfl
  ·exact Iff.rfl
def Wk (x y:AV):Prop:=∀ (g:Nat->GM) (W:Nat->Prop) (w:World) (v:Value),VR g W w x v->VR g W w y v
def Wk.refl (x:AV):Wk x x:=fun _ _ _ _ h=>h
def Wk.nils:Wk .nils (.isl 0 []):=fun g W w v h=>by
 cases h;exact .isl (us:=fun _=>undef) (Nat.le_refl 0) (by simp[maxLen]) (fun j hj=>by simp at hj) fun j hj=>by simp at hj
def Wk.cap (es b off n c:Nat):Wk (.sl es b off n c) (.sl es b off n n):=fun g W w v h=>by
 cases h with
 | sl hg hn hc hm hb hs=>exact .sl hg (Nat.le_refl _) af hm hb hs
 | kz hg hc=>exact .kz hg rfl
def Wk.OE {x x' y y':AV}(h:Wk x x')(k:Wk y y'):Wk (.aR [x,y]) (.aR [x',y']):=fun g W w v hv=>by
 obtain ⟨us,rfl,h1,h2⟩:=Dz hv;refine .aR (by simpa using h1) fun j hj=>?_;have h3:=h2 j (by simpa using hj);have hj:j<2:=by simpa using hj
 obtain rfl|rfl:j=0\/j=1:=by omega
 ·exact h g W w _ (by simpa [List.getD] using h3)
 ·exact k g W w _ (by simpa [List.getD] using h3)
def To.XJ (h:Wk (look s.t i) y):To p s ⟨(i,y)::s.t,s.h,s.n⟩:=fun c g a w _ hR=>by
 refine ⟨g,hR.gK (fun k v hv=>?_) (fun _ h=>h) fun _=>Iff.rfl⟩;show VR _ _ _ (look ((i,y)::s.t) k) v;rw[Jk];split
 ·rename_i e;subst e;exact h _ _ _ _ hv
 ·exact hv
def To.XK (hb:Qc s.h s.n b=.cells cs)(hl:cs'.length=cs.length)(hv:∀ j,j<cs.length->Wk (cs.getD j .any) (cs'.getD j .any)):To p s ⟨s.t,(b,.cells cs')::s.h,s.n⟩:=fun c g a w _ hR=>by
 have hH:∀ i,(⟨s.t,(b,.cells cs')::s.h,s.n⟩:St).fs.H i=if b=i then .cells cs' else s.fs.H i:=fun i=>by
  show Qc ((b,_)::s.h) s.n i=_;rw[Qf];rfl
 refine ⟨g,hR.gK (fun k v hv=>hv) (fun i h=>?_) fun i=>?_⟩
 ·rw[hH];split
  ·rename_i e;subst e;rw[show s.fs.H b=.cells cs from hb]at h;exact h.ka hl fun j v hj=>hv j hj _ _ _ _
  ·exact h
 ·rw[hH];split
  ·rename_i e;subst e;rw[show s.fs.H b=.cells cs from hb];exact Iff.rfl
  ·exact Iff.rfl
def VR.froze {g:Nat->GM}{s:FS}{a:Act}  (hR:R c g s a w){es b off n k:Nat}  (hb:s.H b=.cells cs)  (h:VR g (Qm c g s) w (.sl es b off n k) u) :
  VR g (Qm c g (s.aH b .dead)) w (.isl n ((cs.drop off).take (n*es))) u:=by
 have ez:=hR.h b;rw[hb]at ez;rcases qM h with ⟨kk,cap,e,cur,fz,rfl,hg,h1,h2,h3,h4,h5⟩|⟨wL,rfl,hg,rfl,rfl⟩
 ·rw[hg]at ez;have hx:¬ Qm c g (s.aH b .dead) kk:=by
   rintro (hx|⟨b',h6,h7⟩)
   ·exact U9 hR (by rw[hb];trivial) hg hx
   ·rw[FS.a7]at h6;split at h6
    ·exact h6.elim
    ·rename_i cb;exact cb (hR.inj b b' kk (by rw[hb];trivial) h6 hg h7)
  cases ez with
  | cells hb2 hl iD hv hz =>
   rename_i Ni e2 fz2;rw[h4]at hb2;cases hb2;have hlen:∀ j,j<((cs.drop off).take (n*es)).length->off+j<cs.length/\j<n*es:=fun j hj=>by simp at hj;omega
   refine .isl (us:=fun j=>cur.getD (off+j) undef) af h3 (fun j hj=>?_) fun j hj=>?_
   ·obtain ⟨qN,eI⟩:=hlen j hj;refine ⟨kk,off,rfl,?_,hx,iD _ qN⟩;have:=cell_of_row w kk (off + j) cur e fz h4;unfold Uv;rw[this];have:off + j < cur.size:=by omega
    simp[Array.getD,this]
   ·obtain ⟨qN,eI⟩:=hlen j hj;have ee:((cs.drop off).take (n * es)).getD j .any=cs.getD (off + j) .any:=by simp only[List.getD,List.getElem?_take,List.getElem?_drop,am eI]
    rw[ee];exact (hv _ qN).mono (Fr.refl _ _) (fun k _=>Hz k) (fun _ _=>rfl)
 ·refine .isl (us:=fun _=>undef) (Nat.le_refl 0) (by simp[maxLen]) (fun j hj=>?_) fun j hj=>?_
  ·simp at hj
  ·simp at hj
def VR.dead {g:Nat->GM}{s:FS}   {x:AV}  (h:VR g (Qm c g s) w x u):VR g (Qm c g (s.aH b .dead)) w x u:=h.mono (Fr.refl _ _) (fun k _=>Hz k) (fun _ _=>rfl)
def To.xl {b i:Nat}{v':AV}(hl:(s.fs.H b).live)(hv:∀ (c:Cx) (g:Nat->GM) (a:Act) (w:World),R c g s.fs a w->∀ u,VR g (Qm c g s.fs) w (look s.t i) u->VR g (Qm c g (s.fs.aH b .dead)) w v' u) :
  To p s ⟨(i,v')::s.t,(b,.dead)::s.h,s.n⟩:=fun c g a w _ hR=>by
 have hb:g b≠.un:=fun e=>by
  have:=hR.h b;rw[e]at this;exact this.gE hl
 have hk:=hR.kill hb;have e:(⟨(i,v')::s.t,(b,.dead)::s.h,s.n⟩:St).fs=(s.fs.aH b .dead).put i v':=by
  rw[<- St.cj,<- St.bS];rfl
 refine ⟨g,?_⟩;rw[e];refine ⟨hk.size,hk.ew,fun j=>?_,hk.gl,hk.h,hk.inj,hk.old,hk.fr,hk.xs,hk.jj⟩;show VR g _ w (if i=j then v' else s.fs.T j) _;split
 ·rename_i e;subst e;exact hv c g a w hR _ (hR.t i)
 ·exact hk.t j
def To.fZ {b i es off n k:Nat}  (hb:Qc s.h s.n b=.cells cs)(hi:look s.t i=.sl es b off n k):To p s ⟨(i,.isl n ((cs.drop off).take (n*es)))::s.t,(b,.dead)::s.h,s.n⟩ :=
 To.xl (by rw[show s.fs.H b=.cells cs from hb];trivial) fun c g a w hR u hu=>by
  rw[hi]at hu;exact VR.froze hR hb hu
def To.OF {b i es off n k:Nat}   (hb:Qc s.h s.n b=.cells cs)(hi:look s.t i=.aR [.sl es b off n k,y]):To p s ⟨(i,.aR [.isl n ((cs.drop off).take (n*es)),y])::s.t,(b,.dead)::s.h,s.n⟩ :=
 To.xl (by rw[show s.fs.H b=.cells cs from hb];trivial) fun c g a w hR u hu=>by
  rw[hi]at hu;obtain ⟨us,rfl,h1,h2⟩:=Dz hu;refine .aR (by simpa using h1) fun j hj=>?_;have h3:=h2 j (by simpa using hj);have hj:j<2:=by simpa using hj
  obtain rfl|rfl:j=0\/j=1:=by omega
  ·exact VR.froze hR hb (by simpa [List.getD] using h3)
  ·exact VR.dead (by simpa [List.getD] using h3)
def Cm (t:List (Nat×AV)):List (Nat×AV)->Prop
 | []=>True
 | q::r=>look t q.1=q.2/\Cm t r
def XL {t:List (Nat×AV)}:∀ {t':List (Nat×AV)},Cm t t'->∀ i,look t' i=.any\/look t' i=look t i
 | [],_,_=>.inl rfl
 | (j,v)::r,h,i=>by
  rw[Jk];split
  ·rename_i e;subst e;exact .inr h.1.symm
  ·exact XL h.2 i
def To.fN {t t':List (Nat×AV)}{h h':List (Nat×Bk)}{n n':Nat}(hs:Cm t t')(hh:∀ b,Qc h' n' b=Qc h n b):To p ⟨t,h,n⟩ ⟨t',h',n'⟩:=fun c g a w _ hR=>by
 refine ⟨g,hR.gK (fun i v hv=>?_) (fun b hb=>?_) fun b=>?_⟩
 ·show VR _ _ _ (look t' i) v;rcases XL hs i with e|e
  ·rw[e];exact .any _
  ·rw[e];exact hv
 ·show BR _ _ _ _ (Qc h' n' b);rw[hh];exact hb
 ·show (Qc h' n' b).live ↔ (Qc h n b).live;rw[hh]
theorem Xkq:Cm t []=True:=rfl
theorem Xce (v:AV)(r:List (Nat×AV)):Cm t ((i,v)::r)=(look t i=v/\Cm t r):=rfl
attribute [go_sem] Xkq Xce
theorem Qqi {σ:Type}(p:List Nat)(I:σ->Prop)(c5:σ->St)(μ:σ->Nat)(x:σ)(Q:EX->St->Prop)(s:St):I0 p I c5 μ x Q .normal s=∃ y,I y/\To p s (c5 y)/\μ y<μ x:=rfl
theorem Xac {σ:Type}(p:List Nat)(I:σ->Prop)(c5:σ->St)(μ:σ->Nat)(x:σ)(Q:EX->St->Prop)(s:St):I0 p I c5 μ x Q .ret s=Q .ret s:=rfl
theorem Quj {σ:Type}(p:List Nat)(I:σ->Prop)(c5:σ->St)(μ:σ->Nat)(x:σ)(Q:EX->St->Prop)(i:Nat)(s:St):I0 p I c5 μ x Q (.exit i) s=Q (.exit i) s:=rfl
theorem Xgj {ι:Type}  (p:List Nat)(rs:List RS)(Q:ι->Prop)(r:ι->AV)(ax:ι->List (Nat×Bk))(s:St):I2 m p rs Q r ax .ret s=(Ue s.fs rs/\∃ x,Q x/\To p ⟨[(0,iy s.fs rs)],s.h,s.n⟩ ⟨[(0,r x)],ax x,m⟩):=rfl
theorem Quo {ι:Type}  (p:List Nat)(rs:List RS)(Q:ι->Prop)(r:ι->AV)(ax:ι->List (Nat×Bk))(s:St):I2 m p rs Q r ax .normal s=(Ue s.fs rs/\∃ x,Q x/\To p ⟨[(0,iy s.fs rs)],s.h,s.n⟩ ⟨[(0,r x)],ax x,m⟩):=rfl
attribute [go_sem] Qqi Xac Quj Xgj Quo
def GS.wk {P:Program}{gl:Nat->AV}{f:FuncId}{args:List AV}{aK ax:List (Nat×Bk)}{m n:Nat}{r r':AV}(h:GS P gl f args aK m r ax n)(hr:Wk r r'):GS P gl f args aK m r' ax n:=by
 refine ⟨h.1,fun w vs G X g hR hv=>(h.2 w vs G X g hR hv).mono ?_⟩;rintro e w' ⟨v,g',q1,q2,q3,q4⟩;exact ⟨v,g',q1,q2,q3,hr _ _ _ _ q4⟩
def dz (σ:Nat->Nat)(p:List Nat)(n0 b:Nat):Nat:=bif p.contains b then σ b else n0+b
def Us {n0 b:Nat}(h:b ∈ p):dz σ p n0 b=σ b:=by
 unfold dz;rw[List.contains_iff_mem.2 h];rfl
theorem Uh {n0 b:Nat}(h:b ∉ p):dz σ p n0 b=n0+b:=by
 unfold dz;cases e:p.contains b with
 | true=>exact absurd (List.contains_iff_mem.1 e) h
 | false=>rfl
def XN {σ:Nat->Nat}{p:List Nat}{m n0:Nat}(ct:∀ b b',b<m->b'<m->σ b=σ b'->b=b')(hlt:∀ b,b<m->σ b<n0){b b':Nat}(hb:b<m)(bL:b'<m)(e:dz σ p n0 b=dz σ p n0 b'):b=b':=by
 by_cases h1:b ∈ p<;>by_cases h2:b' ∈ p
 ·rw[Us h1,Us h2]at e;exact ct _ _ hb bL e
 ·rw[Us h1,Uh h2]at e;have:=hlt b hb;omega
 ·rw[Uh h1,Us h2]at e;have:=hlt b' bL;omega
 ·rw[Uh h1,Uh h2]at e;omega
section
variable {P:Program}{c:Cx}
def Ycg {σ:Nat->Nat}{n0:Nat}{s s3:FS}{a:Act}{w w':World}{g g1 g2:Nat->GM}{h h':List (Nat×Bk)}{m:Nat}{p:List Nat}(hR:R c g s a w)(ct:∀ b b',b<m->b'<m->σ b=σ b'->b=b')(hlt:∀ b,b<m->σ b<n0)(bq:∀ b,b<m->s.H (n0+b)=.free)
  (hh:HL h m) (tT:HL h' m) (fit:∀ b,b<m->s.H (σ b)=Qw σ (Qc h m b)) (hp:∀ b ∈ p,b<m)
  (iR:∀ b,b<m->g (σ b)≠.un->g (σ b)=g1 b) (oX:∀ b,b ∈ p->g2 b=g1 b) (cq:R (qW c g s w σ h m) g2 (dC h' m) ⟨#[],[]⟩ w')
  (Ov:∀ i,s3.T i=s.T i) (EF:∀ b,b<m->s3.H (dz σ p n0 b)=Qw (dz σ p n0) (Qc h' m b)) (I6:∀ b,b<m->b ∉ p->s3.H (σ b)=.dead) (I7:∀ b,b ∈ p->s3.H (n0+b)=.dead)
  (zL:∀ j,mz σ m j->(∀ b,b<m->n0+b≠j)->s3.H j=s.H j) :
  ∃ g3,R c g3 s3 a w'/\∀ {r:AV} {v:Value},Qe m r->VR g2 (Qm (qW c g s w σ h m) g2 (dC h' m)) w' r v->VR g3 (Qm c g3 s3) w' (aA (dz σ p n0) r) v:=by
 have dG:∀ b,b<m->(Qc h m b).live:=fun b hb=>by
  obtain ⟨_,q,hq,_,e⟩:=hh.live hb m;rw[e];exact Xb (hh.mem q hq).2
 have j1:∀ b,b<m->(Qc h' m b).live:=fun b hb=>by
  obtain ⟨_,q,hq,_,e⟩:=tT.live hb m;rw[e];exact Xb (tT.mem q hq).2
 have eN:∀ b,b<m->(s.H (σ b)).live:=fun b hb=>by rw[fit b hb,BP];exact dG b hb
 have named:∀ b,b<m->g (σ b)≠.un:=fun b hb e=>(e ▸ hR.h (σ b)).gE (eN b hb);have zO:∀ b,b<m->g2 b≠.un:=fun b hb e=>by
  have:=cq.h b;rw[e]at this;exact this.gE (j1 b hb)
 have unf:∀ b,b<m->g (n0+b)=.un:=fun b hb=>by
  have:=hR.h (n0+b);rw[bq b hb]at this;generalize g (n0+b)=x at this;cases this;rfl
 have low:∀ b,(Qc h m b).live->b<m:=fun b hl=>by
  rcases Jh h m b with q|⟨q,hq,rfl,_⟩
  ·rw[q]at hl;split at hl<;>exact hl.elim
  ·exact (hh.mem q hq).1
 let g3:Nat->GM:=fun j=>if n0<=j/\j<n0+m then g2 (j-n0) else g j
 have XO:∀ b,b<m->g3 (n0+b)=g2 b:=fun b hb=>by
  show (if n0<=n0+b/\n0+b<n0+m then g2 (n0+b-n0) else g (n0+b))=g2 b;rw[am af,Nat.add_sub_cancel_left]
 have tU:∀ j,(∀ b,b<m->n0+b≠j)->g3 j=g j:=fun j hj=>by
  show (if _ then _ else _)=_;rw[aa];rintro ⟨h1,h2⟩;exact hj (j-n0) af af
 have gk:∀ j,g j≠.un->g3 j=g j:=fun j hj=>tU j fun b hb e=>hj (e ▸ unf b hb);have OG:∀ b,b<m->∀ b',b'<m->n0+b'≠σ b:=fun b hb b' bL=>by have:=hlt b hb;omega
 have XQ:∀ b,b<m->g3 (σ b)=g (σ b):=fun b hb=>tU _ fun b' bL=>OG b hb b' bL;have gm:∀ b,b<m->g3 (dz σ p n0 b)=g2 b:=fun b hb=>by
  by_cases fO:b ∈ p
  ·rw[Us fO,XQ b hb,oX b fO];exact iR b hb (named b hb)
  ·rw[Uh fO];exact XO b hb
 have part:∀ j,(∃ b,b<m/\dz σ p n0 b=j)\/(∃ b,b<m/\b ∉ p/\σ b=j)\/(∃ b,b ∈ p/\n0+b=j)\/(mz σ m j/\∀ b,b<m->n0+b≠j):=fun j=>by
  by_cases e1:∃ b,b<m/\dz σ p n0 b=j
  ·exact .inl e1
  by_cases e2:∃ b,b<m/\σ b=j
  ·obtain ⟨b,hb,e⟩:=e2;exact .inr (.inl ⟨b,hb,fun fO=>e1 ⟨b,hb,by rw[Us fO];exact e⟩,e⟩)
  by_cases e3:∃ b,b<m/\n0+b=j
  ·obtain ⟨b,hb,e⟩:=e3;by_cases fO:b ∈ p
   ·exact .inr (.inr (.inl ⟨b,fO,e⟩))
   ·exact (e1 ⟨b,hb,by rw[Uh fO];exact e⟩).elim
  ·exact .inr (.inr (.inr ⟨fun b h1 h2=>e2 ⟨b,h1,h2⟩,fun b h1 h2=>e3 ⟨b,h1,h2⟩⟩))
 have hf:Fr w w' (rS g σ h m):=cq.fr;have Ca:∀ k,rS g σ h m k->Qm c g s k:=fun k ⟨b,h1,h2⟩=>.inr ⟨σ b,eN b (low b h1),h2⟩;have rV:Fr w w' (Qm c g s):=hf.weak Ca;have tL:∀ j k,mz σ m j->(s.H j).live->g j=.re k->¬ rS g σ h m k:=fun j k h1 h2 h3 ⟨b,q1,q2⟩ =>
  h1 b (low b q1) (hR.inj (σ b) j k (eN b (low b q1)) h2 q2 h3)
 have gG:∀ b k,b<m->g2 b=.re k->w.heap.size<=k\/∃ b0,b0<m/\g (σ b0)=.re k:=fun b k hb hk=>by
  rcases cq.old b k (j1 b hb) hk with h|⟨b0,q1,q2⟩
  ·exact .inl h
  ·exact .inr ⟨b0,low b0 q1,q2⟩
 have dq:∀ j,(s3.H j).live->(∃ b,b<m/\dz σ p n0 b=j)\/(mz σ m j/\(∀ b,b<m->n0+b≠j)/\(s.H j).live):=fun j hl=>by
  rcases part j with h|⟨b,hb,fO,rfl⟩|⟨b,fO,rfl⟩|⟨h1,h2⟩
  ·exact .inl h
  ·rw[I6 b hb fO]at hl;exact hl.elim
  ·rw[I7 b fO]at hl;exact hl.elim
  ·rw[zL j h1 h2]at hl;exact .inr ⟨h1,h2,hl⟩
 have qd:∀ k,k<w.heap.size->Qm c g3 s3 k->Qm c g s k:=by
  rintro k hk (h|⟨j,h1,h2⟩)
  ·exact .inl h
  ·rcases dq j h1 with ⟨b,hb,rfl⟩|⟨hj,eI,hl⟩
   ·rw[gm b hb]at h2;rcases gG b k hb h2 with h|⟨b0,q1,q2⟩
    ·omega
    ·exact .inr ⟨σ b0,eN b0 q1,q2⟩
   ·rw[tU j eI]at h2;exact .inr ⟨j,hl,h2⟩
 have qe:∀ k,Qm c g3 s3 k->Qm (qW c g s w σ h m) g2 (dC h' m) k:=by
  rintro k (h|⟨j,h1,h2⟩)
  ·refine .inl ⟨.inl h,fun ⟨b,q1,q2⟩=>?_⟩;obtain ⟨x1,x2⟩:=hR.xs k h;rcases hR.old (σ b) k (eN b (low b q1)) q2 with h|h
   ·omega
   ·exact x2 h
  ·rcases dq j h1 with ⟨b,hb,rfl⟩|⟨hj,eI,hl⟩
   ·rw[gm b hb]at h2;exact .inr ⟨b,j1 b hb,h2⟩
   ·rw[tU j eI]at h2;exact .inl ⟨.inr ⟨j,hl,h2⟩,tL j k hj hl h2⟩
 have EL:=fun {b b'}=>@XN σ p m n0 ct hlt b b';refine ⟨g3,⟨hR.size,hR.ew,fun i=>?_,fun i=>(hR.gl i).mono rV qd (fun _ _=>rfl),fun j=>?_,fun j j' k h1 h2 e1 e2=>?_,fun j k h1 e1=>?_,hR.fr.trans hf fun k hk ⟨b,q1,q2⟩=>?_,hR.xs,fun q hq=>?_⟩,fun {r v} hn hv=>?_⟩
 ·rw[Ov];exact (hR.t i).mono rV qd gk
 ·rcases part j with ⟨b,hb,rfl⟩|⟨b,hb,fO,rfl⟩|⟨b,fO,rfl⟩|⟨hj,eI⟩
  ·rw[gm b hb,EF b hb];have ez:=cq.h b;have e:(dC h' m).H b=Qc h' m b:=rfl;rw[e]at ez;obtain ⟨_,q,hq,_,eq⟩:=tT.live hb m;rw[eq]at ez ⊢;exact ez.bv (n:=m) gm (tT.mem q hq).2 qe
  ·rw[I6 b hb fO,XQ b hb];exact .dead (named b hb)
  ·rw[I7 b fO,XO b (hp b fO)];exact .dead (zO b (hp b fO))
  ·rw[tU j eI,zL j hj eI];refine (hR.h j).mono rV qd gk fun k hk hl=>hf.ig k ?_ (tL j k hj hl hk);exact BR.lt (hk ▸ hR.h j) hl
 ·change g3 j=_ at e1;change g3 j'=_ at e2;rcases dq j h1 with ⟨b,hb,rfl⟩|⟨hj,eI,hl⟩<;>rcases dq j' h2 with ⟨b',bL,rfl⟩|⟨c4,EM,lX⟩
  ·rw[gm b hb]at e1;rw[gm b' bL]at e2;rw[cq.inj b b' k (j1 b hb) (j1 b' bL) e1 e2]
  ·rw[gm b hb]at e1;rw[tU j' EM]at e2;have hlt:=BR.lt (e2 ▸ hR.h j') lX;rcases gG b k hb e1 with h|⟨b0,q1,q2⟩
   ·omega
   ·exact (c4 b0 q1 (hR.inj (σ b0) j' k (eN b0 q1) lX q2 e2)).elim
  ·rw[gm b' bL]at e2;rw[tU j eI]at e1;have hlt:=BR.lt (e1 ▸ hR.h j) hl;rcases gG b' k bL e2 with h|⟨b0,q1,q2⟩
   ·omega
   ·exact (hj b0 q1 (hR.inj (σ b0) j k (eN b0 q1) hl q2 e1)).elim
  ·rw[tU j eI]at e1;rw[tU j' EM]at e2;exact hR.inj j j' k hl lX e1 e2
 ·change g3 j=_ at e1;rcases dq j h1 with ⟨b,hb,rfl⟩|⟨hj,eI,hl⟩
  ·rw[gm b hb]at e1;rcases gG b k hb e1 with h|⟨b0,q1,q2⟩
   ·have:=hR.fr.size;exact .inl af
   ·exact hR.old (σ b0) k (eN b0 q1) q2
  ·rw[tU j eI]at e1;exact hR.old j k hl e1
 ·rcases hR.old (σ b) k (eN b (low b q1)) q2 with h|h
  ·omega
  ·exact h
 ·obtain ⟨q1,q2⟩:=hR.jj q hq;refine ⟨?_,q2⟩;show g3 q.1=_;rw[gk q.1 (by rw[q1];exact q2),q1]
 ·exact (hv.bv (ρ:=dz σ p n0) (g:=g3) gm hn).mono (Fr.refl _ _) (fun k _=>qe k) (fun _ _=>rfl)
structure so (gl:Nat->AV)(xs:List TV)(v:Bool)(f:FuncId)(args:List AV)(σ:Nat->Nat)(p:List Nat)(m:Nat)(t:List (Nat×AV))(ex aK:List (Nat×Bk))(n:Nat):Prop where
 inj:∀ b b',b<m->b'<m->σ b=σ b'->b=b'
 lt:∀ b,b<m->σ b<n
 hl:HL aK m
 jj:∀ b ∈ p,b<m
 hex:∀ q ∈ ex,mz σ m q.1/\q.1<n
 fb:Qq none (aC gl (⟨t,ex++Xa σ aK,n⟩:St).fs xs)
 aM:qi v f ((aC gl (⟨t,ex++Xa σ aK,n⟩:St).fs xs).map Qh)=some (f,ay σ args)
 nm:ah m args
def jy (σ:Nat->Nat)(m n:Nat):List Nat:=(List.range m).map σ++(List.range m).map fun b=>n+b
def vr {m n j:Nat}:j ∈ jy σ m n ↔ (∃ b,b<m/\σ b=j)\/∃ b,b<m/\n+b=j:=by simp[jy]
def Jr (t:List (Nat×AV))(ex ax:List (Nat×Bk))(σ:Nat->Nat)(p:List Nat)(m n:Nat)(d:Option Nat)(r:AV):St:=St.cd ⟨t,ex++Xa (dz σ p n) ax,n+m⟩ d (aA (dz σ p n) r)
def OH {v:Bool}{d:Option Nat}{k:PK}{f:FuncId}{xs:List TV}{args:List AV}{aK ax:List (Nat×Bk)}{σ:Nat->Nat}{m n:Nat}{p:List Nat}{r:AV}{t:List (Nat×AV)}{ex:List (Nat×Bk)}(hq:GQ P c.gl f args aK m p (fun _:Unit=>True) (fun _=>r) (fun _=>ax))
  (ok:so c.gl xs v f args σ p m t ex aK n) (hk:k=(bif v then .dg else .call f)) (gJ:HL ax m) (hr:Qe m r):Kn P c (.pd d k xs none) (⟨t,ex++Xa σ aK,n⟩:St).fs ⟨Xf xs,jy σ m n,d.toList,jy σ m n⟩ (Jr t ex ax σ p m n d r).fs:=by
 intro ops io he;obtain ⟨aV,a8,hd,ys,aD,rfl⟩:=Zj he;have jv:∀ (s2:FS) (g:Nat->GM) (a:Act) (w:World),(∀ i ∈ Xf (ys.map aP),s2.T i=(⟨t,ex++Xa σ aK,n⟩:St).fs.T i)->R c g s2 a w->∃ vs:List Value,(execOp a.eval io).run P w=.ok (.enter f vs.toArray) w/\bR g (Qm c g s2) w (ay σ args) vs:=fun s2 g a w hT hR=>by
  have aM:=ok.aM;have uQ:=ok.fb;cases v with
  | false =>
   subst hk;obtain ⟨ts,hop⟩:=BS aD;have bj:aC c.gl s2 (ys.map aP)=aC c.gl (⟨t,ex++Xa σ aK,n⟩:St).fs (ys.map aP):=Ya fun i hi=>hT i hi;have hv:=Yi (hR.ci ys) (by rw[bj];exact uQ);rw[bj]at hv;simp only[qi,cond_false,Option.some.injEq,Prod.mk.injEq,true_and]at aM;rw[aM]at hv;exact ⟨_,BT hq.1 hop a w,hv⟩
  | true =>
   subst hk;obtain ⟨x,ys,ts,rfl,hop⟩:=NW aD;have bj:aC c.gl s2 ((x::ys).map aP)=aC c.gl (⟨t,ex++Xa σ aK,n⟩:St).fs ((x::ys).map aP):=Ya fun i hi=>hT i hi;have hv:=Yi (hR.ci (x::ys)) (by rw[bj];exact uQ);rw[bj]at hv;simp only[qi,cond_true]at aM;generalize (aC c.gl (⟨t,ex++Xa σ aK,n⟩:St).fs ((x::ys).map aP)).map Qh=zs at aM hv;cases zs with
   | nil=>simp[vf]at aM
   | cons z zs =>
    unfold vf at aM;split at aM
    ·rename_i f' rY r' heq;simp only[Option.some.injEq,Prod.mk.injEq]at aM;obtain ⟨rfl,aM⟩:=aM;simp only[List.cons.injEq]at heq;obtain ⟨rfl,rfl⟩:=heq;rw[List.map_cons]at hv;obtain ⟨h1,h2⟩:=hv;generalize hx:a.eval x=vx at h1;cases h1 with
     | cl hs h =>
      refine ⟨_,NY hq.1 hop a w _ hx,?_⟩;rw[<- aM];exact IF h2 (IG (xs:=rY) (us:=Array.toList _) (by simpa using hs) fun j hj=>by
       have:=h j hj;simpa [Array.getD_eq_getD_getElem?,List.getD] using this)
    ·cases aM
 have vg:∀ (y:Option Nat) j,((Jr t ex ax σ p m n y r).fs.H j)=Qc (ex++Xa (dz σ p n) ax) (n+m) j:=fun y j=>by cases y<;>rfl
 have fv:∀ i,(Jr t ex ax σ p m n d r).fs.T i=match d with|some d=>(if d=i then aA (dz σ p n) r else look t i)|none=>look t i:=fun i=>by
  cases d with
  | none=>rfl
  | some d=>show look ((d,_)::t) i=_;rw[Jk]
 have qj:∀ b,b<m->∀ q ∈ ex,q.1≠σ b:=fun b hb q hq e=>(ok.hex q hq).1 b hb e.symm;have eD:∀ b,∀ q ∈ ex,q.1≠n+b:=fun b q hq=>by have:=(ok.hex q hq).2;omega
 have fit:∀ b,b<m->(⟨t,ex++Xa σ aK,n⟩:St).fs.H (σ b)=Qw σ (Qc aK m b):=fun b hb=>by
  show Qc (ex++Xa σ aK) n (σ b)=_;rw[Xo (qj b hb)];exact xk ok.inj hb (fun q hq=>(ok.hl.mem q hq).1) (ok.hl.mh b hb)
 have EL:=fun {b b'}=>@XN σ p m n ok.inj ok.lt b b';have Cn:∀ q ∈ aK,q.1<m:=fun q hq=>(ok.hl.mem q hq).1;have I8:∀ q ∈ ax,q.1<m:=fun q hq=>(gJ.mem q hq).1;have free:∀ b,(⟨t,ex++Xa σ aK,n⟩:St).fs.H (n+b)=.free:=fun b=>by
  show Qc (ex++Xa σ aK) n (n+b)=_;rw[Xo (eD b),Uc (fun b' bL e=>by have:=ok.lt b' bL;omega) Cn,aa af]
 have EF:∀ b,b<m->Qc (ex++Xa (dz σ p n) ax) (n+m) (dz σ p n b)=Qw (dz σ p n) (Qc ax m b):=fun b hb=>by
  rw[Xo]
  ·exact xk (fun b b' h1 h2 e=>EL h1 h2 e) hb I8 (gJ.mh b hb)
  ·by_cases h:b ∈ p
   ·rw[Us h];exact qj b hb
   ·rw[Uh h];exact eD b
 have I6:∀ b,b<m->b ∉ p->Qc (ex++Xa (dz σ p n) ax) (n+m) (σ b)=.dead:=fun b hb fO=>by
  rw[Xo (qj b hb),Uc (fun b' bL e=>?_) I8,am (by have:=ok.lt b hb;omega)];by_cases h:b' ∈ p
  ·rw[Us h]at e;exact fO (ok.inj _ _ bL hb e ▸ h)
  ·rw[Uh h]at e;have:=ok.lt b hb;omega
 have I7:∀ b,b ∈ p->Qc (ex++Xa (dz σ p n) ax) (n+m) (n+b)=.dead:=fun b fO=>by
  have hb:=ok.jj b fO;rw[Xo (eD b),Uc (fun b' bL e=>?_) I8,am af];by_cases h:b' ∈ p
  ·rw[Us h]at e;have:=ok.lt b' bL;omega
  ·rw[Uh h]at e;exact h ((by omega:b'=b) ▸ fO)
 have zL:∀ j,mz σ m j->(∀ b,b<m->n+b≠j)->Qc (ex++Xa (dz σ p n) ax) (n+m) j=(⟨t,ex++Xa σ aK,n⟩:St).fs.H j:=fun j h1 h2=>by
  show _=Qc (ex++Xa σ aK) n j;have ho:mz (dz σ p n) m j:=fun b hb e=>by
   by_cases h:b ∈ p
   ·rw[Us h]at e;exact h1 b hb e
   ·rw[Uh h]at e;exact h2 b hb e
  have key:∀ l:List (Nat×Bk),Qc (l++Xa (dz σ p n) ax) (n+m) j=Qc (l++Xa σ aK) n j:=fun l=>by
   induction l with
   | nil =>
    rw[List.nil_append,List.nil_append,Uc ho I8,Uc h1 Cn];by_cases hj:j<n
    ·rw[am hj,am af]
    ·rw[aa hj,aa];intro eI;exact h2 (j-n) af af
   | cons q l ih=>obtain ⟨i,x⟩:=q;rw[List.cons_append,List.cons_append,Qf,Qf,ih]
  exact key ex
 have xd:∀ b,b<m->dz σ p n b ∈ jy σ m n:=fun b hb=>by
  by_cases h:b ∈ p
  ·rw[Us h];exact vr.2 (.inl ⟨b,hb,rfl⟩)
  ·rw[Uh h];exact vr.2 (.inr ⟨b,hb,rfl⟩)
 refine ⟨fun i hi=>?_,fun j hj=>?_,fun s2 hT hH g a w hR K Q' hK=>Za (Ji aV) ?_⟩
 ·rw[fv];cases d with
  | none=>rfl
  | some d=>simp only[Option.toList_some,List.mem_singleton]at hi;simp only;rw[aa fun e=>hi e.symm];rfl
 ·rw[vg];exact zL j (fun b hb e=>hj (vr.2 (.inl ⟨b,hb,e⟩))) (fun b hb e=>hj (vr.2 (.inr ⟨b,hb,e⟩)))
 ·obtain ⟨vs,hrun,hv⟩:=jv s2 g a w hT hR;have mr:∀ b,b < m→s2.H (σ b)=Qw σ (Qc aK m b):=fun b hb=>by rw[hH _ (vr.2 (.inl ⟨b,hb,rfl⟩))];exact fit b hb
  have zN:Fit σ s2 aK m:=by
   refine ⟨fun q hq=>⟨Cn q hq,(ok.hl.mem q hq).2,?_⟩,fun q hq q' dd e=>ok.inj _ _ (Cn q hq) (Cn q' dd) e⟩;rw[mr q.1 (Cn q hq),ok.hl.self q hq]
  obtain ⟨g1,iR,zn,tN⟩:=IA hR zN;have j7:=Ek (g1:=g1) iR tN ok.nm hv;unfold Oper.wp;rw[hrun];rw[Oper.upon_enter];refine (hq.2 w _ _ _ g1 zn j7).mono fun e w' ⟨x,v,g2,hQ,e1,e2,e3,e4⟩=>?_;subst e1
  let s3:FS:=⟨s2.T,fun j=>if j ∈ jy σ m n then Qc (ex++Xa (dz σ p n) ax) (n+m) j else s2.H j⟩
  have zP:∀ j,j ∈ jy σ m n->s3.H j=Qc (ex++Xa (dz σ p n) ax) (n+m) j:=fun j hj=>am hj
  obtain ⟨g3,mw,fS⟩:=Ycg (s3:=s3) (n0:=n) (p:=p) hR ok.inj ok.lt (fun b hb=>by rw[hH _ (vr.2 (.inr ⟨b,hb,rfl⟩))];exact free b) ok.hl gJ mr ok.jj iR e3 e2 (fun i=>rfl)
   (fun b hb=>by rw[zP _ (xd b hb)];exact EF b hb) (fun b hb fO=>by rw[zP _ (vr.2 (.inl ⟨b,hb,rfl⟩))];exact I6 b hb fO) (fun b fO=>by rw[zP _ (vr.2 (.inr ⟨b,ok.jj b fO,rfl⟩))];exact I7 b fO)
   (fun j h1 h2=>aa fun hj=>by
    rcases vr.1 hj with ⟨b,hb,e⟩|⟨b,hb,e⟩
    ·exact h1 b hb e
    ·exact h2 b hb e)
  have ve:=fS hr e4;show K (a.put io.dst v) w';rw[a8];cases d with
  | none =>
   refine hK g3 _ w' ?_;have:dA s2 (Jr t ex ax σ p m n none r).fs ⟨Xf (ys.map aP),jy σ m n,[],jy σ m n⟩=s3:=by
    refine qc (fun i=>?_) fun j=>?_
    ·show (if i ∈ ([]:List Nat) then (Jr t ex ax σ p m n none r).fs.T i else s2.T i)=s2.T i;simp
    ·show (if j ∈ jy σ m n then (Jr t ex ax σ p m n none r).fs.H j else s2.H j)=_;rw[vg]
   show R c _ (dA s2 (Jr t ex ax σ p m n none r).fs ⟨Xf (ys.map aP),jy σ m n,[],jy σ m n⟩) _ _;rw[this];exact mw
  | some d =>
   refine hK g3 _ w' ?_;have:dA s2 (Jr t ex ax σ p m n (some d) r).fs ⟨Xf (ys.map aP),jy σ m n,[d],jy σ m n⟩=s3.put d (aA (dz σ p n) r):=by
    refine qc (fun i=>?_) fun j=>?_
    ·show (if i ∈ [d] then (Jr t ex ax σ p m n (some d) r).fs.T i else s2.T i)=_;rw[FS.dE,fv];by_cases h:d=i
     ·subst h;simp
     ·rw[aa (by simpa using fun e:i=d=>h e.symm),aa h]
    ·show (if j ∈ jy σ m n then (Jr t ex ax σ p m n (some d) r).fs.H j else s2.H j)=_;rw[vg];rfl
   show R c _ (dA s2 (Jr t ex ax σ p m n (some d) r).fs ⟨Xf (ys.map aP),jy σ m n,[d],jy σ m n⟩) _ _;rw[this];exact mw.put (by simpa using hd) ve
abbrev GD (P:Program)(gl:Nat->AV)(f:FuncId)(args:List AV)(aK:List (Nat×Bk))(m:Nat)(p:List Nat)(r:AV)(ax:List (Nat×Bk)):Prop:=GQ P gl f args aK m p (fun _:Unit=>True) (fun _=>r) (fun _=>ax)
def OI {v:Bool}{d:Option Nat}{k:PK}{f:FuncId}{xs:List TV}{args:List AV}{aK ax:List (Nat×Bk)}{σ:Nat->Nat}{m n:Nat}{p:List Nat}{r:AV}{t:List (Nat×AV)}{ex:List (Nat×Bk)}{r0:List bD}{K:St->Prop}(hq:GD P c.gl f args aK m p r ax)
  (ok:so c.gl xs v f args σ p m t ex aK n) (hk:k=(bif v then .dg else .call f)) (gJ:HL ax m) (hr:Qe m r) (h:XP P c r0 K (Jr t ex ax σ p m n d r)):Yn P c (.pd d k xs none) r0 K ⟨t,ex++Xa σ aK,n⟩ :=
 .inl ⟨_,_,OH hq ok hk gJ hr,h⟩
def XR {v:Bool}{d:Option Nat}{k:PK}{f:FuncId}{xs:List TV}{args:List AV}{aK ax:List (Nat×Bk)}{σ:Nat->Nat}{m n:Nat}{p:List Nat}{r:AV}{t:List (Nat×AV)}{ex:List (Nat×Bk)}{anc:List Nat}{fs:List bg}{r0:List bD}{K:St->Prop}(hq:GD P c.gl f args aK m p r ax)
  (ok:so c.gl xs v f args σ p m t ex aK n) (hk:k=(bif v then .dg else .call f)) (gJ:HL ax m) (hr:Qe m r) (h:XD P c anc r0 (⟨Xf xs,jy σ m n,d.toList,jy σ m n⟩::fs) K (Jr t ex ax σ p m n d r)):Zm P c anc (.pd d k xs none) r0 fs K ⟨t,ex++Xa σ aK,n⟩ :=
 ⟨_,_,OH hq ok hk gJ hr,h⟩
end
def Fix (x:AV)(v:Value):Prop:=∀ (g:Nat->GM) (W:Nat->Prop) (w:World) (u:Value),VR g W w x u ↔ u=v
def EN:List AV->List Value->Prop
 | [],[]=>True
 | x::xs,v::vs=>Fix x v/\EN xs vs
 | _,_=>False
def Fix.int (k:IntKind)(n:Int):Fix (.int k n) (.int k n):=fun _ _ _ u=>⟨fun h=>by cases h;rfl,fun h=>by subst h;exact .int _ _⟩
def EN.args {g:Nat->GM}{W:Nat->Prop}{w:World}:∀ {xs:List AV} {vs us:List Value},EN xs vs->bR g W w xs us->us=vs
 | [],[],[],_,_=>rfl
 | _::_,_::_,_::_,h,k=>by rw[(h.1 g W w _).1 k.1,EN.args h.2 k.2]
 | [],_::_,_,h,_=>h.elim
 | _::_,[],_,h,_=>h.elim
 | [],[],_::_,_,k=>k.elim
 | _::_,_::_,[],_,k=>k.elim
def Fr.zQ {w w':World}(h:Ext w w'):Fr w w' (fun _=>False) :=
 ⟨h.os,h.tape,h.output,h.size,fun k hk _=>h.block k hk,fun k cur e fz hk=>⟨cur,(h.block k (Wn hk)).trans hk,rfl⟩⟩
def PS.fw {P:Program}{gl:Nat->AV}{f:FuncId}{args:List AV}{vs:List Value}{r:AV}{v:Value}(hc:BQ P f)(ha:EN args vs)(hr:Fix r v)
  (h:∀ w,Calls P f vs.toArray w fun e w'=>e=.returned v/\Ext w w'):PS P gl f args r :=
 ⟨hc,fun w us X _ _ hv=>by
  rw[ha.args hv];exact (h w).mono fun e w' ⟨e1,e2⟩=>⟨v,e1,(hr _ _ _ _).2 rfl,.zQ e2⟩⟩
def Fix.str:Fix (.str l) (.string ⟨l.toArray⟩):=fun _ _ _ u=>⟨fun h=>by cases h;rfl,fun h=>by subst h;exact .str _⟩
def EO (h:l.length<=140737488351232):PS Tryz.prog gl 38 [.str l] (.int .i64 (dD l)) :=
 .fw (vs:=[.string ⟨l.toArray⟩]) ⟨_,Tryz.func38,by kernel_rfl,by kernel_rfl⟩ ⟨.str l,trivial⟩ (.int _ _) fun w=>Xzd ⟨l.toArray⟩ w h
def XS (h:l.length<=140737488351232):PS Tryz.prog gl 120 [.str l] (.int .i64 (Yh l)) :=
 .fw (vs:=[.string ⟨l.toArray⟩]) ⟨_,Tryz.func120,by kernel_rfl,by kernel_rfl⟩ ⟨.str l,trivial⟩ (.int _ _)
  fun w=>(Xq2 ⟨l.toArray⟩ w (Nat.le_trans h aJ)).mono fun _ _ ⟨he,n,hn⟩=>⟨he,by rw[hn];exact Ext.drewN w n⟩
def Xoy (c m n:Int):PS Tryz.prog gl 166 [.int .i64 c,.int .i64 m,.int .i64 n] (.int .i64 (65535-qL (qL (65535-c%65536) (65535-m%65536)) n)) :=
 .fw (vs:=[.int .i64 c,.int .i64 m,.int .i64 n]) ⟨_,Tryz.func166,by kernel_rfl,by kernel_rfl⟩ ⟨.int _ _,.int _ _,.int _ _,trivial⟩ (.int _ _)
  fun w=>(Xhl c m n w).mono fun _ _ ⟨he,hn⟩=>⟨he,by rw[hn];exact Ext.refl w⟩
def I9 (h:l.length<=140737488351232):PS Tryz.prog gl 147 [.str l] (.int .i64 (dD l)) :=
 .fw (vs:=[.string ⟨l.toArray⟩]) ⟨_,Tryz.func147,by kernel_rfl,by kernel_rfl⟩ ⟨.str l,trivial⟩ (.int _ _) fun w=>TK ⟨l.toArray⟩ w h
def EP (h:l.length<=140737488351232):PS Tryz.prog gl 145 [.str l] (.int .i64 (Yh l)) :=
 .fw (vs:=[.string ⟨l.toArray⟩]) ⟨_,Tryz.func145,by kernel_rfl,by kernel_rfl⟩ ⟨.str l,trivial⟩ (.int _ _) fun w=>Xbw ⟨l.toArray⟩ w h
def OK:FT Tryz.prog 170 Tryz.f170 (aG Tryz.prog Tryz.f170) [.t 2]:=.of Tryz.func170
def XT:FT Tryz.prog 171 Tryz.f171 (aG Tryz.prog Tryz.f171) [.t 4]:=.of Tryz.func171
def Xh4:FT Tryz.prog 172 Tryz.f172 (aG Tryz.prog Tryz.f172) [.t 4]:=.of Tryz.func172
def XU:FT Tryz.prog 158 Tryz.f158 (aG Tryz.prog Tryz.f158) [.t 4,.t 5]:=.of Tryz.func158
def Xtx:FT Tryz.prog 159 Tryz.f159 (aG Tryz.prog Tryz.f159) [.cell 8 (.ag 21),.t 9,.t 10]:=.of Tryz.func159
def Xbc:FT Tryz.prog 111 Tryz.f111 (aG Tryz.prog Tryz.f111) [.t 2,.t 3,.t 4]:=.of Tryz.func111
def Xbk:FT Tryz.prog 155 Tryz.f155 (aG Tryz.prog Tryz.f155) [.t 2]:=.of Tryz.func155
def ER:FT Tryz.prog 154 Tryz.f154 (aG Tryz.prog Tryz.f154) [.t 2]:=.of Tryz.func154
def XV:FT Tryz.prog 156 Tryz.f156 (aG Tryz.prog Tryz.f156) [.cell 8 (.ag 5),.t 9]:=.of Tryz.func156
def XW:FT Tryz.prog 117 Tryz.f117 (aG Tryz.prog Tryz.f117) [.cell 8 (.ag 5),.t 9]:=.of Tryz.func117
def JA:FT Tryz.prog 110 Tryz.f110 (aG Tryz.prog Tryz.f110) [.cell 10 (.ag 30),.cell 11 (.ag 5),.t 12,.t 13]:=.of Tryz.func110
def JB:FT Tryz.prog 118 Tryz.f118 (aG Tryz.prog Tryz.f118) [.cell 4 (.ag 30),.t 5,.t 6]:=.of Tryz.func118
def Xwz:FT Tryz.prog 157 Tryz.f157 (aG Tryz.prog Tryz.f157) [.cell 2 (.ag 30)]:=.of Tryz.func157
end Go.Proofs.YtogckmommodmhaaGreatDoor
namespace Go.Proofs.YtogckmommodmhaaGreatDoor
open Go.ChangeShapes Go.WideShapes Go.Deep Go.RowKit
open Go.RowKit
set_option linter.all false
set_option maxRecDepth 100000
section
variable {H:Type}{enc:TypeId×Value->H}{P:Program}{w:World}{base:Nat}{spare:Nat->Bool}{held:Bool}
def Qnq {t e:TypeId}{fs:Array Field}{fuel:Nat}{cs:List Value}{x:DataW H×List MemPlace}(ht:P.underlying t=some (.slice e))(he:P.underlying e=some (.struct fs))
  (OL:oneCellFields P fs=true) (hC:P.cellsOf e=fs.size) (h:DataW.trod enc P w base spare held fuel t cs=some x) :
  (cs=[.slice none 0 0]/\x=(.nil,[])) \/
  ∃ (a:Addr) (len cap m:Nat) (D:Nat→DataW H) (Pl:Nat→List MemPlace),cs=[.slice (some a) len cap]∧base≤a.block∧len≤cap∧cap≤maxLen∧m=(if spare a.block then cap else len) ∧
   x=(.slice ((List.range len).map D) ((List.range (m-len)).map fun j=>D (len+j)),MemPlace.row a (m*fs.size)++(List.range m).flatMap Pl) /\
   ∀ i,i < m→∃ (ys:List (DataW H × List MemPlace)) (n:Nat),D i=.agg (ys.map (·.1))∧Pl i=ys.flatMap (·.2)∧ys.length=fs.size ∧
    ∀ (j:Nat) (f:Field),fs[j]?=some f->∃ (v:Value) (y:DataW H×List MemPlace),w.cell? (a.add (i*fs.size+j))=some v/\ys[j]?=some y/\DataW.trod enc P w base spare held n f.type [v]=some y:=by
 rcases open_slice ht h with h0|⟨a,len,cap,m,n,D,Pl,iQ,hb,hl,hm,ra,hx,hi⟩
 ·exact .inl h0
 ·refine .inr ⟨a,len,cap,m,D,Pl,iQ,hb,hl,hm,ra,by rw[hC]at hx;exact hx,fun i xm=>?_⟩;obtain ⟨cs',hc,nc⟩:=hi i xm;rw[hC]at hc;obtain ⟨ys,n',nY,hy,hlen,Cd,hf⟩:=DataW.trod_struct he nc;obtain ⟨_,aW,tV⟩:=World.cells?_some hc;simp only[Prod.mk.injEq]at hy;refine ⟨ys,n',hy.1,hy.2,Cd,fun j f hj=>?_⟩;obtain ⟨ho,hk⟩:=hone_of OL j f hj;have oc:j<fs.size:=(Array.getElem?_eq_some_iff.1 hj).1;have eQ:=tV j oc;have hv:cs'[j]?=some (cs'[j]'af):=List.getElem?_eq_getElem af;have h1:=hf j f hj;rw[ho,hk]at h1;have ES:(cs'.drop j).take 1=[cs'[j]'af]:=by
   rw[List.drop_eq_getElem_cons af];rfl
  rw[ES]at h1;have n5:ys[j]?=some (ys[j]'af):=List.getElem?_eq_getElem af;refine ⟨_,_,?_,n5,h1.trans n5⟩;rw[<- Go.Deep.add_add,eQ,hv]
structure sq (w:World)(v:Value)(n sz:Nat)(R:Nat->Nat->Value->Prop):Prop where
 form:∃ A cap,v=.slice A n cap/\n<=cap/\cap<=maxLen/\(0<n->∃ b o,A=some ⟨b,o,none⟩/\b<w.heap.size/\∀ i,i<n->∀ j,j<sz->∃ u,w.cell? ⟨b,o+(i*sz+j),none⟩=some u/\R i j u)
end
end Go.Proofs.YtogckmommodmhaaGreatDoor
