import Derived.Test.YtogckmommodmhaaGreatDoorZx1
import Derived.Lib.Strings
import Derived.StillTail
namespace Go.Proofs.YtogckmommodmhaaGreatDoor
open List (getElem?_take getElem?_drop length_cons append_assoc getElem?_append_left length_take length_append map_cons map_nil mem_singleton mem_range mem_map)
open Go.RowKit
set_option linter.all false
set_option maxRecDepth 100000
inductive AV where
 | any
 | dV (b:Bool) (v:AV)
 | int (k:IntKind) (n:Int)
 | bool (b:Bool)
 | str (l:List UInt8)
 | agg (cs:List AV)
 | aR (vs:List AV)
 | ptr (b off:Nat)
 | xp (cs:List AV) (off:Nat)
 | sl (es b off n c:Nat)
 | isl (n:Nat) (cs:List AV)
 | nils
 | cl (f:FuncId) (caps:List AV)
 | mp (b:Nat)
 | lit (v:Value)
 deriving Inhabited
inductive GM where
 | un
 | ph
 | re (k:Nat)
abbrev Uw (w:World)(k o:Nat):Option Value:=w.cell? ⟨k,o,none⟩
inductive VR (g:Nat->GM)(W:Nat->Prop)(w:World):AV->Value->Prop
 | any (v:Value):VR g W w .any v
 | dV {b:Bool} {x:AV} {v:Value} (h:b=true->VR g W w x v) (h0:b=false->v=undef):VR g W w (.dV b x) v
 | int (k:IntKind) (n:Int):VR g W w (.int k n) (.int k n)
 | bool (b:Bool):VR g W w (.bool b) (.bool b)
 | str (l:List UInt8):VR g W w (.str l) (.string ⟨l.toArray⟩)
 | agg {cs:List AV} {us:Array Value} (hs:us.size=cs.length) (h1:∀ j,j<cs.length->(us.getD j undef).oneCell'=true) (h:∀ j,j<cs.length->VR g W w (cs.getD j .any) (us.getD j undef)):VR g W w (.agg cs) (.agg us)
 | aR {cs:List AV} {us:Array Value} (hs:us.size=cs.length) (h:∀ j,j<cs.length->VR g W w (cs.getD j .any) (us.getD j undef)):VR g W w (.aR cs) (.tuple us)
 | ptr {b off k:Nat} (hg:g b=.re k):VR g W w (.ptr b off) (.pointer (some ⟨k,off,none⟩))
 | xp {cs:List AV} {off k o:Nat} {us:Nat→Value} (hc:∀ j,j < cs.length→Uw w k (o + j)=some (us j)∧¬ W k∧(us j).oneCell'=true) (h:∀ j,j < cs.length→VR g W w (cs.getD j .any) (us j)) :
   VR g W w (.xp cs off) (.pointer (some ⟨k,o+off,none⟩))
 | sl {es b off n c k cap:Nat} {e:TypeId} {cur:Array Value} {fz:Nat × Nat} (hg:g b=.re k) (hn:n≤c) (hc:c≤cap) (hm:cap≤maxLen)
   (hb:w.heap[k]?=some (.cells cur e fz)) (hs:off+cap*es<=cur.size):VR g W w (.sl es b off n c) (.slice (some ⟨k,off,none⟩) n cap)
 | kH {a:Option Addr} {es b off c:Nat} (hg:g b=.ph) (hc:c=0):VR g W w (.sl es b off 0 c) (.slice a 0 0)
 | isl {n cap:Nat} {cs:List AV} {a:Option Addr} {us:Nat→Value} (hn:n≤cap) (hm:cap≤maxLen)
   (hc:∀ j,j<cs.length->∃ k o,a=some ⟨k,o,none⟩/\Uw w k (o+j)=some (us j)/\¬ W k/\(us j).oneCell'=true) (h:∀ j,j<cs.length->VR g W w (cs.getD j .any) (us j)) :
   VR g W w (.isl n cs) (.slice a n cap)
 | nils (a:Option Addr):VR g W w .nils (.slice a 0 0)
 | cl {f:FuncId} {caps:List AV} {us:Array Value} (hs:us.size=caps.length) (h:∀ j,j<caps.length->VR g W w (caps.getD j .any) (us.getD j undef)):VR g W w (.cl f caps) (.func (.func f) #[] us)
 | mp {b k:Nat} (hg:g b=.re k):VR g W w (.mp b) (.map (some k))
 | lit (v:Value):VR g W w (.lit v) v
structure Fr (w w':World)(G:Nat->Prop):Prop where
 os:w'.os=w.os
 tape:w'.tape=w.tape
 output:w'.output=w.output
 size:w.heap.size<=w'.heap.size
 iq:∀ k,k<w.heap.size->¬ G k->w'.heap[k]?=w.heap[k]?
 kind:∀ (k:Nat) (cur:Array Value) (e:TypeId) (fz:Nat×Nat),w.heap[k]?=some (.cells cur e fz)->∃ eX:Array Value,w'.heap[k]?=some (.cells eX e fz)/\eX.size=cur.size
def Ws {w:World}{k:Nat}{o:Obj}(h:w.heap[k]?=some o):k<w.heap.size:=(Array.getElem?_eq_some_iff.1 h).1
def My {w:World}{k o:Nat}{v:Value}(h:Uw w k o=some v):k<w.heap.size:=by
 unfold Uw World.cell? at h;split at h
 ·rename_i hh;exact Ws hh
 ·cases h
def Fr.refl (w:World)(G:Nat->Prop):Fr w w G:=⟨rfl,rfl,rfl,Nat.le_refl _,fun _ _ _=>rfl,fun _ cur _ _ h=>⟨cur,h,rfl⟩⟩
def Fr.trans {a b c:World}{G H:Nat->Prop}(h:Fr a b G)(k:Fr b c H)(hH:∀ i,i<a.heap.size->H i->G i):Fr a c G :=
 ⟨k.os.trans h.os,k.tape.trans h.tape,k.output.trans h.output,Nat.le_trans h.size k.size,
  fun i hi hG=>(k.iq i (Nat.lt_of_lt_of_le hi h.size) (fun x=>hG (hH i hi x))).trans (h.iq i hi hG),
  fun i cur e fz hi=>by
   obtain ⟨c1,h1,s1⟩:=h.kind i cur e fz hi;obtain ⟨c2,h2,s2⟩:=k.kind i c1 e fz h1;exact ⟨c2,h2,s2.trans s1⟩⟩
def Fr.weak {a b:World}{G H:Nat->Prop}(h:Fr a b G)(hH:∀ i,G i->H i):Fr a b H :=
 ⟨h.os,h.tape,h.output,h.size,fun i hi hG=>h.iq i hi (fun x=>hG (hH i x)),h.kind⟩
def Fr.drew (w:World)(G:Nat->Prop):Fr w w.drew G:=⟨rfl,rfl,rfl,Nat.le_refl _,fun _ _ _=>rfl,fun _ cur _ _ h=>⟨cur,h,rfl⟩⟩
def Fr.alloc (w:World)(o:Obj)(G:Nat->Prop):Fr w (w.alloc o) G :=
 ⟨rfl,rfl,rfl,by simp,fun k hk _=>Below.heap_alloc w o k hk,fun k cur e fz h=>⟨cur,by rw[Below.heap_alloc w o k (Ws h)];exact h,rfl⟩⟩
def Fr.cell {w w':World}{G:Nat->Prop}(h:Fr w w' G){k o:Nat}{v:Value}(hc:Uw w k o=some v)(hG:¬ G k):Uw w' k o=some v:=by
 have:=h.iq k (My hc) hG;rw[<- hc];unfold Uw World.cell?;simp only[this]
def VR.mono {g g':Nat->GM}{W W':Nat->Prop}{w w':World}{x:AV}{v:Value}(h:VR g W w x v)(hf:Fr w w' W)
  (hW:∀ k,k<w.heap.size->W' k->W k) (hg:∀ b,g b≠.un->g' b=g b):VR g' W' w' x v:=by
 have DD:∀ {b k},g b=.re k->g' b=.re k:=fun {b k} e=>by rw[hg b (by rw[e];intro x;cases x),e]
 induction h with
 | any v=>exact .any v
 | dV h h0 ih=>exact .dV ih h0
 | int k n=>exact .int k n
 | bool b=>exact .bool b
 | str l=>exact .str l
 | agg hs h1 h ih=>exact .agg hs h1 ih
 | aR hs h ih=>exact .aR hs ih
 | ptr e=>exact .ptr (DD e)
 | xp hc h ih=>exact .xp (fun j hj=>⟨hf.cell (hc j hj).1 (hc j hj).2.1,fun x=>(hc j hj).2.1 (hW _ (My (hc j hj).1) x),(hc j hj).2.2⟩) ih
 | sl e hn hc hm hb hs =>
  obtain ⟨eX,bL,rQ⟩:=hf.kind _ _ _ _ hb;exact .sl (DD e) hn hc hm bL (by rw[rQ];exact hs)
 | kH e hc=>exact .kH (by rw[hg _ (by rw[e];intro x;cases x),e]) hc
 | isl hn hm hc h ih =>
  refine .isl hn hm (fun j hj=>?_) ih;obtain ⟨k,o,ha,uT,Mz,h1⟩:=hc j hj;exact ⟨k,o,ha,hf.cell uT Mz,fun x=>Mz (hW k (My uT) x),h1⟩
 | nils a=>exact .nils a
 | cl hs h ih=>exact .cl hs ih
 | mp e=>exact .mp (DD e)
 | lit v=>exact .lit v
inductive Bk where
 | free
 | dead
 | cells (cs:List AV)
 | az (kvs:List (AV×AV)) (dn:Bool)
 | bp (kvs:List (AV×AV)) (bs:List Nat) (ck:Nat)
 | iter (b ck:Nat) (seen:List Nat)
 | dM (ls:List (List AV))
 deriving Inhabited
def Bk.live:Bk->Prop
 | .cells _|.az _ _|.bp _ _ _|.iter _ _ _|.dM _=>True
 | _=>False
inductive BR (g:Nat->GM)(W:Nat->Prop)(w:World):GM->Bk->Prop
 | free:BR g W w .un .free
 | dead {m:GM} (h:m≠.un):BR g W w m .dead
 | ph:BR g W w .ph (.cells [])
 | cells {k:Nat} {cs:List AV} {cur:Array Value} {e:TypeId} {fz:Nat × Nat} (hb:w.heap[k]?=some (.cells cur e fz)) (hl:cs.length≤cur.size)
   (h1:∀ j,j<cs.length->(cur.getD j undef).oneCell'=true) (hv:∀ j,j<cs.length->VR g W w (cs.getD j .any) (cur.getD j undef)) (hf:fz=(0,0)\/cur.size<=fz.1):BR g W w (.re k) (.cells cs)
 | az {k:Nat} {kvs:List (AV × AV)} {dn:Bool} {es:Array MapEntry} {clock:Nat} (hb:w.heap[k]?=some (.map es clock)) (hs:es.size=kvs.length)
   (hk:∀ j,j<kvs.length->VR g W w (kvs.getD j (.any,.any)).1 (es.getD j default).key) (hv:∀ j,j<kvs.length->VR g W w (kvs.getD j (.any,.any)).2 (es.getD j default).val)
   (hc:∀ j,j<es.size->(es.getD j default).born<clock) (ha:∀ i j,i<j->j<es.size->(es.getD i default).born<(es.getD j default).born)
   (hd:dn=true->(∀ j,j<es.size->(es.getD j default).born=j)/\clock=es.size):BR g W w (.re k) (.az kvs dn)
 | bp {k:Nat} {kvs:List (AV × AV)} {bs:List Nat} {es:Array MapEntry} {clock:Nat} (hb:w.heap[k]?=some (.map es clock)) (hs:es.size=kvs.length)
   (hk:∀ j,j<kvs.length->VR g W w (kvs.getD j (.any,.any)).1 (es.getD j default).key) (hv:∀ j,j<kvs.length->VR g W w (kvs.getD j (.any,.any)).2 (es.getD j default).val)
   (hc:∀ j,j<es.size->(es.getD j default).born<clock) (ha:∀ i j,i<j->j<es.size->(es.getD i default).born<(es.getD j default).born)
   (hd:es.toList.map (·.born)=bs):BR g W w (.re k) (.bp kvs bs clock)
 | iter {k m b ck:Nat} {seen:List Nat} (hb:w.heap[k]?=some (.mapIter (some m) ck seen.toArray ck)) (hg:g b=.re m):BR g W w (.re k) (.iter b ck seen)
 | dM {m:GM} {ls DE:List (List AV)} (hp:DE.Perm ls) (h:BR g W w m (.cells DE.flatten)):BR g W w m (.dM ls)
def BR.mono {g g':Nat->GM}{W W':Nat->Prop}{w w':World}{m:GM}{x:Bk}(h:BR g W w m x)(hf:Fr w w' W)
  (hW:∀ k,k<w.heap.size->W' k->W k) (hg:∀ b,g b≠.un->g' b=g b) (hk:∀ k,m=.re k->x.live->w'.heap[k]?=w.heap[k]?):BR g' W' w' m x:=by
 induction h with
 | dM hp h ih=>exact .dM hp (ih fun k h1 h2=>hk k h1 trivial)
 | free=>exact .free
 | dead h=>exact .dead h
 | ph=>exact .ph
 | cells hb hl h1 hv hz=>exact .cells ((hk _ rfl trivial).trans hb) hl h1 (fun j hj=>(hv j hj).mono hf hW hg) hz
 | az hb hs jm hv hc ha hd=>exact .az ((hk _ rfl trivial).trans hb) hs (fun j hj=>(jm j hj).mono hf hW hg) (fun j hj=>(hv j hj).mono hf hW hg) hc ha hd
 | bp hb hs jm hv hc ha hd=>exact .bp ((hk _ rfl trivial).trans hb) hs (fun j hj=>(jm j hj).mono hf hW hg) (fun j hj=>(hv j hj).mono hf hW hg) hc ha hd
 | iter hb l8=>exact .iter ((hk _ rfl trivial).trans hb) (by rw[hg _ (by rw[l8];intro x;cases x)];exact l8)
structure FS where
 T:Nat->AV
 H:Nat->Bk
def FS.put (s:FS)(d:Nat)(v:AV):FS:=⟨fun i=>if d=i then v else s.T i,s.H⟩
def FS.aI (s:FS)(b:Nat)(x:Bk):FS:=⟨s.T,fun i=>if b=i then x else s.H i⟩
theorem FS.dF (s:FS)(d:Nat)(v:AV)(i:Nat):(s.put d v).T i=if d=i then v else s.T i:=rfl
theorem FS.rR (s:FS)(d:Nat)(v:AV)(b:Nat):(s.put d v).H b=s.H b:=rfl
theorem FS.a8 (s:FS)(b:Nat)(x:Bk)(i:Nat):(s.aI b x).H i=if b=i then x else s.H i:=rfl
structure St where
 t:List (Nat×AV)
 h:List (Nat×Bk)
 n:Nat
def look:List (Nat×AV)->Nat->AV
 | [],_=>.any
 | (i,v)::l,j=>bif i==j then v else look l j
def Qb:List (Nat×Bk)->Nat->Nat->Bk
 | [],n,j=>if j<n then .dead else .free
 | (i,v)::l,n,j=>bif i==j then v else Qb l n j
def St.fs (s:St):FS:=⟨look s.t,Qb s.h s.n⟩
def St.put (s:St)(d:Nat)(v:AV):St:=⟨(d,v)::s.t,s.h,s.n⟩
def St.aI (s:St)(b:Nat)(x:Bk):St:=⟨s.t,(b,x)::s.h,s.n⟩
def St.nw (s:St)(x:Bk):St:=⟨s.t,(s.n,x)::s.h,s.n+1⟩
variable {e:TypeId}{op:BinOp}{s2:FS}{xs cs:List AV}{s:FS}{t:TypeId}{n es d b:Nat}{W:Nat->Prop}{x:AV}{v:Value}{z:List AV}{vs:List Value}{a:Act}{us:Nat->Value}{gd:Option (Nat×Bool)}{w:World}{r:List AV}{K:St->Prop}{rb rt:List Nat}(l:List UInt8)(i:Nat)
def Jn (v:AV)(l:List (Nat×AV))(j:Nat):look ((i,v)::l) j=if i=j then v else look l j:=by
 show (bif i==j then v else look l j)=_;by_cases h:i=j
 ·subst h;simp
 ·have:(i == j)=false:=by simpa using h
  rw[this,aa h];rfl
def Qf (v:Bk)(l:List (Nat×Bk))(n j:Nat):Qb ((i,v)::l) n j=if i=j then v else Qb l n j:=by
 show (bif i==j then v else Qb l n j)=_;by_cases h:i=j
 ·subst h;simp
 ·have:(i == j)=false:=by simpa using h
  rw[this,aa h];rfl
def St.bU (s:St)(d:Nat)(v:AV):(s.put d v).fs=s.fs.put d v:=by
 simp only[St.fs,St.put,FS.put];congr 1;funext i;rw[Jn]
def St.cg (s:St)(b:Nat)(x:Bk):(s.aI b x).fs=s.fs.aI b x:=by
 simp only[St.fs,St.aI,FS.aI];congr 1;funext i;rw[Qf]
def Wa (h:List (Nat×Bk))(n j:Nat)(hj:j≠n):Qb h (n+1) j=Qb h n j:=by
 induction h with
 | nil =>
  unfold Qb;by_cases h:j<n
  ·rw[am h,am af]
  ·rw[aa h,aa af]
 | cons p l ih=>obtain ⟨i,v⟩:=p;rw[Qf,Qf,ih]
def St.iC (s:St)(x:Bk):(s.nw x).fs=s.fs.aI s.n x:=by
 simp only[St.fs,St.nw,FS.aI];congr 1;funext i;rw[Qf];by_cases h:s.n=i
 ·rw[am h,am h]
 ·rw[aa h,aa h,Wa _ _ _ fun e=>h e.symm]
structure Cx where
 N:Nat
 w0:World
 G:Nat->Prop
 X:Nat->Prop
 gl:Nat->AV
 gh:List (Nat×GM)
def Qm (c:Cx)(g:Nat->GM)(s:FS)(k:Nat):Prop:=c.X k\/∃ b,(s.H b).live/\g b=.re k
structure R (c:Cx)(g:Nat->GM)(s:FS)(a:Act)(w:World):Prop where
 size:a.tmps.size=c.N
 ew:a.defers=[]
 t:∀ i,VR g (Qm c g s) w (s.T i) (a.tmps.getD i undef)
 gl:∀ i,VR (fun _=>.un) (Qm c g s) w (c.gl i) (.pointer (some ⟨i,0,none⟩))
 h:∀ b,BR g (Qm c g s) w (g b) (s.H b)
 inj:∀ b b' k,(s.H b).live->(s.H b').live->g b=.re k->g b'=.re k->b=b'
 old:∀ b k,(s.H b).live->g b=.re k->c.w0.heap.size<=k\/c.G k
 fr:Fr c.w0 w c.G
 xs:∀ k,c.X k->k<c.w0.heap.size/\¬ c.G k
 jn:∀ p ∈ c.gh,g p.1=p.2/\p.2≠.un
def BR.gK {g:Nat->GM}   {x:Bk}(h:BR g W w .un x)(hl:x.live):False:=by
 cases h with
 | free=>exact hl
 | dead h=>exact hl
 | dM hp h=>cases h
def BR.lt {g:Nat->GM}   {k:Nat}{x:Bk}(h:BR g W w (.re k) x)(hl:x.live):k<w.heap.size:=by
 cases h with
 | dM hp h=>cases h with|cells hb=>exact Ws hb
 | dead h=>exact hl.elim
 | cells hb=>exact Ws hb
 | az hb=>exact Ws hb
 | bp hb=>exact Ws hb
 | iter hb=>exact Ws hb
section
variable {c:Cx}{g:Nat->GM}{s:FS}{a:Act}{w w':World}
def R.put (hR:R c g s a w)  (hd:d<c.N)   (h:VR g (Qm c g s) w x v):R c g (s.put d x) (a.put (some d) v) w:=by
 have hW:Qm c g (s.put d x)=Qm c g s:=rfl;refine ⟨by simpa [Act.put] using hR.size,by simpa [Act.put] using hR.ew,fun i=>?_,hR.gl,hR.h,hR.inj,hR.old,hR.fr,hR.xs,hR.jn⟩;rw[hW,FS.dF];simp only[Act.put];by_cases hi:d=i
 ·subst hi;rw[am rfl];have:(a.tmps.setIfInBounds d v).getD d undef=v:=by simp[Array.getD,hR.size,hd]
  rw[this];exact h
 ·rw[aa hi];have:(a.tmps.setIfInBounds d v).getD i undef=a.tmps.getD i undef:=by
   simp only[Array.getD_eq_getD_getElem?,Array.getElem?_setIfInBounds];rw[aa hi]
  rw[this];exact hR.t i
def R.uU (hR:R c g s a w)(v:Value):R c g s (a.put none v) w:=hR
def R.grow (hR:R c g s a w)(hf:Fr w w' (fun _=>False)):R c g s a w':=by
 have nV:Fr w w' (Qm c g s):=hf.weak fun _ h=>h.elim;refine ⟨hR.size,hR.ew,fun i=>(hR.t i).mono nV (fun _ _ h=>h) (fun _ _=>rfl),fun i=>(hR.gl i).mono nV (fun _ _ h=>h) (fun _ _=>rfl),fun b=>?_,hR.inj,hR.old,hR.fr.trans hf fun _ _ h=>h.elim,hR.xs,hR.jn⟩;refine (hR.h b).mono nV (fun _ _ h=>h) (fun _ _=>rfl) fun k hk hl=>hf.iq k ?_ id;exact BR.lt (hk ▸ hR.h b) hl
def HQ:∀ k,Qm c g (s.aI b .dead) k->Qm c g s k:=by
 rintro k (h|⟨b',hl,hg⟩)
 ·exact .inl h
 ·rw[FS.a8]at hl;split at hl
  ·exact hl.elim
  ·exact .inr ⟨b',hl,hg⟩
theorem R.kill (hR:R c g s a w)  (hb:g b≠.un):R c g (s.aI b .dead) a w:=by
 have hW:=fun k (_:k<w.heap.size)=>HQ (c:=c) (g:=g) (s:=s) (b:=b) k;have hf:=Fr.refl w (Qm c g s);have hl:∀ b',((s.aI b .dead).H b').live->(s.H b').live:=fun b' h=>by
  rw[FS.a8]at h;split at h
  ·exact h.elim
  ·exact h
 refine ⟨hR.size,hR.ew,fun i=>(hR.t i).mono hf hW (fun _ _=>rfl),fun i=>(hR.gl i).mono hf hW (fun _ _=>rfl),fun b'=>?_,fun x y k hx hy=>hR.inj x y k (hl x hx) (hl y hy),fun x k hx=>hR.old x k (hl x hx),hR.fr,hR.xs,hR.jn⟩;rw[FS.a8];split
 ·rename_i e;subst e;exact .dead hb
 ·exact (hR.h b').mono hf hW (fun _ _=>rfl) fun _ _ _=>rfl
def R.setBlock (hR:R c g s a w){b k:Nat}{x:Bk}(hb:g b=.re k)(aO:(s.H b).live)(hx:x.live)(hf:Fr w w' (fun i=>i=k))(hn:BR g (Qm c g s) w' (.re k) x):R c g (s.aI b x) a w':=by
 have dJ:∀ b',((s.aI b x).H b').live ↔ (s.H b').live:=fun b'=>by
  rw[FS.a8];split
  ·rename_i e;subst e;exact ⟨fun _=>aO,fun _=>hx⟩
  ·exact Iff.rfl
 have hW:Qm c g (s.aI b x)=Qm c g s:=by
  funext i;simp only[Qm,dJ]
 have hk:Qm c g s k:=.inr ⟨b,aO,hb⟩;have nV:Fr w w' (Qm c g s):=hf.weak fun i e=>e ▸ hk;have hlt:k<w.heap.size:=BR.lt (hb ▸ hR.h b) aO;refine ⟨hR.size,hR.ew,fun i=>?_,fun i=>?_,fun b'=>?_,fun x y k hx hy=>hR.inj x y k ((dJ x).1 hx) ((dJ y).1 hy),fun x k hx=>hR.old x k ((dJ x).1 hx),hR.fr.trans hf fun i hi e=>?_,hR.xs,hR.jn⟩
 ·rw[hW];exact (hR.t i).mono nV (fun _ _ h=>h) (fun _ _=>rfl)
 ·rw[hW];exact (hR.gl i).mono nV (fun _ _ h=>h) (fun _ _=>rfl)
 ·rw[hW,FS.a8];split
  ·rename_i e;subst e;rw[hb];exact hn
  ·rename_i e;refine (hR.h b').mono nV (fun _ _ h=>h) (fun _ _=>rfl) fun i hi hl=>hf.iq i ?_ fun ek=>?_
   ·exact BR.lt (hi ▸ hR.h b') hl
   ·exact e (hR.inj b b' k aO hl hb (ek ▸ hi))
 ·subst e;rcases hR.old b i aO hb with h|h
  ·omega
  ·exact h
def Zh (g:Nat->GM)(b:Nat)(m:GM):Nat->GM:=fun i=>if i=b then m else g i
def Bz {g:Nat->GM}  {m:GM}(hb:g b=.un):∀ i,g i≠.un->Zh g b m i=g i:=fun i h=>by
 unfold Zh;split
 ·rename_i e;subst e;exact (h hb).elim
 ·rfl
def HT (hR:R c g s a w)  {m:GM}(hb:g b=.un):∀ p ∈ c.gh,Zh g b m p.1=p.2/\p.2≠.un:=fun p hp=>by
 obtain ⟨h1,h2⟩:=hR.jn p hp;exact ⟨by rw[Bz hb p.1 (by rw[h1];exact h2),h1],h2⟩
def R.name (hR:R c g s a w){b k:Nat}{x:Bk}(bq:s.H b=.free)(hx:x.live)(cz:∀ b',(s.H b').live->g b'≠.re k)(hX:¬ c.X k)(hold:c.w0.heap.size<=k\/c.G k)
  (yK:∀ i,VR g (fun j=>Qm c g s j\/j=k) w (s.T i) (a.tmps.getD i undef)) (hng:∀ i,VR (fun _=>.un) (fun j=>Qm c g s j\/j=k) w (c.gl i) (.pointer (some ⟨i,0,none⟩))) (pZ:∀ b',BR g (fun j=>Qm c g s j\/j=k) w (g b') (s.H b'))
  (hn:BR (Zh g b (.re k)) (fun j=>Qm c g s j\/j=k) w (.re k) x):R c (Zh g b (.re k)) (s.aI b x) a w:=by
 have kJ:g b=.un:=by
  have:=hR.h b;rw[bq]at this;generalize g b=m at this;cases this;rfl
 have hg:=Bz (m:=.re k) kJ;have cr:Zh g b (.re k) b=.re k:=by simp[Zh]
 have cf:∀ b',(s.H b').live->b'≠b:=fun b' h e=>by subst e;rw[bq]at h;exact h
 have eN:∀ b',b'≠b->Zh g b (.re k) b'=g b':=fun b' h=>by simp[Zh,h]
 have hl:∀ b',((s.aI b x).H b').live ↔ b'=b\/(s.H b').live:=fun b'=>by
  rw[FS.a8];split
  ·rename_i e;subst e;exact ⟨fun _=>.inl rfl,fun _=>hx⟩
  ·rename_i e;exact ⟨.inr,fun h=>h.resolve_left fun e'=>e e'.symm⟩
 have hW:Qm c (Zh g b (.re k)) (s.aI b x)=fun j=>Qm c g s j\/j=k:=by
  funext j;apply propext;constructor
  ·rintro (h|⟨b',h1,h2⟩)
   ·exact .inl (.inl h)
   ·rcases (hl b').1 h1 with rfl|h
    ·rw[cr]at h2;cases h2;exact .inr rfl
    ·rw[eN b' (cf b' h)]at h2;exact .inl (.inr ⟨b',h,h2⟩)
  ·rintro ((h|⟨b',h1,h2⟩)|rfl)
   ·exact .inl h
   ·exact .inr ⟨b',(hl b').2 (.inr h1),by rw[eN b' (cf b' h1)];exact h2⟩
   ·exact .inr ⟨b,(hl b).2 (.inl rfl),cr⟩
 have hf:=Fr.refl w (fun j=>Qm c g s j\/j=k);refine ⟨hR.size,hR.ew,fun i=>?_,fun i=>?_,fun b'=>?_,fun p q m hp hq h1 h2=>?_,fun p m hp h1=>?_,hR.fr,hR.xs,HT hR kJ⟩
 ·rw[hW];exact (yK i).mono hf (fun _ _ h=>h) hg
 ·rw[hW];exact hng i
 ·rw[hW,FS.a8];split
  ·rename_i e;subst e;rw[cr];exact hn
  ·rename_i e;rw[eN b' fun e'=>e e'.symm];exact (pZ b').mono hf (fun _ _ h=>h) hg fun _ _ _=>rfl
 ·rcases (hl p).1 hp with rfl|yL<;>rcases (hl q).1 hq with rfl|db
  ·rfl
  ·rw[cr]at h1;cases h1;rw[eN q (cf q db)]at h2;exact (cz q db h2).elim
  ·rw[cr]at h2;cases h2;rw[eN p (cf p yL)]at h1;exact (cz p yL h1).elim
  ·rw[eN p (cf p yL)]at h1;rw[eN q (cf q db)]at h2;exact hR.inj p q m yL db h1 h2
 ·rcases (hl p).1 hp with rfl|yL
  ·rw[cr]at h1;cases h1;exact hold
  ·rw[eN p (cf p yL)]at h1;exact hR.old p m yL h1
def R.new (hR:R c g s a w)  {x:Bk}(o:Obj)(bq:s.H b=.free)(hx:x.live)(hn:∀ g',(∀ i,g i≠.un->g' i=g i)->BR g' (fun j=>Qm c g s j\/j=w.heap.size) (w.alloc o) (.re w.heap.size) x) :
  R c (Zh g b (.re w.heap.size)) (s.aI b x) a (w.alloc o):=by
 have kJ:g b=.un:=by
  have:=hR.h b;rw[bq]at this;generalize g b=m at this;cases this;rfl
 have bh:=hR.grow (Fr.alloc w o _);have jY:∀ k,Qm c g s k->k<w.heap.size:=by
  rintro k (h|⟨b',hl,hg⟩)
  ·have:=(hR.xs k h).1;have:=hR.fr.size;omega
  ·exact BR.lt (hg ▸ hR.h b') hl
 have hw:∀ k,k<w.heap.size->(Qm c g s k\/k=w.heap.size)->Qm c g s k:=fun k hk h=>h.resolve_right af;refine bh.name (k:=w.heap.size) bq hx (fun b' hl e=>?_) (fun e=>?_) (.inl hR.fr.size) (fun i=>?_) (fun i=>?_) (fun b'=>?_) (hn _ (Bz kJ))
 ·have:=BR.lt (e ▸ hR.h b') hl;omega
 ·have:=(hR.xs _ e).1;have:=hR.fr.size;omega
 ·exact (hR.t i).mono (Fr.alloc w o _) hw fun _ _=>rfl
 ·exact (hR.gl i).mono (Fr.alloc w o _) hw fun _ _=>rfl
 ·exact (hR.h b').mono (Fr.alloc w o _) hw (fun _ _=>rfl) fun k hk hl=>Below.heap_alloc w o k (BR.lt (hk ▸ hR.h b') hl)
def R.move (hR:R c g s a w){b b':Nat}(aO:(s.H b).live)(bq:s.H b'=.free):R c (Zh g b' (g b)) ((s.aI b .dead).aI b' (s.H b)) a w:=by
 have kJ:g b'=.un:=by
  have:=hR.h b';rw[bq]at this;generalize g b'=m at this;cases this;rfl
 have cf:b'≠b:=fun e=>by subst e;rw[bq]at aO;exact aO
 have hg:=Bz (m:=g b) kJ;have cr:Zh g b' (g b) b'=g b:=by simp[Zh]
 have eN:∀ i,i≠b'->Zh g b' (g b) i=g i:=fun i h=>by simp[Zh,h]
 have hH:∀ i,((s.aI b .dead).aI b' (s.H b)).H i=if b'=i then s.H b else if b=i then .dead else s.H i:=fun i=>by rw[FS.a8,FS.a8]
 have hl:∀ i,(((s.aI b .dead).aI b' (s.H b)).H i).live->(i=b'\/(i≠b/\i≠b'/\(s.H i).live)):=fun i h=>by
  rw[hH]at h;split at h
  ·rename_i e;exact .inl e.symm
  ·split at h
   ·exact h.elim
   ·rename_i e1 e2;exact .inr ⟨fun e=>e2 e.symm,fun e=>e1 e.symm,h⟩
 have hW:∀ k,Qm c (Zh g b' (g b)) ((s.aI b .dead).aI b' (s.H b)) k->Qm c g s k:=by
  rintro k (h|⟨i,h1,h2⟩)
  ·exact .inl h
  ·rcases hl i h1 with rfl|⟨h3,h4,h5⟩
   ·rw[cr]at h2;exact .inr ⟨b,aO,h2⟩
   ·rw[eN i h4]at h2;exact .inr ⟨i,h5,h2⟩
 have hf:=Fr.refl w (Qm c g s);refine ⟨hR.size,hR.ew,fun i=>(hR.t i).mono hf (fun k _=>hW k) hg,fun i=>(hR.gl i).mono hf (fun k _=>hW k) (fun _ _=>rfl),fun i=>?_,fun p q m hp hq h1 h2=>?_,fun p m hp h1=>?_,hR.fr,hR.xs,HT hR kJ⟩
 ·rw[hH];split
  ·rename_i e;subst e;rw[cr];exact (hR.h b).mono hf (fun k _=>hW k) hg fun _ _ _=>rfl
  ·rename_i e1;rw[eN i fun e=>e1 e.symm];split
   ·rename_i e;subst e;refine .dead fun e=>?_;have:=hR.h b;rw[e]at this;exact this.gK aO
   ·exact (hR.h i).mono hf (fun k _=>hW k) hg fun _ _ _=>rfl
 ·rcases hl p hp with rfl|⟨h3,h4,h5⟩<;>rcases hl q hq with rfl|⟨h6,h7,h8⟩
  ·rfl
  ·rw[cr]at h1;rw[eN q h7]at h2;exact (h6 (hR.inj q b m h8 aO h2 h1)).elim
  ·rw[cr]at h2;rw[eN p h4]at h1;exact (h3 (hR.inj p b m h5 aO h1 h2)).elim
  ·rw[eN p h4]at h1;rw[eN q h7]at h2;exact hR.inj p q m h5 h8 h1 h2
 ·rcases hl p hp with rfl|⟨h3,h4,h5⟩
  ·rw[cr]at h1;exact hR.old b m aO h1
  ·rw[eN p h4]at h1;exact hR.old p m h5 h1
end
inductive SK where
 | int (k:IntKind)
 | bool
 | str
 | ref
inductive TY where
 | sc (k:SK)
 | ag (n:Nat)
def bD:AV->Int
 | .int _ n=>n
 | _=>0
def eY:AV->Bool
 | .bool b=>b
 | _=>false
def cV:AV->List UInt8
 | .str l=>l
 | _=>[]
def cb (k:IntKind):AV->Prop
 | .int k' _=>k'=k
 | _=>False
def gD:AV->Prop
 | .int _ _=>True
 | _=>False
def fL:AV->Prop
 | .bool _=>True
 | _=>False
def ga:AV->Prop
 | .str _=>True
 | _=>False
def one:AV->Prop
 | .int _ _|.bool _|.str _|.ptr _ _|.xp _ _|.sl _ _ _ _ _|.isl _ _|.nils|.cl _ _|.mp _=>True
 | .lit v=>v.oneCell'=true
 | _=>False
def yM:SK->AV->AV
 | .int k,v=>.int k (bD v)
 | .bool,v=>.bool (eY v)
 | .str,v=>.str (cV v)
 | .ref,v=>v
def uV:SK->AV->Prop
 | .int k,v=>cb k v
 | .bool,v=>fL v
 | .str,v=>ga v
 | .ref,_=>True
def wr:TY->List AV->Nat->AV
 | .sc k,cs,off=>yM k (cs.getD off .any)
 | .ag n,cs,off=>.agg ((cs.drop off).take n)
def kK:TY->List AV->Nat->Prop
 | .sc k,cs,off=>off<cs.length/\uV k (cs.getD off .any)
 | .ag n,cs,off=>off+n<=cs.length
def yN:BinOp->Int->Int->Int
 | .add,x,y=>x+y
 | .sub,x,y=>x-y
 | .mul,x,y=>x*y
 | _,_,_=>0
def tJ:BinOp->Int->Int->Bool
 | .eql,x,y=>x==y
 | .neq,x,y=>x != y
 | .lss,x,y=>decide (x<y)
 | .leq,x,y=>decide (x<=y)
 | .gtr,x,y=>decide (y<x)
 | .geq,x,y=>decide (y<=x)
 | _,_,_=>false
def BA:BinOp->IntKind->Int->Int->Int
 | .quo,k,x,y=>k.wrap (x.tdiv y)
 | .rem,_,x,y=>x.tmod y
 | _,_,_,_=>0
def BB:BinOp->IntKind->Int->Int->Int
 | .shl,k,x,y=>k.wrap (x*2 ^ min y.toNat k.bits)
 | .shr,k,x,y=>x.fdiv (2 ^ min y.toNat k.bits)
 | _,_,_,_=>0
def toB (cs:List AV):List UInt8:=cs.map fun v=>UInt8.ofNat (bD v).toNat
inductive Q1 where
 | mv|not|pick|ar (o:BinOp) (k:IntKind)|dv (o:BinOp) (k:IntKind)|bt (o:BinOp) (k:IntKind)|sh (o:BinOp) (k:IntKind)|cm (o:BinOp) (k:IntKind)
 | cB (ne:Bool)|cS (ne:Bool)|cat|cv (k:IntKind)|yO (ty:TY) (off:Nat)|nh (es len:Nat) (ty:TY)|yP|jo (off:Nat)|fq (len es:Nat)|ft (es:Nat)
 | ld (ty:TY)|nW|gb|nX|yQ (lo hi:Bool)|oV (es:Nat) (lo hi:Bool)|ext (i:Nat)|fS|wP (zero:List AV) (parts:List (Nat×Nat))|yR (f:FuncId)|mn (k:IntKind)|mx (k:IntKind)
 | eZ (ne:Bool)|nY
def Kh:AV->List AV
 | .agg cs=>cs
 | v=>[v]
def Ym (cs:List AV)(off:Nat)(vs:List AV):List AV:=cs.take off++vs++cs.drop (off+vs.length)
def uW:TY->List AV->Nat->AV->List AV
 | .sc _,cs,off,v=>cs.set off v
 | .ag _,cs,off,.agg vs=>Ym cs off vs
 | .ag _,cs,_,_=>cs
def Jg (cs:List AV):List (Nat×Nat)->List AV->List AV
 | (off,_)::ps,.agg vs::r=>Jg (Ym cs off vs) ps r
 | (off,_)::ps,v::r=>Jg (cs.set off v) ps r
 | _,_=>cs
def Zf (n:Nat):List (Nat×Nat)->List AV->Prop
 | (off,m)::ps,.agg vs::r=>vs.length=m/\off+m<=n/\Zf n ps r
 | (off,m)::ps,v::r=>one v/\m=1/\off<n/\Zf n ps r
 | [],[]=>True
 | _,_=>False
def Xs (lo:Bool):List AV->Int
 | x::_=>bif lo then bD x else 0
 | []=>0
def Jf (lo hi:Bool)(n:Nat):List AV->Int
 | [_,y]=>bif lo&&hi then bD y else n
 | [x]=>bif hi then bD x else n
 | _=>n
def nk (lo hi:Bool):List AV->Prop
 | [x,y]=>lo=true/\hi=true/\cb .i64 x/\cb .i64 y
 | [x]=>cb .i64 x/\(lo != hi)=true
 | []=>lo=false/\hi=false
 | _=>False
def qv:Q1->List AV->Bk->AV
 | .mv,[x],_=>x
 | .not,[x],_=>.bool (!eY x)
 | .pick,[c,x,y],_=>.bool (bif eY c then eY x else eY y)
 | .ar o k,[x,y],_=>.int k (k.wrap (yN o (bD x) (bD y)))
 | .dv o k,[x,y],_=>.int k (BA o k (bD x) (bD y))
 | .bt o k,[x,y],_=>.int k (bits o k (bD x) (bD y))
 | .sh o k,[x,y],_=>.int k (BB o k (bD x) (bD y))
 | .cm o _,[x,y],_=>.bool (tJ o (bD x) (bD y))
 | .cB ne,[x,y],_=>.bool (ne != (eY x==eY y))
 | .cS ne,[x,y],_=>.bool (ne != (cV x==cV y))
 | .cat,[x,y],_=>.str (cV x++cV y)
 | .cv k,[x],_=>.int k (k.wrap (bD x))
 | .yO ty off,[.agg cs],_=>wr ty cs off
 | .nh es _ ty,[.agg cs,i],_=>wr ty cs ((bD i).toNat*es)
 | .yP,[x,i],_=>.int .u8 ((cV x).getD (bD i).toNat 0).toNat
 | .jo o,[.ptr b off],_=>.ptr b (off+o)
 | .jo o,[.xp cs off],_=>.xp cs (off+o)
 | .fq _ es,[.ptr b off,i],_=>.ptr b (off+(bD i).toNat*es)
 | .fq _ es,[.xp cs off,i],_=>.xp cs (off+(bD i).toNat*es)
 | .ft es,[.sl _ b off _ _,i],_=>.ptr b (off+(bD i).toNat*es)
 | .ft es,[.isl _ cs,i],_=>.xp cs ((bD i).toNat*es)
 | .ld ty,[.ptr _ off],.cells cs=>wr ty cs off
 | .ld ty,[.xp cs off],_=>wr ty cs off
 | .nW,[x],_=>.int .i64 (cV x).length
 | .gb,[.isl n _],_=>.int .i64 n
 | .gb,[.sl _ _ _ n _],_=>.int .i64 n
 | .gb,[.nils],_=>.int .i64 0
 | .nX,[.mp _],.az kvs _=>.int .i64 kvs.length
 | .yQ lo hi,x::r,_=>.str (((cV x).drop (Xs lo r).toNat).take ((Jf lo hi (cV x).length r).toNat-(Xs lo r).toNat))
 | .oV es lo hi,.isl n cs::r,_=>.isl ((Jf lo hi n r).toNat-(Xs lo r).toNat) ((cs.drop ((Xs lo r).toNat*es)).take (((Jf lo hi n r).toNat-(Xs lo r).toNat)*es))
 | .oV es lo hi,.sl _ b off n c::r,_=>if Xs lo r<c then .sl es b (off+(Xs lo r).toNat*es) ((Jf lo hi n r).toNat-(Xs lo r).toNat) (c-(Xs lo r).toNat) else .isl 0 []
 | .ext i,[.aR vs],_=>vs.getD i .any
 | .fS,[x],_=>x
 | .wP z ps,vs,_=>.agg (Jg z ps vs)
 | .yR f,vs,_=>.cl f vs
 | .mn k,[x,y],_=>.int k (if bD y<bD x then bD y else bD x)
 | .mx k,[x,y],_=>.int k (if bD y>bD x then bD y else bD x)
 | .eZ ne,[.lit (.pointer none)],_=>.bool (!ne)
 | .eZ ne,[.ptr _ _],_=>.bool ne
 | .eZ ne,[.xp _ _],_=>.bool ne
 | .nY,[.sl _ _ off n _],.cells cs=>.str (toB ((cs.drop off).take n))
 | .nY,[.isl n cs],_=>.str (toB (cs.take n))
 | .nY,[.nils],_=>.str []
 | _,_,_=>.any
def qp:Q1->List AV->Bk->Prop
 | .mv,[_],_=>True
 | .not,[x],_=>fL x
 | .pick,[c,x,y],_=>fL c/\(eY c=true->fL x)/\(eY c=false->fL y)
 | .ar _ k,[x,y],_=>cb k x/\cb k y
 | .dv _ k,[x,y],_=>cb k x/\cb k y/\bD y≠0
 | .bt _ k,[x,y],_=>cb k x/\cb k y
 | .sh _ k,[x,y],_=>cb k x/\gD y/\0<=bD y
 | .cm _ k,[x,y],_=>cb k x/\cb k y
 | .cB _,[x,y],_=>fL x/\fL y
 | .cS _,[x,y],_=>ga x/\ga y
 | .cat,[x,y],_=>ga x/\ga y/\(cV x).length+(cV y).length<=9223372036854775807
 | .cv _,[x],_=>gD x
 | .yO ty off,[.agg cs],_=>kK ty cs off
 | .nh es len ty,[.agg cs,i],_=>gD i/\0<=bD i/\bD i<len/\kK ty cs ((bD i).toNat*es)
 | .yP,[x,i],_=>ga x/\gD i/\0<=bD i/\bD i<(cV x).length
 | .jo _,[.ptr _ _],_=>True
 | .jo _,[.xp _ _],_=>True
 | .fq len _,[.ptr _ _,i],_=>gD i/\0<=bD i/\bD i<len
 | .fq len _,[.xp _ _,i],_=>gD i/\0<=bD i/\bD i<len
 | .ft es,[.sl es' _ _ n _,i],_=>es'=es/\gD i/\0<=bD i/\bD i<n
 | .ft es,[.isl n cs,i],_=>gD i/\0<=bD i/\bD i<n/\(bD i).toNat*es<cs.length
 | .ld ty,[.ptr _ off],.cells cs=>kK ty cs off
 | .ld ty,[.xp cs off],_=>kK ty cs off
 | .nW,[x],_=>ga x
 | .gb,[.isl _ _],_=>True
 | .gb,[.sl _ _ _ _ _],_=>True
 | .gb,[.nils],_=>True
 | .nX,[.mp _],.az _ _=>True
 | .yQ lo hi,x::r,_=>ga x/\nk lo hi r/\0<=Xs lo r/\Xs lo r<=Jf lo hi (cV x).length r/\Jf lo hi (cV x).length r<=(cV x).length
 | .oV es lo hi,.isl n cs::r,_=>nk lo hi r/\0<=Xs lo r/\Xs lo r<=Jf lo hi n r/\Jf lo hi n r<=n/\cs.length<=n*es
 | .oV es lo hi,.sl es' _ _ n c::r,_=>es'=es/\nk lo hi r/\0<=Xs lo r/\Xs lo r<=Jf lo hi n r/\Jf lo hi n r<=c
 | .ext i,[.aR vs],_=>i<vs.length
 | .fS,[.ptr _ _],_=>True
 | .fS,[.xp _ _],_=>True
 | .wP z ps,vs,_=>Zf z.length ps vs
 | .yR _,_,_=>True
 | .mn k,[x,y],_=>cb k x/\cb k y
 | .mx k,[x,y],_=>cb k x/\cb k y
 | .eZ _,[.lit (.pointer none)],_=>True
 | .eZ _,[.ptr _ _],_=>True
 | .eZ _,[.xp _ _],_=>True
 | .nY,[.sl es _ off n _],.cells cs=>es=1/\off+n<=cs.length/\∀ v ∈ (cs.drop off).take n,cb .u8 v
 | .nY,[.isl n cs],_=>n<=cs.length/\∀ v ∈ cs.take n,cb .u8 v
 | .nY,[.nils],_=>True
 | _,_,_=>False
inductive TV where
 | t (i:Nat)
 | c (v:AV)
 | gl (i:Nat)
def fM:Value->AV
 | .int k n=>.int k n
 | .bool b=>.bool b
 | .string s=>.str s.data.toList
 | .slice none 0 0=>.nils
 | v=>.lit v
def uX:Value->AV
 | .agg cs=>if cs.all (·.oneCell') then .agg (cs.toList.map fM) else .lit (.agg cs)
 | v=>fM v
def aP:Operand->TV
 | .tmp t=>.t t
 | .const v=>.c (uX v)
 | .global i=>.gl i
 | .func f=>.c (.cl f [])
def aV (gl:Nat->AV)(s:FS):TV->AV
 | .t i=>s.T i
 | .c v=>v
 | .gl i=>gl i
def MA (P:Program)(t:TypeId):Option SK :=
 match P.underlying t with
 | some (.int k)=>some (.int k)
 | some .bool=>some .bool
 | some .string=>some .str
 | some (.pointer _)|some (.slice _)|some (.map _ _)|some (.func _ _ _)=>some .ref
 | _=>none
def Zt (P:Program)(t:TypeId):Option Nat:=(P.info? t).map (·.size)
def l9 (P:Program)(t:TypeId):Option TY :=
 match P.underlying t with
 | some (.struct _)|some (.array _ _)=>(Zt P t).map .ag
 | _=>if Zt P t=some 1 then (MA P t).map .sc else none
def BC (P:Program)(fs:Array Field):List Nat->Option (List (Nat×Nat))
 | []=>some []
 | i::r=>match fs[i]? with
  | some f=>match Zt P f.type,BC P fs r with
   | some m,some l=>some ((f.offset,m)::l)
   | _,_=>none
  | none=>none
def MC (op:BinOp)(k:IntKind):Q1:=match op with
 | .add|.sub|.mul=>.ar op k
 | .quo|.rem=>.dv op k
 | .and|.or|.xor|.andNot=>.bt op k
 | .shl|.shr=>.sh op k
 | _=>.cm op k
def MD (op:BinOp):Option Q1:=match op with
 | .eql=>some (.cB false)
 | .neq=>some (.cB true)
 | _=>none
def ME (op:BinOp):Option Q1:=match op with
 | .add=>some .cat
 | .eql=>some (.cS false)
 | .neq=>some (.cS true)
 | _=>none
def jZ (op:BinOp)(y:Operand):Option Bool:=match y with
 | .const (.pointer none)=>(match op with
  | .eql=>some false
  | .neq=>some true
  | _=>none)
 | _=>none
def HU (P:Program)(op:BinOp)(t:TypeId)(x y:Operand):Option (Q1×List Operand) :=
 match P.underlying t with
 | some (.int k)=>some (MC op k,[x,y])
 | some .bool=>(MD op).map fun q=>(q,[x,y])
 | some .string=>(ME op).map fun q=>(q,[x,y])
 | some (.pointer _)=>(jZ op y).map fun b=>(.eZ b,[x])
 | _=>none
def uY (P:Program)(o:Oper):Option (Q1×List Operand) :=
 match o.op with
 | .move x=>some (.mv,[x])
 | .assign x=>some (.mv,[x])
 | .pick c a b=>some (.pick,[c,a,b])
 | .unOp .not _ x=>some (.not,[x])
 | .binOp op t x y _=>HU P op t x y
 | .convert s d x=>match P.underlying s,P.underlying d with
  | some (.int _),some (.int k)=>some (.cv k,[x])
  | some (.slice e),some .string=>match P.underlying e with
   | some (.int .u8)=>some (.nY,[x])
   | _=>none
  | _,_=>none
 | .field t x f=>match P.underlying t with
  | some (.struct fs)=>match fs[f]? with
   | some fd=>(l9 P fd.type).map fun ty=>(.yO ty fd.offset,[x])
   | none=>none
  | _=>none
 | .index t x i=>match P.underlying t with
  | some (.array n e)=>match l9 P e,Zt P e with
   | some ty,some es=>some (.nh es n ty,[x,i])
   | _,_=>none
  | some .string=>some (.yP,[x,i])
  | _=>none
 | .fieldAddr t x f=>match P.underlying t with
  | some (.struct fs)=>match fs[f]? with
   | some fd=>match Zt P fd.type with
    | some (_+1)=>some (.jo fd.offset,[x])
    | _=>none
   | none=>none
  | _=>none
 | .indexAddr t x i=>match P.underlying t with
  | some (.array n e)=>(Zt P e).map fun es=>(.fq n es,[x,i])
  | some (.slice e)=>(Zt P e).map fun es=>(.ft es,[x,i])
  | _=>none
 | .load t x=>(l9 P t).map fun ty=>(.ld ty,[x])
 | .call ⟨.builtin .len,⟨[x]⟩,⟨[t]⟩⟩=>match P.underlying t with
  | some .string=>some (.nW,[x])
  | some (.slice _)=>some (.gb,[x])
  | some (.map _ _)=>some (.nX,[x])
  | _=>none
 | .call ⟨.builtin .min,⟨[x,y]⟩,_⟩=>match P.underlying o.type with
  | some (.int k)=>some (.mn k,[x,y])
  | _=>none
 | .call ⟨.builtin .max,⟨[x,y]⟩,_⟩=>match P.underlying o.type with
  | some (.int k)=>some (.mx k,[x,y])
  | _=>none
 | .slice t x lo hi none=>match P.underlying t with
  | some .string=>some (.yQ lo.isSome hi.isSome,x::(lo.toList++hi.toList))
  | some (.slice e)=>(Zt P e).map fun es=>(.oV es lo.isSome hi.isSome,x::(lo.toList++hi.toList))
  | _=>none
 | .extract x i=>some (.ext i,[x])
 | .nilCheck x=>some (.fS,[x])
 | .build t parts=>match (P.info? t).bind (·.zero),P.underlying t with
  | some (.agg z),some (.struct fs)=>if z.all (·.oneCell')&&fs.all (fun f=>(Zt P f.type).isSome) then (BC P fs (parts.toList.map (·.1))).map fun ps=>(.wP (z.toList.map fM) ps,parts.toList.map (·.2)) else none
  | some (.agg z),some (.array _ e)=>if z.all (·.oneCell') then (Zt P e).map fun m=>(.wP (z.toList.map fM) (parts.toList.map fun p=>(p.1*m,m)),parts.toList.map (·.2)) else none
  | _,_=>none
 | .makeFunc (.func f) ⟨[]⟩ caps=>some (.yR f,caps.toList)
 | _=>none
section
variable {P:Program}{g:Nat->GM}{W:Nat->Prop}{w:World}
def VR.d4 {k:IntKind}   (h:VR g W w x v)(hk:cb k x):v=.int k (bD x):=by
 cases h<;>simp_all [cb,bD]
def VR.d7 (h:VR g W w x v)(hk:gD x):∃ k,v=.int k (bD x):=by
 cases h<;>simp_all [gD,bD]
def VR.d6 (h:VR g W w x v)(hk:fL x):v=.bool (eY x):=by
 cases h<;>simp_all [fL,eY]
def VR.d8 (h:VR g W w x v)(hk:ga x):v=.string ⟨(cV x).toArray⟩:=by
 cases h<;>simp_all [ga,cV]
def VR.one (h:VR g W w x v)(hk:one x):v.oneCell'=true:=by
 cases h<;>simp_all [Proofs.YtogckmommodmhaaGreatDoor.one,Value.oneCell']
def VR.uV {k:SK}   (h:VR g W w x v)(hk:uV k x):VR g W w (yM k x) v:=by
 cases k with
 | int k=>rw[h.d4 hk];exact .int _ _
 | bool=>rw[h.d6 hk];exact .bool _
 | str=>rw[h.d8 hk];exact .str _
 | ref=>exact h
def HV (v:Value):VR g W w (fM v) v:=by
 unfold fM;split
 ·exact .int _ _
 ·exact .bool _
 ·rename_i s;have:Value.string s=.string ⟨s.data.toList.toArray⟩:=by cases s;simp
  rw[this];exact .str _
 ·exact .nils _
 ·exact .lit _
def BD (v:Value):VR g W w (uX v) v:=by
 unfold uX;split
 ·rename_i cs;split
  ·rename_i h;refine .agg av (fun j hj=>?_) fun j hj=>?_
   ·have dd:j < cs.size:=by simpa using hj
    have:=(Array.all_eq_true.1 h) j dd;simpa [Array.getD,dd] using this
   ·have dd:j < cs.size:=by simpa using hj
    have e:cs.getD j undef=cs[j]:=by simp[Array.getD,dd]
    have e':(cs.toList.map fM).getD j .any=fM cs[j]:=by simp[dd]
    rw[e,e'];exact HV _
  ·exact .lit _
 ·exact HV _
def R.ev {c:Cx}   (hR:R c g s a w)(x:Operand):VR g (Qm c g s) w (aV c.gl s (aP x)) (a.eval x):=by
 cases x with
 | tmp t=>exact hR.t t
 | const v=>exact BD v
 | global i=>exact (hR.gl i).mono (Fr.refl _ _) (fun _ _ h=>h) (fun _ h=>absurd rfl h)
 | func f=>exact .cl rfl (fun j hj=>absurd hj av)
end
def bT (g:Nat->GM)(W:Nat->Prop)(w:World):List AV->List Value->Prop
 | [],[]=>True
 | x::xs,v::vs=>VR g W w x v/\bT g W w xs vs
 | _,_=>False
def Jz:List AV->Option Nat
 | .ptr b _::_=>some b
 | .sl _ b _ _ _::_=>some b
 | .mp b::_=>some b
 | _=>none
def nZ (s:FS)(l:List AV):Bk :=
 match Jz l with
 | some b=>s.H b
 | none=>.free
def DF (g:Nat->GM)(W:Nat->Prop)(w:World)(l:List AV)(x:Bk):Prop:=∀ b,Jz l=some b->BR g W w (g b) x
section
variable {P:Program}{g:Nat->GM}{W:Nat->Prop}{w:World}
def bT.oW (h:bT g W w [] vs):vs=[]:=by cases vs<;>simp_all [bT]
def bT.cons_inv (h:bT g W w (x::xs) vs):∃ v r,vs=v::r/\VR g W w x v/\bT g W w xs r:=by
 cases vs with
 | nil=>simp[bT]at h
 | cons v r=>exact ⟨v,r,rfl,h.1,h.2⟩
def bT.me (h:bT g W w xs []):xs=[]:=by cases xs<;>simp_all [bT]
def bT.dN {r:List Value}(h:bT g W w xs (v::r)):∃ x ys,xs=x::ys/\VR g W w x v/\bT g W w ys r:=by
 cases xs with
 | nil=>simp[bT]at h
 | cons x ys=>exact ⟨x,ys,rfl,h.1,h.2⟩
def bT.one (h:bT g W w xs [v]):∃ x,xs=[x]/\VR g W w x v:=by
 obtain ⟨x,ys,rfl,h1,h2⟩:=h.dN;obtain rfl:=h2.me;exact ⟨x,rfl,h1⟩
def bT.two {v u:Value}(h:bT g W w xs [v,u]):∃ x y,xs=[x,y]/\VR g W w x v/\VR g W w y u:=by
 obtain ⟨x,ys,rfl,h1,h2⟩:=h.dN;obtain ⟨y,rfl,h3⟩:=h2.one;exact ⟨x,y,rfl,h1,h3⟩
def bT.three {v u t:Value}(h:bT g W w xs [v,u,t]):∃ x y z,xs=[x,y,z]/\VR g W w x v/\VR g W w y u/\VR g W w z t:=by
 obtain ⟨x,ys,rfl,h1,h2⟩:=h.dN;obtain ⟨y,z,rfl,h3⟩:=h2.two;exact ⟨x,y,z,rfl,h1,h3⟩
def bT.length:∀ {xs:List AV} {vs:List Value},bT g W w xs vs->xs.length=vs.length
 | [],[],_=>rfl
 | _::xs,_::vs,h=>by simp[bT.length h.2]
 | [],_::_,h=>h.elim
 | _::_,[],h=>h.elim
def bT.get:∀ {xs:List AV} {vs:List Value} (_:bT g W w xs vs) (j:Nat) (_:j<xs.length),VR g W w (xs.getD j .any) (vs.getD j undef)
 | x::xs,v::vs,h,0,_=>h.1
 | x::xs,v::vs,h,j+1,hj=>by
  have:=bT.get h.2 j (by simpa using hj);simpa using this
 | [],_,_,_,hj=>absurd hj av
 | _::_,[],h,_,_=>h.elim
def DG {j:Nat}(h:j<cs.length):cs.getD j .any=cs[j]:=by simp[List.getD,h]
def T9 {k:SK}   (hv:∀ j,j<cs.length->VR g W w (cs.getD j .any) (us j)){off:Nat}(h:kK (.sc k) cs off):VR g W w (wr (.sc k) cs off) (us off):=by
 exact (hv off h.1).uV h.2
def UA (h1:∀ j,j<cs.length->(us j).oneCell'=true)(hv:∀ j,j<cs.length->VR g W w (cs.getD j .any) (us j)){off:Nat}(h:kK (.ag n) cs off)(vs:Array Value)(hn:vs.size=n)(eR:∀ j,j<n->vs.getD j undef=us (off+j)):VR g W w (wr (.ag n) cs off) (.agg vs):=by
 have hl:((cs.drop off).take n).length=n:=by simp only[kK]at h;simp;omega
 have h':off+n<=cs.length:=h;refine .agg (by rw[hl,hn]) (fun j hj=>?_) fun j hj=>?_
 ·rw[hl]at hj;rw[eR j hj];exact h1 _ af
 ·rw[hl]at hj;rw[eR j hj];have e:((cs.drop off).take n).getD j .any=cs.getD (off+j) .any:=by
   simp only[List.getD,getElem?_take,getElem?_drop,am hj]
  rw[e];exact hv _ af
def add_lit (k o j:Nat):(⟨k,o,none⟩:Addr).add j=⟨k,o+j,none⟩:=by unfold Addr.add;split<;>simp_all
def HX (h:l9 P t=some (.ag n)):Zt P t=some n/\((∃ fs,P.underlying t=some (.struct fs))\/∃ m e,P.underlying t=some (.array m e)):=by
 unfold l9 at h;split at h
 ·rename_i fs hu;cases hs:Zt P t<;>rw[hs]at h<;>simp at h
  exact ⟨by rw[h],.inl ⟨_,hu⟩⟩
 ·rename_i m e hu;cases hs:Zt P t<;>rw[hs]at h<;>simp at h
  exact ⟨by rw[h],.inr ⟨_,_,hu⟩⟩
 ·split at h
  ·cases hs:MA P t<;>rw[hs]at h<;>simp at h
  ·cases h
def UB {k:SK}(h:l9 P t=some (.sc k)):Zt P t=some 1/\∃ d,P.underlying t=some d/\(∀ fs,d≠.struct fs)/\(∀ m e,d≠.array m e):=by
 unfold l9 at h;split at h
 ·cases hs:Zt P t<;>rw[hs]at h<;>simp at h
 ·cases hs:Zt P t<;>rw[hs]at h<;>simp at h
 ·rename_i h1 h2;split at h
  ·rename_i h3;refine ⟨h3,?_⟩;cases hu:P.underlying t with
   | none=>unfold MA at h;rw[hu]at h;simp at h
   | some d=>exact ⟨d,rfl,fun fs e=>h1 fs (by rw[hu,e]),fun m e e'=>h2 m e (by rw[hu,e'])⟩
  ·cases h
def UC (h:l9 P t=some (.ag n)):(isAgg t).run P w=.ok true w:=by
 obtain ⟨_,⟨fs,hu⟩|⟨m,e,hu⟩⟩:=HX h<;>simp[isAgg,run_underlying hu]
def UD {k:SK}(h:l9 P t=some (.sc k)):(isAgg t).run P w=.ok false w:=by
 obtain ⟨_,d,hu,h1,h2⟩:=UB h;simp only[isAgg,Sem.run_bind,run_underlying hu,Result.andThen_ok];cases d<;>first|rfl|exact absurd rfl (h1 _)|exact absurd rfl (h2 _ _)
def Kc (h:Zt P t=some n):(sizeOf t).run P w=.ok n w:=by
 unfold Zt at h;cases hi:P.info? t with
 | none=>rw[hi]at h;simp at h
 | some i=>rw[hi]at h;simp at h;simp[sizeOf,typeInfo,hi,h]
def DH {t:TypeId}{ty:TY}(ht:l9 P t=some ty){k o:Nat}{cs:List AV}{us:Nat->Value}(hc:∀ j,j<cs.length->Uw w k (o+j)=some (us j))(h1:∀ j,j<cs.length->(us j).oneCell'=true)
  (hv:∀ j,j<cs.length->VR g W w (cs.getD j .any) (us j)) {off:Nat} (h:kK ty cs off) :
  ∃ v,(Instr.loadAt t (.pointer (some ⟨k,o+off,none⟩))).run P w=.ok v w/\VR g W w (wr ty cs off) v:=by
 cases ty with
 | sc q =>
  refine ⟨us off,?_,T9 hv h⟩;have h0:w.cell? ⟨k,o+off,none⟩=some (us off):=hc off h.1;simp[Instr.loadAt,Instr.sureAddr,loadVar,UD ht,h0]
 | ag n =>
  obtain ⟨hs,_⟩:=HX ht;have h':off+n<=cs.length:=h;refine ⟨.agg ((List.range n).map fun j=>us (off+j)).toArray,?_,UA h1 hv h _ av fun j hj=>by simp[Array.getD,hj]⟩;have hl:=run_loadCells (P:=P) w ⟨k,o+off,none⟩ n (fun j=>us (off+j)) (fun j hj=>by rw[add_lit,Nat.add_assoc];exact hc _ af);simp[Instr.loadAt,Instr.sureAddr,loadVar,UC ht,Kc hs,hl]
def UE {t:TypeId}{ty:TY}(ht:l9 P t=some ty){vs:Array Value}{cs:List AV}(hs:vs.size=cs.length)(h1:∀ j,j<cs.length->(vs.getD j undef).oneCell'=true)
  (hv:∀ j,j<cs.length->VR g W w (cs.getD j .any) (vs.getD j undef)) {off:Nat} (h:kK ty cs off):∃ v,(part t vs off).run P w=.ok v w/\VR g W w (wr ty cs off) v:=by
 cases ty with
 | sc q =>
  refine ⟨vs.getD off undef,?_,T9 hv h⟩;have h0:off<vs.size:=by rw[hs];exact h.1
  simp[part,UD ht,h0,Array.getD]
 | ag m =>
  obtain ⟨rQ,_⟩:=HX ht;have h':off+m<=cs.length:=h;refine ⟨.agg (vs.extract off (off+m)),?_,UA h1 hv h _ (by simp;omega) fun j hj=>?_⟩
  ·simp[part,UC ht,Kc rQ]
  ·have:off + j < vs.size:=by omega
   simp only[Array.getD,Array.size_extract,this,dif_pos];rw[dif_pos af];simp
def MF {m:GM}  (h:BR g W w m (.cells cs))(cf:0<cs.length):∃ (k:Nat) (us:Nat->Value),m=.re k/\(∀ j,j<cs.length->Uw w k (0+j)=some (us j))/\(∀ j,j<cs.length->(us j).oneCell'=true)/\∀ j,j<cs.length->VR g W w (cs.getD j .any) (us j):=by
 cases h with
 | ph=>simp at cf
 | cells hb hl h1 hv hf =>
  rename_i k cur e fz;refine ⟨k,fun j=>cur.getD j undef,rfl,fun j hj=>?_,h1,hv⟩;have dd:j<cur.size:=by omega
  have:=cell_of_row w k (0+j) cur e fz hb;unfold Uw;rw[this];simp[Array.getD,dd]
def UF {ty:TY}  {off:Nat}(h:kK ty cs off)(cf:¬ 0<cs.length):ty=.ag 0/\cs=[]/\off=0:=by
 have hl:cs.length=0:=by omega
 cases ty with
 | sc k=>have:=h.1;omega
 | ag n=>have h':off+n<=cs.length:=h;exact ⟨by congr;omega,List.eq_nil_of_length_eq_zero hl,by omega⟩
end
section
variable {P:Program}{g:Nat->GM}{W:Nat->Prop}{w:World}
def HY {x y:Operand}{a b:Value}(h:a.oneCell'=true)(h2:a≠.nilIface):(eqGuard op t x y a b).run P w=.ok () w:=by
 cases op<;>cases a<;>simp_all [eqGuard,Value.oneCell']<;>rfl
def Kv {x y:Operand}(k:IntKind)(n:Int)(b:Value):(eqGuard op t x y (.int k n) b).run P w=.ok () w:=HY rfl (by simp)
def UG {x y:Operand}(n:Bool)(b:Value):(eqGuard op t x y (.bool n) b).run P w=.ok () w:=HY rfl (by simp)
def MG {x y:Operand}(n:ByteArray)(b:Value):(eqGuard op t x y (.string n) b).run P w=.ok () w:=HY rfl (by simp)
def UH {x y:Operand}(n:Option Addr)(b:Value):(eqGuard op t x y (.pointer n) b).run P w=.ok () w:=HY rfl (by simp)
def MH (h:op=.add\/op=.sub\/op=.mul)(t:TypeId)(k:IntKind)(m n:Int):binOp op t (.int k m) (.int k n)=pure (.int k (k.wrap (yN op m n))):=by
 rcases h with rfl|rfl|rfl<;>simp[binOp,Op.intArith,yN]
def UI (h:op=.quo\/op=.rem)(t:TypeId)(k:IntKind)(m n:Int)(h0:n≠0):binOp op t (.int k m) (.int k n)=pure (.int k (BA op k m n)):=by
 rcases h with rfl|rfl<;>simp[binOp,Op.intDiv,BA,h0]
def HZ (h:op=.and\/op=.or\/op=.xor\/op=.andNot)(t:TypeId)(k:IntKind)(m n:Int):binOp op t (.int k m) (.int k n)=pure (.int k (bits op k m n)):=by
 rcases h with rfl|rfl|rfl|rfl<;>simp[binOp,Op.intBits,bits]
def UJ (h:op=.shl\/op=.shr)(t:TypeId)(k j:IntKind)(m n:Int)(h0:0<=n):binOp op t (.int k m) (.int j n)=pure (.int k (BB op k m n)):=by
 have h1:¬ n<0:=by omega
 rcases h with rfl|rfl<;>simp[binOp,Op.shift,BB,h1]
def Yhd (h:op=.eql\/op=.neq\/op=.lss\/op=.leq\/op=.gtr\/op=.geq)(t:TypeId)(k:IntKind)(m n:Int):binOp op t (.int k m) (.int k n)=pure (.bool (tJ op m n)):=by
 rcases h with rfl|rfl|rfl|rfl|rfl|rfl<;>simp[binOp,Op.intCmp,tJ]
def Ycs (hu:P.underlying t=some (.pointer e))(p:Option Addr):(binOp .eql t (.pointer p) (.pointer none)).run P w=.ok (.bool p.isNone) w:=by
 rw[run_eql_pointer_nil w t p (by rw[hu];simp[Program.pointee,hu])]
def Yef (hu:P.underlying t=some (.pointer e))(p:Option Addr):(binOp .neq t (.pointer p) (.pointer none)).run P w=.ok (.bool (!p.isNone)) w:=by
 rw[run_neq_pointer_nil w t p (by rw[hu];simp[Program.pointee,hu])]
def UK:(⟨l.toArray⟩:ByteArray).toList=l:=by rw[Lib.toList_data]
def Xn3 (l m:List UInt8):(⟨l.toArray⟩:ByteArray)++⟨m.toArray⟩=⟨(l++m).toArray⟩:=by
 apply ByteArray.ext;simp[ByteArray.data_append]
def H7:(⟨l.toArray⟩:ByteArray).size=l.length:=by simp[ByteArray.size]
def Xov {op:BinOp}{t:TypeId}{x y:Operand}{q:Q1}{xs:List Operand}(aE:HU P op t x y=some (q,xs))(ρ:Operand->Value){gf:List AV}(ha:bT g W w gf (xs.map ρ)){oX:Bk}
  (hp:qp q gf oX) (hy:∀ v,y=.const v->ρ y=v):∃ v,(do eqGuard op t x y (ρ x) (ρ y);binOp op t (ρ x) (ρ y):Sem Value).run P w=.ok v w/\VR g W w (qv q gf oX) v:=by
 unfold HU at aE;split at aE
 ·rename_i k hu;have two:∀ q',some (q',[x,y])=some (q,xs)->∃ a b,gf=[a,b]/\q=q'/\VR g W w a (ρ x)/\VR g W w b (ρ y):=by
   intro q' h;simp at h;obtain ⟨rfl,rfl⟩:=h;obtain ⟨a,b,rfl,h1,h2⟩:=bT.two (by simpa using ha);exact ⟨a,b,rfl,rfl,h1,h2⟩
  unfold MC at aE;split at aE
  all_goals
   obtain ⟨a,b,rfl,rfl,h1,h2⟩:=two _ aE;simp only[qp]at hp
  ·rw[h1.d4 hp.1,h2.d4 hp.2];exact ⟨_,by simp only[Sem.run_bind,Kv,Result.andThen_ok,MH (.inl rfl)];rfl,.int _ _⟩
  ·rw[h1.d4 hp.1,h2.d4 hp.2];exact ⟨_,by simp only[Sem.run_bind,Kv,Result.andThen_ok,MH (.inr (.inl rfl))];rfl,.int _ _⟩
  ·rw[h1.d4 hp.1,h2.d4 hp.2];exact ⟨_,by simp only[Sem.run_bind,Kv,Result.andThen_ok,MH (.inr (.inr rfl))];rfl,.int _ _⟩
  ·rw[h1.d4 hp.1,h2.d4 hp.2.1];exact ⟨_,by simp only[Sem.run_bind,Kv,Result.andThen_ok,UI (.inl rfl) _ _ _ _ hp.2.2];rfl,.int _ _⟩
  ·rw[h1.d4 hp.1,h2.d4 hp.2.1];exact ⟨_,by simp only[Sem.run_bind,Kv,Result.andThen_ok,UI (.inr rfl) _ _ _ _ hp.2.2];rfl,.int _ _⟩
  ·rw[h1.d4 hp.1,h2.d4 hp.2];exact ⟨_,by simp only[Sem.run_bind,Kv,Result.andThen_ok,HZ (.inl rfl)];rfl,.int _ _⟩
  ·rw[h1.d4 hp.1,h2.d4 hp.2];exact ⟨_,by simp only[Sem.run_bind,Kv,Result.andThen_ok,HZ (.inr (.inl rfl))];rfl,.int _ _⟩
  ·rw[h1.d4 hp.1,h2.d4 hp.2];exact ⟨_,by simp only[Sem.run_bind,Kv,Result.andThen_ok,HZ (.inr (.inr (.inl rfl)))];rfl,.int _ _⟩
  ·rw[h1.d4 hp.1,h2.d4 hp.2];exact ⟨_,by simp only[Sem.run_bind,Kv,Result.andThen_ok,HZ (.inr (.inr (.inr rfl)))];rfl,.int _ _⟩
  ·obtain ⟨j,hj⟩:=h2.d7 hp.2.1;rw[h1.d4 hp.1,hj];exact ⟨_,by simp only[Sem.run_bind,Kv,Result.andThen_ok,UJ (.inl rfl) _ _ _ _ _ hp.2.2];rfl,.int _ _⟩
  ·obtain ⟨j,hj⟩:=h2.d7 hp.2.1;rw[h1.d4 hp.1,hj];exact ⟨_,by simp only[Sem.run_bind,Kv,Result.andThen_ok,UJ (.inr rfl) _ _ _ _ _ hp.2.2];rfl,.int _ _⟩
  ·rw[h1.d4 hp.1,h2.d4 hp.2];have hop:op=.eql∨op=.neq∨op=.lss∨op=.leq∨op=.gtr∨op=.geq:=by cases op<;>simp_all
   exact ⟨_,by simp only[Sem.run_bind,Kv,Result.andThen_ok,Yhd hop];rfl,.bool _⟩
 ·rename_i hu;unfold MD at aE;split at aE
  ·simp at aE;obtain ⟨rfl,rfl⟩:=aE;obtain ⟨a,b,rfl,h1,h2⟩:=bT.two (by simpa using ha);rw[h1.d6 hp.1,h2.d6 hp.2];exact ⟨.bool (eY a==eY b),by simp only[Sem.run_bind,UG,Result.andThen_ok,run_eql_bool _ _ _ _ hu],by simp only[qv,Bool.false_bne];exact .bool _⟩
  ·simp at aE;obtain ⟨rfl,rfl⟩:=aE;obtain ⟨a,b,rfl,h1,h2⟩:=bT.two (by simpa using ha);rw[h1.d6 hp.1,h2.d6 hp.2];exact ⟨.bool (!(eY a==eY b)),by simp only[Sem.run_bind,UG,Result.andThen_ok,run_neq_bool _ _ _ _ hu],by simp only[qv,Bool.true_bne];exact .bool _⟩
  ·simp at aE
 ·rename_i hu;unfold ME at aE;split at aE
  ·simp at aE;obtain ⟨rfl,rfl⟩:=aE;obtain ⟨a,b,rfl,h1,h2⟩:=bT.two (by simpa using ha);rw[h1.d8 hp.1,h2.d8 hp.2.1];have hlen:=hp.2.2;refine ⟨.string ⟨(cV a++cV b).toArray⟩,?_,.str _⟩;simp only[Sem.run_bind,MG,Result.andThen_ok,binOp_string_add,Op.stringOp,H7,Xn3];rw[aa (by simp[IntKind.max,IntKind.signed,IntKind.bits];omega)];rfl
  ·simp at aE;obtain ⟨rfl,rfl⟩:=aE;obtain ⟨a,b,rfl,h1,h2⟩:=bT.two (by simpa using ha);rw[h1.d8 hp.1,h2.d8 hp.2];exact ⟨.bool (cV a==cV b),by simp only[Sem.run_bind,MG,Result.andThen_ok,binOp_string_eql,UK,Sem.run_pure],by simp only[qv,Bool.false_bne];exact .bool _⟩
  ·simp at aE;obtain ⟨rfl,rfl⟩:=aE;obtain ⟨a,b,rfl,h1,h2⟩:=bT.two (by simpa using ha);rw[h1.d8 hp.1,h2.d8 hp.2];exact ⟨.bool (!(cV a==cV b)),by simp only[Sem.run_bind,MG,Result.andThen_ok,binOp_string_neq,UK,Sem.run_pure],by simp only[qv,Bool.true_bne];exact .bool _⟩
  ·simp at aE
 ·rename_i e hu;have ptr:∀ {a:AV},VR g W w a (ρ x)->(qp (.eZ false) [a] oX\/qp (.eZ true) [a] oX)->∃ p:Option Addr,ρ x=.pointer p/\∀ ne,qv (.eZ ne) [a] oX=.bool (if p.isNone then !ne else ne):=by
   intro a h1 hq;generalize ρ x=rx at h1;cases h1 with
   | ptr=>exact ⟨_,rfl,fun ne=>by simp[qv]⟩
   | xp=>exact ⟨_,rfl,fun ne=>by simp[qv]⟩
   | lit =>
    cases rx<;>simp only[qp,or_self]at hq
    rename_i p;cases p<;>simp only[qp,or_self]at hq
    exact ⟨_,rfl,fun ne=>by simp[qv]⟩
   | _=>simp[qp]at hq
  unfold jZ at aE;split at aE;rotate_left
  ·simp at aE
  split at aE
  ·simp at aE;obtain ⟨rfl,rfl⟩:=aE;obtain ⟨a,rfl,h1⟩:=bT.one (by simpa using ha);obtain ⟨p,e1,e2⟩:=ptr h1 (.inl hp);refine ⟨.bool p.isNone,?_,by rw[e2];cases p<;>exact .bool _⟩;rw[hy _ rfl,e1];simp only[Sem.run_bind,UH,Result.andThen_ok,Ycs hu]
  ·simp at aE;obtain ⟨rfl,rfl⟩:=aE;obtain ⟨a,rfl,h1⟩:=bT.one (by simpa using ha);obtain ⟨p,e1,e2⟩:=ptr h1 (.inr hp);refine ⟨.bool (!p.isNone),?_,by rw[e2];cases p<;>exact .bool _⟩;rw[hy _ rfl,e1];simp only[Sem.run_bind,UH,Result.andThen_ok,Yef hu]
  ·simp at aE
 ·cases aE
def Zy {s:Sem Value}  {w':World}(h:s.run P w=.ok v w'):(do pure (.value (<- s)):Sem Next).run P w=.ok (.value v) w':=by simp[h]
def Xfv {lo hi:Bool}  (hb:nk lo hi r)  (hv:bT g W w r vs) :
  (lo=true->∃ k,vs[0]?=some (.int k (Xs lo r)))/\(lo=false->Xs lo r=0)/\(∀ n,hi=true->∃ k,vs[if lo then 1 else 0]?=some (.int k (Jf lo hi n r)))/\(∀ n,hi=false->Jf lo hi n r=n):=by
 match r,hb with
 | [],⟨h1,h2⟩=>subst h1;subst h2;exact ⟨(fun h=>by cases h),fun _=>rfl,(fun _ h=>by cases h),fun _ _=>rfl⟩
 | [x],⟨h1,h2⟩ =>
  obtain ⟨v,r',rfl,h3,h4⟩:=hv.cons_inv;obtain rfl:=h4.oW;have e:=h3.d4 h1;cases lo<;>cases hi<;>simp at h2<;>simp[Xs,Jf,e]
 | [x,y],⟨h1,h2,h3,h4⟩ =>
  subst h1;subst h2;obtain ⟨v,r',rfl,h5,h6⟩:=hv.cons_inv;obtain ⟨u,r'',rfl,h7,h8⟩:=h6.cons_inv;have e:=h5.d4 h3;have e':=h7.d4 h4;simp[Xs,Jf,e,e']
def H8 {isSlice:Bool}{len cap:Nat}{lo hi:Option Operand}{ρ:Operand->Value}{r:List AV}(hb:nk lo.isSome hi.isSome r)(hv:bT g W w r ((lo.toList++hi.toList).map ρ))
  (h0:0<=Xs lo.isSome r) (h1:Xs lo.isSome r<=Jf lo.isSome hi.isSome len r) (h2:Jf lo.isSome hi.isSome len r<=cap) :
  (Instr.sliceBounds isSlice len cap (lo.map ρ) (hi.map ρ) none).run P w=.ok ((Xs lo.isSome r).toNat,(Jf lo.isSome hi.isSome len r).toNat,cap) w:=by
 obtain ⟨a1,a2,a3,a4⟩:=Xfv hb hv;generalize Xs lo.isSome r=L at *
 replace a3:=a3 len;replace a4:=a4 len;generalize Jf lo.isSome hi.isSome len r=H at *
 have uZ:∀ (k:IntKind) (i:Int) (y:Nat) (code:BoundsCode),0<=i->i<=y->(Instr.sliceBound (.int k i) y code).run P w=.ok i.toNat w:=fun k i y code h h'=>by
  simp[Instr.sliceBound,asIntOf,h,h']
 have hH:(H.toNat:Int)=H:=by omega
 cases lo with
 | none =>
  have e:=a2 rfl;subst e;cases hi with
  | none=>have e:=a4 rfl;subst e;simp[Instr.sliceBounds]
  | some y =>
   obtain ⟨k,e⟩:=a3 rfl;simp at e;simp[Instr.sliceBounds,e,uZ k H cap _ h1 h2]
 | some x =>
  obtain ⟨k,e⟩:=a1 rfl;simp at e;cases hi with
  | none=>have e':=a4 rfl;subst e';simp[Instr.sliceBounds,e,uZ k L len _ h0 h1]
  | some y =>
   obtain ⟨k',e'⟩:=a3 rfl;simp at e';simp[Instr.sliceBounds,e,e',uZ k' H cap _ af h2,uZ k L H.toNat _ h0 af]
def UL (off:Nat):∀ (l:List Value) (k:Nat) (cs:Array Value),((l.zipIdx k).foldl (fun cs (p:Value×Nat)=>cs.setIfInBounds (off+p.2) p.1) cs).size=cs.size /\
  ∀ j,((l.zipIdx k).foldl (fun cs (p:Value×Nat)=>cs.setIfInBounds (off+p.2) p.1) cs).getD j undef=if off+k<=j/\j<off+k+l.length/\j<cs.size then l.getD (j-(off+k)) undef else cs.getD j undef
 | [],k,cs=>by
  refine ⟨rfl,fun j=>?_⟩;rw[aa (by simp;omega)];rfl
 | v::l,k,cs=>by
  obtain ⟨h1,h2⟩:=UL off l (k+1) (cs.setIfInBounds (off+k) v);simp only[List.zipIdx_cons,List.foldl_cons];refine ⟨by rw[h1];simp,fun j=>?_⟩;rw[h2 j];simp only[Array.size_setIfInBounds,length_cons];by_cases hj:j=off+k
  ·subst hj;rw[aa af];by_cases hs:off + k < cs.size
   ·rw[am af];simp[Array.getD,hs]
   ·rw[aa af];simp[Array.getD,hs]
  ·have e:(cs.setIfInBounds (off+k) v).getD j undef=cs.getD j undef:=by
    simp only[Array.getD_eq_getD_getElem?,Array.getElem?_setIfInBounds];rw[aa (fun h=>hj h.symm)]
   rw[e];by_cases hc:off+(k+1)<=j/\j<off+(k+1)+l.length/\j<cs.size
   ·rw[am hc,am af];have:j - (off + k)=(j - (off + (k + 1))) + 1:=by omega
    rw[this];simp
   ·rw[aa hc,aa af]
def UM {cs vs:List AV}{off:Nat}(ho:off+vs.length<=cs.length):(Ym cs off vs).length=cs.length:=by unfold Ym;simp;omega
def Xyw {cs vs:List AV}{off:Nat}(ho:off+vs.length<=cs.length)(j:Nat):(Ym cs off vs).getD j .any=if off<=j/\j<off+vs.length then vs.getD (j-off) .any else cs.getD j .any:=by
 unfold Ym;simp only[List.getD];by_cases hlt:j<off
 ·rw[aa af,append_assoc,getElem?_append_left (by simp;omega),getElem?_take,am hlt]
 ·by_cases eIa:j < off + vs.length
  ·rw[am af,getElem?_append_left (by simp;omega),List.getElem?_append_right (by simp;omega)];simp only[length_take];rw[show min off cs.length=off by omega]
  ·rw[aa af,List.getElem?_append_right (by simp;omega),getElem?_drop];simp only[length_append,length_take];rw[show off+vs.length+(j-(min off cs.length+vs.length))=j by omega]
def UN {cs:List AV}{cells:Array Value}(hs:cells.size=cs.length)(h1:∀ j,j<cs.length->(cells.getD j undef).oneCell'=true)(h:∀ j,j<cs.length->VR g W w (cs.getD j .any) (cells.getD j undef))
  {vs:List AV} {us:Array Value} (hu:us.size=vs.length) (hu1:∀ j,j<vs.length->(us.getD j undef).oneCell'=true) (hv:∀ j,j<vs.length->VR g W w (vs.getD j .any) (us.getD j undef)) {off:Nat} (ho:off+vs.length<=cs.length)
  {cells':Array Value} (rQ:cells'.size=cells.size) (hc:∀ j,cells'.getD j undef=if off<=j/\j<off+us.size/\j<cells.size then us.getD (j-off) undef else cells.getD j undef) :
  cells'.size=(Ym cs off vs).length/\(∀ j,j<(Ym cs off vs).length->(cells'.getD j undef).oneCell'=true)/\∀ j,j<(Ym cs off vs).length->VR g W w ((Ym cs off vs).getD j .any) (cells'.getD j undef):=by
 have hl:(Ym cs off vs).length=cs.length:=by unfold Ym;simp;omega
 refine ⟨by rw[hl,rQ,hs],fun j hj=>?_,fun j hj=>?_⟩
 ·rw[hl]at hj;rw[hc];split
  ·exact hu1 _ af
  ·exact h1 _ hj
 ·rw[hl]at hj;rw[hc];rw[Xyw ho];by_cases BE:off≤j∧j < off + vs.length
  ·rw[am BE,am af];exact hv _ af
  ·rw[aa BE,aa af];exact h j hj
def UO {off:Nat}  (h:off<cs.length):cs.set off x=Ym cs off [x]:=by
 apply List.ext_getElem?;intro j;unfold Ym;rw[List.getElem?_set];by_cases hlt:j<off
 ·rw[aa af,append_assoc,getElem?_append_left (by simp;omega),getElem?_take,am hlt]
 ·by_cases he:off=j
  ·subst he;rw[am rfl,am h,getElem?_append_left (by simp;omega),List.getElem?_append_right (by simp;omega)];simp[Nat.min_eq_left (Nat.le_of_lt h)]
  ·rw[aa he,List.getElem?_append_right (by simp;omega),getElem?_drop];simp only[length_append,length_take,List.length_singleton];congr 1;omega
def MI (h:v.oneCell'=true):v.cells=#[v]:=by cases v<;>simp_all [Value.cells,Value.oneCell']
def Xwh {n off m:Nat}{ps:List (Nat×Nat)}   (h:∀ vs,x≠.agg vs)(hb:Zf n ((off,m)::ps) (x::r)):one x/\m=1/\off<n/\Zf n ps r:=by
 cases x<;>first|exact absurd rfl (h _)|exact hb
def Ydu {off m:Nat}{ps:List (Nat×Nat)}   (h:∀ vs,x≠.agg vs):Jg cs ((off,m)::ps) (x::r)=Jg (cs.set off x) ps r:=by
 cases x<;>first|exact absurd rfl (h _)|rfl
def MJ {place:Nat->Option (Nat×Nat)}:∀ (ps:List (Nat×Nat)) (is:List Nat) (_:is.map place=ps.map some) {gf:List AV} {vs:List Value} (_:bT g W w gf vs) (_:is.length=vs.length) {cs:List AV} {cells:Array Value}
  (_:Zf cs.length ps gf) (_:cells.size=cs.length) (_:∀ j,j<cs.length->(cells.getD j undef).oneCell'=true) (_:∀ j,j<cs.length->VR g W w (cs.getD j .any) (cells.getD j undef)),
  ∃ cells',Instr.fill place cells (is.zip vs)=some cells'/\VR g W w (.agg (Jg cs ps gf)) (.agg cells'):=by
 intro ps
 induction ps with
 | nil =>
  intro is BF gf vs hv hl cs cells hb hs h1 h;obtain rfl:is=[]:=by simpa using BF
  obtain rfl:vs=[]:=by simpa using hl.symm
  obtain rfl:=hv.me;exact ⟨cells,rfl,.agg hs h1 h⟩
 | cons p ps ih =>
  intro is BF gf vs hv hl cs cells hb hs h1 h;obtain ⟨off,m⟩:=p;cases is with
  | nil=>simp at BF
  | cons i is =>
   cases vs with
   | nil=>simp at hl
   | cons v vs =>
    obtain ⟨x,MK,rfl,hx,qa⟩:=hv.dN;simp only[map_cons,List.cons.injEq]at BF;have mf:is.length=vs.length:=by simpa using hl
    -- the H9 cells,gf abstract and gf real eMa
    have piece:∃ (pv:List AV),v.cells.size=m∧pv.length=m∧off + m≤cs.length∧Zf cs.length ps MK∧(∀ j,j < pv.length→(v.cells.getD j undef).oneCell'=true)∧(∀ j,j < pv.length→VR g W w (pv.getD j .any) (v.cells.getD j undef)) ∧
      Jg cs ((off,m)::ps) (x::MK)=Jg (Ym cs off pv) ps MK:=by
     by_cases BG:∃ ML,x=.agg ML
     ·obtain ⟨ML,rfl⟩:=BG;cases hx with
      | agg yS fu h2 =>
       obtain ⟨e1,e2,e3⟩:=hb;exact ⟨ML,by rw[<- e1];exact yS,e1,e2,e3,fu,h2,rfl⟩
     ·have yT:∀ vs,x≠.agg vs:=fun vs e=>BG ⟨vs,e⟩;obtain ⟨e1,rfl,e2,e3⟩:=Xwh yT hb;have yU:=hx.one e1;rw[MI yU];refine ⟨[x],rfl,rfl,by omega,e3,fun j hj=>?_,fun j hj=>?_,by rw[Ydu yT,UO e2]⟩
      ·simp at hj;subst hj;exact yU
      ·simp at hj;subst hj;exact hx
    obtain ⟨pv,p1,p2,p3,p4,p5,p6,p7⟩:=piece;rw[p7];have dX:Instr.fill place cells ((i::is).zip (v::vs))=Instr.fill place (v.cells.zipIdx.foldl (fun cs (c,j)=>cs.setIfInBounds (off+j) c) cells) (is.zip vs):=by
     simp only[List.zip_cons_cons,Instr.fill,BF.1];rw[aa];simp[p1];omega
    rw[dX];obtain ⟨f1,f2⟩:=UL off v.cells.toList 0 cells;have DI:v.cells.zipIdx.foldl (fun cs (c,j)=>cs.setIfInBounds (off+j) c) cells=(v.cells.toList.zipIdx 0).foldl (fun cs (p:Value×Nat)=>cs.setIfInBounds (off+p.2) p.1) cells:=by
     rw[<- Array.foldl_toList];simp
    rw[DI];generalize (v.cells.toList.zipIdx 0).foldl (fun cs (p:Value×Nat)=>cs.setIfInBounds (off+p.2) p.1) cells=MM at f1 f2;have ho:off+pv.length<=cs.length:=by omega
    obtain ⟨s1,s2,s3⟩:=UN hs h1 h (vs:=pv) (us:=v.cells) (by rw[p1,p2]) p5 p6 ho f1 (fun j=>by
     rw[f2 j];simp only[Nat.add_zero,Array.length_toList];congr 1;simp[Array.getD_eq_getD_getElem?])
    exact ih is BF.2 qa mf (by rw[UM ho];exact p4) s1 s2 s3
end
section
variable {P:Program}{g:Nat->GM}{W:Nat->Prop}{w:World}
def UP {fs:Array Field}{places:Array (Nat×Nat)}(kg:∀ i:Nat,places[i]?=(fs[i]?).bind fun (f:Field)=>(Zt P f.type).map fun m=>(f.offset,m)):∀ (is:List Nat) (ps:List (Nat×Nat)),BC P fs is=some ps->is.map (fun i=>places[i]?)=ps.map some
 | [],ps,h=>by simp[BC]at h;subst h;rfl
 | i::r,ps,h=>by
  unfold BC at h;cases hf:fs[i]? with
  | none=>rw[hf]at h;simp at h
  | some f =>
   rw[hf]at h;simp only at h;split at h
   ·rename_i m l hm hl;simp at h;subst h;simp only[map_cons];rw[UP kg r l hl,kg i,hf];simp[hm]
   ·cases h
def Xis {fs:Array Field}(h:∀ f ∈ fs.toList,(Zt P f.type).isSome=true):∃ places:Array (Nat×Nat),(fs.mapM (fun f=>(do pure (f.offset,<- sizeOf f.type):Sem (Nat×Nat)))).run P w=.ok places w/\∀ i:Nat,places[i]?=(fs[i]?).bind fun (f:Field)=>(Zt P f.type).map fun m=>(f.offset,m):=by
 have key:∀ (l:List Field),(∀ f ∈ l,(Zt P f.type).isSome=true)->∃ ps:List (Nat×Nat),(l.mapM (fun f=>(do pure (f.offset,<- sizeOf f.type):Sem (Nat×Nat)))).run P w=.ok ps w/\∀ i:Nat,ps[i]?=(l[i]?).bind fun (f:Field)=>(Zt P f.type).map fun m=>(f.offset,m):=by
  intro l
  induction l with
  | nil=>intro _;exact ⟨[],by simp,by simp⟩
  | cons f l ih =>
   intro h;obtain ⟨ps,h1,h2⟩:=ih fun f hf=>h f (List.mem_cons_of_mem _ hf);have hf:=h f av;cases hs:Zt P f.type with
   | none=>rw[hs]at hf;cases hf
   | some m =>
    refine ⟨(f.offset,m)::ps,?_,fun i=>?_⟩
    ·simp only[List.mapM_cons,Sem.run_bind,Kc hs,Result.andThen_ok,Sem.run_pure,h1]
    ·cases i with
     | zero=>simp[hs]
     | succ i=>simpa using h2 i
 obtain ⟨ps,h1,h2⟩:=key fs.toList h;refine ⟨ps.toArray,?_,fun i=>by simpa using h2 i⟩;rw[<- Array.toArray_toList (xs:=fs)];rw[Array.mapM_eq_mapM_toList];simp only[Sem.run_map,h1,Result.andThen_ok]
def Uq (h:VR g W w (.agg cs) v):∃ us:Array Value,v=.agg us/\us.size=cs.length/\(∀ j,j<cs.length->(us.getD j undef).oneCell'=true)/\∀ j,j<cs.length->VR g W w (cs.getD j .any) (us.getD j undef):=by
 cases h with
 | agg hs h1 h=>exact ⟨_,rfl,hs,h1,h⟩
def DJ (h:VR g W w (.aR cs) v):∃ us:Array Value,v=.tuple us/\us.size=cs.length/\∀ j,j<cs.length->VR g W w (cs.getD j .any) (us.getD j undef):=by
 cases h with
 | aR hs h=>exact ⟨_,rfl,hs,h⟩
def tK (h:VR g W w (.isl n cs) v):∃ (a:Option Addr) (cap:Nat) (us:Nat->Value),v=.slice a n cap/\n<=cap/\cap<=maxLen /\
  (∀ j,j<cs.length->∃ k o,a=some ⟨k,o,none⟩/\Uw w k (o+j)=some (us j)/\¬ W k/\(us j).oneCell'=true)/\∀ j,j<cs.length->VR g W w (cs.getD j .any) (us j):=by
 cases h with
 | isl hn hm hc h=>exact ⟨_,_,_,rfl,hn,hm,hc,h⟩
def qW {es b off n c:Nat}  (h:VR g W w (.sl es b off n c) v):(∃ k cap e cur fz,v=.slice (some ⟨k,off,none⟩) n cap/\g b=.re k/\n<=c/\c<=cap/\cap<=maxLen/\w.heap[k]?=some (.cells cur e fz)/\off+cap*es<=cur.size)\/(∃ a,v=.slice a 0 0/\g b=.ph/\n=0/\c=0):=by
 cases h with
 | sl hg hn hc hm hb hs=>exact .inl ⟨_,_,_,_,_,rfl,hg,hn,hc,hm,hb,hs⟩
 | kH hg hc=>exact .inr ⟨_,rfl,hg,rfl,hc⟩
def Ia {off:Nat}  (h:VR g W w (.xp cs off) v):∃ (k o:Nat) (us:Nat->Value),v=.pointer (some ⟨k,o+off,none⟩)/\(∀ j,j<cs.length->Uw w k (o+j)=some (us j)/\¬ W k/\(us j).oneCell'=true)/\∀ j,j<cs.length->VR g W w (cs.getD j .any) (us j):=by
 cases h with
 | xp hc h=>exact ⟨_,_,_,rfl,hc,h⟩
def BH {b off:Nat}  (h:VR g W w (.ptr b off) v):∃ k,v=.pointer (some ⟨k,off,none⟩)/\g b=.re k:=by
 cases h with
 | ptr hg=>exact ⟨_,rfl,hg⟩
def DK (h:VR g W w .nils v):∃ a,v=.slice a 0 0:=by
 cases h with
 | nils a=>exact ⟨a,rfl⟩
def yV (h:VR g W w (.mp b) v):∃ k,v=.map (some k)/\g b=.re k:=by
 cases h with
 | mp hg=>exact ⟨_,rfl,hg⟩
def DF.get {l:List AV}{x:Bk}(h:DF g W w l x)  (hb:Jz l=some b):BR g W w (g b) x:=h b hb
def Yat (cs:List AV)(h:∀ v ∈ cs,cb .u8 v)  (hv:∀ j,j<cs.length->VR g W w (cs.getD j .any) (us j))(j:Nat)(hj:j<(toB cs).length):us j=.int .u8 (bD (cs.getD j .any)):=by
 have dd:j<cs.length:=by simpa [toB] using hj
 have hm:cs.getD j .any ∈ cs:=by rw[DG dd];exact List.getElem_mem _
 exact (hv j dd).d4 (h _ hm)
def MN {src dst e:TypeId}(hs:P.underlying src=some (.slice e))(he:P.underlying e=some (.int .u8))(hd:P.underlying dst=some .string){k o n cap:Nat}{cs:List AV}{us:Nat->Value}(hn:cs.length=n)
  (hc:∀ j,j<n->Uw w k (o+j)=some (us j)) (h8:∀ v ∈ cs,cb .u8 v) (hv:∀ j,j<cs.length->VR g W w (cs.getD j .any) (us j)) :
  (convert src dst (.slice (some ⟨k,o,none⟩) n cap)).run P w=.ok (.string ⟨(toB cs).toArray⟩) w:=by
 subst hn;rw[run_convert_bytes_string w src dst e _ _ _ hs he hd];have hl:=run_loadCells (P:=P) w ⟨k,o,none⟩ cs.length us (fun j hj=>by rw[add_lit];exact hc j hj);have oY:((List.range cs.length).map us).toArray=((cs.map bD).map (Value.int .u8)).toArray:=by
  congr 1;apply List.ext_getElem av;intro j h1 h2;simp only[List.getElem_map,List.getElem_range];have hj:j<cs.length:=by simpa using h1
  have:=Yat cs h8 hv j (by simpa [toB] using hj);rw[this,DG hj]
 rw[oY]at hl;rw[run_bytesToString w _ _ _ _ hl];congr 2;have key:∀ (l:List AV) (s:ByteArray),(l.map bD).foldl (fun r n=>r.push (UInt8.ofNat n.toNat)) s=⟨s.data++(toB l).toArray⟩:=by
  intro l
  induction l with
  | nil=>intro s;cases s;simp[toB]
  | cons x l ih =>
   intro s;simp only[map_cons,List.foldl_cons,ih,toB];congr 1;simp[ByteArray.data_push]
 rw[key];simp[ByteArray.empty,ByteArray.emptyWithCapacity];rfl
def UQ {fs:Array Field}(hu:P.underlying t=some (.struct fs)){f:Nat}{fd:Field}(jq:fs[f]?=some fd){m:Nat}(hm:Zt P fd.type=some (m+1))(k o:Nat) :
  (Instr.fieldAt t (.pointer (some ⟨k,o,none⟩)) f).run P w=.ok (.pointer (some ⟨k,o+fd.offset,none⟩)) w:=by
 simp[Instr.fieldAt,run_underlying hu,jq,Instr.sureAddr,fieldPlace,Kc hm,add_lit]
def UR (hu:P.underlying t=some (.array n e))(dj:Zt P e=some es)(k o:Nat)(q:IntKind)(i:Int)(h0:0<=i)(h1:i<(n:Int)) :
  (Instr.indexAt t (.pointer (some ⟨k,o,none⟩)) (.int q i)).run P w=.ok (.pointer (some ⟨k,o+i.toNat*es,none⟩)) w:=by
 simp[Instr.indexAt,run_underlying hu,asIntOf,Instr.sureAddr,h0,h1,Kc dj,add_lit]
def US (hu:P.underlying t=some (.slice e))(dj:Zt P e=some es)(k o n cap:Nat)(q:IntKind)(i:Int)(h0:0<=i)(h1:i<(n:Int)) :
  (Instr.indexAt t (.slice (some ⟨k,o,none⟩) n cap) (.int q i)).run P w=.ok (.pointer (some ⟨k,o+i.toNat*es,none⟩)) w:=by
 simp[Instr.indexAt,run_underlying hu,asIntOf,h0,h1,Kc dj,add_lit]
def Yac {o:Oper}{q:Q1}{xs:List Operand}(aE:uY P o=some (q,xs))(ρ:Operand->Value)(hρ:∀ v,ρ (.const v)=v){gf:List AV}(ha:bT g W w gf (xs.map ρ)){oX:Bk}(hb:DF g W w gf oX)(hp:qp q gf oX) :
  ∃ v,(execOp ρ o).run P w=.ok (.value v) w/\VR g W w (qv q gf oX) v:=by
 unfold uY at aE;split at aE;all_goals (rename_i hop)
 -- move,assign
 ·simp at aE;obtain ⟨rfl,rfl⟩:=aE;obtain ⟨a,rfl,h1⟩:=bT.one (by simpa using ha);exact ⟨_,by simp[execOp,hop],h1⟩
 ·simp at aE;obtain ⟨rfl,rfl⟩:=aE;obtain ⟨a,rfl,h1⟩:=bT.one (by simpa using ha);exact ⟨_,by simp[execOp,hop],h1⟩
 -- pick
 ·simp at aE;obtain ⟨rfl,rfl⟩:=aE;obtain ⟨a,b,c,rfl,h1,h2,h3⟩:=bT.three (by simpa using ha);obtain ⟨p1,p2,p3⟩:=hp;have e1:=h1.d6 p1;refine ⟨_,by simp[execOp,hop,e1,asBool];rfl,?_⟩;simp only[qv];cases hc:eY a with
  | true=>simp only[cond_true,if_true];rw[h2.d6 (p2 hc)];exact .bool _
  | false=>simp only[cond_false,Bool.false_eq_true,if_false];rw[h3.d6 (p3 hc)];exact .bool _
 -- not
 ·simp at aE;obtain ⟨rfl,rfl⟩:=aE;obtain ⟨a,rfl,h1⟩:=bT.one (by simpa using ha);exact ⟨.bool (!eY a),by simp[execOp,hop,h1.d6 hp,Op.unary],.bool _⟩
 -- binOp
 ·obtain ⟨v,h1,h2⟩:=Xov (w:=w) aE ρ ha hp (fun v e=>by rw[e];exact hρ v);refine ⟨v,?_,h2⟩;simp only[execOp,hop];exact Zy h1
 -- convert
 ·split at aE
  ·rename_i ks kd hs hd;simp at aE;obtain ⟨rfl,rfl⟩:=aE;obtain ⟨a,rfl,h1⟩:=bT.one (by simpa using ha);obtain ⟨k',e⟩:=h1.d7 hp;exact ⟨_,by simp only[execOp,hop];refine Zy (v:=.int kd (kd.wrap (bD a))) ?_;rw[e];simp[convert,run_underlying hs,run_underlying hd,Conv.intToInt],.int _ _⟩
  ·rename_i e hs hd;split at aE
   ·rename_i he;simp at aE;obtain ⟨rfl,rfl⟩:=aE;obtain ⟨a,rfl,h1⟩:=bT.one (by simpa using ha);simp only[execOp,hop];cases a<;>simp only[qp]at hp
    ·rename_i es b off n c;cases oX<;>simp only[qp]at hp
     rename_i cs;obtain ⟨rfl,p2,p3⟩:=hp;rcases qW h1 with ⟨k,cap,e',cur,fz,e1,e2,_⟩|⟨wQ,e1,e2,rfl,rfl⟩
     ·by_cases fa:0 < cs.length
      ·obtain ⟨k',us,q1,q2,q3,q4⟩:=MF (hb.get (b:=b) rfl) fa;rw[e2]at q1;cases q1;refine ⟨_,Zy ?_,.str _⟩;rw[e1];refine MN (g:=g) (W:=W) (us:=fun j=>us (off + j)) hs he hd (by simp;omega) (fun j hj=>?_) p3 (fun j hj=>?_)
       ·have:=q2 (off+j) af;simpa using this
       ·have dd:j < n:=by simp at hj;omega
        have ee:((cs.drop off).take n).getD j .any=cs.getD (off+j) .any:=by simp only[List.getD,getElem?_take,getElem?_drop,am dd]
        rw[ee];exact q4 _ af
      ·have:cs=[]:=List.eq_nil_of_length_eq_zero af;subst this;have:n=0:=by simp at p2;omega
       subst this;refine ⟨.string ⟨(toB []).toArray⟩,Zy ?_,by simpa [qv,toB] using VR.str (g:=g) (W:=W) (w:=w) []⟩;rw[e1];exact MN (g:=g) (W:=W) (us:=fun _=>undef) hs he hd rfl (fun j hj=>absurd hj av) av (fun j hj=>absurd hj av)
     ·refine ⟨.string .empty,Zy ?_,?_⟩
      ·rw[e1,run_convert_bytes_string w _ _ e _ _ _ hs he hd];cases wQ<;>rfl
      ·simp only[qv,List.take_zero,toB,map_nil];exact .str []
    ·rename_i n cs;obtain ⟨p2,p3⟩:=hp;obtain ⟨a,cap,us,e1,e2,e3,e4,e5⟩:=tK h1;by_cases fa:0 < n
     ·obtain ⟨k,o,rfl,_⟩:=e4 0 af;refine ⟨_,Zy ?_,.str _⟩;rw[e1];refine MN (g:=g) (W:=W) (us:=us) hs he hd (by simp;omega) (fun j hj=>?_) p3 (fun j hj=>?_)
      ·obtain ⟨k',o',hh,h6,_⟩:=e4 j af;cases hh;exact h6
      ·have dd:j < n:=by simp at hj;omega
       have ee:(cs.take n).getD j .any=cs.getD j .any:=by simp only[List.getD,getElem?_take,am dd]
       rw[ee];exact e5 _ af
     ·have:n=0:=by omega
      subst this;refine ⟨.string ⟨#[]⟩,Zy ?_,by simpa [qv,toB] using VR.str (g:=g) (W:=W) (w:=w) []⟩;rw[e1,run_convert_bytes_string w _ _ e _ _ _ hs he hd];cases a<;>rfl
    ·generalize ρ _=rx at h1 ⊢;cases h1 with
     | nils a =>
      refine ⟨.string ⟨#[]⟩,Zy ?_,.str []⟩;rw[run_convert_bytes_string w _ _ e _ _ _ hs he hd];cases a<;>rfl
   ·cases aE
  ·cases aE
 -- field
 ·split at aE
  ·rename_i fs hu;split at aE
   ·rename_i fd jq;cases j0:l9 P fd.type with
    | none=>rw[j0]at aE;simp at aE
    | some ty =>
     rw[j0]at aE;simp at aE;obtain ⟨rfl,rfl⟩:=aE;obtain ⟨a,rfl,h1⟩:=bT.one (by simpa using ha);cases a<;>simp only[qp]at hp
     rename_i cs;obtain ⟨us,e,hs,iJ,hv⟩:=Uq h1;obtain ⟨v,hr,qb⟩:=UE (P:=P) (w:=w) j0 hs iJ hv hp;refine ⟨v,?_,qb⟩;simp only[execOp,hop];refine Zy ?_;rw[e];simp[Instr.field,run_underlying hu,jq,asAgg,hr]
   ·cases aE
  ·cases aE
 -- index
 ·split at aE
  ·rename_i n e hu;split at aE
   ·rename_i ty es j0 dj;simp at aE;obtain ⟨rfl,rfl⟩:=aE;obtain ⟨a,b,rfl,h1,h2⟩:=bT.two (by simpa using ha);cases a<;>simp only[qp]at hp
    rename_i cs;obtain ⟨p1,p2,p3,p4⟩:=hp;obtain ⟨us,e1,hs,iJ,hv⟩:=Uq h1;obtain ⟨k,e2⟩:=h2.d7 p1;obtain ⟨v,hr,qb⟩:=UE (P:=P) (w:=w) j0 hs iJ hv p4;refine ⟨v,?_,qb⟩;simp only[execOp,hop];refine Zy ?_;rw[e1,e2];simp[Instr.index,run_underlying hu,asIntOf,p2,p3,Kc dj,hr]
   ·cases aE
  ·rename_i hu;simp at aE;obtain ⟨rfl,rfl⟩:=aE;obtain ⟨a,b,rfl,h1,h2⟩:=bT.two (by simpa using ha);obtain ⟨p1,p2,p3,p4⟩:=hp;obtain ⟨k,e2⟩:=h2.d7 p2;have e1:=h1.d8 p1;have hlt:(bD b).toNat < (cV a).length:=by omega
   refine ⟨.int .u8 ((cV a).getD (bD b).toNat 0).toNat,?_,.int _ _⟩;simp only[execOp,hop];refine Zy ?_;rw[e1,e2];have hg:(⟨(cV a).toArray⟩:ByteArray)[(bD b).toNat]?=some ((cV a)[(bD b).toNat]):=by
    rw[getElem?_pos _ _ (by rw[H7];exact hlt)];rfl
   simp[Instr.index,run_underlying hu,asIntOf,p3,hg,List.getD,hlt]
  ·cases aE
 -- fieldAddr
 ·split at aE
  ·rename_i fs hu;split at aE
   ·rename_i fd jq;split at aE
    ·rename_i m hm;simp at aE;obtain ⟨rfl,rfl⟩:=aE;obtain ⟨a,rfl,h1⟩:=bT.one (by simpa using ha);cases a<;>simp only[qp]at hp
     ·obtain ⟨k,e1,e2⟩:=BH h1;exact ⟨_,by simp only[execOp,hop];exact Zy (by rw[e1];exact UQ hu jq hm _ _),.ptr e2⟩
     ·obtain ⟨k,o,us,e1,e2,e3⟩:=Ia h1;exact ⟨_,by simp only[execOp,hop];exact Zy (by rw[e1];exact UQ hu jq hm _ _),by rw[Nat.add_assoc];exact .xp e2 e3⟩
    ·cases aE
   ·cases aE
  ·cases aE
 -- indexAddr
 ·split at aE
  ·rename_i n e hu;cases dj:Zt P e with
   | none=>rw[dj]at aE;simp at aE
   | some es =>
    rw[dj]at aE;simp at aE;obtain ⟨rfl,rfl⟩:=aE;obtain ⟨a,b,rfl,h1,h2⟩:=bT.two (by simpa using ha);cases a<;>simp only[qp]at hp
    ·obtain ⟨p1,p2,p3⟩:=hp;obtain ⟨k,e1,e2⟩:=BH h1;obtain ⟨q,e3⟩:=h2.d7 p1;exact ⟨_,by simp only[execOp,hop];exact Zy (by rw[e1,e3];exact UR hu dj _ _ _ _ p2 p3),.ptr e2⟩
    ·obtain ⟨p1,p2,p3⟩:=hp;obtain ⟨k,o,us,e1,e2,e4⟩:=Ia h1;obtain ⟨q,e3⟩:=h2.d7 p1;exact ⟨_,by simp only[execOp,hop];exact Zy (by rw[e1,e3];exact UR hu dj _ _ _ _ p2 p3),by rw[Nat.add_assoc];exact .xp e2 e4⟩
  ·rename_i e hu;cases dj:Zt P e with
   | none=>rw[dj]at aE;simp at aE
   | some es =>
    rw[dj]at aE;simp at aE;obtain ⟨rfl,rfl⟩:=aE;obtain ⟨a,b,rfl,h1,h2⟩:=bT.two (by simpa using ha);cases a<;>simp only[qp]at hp
    ·obtain ⟨p0,p1,p2,p3⟩:=hp;obtain ⟨q,e3⟩:=h2.d7 p1;rcases qW h1 with ⟨k,cap,e',cur,fz,e1,e2,_⟩|⟨wQ,e1,e2,rfl,rfl⟩
     ·exact ⟨_,by simp only[execOp,hop];exact Zy (by rw[e1,e3];exact US hu dj _ _ _ _ _ _ p2 p3),.ptr e2⟩
     ·omega
    ·obtain ⟨p1,p2,p3,p4⟩:=hp;obtain ⟨q,e3⟩:=h2.d7 p1;obtain ⟨ad,cap,us,e1,_,_,e4,e5⟩:=tK h1;obtain ⟨k,o,rfl,_⟩:=e4 _ p4;refine ⟨_,by simp only[execOp,hop];exact Zy (by rw[e1,e3];exact US hu dj _ _ _ _ _ _ p2 p3),.xp (fun j hj=>?_) e5⟩;obtain ⟨k',o',hh,r⟩:=e4 j hj;cases hh;exact r
  ·cases aE
 -- load
 ·cases j0:l9 P _ with
  | none=>rw[j0]at aE;simp at aE
  | some ty =>
   rw[j0]at aE;simp at aE;obtain ⟨rfl,rfl⟩:=aE;obtain ⟨a,rfl,h1⟩:=bT.one (by simpa using ha);cases a<;>simp only[qp]at hp
   ·rename_i b off;cases oX<;>simp only[qp]at hp
    rename_i cs;obtain ⟨k,e1,e2⟩:=BH h1;by_cases fa:0<cs.length
    ·obtain ⟨k',us,q1,q2,q3,q4⟩:=MF (hb.get (b:=b) rfl) fa;rw[e2]at q1;cases q1;obtain ⟨v,hr,qb⟩:=DH (P:=P) (o:=0) j0 q2 q3 q4 hp;refine ⟨v,?_,qb⟩;simp only[execOp,hop];exact Zy (by rw[e1];simpa using hr)
    ·obtain ⟨rfl,rfl,rfl⟩:=UF hp fa;obtain ⟨v,hr,qb⟩:=DH (P:=P) (g:=g) (W:=W) (k:=k) (o:=0) (us:=fun _=>undef) j0 (fun j hj=>absurd hj av) (fun j hj=>absurd hj av) (fun j hj=>absurd hj av) hp;refine ⟨v,?_,qb⟩;simp only[execOp,hop];exact Zy (by rw[e1];simpa using hr)
   ·rename_i cs off;obtain ⟨k,o,us,e1,e2,e3⟩:=Ia h1;obtain ⟨v,hr,qb⟩:=DH (P:=P) j0 (fun j hj=>(e2 j hj).1) (fun j hj=>(e2 j hj).2.2) e3 hp;refine ⟨v,?_,by cases ty<;>exact qb⟩;simp only[execOp,hop];exact Zy (by rw[e1];exact hr)
 -- len
 ·split at aE
  ·rename_i hu;simp at aE;obtain ⟨rfl,rfl⟩:=aE;obtain ⟨a,rfl,h1⟩:=bT.one (by simpa using ha);have e:=h1.d8 hp;exact ⟨.int .i64 (cV a).length,by simp[execOp,hop,resolve,invoke,builtin,Builtin.len_,run_underlying hu,e,goInt,H7],.int _ _⟩
  ·rename_i e hu;simp at aE;obtain ⟨rfl,rfl⟩:=aE;obtain ⟨a,rfl,h1⟩:=bT.one (by simpa using ha);rename_i x _ _;have fin:∀ b n c,ρ x=.slice b n c->(execOp ρ o).run P w=.ok (.value (.int .i64 n)) w:=fun b n c h=>by
    simp[execOp,hop,resolve,invoke,builtin,Builtin.len_,run_underlying hu,h,goInt]
   cases a<;>simp only[qp]at hp
   ·rcases qW h1 with ⟨k,cap,e',cur,fz,e1,_⟩|⟨wQ,e1,_,rfl,rfl⟩
    ·exact ⟨_,fin _ _ _ e1,.int _ _⟩
    ·exact ⟨_,fin _ _ _ e1,.int _ _⟩
   ·obtain ⟨ad,cap,us,e1,_⟩:=tK h1;exact ⟨_,fin _ _ _ e1,.int _ _⟩
   ·obtain ⟨b,e1⟩:=DK h1;exact ⟨_,fin _ _ _ e1,.int _ _⟩
  ·rename_i kt et hu;simp at aE;obtain ⟨rfl,rfl⟩:=aE;obtain ⟨a,rfl,h1⟩:=bT.one (by simpa using ha);cases a<;>simp only[qp]at hp
   rename_i b;cases oX<;>simp only[qp]at hp
   rename_i kvs dn;obtain ⟨k,e1,e2⟩:=yV h1;have ez:=hb.get (b:=b) rfl;rw[e2]at ez;cases ez with
   | az BJ hs =>
    refine ⟨.int .i64 kvs.length,?_,.int _ _⟩;simp[execOp,hop,resolve,invoke,builtin,Builtin.len_,run_underlying hu,e1,goInt,getObj,Sem.run,BJ,hs]
  ·cases aE
 -- min,max
 ·split at aE
  ·rename_i k hu;simp at aE;obtain ⟨rfl,rfl⟩:=aE;obtain ⟨a,b,rfl,h1,h2⟩:=bT.two (by simpa using ha);refine ⟨_,?_,.int _ _⟩;simp only[execOp,hop,resolve,invoke,builtin,Sem.run_bind,Sem.run_pure,Result.andThen_ok,List.map_toArray,map_cons,map_nil,h1.d4 hp.1,h2.d4 hp.2,run_min_int2]
  ·cases aE
 ·split at aE
  ·rename_i k hu;simp at aE;obtain ⟨rfl,rfl⟩:=aE;obtain ⟨a,b,rfl,h1,h2⟩:=bT.two (by simpa using ha);refine ⟨_,?_,.int _ _⟩;simp only[execOp,hop,resolve,invoke,builtin,Sem.run_bind,Sem.run_pure,Result.andThen_ok,List.map_toArray,map_cons,map_nil,h1.d4 hp.1,h2.d4 hp.2,run_max_int2]
  ·cases aE
 -- slice
 ·rename_i t x lo hi;split at aE
  ·rename_i hu;simp only[Option.some.injEq,Prod.mk.injEq]at aE;obtain ⟨rfl,rfl⟩:=aE;obtain ⟨a,r,rfl,h1,hr⟩:=bT.dN (v:=ρ x) (r:=(lo.toList++hi.toList).map ρ) (by simpa using ha);simp only[qp]at hp;obtain ⟨p1,p2,p3,p4,p5⟩:=hp;refine ⟨_,?_,.str _⟩;simp only[execOp,hop];refine Zy ?_;rw[h1.d8 p1];have n5:=H8 (P:=P) (isSlice:=false) (len:=(cV a).length) (cap:=(cV a).length) p2 hr p3 p4 p5;simp only[Instr.sliceAt,Instr.slice,Sem.run_bind,run_underlying hu,Result.andThen_ok,Option.map_none,Option.isSome_none,Bool.false_eq_true,if_false,H7,n5,Sem.run_pure];congr 2;apply ByteArray.ext;simp[ByteArray.extract,ByteArray.copySlice]
  ·rename_i e hu;cases dj:Zt P e with
   | none=>rw[dj]at aE;simp at aE
   | some es =>
    rw[dj]at aE;simp only[Option.map_some,Option.some.injEq,Prod.mk.injEq]at aE;obtain ⟨rfl,rfl⟩:=aE;obtain ⟨a,r,rfl,h1,hr⟩:=bT.dN (v:=ρ x) (r:=(lo.toList++hi.toList).map ρ) (by simpa using ha);cases a<;>simp only[qp]at hp
    ·rename_i es' b off n c;obtain ⟨rfl,p2,p3,p4,p5⟩:=hp;have DL:qv (.oV es' lo.isSome hi.isSome) (.sl es' b off n c::r) oX=if Xs lo.isSome r < c then .sl es' b (off + (Xs lo.isSome r).toNat * es') ((Jf lo.isSome hi.isSome n r).toNat - (Xs lo.isSome r).toNat) (c - (Xs lo.isSome r).toNat) else .isl 0 []:=rfl;rw[DL];clear DL;rcases qW h1 with ⟨k,cap,e',cur,fz,e1,e2,q1,q2,q3,q4,q5⟩|⟨wQ,e1,e2,rfl,rfl⟩
     ·have n5:=H8 (P:=P) (isSlice:=true) (len:=n) (cap:=cap) p2 hr p3 p4 af;by_cases p6:Xs lo.isSome r < c
      ·rw[am p6];have fH:(Xs lo.isSome r).toNat < cap:=by omega
       refine ⟨.slice (some ⟨k,off+(Xs lo.isSome r).toNat*es',none⟩) ((Jf lo.isSome hi.isSome n r).toNat-(Xs lo.isSome r).toNat) (cap-(Xs lo.isSome r).toNat),?_,?_⟩
       ·simp only[execOp,hop];refine Zy ?_;rw[e1];simp only[Instr.sliceAt,Instr.slice,Sem.run_bind,run_underlying hu,Result.andThen_ok,Option.map_none,n5,Kc dj,Sem.run_pure];rw[aa af];simp[add_lit]
       ·refine .sl e2 af af af q4 ?_;have:(Xs lo.isSome r).toNat * es' + (cap - (Xs lo.isSome r).toNat) * es'=cap * es':=by rw[← Nat.add_mul];congr 1;omega
        omega
      ·rw[aa p6];have h0:(Jf lo.isSome hi.isSome n r).toNat - (Xs lo.isSome r).toNat=0:=by omega
       refine ⟨_,?_,.isl (a:=if cap=(Xs lo.isSome r).toNat then some ⟨k,off,none⟩ else (some (⟨k,off,none⟩:Addr)).map (·.add ((Xs lo.isSome r).toNat*es'))) (cap:=cap-(Xs lo.isSome r).toNat) (us:=fun _=>undef) (Nat.zero_le _) af (fun j hj=>by simp at hj) (fun j hj=>by simp at hj)⟩;simp only[execOp,hop];refine Zy ?_;rw[e1];simp only[Instr.sliceAt,Instr.slice,Sem.run_bind,run_underlying hu,Result.andThen_ok,Option.map_none,n5,Kc dj,Sem.run_pure,h0]
     ·have n5:=H8 (P:=P) (isSlice:=true) (len:=0) (cap:=0) p2 hr p3 p4 af;rw[aa af];have h0:(Jf lo.isSome hi.isSome 0 r).toNat - (Xs lo.isSome r).toNat=0:=by omega
      refine ⟨_,?_,.isl (a:=if 0=(Xs lo.isSome r).toNat then wQ else wQ.map (·.add ((Xs lo.isSome r).toNat*es'))) (cap:=0-(Xs lo.isSome r).toNat) (us:=fun _=>undef) (Nat.zero_le _) (by unfold maxLen;omega) (fun j hj=>by simp at hj) (fun j hj=>by simp at hj)⟩;simp only[execOp,hop];refine Zy ?_;rw[e1];simp only[Instr.sliceAt,Instr.slice,Sem.run_bind,run_underlying hu,Result.andThen_ok,Option.map_none,n5,Kc dj,Sem.run_pure,h0]
    ·rename_i n cs;obtain ⟨p2,p3,p4,p5,p6⟩:=hp;obtain ⟨ad,cap,us,e1,q1,q2,q3,q4⟩:=tK h1;have n5:=H8 (P:=P) (isSlice:=true) (len:=n) (cap:=cap) p2 hr p3 p4 af;have DL:qv (.oV es lo.isSome hi.isSome) (.isl n cs::r) oX=.isl ((Jf lo.isSome hi.isSome n r).toNat - (Xs lo.isSome r).toNat) ((cs.drop ((Xs lo.isSome r).toNat * es)).take (((Jf lo.isSome hi.isSome n r).toNat - (Xs lo.isSome r).toNat) * es)):=rfl;rw[DL];clear DL;generalize (Xs lo.isSome r)=L at *
     generalize (Jf lo.isSome hi.isSome n r)=H at *
     have hex:∃ Ib,(execOp ρ o).run P w=.ok (.value (.slice Ib (H.toNat-L.toNat) (cap-L.toNat))) w/\(cap=L.toNat->Ib=ad)/\(cap≠L.toNat->Ib=ad.map (·.add (L.toNat*es))):=by
      refine ⟨if cap=L.toNat then ad else ad.map (·.add (L.toNat*es)),?_,fun h=>by rw[am h],fun h=>by rw[aa h]⟩;simp only[execOp,hop];refine Zy ?_;rw[e1];simp only[Instr.sliceAt,Instr.slice,Sem.run_bind,run_underlying hu,Result.andThen_ok,Option.map_none,n5,Kc dj,Sem.run_pure]
     obtain ⟨Ib,hrun,c1,c2⟩:=hex;refine ⟨_,hrun,.isl (us:=fun j=>us (L.toNat*es+j)) af af (fun j hj=>?_) fun j hj=>?_⟩
     ·have qX:j < (H.toNat - L.toNat) * es:=by simp at hj;omega
      have eJ:L.toNat*es+j<cs.length:=by simp at hj;omega
      obtain ⟨k,o',rfl,r1,r2,r3⟩:=q3 _ eJ;have cf:cap≠L.toNat:=fun e=>by
       have:H.toNat-L.toNat=0:=by omega
       rw[this]at qX;simp at qX
      rw[c2 cf];exact ⟨k,o'+L.toNat*es,by simp[add_lit],by rw[Nat.add_assoc];exact r1,r2,r3⟩
     ·have qX:j < (H.toNat - L.toNat) * es:=by simp at hj;omega
      have eJ:L.toNat*es+j<cs.length:=by simp at hj;omega
      have ee:((cs.drop (L.toNat*es)).take ((H.toNat-L.toNat)*es)).getD j .any=cs.getD (L.toNat*es+j) .any:=by simp only[List.getD,getElem?_take,getElem?_drop,am qX]
      rw[ee];exact q4 _ eJ
  ·cases aE
 -- extract
 ·rename_i x i;simp at aE;obtain ⟨rfl,rfl⟩:=aE;obtain ⟨a,rfl,h1⟩:=bT.one (by simpa using ha);cases a<;>simp only[qp]at hp
  rename_i vs;obtain ⟨us,e1,e2,e3⟩:=DJ h1;refine ⟨us.getD i undef,?_,e3 i hp⟩;simp only[execOp,hop];refine Zy ?_;rw[e1];have hi:i<us.size:=by omega
  simp[Instr.extract,hi,Array.getD]
 -- nilCheck
 ·simp at aE;obtain ⟨rfl,rfl⟩:=aE;obtain ⟨a,rfl,h1⟩:=bT.one (by simpa using ha);cases a<;>simp only[qp]at hp
  ·obtain ⟨k,e1,e2⟩:=BH h1;exact ⟨_,by simp[execOp,hop,e1],.ptr e2⟩
  ·obtain ⟨k,o',us,e1,e2,e3⟩:=Ia h1;exact ⟨.pointer (some ⟨k,o'+_,none⟩),by simp[execOp,hop,e1],.xp e2 e3⟩
 -- build
 ·rename_i t parts;have DM:∀ z:Array Value,z.all (·.oneCell')=true->z.size=(z.toList.map fM).length/\(∀ j,j<(z.toList.map fM).length->(z.getD j undef).oneCell'=true)/\(∀ j,j<(z.toList.map fM).length->VR g W w ((z.toList.map fM).getD j .any) (z.getD j undef)):=by
   intro z hz;have hv:=BD (g:=g) (W:=W) (w:=w) (.agg z);have qa:uX (.agg z)=.agg (z.toList.map fM):=am hz;rw[qa]at hv;obtain ⟨us,e,q1,q2,q3⟩:=Uq hv;cases e;exact ⟨q1,q2,q3⟩
  have DN:∀ z:Array Value,(P.info? t).bind (·.zero)=some (.agg z)->(zeroValue t).run P w=.ok (.agg z) w:=by
   intro z hz;cases hi:P.info? t with
   | none=>rw[hi]at hz;simp at hz
   | some i=>rw[hi]at hz;simp at hz;simp[zeroValue,typeInfo,hi,hz]
  have Ic:(parts.map fun (p:Nat×Operand)=>(p.1,ρ p.2)).toList=(parts.toList.map (·.1)).zip ((parts.toList.map (·.2)).map ρ):=by
   simp only[Array.toList_map]
   induction parts.toList with
   | nil=>rfl
   | cons p l ih=>simp[ih]
  split at aE
  ·rename_i z fs hz hu;split at aE
   ·rename_i hc;simp only[Bool.and_eq_true]at hc;cases eg:BC P fs (parts.toList.map (·.1)) with
    | none=>rw[eg]at aE;simp at aE
    | some ps =>
     rw[eg]at aE;simp only[Option.map_some,Option.some.injEq,Prod.mk.injEq]at aE;obtain ⟨rfl,rfl⟩:=aE;obtain ⟨z1,z2,z3⟩:=DM z hc.1;obtain ⟨places,pr,pl⟩:=Xis (P:=P) (w:=w) (fs:=fs) (fun f hf=>by
      have:=Array.all_eq_true'.1 hc.2 f (by simpa using hf);simpa using this)
     obtain ⟨cells',f1,f2⟩:=MJ ps (parts.toList.map (·.1)) (UP pl _ _ eg) ha av hp z1 z2 z3;refine ⟨_,?_,f2⟩;simp only[execOp,hop];refine Zy ?_;simp only[Instr.build,Sem.run_bind,DN z hz,Result.andThen_ok,Value.cells,run_underlying hu,pr,Ic,f1,Sem.run_pure]
   ·cases aE
  ·rename_i z n e hz hu;split at aE
   ·rename_i hc;cases dj:Zt P e with
    | none=>rw[dj]at aE;simp at aE
    | some m =>
     rw[dj]at aE;simp only[Option.map_some,Option.some.injEq,Prod.mk.injEq]at aE;obtain ⟨rfl,rfl⟩:=aE;obtain ⟨z1,z2,z3⟩:=DM z hc;obtain ⟨cells',f1,f2⟩:=MJ (place:=fun i=>some (i*m,m)) (parts.toList.map fun (p:Nat×Operand)=>(p.1*m,m)) (parts.toList.map (fun (p:Nat×Operand)=>p.1)) av ha av (cs:=z.toList.map fM) hp z1 z2 z3;refine ⟨_,?_,f2⟩;simp only[execOp,hop];refine Zy ?_;simp only[Instr.build,Sem.run_bind,DN z hz,Result.andThen_ok,Value.cells,run_underlying hu,Kc dj,Ic,f1,Sem.run_pure]
   ·cases aE
  ·cases aE
 -- makeFunc
 ·rename_i f caps;simp only[Option.some.injEq,Prod.mk.injEq]at aE;obtain ⟨rfl,rfl⟩:=aE;have hl:=ha.length;refine ⟨.func (.func f) #[] (caps.map ρ),?_,.cl (by simp at hl ⊢;omega) fun j hj=>?_⟩
  ·simp[execOp,hop,Instr.makeFunc]
  ·have:=ha.get j hj;simpa using this
 ·cases aE
end
inductive PK where
 | call (f:FuncId)
 | cC
 | app (es jr:Nat) (str:Bool)
 | yW (es len:Nat) (zero:List AV) (parts:List (Nat×Nat))
 | DO
 | cA (ne:Bool) (t:TypeId)
 | Ie (t:TypeId)
 | DP (t:TypeId)
 | wR (t:TypeId) (ok:Bool)
 | del (t:TypeId)
 | Ig (t:TypeId)
 | cpy (t:TypeId)
 | MO (t:TypeId)
 | bH
 | MP
 | Ih (es:Nat) (lo hi:Bool)
 | BK (t:TypeId)
 | DQ (t:TypeId)
inductive bB where
 | q (d:Nat) (q:Q1) (xs:List TV) (gd:Option (Nat×Bool))
 | al (d:Nat) (z:List AV)
 | bx (d:Nat) (x:TV)
 | tL (ty:TY) (a v:TV)
 | pd (d:Option Nat) (k:PK) (xs:List TV) (gd:Option (Nat×Bool))
def n6 (ops:Array Oper)(o:Oper):Option (Option (Nat×Bool)) :=
 match o.guard with
 | none=>some none
 | some (j,b)=>match (ops[j]?).bind (·.dst) with
  | some t=>some (some (t,b))
  | none=>none
def Xt (P:Program)(o:Oper):Option (PK×List Operand) :=
 match o.op with
 | .call ⟨.value (.func f),args,_⟩=>some (.call f,args.toList)
 | .call ⟨.value x,args,_⟩=>some (.cC,x::args.toList)
 | .call ⟨.builtin .append,⟨[x,y]⟩,⟨[t,u]⟩⟩=>match P.underlying t with
  | some (.slice e)=>match P.info? e with
   | some i=>match i.zero with
    | some z=>if z.cells.size=i.size/\0<i.size then (if u=t then some (.app i.size i.bytes false,[x,y]) else match P.underlying u with
     | some .string=>some (.app i.size i.bytes true,[x,y])
     | _=>none) else none
    | none=>none
   | none=>none
  | _=>none
 | .call ⟨.builtin .delete,⟨[x,y]⟩,⟨[t,_]⟩⟩=>some (.del t,[x,y])
 | .call ⟨.builtin .clear,⟨[x]⟩,⟨[t]⟩⟩=>some (.Ig t,[x])
 | .call ⟨.builtin .copy,⟨[x,y]⟩,⟨[t,_]⟩⟩=>some (.cpy t,[x,y])
 | .buildSlice t len parts=>match P.underlying t with
  | some (.slice e)=>match P.info? e with
   | some i=>match i.zero with
    | some z=>if z.cells.size=i.size/\0<i.size/\z.cells.all (·.oneCell')/\len*i.size<=2 ^ 24/\len<=2 ^ 24 then some (.yW i.size len (z.cells.toList.map fM) (parts.toList.map fun p=>(p.1*i.size,i.size)),parts.toList.map (·.2)) else none
    | none=>none
   | none=>none
  | _=>none
 | .convert s d x=>match P.underlying s,P.underlying d with
  | some .string,some (.slice e)=>match P.underlying e with
   | some (.int .u8)=>some (.DO,[x])
   | _=>none
  | _,_=>none
 | .binOp .eql t x y _=>some (.cA false t,[x,y])
 | .binOp .neq t x y _=>some (.cA true t,[x,y])
 | .lookup t m k ok=>some (.wR t ok,[m,k])
 | .mapUpdate t m k v=>some (.DP t,[m,k,v])
 | .makeMap t r=>if (match r with|none=>true|some (.const (.int _ _))=>true|_=>false)=true then some (.Ie t,[]) else none
 | .range t x=>some (.MO t,[x])
 | .next x false=>some (.bH,[x])
 | .entry x=>some (.MP,[x])
 | .slice t x lo hi (some mx)=>match P.underlying t with
  | some (.slice e)=>(Zt P e).map fun es=>(.Ih es lo.isSome hi.isSome,x::(lo.toList++hi.toList++[mx]))
  | _=>none
 | .mapEntry t m k=>some (.BK t,[m,k])
 | .entryStore t m s v=>some (.DQ t,[m,s,v])
 | _=>none
def Uy (P:Program)(N:Nat)(ops:Array Oper)(o:Oper):Option bB :=
 match n6 ops o with
 | none=>none
 | some gd =>
  match o.op,o.dst with
  | .alloc t,some d=>match gd,(P.info? t).bind (·.zero) with
   | none,some z=>if d<N/\z.cells.all (·.oneCell') then some (.al d (z.cells.toList.map fM)) else none
   | _,_=>none
  | .box _ x,some d=>if d<N/\gd=none then some (.bx d (aP x)) else none
  | .store t a v,none=>match gd,l9 P t with
   | none,some ty=>some (.tL ty (aP a) (aP v))
   | _,_=>none
  | _,dst=>match uY P o,dst with
   | some (q,xs),some d=>if d<N then some (.q d q (xs.map aP) gd) else none
   | _,_=>match Xt P o with
    | some (k,xs)=>if dst.all (· < N) then some (.pd dst k (xs.map aP) gd) else none
    | none=>none
structure bc where
 rt:List Nat
 rb:List Nat
 wt:List Nat
 wb:List Nat
def dB (s2 s':FS)(F:bc):FS:=⟨fun i=>if i ∈ F.wt then s'.T i else s2.T i,fun b=>if b ∈ F.wb then s'.H b else s2.H b⟩
def Uo (P:Program)(ops:Array Oper)(io:Oper)(a:Act)(w:World)(K:Act->World->Prop)(Q:Exit->Act->World->Prop):Prop :=
 if Region.wanted io (yielded ops a.tmps) then io.wp P a w K Q else K (a.put io.dst undef) w
structure kL (P:Program)(c:Cx)(ops:Array Oper)(io:Oper)(s:FS)(F:bc)(s':FS):Prop where
 a7:∀ i,i ∉ F.wt->s'.T i=s.T i
 dt:∀ b,b ∉ F.wb->s'.H b=s.H b
 step:∀ s2:FS,(∀ i ∈ F.rt,s2.T i=s.T i)->(∀ b ∈ F.rb,s2.H b=s.H b)->∀ g a w,R c g s2 a w->∀ K Q',(∀ g' a' w',R c g' (dB s2 s' F) a' w'->K a' w')->Uo P ops io a w K Q'
def Ii {s s':FS}{F:bc}(hT:∀ i,i ∉ F.wt->s'.T i=s.T i)(hH:∀ b,b ∉ F.wb->s'.H b=s.H b):dB s s' F=s':=by
 unfold dB;cases s';congr 1
 ·funext i;split
  ·rfl
  ·rename_i h;exact (hT i h).symm
 ·funext b;split
  ·rfl
  ·rename_i h;exact (hH b h).symm
def Qh:AV->AV
 | .dV _ v=>v
 | v=>v
def ob:Option Bool->Prop->Prop
 | none,p=>p
 | some c,p=>c=true->p
def fh (c:Option Bool):AV->Prop
 | .dV b _=>ob c (b=true)
 | _=>True
def Qr (c:Option Bool):List AV->Prop
 | []=>True
 | x::xs=>fh c x/\Qr c xs
def Jp (c:Option Bool):Q1->List AV->Prop
 | .pick,[x,y,z]=>fh c x/\ob c (eY (Qh x)=true->fh none y)/\ob c (eY (Qh x)=false->fh none z)
 | _,xs=>Qr c xs
def cw:Option Bool->AV->AV
 | none,v=>v
 | some c,v=>.dV c v
def gB (s:FS):Option (Nat×Bool)->Option Bool
 | none=>none
 | some (t,want)=>match s.T t with
  | .bool b=>some (b==want)
  | .dV c (.bool b)=>some (c&&(b==want))
  | _=>some false
def gg (s:FS):Option (Nat×Bool)->Prop
 | none=>True
 | some (t,_)=>match s.T t with
  | .bool _=>True
  | .dV _ (.bool _)=>True
  | _=>False
def aD (gl:Nat->AV)(s:FS)(xs:List TV):List AV:=xs.map (aV gl s)
def yX (gl:Nat->AV)(s:FS)(q:Q1)(xs:List TV)(gd:Option (Nat×Bool)):Prop :=
 gg s gd/\Jp (gB s gd) q (aD gl s xs)/\ob (gB s gd) (qp q ((aD gl s xs).map Qh) (nZ s ((aD gl s xs).map Qh)))
def tM (gl:Nat->AV)(s:FS)(q:Q1)(xs:List TV)(gd:Option (Nat×Bool)):AV :=
 cw (gB s gd) (qv q ((aD gl s xs).map Qh) (nZ s ((aD gl s xs).map Qh)))
def Xe:List TV->List Nat
 | []=>[]
 | .t i::r=>i::Xe r
 | _::r=>Xe r
def jQ:Option (Nat×Bool)->List Nat
 | none=>[]
 | some (t,_)=>[t]
def fj:Q1->Bool
 | .mv=>false
 | _=>true
def Yhi (L:List AV)(x y:Bk):qv .mv L x=qv .mv L y/\(qp .mv L y->qp .mv L x):=by
 rcases L with _|⟨a,_|⟨b,r⟩⟩<;>exact ⟨rfl,id⟩
def qY (gl:Nat->AV)(s:FS)(q:Q1)(d:Nat)(xs:List TV)(gd:Option (Nat×Bool)):bc :=
 ⟨jQ gd++Xe xs,bif fj q then (Jz ((aD gl s xs).map Qh)).toList else [],[d],[]⟩
section
variable {P:Program}{c:Cx}{ops:Array Oper}{io:Oper}
def Yd {gl:Nat->AV}{s s2:FS}:∀ {xs:List TV},(∀ i ∈ Xe xs,s2.T i=s.T i)->aD gl s2 xs=aD gl s xs
 | [],_=>rfl
 | .t i::r,h=>by
  have h1:=h i (by simp[Xe]);have h2:=Yd (gl:=gl) (xs:=r) fun j hj=>h j (by simp[Xe,hj]);simp only[aD,map_cons,aV,h1]at *
  rw[h2]
 | .c v::r,h=>by
  have h2:=Yd (gl:=gl) (xs:=r) fun j hj=>h j hj;simp only[aD,map_cons,aV]at *
  rw[h2]
 | .gl i::r,h=>by
  have h2:=Yd (gl:=gl) (xs:=r) fun j hj=>h j hj;simp only[aD,map_cons,aV]at *
  rw[h2]
def Ij (h:io.guard=none)(f:Nat->Option Bool):Region.wanted io f=true:=by simp[Region.wanted,h]
def wS (aX:n6 ops io=some gd){g:Nat->GM}    (hR:R c g s a w)(aS:gg s gd) :
  Region.wanted io (yielded ops a.tmps)=(gB s gd).getD true:=by
 unfold n6 at aX;cases hg:io.guard with
 | none =>
  rw[hg]at aX;simp at aX;subst aX;rw[Ij hg];rfl
 | some p =>
  obtain ⟨j,b⟩:=p;rw[hg]at aX;simp only at aX;cases ht:(ops[j]?).bind (·.dst) with
  | none=>rw[ht]at aX;simp at aX
  | some t =>
   rw[ht]at aX;simp at aX;subst aX;have hv:=hR.t t;have hy:Region.wanted io (yielded ops a.tmps)=(match a.tmps.getD t undef with|.bool x=>x==b|_=>false):=by
    simp only[Region.wanted,hg,yielded,ht,Option.bind_some];rw[Array.getD_eq_getD_getElem?];cases oZ:a.tmps[t]? with
    | none=>rfl
    | some v=>cases v<;>simp
   rw[hy];simp only[gg]at aS;simp only[gB];split at aS
   ·rename_i x e;rw[e]at hv;rw[hv.d6 trivial];rfl
   ·rename_i x y e;rw[e]at hv;generalize a.tmps.getD t undef=rv at hv ⊢;cases hv with
    | dV h h0 =>
     cases x with
     | true=>rw[(h rfl).d6 trivial];simp[eY]
     | false=>rw[h0 rfl];rfl
   ·exact aS.elim
def DR {g:Nat->GM}     (h:VR g W w x v)(hc:fh none x):VR g W w (Qh x) v:=by
 cases h with
 | dV h h0=>exact h hc
 | any=>exact .any _
 | int=>exact .int _ _
 | bool=>exact .bool _
 | str=>exact .str _
 | agg a b c=>exact .agg a b c
 | aR a b=>exact .aR a b
 | ptr a=>exact .ptr a
 | xp a b=>exact .xp a b
 | sl a b c d e f=>exact .sl a b c d e f
 | kH a b=>exact .kH a b
 | isl a b c d=>exact .isl a b c d
 | nils=>exact .nils _
 | cl a b=>exact .cl a b
 | mp a=>exact .mp a
 | lit=>exact .lit _
def UT {b:Bool}(hb:b=true)  (h:fh (some b) x):fh none x:=by
 cases x<;>simp_all [fh,ob]
def Yk {g:Nat->GM}{W:Nat->Prop}{w:World}:∀ {xs:List AV} {vs:List Value},bT g W w xs vs->Qr none xs->bT g W w (xs.map Qh) vs
 | [],[],_,_=>trivial
 | _::_,_::_,h,hc=>⟨DR h.1 hc.1,Yk h.2 hc.2⟩
 | [],_::_,h,_=>h.elim
 | _::_,[],h,_=>h.elim
def BL {b:Bool}(hb:b=true):∀ {xs:List AV},Qr (some b) xs->Qr none xs
 | [],_=>trivial
 | _::_,h=>⟨UT hb h.1,BL hb h.2⟩
def R.ci {g:Nat->GM}{s:FS}{a:Act}{w:World}(hR:R c g s a w):∀ (xs:List Operand),bT g (Qm c g s) w (aD c.gl s (xs.map aP)) (xs.map a.eval)
 | []=>trivial
 | x::xs=>⟨hR.ev x,R.ci hR xs⟩
def MQ {g:Nat->GM}    (hR:R c g s a w)(l:List AV):DF g (Qm c g s) w l (nZ s l):=by
 intro b hb;have:=hR.h b;unfold nZ;rw[hb];exact this
def Yhx {g:Nat->GM}{s:FS}{a:Act}{w:World}(hR:R c g s a w){q:Q1}{xs:List Operand}(mg:q=.pick->∃ x y z,xs=[x,y,z])
  (hc:Jp none q (aD c.gl s (xs.map aP))) :
  ∃ gf,bT g (Qm c g s) w gf (xs.map a.eval)∧DF g (Qm c g s) w gf (nZ s ((aD c.gl s (xs.map aP)).map Qh)) ∧
   (∀ bk,qp q ((aD c.gl s (xs.map aP)).map Qh) bk->qp q gf bk/\qv q gf bk=qv q ((aD c.gl s (xs.map aP)).map Qh) bk):=by
 have js:=hR.ci xs;by_cases hq:q=.pick
 ·obtain ⟨x,y,z,rfl⟩:=mg hq;subst hq;obtain ⟨h1,h2,h3,_⟩:=js;simp only[aD,map_cons,map_nil,Jp,ob]at hc ⊢;obtain ⟨c1,c2,c3⟩:=hc;have hx:=DR h1 c1;cases hb:eY (Qh (aV c.gl s (aP x))) with
  | true =>
   refine ⟨[Qh (aV c.gl s (aP x)),Qh (aV c.gl s (aP y)),.any],⟨hx,DR h2 (c2 hb),.any _,trivial⟩,?_,fun bk hp=>?_⟩
   ·intro b dK;have:=MQ hR [Qh (aV c.gl s (aP x)),Qh (aV c.gl s (aP y)),Qh (aV c.gl s (aP z))] b;refine this ?_;revert dK;cases Qh (aV c.gl s (aP x))<;>exact id
   ·obtain ⟨p1,p2,p3⟩:=hp;exact ⟨⟨p1,p2,fun h=>by rw[hb]at h;cases h⟩,by simp[qv,hb]⟩
  | false =>
   refine ⟨[Qh (aV c.gl s (aP x)),.any,Qh (aV c.gl s (aP z))],⟨hx,.any _,DR h3 (c3 hb),trivial⟩,?_,fun bk hp=>?_⟩
   ·intro b dK;have:=MQ hR [Qh (aV c.gl s (aP x)),Qh (aV c.gl s (aP y)),Qh (aV c.gl s (aP z))] b;refine this ?_;revert dK;cases Qh (aV c.gl s (aP x))<;>exact id
   ·obtain ⟨p1,p2,p3⟩:=hp;exact ⟨⟨p1,fun h=>(by rw[hb]at h;cases h),p3⟩,by simp[qv,hb]⟩
 ·have BE:Qr none (aD c.gl s (xs.map aP)):=by
   cases q<;>first|exact absurd rfl hq|exact hc
  exact ⟨_,Yk js BE,MQ hR _,fun bk hp=>⟨hp,rfl⟩⟩
def UU {o:Oper}{q:Q1}{xs:List Operand}(h:uY P o=some (q,xs))(hq:q=.pick):∃ x y z,xs=[x,y,z]:=by
 subst hq;unfold uY HU MC MD ME jZ at h
 repeat' split at h
 all_goals first
  | (simp at h;obtain ⟨rfl⟩:=h;exact ⟨_,_,_,rfl⟩)
  | (simp at h;done)
  | (rename_i hh;cases hh;done)
  | (simp[Option.map_eq_some_iff]at h;done)
def yY {v:AV} :dB s2 (s.put d v) ⟨rt,rb,[d],[]⟩=s2.put d v:=by
 unfold dB FS.put;congr 1
 ·funext i;simp only[mem_singleton];by_cases h:d=i
  ·subst h;simp
  ·rw[aa (fun e=>h e.symm),aa h]
theorem Yi9 {s:FS}{d:Nat}{q:Q1}{xs:List Operand}{gd:Option (Nat×Bool)}(aX:n6 ops io=some gd)(bb:io.dst=some d)(hd:d<c.N)(aE:uY P io=some (q,xs))
  (hp:yX c.gl s q (xs.map aP) gd):kL P c ops io s (qY c.gl s q d (xs.map aP) gd) (s.put d (tM c.gl s q (xs.map aP) gd)):=by
 refine ⟨fun i hi=>?_,fun b _=>rfl,?_⟩
 ·rw[FS.dF,aa];rintro rfl;exact hi (by simp[qY])
 ·intro s2 hT hH g a w hR K Q' hK;have bj:aD c.gl s2 (xs.map aP)=aD c.gl s (xs.map aP):=Yd fun i hi=>hT i (by simp[qY,hi]);have hg:∀ t b,gd=some (t,b)->s2.T t=s.T t:=fun t b e=>hT t (by simp[qY,e,jQ]);have j1:gB s2 gd=gB s gd:=by
   cases gd with
   | none=>rfl
   | some p=>obtain ⟨t,b⟩:=p;simp only[gB,hg t b rfl]
  have j2:gg s2 gd ↔ gg s gd:=by
   cases gd with
   | none=>exact Iff.rfl
   | some p=>obtain ⟨t,b⟩:=p;simp only[gg,hg t b rfl]
  have MR:∀ L,L=(aD c.gl s (xs.map aP)).map Qh->qv q L (nZ s2 L)=qv q L (nZ s L)/\(qp q L (nZ s L)->qp q L (nZ s2 L)):=fun L hL=>by
   cases hr:fj q with
   | true =>
    have MS:nZ s2 L=nZ s L:=by
     unfold nZ;cases hn:Jz L with
     | none=>rfl
     | some b=>exact hH b (by simp[qY,hr,<- hL,hn])
    rw[MS];exact ⟨rfl,id⟩
   | false =>
    have:q=.mv:=by cases q<;>first|rfl|(simp[fj]at hr)
    subst this;exact Yhi ..
  obtain ⟨n7,nn⟩:=MR _ rfl;obtain ⟨p1,p2,p3⟩:=hp;have np:∀ v,VR g (Qm c g s2) w (tM c.gl s q (xs.map aP) gd) v->K (a.put io.dst v) w:=fun v hv=>by
   rw[bb];refine hK g _ w ?_;rw[show qY c.gl s q d (xs.map aP) gd=⟨jQ gd++Xe (xs.map aP),bif fj q then (Jz ((aD c.gl s (xs.map aP)).map Qh)).toList else [],[d],[]⟩ from rfl,yY];exact hR.put hd hv
  unfold Uo;rw[wS aX hR (j2.2 p1),j1]
  -- where it is wanted
  have run:(∀ b,gB s gd=some b->b=true)->io.wp P a w K Q':=by
   intro hb;have va:Jp none q (aD c.gl s2 (xs.map aP)):=by
    rw[bj];cases bZ:gB s gd with
    | none=>rw[bZ]at p2;exact p2
    | some b =>
     have Ik:=hb b bZ;rw[bZ]at p2;by_cases hq:q=.pick
     ·obtain ⟨x,y,z,rfl⟩:=UU aE hq;subst hq;simp only[aD,map_cons,map_nil,Jp]at p2 ⊢;exact ⟨UT Ik p2.1,p2.2.1 Ik,p2.2.2 Ik⟩
     ·have h1:Qr (some b) (aD c.gl s (xs.map aP)):=by cases q<;>first|exact absurd rfl hq|exact p2
      have h2:=BL Ik h1;cases q<;>first|exact absurd rfl hq|exact h2
   have hqp:qp q ((aD c.gl s (xs.map aP)).map Qh) (nZ s ((aD c.gl s (xs.map aP)).map Qh)):=by
    cases bZ:gB s gd with
    | none=>rw[bZ]at p3;exact p3
    | some b=>rw[bZ]at p3;exact p3 (hb b bZ)
   obtain ⟨gf,a1,a2,a3⟩:=Yhx hR (fun h=>UU aE h) va;rw[bj]at a2;rw[bj]at a3;obtain ⟨a4,a5⟩:=a3 _ (nn hqp);obtain ⟨v,hr,hv⟩:=Yac (P:=P) aE a.eval (fun _=>rfl) a1 a2 a4;unfold Oper.wp;rw[hr];refine np v ?_;rw[a5,n7]at hv;unfold tM;cases bZ:gB s gd with
   | none=>exact hv
   | some b=>exact .dV (fun _=>hv) fun h=>by rw[hb b bZ]at h;cases h
  cases bZ:gB s gd with
  | none=>simp only[Option.getD_none,if_true];exact run fun b h=>by rw[bZ]at h;cases h
  | some b =>
   cases b with
   | true=>simp only[Option.getD_some,if_true];exact run fun b h=>by rw[bZ]at h;cases h;rfl
   | false =>
    simp only[Option.getD_some,Bool.false_eq_true,if_false];refine np undef ?_;unfold tM;rw[bZ];exact .dV (fun h=>by cases h) fun _=>rfl
end
def lI:AV->Prop
 | .agg _=>True
 | v=>one v
def BM:TY->List AV->Nat->AV->Prop
 | .sc _,cs,off,v=>off<cs.length/\one v
 | .ag n,cs,off,.agg vs=>vs.length=n/\off+n<=cs.length
 | .ag _,_,_,_=>False
def vd (s:FS)(ty:TY)(a v:AV):Prop :=
 match a with
 | .ptr b off=>match s.H b with
  | .cells cs=>BM ty cs off v
  | _=>False
 | _=>False
def jR:AV->Nat
 | .ptr b _=>b
 | _=>0
def wT:AV->Nat
 | .ptr _ o=>o
 | _=>0
def Zc:Bk->List AV
 | .cells cs=>cs
 | _=>[]
section
variable {P:Program}{c:Cx}{ops:Array Oper}{io:Oper}
def UW {v:AV}{x:Bk} :dB s2 ((s.aI b x).put d v) ⟨rt,rb,[d],[b]⟩=(s2.aI b x).put d v:=by
 unfold dB FS.put FS.aI;congr 1
 ·funext i;simp only[mem_singleton];by_cases h:d=i
  ·subst h;simp
  ·rw[aa (fun e=>h e.symm),aa h]
 ·funext i;simp only[mem_singleton];by_cases h:b=i
  ·subst h;simp
  ·rw[aa (fun e=>h e.symm),aa h]
def DS {x:Bk} :dB s2 (s.aI b x) ⟨rt,rb,[],[b]⟩=s2.aI b x:=by
 unfold dB FS.aI;congr 1;funext i;simp only[mem_singleton];by_cases h:b=i
 ·subst h;simp
 ·rw[aa (fun e=>h e.symm),aa h]
def Ze {K:Act->World->Prop}{Q:Exit->Act->World->Prop}(h:io.guard=none)(hw:io.wp P a w K Q):Uo P ops io a w K Q:=by
 unfold Uo;rw[Ij h];exact hw
def Jj (h:n6 ops io=some none):io.guard=none:=by
 unfold n6 at h;cases hg:io.guard with
 | none=>rfl
 | some p =>
  obtain ⟨j,b⟩:=p;rw[hg]at h;simp only at h;split at h<;>simp at h
def UX {s:FS}{d b:Nat}{cs:List AV}{rt:List Nat}(hg:io.guard=none)(bb:io.dst=some d)(hd:d<c.N)(hf:s.H b=.free)
  (hrun:∀ s2:FS,(∀ i ∈ rt,s2.T i=s.T i)→∀ g a w,R c g s2 a w→∃ (cur:Array Value) (t:TypeId),(execOp a.eval io).run P w=.ok (.value (.pointer (some ⟨w.heap.size,0,none⟩))) (w.alloc (.cells cur t))∧cur.size=cs.length∧(∀ j,j < cs.length→(cur.getD j undef).oneCell'=true) ∧
   ∀ j,j<cs.length->VR g (Qm c g s2) w (cs.getD j .any) (cur.getD j undef)) :
  kL P c ops io s ⟨rt,[b],[d],[b]⟩ ((s.aI b (.cells cs)).put d (.ptr b 0)):=by
 refine ⟨fun i hi=>?_,fun i hi=>?_,fun s2 hT hH g a w hR K Q' hK=>Ze hg ?_⟩
 ·rw[FS.dF,aa (fun e=>hi (by simp[e]))];rfl
 ·show (s.aI b _).H i=_;rw[FS.a8,aa (fun e=>hi (by simp[e]))]
 ·obtain ⟨cur,t,hr,hs,h1,hv⟩:=hrun s2 hT g a w hR;unfold Oper.wp;rw[hr];have iU:s2.H b=.free:=by rw[hH b av,hf]
  have jY:∀ k,Qm c g s2 k->k<w.heap.size:=by
   rintro k (h|⟨b',hl,fN⟩)
   ·have:=(hR.xs k h).1;have:=hR.fr.size;omega
   ·exact BR.lt (fN ▸ hR.h b') hl
  have bh:=hR.new (b:=b) (x:=.cells cs) (.cells cur t) iU trivial fun g' fN=>by
   exact .cells (cur:=cur) (e:=t) (fz:=(0,0)) (heap_alloc_new w _) af h1 (fun j hj=>(hv j hj).mono (Fr.alloc w _ _) (fun k hk h=>h.resolve_right af) fN) (.inl rfl)
  show K (a.put io.dst _) _;rw[bb];refine hK (Zh g b (.re w.heap.size)) _ _ ?_;rw[UW];refine bh.put hd (.ptr ?_);simp[Zh]
def Yhj {z:Value}(aX:n6 ops io=some none)(hop:io.op=.alloc t)(bb:io.dst=some d)(hd:d<c.N)(hz:(P.info? t).bind (·.zero)=some z)(h1:z.cells.all (·.oneCell')=true)(hf:s.H b=.free) :
  kL P c ops io s ⟨[],[b],[d],[b]⟩ ((s.aI b (.cells (z.cells.toList.map fM))).put d (.ptr b 0)):=by
 refine UX (Jj aX) bb hd hf fun s2 _ g a w hR=>⟨z.cells,t,?_,by simp,?_⟩
 ·cases hi:P.info? t with
  | none=>rw[hi]at hz;simp at hz
  | some i =>
   rw[hi]at hz;simp at hz;simp[execOp,hop,Instr.alloc,zeroValue,typeInfo,hi,hz,newVar,newRow,newObj,Sem.run]
 ·have hv:=BD (g:=g) (W:=Qm c g s2) (w:=w) (.agg z.cells);have qa:uX (.agg z.cells)=.agg (z.cells.toList.map fM):=am h1;rw[qa]at hv;obtain ⟨us,e,q1,q2,q3⟩:=Uq hv;cases e;exact ⟨q2,q3⟩
def Ygb {x:Operand}(aX:n6 ops io=some none)(hop:io.op=.box t x)(bb:io.dst=some d)(hd:d<c.N)(hx:lI (aV c.gl s (aP x)))(hf:s.H b=.free) :
  kL P c ops io s ⟨Xe [aP x],[b],[d],[b]⟩ ((s.aI b (.cells (Kh (aV c.gl s (aP x))))).put d (.ptr b 0)):=by
 refine UX (Jj aX) bb hd hf fun s2 hT g a w hR=>?_;have js:=hR.ev x;have he:aV c.gl s2 (aP x)=aV c.gl s (aP x):=by
  have:=Yd (gl:=c.gl) (xs:=[aP x]) hT;simpa [aD] using this
 rw[he]at js;have hr:(execOp a.eval io).run P w=.ok (.value (.pointer (some ⟨w.heap.size,0,none⟩))) (w.alloc (.cells (a.eval x).cells t)):=by
  simp[execOp,hop,Instr.box,newVar,newRow,newObj,Sem.run]
 refine ⟨_,_,hr,?_⟩;by_cases BG:∃ vs,aV c.gl s (aP x)=.agg vs
 ·obtain ⟨vs,e⟩:=BG;rw[e]at js ⊢;obtain ⟨us,e2,q1,q2,q3⟩:=Uq js;rw[e2];exact ⟨q1,q2,q3⟩
 ·have h1:one (aV c.gl s (aP x)):=by
   revert hx BG;cases aV c.gl s (aP x)<;>simp[lI,one]
  have iD:=js.one h1;have aY:Kh (aV c.gl s (aP x))=[aV c.gl s (aP x)]:=by
   revert BG;cases aV c.gl s (aP x)<;>simp[Kh]
  rw[aY,MI iD];exact ⟨rfl,fun j hj=>by simp at hj;subst hj;exact iD,fun j hj=>by simp at hj;subst hj;exact js⟩
def MT (w:World)(k o:Nat)(v:Value)(i:Nat):(w.setCell ⟨k,o,none⟩ v).heap[i]?=if i=k then (w.heap[k]?).map (fun x=>match x with|.cells c e fz=>.cells (c.setIfInBounds o v) e fz|x=>x) else w.heap[i]?:=by
 simp only[World.setCell,Array.getElem?_modify];by_cases h:k=i
 ·subst h;simp;cases w.heap[k]? with
  | none=>rfl
  | some x=>cases x<;>rfl
 ·rw[aa h,aa (fun e=>h e.symm)]
def MU {k:Nat}{e:TypeId}{fz:Nat×Nat}(off:Nat):∀ (vs:List Value) (i:Nat) (w:World) (cur:Array Value),w.heap[k]?=some (.cells cur e fz)->(∀ v ∈ vs,v.oneCell'=true)->off+i+vs.length<=cur.size->(fz=(0,0)\/cur.size<=fz.1) ->
  ∃ w' eX,(storeCells ⟨k,off,none⟩ vs i).run P w=.ok () w'/\w'.heap[k]?=some (.cells eX e fz)/\eX.size=cur.size/\(∀ j,eX.getD j undef=if off+i<=j/\j<off+i+vs.length/\j<cur.size then vs.getD (j-(off+i)) undef else cur.getD j undef)/\Fr w w' (fun x=>x=k)
 | [],i,w,cur,hb,_,_,_=>⟨w,cur,rfl,hb,rfl,fun j=>by rw[aa (by simp;omega)],Fr.refl _ _⟩
 | v::vs,i,w,cur,hb,h1,hl,hf=>by
  have hlt:off+i<cur.size:=by simp at hl;omega
  have eS:w.cell? ⟨k,off+i,none⟩=some cur[off+i]:=by rw[cell_of_row w k _ cur e fz hb];simp[hlt]
  have qZ:w.frozen? ⟨k,off+i,none⟩=false:=by
   simp only[World.frozen?,hb];rcases hf with h|h
   ·subst h;simp
   ·simp only[Bool.and_eq_false_iff,decide_eq_false_iff_not];omega
  have dX:(store ⟨k,off+i,none⟩ v).run P w=.ok () (w.setCell ⟨k,off+i,none⟩ v):=by
   rw[run_store P w _ v _ (h1 v av),eS];simp[qZ]
  have bL:(w.setCell ⟨k,off+i,none⟩ v).heap[k]?=some (.cells (cur.setIfInBounds (off+i) v) e fz):=by rw[MT,am rfl,hb];rfl
  obtain ⟨w',eX,hr,BJ,hs,hg,nt⟩:=MU off vs (i+1) _ _ bL (fun u hu=>h1 u (by simp[hu])) (by simp at hl ⊢;omega) (by simpa using hf);refine ⟨w',eX,?_,BJ,by rw[hs];simp,fun j=>?_,?_⟩
  ·simp only[storeCells,Sem.run_bind,add_lit,dX,Result.andThen_ok,hr]
  ·rw[hg j];simp only[Array.size_setIfInBounds,length_cons];by_cases hj:j=off + i
   ·subst hj;rw[aa af,am af];simp[hlt]
   ·have e:(cur.setIfInBounds (off+i) v).getD j undef=cur.getD j undef:=by
     simp only[Array.getD_eq_getD_getElem?,Array.getElem?_setIfInBounds];rw[aa (fun h=>hj h.symm)]
    rw[e];by_cases hc:off+(i+1)<=j/\j<off+(i+1)+vs.length/\j<cur.size
    ·rw[am hc,am af];have:j - (off + i)=(j - (off + (i + 1))) + 1:=by omega
     rw[this];simp
    ·rw[aa hc,aa af]
  ·have h0:Fr w (w.setCell ⟨k,off+i,none⟩ v) (fun x=>x=k):=by
    refine ⟨rfl,rfl,rfl,by simp[World.setCell],fun x _ hx=>by rw[MT,aa hx],fun x c0 e0 f0 hx=>?_⟩;rw[MT];split
    ·rename_i ex;subst ex;rw[hb]at hx;cases hx;rw[hb];exact ⟨_,rfl,by simp⟩
    ·exact ⟨c0,hx,rfl⟩
   exact h0.trans nt fun i _ h=>h
def BN {cur:Array Value}{n j:Nat}(h:j<n):(cur.extract 0 n).getD j undef=cur.getD j undef:=by
 simp only[Array.getD_eq_getD_getElem?,Array.getElem?_extract];by_cases hj:j<cur.size
 ·rw[am af];simp
 ·rw[aa af];simp[Nat.le_of_not_lt hj]
def Ye4 {s:FS}{t:TypeId}{ty:TY}{xa xv:Operand}(aX:n6 ops io=some none)(hop:io.op=.store t xa xv)(bb:io.dst=none)(j0:l9 P t=some ty)
  (hp:vd s ty (aV c.gl s (aP xa)) (aV c.gl s (aP xv))) :
  kL P c ops io s ⟨Xe [aP xa,aP xv],[jR (aV c.gl s (aP xa))],[],[jR (aV c.gl s (aP xa))]⟩
   (s.aI (jR (aV c.gl s (aP xa))) (.cells (uW ty (Zc (s.H (jR (aV c.gl s (aP xa))))) (wT (aV c.gl s (aP xa))) (aV c.gl s (aP xv))))):=by
 cases UY:aV c.gl s (aP xa)<;>rw[UY]at hp<;>simp only[vd]at hp
 rename_i b off;simp only[jR,wT];cases hH:s.H b<;>rw[hH]at hp<;>simp only at hp
 rename_i cs;simp only[Zc];refine ⟨fun i _=>rfl,fun i hi=>by rw[FS.a8,aa (fun e=>hi (by simp[e]))],fun s2 hT hHH g a w hR K Q' hK=>Ze (Jj aX) ?_⟩;have bj:=Yd (gl:=c.gl) (xs:=[aP xa,aP xv]) hT;simp only[aD,map_cons,map_nil,List.cons.injEq,and_true]at bj;have UZ:=hR.ev xa;have ra:=hR.ev xv;rw[bj.1,UY]at UZ;rw[bj.2]at ra;obtain ⟨k,e1,e2⟩:=BH UZ;have hb2:s2.H b=.cells cs:=by rw[hHH b av,hH]
 have ez:=hR.h b;rw[hb2,e2]at ez
 -- the cells yZ are stored
 have piece:∃ (vs:List AV),(a.eval xv).cells.size=vs.length∧off + vs.length≤cs.length∧Zt P t=some vs.length∧(∀ j,j < vs.length→((a.eval xv).cells.getD j undef).oneCell'=true)∧(∀ j,j < vs.length→VR g (Qm c g s2) w (vs.getD j .any) ((a.eval xv).cells.getD j undef)) ∧
   uW ty cs off (aV c.gl s (aP xv))=Ym cs off vs:=by
  cases ty with
  | sc q =>
   obtain ⟨hs,_⟩:=UB j0;obtain ⟨p1,p2⟩:=hp;have h1:=ra.one p2;rw[MI h1];refine ⟨[aV c.gl s (aP xv)],rfl,by simp;omega,hs,fun j hj=>?_,fun j hj=>?_,UO p1⟩
   ·simp at hj;subst hj;exact h1
   ·simp at hj;subst hj;exact ra
  | ag n =>
   obtain ⟨hs,_⟩:=HX j0;clear hK;generalize aV c.gl s (aP xv)=ev at hp ra;cases ev<;>simp only[BM]at hp
   rename_i vs;obtain ⟨us,e3,q1,q2,q3⟩:=Uq ra;rw[e3];exact ⟨vs,q1,by omega,by rw[hs,hp.1],q2,q3,rfl⟩
 obtain ⟨vs,q1,q2,q3,q4,q5,q6⟩:=piece;rw[q6]at hK;by_cases cf:0<cs.length
 ·cases ez with
  | cells hb hl h1 hv hf =>
   rename_i cur e fz;obtain ⟨w',eX,r1,r2,r3,r4,r5⟩:=MU (P:=P) off (a.eval xv).cells.toList 0 w cur hb (fun v hv=>by
    obtain ⟨j,hj,e⟩:=List.getElem_of_mem hv;have dd:j<vs.length:=by rw[<- q1];simpa using hj
    have:=q4 j dd;have e':(a.eval xv).cells.getD j undef=v:=by
     rw[<- e];have:j<(a.eval xv).cells.size:=by simpa using hj
     simp[Array.getD,this]
    rw[<- e'];exact this) (by simp[q1];omega) hf
   have hrun:(execOp a.eval io).run P w=.ok .skip w':=by
    simp only[execOp,hop,e1,Instr.storeAt,Instr.sureAddr,storeVar,Sem.run_bind,Sem.run_pure,Result.andThen_ok,Kc q3];rw[aa (by rw[q1];simp)];simp[r1]
   unfold Oper.wp;rw[hrun];show K (a.put io.dst undef) w';rw[bb];refine hK g a w' ?_;rw[DS];have aO:(s2.H b).live:=by rw[hb2];trivial
   have hk:Qm c g s2 k:=.inr ⟨b,aO,e2⟩;have mh:∀ {x v},VR g (Qm c g s2) w x v->VR g (Qm c g s2) w' x v:=fun hx=>hx.mono (r5.weak fun i e=>e ▸ hk) (fun _ _ h=>h) (fun _ _=>rfl)
   -- the row gf it was,but for its end,and the piece
   obtain ⟨t1,t2,t3⟩:=UN (g:=g) (W:=Qm c g s2) (w:=w') (cs:=cs) (cells:=cur.extract 0 cs.length) (by simp;omega)
    (fun j hj=>by rw[BN hj];exact h1 j hj) (fun j hj=>by rw[BN hj];exact mh (hv j hj)) (vs:=vs) (us:=(a.eval xv).cells) q1 q4 (fun j hj=>mh (q5 j hj)) q2 (cells':=eX.extract 0 cs.length) (by simp;omega) (fun j=>by
     by_cases hj:j<cs.length
     ·rw[BN hj,BN hj,r4 j];simp only[Nat.add_zero,Array.length_toList,Array.size_extract,Nat.sub_zero];by_cases eZa:off≤j∧j < off + (a.eval xv).cells.size
      ·rw[am af,am af];simp[Array.getD_eq_getD_getElem?]
      ·rw[aa af,aa af]
     ·rw[aa (by simp;omega)];have e1:(eX.extract 0 cs.length).getD j undef=undef:=by simp[Array.getD];omega
      have e2:(cur.extract 0 cs.length).getD j undef=undef:=by simp[Array.getD];omega
      rw[e1,e2])
   have hlen:=UM q2;refine hR.setBlock e2 aO trivial r5 (.cells r2 (by rw[hlen,r3];exact hl) (fun j hj=>?_) (fun j hj=>?_) (by rw[r3];exact hf))
   ·have:=t2 j hj;rwa [BN af]at this
   ·have:=t3 j hj;rwa [BN af]at this
 ·have iK:cs=[]:=List.eq_nil_of_length_eq_zero af;subst iK;have MV:vs=[]:=List.eq_nil_of_length_eq_zero (by simp at q2;simp[q2]);subst MV;have hrun:(execOp a.eval io).run P w=.ok .skip w:=by
   have iD:(a.eval xv).cells=#[]:=Array.eq_empty_of_size_eq_zero q1;simp only[execOp,hop,e1,Instr.storeAt,Instr.sureAddr,storeVar,Sem.run_bind,Sem.run_pure,Result.andThen_ok,Kc q3];rw[aa (by rw[q1];simp)];simp[iD,storeCells]
  unfold Oper.wp;rw[hrun];show K (a.put io.dst undef) w;rw[bb];refine hK g a w ?_;rw[DS];have:s2.aI b (.cells (Ym [] off []))=s2:=by
   unfold FS.aI Ym;cases s2;congr 1;funext i;split
   ·rename_i e;subst e;simp at hb2;simp[hb2]
   ·rfl
  rw[this];exact hR
end
section
variable {P:Program}{N:Nat}{ops:Array Oper}{io:Oper}
def Yfm {q:Q1}{xs:List TV}  (h:Uy P N ops io=some (.q d q xs gd)) :
  n6 ops io=some gd/\io.dst=some d/\d<N/\∃ ys,uY P io=some (q,ys)/\xs=ys.map aP:=by
 unfold Uy at h;split at h
 ·cases h
 ·rename_i DT hg;split at h
  ·split at h
   ·split at h<;>simp at h
   ·cases h
  ·split at h<;>simp at h
  ·split at h<;>simp at h
  ·split at h
   ·rename_i q' ys d' hq hd;split at h
    ·rename_i hlt;simp only[Option.some.injEq,bB.q.injEq]at h;obtain ⟨rfl,rfl,rfl,rfl⟩:=h;exact ⟨hg,hd,hlt,ys,hq,rfl⟩
    ·cases h
   ·split at h
    ·split at h<;>simp at h
    ·cases h
def Yb9 (h:Uy P N ops io=some (.al d z)):n6 ops io=some none/\io.dst=some d/\d<N/\∃ t zv,io.op=.alloc t/\(P.info? t).bind (·.zero)=some zv/\zv.cells.all (·.oneCell')=true/\z=zv.cells.toList.map fM:=by
 unfold Uy at h;split at h
 ·cases h
 ·rename_i DT hg;split at h
  ·rename_i t d' hop hd;split at h
   ·rename_i zv hz;split at h
    ·rename_i hc;simp only[Option.some.injEq,bB.al.injEq]at h;obtain ⟨rfl,rfl⟩:=h;exact ⟨hg,hd,hc.1,t,zv,hop,hz,hc.2,rfl⟩
    ·cases h
   ·cases h
  ·split at h<;>simp at h
  ·split at h<;>simp at h
  ·split at h
   ·split at h<;>simp at h
   ·split at h
    ·split at h<;>simp at h
    ·cases h
def Yei {x:TV}(h:Uy P N ops io=some (.bx d x)):n6 ops io=some none/\io.dst=some d/\d<N/\∃ t y,io.op=.box t y/\x=aP y:=by
 unfold Uy at h;split at h
 ·cases h
 ·rename_i DT hg;split at h
  ·split at h
   ·split at h<;>simp at h
   ·cases h
  ·rename_i t y d' hop hd;split at h
   ·rename_i hc;simp only[Option.some.injEq,bB.bx.injEq]at h;obtain ⟨rfl,rfl⟩:=h;exact ⟨by rw[hg,hc.2],hd,hc.1,t,y,hop,rfl⟩
   ·cases h
  ·split at h<;>simp at h
  ·split at h
   ·split at h<;>simp at h
   ·split at h
    ·split at h<;>simp at h
    ·cases h
def Xxj {ty:TY}{x y:TV}(h:Uy P N ops io=some (.tL ty x y)):n6 ops io=some none/\io.dst=none/\∃ t xa xv,io.op=.store t xa xv/\l9 P t=some ty/\x=aP xa/\y=aP xv:=by
 unfold Uy at h;split at h
 ·cases h
 ·rename_i DT hg;split at h
  ·split at h
   ·split at h<;>simp at h
   ·cases h
  ·split at h<;>simp at h
  ·rename_i t a v hop hd;split at h
   ·rename_i j0;simp only[Option.some.injEq,bB.tL.injEq]at h;obtain ⟨rfl,rfl,rfl⟩:=h;exact ⟨hg,hd,t,a,v,hop,j0,rfl,rfl⟩
   ·cases h
  ·split at h
   ·split at h<;>simp at h
   ·split at h
    ·split at h<;>simp at h
    ·cases h
def Zm {d:Option Nat}{k:PK}{xs:List TV}  (h:Uy P N ops io=some (.pd d k xs gd)) :
  n6 ops io=some gd/\io.dst=d/\d.all (· < N)=true/\∃ ys,Xt P io=some (k,ys)/\xs=ys.map aP:=by
 unfold Uy at h;split at h
 ·cases h
 ·rename_i DT hg;split at h
  ·split at h
   ·split at h<;>simp at h
   ·cases h
  ·split at h<;>simp at h
  ·split at h<;>simp at h
  ·split at h
   ·split at h<;>simp at h
   ·split at h
    ·rename_i k' ys hk;split at h
     ·rename_i hd;simp only[Option.some.injEq,bB.pd.injEq]at h;obtain ⟨rfl,rfl,rfl,rfl⟩:=h;exact ⟨hg,rfl,hd,ys,hk,rfl⟩
     ·cases h
    ·cases h
end
def Ki (P:Program)(c:Cx)(o:bB)(s:FS)(F:bc)(s':FS):Prop:=∀ ops io,Uy P c.N ops io=some o->kL P c ops io s F s'
def MW (P:Program)(c:Cx)(o:bB)(K:St->Prop)(s:St):Prop:=∃ F s',Ki P c o s.fs F s'.fs/\K s'
def Il (P:Program)(c:Cx)(o:bB)(K:St->Prop)(s:St):Prop:=∀ ops io,Uy P c.N ops io=some o->∀ g a w,R c g s.fs a w->∀ (K':Act->World->Prop) (Q':Exit->Act->World->Prop),(∀ g' s' a' w',K s'->R c g' s'.fs a' w'->K' a' w')->Uo P ops io a w K' Q'
def MX (P:Program)(c:Cx)(o:bB)(K:bc->St->Prop)(s:St):Prop:=∃ F s',Ki P c o s.fs F s'.fs/\K F s'
def XP (P:Program)(c:Cx):List bB->(St->Prop)->St->Prop
 | [],K,s=>K s
 | .q d q xs gd::r,K,s=>yX c.gl s.fs q xs gd/\XP P c r K (s.put d (tM c.gl s.fs q xs gd))
 | .al d z::r,K,s=>s.fs.H s.n=.free/\XP P c r K ((s.nw (.cells z)).put d (.ptr s.n 0))
 | .bx d x::r,K,s=>lI (aV c.gl s.fs x)/\s.fs.H s.n=.free/\XP P c r K ((s.nw (.cells (Kh (aV c.gl s.fs x)))).put d (.ptr s.n 0))
 | .tL ty a v::r,K,s=>vd s.fs ty (aV c.gl s.fs a) (aV c.gl s.fs v) ∧
   XP P c r K (s.aI (jR (aV c.gl s.fs a)) (.cells (uW ty (Zc (s.fs.H (jR (aV c.gl s.fs a)))) (wT (aV c.gl s.fs a)) (aV c.gl s.fs v))))
 | .pd d k xs gd::r,K,s=>MW P c (.pd d k xs gd) (XP P c r K) s\/Il P c (.pd d k xs gd) (XP P c r K) s
def cJ (x y:bc):Bool:=x.wt.any (fun i=>y.rt.contains i||y.wt.contains i)||y.wt.any (fun i=>x.rt.contains i)||x.wb.any (fun i=>y.rb.contains i||y.wb.contains i)||y.wb.any (fun i=>x.rb.contains i)
def Wl (anc:Nat)(y:bc):Nat->List bc->Bool
 | _,[]=>true
 | i,x::r=>(!cJ x y||anc.testBit i)&&Wl anc y (i+1) r
def Wp (anc:List Nat)(fs:List bc):List bc->Bool
 | []=>true
 | y::r=>Wl (anc.getD fs.length 0) y 0 fs&&Wp anc (fs++[y]) r
def XD (P:Program)(c:Cx)(anc:List Nat):List bB->List bc->(St->Prop)->St->Prop
 | [],fs,K,s=>Wp anc [] fs.reverse=true/\K s
 | .q d q xs gd::r,fs,K,s=>yX c.gl s.fs q xs gd/\XD P c anc r (qY c.gl s.fs q d xs gd::fs) K (s.put d (tM c.gl s.fs q xs gd))
 | .al d z::r,fs,K,s=>s.fs.H s.n=.free/\XD P c anc r (⟨[],[s.n],[d],[s.n]⟩::fs) K ((s.nw (.cells z)).put d (.ptr s.n 0))
 | .bx d x::r,fs,K,s=>lI (aV c.gl s.fs x)/\s.fs.H s.n=.free/\XD P c anc r (⟨Xe [x],[s.n],[d],[s.n]⟩::fs) K ((s.nw (.cells (Kh (aV c.gl s.fs x)))).put d (.ptr s.n 0))
 | .tL ty a v::r,fs,K,s=>vd s.fs ty (aV c.gl s.fs a) (aV c.gl s.fs v) ∧
   XD P c anc r (⟨Xe [a,v],[jR (aV c.gl s.fs a)],[],[jR (aV c.gl s.fs a)]⟩::fs) K (s.aI (jR (aV c.gl s.fs a)) (.cells (uW ty (Zc (s.fs.H (jR (aV c.gl s.fs a)))) (wT (aV c.gl s.fs a)) (aV c.gl s.fs v))))
 | .pd d k xs gd::r,fs,K,s=>MX P c (.pd d k xs gd) (fun F=>XD P c anc r (F::fs) K) s
def Yo (P:Program)(c:Cx)(o:bB)(r:List bB)(K:St->Prop)(s:St):Prop:=MW P c o (XP P c r K) s\/Il P c o (XP P c r K) s
def Yz (P:Program)(c:Cx)(anc:List Nat)(o:bB)(r:List bB)(fs:List bc)(K:St->Prop)(s:St):Prop:=MX P c o (fun F=>XD P c anc r (F::fs) K) s
section
variable {P:Program}{c:Cx}{K:St->Prop}{s:St}{r:List bB}{anc:List Nat}{fs:List bc}
theorem Ygx:XP P c [] K s=K s:=rfl
theorem Yjv (d:Nat)(q:Q1)(xs:List TV)(gd:Option (Nat×Bool)):XP P c (.q d q xs gd::r) K s=(yX c.gl s.fs q xs gd/\XP P c r K (s.put d (tM c.gl s.fs q xs gd))):=rfl
theorem Yj9 (d:Nat)(z:List AV):XP P c (.al d z::r) K s=(s.fs.H s.n=.free/\XP P c r K ((s.nw (.cells z)).put d (.ptr s.n 0))):=rfl
theorem Yj6 (d:Nat)(x:TV):XP P c (.bx d x::r) K s=(lI (aV c.gl s.fs x)/\s.fs.H s.n=.free/\XP P c r K ((s.nw (.cells (Kh (aV c.gl s.fs x)))).put d (.ptr s.n 0))):=rfl
theorem Yha (ty:TY)(a v:TV):XP P c (.tL ty a v::r) K s=(vd s.fs ty (aV c.gl s.fs a) (aV c.gl s.fs v) /\
   XP P c r K (s.aI (jR (aV c.gl s.fs a)) (.cells (uW ty (Zc (s.fs.H (jR (aV c.gl s.fs a)))) (wT (aV c.gl s.fs a)) (aV c.gl s.fs v))))):=rfl
theorem Yi7 (d:Option Nat)(k:PK)(xs:List TV)(gd:Option (Nat×Bool)):XP P c (.pd d k xs gd::r) K s=Yo P c (.pd d k xs gd) r K s:=rfl
theorem Yes:XD P c anc [] fs K s=(Wp anc [] fs.reverse=true/\K s):=rfl
theorem Yjz (d:Nat)(q:Q1)(xs:List TV)(gd:Option (Nat×Bool)):XD P c anc (.q d q xs gd::r) fs K s=(yX c.gl s.fs q xs gd/\XD P c anc r (qY c.gl s.fs q d xs gd::fs) K (s.put d (tM c.gl s.fs q xs gd))):=rfl
theorem Yib (d:Nat)(z:List AV):XD P c anc (.al d z::r) fs K s=(s.fs.H s.n=.free/\XD P c anc r (⟨[],[s.n],[d],[s.n]⟩::fs) K ((s.nw (.cells z)).put d (.ptr s.n 0))):=rfl
theorem Yiz (d:Nat)(x:TV):XD P c anc (.bx d x::r) fs K s=(lI (aV c.gl s.fs x)/\s.fs.H s.n=.free/\XD P c anc r (⟨Xe [x],[s.n],[d],[s.n]⟩::fs) K ((s.nw (.cells (Kh (aV c.gl s.fs x)))).put d (.ptr s.n 0))):=rfl
theorem Yg8 (ty:TY)(a v:TV):XD P c anc (.tL ty a v::r) fs K s=(vd s.fs ty (aV c.gl s.fs a) (aV c.gl s.fs v) /\
   XD P c anc r (⟨Xe [a,v],[jR (aV c.gl s.fs a)],[],[jR (aV c.gl s.fs a)]⟩::fs) K (s.aI (jR (aV c.gl s.fs a)) (.cells (uW ty (Zc (s.fs.H (jR (aV c.gl s.fs a)))) (wT (aV c.gl s.fs a)) (aV c.gl s.fs v))))):=rfl
theorem Yia (d:Option Nat)(k:PK)(xs:List TV)(gd:Option (Nat×Bool)):XD P c anc (.pd d k xs gd::r) fs K s=Yz P c anc (.pd d k xs gd) r fs K s:=rfl
end
section
variable {P:Program}{c:Cx}
def MY {s:St}  {q:Q1}{xs:List TV}  (hp:yX c.gl s.fs q xs gd):Ki P c (.q d q xs gd) s.fs (qY c.gl s.fs q d xs gd) (s.put d (tM c.gl s.fs q xs gd)).fs:=by
 intro ops io he;obtain ⟨h1,h2,h3,ys,h4,rfl⟩:=Yfm he;rw[St.bU];exact Yi9 h1 h2 h3 h4 hp
def U0 {s:St}   (hf:s.fs.H s.n=.free):Ki P c (.al d z) s.fs ⟨[],[s.n],[d],[s.n]⟩ ((s.nw (.cells z)).put d (.ptr s.n 0)).fs:=by
 intro ops io he;obtain ⟨h1,h2,h3,t,zv,h4,h5,h6,rfl⟩:=Yb9 he;rw[St.bU,St.iC];exact Yhj h1 h4 h2 h3 h5 h6 hf
def U1 {s:St}  {x:TV}(hx:lI (aV c.gl s.fs x))(hf:s.fs.H s.n=.free):Ki P c (.bx d x) s.fs ⟨Xe [x],[s.n],[d],[s.n]⟩ ((s.nw (.cells (Kh (aV c.gl s.fs x)))).put d (.ptr s.n 0)).fs:=by
 intro ops io he;obtain ⟨h1,h2,h3,t,y,h4,rfl⟩:=Yei he;rw[St.bU,St.iC];exact Ygb h1 h4 h2 h3 hx hf
def U2 {s:St}{ty:TY}{a v:TV}(hp:vd s.fs ty (aV c.gl s.fs a) (aV c.gl s.fs v)) :
  Ki P c (.tL ty a v) s.fs ⟨Xe [a,v],[jR (aV c.gl s.fs a)],[],[jR (aV c.gl s.fs a)]⟩ (s.aI (jR (aV c.gl s.fs a)) (.cells (uW ty (Zc (s.fs.H (jR (aV c.gl s.fs a)))) (wT (aV c.gl s.fs a)) (aV c.gl s.fs v)))).fs:=by
 intro ops io he;obtain ⟨h1,h2,t,xa,xv,h3,h4,rfl,rfl⟩:=Xxj he;rw[St.cg];exact Ye4 h1 h3 h2 h4 hp
def Yed {o:bB}{r:List bB}  {s:St}(h:XP P c (o::r) K s):(∃ F s',Ki P c o s.fs F s'.fs/\XP P c r K s')\/Il P c o (XP P c r K) s:=by
 cases o with
 | q d q xs gd=>exact .inl ⟨_,_,MY h.1,h.2⟩
 | al d z=>exact .inl ⟨_,_,U0 h.1,h.2⟩
 | bx d x=>exact .inl ⟨_,_,U1 h.1 h.2.1,h.2.2⟩
 | tL ty a v=>exact .inl ⟨_,_,U2 h.1,h.2⟩
 | pd d k xs gd=>exact h
def Yap {anc:List Nat}{o:bB}{r:List bB}{fs:List bc}  {s:St}(h:XD P c anc (o::r) fs K s):∃ F s',Ki P c o s.fs F s'.fs/\XD P c anc r (F::fs) K s':=by
 cases o with
 | q d q xs gd=>exact ⟨_,_,MY h.1,h.2⟩
 | al d z=>exact ⟨_,_,U0 h.1,h.2⟩
 | bx d x=>exact ⟨_,_,U1 h.1 h.2.1,h.2.2⟩
 | tL ty a v=>exact ⟨_,_,U2 h.1,h.2⟩
 | pd d k xs gd=>exact h
def Zu (P:Program)(N:Nat)(ops:Array Oper):List Oper->Option (List bB)
 | []=>some []
 | o::r=>match Uy P N ops o,Zu P N ops r with
  | some x,some l=>some (x::l)
  | _,_=>none
def MZ {ops:Array Oper}{Q:Exit->Act->World->Prop}{K:St->Prop}(hK:∀ s g a w,K s->R c g s.fs a w->Q .normal a w):∀ (os:List Oper) (l:List bB) (s:St),Zu P c.N ops os=some l->XP P c l K s ->
  ∀ g a w,R c g s.fs a w->wpList P ops Q os a w
 | [],l,s,he,h,g,a,w,hR=>by
  simp[Zu]at he;subst he;exact hK s g a w h hR
 | o::os,l,s,he,h,g,a,w,hR=>by
  unfold Zu at he;split at he
  ·rename_i x l' hx hl;simp at he;subst he;have:Uo P ops o a w (wpList P ops Q os) Q:=by
    rcases Yed h with ⟨F,s',hA,hr⟩|hS
    ·have y9:=hA ops o hx;exact y9.step s.fs (fun _ _=>rfl) (fun _ _=>rfl) g a w hR (wpList P ops Q os) Q fun g' a' w' bh=>by
      rw[Ii y9.a7 y9.dt]at bh;exact MZ hK os l' s' hl hr g' a' w' bh
    ·exact hS ops o hx g a w hR (wpList P ops Q os) Q fun g' s' a' w' hk bh=>MZ hK os l' s' hl hk g' a' w' bh
   unfold Uo at this;unfold wpList;split
   ·rename_i hw;rw[am hw]at this;exact .inl this
   ·rename_i hw;rw[aa hw]at this;exact this
  ·cases he
end
def lJ (o:Oper):List Nat:=(o.after.toList.filter fun e=>Region.binds .any e).map (·.on)
def ve (acc:List Nat):List Nat->Nat
 | []=>0
 | e::r=>(ve acc r ||| (1 <<< e)) ||| acc.getD e 0
def qc:List Oper->List Nat->List Nat
 | [],acc=>acc
 | o::r,acc=>qc r (acc++[ve acc (lJ o)])
def U3 (acc:List Nat)(i:Nat):∀ l:List Nat,(ve acc l).testBit i=true->i ∈ l\/∃ e ∈ l,(acc.getD e 0).testBit i=true
 | [],h=>by simp[ve]at h
 | e::r,h=>by
  simp only[ve,Nat.testBit_or,Bool.or_eq_true]at h;rcases h with (h|h)|h
  ·rcases U3 acc i r h with h|⟨x,hx,h⟩
   ·exact .inl (by simp[h])
   ·exact .inr ⟨x,by simp[hx],h⟩
  ·rw[Nat.one_shiftLeft,Nat.testBit_two_pow]at h;exact .inl (by simp at h;simp[h])
  ·exact .inr ⟨e,by simp,h⟩
def DU (ops:Array Oper):Bool:=(List.range ops.size).all fun j=>match ops[j]? with
 | some o=>(lJ o).all (· < j)
 | none=>true
def M0 {ops:Array Oper}{L:Nat->Prop}(aY:∀ (j:Nat) o,ops[j]?=some o->L j->∀ e ∈ lJ o,L e):∀ (l:List Oper) (acc:List Nat),(∀ i,l[i]?=ops[acc.length+i]?) ->
  (∀ j,j<acc.length->L j->∀ i,(acc.getD j 0).testBit i=true->L i)->∀ j,L j->∀ i,((qc l acc).getD j 0).testBit i=true->L i
 | [],acc,_,h,j,hj,i,hi=>by
  by_cases hlt:j<acc.length
  ·exact h j hlt hj i hi
  ·have:acc.getD j 0=0:=by simp[List.getD,Nat.le_of_not_lt hlt]
   rw[qc,this]at hi;simp at hi
 | o::r,acc,hl,h,j,hj,i,hi=>by
  refine M0 aY r (acc++[ve acc (lJ o)]) (fun k=>?_) (fun k hk M1 m hm=>?_) j hj i hi
  ·have:=hl (k+1);simp only[List.getElem?_cons_succ]at this;rw[this];congr 1;simp;omega
  ·by_cases hlt:k < acc.length
   ·have:(acc++[ve acc (lJ o)]).getD k 0=acc.getD k 0:=by
     simp only[List.getD];rw[getElem?_append_left hlt]
    rw[this]at hm;exact h k hlt M1 m hm
   ·have M3:k=acc.length:=by simp at hk;omega
    subst M3;have:(acc++[ve acc (lJ o)]).getD acc.length 0=ve acc (lJ o):=by
     simp[List.getD]
    rw[this]at hm;have ho:ops[acc.length]?=some o:=by have:=hl 0;simpa using this.symm
    rcases U3 _ _ _ hm with hm|⟨e,he,rS⟩
    ·exact aY _ o ho M1 m hm
    ·have hLe:=aY _ o ho M1 e he;by_cases DV:e < acc.length
     ·exact h e DV hLe m rS
     ·have:acc.getD e 0=0:=by simp[List.getD,Nat.le_of_not_lt DV]
      rw[this]at rS;simp at rS
def U4 {anc:Nat}{y:bc}:∀ (l:List bc) (k:Nat),Wl anc y k l=true->∀ i (hi:i<l.length),cJ l[i] y=true->anc.testBit (k+i)=true
 | x::l,k,h,i,hi,hc=>by
  simp only[Wl,Bool.and_eq_true,Bool.or_eq_true,Bool.not_eq_true']at h;cases i with
  | zero =>
   rcases h.1 with h1|h1
   ·simp at hc;rw[hc]at h1;cases h1
   ·simpa using h1
  | succ i =>
   have:=U4 l (k+1) h.2 i (by simpa using hi) (by simpa using hc)
   rwa [show k+1+i=k+(i+1) by omega]at this
 | [],_,_,i,hi,_=>absurd hi av
def Im {anc:List Nat}:∀ (l pre:List bc),Wp anc pre l=true->∀ j (hj:j<l.length) i (hi:i<(pre++l).length),i<pre.length+j->cJ (pre++l)[i] l[j]=true->(anc.getD (pre.length+j) 0).testBit i=true
 | y::l,pre,h,j,hj,i,hi,hlt,hc=>by
  simp only[Wp,Bool.and_eq_true]at h;cases j with
  | zero =>
   have n8:i<pre.length:=by omega
   have:=U4 pre 0 h.1 i n8 (by simpa [List.getElem_append_left n8] using hc);simpa using this
  | succ j =>
   have:=Im l (pre++[y]) h.2 j (by simpa using hj) i (by simpa using hi) (by simp;omega) (by simpa using hc);simp only[length_append,List.length_singleton]at this
   rwa [show pre.length+1+j=pre.length+(j+1) by omega]at this
 | [],_,_,j,hj,_,_,_,_=>absurd hj av
section
variable {P:Program}{c:Cx}{ops:Array Oper}
def Io {anc:List Nat}{K:St->Prop}:∀ (os:List Oper) (l:List bB) (fs:List bc) (s:St),Zu P c.N ops os=some l->XD P c anc l fs K s ->
  ∃ (S:Nat->FS) (F:Nat->bc) (sn:St),S 0=s.fs/\(∀ j o,os[j]?=some o->kL P c ops o (S j) (F j) (S (j+1)))/\sn.fs=S os.length/\K sn/\Wp anc [] (fs.reverse++(List.range os.length).map F)=true
 | [],l,fs,s,he,h=>by
  simp[Zu]at he;subst he;exact ⟨fun _=>s.fs,fun _=>⟨[],[],[],[]⟩,s,rfl,fun j o h=>by simp at h,rfl,h.2,by simpa using h.1⟩
 | o::os,l,fs,s,he,h=>by
  unfold Zu at he;split at he
  ·rename_i x l' hx hl;simp at he;subst he;obtain ⟨F0,s',hA,hr⟩:=Yap h;obtain ⟨S,F,sn,h1,h2,h3,h4,h5⟩:=Io os l' (F0::fs) s' hl hr;refine ⟨fun j=>match j with|0=>s.fs|j + 1=>S j,fun j=>match j with|0=>F0|j + 1=>F j,sn,rfl,fun j o' ho=>?_,h3,h4,?_⟩
   ·cases j with
    | zero =>
     simp at ho;subst ho;have:=hA ops o hx;simpa [h1] using this
    | succ j=>exact h2 j o' (by simpa using ho)
   ·rw[length_cons,List.range_succ_eq_map];simp only[map_cons,List.map_map];simp only[List.reverse_cons,append_assoc,List.singleton_append]at h5;exact h5
  ·cases he
def SL (L:Nat->Bool)(S:Nat->FS)(F:Nat->bc):Nat->FS
 | 0=>S 0
 | m+1=>if L m then dB (SL L S F m) (S (m+1)) (F m) else SL L S F m
def M4 (x y:bc):Prop:=(∃ i ∈ x.wt,i ∈ y.rt\/i ∈ y.wt)\/(∃ i ∈ y.wt,i ∈ x.rt)\/(∃ i ∈ x.wb,i ∈ y.rb\/i ∈ y.wb)\/(∃ i ∈ y.wb,i ∈ x.rb)
def M5 {x y:bc}(h:M4 x y):cJ x y=true:=by
 unfold cJ;simp only[Bool.or_eq_true,List.any_eq_true,List.contains_iff_mem];rcases h with h|h|h|h
 ·exact .inl (.inl (.inl h))
 ·exact .inl (.inl (.inr h))
 ·exact .inl (.inr h)
 ·exact .inr h
structure Ch (n:Nat)(S:Nat->FS)(F:Nat->bc)(A:Nat->List Nat):Prop where
 a7:∀ j,j<n->∀ i,i ∉ (F j).wt->(S (j+1)).T i=(S j).T i
 dt:∀ j,j<n->∀ i,i ∉ (F j).wb->(S (j+1)).H i=(S j).H i
 cJ:∀ i j,i<j->j<n->M4 (F i) (F j)->i ∈ A j
variable {n:Nat}{S:Nat->FS}{F:Nat->bc}{A:Nat->List Nat}{L:Nat->Bool}
def Yk0 {m i:Nat}:(SL L S F (m+1)).T i=if L m=true/\i ∈ (F m).wt then (S (m+1)).T i else (SL L S F m).T i:=by
 have e:SL L S F (m+1)=if L m then dB (SL L S F m) (S (m+1)) (F m) else SL L S F m:=rfl;rw[e];split
 ·rename_i h;simp only[dB,h,true_and]
 ·rename_i h;rw[aa (fun x=>h x.1)]
def Yk3 {m i:Nat}:(SL L S F (m+1)).H i=if L m=true/\i ∈ (F m).wb then (S (m+1)).H i else (SL L S F m).H i:=by
 have e:SL L S F (m+1)=if L m then dB (SL L S F m) (S (m+1)) (F m) else SL L S F m:=rfl;rw[e];split
 ·rename_i h;simp only[dB,h,true_and]
 ·rename_i h;rw[aa (fun x=>h x.1)]
def M6 (hc:Ch n S F A){j:Nat}(hj:j<n)(j3:L j=false)(eA:∀ i ∈ A j,i<j->L i=true)(aY:∀ m,m<n->L m=true->∀ i ∈ A m,L i=true){t:Nat}(ht:t ∈ (F j).rt):∀ m,m<=n->(SL L S F m).T t=(S (min m j)).T t
 | 0,_=>by simp[SL]
 | m+1,hm=>by
  have ih:=M6 hc hj j3 eA aY ht m af;rw[Yk0,ih];by_cases BO:m<j
  ·rw[show min (m + 1) j=m + 1 by omega,show min m j=m by omega];by_cases hw:t ∈ (F m).wt
   ·have:L m=true:=eA m (hc.cJ m j BO hj (.inl ⟨t,hw,.inl ht⟩)) BO;rw[am ⟨this,hw⟩]
   ·rw[aa (fun x=>hw x.2),hc.a7 m af t hw]
  ·rw[show min (m + 1) j=j by omega,show min m j=j by omega];rw[aa];rintro ⟨h1,h2⟩;by_cases he:m=j
   ·subst he;rw[j3]at h1;cases h1
   ·have:=aY m af h1 j (hc.cJ j m af af (.inr (.inl ⟨t,h2,ht⟩)));rw[j3]at this;cases this
def M7 (hc:Ch n S F A){j:Nat}(hj:j<n)(j3:L j=false)(eA:∀ i ∈ A j,i<j->L i=true)(aY:∀ m,m<n->L m=true->∀ i ∈ A m,L i=true){t:Nat}(ht:t ∈ (F j).rb):∀ m,m<=n->(SL L S F m).H t=(S (min m j)).H t
 | 0,_=>by simp[SL]
 | m+1,hm=>by
  have ih:=M7 hc hj j3 eA aY ht m af;rw[Yk3,ih];by_cases BO:m<j
  ·rw[show min (m + 1) j=m + 1 by omega,show min m j=m by omega];by_cases hw:t ∈ (F m).wb
   ·have:L m=true:=eA m (hc.cJ m j BO hj (.inr (.inr (.inl ⟨t,hw,.inl ht⟩)))) BO;rw[am ⟨this,hw⟩]
   ·rw[aa (fun x=>hw x.2),hc.dt m af t hw]
  ·rw[show min (m + 1) j=j by omega,show min m j=j by omega];rw[aa];rintro ⟨h1,h2⟩;by_cases he:m=j
   ·subst he;rw[j3]at h1;cases h1
   ·have:=aY m af h1 j (hc.cJ j m af af (.inr (.inr (.inr ⟨t,h2,ht⟩))));rw[j3]at this;cases this
def Xvu {s x y:FS}{X Y:bc}(h1:∀ i ∈ X.wt,i ∉ Y.wt)(h2:∀ i ∈ X.wb,i ∉ Y.wb):dB (dB s x X) y Y=dB (dB s y Y) x X:=by
 unfold dB;congr 1
 ·funext i;by_cases hy:i ∈ Y.wt<;>by_cases hx:i ∈ X.wt<;>simp only[hx,hy,if_true,if_false]
  exact absurd hy (h1 i hx)
 ·funext i;by_cases hy:i ∈ Y.wb<;>by_cases hx:i ∈ X.wb<;>simp only[hx,hy,if_true,if_false]
  exact absurd hy (h2 i hx)
def M8 (hc:Ch n S F A){j:Nat}(j3:L j=false)(aY:∀ m,m<n->L m=true->∀ i ∈ A m,L i=true){L':Nat->Bool}(dd:L' j=true)(ho:∀ i,i≠j->L' i=L i) :
  ∀ m,m<=n->SL L' S F m=if m<=j then SL L S F m else dB (SL L S F m) (S (j+1)) (F j)
 | 0,_=>by simp[SL]
 | m+1,hm=>by
  have ih:=M8 hc j3 aY dd ho m af;have e:∀ L,SL L S F (m+1)=if L m then dB (SL L S F m) (S (m+1)) (F m) else SL L S F m:=fun _=>rfl;by_cases BO:m<j
  ·rw[am af];rw[am af]at ih;rw[e,e,ih,ho m af]
  ·rw[aa af];by_cases he:m=j
   ·subst he;rw[am (Nat.le_refl _)]at ih;rw[e,e,ih,dd,j3];simp
   ·rw[aa af]at ih;rw[e,e,ih,ho m he];split
    ·rename_i za;have br:¬ M4 (F j) (F m):=fun fv=>by
      have:=aY m af za j (hc.cJ j m af af fv);rw[j3]at this;cases this
     exact Xvu (fun i hi n8=>br (.inl ⟨i,hi,.inr n8⟩)) (fun i hi n8=>br (.inr (.inr (.inl ⟨i,hi,.inr n8⟩))))
    ·rfl
def M9 (hc:Ch n S F A)(h:∀ j,j<n->L j=true):∀ m,m<=n->SL L S F m=S m
 | 0,_=>rfl
 | m+1,hm=>by
  have e:SL L S F (m+1)=if L m then dB (SL L S F m) (S (m+1)) (F m) else SL L S F m:=rfl;rw[e,h m af,M9 hc h m af];exact Ii (hc.a7 m af) (hc.dt m af)
def Na:∀ m,(∀ j,j<m->L j=false)->SL L S F m=S 0
 | 0,_=>rfl
 | m+1,h=>by
  have e:SL L S F (m+1)=if L m then dB (SL L S F m) (S (m+1)) (F m) else SL L S F m:=rfl;rw[e,h m af,Na m fun j hj=>h j af];simp
def BP {listed:Array Bool}:∀ m,(∀ j,j<m->listed.getD j true=true)\/∃ i,i<m/\listed.getD i true=false/\∀ j,j<i->listed.getD j true=true
 | 0=>.inl fun j hj=>by omega
 | m+1=>by
  rcases BP (listed:=listed) m with h|⟨i,hi,hu,hl⟩
  ·cases hm:listed.getD m true with
   | true =>
    refine .inl fun j hj=>?_;by_cases e:j=m
    ·rw[e];exact hm
    ·exact h j af
   | false=>exact .inr ⟨m,by omega,hm,h⟩
  ·exact .inr ⟨i,by omega,hu,hl⟩
def cd (listed:Array Bool)(n:Nat):Nat:=((List.range n).filter fun j=>listed.getD j true==false).length
def zb {listed:Array Bool}{i:Nat}(hi:listed.getD i true=false):∀ n,i<n->cd listed n=cd (listed.setIfInBounds i true) n+1
 | 0,h=>by omega
 | n+1,h=>by
  have cE:i<listed.size:=by
   rcases Nat.lt_or_ge i listed.size with h'|h'
   ·exact h'
   ·simp[Array.getElem?_eq_none h']at hi
  unfold cd;rw[List.range_succ,List.filter_append,List.filter_append,length_append,length_append];by_cases aL:i=n
  ·subst aL;have e:(List.range i).filter (fun j=>(listed.setIfInBounds i true).getD j true==false)=(List.range i).filter (fun j=>listed.getD j true==false):=by
    refine List.filter_congr fun j hj=>?_;rw[getD_set_ne true (by have:=mem_range.1 hj;omega)]
   rw[e];simp[cE]at hi;simp[cE,hi]
  ·have ih:=zb hi n af;unfold cd at ih;rw[ih];have e:(listed.setIfInBounds i true).getD n true=listed.getD n true:=getD_set_ne true aL;simp only[List.filter_cons,List.filter_nil,e];omega
def Nb {listed:Array Bool}{n:Nat}(h:∀ j,j<n->listed.getD j true=true):cd listed n=0:=by
 unfold cd;rw[List.length_eq_zero_iff,List.filter_eq_nil_iff];intro j hj;rw[h j (mem_range.1 hj)];simp
def BQ {o:Oper}{e:Nat}(h:e ∈ lJ o):∃ x ∈ o.after,Region.binds .any x=true/\x.on=e:=by
 unfold lJ at h;obtain ⟨x,hx,rfl⟩:=mem_map.1 h;obtain ⟨h1,h2⟩:=List.mem_filter.1 hx;exact ⟨x,by simpa using h1,h2,rfl⟩
def Nc {o:Oper}{x:Edge}(h:x ∈ o.after)(hb:Region.binds .any x=true):x.on ∈ lJ o:=by
 unfold lJ;exact mem_map.2 ⟨x,List.mem_filter.2 ⟨by simpa using h,hb⟩,rfl⟩
def Xru {Q:Exit->Act->World->Prop}(hn:n=ops.size)(jt:DU ops=true)(hc:Ch n S F A)(eA:∀ L':Nat->Bool,(∀ (j:Nat) o,ops[j]?=some o->L' j=true->∀ e ∈ lJ o,L' e=true)->∀ j,L' j=true->∀ i ∈ A j,L' i=true)
  (hA:∀ j o,ops[j]?=some o->kL P c ops o (S j) (F j) (S (j+1))) (gj:∀ g a w,R c g (S n) a w->Q .normal a w) :
  ∀ (f:Nat) (listed:Array Bool) (g:Nat->GM) (a:Act) (w:World),HeadInv .any ops n listed->R c g (SL (fun j=>listed.getD j false) S F n) a w->cd listed n=f->wpAny P .any ops Q f listed a w:=by
 intro f
 induction f with
 | zero =>
  intro listed g a w inv hR hf;have bl:∀ j,j<n->listed.getD j true=true:=by
   rcases BP (listed:=listed) n with h|⟨i,hi,hu,_⟩
   ·exact h
   ·have:=zb hu n hi;omega
  refine ⟨?_,gj g a w ?_⟩
  ·rw[List.eq_nil_iff_forall_not_mem];intro j hj;obtain ⟨h1,o,h2,_⟩:=mem_ready.1 hj;have:j < n:=by rw[hn];exact (Array.getElem?_eq_some_iff.1 h2).1
   rw[bl j this]at h1;cases h1
  ·rw[M9 hc (fun j hj=>?_) n (Nat.le_refl _)]at hR
   ·exact hR
   ·have:=bl j hj;have cE:j < listed.size:=by rw[inv.size,← hn];exact hj
    simpa [cE] using this
 | succ f ih =>
  intro listed g a w inv hR hf;rcases BP (listed:=listed) n with h|⟨i,hi,hu,hl⟩
  ·have:=Nb h;omega
  ·have n9:i < ops.size:=by omega
   have ml:i ∈ Region.ready .any ops listed:=mem_ready.2 ⟨hu,ops[i],Array.getElem?_eq_getElem n9,fun e he hb=>by
    have h1:=List.all_eq_true.1 jt i (mem_range.2 n9);rw[Array.getElem?_eq_getElem n9]at h1;have hlt:e.on<i:=by simpa using List.all_eq_true.1 h1 e.on (Nc he hb)
    have:=hl e.on hlt;have cE:e.on<listed.size:=by rw[inv.size];omega
    simpa [cE] using this⟩
   refine ⟨fun h0=>(by rw[h0]at ml;cases ml),fun j hj=>?_⟩;obtain ⟨mo,o,j4,bl⟩:=mem_ready.1 hj;have iu:j<n:=by rw[hn];exact (Array.getElem?_eq_some_iff.1 j4).1
   have wU:=zb mo n iu;have j3:listed.getD j false=false:=getD_both mo;have fI:∀ (j:Nat) o,ops[j]?=some o->listed.getD j false=true->∀ e ∈ lJ o,listed.getD e false=true:=fun j o ho hL e he=>by
    obtain ⟨x,h1,h2,rfl⟩:=BQ he;exact inv.closed j o ho hL x h1 h2
   have aY:=eA _ fI;have gL:∀ i ∈ A j,i<j->listed.getD i false=true:=by
    have h1:=inv.set hj iu;intro i hi gn;have fv:=eA (fun k=>(listed.setIfInBounds j true).getD k false) (fun k o' pf hL e he=>by
     obtain ⟨x,h3,h4,rfl⟩:=BQ he;exact h1.closed k o' pf hL x h3 h4) j (by
      have cE:j<listed.size:=by rw[inv.size];omega
      simp[cE]) i hi
    rw[getD_set_ne false af]at fv;exact fv
   have hrT:∀ t ∈ (F j).rt,(SL (fun j=>listed.getD j false) S F n).T t=(S j).T t:=fun t ht=>by
    rw[M6 hc iu j3 gL (fun m _ hm=>aY m hm) ht n (Nat.le_refl _),Nat.min_eq_right (Nat.le_of_lt iu)]
   have hrH:∀ t ∈ (F j).rb,(SL (fun j=>listed.getD j false) S F n).H t=(S j).H t:=fun t ht=>by
    rw[M7 hc iu j3 gL (fun m _ hm=>aY m hm) ht n (Nat.le_refl _),Nat.min_eq_right (Nat.le_of_lt iu)]
   have dX:=(hA j o j4).step _ hrT hrH g a w hR (wpAny P .any ops Q f (listed.setIfInBounds j true)) Q fun g' a' w' bh=>by
    refine ih _ g' a' w' (inv.set hj iu) ?_ af;have cE:j<listed.size:=by rw[inv.size];omega
    have:=M8 (L:=fun j=>listed.getD j false) hc j3 (fun m _ hm=>aY m hm) (L':=fun k=>(listed.setIfInBounds j true).getD k false) (by simp[cE]) (fun i hi=>getD_set_ne false (fun e=>hi e.symm)) n (Nat.le_refl _);rw[aa af]at this;rw[this];exact bh
   unfold wpOp;rw[j4];unfold Uo at dX;show if Region.wanted o (yielded ops a.tmps)=true then _ else _;split
   ·rename_i hw;rw[am hw]at dX;exact .inl dX
   ·rename_i hw;rw[aa hw]at dX;exact dX
end
end Go.Proofs.YtogckmommodmhaaGreatDoor
