import Derived.Test.YtogckmommodmhaaGreatDoorZy1
import Derived.Lib.Strings
import Derived.StillTail
namespace Go.Proofs.YtogckmommodmhaaGreatDoor
open List (getElem?_take getElem?_drop length_cons append_assoc getElem?_append_left length_take length_append map_cons map_nil mem_singleton mem_range mem_map)
open Go.RowKit
set_option linter.all false
set_option maxRecDepth 100000
inductive AV where
 | any
 | dU (b:Bool) (v:AV)
 | int (k:IntKind) (n:Int)
 | bool (b:Bool)
 | str (l:List UInt8)
 | agg (cs:List AV)
 | aR (vs:List AV)
 | ptr (b off:Nat)
 | xp (cs:List AV) (off:Nat)
 | sl (es b off n c:Nat)
 | isl (n:Nat) (cs:List AV)
 | nils
 | cl (f:FuncId) (caps:List AV)
 | mp (b:Nat)
 | lit (v:Value)
 deriving Inhabited
inductive GM where
 | un
 | ph
 | re (k:Nat)
abbrev Uv (w:World)(k o:Nat):Option Value:=w.cell? ⟨k,o,none⟩
inductive VR (g:Nat->GM)(W:Nat->Prop)(w:World):AV->Value->Prop
 | any (v:Value):VR g W w .any v
 | dU {b:Bool} {x:AV} {v:Value} (h:b=true->VR g W w x v) (h0:b=false->v=undef):VR g W w (.dU b x) v
 | int (k:IntKind) (n:Int):VR g W w (.int k n) (.int k n)
 | bool (b:Bool):VR g W w (.bool b) (.bool b)
 | str (l:List UInt8):VR g W w (.str l) (.string ⟨l.toArray⟩)
 | agg {cs:List AV} {us:Array Value} (hs:us.size=cs.length) (h1:∀ j,j<cs.length->(us.getD j undef).oneCell'=true) (h:∀ j,j<cs.length->VR g W w (cs.getD j .any) (us.getD j undef)):VR g W w (.agg cs) (.agg us)
 | aR {cs:List AV} {us:Array Value} (hs:us.size=cs.length) (h:∀ j,j<cs.length->VR g W w (cs.getD j .any) (us.getD j undef)):VR g W w (.aR cs) (.tuple us)
 | ptr {b off k:Nat} (hg:g b=.re k):VR g W w (.ptr b off) (.pointer (some ⟨k,off,none⟩))
 | xp {cs:List AV} {off k o:Nat} {us:Nat→Value} (hc:∀ j,j < cs.length→Uv w k (o + j)=some (us j)∧¬ W k∧(us j).oneCell'=true) (h:∀ j,j < cs.length→VR g W w (cs.getD j .any) (us j)) :
   VR g W w (.xp cs off) (.pointer (some ⟨k,o+off,none⟩))
 | sl {es b off n c k cap:Nat} {e:TypeId} {cur:Array Value} {fz:Nat × Nat} (hg:g b=.re k) (hn:n≤c) (hc:c≤cap) (hm:cap≤maxLen)
   (hb:w.heap[k]?=some (.cells cur e fz)) (hs:off+cap*es<=cur.size):VR g W w (.sl es b off n c) (.slice (some ⟨k,off,none⟩) n cap)
 | kz {a:Option Addr} {es b off c:Nat} (hg:g b=.ph) (hc:c=0):VR g W w (.sl es b off 0 c) (.slice a 0 0)
 | isl {n cap:Nat} {cs:List AV} {a:Option Addr} {us:Nat→Value} (hn:n≤cap) (hm:cap≤maxLen)
   (hc:∀ j,j<cs.length->∃ k o,a=some ⟨k,o,none⟩/\Uv w k (o+j)=some (us j)/\¬ W k/\(us j).oneCell'=true) (h:∀ j,j<cs.length->VR g W w (cs.getD j .any) (us j)) :
   VR g W w (.isl n cs) (.slice a n cap)
 | nils (a:Option Addr):VR g W w .nils (.slice a 0 0)
 | cl {f:FuncId} {caps:List AV} {us:Array Value} (hs:us.size=caps.length) (h:∀ j,j<caps.length->VR g W w (caps.getD j .any) (us.getD j undef)):VR g W w (.cl f caps) (.func (.func f) #[] us)
 | mp {b k:Nat} (hg:g b=.re k):VR g W w (.mp b) (.map (some k))
 | lit (v:Value):VR g W w (.lit v) v
structure Fr (w w':World)(G:Nat->Prop):Prop where
 os:w'.os=w.os
 tape:w'.tape=w.tape
 output:w'.output=w.output
 size:w.heap.size<=w'.heap.size
 ig:∀ k,k<w.heap.size->¬ G k->w'.heap[k]?=w.heap[k]?
 kind:∀ (k:Nat) (cur:Array Value) (e:TypeId) (fz:Nat×Nat),w.heap[k]?=some (.cells cur e fz)->∃ eT:Array Value,w'.heap[k]?=some (.cells eT e fz)/\eT.size=cur.size
def Wn {w:World}{k:Nat}{o:Obj}(h:w.heap[k]?=some o):k<w.heap.size:=(Array.getElem?_eq_some_iff.1 h).1
def Mm {w:World}{k o:Nat}{v:Value}(h:Uv w k o=some v):k<w.heap.size:=by
 unfold Uv World.cell? at h;split at h
 ·rename_i hh;exact Wn hh
 ·cases h
def Fr.refl (w:World)(G:Nat->Prop):Fr w w G:=⟨rfl,rfl,rfl,Nat.le_refl _,fun _ _ _=>rfl,fun _ cur _ _ h=>⟨cur,h,rfl⟩⟩
def Fr.trans {a b c:World}{G H:Nat->Prop}(h:Fr a b G)(k:Fr b c H)(hH:∀ i,i<a.heap.size->H i->G i):Fr a c G :=
 ⟨k.os.trans h.os,k.tape.trans h.tape,k.output.trans h.output,Nat.le_trans h.size k.size,
  fun i hi hG=>(k.ig i (Nat.lt_of_lt_of_le hi h.size) (fun x=>hG (hH i hi x))).trans (h.ig i hi hG),
  fun i cur e fz hi=>by
   obtain ⟨c1,h1,s1⟩:=h.kind i cur e fz hi;obtain ⟨c2,h2,s2⟩:=k.kind i c1 e fz h1;exact ⟨c2,h2,s2.trans s1⟩⟩
def Fr.weak {a b:World}{G H:Nat->Prop}(h:Fr a b G)(hH:∀ i,G i->H i):Fr a b H :=
 ⟨h.os,h.tape,h.output,h.size,fun i hi hG=>h.ig i hi (fun x=>hG (hH i x)),h.kind⟩
def Fr.drew (w:World)(G:Nat->Prop):Fr w w.drew G:=⟨rfl,rfl,rfl,Nat.le_refl _,fun _ _ _=>rfl,fun _ cur _ _ h=>⟨cur,h,rfl⟩⟩
def Fr.alloc (w:World)(o:Obj)(G:Nat->Prop):Fr w (w.alloc o) G :=
 ⟨rfl,rfl,rfl,by simp,fun k hk _=>Below.heap_alloc w o k hk,fun k cur e fz h=>⟨cur,by rw[Below.heap_alloc w o k (Wn h)];exact h,rfl⟩⟩
def Fr.cell {w w':World}{G:Nat->Prop}(h:Fr w w' G){k o:Nat}{v:Value}(hc:Uv w k o=some v)(hG:¬ G k):Uv w' k o=some v:=by
 have:=h.ig k (Mm hc) hG;rw[<- hc];unfold Uv World.cell?;simp only[this]
def VR.mono {g g':Nat->GM}{W W':Nat->Prop}{w w':World}{x:AV}{v:Value}(h:VR g W w x v)(hf:Fr w w' W)
  (hW:∀ k,k<w.heap.size->W' k->W k) (hg:∀ b,g b≠.un->g' b=g b):VR g' W' w' x v:=by
 have Du:∀ {b k},g b=.re k->g' b=.re k:=fun {b k} e=>by rw[hg b (by rw[e];intro x;cases x),e]
 induction h with
 | any v=>exact .any v
 | dU h h0 ih=>exact .dU ih h0
 | int k n=>exact .int k n
 | bool b=>exact .bool b
 | str l=>exact .str l
 | agg hs h1 h ih=>exact .agg hs h1 ih
 | aR hs h ih=>exact .aR hs ih
 | ptr e=>exact .ptr (Du e)
 | xp hc h ih=>exact .xp (fun j hj=>⟨hf.cell (hc j hj).1 (hc j hj).2.1,fun x=>(hc j hj).2.1 (hW _ (Mm (hc j hj).1) x),(hc j hj).2.2⟩) ih
 | sl e hn hc hm hb hs =>
  obtain ⟨eT,bL,rH⟩:=hf.kind _ _ _ _ hb;exact .sl (Du e) hn hc hm bL (by rw[rH];exact hs)
 | kz e hc=>exact .kz (by rw[hg _ (by rw[e];intro x;cases x),e]) hc
 | isl hn hm hc h ih =>
  refine .isl hn hm (fun j hj=>?_) ih;obtain ⟨k,o,ha,uI,Mn,h1⟩:=hc j hj;exact ⟨k,o,ha,hf.cell uI Mn,fun x=>Mn (hW k (Mm uI) x),h1⟩
 | nils a=>exact .nils a
 | cl hs h ih=>exact .cl hs ih
 | mp e=>exact .mp (Du e)
 | lit v=>exact .lit v
inductive Bk where
 | free
 | dead
 | cells (cs:List AV)
 | az (kvs:List (AV×AV)) (dn:Bool)
 | bp (kvs:List (AV×AV)) (bs:List Nat) (ck:Nat)
 | iter (b ck:Nat) (seen:List Nat)
 | dK (ls:List (List AV))
 deriving Inhabited
def Bk.live:Bk->Prop
 | .cells _|.az _ _|.bp _ _ _|.iter _ _ _|.dK _=>True
 | _=>False
inductive BR (g:Nat->GM)(W:Nat->Prop)(w:World):GM->Bk->Prop
 | free:BR g W w .un .free
 | dead {m:GM} (h:m≠.un):BR g W w m .dead
 | ph:BR g W w .ph (.cells [])
 | cells {k:Nat} {cs:List AV} {cur:Array Value} {e:TypeId} {fz:Nat × Nat} (hb:w.heap[k]?=some (.cells cur e fz)) (hl:cs.length≤cur.size)
   (h1:∀ j,j<cs.length->(cur.getD j undef).oneCell'=true) (hv:∀ j,j<cs.length->VR g W w (cs.getD j .any) (cur.getD j undef)) (hf:fz=(0,0)\/cur.size<=fz.1):BR g W w (.re k) (.cells cs)
 | az {k:Nat} {kvs:List (AV × AV)} {dn:Bool} {es:Array MapEntry} {clock:Nat} (hb:w.heap[k]?=some (.map es clock)) (hs:es.size=kvs.length)
   (hk:∀ j,j<kvs.length->VR g W w (kvs.getD j (.any,.any)).1 (es.getD j default).key) (hv:∀ j,j<kvs.length->VR g W w (kvs.getD j (.any,.any)).2 (es.getD j default).val)
   (hc:∀ j,j<es.size->(es.getD j default).born<clock) (ha:∀ i j,i<j->j<es.size->(es.getD i default).born<(es.getD j default).born)
   (hd:dn=true->(∀ j,j<es.size->(es.getD j default).born=j)/\clock=es.size):BR g W w (.re k) (.az kvs dn)
 | bp {k:Nat} {kvs:List (AV × AV)} {bs:List Nat} {es:Array MapEntry} {clock:Nat} (hb:w.heap[k]?=some (.map es clock)) (hs:es.size=kvs.length)
   (hk:∀ j,j<kvs.length->VR g W w (kvs.getD j (.any,.any)).1 (es.getD j default).key) (hv:∀ j,j<kvs.length->VR g W w (kvs.getD j (.any,.any)).2 (es.getD j default).val)
   (hc:∀ j,j<es.size->(es.getD j default).born<clock) (ha:∀ i j,i<j->j<es.size->(es.getD i default).born<(es.getD j default).born)
   (hd:es.toList.map (·.born)=bs):BR g W w (.re k) (.bp kvs bs clock)
 | iter {k m b ck:Nat} {seen:List Nat} (hb:w.heap[k]?=some (.mapIter (some m) ck seen.toArray ck)) (hg:g b=.re m):BR g W w (.re k) (.iter b ck seen)
 | dK {m:GM} {ls Dv:List (List AV)} (hp:Dv.Perm ls) (h:BR g W w m (.cells Dv.flatten)):BR g W w m (.dK ls)
def BR.mono {g g':Nat->GM}{W W':Nat->Prop}{w w':World}{m:GM}{x:Bk}(h:BR g W w m x)(hf:Fr w w' W)
  (hW:∀ k,k<w.heap.size->W' k->W k) (hg:∀ b,g b≠.un->g' b=g b) (hk:∀ k,m=.re k->x.live->w'.heap[k]?=w.heap[k]?):BR g' W' w' m x:=by
 induction h with
 | dK hp h ih=>exact .dK hp (ih fun k h1 h2=>hk k h1 trivial)
 | free=>exact .free
 | dead h=>exact .dead h
 | ph=>exact .ph
 | cells hb hl h1 hv hz=>exact .cells ((hk _ rfl trivial).trans hb) hl h1 (fun j hj=>(hv j hj).mono hf hW hg) hz
 | az hb hs ji hv hc ha hd=>exact .az ((hk _ rfl trivial).trans hb) hs (fun j hj=>(ji j hj).mono hf hW hg) (fun j hj=>(hv j hj).mono hf hW hg) hc ha hd
 | bp hb hs ji hv hc ha hd=>exact .bp ((hk _ rfl trivial).trans hb) hs (fun j hj=>(ji j hj).mono hf hW hg) (fun j hj=>(hv j hj).mono hf hW hg) hc ha hd
 | iter hb lU=>exact .iter ((hk _ rfl trivial).trans hb) (by rw[hg _ (by rw[lU];intro x;cases x)];exact lU)
structure FS where
 T:Nat->AV
 H:Nat->Bk
def FS.put (s:FS)(d:Nat)(v:AV):FS:=⟨fun i=>if d=i then v else s.T i,s.H⟩
def FS.aH (s:FS)(b:Nat)(x:Bk):FS:=⟨s.T,fun i=>if b=i then x else s.H i⟩
theorem FS.dE (s:FS)(d:Nat)(v:AV)(i:Nat):(s.put d v).T i=if d=i then v else s.T i:=rfl
theorem FS.rI (s:FS)(d:Nat)(v:AV)(b:Nat):(s.put d v).H b=s.H b:=rfl
theorem FS.a7 (s:FS)(b:Nat)(x:Bk)(i:Nat):(s.aH b x).H i=if b=i then x else s.H i:=rfl
structure St where
 t:List (Nat×AV)
 h:List (Nat×Bk)
 n:Nat
def look:List (Nat×AV)->Nat->AV
 | [],_=>.any
 | (i,v)::l,j=>bif i==j then v else look l j
def Qc:List (Nat×Bk)->Nat->Nat->Bk
 | [],n,j=>if j<n then .dead else .free
 | (i,v)::l,n,j=>bif i==j then v else Qc l n j
def St.fs (s:St):FS:=⟨look s.t,Qc s.h s.n⟩
def St.put (s:St)(d:Nat)(v:AV):St:=⟨(d,v)::s.t,s.h,s.n⟩
def St.aH (s:St)(b:Nat)(x:Bk):St:=⟨s.t,(b,x)::s.h,s.n⟩
def St.nw (s:St)(x:Bk):St:=⟨s.t,(s.n,x)::s.h,s.n+1⟩
variable {e:TypeId}{op:BinOp}{s2:FS}{xs cs:List AV}{s:FS}{t:TypeId}{n es d b:Nat}{W:Nat->Prop}{x:AV}{v:Value}{z:List AV}{vs:List Value}{a:Act}{us:Nat->Value}{gd:Option (Nat×Bool)}{w:World}{r:List AV}{K:St->Prop}{rb rt:List Nat}(l:List UInt8)(i:Nat)
def Jk (v:AV)(l:List (Nat×AV))(j:Nat):look ((i,v)::l) j=if i=j then v else look l j:=by
 show (bif i==j then v else look l j)=_;by_cases h:i=j
 ·subst h;simp
 ·have:(i == j)=false:=by simpa using h
  rw[this,aa h];rfl
def Qf (v:Bk)(l:List (Nat×Bk))(n j:Nat):Qc ((i,v)::l) n j=if i=j then v else Qc l n j:=by
 show (bif i==j then v else Qc l n j)=_;by_cases h:i=j
 ·subst h;simp
 ·have:(i == j)=false:=by simpa using h
  rw[this,aa h];rfl
def St.bS (s:St)(d:Nat)(v:AV):(s.put d v).fs=s.fs.put d v:=by
 simp only[St.fs,St.put,FS.put];congr 1;funext i;rw[Jk]
def St.cj (s:St)(b:Nat)(x:Bk):(s.aH b x).fs=s.fs.aH b x:=by
 simp only[St.fs,St.aH,FS.aH];congr 1;funext i;rw[Qf]
def Ku (h:List (Nat×Bk))(n j:Nat)(hj:j≠n):Qc h (n+1) j=Qc h n j:=by
 induction h with
 | nil =>
  unfold Qc;by_cases h:j<n
  ·rw[am h,am af]
  ·rw[aa h,aa af]
 | cons p l ih=>obtain ⟨i,v⟩:=p;rw[Qf,Qf,ih]
def St.iw (s:St)(x:Bk):(s.nw x).fs=s.fs.aH s.n x:=by
 simp only[St.fs,St.nw,FS.aH];congr 1;funext i;rw[Qf];by_cases h:s.n=i
 ·rw[am h,am h]
 ·rw[aa h,aa h,Ku _ _ _ fun e=>h e.symm]
structure Cx where
 N:Nat
 w0:World
 G:Nat->Prop
 X:Nat->Prop
 gl:Nat->AV
 gh:List (Nat×GM)
def Qm (c:Cx)(g:Nat->GM)(s:FS)(k:Nat):Prop:=c.X k\/∃ b,(s.H b).live/\g b=.re k
structure R (c:Cx)(g:Nat->GM)(s:FS)(a:Act)(w:World):Prop where
 size:a.tmps.size=c.N
 ew:a.defers=[]
 t:∀ i,VR g (Qm c g s) w (s.T i) (a.tmps.getD i undef)
 gl:∀ i,VR (fun _=>.un) (Qm c g s) w (c.gl i) (.pointer (some ⟨i,0,none⟩))
 h:∀ b,BR g (Qm c g s) w (g b) (s.H b)
 inj:∀ b b' k,(s.H b).live->(s.H b').live->g b=.re k->g b'=.re k->b=b'
 old:∀ b k,(s.H b).live->g b=.re k->c.w0.heap.size<=k\/c.G k
 fr:Fr c.w0 w c.G
 xs:∀ k,c.X k->k<c.w0.heap.size/\¬ c.G k
 jj:∀ p ∈ c.gh,g p.1=p.2/\p.2≠.un
def BR.gE {g:Nat->GM}   {x:Bk}(h:BR g W w .un x)(hl:x.live):False:=by
 cases h with
 | free=>exact hl
 | dead h=>exact hl
 | dK hp h=>cases h
def BR.lt {g:Nat->GM}   {k:Nat}{x:Bk}(h:BR g W w (.re k) x)(hl:x.live):k<w.heap.size:=by
 cases h with
 | dK hp h=>cases h with|cells hb=>exact Wn hb
 | dead h=>exact hl.elim
 | cells hb=>exact Wn hb
 | az hb=>exact Wn hb
 | bp hb=>exact Wn hb
 | iter hb=>exact Wn hb
section
variable {c:Cx}{g:Nat->GM}{s:FS}{a:Act}{w w':World}
def R.put (hR:R c g s a w)  (hd:d<c.N)   (h:VR g (Qm c g s) w x v):R c g (s.put d x) (a.put (some d) v) w:=by
 have hW:Qm c g (s.put d x)=Qm c g s:=rfl;refine ⟨by simpa [Act.put] using hR.size,by simpa [Act.put] using hR.ew,fun i=>?_,hR.gl,hR.h,hR.inj,hR.old,hR.fr,hR.xs,hR.jj⟩;rw[hW,FS.dE];simp only[Act.put];by_cases hi:d=i
 ·subst hi;rw[am rfl];have:(a.tmps.setIfInBounds d v).getD d undef=v:=by simp[Array.getD,hR.size,hd]
  rw[this];exact h
 ·rw[aa hi];have:(a.tmps.setIfInBounds d v).getD i undef=a.tmps.getD i undef:=by
   simp only[Array.getD_eq_getD_getElem?,Array.getElem?_setIfInBounds];rw[aa hi]
  rw[this];exact hR.t i
def R.uJ (hR:R c g s a w)(v:Value):R c g s (a.put none v) w:=hR
def R.grow (hR:R c g s a w)(hf:Fr w w' (fun _=>False)):R c g s a w':=by
 have nK:Fr w w' (Qm c g s):=hf.weak fun _ h=>h.elim;refine ⟨hR.size,hR.ew,fun i=>(hR.t i).mono nK (fun _ _ h=>h) (fun _ _=>rfl),fun i=>(hR.gl i).mono nK (fun _ _ h=>h) (fun _ _=>rfl),fun b=>?_,hR.inj,hR.old,hR.fr.trans hf fun _ _ h=>h.elim,hR.xs,hR.jj⟩;refine (hR.h b).mono nK (fun _ _ h=>h) (fun _ _=>rfl) fun k hk hl=>hf.ig k ?_ id;exact BR.lt (hk ▸ hR.h b) hl
def Hz:∀ k,Qm c g (s.aH b .dead) k->Qm c g s k:=by
 rintro k (h|⟨b',hl,hg⟩)
 ·exact .inl h
 ·rw[FS.a7]at hl;split at hl
  ·exact hl.elim
  ·exact .inr ⟨b',hl,hg⟩
theorem R.kill (hR:R c g s a w)  (hb:g b≠.un):R c g (s.aH b .dead) a w:=by
 have hW:=fun k (_:k<w.heap.size)=>Hz (c:=c) (g:=g) (s:=s) (b:=b) k;have hf:=Fr.refl w (Qm c g s);have hl:∀ b',((s.aH b .dead).H b').live->(s.H b').live:=fun b' h=>by
  rw[FS.a7]at h;split at h
  ·exact h.elim
  ·exact h
 refine ⟨hR.size,hR.ew,fun i=>(hR.t i).mono hf hW (fun _ _=>rfl),fun i=>(hR.gl i).mono hf hW (fun _ _=>rfl),fun b'=>?_,fun x y k hx hy=>hR.inj x y k (hl x hx) (hl y hy),fun x k hx=>hR.old x k (hl x hx),hR.fr,hR.xs,hR.jj⟩;rw[FS.a7];split
 ·rename_i e;subst e;exact .dead hb
 ·exact (hR.h b').mono hf hW (fun _ _=>rfl) fun _ _ _=>rfl
def R.setBlock (hR:R c g s a w){b k:Nat}{x:Bk}(hb:g b=.re k)(aO:(s.H b).live)(hx:x.live)(hf:Fr w w' (fun i=>i=k))(hn:BR g (Qm c g s) w' (.re k) x):R c g (s.aH b x) a w':=by
 have dG:∀ b',((s.aH b x).H b').live ↔ (s.H b').live:=fun b'=>by
  rw[FS.a7];split
  ·rename_i e;subst e;exact ⟨fun _=>aO,fun _=>hx⟩
  ·exact Iff.rfl
 have hW:Qm c g (s.aH b x)=Qm c g s:=by
  funext i;simp only[Qm,dG]
 have hk:Qm c g s k:=.inr ⟨b,aO,hb⟩;have nK:Fr w w' (Qm c g s):=hf.weak fun i e=>e ▸ hk;have hlt:k<w.heap.size:=BR.lt (hb ▸ hR.h b) aO;refine ⟨hR.size,hR.ew,fun i=>?_,fun i=>?_,fun b'=>?_,fun x y k hx hy=>hR.inj x y k ((dG x).1 hx) ((dG y).1 hy),fun x k hx=>hR.old x k ((dG x).1 hx),hR.fr.trans hf fun i hi e=>?_,hR.xs,hR.jj⟩
 ·rw[hW];exact (hR.t i).mono nK (fun _ _ h=>h) (fun _ _=>rfl)
 ·rw[hW];exact (hR.gl i).mono nK (fun _ _ h=>h) (fun _ _=>rfl)
 ·rw[hW,FS.a7];split
  ·rename_i e;subst e;rw[hb];exact hn
  ·rename_i e;refine (hR.h b').mono nK (fun _ _ h=>h) (fun _ _=>rfl) fun i hi hl=>hf.ig i ?_ fun ek=>?_
   ·exact BR.lt (hi ▸ hR.h b') hl
   ·exact e (hR.inj b b' k aO hl hb (ek ▸ hi))
 ·subst e;rcases hR.old b i aO hb with h|h
  ·omega
  ·exact h
def Zg (g:Nat->GM)(b:Nat)(m:GM):Nat->GM:=fun i=>if i=b then m else g i
def Bs {g:Nat->GM}  {m:GM}(hb:g b=.un):∀ i,g i≠.un->Zg g b m i=g i:=fun i h=>by
 unfold Zg;split
 ·rename_i e;subst e;exact (h hb).elim
 ·rfl
def HA (hR:R c g s a w)  {m:GM}(hb:g b=.un):∀ p ∈ c.gh,Zg g b m p.1=p.2/\p.2≠.un:=fun p hp=>by
 obtain ⟨h1,h2⟩:=hR.jj p hp;exact ⟨by rw[Bs hb p.1 (by rw[h1];exact h2),h1],h2⟩
def R.name (hR:R c g s a w){b k:Nat}{x:Bk}(bq:s.H b=.free)(hx:x.live)(cf:∀ b',(s.H b').live->g b'≠.re k)(hX:¬ c.X k)(hold:c.w0.heap.size<=k\/c.G k)
  (yy:∀ i,VR g (fun j=>Qm c g s j\/j=k) w (s.T i) (a.tmps.getD i undef)) (hng:∀ i,VR (fun _=>.un) (fun j=>Qm c g s j\/j=k) w (c.gl i) (.pointer (some ⟨i,0,none⟩))) (pV:∀ b',BR g (fun j=>Qm c g s j\/j=k) w (g b') (s.H b'))
  (hn:BR (Zg g b (.re k)) (fun j=>Qm c g s j\/j=k) w (.re k) x):R c (Zg g b (.re k)) (s.aH b x) a w:=by
 have kA:g b=.un:=by
  have:=hR.h b;rw[bq]at this;generalize g b=m at this;cases this;rfl
 have hg:=Bs (m:=.re k) kA;have cr:Zg g b (.re k) b=.re k:=by simp[Zg]
 have cb:∀ b',(s.H b').live->b'≠b:=fun b' h e=>by subst e;rw[bq]at h;exact h
 have eL:∀ b',b'≠b->Zg g b (.re k) b'=g b':=fun b' h=>by simp[Zg,h]
 have hl:∀ b',((s.aH b x).H b').live ↔ b'=b\/(s.H b').live:=fun b'=>by
  rw[FS.a7];split
  ·rename_i e;subst e;exact ⟨fun _=>.inl rfl,fun _=>hx⟩
  ·rename_i e;exact ⟨.inr,fun h=>h.resolve_left fun e'=>e e'.symm⟩
 have hW:Qm c (Zg g b (.re k)) (s.aH b x)=fun j=>Qm c g s j\/j=k:=by
  funext j;apply propext;constructor
  ·rintro (h|⟨b',h1,h2⟩)
   ·exact .inl (.inl h)
   ·rcases (hl b').1 h1 with rfl|h
    ·rw[cr]at h2;cases h2;exact .inr rfl
    ·rw[eL b' (cb b' h)]at h2;exact .inl (.inr ⟨b',h,h2⟩)
  ·rintro ((h|⟨b',h1,h2⟩)|rfl)
   ·exact .inl h
   ·exact .inr ⟨b',(hl b').2 (.inr h1),by rw[eL b' (cb b' h1)];exact h2⟩
   ·exact .inr ⟨b,(hl b).2 (.inl rfl),cr⟩
 have hf:=Fr.refl w (fun j=>Qm c g s j\/j=k);refine ⟨hR.size,hR.ew,fun i=>?_,fun i=>?_,fun b'=>?_,fun p q m hp hq h1 h2=>?_,fun p m hp h1=>?_,hR.fr,hR.xs,HA hR kA⟩
 ·rw[hW];exact (yy i).mono hf (fun _ _ h=>h) hg
 ·rw[hW];exact hng i
 ·rw[hW,FS.a7];split
  ·rename_i e;subst e;rw[cr];exact hn
  ·rename_i e;rw[eL b' fun e'=>e e'.symm];exact (pV b').mono hf (fun _ _ h=>h) hg fun _ _ _=>rfl
 ·rcases (hl p).1 hp with rfl|yz<;>rcases (hl q).1 hq with rfl|dd
  ·rfl
  ·rw[cr]at h1;cases h1;rw[eL q (cb q dd)]at h2;exact (cf q dd h2).elim
  ·rw[cr]at h2;cases h2;rw[eL p (cb p yz)]at h1;exact (cf p yz h1).elim
  ·rw[eL p (cb p yz)]at h1;rw[eL q (cb q dd)]at h2;exact hR.inj p q m yz dd h1 h2
 ·rcases (hl p).1 hp with rfl|yz
  ·rw[cr]at h1;cases h1;exact hold
  ·rw[eL p (cb p yz)]at h1;exact hR.old p m yz h1
def R.new (hR:R c g s a w)  {x:Bk}(o:Obj)(bq:s.H b=.free)(hx:x.live)(hn:∀ g',(∀ i,g i≠.un->g' i=g i)->BR g' (fun j=>Qm c g s j\/j=w.heap.size) (w.alloc o) (.re w.heap.size) x) :
  R c (Zg g b (.re w.heap.size)) (s.aH b x) a (w.alloc o):=by
 have kA:g b=.un:=by
  have:=hR.h b;rw[bq]at this;generalize g b=m at this;cases this;rfl
 have bc:=hR.grow (Fr.alloc w o _);have jk:∀ k,Qm c g s k->k<w.heap.size:=by
  rintro k (h|⟨b',hl,hg⟩)
  ·have:=(hR.xs k h).1;have:=hR.fr.size;omega
  ·exact BR.lt (hg ▸ hR.h b') hl
 have hw:∀ k,k<w.heap.size->(Qm c g s k\/k=w.heap.size)->Qm c g s k:=fun k hk h=>h.resolve_right af;refine bc.name (k:=w.heap.size) bq hx (fun b' hl e=>?_) (fun e=>?_) (.inl hR.fr.size) (fun i=>?_) (fun i=>?_) (fun b'=>?_) (hn _ (Bs kA))
 ·have:=BR.lt (e ▸ hR.h b') hl;omega
 ·have:=(hR.xs _ e).1;have:=hR.fr.size;omega
 ·exact (hR.t i).mono (Fr.alloc w o _) hw fun _ _=>rfl
 ·exact (hR.gl i).mono (Fr.alloc w o _) hw fun _ _=>rfl
 ·exact (hR.h b').mono (Fr.alloc w o _) hw (fun _ _=>rfl) fun k hk hl=>Below.heap_alloc w o k (BR.lt (hk ▸ hR.h b') hl)
def R.move (hR:R c g s a w){b b':Nat}(aO:(s.H b).live)(bq:s.H b'=.free):R c (Zg g b' (g b)) ((s.aH b .dead).aH b' (s.H b)) a w:=by
 have kA:g b'=.un:=by
  have:=hR.h b';rw[bq]at this;generalize g b'=m at this;cases this;rfl
 have cb:b'≠b:=fun e=>by subst e;rw[bq]at aO;exact aO
 have hg:=Bs (m:=g b) kA;have cr:Zg g b' (g b) b'=g b:=by simp[Zg]
 have eL:∀ i,i≠b'->Zg g b' (g b) i=g i:=fun i h=>by simp[Zg,h]
 have hH:∀ i,((s.aH b .dead).aH b' (s.H b)).H i=if b'=i then s.H b else if b=i then .dead else s.H i:=fun i=>by rw[FS.a7,FS.a7]
 have hl:∀ i,(((s.aH b .dead).aH b' (s.H b)).H i).live->(i=b'\/(i≠b/\i≠b'/\(s.H i).live)):=fun i h=>by
  rw[hH]at h;split at h
  ·rename_i e;exact .inl e.symm
  ·split at h
   ·exact h.elim
   ·rename_i e1 e2;exact .inr ⟨fun e=>e2 e.symm,fun e=>e1 e.symm,h⟩
 have hW:∀ k,Qm c (Zg g b' (g b)) ((s.aH b .dead).aH b' (s.H b)) k->Qm c g s k:=by
  rintro k (h|⟨i,h1,h2⟩)
  ·exact .inl h
  ·rcases hl i h1 with rfl|⟨h3,h4,h5⟩
   ·rw[cr]at h2;exact .inr ⟨b,aO,h2⟩
   ·rw[eL i h4]at h2;exact .inr ⟨i,h5,h2⟩
 have hf:=Fr.refl w (Qm c g s);refine ⟨hR.size,hR.ew,fun i=>(hR.t i).mono hf (fun k _=>hW k) hg,fun i=>(hR.gl i).mono hf (fun k _=>hW k) (fun _ _=>rfl),fun i=>?_,fun p q m hp hq h1 h2=>?_,fun p m hp h1=>?_,hR.fr,hR.xs,HA hR kA⟩
 ·rw[hH];split
  ·rename_i e;subst e;rw[cr];exact (hR.h b).mono hf (fun k _=>hW k) hg fun _ _ _=>rfl
  ·rename_i e1;rw[eL i fun e=>e1 e.symm];split
   ·rename_i e;subst e;refine .dead fun e=>?_;have:=hR.h b;rw[e]at this;exact this.gE aO
   ·exact (hR.h i).mono hf (fun k _=>hW k) hg fun _ _ _=>rfl
 ·rcases hl p hp with rfl|⟨h3,h4,h5⟩<;>rcases hl q hq with rfl|⟨h6,h7,h8⟩
  ·rfl
  ·rw[cr]at h1;rw[eL q h7]at h2;exact (h6 (hR.inj q b m h8 aO h2 h1)).elim
  ·rw[cr]at h2;rw[eL p h4]at h1;exact (h3 (hR.inj p b m h5 aO h1 h2)).elim
  ·rw[eL p h4]at h1;rw[eL q h7]at h2;exact hR.inj p q m h5 h8 h1 h2
 ·rcases hl p hp with rfl|⟨h3,h4,h5⟩
  ·rw[cr]at h1;exact hR.old b m aO h1
  ·rw[eL p h4]at h1;exact hR.old p m h5 h1
end
inductive SK where
 | int (k:IntKind)
 | bool
 | str
 | ref
inductive TY where
 | sc (k:SK)
 | ag (n:Nat)
def bC:AV->Int
 | .int _ n=>n
 | _=>0
def eU:AV->Bool
 | .bool b=>b
 | _=>false
def cT:AV->List UInt8
 | .str l=>l
 | _=>[]
def b9 (k:IntKind):AV->Prop
 | .int k' _=>k'=k
 | _=>False
def gj:AV->Prop
 | .int _ _=>True
 | _=>False
def fD:AV->Prop
 | .bool _=>True
 | _=>False
def fT:AV->Prop
 | .str _=>True
 | _=>False
def one:AV->Prop
 | .int _ _|.bool _|.str _|.ptr _ _|.xp _ _|.sl _ _ _ _ _|.isl _ _|.nils|.cl _ _|.mp _=>True
 | .lit v=>v.oneCell'=true
 | _=>False
def yA:SK->AV->AV
 | .int k,v=>.int k (bC v)
 | .bool,v=>.bool (eU v)
 | .str,v=>.str (cT v)
 | .ref,v=>v
def uK:SK->AV->Prop
 | .int k,v=>b9 k v
 | .bool,v=>fD v
 | .str,v=>fT v
 | .ref,_=>True
def wr:TY->List AV->Nat->AV
 | .sc k,cs,off=>yA k (cs.getD off .any)
 | .ag n,cs,off=>.agg ((cs.drop off).take n)
def kB:TY->List AV->Nat->Prop
 | .sc k,cs,off=>off<cs.length/\uK k (cs.getD off .any)
 | .ag n,cs,off=>off+n<=cs.length
def yB:BinOp->Int->Int->Int
 | .add,x,y=>x+y
 | .sub,x,y=>x-y
 | .mul,x,y=>x*y
 | _,_,_=>0
def tC:BinOp->Int->Int->Bool
 | .eql,x,y=>x==y
 | .neq,x,y=>x != y
 | .lss,x,y=>decide (x<y)
 | .leq,x,y=>decide (x<=y)
 | .gtr,x,y=>decide (y<x)
 | .geq,x,y=>decide (y<=x)
 | _,_,_=>false
def Bt:BinOp->IntKind->Int->Int->Int
 | .quo,k,x,y=>k.wrap (x.tdiv y)
 | .rem,_,x,y=>x.tmod y
 | _,_,_,_=>0
def Bu:BinOp->IntKind->Int->Int->Int
 | .shl,k,x,y=>k.wrap (x*2 ^ min y.toNat k.bits)
 | .shr,k,x,y=>x.fdiv (2 ^ min y.toNat k.bits)
 | _,_,_,_=>0
def toB (cs:List AV):List UInt8:=cs.map fun v=>UInt8.ofNat (bC v).toNat
inductive Q1 where
 | mv|not|pick|ar (o:BinOp) (k:IntKind)|dv (o:BinOp) (k:IntKind)|bt (o:BinOp) (k:IntKind)|sh (o:BinOp) (k:IntKind)|cm (o:BinOp) (k:IntKind)
 | cB (ne:Bool)|cS (ne:Bool)|cat|cv (k:IntKind)|yC (ty:TY) (off:Nat)|mZ (es len:Nat) (ty:TY)|yD|jl (off:Nat)|fh (len es:Nat)|fj (es:Nat)
 | ld (ty:TY)|nL|fU|nN|yE (lo hi:Bool)|oR (es:Nat) (lo hi:Bool)|ext (i:Nat)|fK|wK (zero:List AV) (parts:List (Nat×Nat))|yF (f:FuncId)|mn (k:IntKind)|mx (k:IntKind)
 | eV (ne:Bool)|nP
def Ke:AV->List AV
 | .agg cs=>cs
 | v=>[v]
def Yj (cs:List AV)(off:Nat)(vs:List AV):List AV:=cs.take off++vs++cs.drop (off+vs.length)
def uL:TY->List AV->Nat->AV->List AV
 | .sc _,cs,off,v=>cs.set off v
 | .ag _,cs,off,.agg vs=>Yj cs off vs
 | .ag _,cs,_,_=>cs
def Je (cs:List AV):List (Nat×Nat)->List AV->List AV
 | (off,_)::ps,.agg vs::r=>Je (Yj cs off vs) ps r
 | (off,_)::ps,v::r=>Je (cs.set off v) ps r
 | _,_=>cs
def Zb (n:Nat):List (Nat×Nat)->List AV->Prop
 | (off,m)::ps,.agg vs::r=>vs.length=m/\off+m<=n/\Zb n ps r
 | (off,m)::ps,v::r=>one v/\m=1/\off<n/\Zb n ps r
 | [],[]=>True
 | _,_=>False
def Xq (lo:Bool):List AV->Int
 | x::_=>bif lo then bC x else 0
 | []=>0
def Jf (lo hi:Bool)(n:Nat):List AV->Int
 | [_,y]=>bif lo&&hi then bC y else n
 | [x]=>bif hi then bC x else n
 | _=>n
def m6 (lo hi:Bool):List AV->Prop
 | [x,y]=>lo=true/\hi=true/\b9 .i64 x/\b9 .i64 y
 | [x]=>b9 .i64 x/\(lo != hi)=true
 | []=>lo=false/\hi=false
 | _=>False
def qv:Q1->List AV->Bk->AV
 | .mv,[x],_=>x
 | .not,[x],_=>.bool (!eU x)
 | .pick,[c,x,y],_=>.bool (bif eU c then eU x else eU y)
 | .ar o k,[x,y],_=>.int k (k.wrap (yB o (bC x) (bC y)))
 | .dv o k,[x,y],_=>.int k (Bt o k (bC x) (bC y))
 | .bt o k,[x,y],_=>.int k (bits o k (bC x) (bC y))
 | .sh o k,[x,y],_=>.int k (Bu o k (bC x) (bC y))
 | .cm o _,[x,y],_=>.bool (tC o (bC x) (bC y))
 | .cB ne,[x,y],_=>.bool (ne != (eU x==eU y))
 | .cS ne,[x,y],_=>.bool (ne != (cT x==cT y))
 | .cat,[x,y],_=>.str (cT x++cT y)
 | .cv k,[x],_=>.int k (k.wrap (bC x))
 | .yC ty off,[.agg cs],_=>wr ty cs off
 | .mZ es _ ty,[.agg cs,i],_=>wr ty cs ((bC i).toNat*es)
 | .yD,[x,i],_=>.int .u8 ((cT x).getD (bC i).toNat 0).toNat
 | .jl o,[.ptr b off],_=>.ptr b (off+o)
 | .jl o,[.xp cs off],_=>.xp cs (off+o)
 | .fh _ es,[.ptr b off,i],_=>.ptr b (off+(bC i).toNat*es)
 | .fh _ es,[.xp cs off,i],_=>.xp cs (off+(bC i).toNat*es)
 | .fj es,[.sl _ b off _ _,i],_=>.ptr b (off+(bC i).toNat*es)
 | .fj es,[.isl _ cs,i],_=>.xp cs ((bC i).toNat*es)
 | .ld ty,[.ptr _ off],.cells cs=>wr ty cs off
 | .ld ty,[.xp cs off],_=>wr ty cs off
 | .nL,[x],_=>.int .i64 (cT x).length
 | .fU,[.isl n _],_=>.int .i64 n
 | .fU,[.sl _ _ _ n _],_=>.int .i64 n
 | .fU,[.nils],_=>.int .i64 0
 | .nN,[.mp _],.az kvs _=>.int .i64 kvs.length
 | .yE lo hi,x::r,_=>.str (((cT x).drop (Xq lo r).toNat).take ((Jf lo hi (cT x).length r).toNat-(Xq lo r).toNat))
 | .oR es lo hi,.isl n cs::r,_=>.isl ((Jf lo hi n r).toNat-(Xq lo r).toNat) ((cs.drop ((Xq lo r).toNat*es)).take (((Jf lo hi n r).toNat-(Xq lo r).toNat)*es))
 | .oR es lo hi,.sl _ b off n c::r,_=>if Xq lo r<c then .sl es b (off+(Xq lo r).toNat*es) ((Jf lo hi n r).toNat-(Xq lo r).toNat) (c-(Xq lo r).toNat) else .isl 0 []
 | .ext i,[.aR vs],_=>vs.getD i .any
 | .fK,[x],_=>x
 | .wK z ps,vs,_=>.agg (Je z ps vs)
 | .yF f,vs,_=>.cl f vs
 | .mn k,[x,y],_=>.int k (if bC y<bC x then bC y else bC x)
 | .mx k,[x,y],_=>.int k (if bC y>bC x then bC y else bC x)
 | .eV ne,[.lit (.pointer none)],_=>.bool (!ne)
 | .eV ne,[.ptr _ _],_=>.bool ne
 | .eV ne,[.xp _ _],_=>.bool ne
 | .nP,[.sl _ _ off n _],.cells cs=>.str (toB ((cs.drop off).take n))
 | .nP,[.isl n cs],_=>.str (toB (cs.take n))
 | .nP,[.nils],_=>.str []
 | _,_,_=>.any
def qp:Q1->List AV->Bk->Prop
 | .mv,[_],_=>True
 | .not,[x],_=>fD x
 | .pick,[c,x,y],_=>fD c/\(eU c=true->fD x)/\(eU c=false->fD y)
 | .ar _ k,[x,y],_=>b9 k x/\b9 k y
 | .dv _ k,[x,y],_=>b9 k x/\b9 k y/\bC y≠0
 | .bt _ k,[x,y],_=>b9 k x/\b9 k y
 | .sh _ k,[x,y],_=>b9 k x/\gj y/\0<=bC y
 | .cm _ k,[x,y],_=>b9 k x/\b9 k y
 | .cB _,[x,y],_=>fD x/\fD y
 | .cS _,[x,y],_=>fT x/\fT y
 | .cat,[x,y],_=>fT x/\fT y/\(cT x).length+(cT y).length<=9223372036854775807
 | .cv _,[x],_=>gj x
 | .yC ty off,[.agg cs],_=>kB ty cs off
 | .mZ es len ty,[.agg cs,i],_=>gj i/\0<=bC i/\bC i<len/\kB ty cs ((bC i).toNat*es)
 | .yD,[x,i],_=>fT x/\gj i/\0<=bC i/\bC i<(cT x).length
 | .jl _,[.ptr _ _],_=>True
 | .jl _,[.xp _ _],_=>True
 | .fh len _,[.ptr _ _,i],_=>gj i/\0<=bC i/\bC i<len
 | .fh len _,[.xp _ _,i],_=>gj i/\0<=bC i/\bC i<len
 | .fj es,[.sl es' _ _ n _,i],_=>es'=es/\gj i/\0<=bC i/\bC i<n
 | .fj es,[.isl n cs,i],_=>gj i/\0<=bC i/\bC i<n/\(bC i).toNat*es<cs.length
 | .ld ty,[.ptr _ off],.cells cs=>kB ty cs off
 | .ld ty,[.xp cs off],_=>kB ty cs off
 | .nL,[x],_=>fT x
 | .fU,[.isl _ _],_=>True
 | .fU,[.sl _ _ _ _ _],_=>True
 | .fU,[.nils],_=>True
 | .nN,[.mp _],.az _ _=>True
 | .yE lo hi,x::r,_=>fT x/\m6 lo hi r/\0<=Xq lo r/\Xq lo r<=Jf lo hi (cT x).length r/\Jf lo hi (cT x).length r<=(cT x).length
 | .oR es lo hi,.isl n cs::r,_=>m6 lo hi r/\0<=Xq lo r/\Xq lo r<=Jf lo hi n r/\Jf lo hi n r<=n/\cs.length<=n*es
 | .oR es lo hi,.sl es' _ _ n c::r,_=>es'=es/\m6 lo hi r/\0<=Xq lo r/\Xq lo r<=Jf lo hi n r/\Jf lo hi n r<=c
 | .ext i,[.aR vs],_=>i<vs.length
 | .fK,[.ptr _ _],_=>True
 | .fK,[.xp _ _],_=>True
 | .wK z ps,vs,_=>Zb z.length ps vs
 | .yF _,_,_=>True
 | .mn k,[x,y],_=>b9 k x/\b9 k y
 | .mx k,[x,y],_=>b9 k x/\b9 k y
 | .eV _,[.lit (.pointer none)],_=>True
 | .eV _,[.ptr _ _],_=>True
 | .eV _,[.xp _ _],_=>True
 | .nP,[.sl es _ off n _],.cells cs=>es=1/\off+n<=cs.length/\∀ v ∈ (cs.drop off).take n,b9 .u8 v
 | .nP,[.isl n cs],_=>n<=cs.length/\∀ v ∈ cs.take n,b9 .u8 v
 | .nP,[.nils],_=>True
 | _,_,_=>False
inductive TV where
 | t (i:Nat)
 | c (v:AV)
 | gl (i:Nat)
def fE:Value->AV
 | .int k n=>.int k n
 | .bool b=>.bool b
 | .string s=>.str s.data.toList
 | .slice none 0 0=>.nils
 | v=>.lit v
def uM:Value->AV
 | .agg cs=>if cs.all (·.oneCell') then .agg (cs.toList.map fE) else .lit (.agg cs)
 | v=>fE v
def aP:Operand->TV
 | .tmp t=>.t t
 | .const v=>.c (uM v)
 | .global i=>.gl i
 | .func f=>.c (.cl f [])
def aU (gl:Nat->AV)(s:FS):TV->AV
 | .t i=>s.T i
 | .c v=>v
 | .gl i=>gl i
def Mo (P:Program)(t:TypeId):Option SK :=
 match P.underlying t with
 | some (.int k)=>some (.int k)
 | some .bool=>some .bool
 | some .string=>some .str
 | some (.pointer _)|some (.slice _)|some (.map _ _)|some (.func _ _ _)=>some .ref
 | _=>none
def Zr (P:Program)(t:TypeId):Option Nat:=(P.info? t).map (·.size)
def lV (P:Program)(t:TypeId):Option TY :=
 match P.underlying t with
 | some (.struct _)|some (.array _ _)=>(Zr P t).map .ag
 | _=>if Zr P t=some 1 then (Mo P t).map .sc else none
def Bv (P:Program)(fs:Array Field):List Nat->Option (List (Nat×Nat))
 | []=>some []
 | i::r=>match fs[i]? with
  | some f=>match Zr P f.type,Bv P fs r with
   | some m,some l=>some ((f.offset,m)::l)
   | _,_=>none
  | none=>none
def Mq (op:BinOp)(k:IntKind):Q1:=match op with
 | .add|.sub|.mul=>.ar op k
 | .quo|.rem=>.dv op k
 | .and|.or|.xor|.andNot=>.bt op k
 | .shl|.shr=>.sh op k
 | _=>.cm op k
def Mr (op:BinOp):Option Q1:=match op with
 | .eql=>some (.cB false)
 | .neq=>some (.cB true)
 | _=>none
def Ms (op:BinOp):Option Q1:=match op with
 | .add=>some .cat
 | .eql=>some (.cS false)
 | .neq=>some (.cS true)
 | _=>none
def jS (op:BinOp)(y:Operand):Option Bool:=match y with
 | .const (.pointer none)=>(match op with
  | .eql=>some false
  | .neq=>some true
  | _=>none)
 | _=>none
def HC (P:Program)(op:BinOp)(t:TypeId)(x y:Operand):Option (Q1×List Operand) :=
 match P.underlying t with
 | some (.int k)=>some (Mq op k,[x,y])
 | some .bool=>(Mr op).map fun q=>(q,[x,y])
 | some .string=>(Ms op).map fun q=>(q,[x,y])
 | some (.pointer _)=>(jS op y).map fun b=>(.eV b,[x])
 | _=>none
def uN (P:Program)(o:Oper):Option (Q1×List Operand) :=
 match o.op with
 | .move x=>some (.mv,[x])
 | .assign x=>some (.mv,[x])
 | .pick c a b=>some (.pick,[c,a,b])
 | .unOp .not _ x=>some (.not,[x])
 | .binOp op t x y _=>HC P op t x y
 | .convert s d x=>match P.underlying s,P.underlying d with
  | some (.int _),some (.int k)=>some (.cv k,[x])
  | some (.slice e),some .string=>match P.underlying e with
   | some (.int .u8)=>some (.nP,[x])
   | _=>none
  | _,_=>none
 | .field t x f=>match P.underlying t with
  | some (.struct fs)=>match fs[f]? with
   | some fd=>(lV P fd.type).map fun ty=>(.yC ty fd.offset,[x])
   | none=>none
  | _=>none
 | .index t x i=>match P.underlying t with
  | some (.array n e)=>match lV P e,Zr P e with
   | some ty,some es=>some (.mZ es n ty,[x,i])
   | _,_=>none
  | some .string=>some (.yD,[x,i])
  | _=>none
 | .fieldAddr t x f=>match P.underlying t with
  | some (.struct fs)=>match fs[f]? with
   | some fd=>match Zr P fd.type with
    | some (_+1)=>some (.jl fd.offset,[x])
    | _=>none
   | none=>none
  | _=>none
 | .indexAddr t x i=>match P.underlying t with
  | some (.array n e)=>(Zr P e).map fun es=>(.fh n es,[x,i])
  | some (.slice e)=>(Zr P e).map fun es=>(.fj es,[x,i])
  | _=>none
 | .load t x=>(lV P t).map fun ty=>(.ld ty,[x])
 | .call ⟨.builtin .len,⟨[x]⟩,⟨[t]⟩⟩=>match P.underlying t with
  | some .string=>some (.nL,[x])
  | some (.slice _)=>some (.fU,[x])
  | some (.map _ _)=>some (.nN,[x])
  | _=>none
 | .call ⟨.builtin .min,⟨[x,y]⟩,_⟩=>match P.underlying o.type with
  | some (.int k)=>some (.mn k,[x,y])
  | _=>none
 | .call ⟨.builtin .max,⟨[x,y]⟩,_⟩=>match P.underlying o.type with
  | some (.int k)=>some (.mx k,[x,y])
  | _=>none
 | .slice t x lo hi none=>match P.underlying t with
  | some .string=>some (.yE lo.isSome hi.isSome,x::(lo.toList++hi.toList))
  | some (.slice e)=>(Zr P e).map fun es=>(.oR es lo.isSome hi.isSome,x::(lo.toList++hi.toList))
  | _=>none
 | .extract x i=>some (.ext i,[x])
 | .nilCheck x=>some (.fK,[x])
 | .build t parts=>match (P.info? t).bind (·.zero),P.underlying t with
  | some (.agg z),some (.struct fs)=>if z.all (·.oneCell')&&fs.all (fun f=>(Zr P f.type).isSome) then (Bv P fs (parts.toList.map (·.1))).map fun ps=>(.wK (z.toList.map fE) ps,parts.toList.map (·.2)) else none
  | some (.agg z),some (.array _ e)=>if z.all (·.oneCell') then (Zr P e).map fun m=>(.wK (z.toList.map fE) (parts.toList.map fun p=>(p.1*m,m)),parts.toList.map (·.2)) else none
  | _,_=>none
 | .makeFunc (.func f) ⟨[]⟩ caps=>some (.yF f,caps.toList)
 | _=>none
section
variable {P:Program}{g:Nat->GM}{W:Nat->Prop}{w:World}
def VR.dl {k:IntKind}   (h:VR g W w x v)(hk:b9 k x):v=.int k (bC x):=by
 cases h<;>simp_all [b9,bC]
def VR.d8 (h:VR g W w x v)(hk:gj x):∃ k,v=.int k (bC x):=by
 cases h<;>simp_all [gj,bC]
def VR.d6 (h:VR g W w x v)(hk:fD x):v=.bool (eU x):=by
 cases h<;>simp_all [fD,eU]
def VR.d7 (h:VR g W w x v)(hk:fT x):v=.string ⟨(cT x).toArray⟩:=by
 cases h<;>simp_all [fT,cT]
def VR.one (h:VR g W w x v)(hk:one x):v.oneCell'=true:=by
 cases h<;>simp_all [Proofs.YtogckmommodmhaaGreatDoor.one,Value.oneCell']
def VR.uK {k:SK}   (h:VR g W w x v)(hk:uK k x):VR g W w (yA k x) v:=by
 cases k with
 | int k=>rw[h.dl hk];exact .int _ _
 | bool=>rw[h.d6 hk];exact .bool _
 | str=>rw[h.d7 hk];exact .str _
 | ref=>exact h
def HD (v:Value):VR g W w (fE v) v:=by
 unfold fE;split
 ·exact .int _ _
 ·exact .bool _
 ·rename_i s;have:Value.string s=.string ⟨s.data.toList.toArray⟩:=by cases s;simp
  rw[this];exact .str _
 ·exact .nils _
 ·exact .lit _
def Bw (v:Value):VR g W w (uM v) v:=by
 unfold uM;split
 ·rename_i cs;split
  ·rename_i h;refine .agg aw (fun j hj=>?_) fun j hj=>?_
   ·have c4:j < cs.size:=by simpa using hj
    have:=(Array.all_eq_true.1 h) j c4;simpa [Array.getD,c4] using this
   ·have c4:j < cs.size:=by simpa using hj
    have e:cs.getD j undef=cs[j]:=by simp[Array.getD,c4]
    have e':(cs.toList.map fE).getD j .any=fE cs[j]:=by simp[c4]
    rw[e,e'];exact HD _
  ·exact .lit _
 ·exact HD _
def R.ev {c:Cx}   (hR:R c g s a w)(x:Operand):VR g (Qm c g s) w (aU c.gl s (aP x)) (a.eval x):=by
 cases x with
 | tmp t=>exact hR.t t
 | const v=>exact Bw v
 | global i=>exact (hR.gl i).mono (Fr.refl _ _) (fun _ _ h=>h) (fun _ h=>absurd rfl h)
 | func f=>exact .cl rfl (fun j hj=>absurd hj aw)
end
def bR (g:Nat->GM)(W:Nat->Prop)(w:World):List AV->List Value->Prop
 | [],[]=>True
 | x::xs,v::vs=>VR g W w x v/\bR g W w xs vs
 | _,_=>False
def Jw:List AV->Option Nat
 | .ptr b _::_=>some b
 | .sl _ b _ _ _::_=>some b
 | .mp b::_=>some b
 | _=>none
def nQ (s:FS)(l:List AV):Bk :=
 match Jw l with
 | some b=>s.H b
 | none=>.free
def Dw (g:Nat->GM)(W:Nat->Prop)(w:World)(l:List AV)(x:Bk):Prop:=∀ b,Jw l=some b->BR g W w (g b) x
section
variable {P:Program}{g:Nat->GM}{W:Nat->Prop}{w:World}
def bR.oS (h:bR g W w [] vs):vs=[]:=by cases vs<;>simp_all [bR]
def bR.cons_inv (h:bR g W w (x::xs) vs):∃ v r,vs=v::r/\VR g W w x v/\bR g W w xs r:=by
 cases vs with
 | nil=>simp[bR]at h
 | cons v r=>exact ⟨v,r,rfl,h.1,h.2⟩
def bR.lW (h:bR g W w xs []):xs=[]:=by cases xs<;>simp_all [bR]
def bR.dL {r:List Value}(h:bR g W w xs (v::r)):∃ x ys,xs=x::ys/\VR g W w x v/\bR g W w ys r:=by
 cases xs with
 | nil=>simp[bR]at h
 | cons x ys=>exact ⟨x,ys,rfl,h.1,h.2⟩
def bR.one (h:bR g W w xs [v]):∃ x,xs=[x]/\VR g W w x v:=by
 obtain ⟨x,ys,rfl,h1,h2⟩:=h.dL;obtain rfl:=h2.lW;exact ⟨x,rfl,h1⟩
def bR.two {v u:Value}(h:bR g W w xs [v,u]):∃ x y,xs=[x,y]/\VR g W w x v/\VR g W w y u:=by
 obtain ⟨x,ys,rfl,h1,h2⟩:=h.dL;obtain ⟨y,rfl,h3⟩:=h2.one;exact ⟨x,y,rfl,h1,h3⟩
def bR.three {v u t:Value}(h:bR g W w xs [v,u,t]):∃ x y z,xs=[x,y,z]/\VR g W w x v/\VR g W w y u/\VR g W w z t:=by
 obtain ⟨x,ys,rfl,h1,h2⟩:=h.dL;obtain ⟨y,z,rfl,h3⟩:=h2.two;exact ⟨x,y,z,rfl,h1,h3⟩
def bR.length:∀ {xs:List AV} {vs:List Value},bR g W w xs vs->xs.length=vs.length
 | [],[],_=>rfl
 | _::xs,_::vs,h=>by simp[bR.length h.2]
 | [],_::_,h=>h.elim
 | _::_,[],h=>h.elim
def bR.get:∀ {xs:List AV} {vs:List Value} (_:bR g W w xs vs) (j:Nat) (_:j<xs.length),VR g W w (xs.getD j .any) (vs.getD j undef)
 | x::xs,v::vs,h,0,_=>h.1
 | x::xs,v::vs,h,j+1,hj=>by
  have:=bR.get h.2 j (by simpa using hj);simpa using this
 | [],_,_,_,hj=>absurd hj aw
 | _::_,[],h,_,_=>h.elim
def HE {j:Nat}(h:j<cs.length):cs.getD j .any=cs[j]:=by simp[List.getD,h]
def TP {k:SK}   (hv:∀ j,j<cs.length->VR g W w (cs.getD j .any) (us j)){off:Nat}(h:kB (.sc k) cs off):VR g W w (wr (.sc k) cs off) (us off):=by
 exact (hv off h.1).uK h.2
def TQ (h1:∀ j,j<cs.length->(us j).oneCell'=true)(hv:∀ j,j<cs.length->VR g W w (cs.getD j .any) (us j)){off:Nat}(h:kB (.ag n) cs off)(vs:Array Value)(hn:vs.size=n)(eP:∀ j,j<n->vs.getD j undef=us (off+j)):VR g W w (wr (.ag n) cs off) (.agg vs):=by
 have hl:((cs.drop off).take n).length=n:=by simp only[kB]at h;simp;omega
 have h':off+n<=cs.length:=h;refine .agg (by rw[hl,hn]) (fun j hj=>?_) fun j hj=>?_
 ·rw[hl]at hj;rw[eP j hj];exact h1 _ af
 ·rw[hl]at hj;rw[eP j hj];have e:((cs.drop off).take n).getD j .any=cs.getD (off+j) .any:=by
   simp only[List.getD,getElem?_take,getElem?_drop,am hj]
  rw[e];exact hv _ af
def add_lit (k o j:Nat):(⟨k,o,none⟩:Addr).add j=⟨k,o+j,none⟩:=by unfold Addr.add;split<;>simp_all
def HF (h:lV P t=some (.ag n)):Zr P t=some n/\((∃ fs,P.underlying t=some (.struct fs))\/∃ m e,P.underlying t=some (.array m e)):=by
 unfold lV at h;split at h
 ·rename_i fs hu;cases hs:Zr P t<;>rw[hs]at h<;>simp at h
  exact ⟨by rw[h],.inl ⟨_,hu⟩⟩
 ·rename_i m e hu;cases hs:Zr P t<;>rw[hs]at h<;>simp at h
  exact ⟨by rw[h],.inr ⟨_,_,hu⟩⟩
 ·split at h
  ·cases hs:Mo P t<;>rw[hs]at h<;>simp at h
  ·cases h
def TR {k:SK}(h:lV P t=some (.sc k)):Zr P t=some 1/\∃ d,P.underlying t=some d/\(∀ fs,d≠.struct fs)/\(∀ m e,d≠.array m e):=by
 unfold lV at h;split at h
 ·cases hs:Zr P t<;>rw[hs]at h<;>simp at h
 ·cases hs:Zr P t<;>rw[hs]at h<;>simp at h
 ·rename_i h1 h2;split at h
  ·rename_i h3;refine ⟨h3,?_⟩;cases hu:P.underlying t with
   | none=>unfold Mo at h;rw[hu]at h;simp at h
   | some d=>exact ⟨d,rfl,fun fs e=>h1 fs (by rw[hu,e]),fun m e e'=>h2 m e (by rw[hu,e'])⟩
  ·cases h
def TU (h:lV P t=some (.ag n)):(isAgg t).run P w=.ok true w:=by
 obtain ⟨_,⟨fs,hu⟩|⟨m,e,hu⟩⟩:=HF h<;>simp[isAgg,run_underlying hu]
def TW {k:SK}(h:lV P t=some (.sc k)):(isAgg t).run P w=.ok false w:=by
 obtain ⟨_,d,hu,h1,h2⟩:=TR h;simp only[isAgg,Sem.run_bind,run_underlying hu,Result.andThen_ok];cases d<;>first|rfl|exact absurd rfl (h1 _)|exact absurd rfl (h2 _ _)
def Jz (h:Zr P t=some n):(sizeOf t).run P w=.ok n w:=by
 unfold Zr at h;cases hi:P.info? t with
 | none=>rw[hi]at h;simp at h
 | some i=>rw[hi]at h;simp at h;simp[sizeOf,typeInfo,hi,h]
def Dx {t:TypeId}{ty:TY}(ht:lV P t=some ty){k o:Nat}{cs:List AV}{us:Nat->Value}(hc:∀ j,j<cs.length->Uv w k (o+j)=some (us j))(h1:∀ j,j<cs.length->(us j).oneCell'=true)
  (hv:∀ j,j<cs.length->VR g W w (cs.getD j .any) (us j)) {off:Nat} (h:kB ty cs off) :
  ∃ v,(Instr.loadAt t (.pointer (some ⟨k,o+off,none⟩))).run P w=.ok v w/\VR g W w (wr ty cs off) v:=by
 cases ty with
 | sc q =>
  refine ⟨us off,?_,TP hv h⟩;have h0:w.cell? ⟨k,o+off,none⟩=some (us off):=hc off h.1;simp[Instr.loadAt,Instr.sureAddr,loadVar,TW ht,h0]
 | ag n =>
  obtain ⟨hs,_⟩:=HF ht;have h':off+n<=cs.length:=h;refine ⟨.agg ((List.range n).map fun j=>us (off+j)).toArray,?_,TQ h1 hv h _ aw fun j hj=>by simp[Array.getD,hj]⟩;have hl:=run_loadCells (P:=P) w ⟨k,o+off,none⟩ n (fun j=>us (off+j)) (fun j hj=>by rw[add_lit,Nat.add_assoc];exact hc _ af);simp[Instr.loadAt,Instr.sureAddr,loadVar,TU ht,Jz hs,hl]
def TX {t:TypeId}{ty:TY}(ht:lV P t=some ty){vs:Array Value}{cs:List AV}(hs:vs.size=cs.length)(h1:∀ j,j<cs.length->(vs.getD j undef).oneCell'=true)
  (hv:∀ j,j<cs.length->VR g W w (cs.getD j .any) (vs.getD j undef)) {off:Nat} (h:kB ty cs off):∃ v,(part t vs off).run P w=.ok v w/\VR g W w (wr ty cs off) v:=by
 cases ty with
 | sc q =>
  refine ⟨vs.getD off undef,?_,TP hv h⟩;have h0:off<vs.size:=by rw[hs];exact h.1
  simp[part,TW ht,h0,Array.getD]
 | ag m =>
  obtain ⟨rH,_⟩:=HF ht;have h':off+m<=cs.length:=h;refine ⟨.agg (vs.extract off (off+m)),?_,TQ h1 hv h _ (by simp;omega) fun j hj=>?_⟩
  ·simp[part,TU ht,Jz rH]
  ·have:off + j < vs.size:=by omega
   simp only[Array.getD,Array.size_extract,this,dif_pos];rw[dif_pos af];simp
def Mt {m:GM}  (h:BR g W w m (.cells cs))(cb:0<cs.length):∃ (k:Nat) (us:Nat->Value),m=.re k/\(∀ j,j<cs.length->Uv w k (0+j)=some (us j))/\(∀ j,j<cs.length->(us j).oneCell'=true)/\∀ j,j<cs.length->VR g W w (cs.getD j .any) (us j):=by
 cases h with
 | ph=>simp at cb
 | cells hb hl h1 hv hf =>
  rename_i k cur e fz;refine ⟨k,fun j=>cur.getD j undef,rfl,fun j hj=>?_,h1,hv⟩;have c4:j<cur.size:=by omega
  have:=cell_of_row w k (0+j) cur e fz hb;unfold Uv;rw[this];simp[Array.getD,c4]
def TZ {ty:TY}  {off:Nat}(h:kB ty cs off)(cb:¬ 0<cs.length):ty=.ag 0/\cs=[]/\off=0:=by
 have hl:cs.length=0:=by omega
 cases ty with
 | sc k=>have:=h.1;omega
 | ag n=>have h':off+n<=cs.length:=h;exact ⟨by congr;omega,List.eq_nil_of_length_eq_zero hl,by omega⟩
end
section
variable {P:Program}{g:Nat->GM}{W:Nat->Prop}{w:World}
def HH {x y:Operand}{a b:Value}(h:a.oneCell'=true)(h2:a≠.nilIface):(eqGuard op t x y a b).run P w=.ok () w:=by
 cases op<;>cases a<;>simp_all [eqGuard,Value.oneCell']<;>rfl
def Kq {x y:Operand}(k:IntKind)(n:Int)(b:Value):(eqGuard op t x y (.int k n) b).run P w=.ok () w:=HH rfl (by simp)
def T4 {x y:Operand}(n:Bool)(b:Value):(eqGuard op t x y (.bool n) b).run P w=.ok () w:=HH rfl (by simp)
def Mu {x y:Operand}(n:ByteArray)(b:Value):(eqGuard op t x y (.string n) b).run P w=.ok () w:=HH rfl (by simp)
def T5 {x y:Operand}(n:Option Addr)(b:Value):(eqGuard op t x y (.pointer n) b).run P w=.ok () w:=HH rfl (by simp)
def Mv (h:op=.add\/op=.sub\/op=.mul)(t:TypeId)(k:IntKind)(m n:Int):binOp op t (.int k m) (.int k n)=pure (.int k (k.wrap (yB op m n))):=by
 rcases h with rfl|rfl|rfl<;>simp[binOp,Op.intArith,yB]
def T6 (h:op=.quo\/op=.rem)(t:TypeId)(k:IntKind)(m n:Int)(h0:n≠0):binOp op t (.int k m) (.int k n)=pure (.int k (Bt op k m n)):=by
 rcases h with rfl|rfl<;>simp[binOp,Op.intDiv,Bt,h0]
def HI (h:op=.and\/op=.or\/op=.xor\/op=.andNot)(t:TypeId)(k:IntKind)(m n:Int):binOp op t (.int k m) (.int k n)=pure (.int k (bits op k m n)):=by
 rcases h with rfl|rfl|rfl|rfl<;>simp[binOp,Op.intBits,bits]
def T7 (h:op=.shl\/op=.shr)(t:TypeId)(k j:IntKind)(m n:Int)(h0:0<=n):binOp op t (.int k m) (.int j n)=pure (.int k (Bu op k m n)):=by
 have h1:¬ n<0:=by omega
 rcases h with rfl|rfl<;>simp[binOp,Op.shift,Bu,h1]
def Yhe (h:op=.eql\/op=.neq\/op=.lss\/op=.leq\/op=.gtr\/op=.geq)(t:TypeId)(k:IntKind)(m n:Int):binOp op t (.int k m) (.int k n)=pure (.bool (tC op m n)):=by
 rcases h with rfl|rfl|rfl|rfl|rfl|rfl<;>simp[binOp,Op.intCmp,tC]
def Yb7 (hu:P.underlying t=some (.pointer e))(p:Option Addr):(binOp .eql t (.pointer p) (.pointer none)).run P w=.ok (.bool p.isNone) w:=by
 rw[run_eql_pointer_nil w t p (by rw[hu];simp[Program.pointee,hu])]
def Ydn (hu:P.underlying t=some (.pointer e))(p:Option Addr):(binOp .neq t (.pointer p) (.pointer none)).run P w=.ok (.bool (!p.isNone)) w:=by
 rw[run_neq_pointer_nil w t p (by rw[hu];simp[Program.pointee,hu])]
def T8:(⟨l.toArray⟩:ByteArray).toList=l:=by rw[Lib.toList_data]
def Xqf (l m:List UInt8):(⟨l.toArray⟩:ByteArray)++⟨m.toArray⟩=⟨(l++m).toArray⟩:=by
 apply ByteArray.ext;simp[ByteArray.data_append]
def HJ:(⟨l.toArray⟩:ByteArray).size=l.length:=by simp[ByteArray.size]
def Xqh {op:BinOp}{t:TypeId}{x y:Operand}{q:Q1}{xs:List Operand}(aD:HC P op t x y=some (q,xs))(ρ:Operand->Value){fV:List AV}(ha:bR g W w fV (xs.map ρ)){oT:Bk}
  (hp:qp q fV oT) (hy:∀ v,y=.const v->ρ y=v):∃ v,(do eqGuard op t x y (ρ x) (ρ y);binOp op t (ρ x) (ρ y):Sem Value).run P w=.ok v w/\VR g W w (qv q fV oT) v:=by
 unfold HC at aD;split at aD
 ·rename_i k hu;have two:∀ q',some (q',[x,y])=some (q,xs)->∃ a b,fV=[a,b]/\q=q'/\VR g W w a (ρ x)/\VR g W w b (ρ y):=by
   intro q' h;simp at h;obtain ⟨rfl,rfl⟩:=h;obtain ⟨a,b,rfl,h1,h2⟩:=bR.two (by simpa using ha);exact ⟨a,b,rfl,rfl,h1,h2⟩
  unfold Mq at aD;split at aD
  all_goals
   obtain ⟨a,b,rfl,rfl,h1,h2⟩:=two _ aD;simp only[qp]at hp
  ·rw[h1.dl hp.1,h2.dl hp.2];exact ⟨_,by simp only[Sem.run_bind,Kq,Result.andThen_ok,Mv (.inl rfl)];rfl,.int _ _⟩
  ·rw[h1.dl hp.1,h2.dl hp.2];exact ⟨_,by simp only[Sem.run_bind,Kq,Result.andThen_ok,Mv (.inr (.inl rfl))];rfl,.int _ _⟩
  ·rw[h1.dl hp.1,h2.dl hp.2];exact ⟨_,by simp only[Sem.run_bind,Kq,Result.andThen_ok,Mv (.inr (.inr rfl))];rfl,.int _ _⟩
  ·rw[h1.dl hp.1,h2.dl hp.2.1];exact ⟨_,by simp only[Sem.run_bind,Kq,Result.andThen_ok,T6 (.inl rfl) _ _ _ _ hp.2.2];rfl,.int _ _⟩
  ·rw[h1.dl hp.1,h2.dl hp.2.1];exact ⟨_,by simp only[Sem.run_bind,Kq,Result.andThen_ok,T6 (.inr rfl) _ _ _ _ hp.2.2];rfl,.int _ _⟩
  ·rw[h1.dl hp.1,h2.dl hp.2];exact ⟨_,by simp only[Sem.run_bind,Kq,Result.andThen_ok,HI (.inl rfl)];rfl,.int _ _⟩
  ·rw[h1.dl hp.1,h2.dl hp.2];exact ⟨_,by simp only[Sem.run_bind,Kq,Result.andThen_ok,HI (.inr (.inl rfl))];rfl,.int _ _⟩
  ·rw[h1.dl hp.1,h2.dl hp.2];exact ⟨_,by simp only[Sem.run_bind,Kq,Result.andThen_ok,HI (.inr (.inr (.inl rfl)))];rfl,.int _ _⟩
  ·rw[h1.dl hp.1,h2.dl hp.2];exact ⟨_,by simp only[Sem.run_bind,Kq,Result.andThen_ok,HI (.inr (.inr (.inr rfl)))];rfl,.int _ _⟩
  ·obtain ⟨j,hj⟩:=h2.d8 hp.2.1;rw[h1.dl hp.1,hj];exact ⟨_,by simp only[Sem.run_bind,Kq,Result.andThen_ok,T7 (.inl rfl) _ _ _ _ _ hp.2.2];rfl,.int _ _⟩
  ·obtain ⟨j,hj⟩:=h2.d8 hp.2.1;rw[h1.dl hp.1,hj];exact ⟨_,by simp only[Sem.run_bind,Kq,Result.andThen_ok,T7 (.inr rfl) _ _ _ _ _ hp.2.2];rfl,.int _ _⟩
  ·rw[h1.dl hp.1,h2.dl hp.2];have hop:op=.eql∨op=.neq∨op=.lss∨op=.leq∨op=.gtr∨op=.geq:=by cases op<;>simp_all
   exact ⟨_,by simp only[Sem.run_bind,Kq,Result.andThen_ok,Yhe hop];rfl,.bool _⟩
 ·rename_i hu;unfold Mr at aD;split at aD
  ·simp at aD;obtain ⟨rfl,rfl⟩:=aD;obtain ⟨a,b,rfl,h1,h2⟩:=bR.two (by simpa using ha);rw[h1.d6 hp.1,h2.d6 hp.2];exact ⟨.bool (eU a==eU b),by simp only[Sem.run_bind,T4,Result.andThen_ok,run_eql_bool _ _ _ _ hu],by simp only[qv,Bool.false_bne];exact .bool _⟩
  ·simp at aD;obtain ⟨rfl,rfl⟩:=aD;obtain ⟨a,b,rfl,h1,h2⟩:=bR.two (by simpa using ha);rw[h1.d6 hp.1,h2.d6 hp.2];exact ⟨.bool (!(eU a==eU b)),by simp only[Sem.run_bind,T4,Result.andThen_ok,run_neq_bool _ _ _ _ hu],by simp only[qv,Bool.true_bne];exact .bool _⟩
  ·simp at aD
 ·rename_i hu;unfold Ms at aD;split at aD
  ·simp at aD;obtain ⟨rfl,rfl⟩:=aD;obtain ⟨a,b,rfl,h1,h2⟩:=bR.two (by simpa using ha);rw[h1.d7 hp.1,h2.d7 hp.2.1];have hlen:=hp.2.2;refine ⟨.string ⟨(cT a++cT b).toArray⟩,?_,.str _⟩;simp only[Sem.run_bind,Mu,Result.andThen_ok,binOp_string_add,Op.stringOp,HJ,Xqf];rw[aa (by simp[IntKind.max,IntKind.signed,IntKind.bits];omega)];rfl
  ·simp at aD;obtain ⟨rfl,rfl⟩:=aD;obtain ⟨a,b,rfl,h1,h2⟩:=bR.two (by simpa using ha);rw[h1.d7 hp.1,h2.d7 hp.2];exact ⟨.bool (cT a==cT b),by simp only[Sem.run_bind,Mu,Result.andThen_ok,binOp_string_eql,T8,Sem.run_pure],by simp only[qv,Bool.false_bne];exact .bool _⟩
  ·simp at aD;obtain ⟨rfl,rfl⟩:=aD;obtain ⟨a,b,rfl,h1,h2⟩:=bR.two (by simpa using ha);rw[h1.d7 hp.1,h2.d7 hp.2];exact ⟨.bool (!(cT a==cT b)),by simp only[Sem.run_bind,Mu,Result.andThen_ok,binOp_string_neq,T8,Sem.run_pure],by simp only[qv,Bool.true_bne];exact .bool _⟩
  ·simp at aD
 ·rename_i e hu;have ptr:∀ {a:AV},VR g W w a (ρ x)->(qp (.eV false) [a] oT\/qp (.eV true) [a] oT)->∃ p:Option Addr,ρ x=.pointer p/\∀ ne,qv (.eV ne) [a] oT=.bool (if p.isNone then !ne else ne):=by
   intro a h1 hq;generalize ρ x=rx at h1;cases h1 with
   | ptr=>exact ⟨_,rfl,fun ne=>by simp[qv]⟩
   | xp=>exact ⟨_,rfl,fun ne=>by simp[qv]⟩
   | lit =>
    cases rx<;>simp only[qp,or_self]at hq
    rename_i p;cases p<;>simp only[qp,or_self]at hq
    exact ⟨_,rfl,fun ne=>by simp[qv]⟩
   | _=>simp[qp]at hq
  unfold jS at aD;split at aD;rotate_left
  ·simp at aD
  split at aD
  ·simp at aD;obtain ⟨rfl,rfl⟩:=aD;obtain ⟨a,rfl,h1⟩:=bR.one (by simpa using ha);obtain ⟨p,e1,e2⟩:=ptr h1 (.inl hp);refine ⟨.bool p.isNone,?_,by rw[e2];cases p<;>exact .bool _⟩;rw[hy _ rfl,e1];simp only[Sem.run_bind,T5,Result.andThen_ok,Yb7 hu]
  ·simp at aD;obtain ⟨rfl,rfl⟩:=aD;obtain ⟨a,rfl,h1⟩:=bR.one (by simpa using ha);obtain ⟨p,e1,e2⟩:=ptr h1 (.inr hp);refine ⟨.bool (!p.isNone),?_,by rw[e2];cases p<;>exact .bool _⟩;rw[hy _ rfl,e1];simp only[Sem.run_bind,T5,Result.andThen_ok,Ydn hu]
  ·simp at aD
 ·cases aD
def Zx {s:Sem Value}  {w':World}(h:s.run P w=.ok v w'):(do pure (.value (<- s)):Sem Next).run P w=.ok (.value v) w':=by simp[h]
def Xjx {lo hi:Bool}  (hb:m6 lo hi r)  (hv:bR g W w r vs) :
  (lo=true->∃ k,vs[0]?=some (.int k (Xq lo r)))/\(lo=false->Xq lo r=0)/\(∀ n,hi=true->∃ k,vs[if lo then 1 else 0]?=some (.int k (Jf lo hi n r)))/\(∀ n,hi=false->Jf lo hi n r=n):=by
 match r,hb with
 | [],⟨h1,h2⟩=>subst h1;subst h2;exact ⟨(fun h=>by cases h),fun _=>rfl,(fun _ h=>by cases h),fun _ _=>rfl⟩
 | [x],⟨h1,h2⟩ =>
  obtain ⟨v,r',rfl,h3,h4⟩:=hv.cons_inv;obtain rfl:=h4.oS;have e:=h3.dl h1;cases lo<;>cases hi<;>simp at h2<;>simp[Xq,Jf,e]
 | [x,y],⟨h1,h2,h3,h4⟩ =>
  subst h1;subst h2;obtain ⟨v,r',rfl,h5,h6⟩:=hv.cons_inv;obtain ⟨u,r'',rfl,h7,h8⟩:=h6.cons_inv;have e:=h5.dl h3;have e':=h7.dl h4;simp[Xq,Jf,e,e']
def HM {isSlice:Bool}{len cap:Nat}{lo hi:Option Operand}{ρ:Operand->Value}{r:List AV}(hb:m6 lo.isSome hi.isSome r)(hv:bR g W w r ((lo.toList++hi.toList).map ρ))
  (h0:0<=Xq lo.isSome r) (h1:Xq lo.isSome r<=Jf lo.isSome hi.isSome len r) (h2:Jf lo.isSome hi.isSome len r<=cap) :
  (Instr.sliceBounds isSlice len cap (lo.map ρ) (hi.map ρ) none).run P w=.ok ((Xq lo.isSome r).toNat,(Jf lo.isSome hi.isSome len r).toNat,cap) w:=by
 obtain ⟨a1,a2,a3,a4⟩:=Xjx hb hv;generalize Xq lo.isSome r=L at *
 replace a3:=a3 len;replace a4:=a4 len;generalize Jf lo.isSome hi.isSome len r=H at *
 have uO:∀ (k:IntKind) (i:Int) (y:Nat) (code:BoundsCode),0<=i->i<=y->(Instr.sliceBound (.int k i) y code).run P w=.ok i.toNat w:=fun k i y code h h'=>by
  simp[Instr.sliceBound,asIntOf,h,h']
 have hH:(H.toNat:Int)=H:=by omega
 cases lo with
 | none =>
  have e:=a2 rfl;subst e;cases hi with
  | none=>have e:=a4 rfl;subst e;simp[Instr.sliceBounds]
  | some y =>
   obtain ⟨k,e⟩:=a3 rfl;simp at e;simp[Instr.sliceBounds,e,uO k H cap _ h1 h2]
 | some x =>
  obtain ⟨k,e⟩:=a1 rfl;simp at e;cases hi with
  | none=>have e':=a4 rfl;subst e';simp[Instr.sliceBounds,e,uO k L len _ h0 h1]
  | some y =>
   obtain ⟨k',e'⟩:=a3 rfl;simp at e';simp[Instr.sliceBounds,e,e',uO k' H cap _ af h2,uO k L H.toNat _ h0 af]
def T9 (off:Nat):∀ (l:List Value) (k:Nat) (cs:Array Value),((l.zipIdx k).foldl (fun cs (p:Value×Nat)=>cs.setIfInBounds (off+p.2) p.1) cs).size=cs.size /\
  ∀ j,((l.zipIdx k).foldl (fun cs (p:Value×Nat)=>cs.setIfInBounds (off+p.2) p.1) cs).getD j undef=if off+k<=j/\j<off+k+l.length/\j<cs.size then l.getD (j-(off+k)) undef else cs.getD j undef
 | [],k,cs=>by
  refine ⟨rfl,fun j=>?_⟩;rw[aa (by simp;omega)];rfl
 | v::l,k,cs=>by
  obtain ⟨h1,h2⟩:=T9 off l (k+1) (cs.setIfInBounds (off+k) v);simp only[List.zipIdx_cons,List.foldl_cons];refine ⟨by rw[h1];simp,fun j=>?_⟩;rw[h2 j];simp only[Array.size_setIfInBounds,length_cons];by_cases hj:j=off+k
  ·subst hj;rw[aa af];by_cases hs:off + k < cs.size
   ·rw[am af];simp[Array.getD,hs]
   ·rw[aa af];simp[Array.getD,hs]
  ·have e:(cs.setIfInBounds (off+k) v).getD j undef=cs.getD j undef:=by
    simp only[Array.getD_eq_getD_getElem?,Array.getElem?_setIfInBounds];rw[aa (fun h=>hj h.symm)]
   rw[e];by_cases hc:off+(k+1)<=j/\j<off+(k+1)+l.length/\j<cs.size
   ·rw[am hc,am af];have:j - (off + k)=(j - (off + (k + 1))) + 1:=by omega
    rw[this];simp
   ·rw[aa hc,aa af]
def UA {cs vs:List AV}{off:Nat}(ho:off+vs.length<=cs.length):(Yj cs off vs).length=cs.length:=by unfold Yj;simp;omega
def Xyh {cs vs:List AV}{off:Nat}(ho:off+vs.length<=cs.length)(j:Nat):(Yj cs off vs).getD j .any=if off<=j/\j<off+vs.length then vs.getD (j-off) .any else cs.getD j .any:=by
 unfold Yj;simp only[List.getD];by_cases hlt:j<off
 ·rw[aa af,append_assoc,getElem?_append_left (by simp;omega),getElem?_take,am hlt]
 ·by_cases eua:j < off + vs.length
  ·rw[am af,getElem?_append_left (by simp;omega),List.getElem?_append_right (by simp;omega)];simp only[length_take];rw[show min off cs.length=off by omega]
  ·rw[aa af,List.getElem?_append_right (by simp;omega),getElem?_drop];simp only[length_append,length_take];rw[show off+vs.length+(j-(min off cs.length+vs.length))=j by omega]
def UB {cs:List AV}{cells:Array Value}(hs:cells.size=cs.length)(h1:∀ j,j<cs.length->(cells.getD j undef).oneCell'=true)(h:∀ j,j<cs.length->VR g W w (cs.getD j .any) (cells.getD j undef))
  {vs:List AV} {us:Array Value} (hu:us.size=vs.length) (hu1:∀ j,j<vs.length->(us.getD j undef).oneCell'=true) (hv:∀ j,j<vs.length->VR g W w (vs.getD j .any) (us.getD j undef)) {off:Nat} (ho:off+vs.length<=cs.length)
  {cells':Array Value} (rH:cells'.size=cells.size) (hc:∀ j,cells'.getD j undef=if off<=j/\j<off+us.size/\j<cells.size then us.getD (j-off) undef else cells.getD j undef) :
  cells'.size=(Yj cs off vs).length/\(∀ j,j<(Yj cs off vs).length->(cells'.getD j undef).oneCell'=true)/\∀ j,j<(Yj cs off vs).length->VR g W w ((Yj cs off vs).getD j .any) (cells'.getD j undef):=by
 have hl:(Yj cs off vs).length=cs.length:=by unfold Yj;simp;omega
 refine ⟨by rw[hl,rH,hs],fun j hj=>?_,fun j hj=>?_⟩
 ·rw[hl]at hj;rw[hc];split
  ·exact hu1 _ af
  ·exact h1 _ hj
 ·rw[hl]at hj;rw[hc];rw[Xyh ho];by_cases Bx:off≤j∧j < off + vs.length
  ·rw[am Bx,am af];exact hv _ af
  ·rw[aa Bx,aa af];exact h j hj
def UC {off:Nat}  (h:off<cs.length):cs.set off x=Yj cs off [x]:=by
 apply List.ext_getElem?;intro j;unfold Yj;rw[List.getElem?_set];by_cases hlt:j<off
 ·rw[aa af,append_assoc,getElem?_append_left (by simp;omega),getElem?_take,am hlt]
 ·by_cases he:off=j
  ·subst he;rw[am rfl,am h,getElem?_append_left (by simp;omega),List.getElem?_append_right (by simp;omega)];simp[Nat.min_eq_left (Nat.le_of_lt h)]
  ·rw[aa he,List.getElem?_append_right (by simp;omega),getElem?_drop];simp only[length_append,length_take,List.length_singleton];congr 1;omega
def Mw (h:v.oneCell'=true):v.cells=#[v]:=by cases v<;>simp_all [Value.cells,Value.oneCell']
def Xzc {n off m:Nat}{ps:List (Nat×Nat)}   (h:∀ vs,x≠.agg vs)(hb:Zb n ((off,m)::ps) (x::r)):one x/\m=1/\off<n/\Zb n ps r:=by
 cases x<;>first|exact absurd rfl (h _)|exact hb
def Ybe {off m:Nat}{ps:List (Nat×Nat)}   (h:∀ vs,x≠.agg vs):Je cs ((off,m)::ps) (x::r)=Je (cs.set off x) ps r:=by
 cases x<;>first|exact absurd rfl (h _)|rfl
def Mx {place:Nat->Option (Nat×Nat)}:∀ (ps:List (Nat×Nat)) (is:List Nat) (_:is.map place=ps.map some) {fV:List AV} {vs:List Value} (_:bR g W w fV vs) (_:is.length=vs.length) {cs:List AV} {cells:Array Value}
  (_:Zb cs.length ps fV) (_:cells.size=cs.length) (_:∀ j,j<cs.length->(cells.getD j undef).oneCell'=true) (_:∀ j,j<cs.length->VR g W w (cs.getD j .any) (cells.getD j undef)),
  ∃ cells',Instr.fill place cells (is.zip vs)=some cells'/\VR g W w (.agg (Je cs ps fV)) (.agg cells'):=by
 intro ps
 induction ps with
 | nil =>
  intro is By fV vs hv hl cs cells hb hs h1 h;obtain rfl:is=[]:=by simpa using By
  obtain rfl:vs=[]:=by simpa using hl.symm
  obtain rfl:=hv.lW;exact ⟨cells,rfl,.agg hs h1 h⟩
 | cons p ps ih =>
  intro is By fV vs hv hl cs cells hb hs h1 h;obtain ⟨off,m⟩:=p;cases is with
  | nil=>simp at By
  | cons i is =>
   cases vs with
   | nil=>simp at hl
   | cons v vs =>
    obtain ⟨x,My,rfl,hx,pW⟩:=hv.dL;simp only[map_cons,List.cons.injEq]at By;have lX:is.length=vs.length:=by simpa using hl
    -- the HO cells,fV abstract and fV real eya
    have piece:∃ (pv:List AV),v.cells.size=m∧pv.length=m∧off + m≤cs.length∧Zb cs.length ps My∧(∀ j,j < pv.length→(v.cells.getD j undef).oneCell'=true)∧(∀ j,j < pv.length→VR g W w (pv.getD j .any) (v.cells.getD j undef)) ∧
      Je cs ((off,m)::ps) (x::My)=Je (Yj cs off pv) ps My:=by
     by_cases Bz:∃ Mz,x=.agg Mz
     ·obtain ⟨Mz,rfl⟩:=Bz;cases hx with
      | agg yG fk h2 =>
       obtain ⟨e1,e2,e3⟩:=hb;exact ⟨Mz,by rw[<- e1];exact yG,e1,e2,e3,fk,h2,rfl⟩
     ·have yH:∀ vs,x≠.agg vs:=fun vs e=>Bz ⟨vs,e⟩;obtain ⟨e1,rfl,e2,e3⟩:=Xzc yH hb;have yI:=hx.one e1;rw[Mw yI];refine ⟨[x],rfl,rfl,by omega,e3,fun j hj=>?_,fun j hj=>?_,by rw[Ybe yH,UC e2]⟩
      ·simp at hj;subst hj;exact yI
      ·simp at hj;subst hj;exact hx
    obtain ⟨pv,p1,p2,p3,p4,p5,p6,p7⟩:=piece;rw[p7];have dW:Instr.fill place cells ((i::is).zip (v::vs))=Instr.fill place (v.cells.zipIdx.foldl (fun cs (c,j)=>cs.setIfInBounds (off+j) c) cells) (is.zip vs):=by
     simp only[List.zip_cons_cons,Instr.fill,By.1];rw[aa];simp[p1];omega
    rw[dW];obtain ⟨f1,f2⟩:=T9 off v.cells.toList 0 cells;have Dy:v.cells.zipIdx.foldl (fun cs (c,j)=>cs.setIfInBounds (off+j) c) cells=(v.cells.toList.zipIdx 0).foldl (fun cs (p:Value×Nat)=>cs.setIfInBounds (off+p.2) p.1) cells:=by
     rw[<- Array.foldl_toList];simp
    rw[Dy];generalize (v.cells.toList.zipIdx 0).foldl (fun cs (p:Value×Nat)=>cs.setIfInBounds (off+p.2) p.1) cells=MA at f1 f2;have ho:off+pv.length<=cs.length:=by omega
    obtain ⟨s1,s2,s3⟩:=UB hs h1 h (vs:=pv) (us:=v.cells) (by rw[p1,p2]) p5 p6 ho f1 (fun j=>by
     rw[f2 j];simp only[Nat.add_zero,Array.length_toList];congr 1;simp[Array.getD_eq_getD_getElem?])
    exact ih is By.2 pW lX (by rw[UA ho];exact p4) s1 s2 s3
end
section
variable {P:Program}{g:Nat->GM}{W:Nat->Prop}{w:World}
def UD {fs:Array Field}{places:Array (Nat×Nat)}(kC:∀ i:Nat,places[i]?=(fs[i]?).bind fun (f:Field)=>(Zr P f.type).map fun m=>(f.offset,m)):∀ (is:List Nat) (ps:List (Nat×Nat)),Bv P fs is=some ps->is.map (fun i=>places[i]?)=ps.map some
 | [],ps,h=>by simp[Bv]at h;subst h;rfl
 | i::r,ps,h=>by
  unfold Bv at h;cases hf:fs[i]? with
  | none=>rw[hf]at h;simp at h
  | some f =>
   rw[hf]at h;simp only at h;split at h
   ·rename_i m l hm hl;simp at h;subst h;simp only[map_cons];rw[UD kC r l hl,kC i,hf];simp[hm]
   ·cases h
def Xi9 {fs:Array Field}(h:∀ f ∈ fs.toList,(Zr P f.type).isSome=true):∃ places:Array (Nat×Nat),(fs.mapM (fun f=>(do pure (f.offset,<- sizeOf f.type):Sem (Nat×Nat)))).run P w=.ok places w/\∀ i:Nat,places[i]?=(fs[i]?).bind fun (f:Field)=>(Zr P f.type).map fun m=>(f.offset,m):=by
 have key:∀ (l:List Field),(∀ f ∈ l,(Zr P f.type).isSome=true)->∃ ps:List (Nat×Nat),(l.mapM (fun f=>(do pure (f.offset,<- sizeOf f.type):Sem (Nat×Nat)))).run P w=.ok ps w/\∀ i:Nat,ps[i]?=(l[i]?).bind fun (f:Field)=>(Zr P f.type).map fun m=>(f.offset,m):=by
  intro l
  induction l with
  | nil=>intro _;exact ⟨[],by simp,by simp⟩
  | cons f l ih =>
   intro h;obtain ⟨ps,h1,h2⟩:=ih fun f hf=>h f (List.mem_cons_of_mem _ hf);have hf:=h f aw;cases hs:Zr P f.type with
   | none=>rw[hs]at hf;cases hf
   | some m =>
    refine ⟨(f.offset,m)::ps,?_,fun i=>?_⟩
    ·simp only[List.mapM_cons,Sem.run_bind,Jz hs,Result.andThen_ok,Sem.run_pure,h1]
    ·cases i with
     | zero=>simp[hs]
     | succ i=>simpa using h2 i
 obtain ⟨ps,h1,h2⟩:=key fs.toList h;refine ⟨ps.toArray,?_,fun i=>by simpa using h2 i⟩;rw[<- Array.toArray_toList (xs:=fs)];rw[Array.mapM_eq_mapM_toList];simp only[Sem.run_map,h1,Result.andThen_ok]
def Ui (h:VR g W w (.agg cs) v):∃ us:Array Value,v=.agg us/\us.size=cs.length/\(∀ j,j<cs.length->(us.getD j undef).oneCell'=true)/\∀ j,j<cs.length->VR g W w (cs.getD j .any) (us.getD j undef):=by
 cases h with
 | agg hs h1 h=>exact ⟨_,rfl,hs,h1,h⟩
def Dz (h:VR g W w (.aR cs) v):∃ us:Array Value,v=.tuple us/\us.size=cs.length/\∀ j,j<cs.length->VR g W w (cs.getD j .any) (us.getD j undef):=by
 cases h with
 | aR hs h=>exact ⟨_,rfl,hs,h⟩
def uP (h:VR g W w (.isl n cs) v):∃ (a:Option Addr) (cap:Nat) (us:Nat->Value),v=.slice a n cap/\n<=cap/\cap<=maxLen /\
  (∀ j,j<cs.length->∃ k o,a=some ⟨k,o,none⟩/\Uv w k (o+j)=some (us j)/\¬ W k/\(us j).oneCell'=true)/\∀ j,j<cs.length->VR g W w (cs.getD j .any) (us j):=by
 cases h with
 | isl hn hm hc h=>exact ⟨_,_,_,rfl,hn,hm,hc,h⟩
def qM {es b off n c:Nat}  (h:VR g W w (.sl es b off n c) v):(∃ k cap e cur fz,v=.slice (some ⟨k,off,none⟩) n cap/\g b=.re k/\n<=c/\c<=cap/\cap<=maxLen/\w.heap[k]?=some (.cells cur e fz)/\off+cap*es<=cur.size)\/(∃ a,v=.slice a 0 0/\g b=.ph/\n=0/\c=0):=by
 cases h with
 | sl hg hn hc hm hb hs=>exact .inl ⟨_,_,_,_,_,rfl,hg,hn,hc,hm,hb,hs⟩
 | kz hg hc=>exact .inr ⟨_,rfl,hg,rfl,hc⟩
def HP {off:Nat}  (h:VR g W w (.xp cs off) v):∃ (k o:Nat) (us:Nat->Value),v=.pointer (some ⟨k,o+off,none⟩)/\(∀ j,j<cs.length->Uv w k (o+j)=some (us j)/\¬ W k/\(us j).oneCell'=true)/\∀ j,j<cs.length->VR g W w (cs.getD j .any) (us j):=by
 cases h with
 | xp hc h=>exact ⟨_,_,_,rfl,hc,h⟩
def BA {b off:Nat}  (h:VR g W w (.ptr b off) v):∃ k,v=.pointer (some ⟨k,off,none⟩)/\g b=.re k:=by
 cases h with
 | ptr hg=>exact ⟨_,rfl,hg⟩
def DA (h:VR g W w .nils v):∃ a,v=.slice a 0 0:=by
 cases h with
 | nils a=>exact ⟨a,rfl⟩
def yJ (h:VR g W w (.mp b) v):∃ k,v=.map (some k)/\g b=.re k:=by
 cases h with
 | mp hg=>exact ⟨_,rfl,hg⟩
def Dw.get {l:List AV}{x:Bk}(h:Dw g W w l x)  (hb:Jw l=some b):BR g W w (g b) x:=h b hb
def Ybg (cs:List AV)(h:∀ v ∈ cs,b9 .u8 v)  (hv:∀ j,j<cs.length->VR g W w (cs.getD j .any) (us j))(j:Nat)(hj:j<(toB cs).length):us j=.int .u8 (bC (cs.getD j .any)):=by
 have c4:j<cs.length:=by simpa [toB] using hj
 have hm:cs.getD j .any ∈ cs:=by rw[HE c4];exact List.getElem_mem _
 exact (hv j c4).dl (h _ hm)
def MC {src dst e:TypeId}(hs:P.underlying src=some (.slice e))(he:P.underlying e=some (.int .u8))(hd:P.underlying dst=some .string){k o n cap:Nat}{cs:List AV}{us:Nat->Value}(hn:cs.length=n)
  (hc:∀ j,j<n->Uv w k (o+j)=some (us j)) (h8:∀ v ∈ cs,b9 .u8 v) (hv:∀ j,j<cs.length->VR g W w (cs.getD j .any) (us j)) :
  (convert src dst (.slice (some ⟨k,o,none⟩) n cap)).run P w=.ok (.string ⟨(toB cs).toArray⟩) w:=by
 subst hn;rw[run_convert_bytes_string w src dst e _ _ _ hs he hd];have hl:=run_loadCells (P:=P) w ⟨k,o,none⟩ cs.length us (fun j hj=>by rw[add_lit];exact hc j hj);have oU:((List.range cs.length).map us).toArray=((cs.map bC).map (Value.int .u8)).toArray:=by
  congr 1;apply List.ext_getElem aw;intro j h1 h2;simp only[List.getElem_map,List.getElem_range];have hj:j<cs.length:=by simpa using h1
  have:=Ybg cs h8 hv j (by simpa [toB] using hj);rw[this,HE hj]
 rw[oU]at hl;rw[run_bytesToString w _ _ _ _ hl];congr 2;have key:∀ (l:List AV) (s:ByteArray),(l.map bC).foldl (fun r n=>r.push (UInt8.ofNat n.toNat)) s=⟨s.data++(toB l).toArray⟩:=by
  intro l
  induction l with
  | nil=>intro s;cases s;simp[toB]
  | cons x l ih =>
   intro s;simp only[map_cons,List.foldl_cons,ih,toB];congr 1;simp[ByteArray.data_push]
 rw[key];simp[ByteArray.empty,ByteArray.emptyWithCapacity];rfl
def UE {fs:Array Field}(hu:P.underlying t=some (.struct fs)){f:Nat}{fd:Field}(jm:fs[f]?=some fd){m:Nat}(hm:Zr P fd.type=some (m+1))(k o:Nat) :
  (Instr.fieldAt t (.pointer (some ⟨k,o,none⟩)) f).run P w=.ok (.pointer (some ⟨k,o+fd.offset,none⟩)) w:=by
 simp[Instr.fieldAt,run_underlying hu,jm,Instr.sureAddr,fieldPlace,Jz hm,add_lit]
def UF (hu:P.underlying t=some (.array n e))(df:Zr P e=some es)(k o:Nat)(q:IntKind)(i:Int)(h0:0<=i)(h1:i<(n:Int)) :
  (Instr.indexAt t (.pointer (some ⟨k,o,none⟩)) (.int q i)).run P w=.ok (.pointer (some ⟨k,o+i.toNat*es,none⟩)) w:=by
 simp[Instr.indexAt,run_underlying hu,asIntOf,Instr.sureAddr,h0,h1,Jz df,add_lit]
def UG (hu:P.underlying t=some (.slice e))(df:Zr P e=some es)(k o n cap:Nat)(q:IntKind)(i:Int)(h0:0<=i)(h1:i<(n:Int)) :
  (Instr.indexAt t (.slice (some ⟨k,o,none⟩) n cap) (.int q i)).run P w=.ok (.pointer (some ⟨k,o+i.toNat*es,none⟩)) w:=by
 simp[Instr.indexAt,run_underlying hu,asIntOf,h0,h1,Jz df,add_lit]
def Ydg {o:Oper}{q:Q1}{xs:List Operand}(aD:uN P o=some (q,xs))(ρ:Operand->Value)(hρ:∀ v,ρ (.const v)=v){fV:List AV}(ha:bR g W w fV (xs.map ρ)){oT:Bk}(hb:Dw g W w fV oT)(hp:qp q fV oT) :
  ∃ v,(execOp ρ o).run P w=.ok (.value v) w/\VR g W w (qv q fV oT) v:=by
 unfold uN at aD;split at aD;all_goals (rename_i hop)
 -- move,assign
 ·simp at aD;obtain ⟨rfl,rfl⟩:=aD;obtain ⟨a,rfl,h1⟩:=bR.one (by simpa using ha);exact ⟨_,by simp[execOp,hop],h1⟩
 ·simp at aD;obtain ⟨rfl,rfl⟩:=aD;obtain ⟨a,rfl,h1⟩:=bR.one (by simpa using ha);exact ⟨_,by simp[execOp,hop],h1⟩
 -- pick
 ·simp at aD;obtain ⟨rfl,rfl⟩:=aD;obtain ⟨a,b,c,rfl,h1,h2,h3⟩:=bR.three (by simpa using ha);obtain ⟨p1,p2,p3⟩:=hp;have e1:=h1.d6 p1;refine ⟨_,by simp[execOp,hop,e1,asBool];rfl,?_⟩;simp only[qv];cases hc:eU a with
  | true=>simp only[cond_true,if_true];rw[h2.d6 (p2 hc)];exact .bool _
  | false=>simp only[cond_false,Bool.false_eq_true,if_false];rw[h3.d6 (p3 hc)];exact .bool _
 -- not
 ·simp at aD;obtain ⟨rfl,rfl⟩:=aD;obtain ⟨a,rfl,h1⟩:=bR.one (by simpa using ha);exact ⟨.bool (!eU a),by simp[execOp,hop,h1.d6 hp,Op.unary],.bool _⟩
 -- binOp
 ·obtain ⟨v,h1,h2⟩:=Xqh (w:=w) aD ρ ha hp (fun v e=>by rw[e];exact hρ v);refine ⟨v,?_,h2⟩;simp only[execOp,hop];exact Zx h1
 -- convert
 ·split at aD
  ·rename_i ks kd hs hd;simp at aD;obtain ⟨rfl,rfl⟩:=aD;obtain ⟨a,rfl,h1⟩:=bR.one (by simpa using ha);obtain ⟨k',e⟩:=h1.d8 hp;exact ⟨_,by simp only[execOp,hop];refine Zx (v:=.int kd (kd.wrap (bC a))) ?_;rw[e];simp[convert,run_underlying hs,run_underlying hd,Conv.intToInt],.int _ _⟩
  ·rename_i e hs hd;split at aD
   ·rename_i he;simp at aD;obtain ⟨rfl,rfl⟩:=aD;obtain ⟨a,rfl,h1⟩:=bR.one (by simpa using ha);simp only[execOp,hop];cases a<;>simp only[qp]at hp
    ·rename_i es b off n c;cases oT<;>simp only[qp]at hp
     rename_i cs;obtain ⟨rfl,p2,p3⟩:=hp;rcases qM h1 with ⟨k,cap,e',cur,fz,e1,e2,_⟩|⟨wL,e1,e2,rfl,rfl⟩
     ·by_cases eW:0 < cs.length
      ·obtain ⟨k',us,q1,q2,q3,q4⟩:=Mt (hb.get (b:=b) rfl) eW;rw[e2]at q1;cases q1;refine ⟨_,Zx ?_,.str _⟩;rw[e1];refine MC (g:=g) (W:=W) (us:=fun j=>us (off + j)) hs he hd (by simp;omega) (fun j hj=>?_) p3 (fun j hj=>?_)
       ·have:=q2 (off+j) af;simpa using this
       ·have c4:j < n:=by simp at hj;omega
        have ee:((cs.drop off).take n).getD j .any=cs.getD (off+j) .any:=by simp only[List.getD,getElem?_take,getElem?_drop,am c4]
        rw[ee];exact q4 _ af
      ·have:cs=[]:=List.eq_nil_of_length_eq_zero af;subst this;have:n=0:=by simp at p2;omega
       subst this;refine ⟨.string ⟨(toB []).toArray⟩,Zx ?_,by simpa [qv,toB] using VR.str (g:=g) (W:=W) (w:=w) []⟩;rw[e1];exact MC (g:=g) (W:=W) (us:=fun _=>undef) hs he hd rfl (fun j hj=>absurd hj aw) aw (fun j hj=>absurd hj aw)
     ·refine ⟨.string .empty,Zx ?_,?_⟩
      ·rw[e1,run_convert_bytes_string w _ _ e _ _ _ hs he hd];cases wL<;>rfl
      ·simp only[qv,List.take_zero,toB,map_nil];exact .str []
    ·rename_i n cs;obtain ⟨p2,p3⟩:=hp;obtain ⟨a,cap,us,e1,e2,e3,e4,e5⟩:=uP h1;by_cases eW:0 < n
     ·obtain ⟨k,o,rfl,_⟩:=e4 0 af;refine ⟨_,Zx ?_,.str _⟩;rw[e1];refine MC (g:=g) (W:=W) (us:=us) hs he hd (by simp;omega) (fun j hj=>?_) p3 (fun j hj=>?_)
      ·obtain ⟨k',o',hh,h6,_⟩:=e4 j af;cases hh;exact h6
      ·have c4:j < n:=by simp at hj;omega
       have ee:(cs.take n).getD j .any=cs.getD j .any:=by simp only[List.getD,getElem?_take,am c4]
       rw[ee];exact e5 _ af
     ·have:n=0:=by omega
      subst this;refine ⟨.string ⟨#[]⟩,Zx ?_,by simpa [qv,toB] using VR.str (g:=g) (W:=W) (w:=w) []⟩;rw[e1,run_convert_bytes_string w _ _ e _ _ _ hs he hd];cases a<;>rfl
    ·generalize ρ _=rx at h1 ⊢;cases h1 with
     | nils a =>
      refine ⟨.string ⟨#[]⟩,Zx ?_,.str []⟩;rw[run_convert_bytes_string w _ _ e _ _ _ hs he hd];cases a<;>rfl
   ·cases aD
  ·cases aD
 -- field
 ·split at aD
  ·rename_i fs hu;split at aD
   ·rename_i fd jm;cases jT:lV P fd.type with
    | none=>rw[jT]at aD;simp at aD
    | some ty =>
     rw[jT]at aD;simp at aD;obtain ⟨rfl,rfl⟩:=aD;obtain ⟨a,rfl,h1⟩:=bR.one (by simpa using ha);cases a<;>simp only[qp]at hp
     rename_i cs;obtain ⟨us,e,hs,iD,hv⟩:=Ui h1;obtain ⟨v,hr,pX⟩:=TX (P:=P) (w:=w) jT hs iD hv hp;refine ⟨v,?_,pX⟩;simp only[execOp,hop];refine Zx ?_;rw[e];simp[Instr.field,run_underlying hu,jm,asAgg,hr]
   ·cases aD
  ·cases aD
 -- index
 ·split at aD
  ·rename_i n e hu;split at aD
   ·rename_i ty es jT df;simp at aD;obtain ⟨rfl,rfl⟩:=aD;obtain ⟨a,b,rfl,h1,h2⟩:=bR.two (by simpa using ha);cases a<;>simp only[qp]at hp
    rename_i cs;obtain ⟨p1,p2,p3,p4⟩:=hp;obtain ⟨us,e1,hs,iD,hv⟩:=Ui h1;obtain ⟨k,e2⟩:=h2.d8 p1;obtain ⟨v,hr,pX⟩:=TX (P:=P) (w:=w) jT hs iD hv p4;refine ⟨v,?_,pX⟩;simp only[execOp,hop];refine Zx ?_;rw[e1,e2];simp[Instr.index,run_underlying hu,asIntOf,p2,p3,Jz df,hr]
   ·cases aD
  ·rename_i hu;simp at aD;obtain ⟨rfl,rfl⟩:=aD;obtain ⟨a,b,rfl,h1,h2⟩:=bR.two (by simpa using ha);obtain ⟨p1,p2,p3,p4⟩:=hp;obtain ⟨k,e2⟩:=h2.d8 p2;have e1:=h1.d7 p1;have hlt:(bC b).toNat < (cT a).length:=by omega
   refine ⟨.int .u8 ((cT a).getD (bC b).toNat 0).toNat,?_,.int _ _⟩;simp only[execOp,hop];refine Zx ?_;rw[e1,e2];have hg:(⟨(cT a).toArray⟩:ByteArray)[(bC b).toNat]?=some ((cT a)[(bC b).toNat]):=by
    rw[getElem?_pos _ _ (by rw[HJ];exact hlt)];rfl
   simp[Instr.index,run_underlying hu,asIntOf,p3,hg,List.getD,hlt]
  ·cases aD
 -- fieldAddr
 ·split at aD
  ·rename_i fs hu;split at aD
   ·rename_i fd jm;split at aD
    ·rename_i m hm;simp at aD;obtain ⟨rfl,rfl⟩:=aD;obtain ⟨a,rfl,h1⟩:=bR.one (by simpa using ha);cases a<;>simp only[qp]at hp
     ·obtain ⟨k,e1,e2⟩:=BA h1;exact ⟨_,by simp only[execOp,hop];exact Zx (by rw[e1];exact UE hu jm hm _ _),.ptr e2⟩
     ·obtain ⟨k,o,us,e1,e2,e3⟩:=HP h1;exact ⟨_,by simp only[execOp,hop];exact Zx (by rw[e1];exact UE hu jm hm _ _),by rw[Nat.add_assoc];exact .xp e2 e3⟩
    ·cases aD
   ·cases aD
  ·cases aD
 -- indexAddr
 ·split at aD
  ·rename_i n e hu;cases df:Zr P e with
   | none=>rw[df]at aD;simp at aD
   | some es =>
    rw[df]at aD;simp at aD;obtain ⟨rfl,rfl⟩:=aD;obtain ⟨a,b,rfl,h1,h2⟩:=bR.two (by simpa using ha);cases a<;>simp only[qp]at hp
    ·obtain ⟨p1,p2,p3⟩:=hp;obtain ⟨k,e1,e2⟩:=BA h1;obtain ⟨q,e3⟩:=h2.d8 p1;exact ⟨_,by simp only[execOp,hop];exact Zx (by rw[e1,e3];exact UF hu df _ _ _ _ p2 p3),.ptr e2⟩
    ·obtain ⟨p1,p2,p3⟩:=hp;obtain ⟨k,o,us,e1,e2,e4⟩:=HP h1;obtain ⟨q,e3⟩:=h2.d8 p1;exact ⟨_,by simp only[execOp,hop];exact Zx (by rw[e1,e3];exact UF hu df _ _ _ _ p2 p3),by rw[Nat.add_assoc];exact .xp e2 e4⟩
  ·rename_i e hu;cases df:Zr P e with
   | none=>rw[df]at aD;simp at aD
   | some es =>
    rw[df]at aD;simp at aD;obtain ⟨rfl,rfl⟩:=aD;obtain ⟨a,b,rfl,h1,h2⟩:=bR.two (by simpa using ha);cases a<;>simp only[qp]at hp
    ·obtain ⟨p0,p1,p2,p3⟩:=hp;obtain ⟨q,e3⟩:=h2.d8 p1;rcases qM h1 with ⟨k,cap,e',cur,fz,e1,e2,_⟩|⟨wL,e1,e2,rfl,rfl⟩
     ·exact ⟨_,by simp only[execOp,hop];exact Zx (by rw[e1,e3];exact UG hu df _ _ _ _ _ _ p2 p3),.ptr e2⟩
     ·omega
    ·obtain ⟨p1,p2,p3,p4⟩:=hp;obtain ⟨q,e3⟩:=h2.d8 p1;obtain ⟨ad,cap,us,e1,_,_,e4,e5⟩:=uP h1;obtain ⟨k,o,rfl,_⟩:=e4 _ p4;refine ⟨_,by simp only[execOp,hop];exact Zx (by rw[e1,e3];exact UG hu df _ _ _ _ _ _ p2 p3),.xp (fun j hj=>?_) e5⟩;obtain ⟨k',o',hh,r⟩:=e4 j hj;cases hh;exact r
  ·cases aD
 -- load
 ·cases jT:lV P _ with
  | none=>rw[jT]at aD;simp at aD
  | some ty =>
   rw[jT]at aD;simp at aD;obtain ⟨rfl,rfl⟩:=aD;obtain ⟨a,rfl,h1⟩:=bR.one (by simpa using ha);cases a<;>simp only[qp]at hp
   ·rename_i b off;cases oT<;>simp only[qp]at hp
    rename_i cs;obtain ⟨k,e1,e2⟩:=BA h1;by_cases eW:0<cs.length
    ·obtain ⟨k',us,q1,q2,q3,q4⟩:=Mt (hb.get (b:=b) rfl) eW;rw[e2]at q1;cases q1;obtain ⟨v,hr,pX⟩:=Dx (P:=P) (o:=0) jT q2 q3 q4 hp;refine ⟨v,?_,pX⟩;simp only[execOp,hop];exact Zx (by rw[e1];simpa using hr)
    ·obtain ⟨rfl,rfl,rfl⟩:=TZ hp eW;obtain ⟨v,hr,pX⟩:=Dx (P:=P) (g:=g) (W:=W) (k:=k) (o:=0) (us:=fun _=>undef) jT (fun j hj=>absurd hj aw) (fun j hj=>absurd hj aw) (fun j hj=>absurd hj aw) hp;refine ⟨v,?_,pX⟩;simp only[execOp,hop];exact Zx (by rw[e1];simpa using hr)
   ·rename_i cs off;obtain ⟨k,o,us,e1,e2,e3⟩:=HP h1;obtain ⟨v,hr,pX⟩:=Dx (P:=P) jT (fun j hj=>(e2 j hj).1) (fun j hj=>(e2 j hj).2.2) e3 hp;refine ⟨v,?_,by cases ty<;>exact pX⟩;simp only[execOp,hop];exact Zx (by rw[e1];exact hr)
 -- len
 ·split at aD
  ·rename_i hu;simp at aD;obtain ⟨rfl,rfl⟩:=aD;obtain ⟨a,rfl,h1⟩:=bR.one (by simpa using ha);have e:=h1.d7 hp;exact ⟨.int .i64 (cT a).length,by simp[execOp,hop,resolve,invoke,builtin,Builtin.len_,run_underlying hu,e,goInt,HJ],.int _ _⟩
  ·rename_i e hu;simp at aD;obtain ⟨rfl,rfl⟩:=aD;obtain ⟨a,rfl,h1⟩:=bR.one (by simpa using ha);rename_i x _ _;have fin:∀ b n c,ρ x=.slice b n c->(execOp ρ o).run P w=.ok (.value (.int .i64 n)) w:=fun b n c h=>by
    simp[execOp,hop,resolve,invoke,builtin,Builtin.len_,run_underlying hu,h,goInt]
   cases a<;>simp only[qp]at hp
   ·rcases qM h1 with ⟨k,cap,e',cur,fz,e1,_⟩|⟨wL,e1,_,rfl,rfl⟩
    ·exact ⟨_,fin _ _ _ e1,.int _ _⟩
    ·exact ⟨_,fin _ _ _ e1,.int _ _⟩
   ·obtain ⟨ad,cap,us,e1,_⟩:=uP h1;exact ⟨_,fin _ _ _ e1,.int _ _⟩
   ·obtain ⟨b,e1⟩:=DA h1;exact ⟨_,fin _ _ _ e1,.int _ _⟩
  ·rename_i kt et hu;simp at aD;obtain ⟨rfl,rfl⟩:=aD;obtain ⟨a,rfl,h1⟩:=bR.one (by simpa using ha);cases a<;>simp only[qp]at hp
   rename_i b;cases oT<;>simp only[qp]at hp
   rename_i kvs dn;obtain ⟨k,e1,e2⟩:=yJ h1;have ez:=hb.get (b:=b) rfl;rw[e2]at ez;cases ez with
   | az BB hs =>
    refine ⟨.int .i64 kvs.length,?_,.int _ _⟩;simp[execOp,hop,resolve,invoke,builtin,Builtin.len_,run_underlying hu,e1,goInt,getObj,Sem.run,BB,hs]
  ·cases aD
 -- min,max
 ·split at aD
  ·rename_i k hu;simp at aD;obtain ⟨rfl,rfl⟩:=aD;obtain ⟨a,b,rfl,h1,h2⟩:=bR.two (by simpa using ha);refine ⟨_,?_,.int _ _⟩;simp only[execOp,hop,resolve,invoke,builtin,Sem.run_bind,Sem.run_pure,Result.andThen_ok,List.map_toArray,map_cons,map_nil,h1.dl hp.1,h2.dl hp.2,run_min_int2]
  ·cases aD
 ·split at aD
  ·rename_i k hu;simp at aD;obtain ⟨rfl,rfl⟩:=aD;obtain ⟨a,b,rfl,h1,h2⟩:=bR.two (by simpa using ha);refine ⟨_,?_,.int _ _⟩;simp only[execOp,hop,resolve,invoke,builtin,Sem.run_bind,Sem.run_pure,Result.andThen_ok,List.map_toArray,map_cons,map_nil,h1.dl hp.1,h2.dl hp.2,run_max_int2]
  ·cases aD
 -- slice
 ·rename_i t x lo hi;split at aD
  ·rename_i hu;simp only[Option.some.injEq,Prod.mk.injEq]at aD;obtain ⟨rfl,rfl⟩:=aD;obtain ⟨a,r,rfl,h1,hr⟩:=bR.dL (v:=ρ x) (r:=(lo.toList++hi.toList).map ρ) (by simpa using ha);simp only[qp]at hp;obtain ⟨p1,p2,p3,p4,p5⟩:=hp;refine ⟨_,?_,.str _⟩;simp only[execOp,hop];refine Zx ?_;rw[h1.d7 p1];have nR:=HM (P:=P) (isSlice:=false) (len:=(cT a).length) (cap:=(cT a).length) p2 hr p3 p4 p5;simp only[Instr.sliceAt,Instr.slice,Sem.run_bind,run_underlying hu,Result.andThen_ok,Option.map_none,Option.isSome_none,Bool.false_eq_true,if_false,HJ,nR,Sem.run_pure];congr 2;apply ByteArray.ext;simp[ByteArray.extract,ByteArray.copySlice]
  ·rename_i e hu;cases df:Zr P e with
   | none=>rw[df]at aD;simp at aD
   | some es =>
    rw[df]at aD;simp only[Option.map_some,Option.some.injEq,Prod.mk.injEq]at aD;obtain ⟨rfl,rfl⟩:=aD;obtain ⟨a,r,rfl,h1,hr⟩:=bR.dL (v:=ρ x) (r:=(lo.toList++hi.toList).map ρ) (by simpa using ha);cases a<;>simp only[qp]at hp
    ·rename_i es' b off n c;obtain ⟨rfl,p2,p3,p4,p5⟩:=hp;have DB:qv (.oR es' lo.isSome hi.isSome) (.sl es' b off n c::r) oT=if Xq lo.isSome r < c then .sl es' b (off + (Xq lo.isSome r).toNat * es') ((Jf lo.isSome hi.isSome n r).toNat - (Xq lo.isSome r).toNat) (c - (Xq lo.isSome r).toNat) else .isl 0 []:=rfl;rw[DB];clear DB;rcases qM h1 with ⟨k,cap,e',cur,fz,e1,e2,q1,q2,q3,q4,q5⟩|⟨wL,e1,e2,rfl,rfl⟩
     ·have nR:=HM (P:=P) (isSlice:=true) (len:=n) (cap:=cap) p2 hr p3 p4 af;by_cases p6:Xq lo.isSome r < c
      ·rw[am p6];have fA:(Xq lo.isSome r).toNat < cap:=by omega
       refine ⟨.slice (some ⟨k,off+(Xq lo.isSome r).toNat*es',none⟩) ((Jf lo.isSome hi.isSome n r).toNat-(Xq lo.isSome r).toNat) (cap-(Xq lo.isSome r).toNat),?_,?_⟩
       ·simp only[execOp,hop];refine Zx ?_;rw[e1];simp only[Instr.sliceAt,Instr.slice,Sem.run_bind,run_underlying hu,Result.andThen_ok,Option.map_none,nR,Jz df,Sem.run_pure];rw[aa af];simp[add_lit]
       ·refine .sl e2 af af af q4 ?_;have:(Xq lo.isSome r).toNat * es' + (cap - (Xq lo.isSome r).toNat) * es'=cap * es':=by rw[← Nat.add_mul];congr 1;omega
        omega
      ·rw[aa p6];have h0:(Jf lo.isSome hi.isSome n r).toNat - (Xq lo.isSome r).toNat=0:=by omega
       refine ⟨_,?_,.isl (a:=if cap=(Xq lo.isSome r).toNat then some ⟨k,off,none⟩ else (some (⟨k,off,none⟩:Addr)).map (·.add ((Xq lo.isSome r).toNat*es'))) (cap:=cap-(Xq lo.isSome r).toNat) (us:=fun _=>undef) (Nat.zero_le _) af (fun j hj=>by simp at hj) (fun j hj=>by simp at hj)⟩;simp only[execOp,hop];refine Zx ?_;rw[e1];simp only[Instr.sliceAt,Instr.slice,Sem.run_bind,run_underlying hu,Result.andThen_ok,Option.map_none,nR,Jz df,Sem.run_pure,h0]
     ·have nR:=HM (P:=P) (isSlice:=true) (len:=0) (cap:=0) p2 hr p3 p4 af;rw[aa af];have h0:(Jf lo.isSome hi.isSome 0 r).toNat - (Xq lo.isSome r).toNat=0:=by omega
      refine ⟨_,?_,.isl (a:=if 0=(Xq lo.isSome r).toNat then wL else wL.map (·.add ((Xq lo.isSome r).toNat*es'))) (cap:=0-(Xq lo.isSome r).toNat) (us:=fun _=>undef) (Nat.zero_le _) (by unfold maxLen;omega) (fun j hj=>by simp at hj) (fun j hj=>by simp at hj)⟩;simp only[execOp,hop];refine Zx ?_;rw[e1];simp only[Instr.sliceAt,Instr.slice,Sem.run_bind,run_underlying hu,Result.andThen_ok,Option.map_none,nR,Jz df,Sem.run_pure,h0]
    ·rename_i n cs;obtain ⟨p2,p3,p4,p5,p6⟩:=hp;obtain ⟨ad,cap,us,e1,q1,q2,q3,q4⟩:=uP h1;have nR:=HM (P:=P) (isSlice:=true) (len:=n) (cap:=cap) p2 hr p3 p4 af;have DB:qv (.oR es lo.isSome hi.isSome) (.isl n cs::r) oT=.isl ((Jf lo.isSome hi.isSome n r).toNat - (Xq lo.isSome r).toNat) ((cs.drop ((Xq lo.isSome r).toNat * es)).take (((Jf lo.isSome hi.isSome n r).toNat - (Xq lo.isSome r).toNat) * es)):=rfl;rw[DB];clear DB;generalize (Xq lo.isSome r)=L at *
     generalize (Jf lo.isSome hi.isSome n r)=H at *
     have hex:∃ HQ,(execOp ρ o).run P w=.ok (.value (.slice HQ (H.toNat-L.toNat) (cap-L.toNat))) w/\(cap=L.toNat->HQ=ad)/\(cap≠L.toNat->HQ=ad.map (·.add (L.toNat*es))):=by
      refine ⟨if cap=L.toNat then ad else ad.map (·.add (L.toNat*es)),?_,fun h=>by rw[am h],fun h=>by rw[aa h]⟩;simp only[execOp,hop];refine Zx ?_;rw[e1];simp only[Instr.sliceAt,Instr.slice,Sem.run_bind,run_underlying hu,Result.andThen_ok,Option.map_none,nR,Jz df,Sem.run_pure]
     obtain ⟨HQ,hrun,c1,c2⟩:=hex;refine ⟨_,hrun,.isl (us:=fun j=>us (L.toNat*es+j)) af af (fun j hj=>?_) fun j hj=>?_⟩
     ·have qN:j < (H.toNat - L.toNat) * es:=by simp at hj;omega
      have eI:L.toNat*es+j<cs.length:=by simp at hj;omega
      obtain ⟨k,o',rfl,r1,r2,r3⟩:=q3 _ eI;have cb:cap≠L.toNat:=fun e=>by
       have:H.toNat-L.toNat=0:=by omega
       rw[this]at qN;simp at qN
      rw[c2 cb];exact ⟨k,o'+L.toNat*es,by simp[add_lit],by rw[Nat.add_assoc];exact r1,r2,r3⟩
     ·have qN:j < (H.toNat - L.toNat) * es:=by simp at hj;omega
      have eI:L.toNat*es+j<cs.length:=by simp at hj;omega
      have ee:((cs.drop (L.toNat*es)).take ((H.toNat-L.toNat)*es)).getD j .any=cs.getD (L.toNat*es+j) .any:=by simp only[List.getD,getElem?_take,getElem?_drop,am qN]
      rw[ee];exact q4 _ eI
  ·cases aD
 -- extract
 ·rename_i x i;simp at aD;obtain ⟨rfl,rfl⟩:=aD;obtain ⟨a,rfl,h1⟩:=bR.one (by simpa using ha);cases a<;>simp only[qp]at hp
  rename_i vs;obtain ⟨us,e1,e2,e3⟩:=Dz h1;refine ⟨us.getD i undef,?_,e3 i hp⟩;simp only[execOp,hop];refine Zx ?_;rw[e1];have hi:i<us.size:=by omega
  simp[Instr.extract,hi,Array.getD]
 -- nilCheck
 ·simp at aD;obtain ⟨rfl,rfl⟩:=aD;obtain ⟨a,rfl,h1⟩:=bR.one (by simpa using ha);cases a<;>simp only[qp]at hp
  ·obtain ⟨k,e1,e2⟩:=BA h1;exact ⟨_,by simp[execOp,hop,e1],.ptr e2⟩
  ·obtain ⟨k,o',us,e1,e2,e3⟩:=HP h1;exact ⟨.pointer (some ⟨k,o'+_,none⟩),by simp[execOp,hop,e1],.xp e2 e3⟩
 -- build
 ·rename_i t parts;have DC:∀ z:Array Value,z.all (·.oneCell')=true->z.size=(z.toList.map fE).length/\(∀ j,j<(z.toList.map fE).length->(z.getD j undef).oneCell'=true)/\(∀ j,j<(z.toList.map fE).length->VR g W w ((z.toList.map fE).getD j .any) (z.getD j undef)):=by
   intro z hz;have hv:=Bw (g:=g) (W:=W) (w:=w) (.agg z);have pW:uM (.agg z)=.agg (z.toList.map fE):=am hz;rw[pW]at hv;obtain ⟨us,e,q1,q2,q3⟩:=Ui hv;cases e;exact ⟨q1,q2,q3⟩
  have DD:∀ z:Array Value,(P.info? t).bind (·.zero)=some (.agg z)->(zeroValue t).run P w=.ok (.agg z) w:=by
   intro z hz;cases hi:P.info? t with
   | none=>rw[hi]at hz;simp at hz
   | some i=>rw[hi]at hz;simp at hz;simp[zeroValue,typeInfo,hi,hz]
  have HT:(parts.map fun (p:Nat×Operand)=>(p.1,ρ p.2)).toList=(parts.toList.map (·.1)).zip ((parts.toList.map (·.2)).map ρ):=by
   simp only[Array.toList_map]
   induction parts.toList with
   | nil=>rfl
   | cons p l ih=>simp[ih]
  split at aD
  ·rename_i z fs hz hu;split at aD
   ·rename_i hc;simp only[Bool.and_eq_true]at hc;cases ef:Bv P fs (parts.toList.map (·.1)) with
    | none=>rw[ef]at aD;simp at aD
    | some ps =>
     rw[ef]at aD;simp only[Option.map_some,Option.some.injEq,Prod.mk.injEq]at aD;obtain ⟨rfl,rfl⟩:=aD;obtain ⟨z1,z2,z3⟩:=DC z hc.1;obtain ⟨places,pr,pl⟩:=Xi9 (P:=P) (w:=w) (fs:=fs) (fun f hf=>by
      have:=Array.all_eq_true'.1 hc.2 f (by simpa using hf);simpa using this)
     obtain ⟨cells',f1,f2⟩:=Mx ps (parts.toList.map (·.1)) (UD pl _ _ ef) ha aw hp z1 z2 z3;refine ⟨_,?_,f2⟩;simp only[execOp,hop];refine Zx ?_;simp only[Instr.build,Sem.run_bind,DD z hz,Result.andThen_ok,Value.cells,run_underlying hu,pr,HT,f1,Sem.run_pure]
   ·cases aD
  ·rename_i z n e hz hu;split at aD
   ·rename_i hc;cases df:Zr P e with
    | none=>rw[df]at aD;simp at aD
    | some m =>
     rw[df]at aD;simp only[Option.map_some,Option.some.injEq,Prod.mk.injEq]at aD;obtain ⟨rfl,rfl⟩:=aD;obtain ⟨z1,z2,z3⟩:=DC z hc;obtain ⟨cells',f1,f2⟩:=Mx (place:=fun i=>some (i*m,m)) (parts.toList.map fun (p:Nat×Operand)=>(p.1*m,m)) (parts.toList.map (fun (p:Nat×Operand)=>p.1)) aw ha aw (cs:=z.toList.map fE) hp z1 z2 z3;refine ⟨_,?_,f2⟩;simp only[execOp,hop];refine Zx ?_;simp only[Instr.build,Sem.run_bind,DD z hz,Result.andThen_ok,Value.cells,run_underlying hu,Jz df,HT,f1,Sem.run_pure]
   ·cases aD
  ·cases aD
 -- makeFunc
 ·rename_i f caps;simp only[Option.some.injEq,Prod.mk.injEq]at aD;obtain ⟨rfl,rfl⟩:=aD;have hl:=ha.length;refine ⟨.func (.func f) #[] (caps.map ρ),?_,.cl (by simp at hl ⊢;omega) fun j hj=>?_⟩
  ·simp[execOp,hop,Instr.makeFunc]
  ·have:=ha.get j hj;simpa using this
 ·cases aD
end
inductive PK where
 | call (f:FuncId)
 | dg
 | app (es jn:Nat) (str:Bool)
 | yK (es len:Nat) (zero:List AV) (parts:List (Nat×Nat))
 | DE
 | cA (ne:Bool) (t:TypeId)
 | HU (t:TypeId)
 | DF (t:TypeId)
 | wM (t:TypeId) (ok:Bool)
 | del (t:TypeId)
 | HV (t:TypeId)
 | cpy (t:TypeId)
 | MD (t:TypeId)
 | bG
 | ME
 | HX (es:Nat) (lo hi:Bool)
 | BC (t:TypeId)
 | DG (t:TypeId)
inductive bD where
 | q (d:Nat) (q:Q1) (xs:List TV) (gd:Option (Nat×Bool))
 | al (d:Nat) (z:List AV)
 | bx (d:Nat) (x:TV)
 | tD (ty:TY) (a v:TV)
 | pd (d:Option Nat) (k:PK) (xs:List TV) (gd:Option (Nat×Bool))
def nT (ops:Array Oper)(o:Oper):Option (Option (Nat×Bool)) :=
 match o.guard with
 | none=>some none
 | some (j,b)=>match (ops[j]?).bind (·.dst) with
  | some t=>some (some (t,b))
  | none=>none
def Xs (P:Program)(o:Oper):Option (PK×List Operand) :=
 match o.op with
 | .call ⟨.value (.func f),args,_⟩=>some (.call f,args.toList)
 | .call ⟨.value x,args,_⟩=>some (.dg,x::args.toList)
 | .call ⟨.builtin .append,⟨[x,y]⟩,⟨[t,u]⟩⟩=>match P.underlying t with
  | some (.slice e)=>match P.info? e with
   | some i=>match i.zero with
    | some z=>if z.cells.size=i.size/\0<i.size then (if u=t then some (.app i.size i.bytes false,[x,y]) else match P.underlying u with
     | some .string=>some (.app i.size i.bytes true,[x,y])
     | _=>none) else none
    | none=>none
   | none=>none
  | _=>none
 | .call ⟨.builtin .delete,⟨[x,y]⟩,⟨[t,_]⟩⟩=>some (.del t,[x,y])
 | .call ⟨.builtin .clear,⟨[x]⟩,⟨[t]⟩⟩=>some (.HV t,[x])
 | .call ⟨.builtin .copy,⟨[x,y]⟩,⟨[t,_]⟩⟩=>some (.cpy t,[x,y])
 | .buildSlice t len parts=>match P.underlying t with
  | some (.slice e)=>match P.info? e with
   | some i=>match i.zero with
    | some z=>if z.cells.size=i.size/\0<i.size/\z.cells.all (·.oneCell')/\len*i.size<=2 ^ 24/\len<=2 ^ 24 then some (.yK i.size len (z.cells.toList.map fE) (parts.toList.map fun p=>(p.1*i.size,i.size)),parts.toList.map (·.2)) else none
    | none=>none
   | none=>none
  | _=>none
 | .convert s d x=>match P.underlying s,P.underlying d with
  | some .string,some (.slice e)=>match P.underlying e with
   | some (.int .u8)=>some (.DE,[x])
   | _=>none
  | _,_=>none
 | .binOp .eql t x y _=>some (.cA false t,[x,y])
 | .binOp .neq t x y _=>some (.cA true t,[x,y])
 | .lookup t m k ok=>some (.wM t ok,[m,k])
 | .mapUpdate t m k v=>some (.DF t,[m,k,v])
 | .makeMap t r=>if (match r with|none=>true|some (.const (.int _ _))=>true|_=>false)=true then some (.HU t,[]) else none
 | .range t x=>some (.MD t,[x])
 | .next x false=>some (.bG,[x])
 | .entry x=>some (.ME,[x])
 | .slice t x lo hi (some mx)=>match P.underlying t with
  | some (.slice e)=>(Zr P e).map fun es=>(.HX es lo.isSome hi.isSome,x::(lo.toList++hi.toList++[mx]))
  | _=>none
 | .mapEntry t m k=>some (.BC t,[m,k])
 | .entryStore t m s v=>some (.DG t,[m,s,v])
 | _=>none
def Uu (P:Program)(N:Nat)(ops:Array Oper)(o:Oper):Option bD :=
 match nT ops o with
 | none=>none
 | some gd =>
  match o.op,o.dst with
  | .alloc t,some d=>match gd,(P.info? t).bind (·.zero) with
   | none,some z=>if d<N/\z.cells.all (·.oneCell') then some (.al d (z.cells.toList.map fE)) else none
   | _,_=>none
  | .box _ x,some d=>if d<N/\gd=none then some (.bx d (aP x)) else none
  | .store t a v,none=>match gd,lV P t with
   | none,some ty=>some (.tD ty (aP a) (aP v))
   | _,_=>none
  | _,dst=>match uN P o,dst with
   | some (q,xs),some d=>if d<N then some (.q d q (xs.map aP) gd) else none
   | _,_=>match Xs P o with
    | some (k,xs)=>if dst.all (· < N) then some (.pd dst k (xs.map aP) gd) else none
    | none=>none
structure bg where
 rt:List Nat
 rb:List Nat
 wt:List Nat
 wb:List Nat
def dA (s2 s':FS)(F:bg):FS:=⟨fun i=>if i ∈ F.wt then s'.T i else s2.T i,fun b=>if b ∈ F.wb then s'.H b else s2.H b⟩
def Uj (P:Program)(ops:Array Oper)(io:Oper)(a:Act)(w:World)(K:Act->World->Prop)(Q:Exit->Act->World->Prop):Prop :=
 if Region.wanted io (yielded ops a.tmps) then io.wp P a w K Q else K (a.put io.dst undef) w
structure kD (P:Program)(c:Cx)(ops:Array Oper)(io:Oper)(s:FS)(F:bg)(s':FS):Prop where
 a6:∀ i,i ∉ F.wt->s'.T i=s.T i
 dm:∀ b,b ∉ F.wb->s'.H b=s.H b
 step:∀ s2:FS,(∀ i ∈ F.rt,s2.T i=s.T i)->(∀ b ∈ F.rb,s2.H b=s.H b)->∀ g a w,R c g s2 a w->∀ K Q',(∀ g' a' w',R c g' (dA s2 s' F) a' w'->K a' w')->Uj P ops io a w K Q'
def HY {s s':FS}{F:bg}(hT:∀ i,i ∉ F.wt->s'.T i=s.T i)(hH:∀ b,b ∉ F.wb->s'.H b=s.H b):dA s s' F=s':=by
 unfold dA;cases s';congr 1
 ·funext i;split
  ·rfl
  ·rename_i h;exact (hT i h).symm
 ·funext b;split
  ·rfl
  ·rename_i h;exact (hH b h).symm
def Qh:AV->AV
 | .dU _ v=>v
 | v=>v
def ob:Option Bool->Prop->Prop
 | none,p=>p
 | some c,p=>c=true->p
def fb (c:Option Bool):AV->Prop
 | .dU b _=>ob c (b=true)
 | _=>True
def Qq (c:Option Bool):List AV->Prop
 | []=>True
 | x::xs=>fb c x/\Qq c xs
def Jm (c:Option Bool):Q1->List AV->Prop
 | .pick,[x,y,z]=>fb c x/\ob c (eU (Qh x)=true->fb none y)/\ob c (eU (Qh x)=false->fb none z)
 | _,xs=>Qq c xs
def cw:Option Bool->AV->AV
 | none,v=>v
 | some c,v=>.dU c v
def gB (s:FS):Option (Nat×Bool)->Option Bool
 | none=>none
 | some (t,want)=>match s.T t with
  | .bool b=>some (b==want)
  | .dU c (.bool b)=>some (c&&(b==want))
  | _=>some false
def gn (s:FS):Option (Nat×Bool)->Prop
 | none=>True
 | some (t,_)=>match s.T t with
  | .bool _=>True
  | .dU _ (.bool _)=>True
  | _=>False
def aC (gl:Nat->AV)(s:FS)(xs:List TV):List AV:=xs.map (aU gl s)
def yL (gl:Nat->AV)(s:FS)(q:Q1)(xs:List TV)(gd:Option (Nat×Bool)):Prop :=
 gn s gd/\Jm (gB s gd) q (aC gl s xs)/\ob (gB s gd) (qp q ((aC gl s xs).map Qh) (nQ s ((aC gl s xs).map Qh)))
def tF (gl:Nat->AV)(s:FS)(q:Q1)(xs:List TV)(gd:Option (Nat×Bool)):AV :=
 cw (gB s gd) (qv q ((aC gl s xs).map Qh) (nQ s ((aC gl s xs).map Qh)))
def Xf:List TV->List Nat
 | []=>[]
 | .t i::r=>i::Xf r
 | _::r=>Xf r
def jU:Option (Nat×Bool)->List Nat
 | none=>[]
 | some (t,_)=>[t]
def fc:Q1->Bool
 | .mv=>false
 | _=>true
def Ygh (L:List AV)(x y:Bk):qv .mv L x=qv .mv L y/\(qp .mv L y->qp .mv L x):=by
 rcases L with _|⟨a,_|⟨b,r⟩⟩<;>exact ⟨rfl,id⟩
def qO (gl:Nat->AV)(s:FS)(q:Q1)(d:Nat)(xs:List TV)(gd:Option (Nat×Bool)):bg :=
 ⟨jU gd++Xf xs,bif fc q then (Jw ((aC gl s xs).map Qh)).toList else [],[d],[]⟩
section
variable {P:Program}{c:Cx}{ops:Array Oper}{io:Oper}
def Ya {gl:Nat->AV}{s s2:FS}:∀ {xs:List TV},(∀ i ∈ Xf xs,s2.T i=s.T i)->aC gl s2 xs=aC gl s xs
 | [],_=>rfl
 | .t i::r,h=>by
  have h1:=h i (by simp[Xf]);have h2:=Ya (gl:=gl) (xs:=r) fun j hj=>h j (by simp[Xf,hj]);simp only[aC,map_cons,aU,h1]at *
  rw[h2]
 | .c v::r,h=>by
  have h2:=Ya (gl:=gl) (xs:=r) fun j hj=>h j hj;simp only[aC,map_cons,aU]at *
  rw[h2]
 | .gl i::r,h=>by
  have h2:=Ya (gl:=gl) (xs:=r) fun j hj=>h j hj;simp only[aC,map_cons,aU]at *
  rw[h2]
def HZ (h:io.guard=none)(f:Nat->Option Bool):Region.wanted io f=true:=by simp[Region.wanted,h]
def wN (aV:nT ops io=some gd){g:Nat->GM}    (hR:R c g s a w)(aS:gn s gd) :
  Region.wanted io (yielded ops a.tmps)=(gB s gd).getD true:=by
 unfold nT at aV;cases hg:io.guard with
 | none =>
  rw[hg]at aV;simp at aV;subst aV;rw[HZ hg];rfl
 | some p =>
  obtain ⟨j,b⟩:=p;rw[hg]at aV;simp only at aV;cases ht:(ops[j]?).bind (·.dst) with
  | none=>rw[ht]at aV;simp at aV
  | some t =>
   rw[ht]at aV;simp at aV;subst aV;have hv:=hR.t t;have hy:Region.wanted io (yielded ops a.tmps)=(match a.tmps.getD t undef with|.bool x=>x==b|_=>false):=by
    simp only[Region.wanted,hg,yielded,ht,Option.bind_some];rw[Array.getD_eq_getD_getElem?];cases qP:a.tmps[t]? with
    | none=>rfl
    | some v=>cases v<;>simp
   rw[hy];simp only[gn]at aS;simp only[gB];split at aS
   ·rename_i x e;rw[e]at hv;rw[hv.d6 trivial];rfl
   ·rename_i x y e;rw[e]at hv;generalize a.tmps.getD t undef=rv at hv ⊢;cases hv with
    | dU h h0 =>
     cases x with
     | true=>rw[(h rfl).d6 trivial];simp[eU]
     | false=>rw[h0 rfl];rfl
   ·exact aS.elim
def DH {g:Nat->GM}     (h:VR g W w x v)(hc:fb none x):VR g W w (Qh x) v:=by
 cases h with
 | dU h h0=>exact h hc
 | any=>exact .any _
 | int=>exact .int _ _
 | bool=>exact .bool _
 | str=>exact .str _
 | agg a b c=>exact .agg a b c
 | aR a b=>exact .aR a b
 | ptr a=>exact .ptr a
 | xp a b=>exact .xp a b
 | sl a b c d e f=>exact .sl a b c d e f
 | kz a b=>exact .kz a b
 | isl a b c d=>exact .isl a b c d
 | nils=>exact .nils _
 | cl a b=>exact .cl a b
 | mp a=>exact .mp a
 | lit=>exact .lit _
def UH {b:Bool}(hb:b=true)  (h:fb (some b) x):fb none x:=by
 cases x<;>simp_all [fb,ob]
def Yi {g:Nat->GM}{W:Nat->Prop}{w:World}:∀ {xs:List AV} {vs:List Value},bR g W w xs vs->Qq none xs->bR g W w (xs.map Qh) vs
 | [],[],_,_=>trivial
 | _::_,_::_,h,hc=>⟨DH h.1 hc.1,Yi h.2 hc.2⟩
 | [],_::_,h,_=>h.elim
 | _::_,[],h,_=>h.elim
def BD {b:Bool}(hb:b=true):∀ {xs:List AV},Qq (some b) xs->Qq none xs
 | [],_=>trivial
 | _::_,h=>⟨UH hb h.1,BD hb h.2⟩
def R.ci {g:Nat->GM}{s:FS}{a:Act}{w:World}(hR:R c g s a w):∀ (xs:List Operand),bR g (Qm c g s) w (aC c.gl s (xs.map aP)) (xs.map a.eval)
 | []=>trivial
 | x::xs=>⟨hR.ev x,R.ci hR xs⟩
def MF {g:Nat->GM}    (hR:R c g s a w)(l:List AV):Dw g (Qm c g s) w l (nQ s l):=by
 intro b hb;have:=hR.h b;unfold nQ;rw[hb];exact this
def Yfv {g:Nat->GM}{s:FS}{a:Act}{w:World}(hR:R c g s a w){q:Q1}{xs:List Operand}(lY:q=.pick->∃ x y z,xs=[x,y,z])
  (hc:Jm none q (aC c.gl s (xs.map aP))) :
  ∃ fV,bR g (Qm c g s) w fV (xs.map a.eval)∧Dw g (Qm c g s) w fV (nQ s ((aC c.gl s (xs.map aP)).map Qh)) ∧
   (∀ bk,qp q ((aC c.gl s (xs.map aP)).map Qh) bk->qp q fV bk/\qv q fV bk=qv q ((aC c.gl s (xs.map aP)).map Qh) bk):=by
 have jo:=hR.ci xs;by_cases hq:q=.pick
 ·obtain ⟨x,y,z,rfl⟩:=lY hq;subst hq;obtain ⟨h1,h2,h3,_⟩:=jo;simp only[aC,map_cons,map_nil,Jm,ob]at hc ⊢;obtain ⟨c1,c2,c3⟩:=hc;have hx:=DH h1 c1;cases hb:eU (Qh (aU c.gl s (aP x))) with
  | true =>
   refine ⟨[Qh (aU c.gl s (aP x)),Qh (aU c.gl s (aP y)),.any],⟨hx,DH h2 (c2 hb),.any _,trivial⟩,?_,fun bk hp=>?_⟩
   ·intro b dH;have:=MF hR [Qh (aU c.gl s (aP x)),Qh (aU c.gl s (aP y)),Qh (aU c.gl s (aP z))] b;refine this ?_;revert dH;cases Qh (aU c.gl s (aP x))<;>exact id
   ·obtain ⟨p1,p2,p3⟩:=hp;exact ⟨⟨p1,p2,fun h=>by rw[hb]at h;cases h⟩,by simp[qv,hb]⟩
  | false =>
   refine ⟨[Qh (aU c.gl s (aP x)),.any,Qh (aU c.gl s (aP z))],⟨hx,.any _,DH h3 (c3 hb),trivial⟩,?_,fun bk hp=>?_⟩
   ·intro b dH;have:=MF hR [Qh (aU c.gl s (aP x)),Qh (aU c.gl s (aP y)),Qh (aU c.gl s (aP z))] b;refine this ?_;revert dH;cases Qh (aU c.gl s (aP x))<;>exact id
   ·obtain ⟨p1,p2,p3⟩:=hp;exact ⟨⟨p1,fun h=>(by rw[hb]at h;cases h),p3⟩,by simp[qv,hb]⟩
 ·have Bx:Qq none (aC c.gl s (xs.map aP)):=by
   cases q<;>first|exact absurd rfl hq|exact hc
  exact ⟨_,Yi jo Bx,MF hR _,fun bk hp=>⟨hp,rfl⟩⟩
def UI {o:Oper}{q:Q1}{xs:List Operand}(h:uN P o=some (q,xs))(hq:q=.pick):∃ x y z,xs=[x,y,z]:=by
 subst hq;unfold uN HC Mq Mr Ms jS at h
 repeat' split at h
 all_goals first
  | (simp at h;obtain ⟨rfl⟩:=h;exact ⟨_,_,_,rfl⟩)
  | (simp at h;done)
  | (rename_i hh;cases hh;done)
  | (simp[Option.map_eq_some_iff]at h;done)
def yM {v:AV} :dA s2 (s.put d v) ⟨rt,rb,[d],[]⟩=s2.put d v:=by
 unfold dA FS.put;congr 1
 ·funext i;simp only[mem_singleton];by_cases h:d=i
  ·subst h;simp
  ·rw[aa (fun e=>h e.symm),aa h]
theorem Yhw {s:FS}{d:Nat}{q:Q1}{xs:List Operand}{gd:Option (Nat×Bool)}(aV:nT ops io=some gd)(a8:io.dst=some d)(hd:d<c.N)(aD:uN P io=some (q,xs))
  (hp:yL c.gl s q (xs.map aP) gd):kD P c ops io s (qO c.gl s q d (xs.map aP) gd) (s.put d (tF c.gl s q (xs.map aP) gd)):=by
 refine ⟨fun i hi=>?_,fun b _=>rfl,?_⟩
 ·rw[FS.dE,aa];rintro rfl;exact hi (by simp[qO])
 ·intro s2 hT hH g a w hR K Q' hK;have bj:aC c.gl s2 (xs.map aP)=aC c.gl s (xs.map aP):=Ya fun i hi=>hT i (by simp[qO,hi]);have hg:∀ t b,gd=some (t,b)->s2.T t=s.T t:=fun t b e=>hT t (by simp[qO,e,jU]);have jV:gB s2 gd=gB s gd:=by
   cases gd with
   | none=>rfl
   | some p=>obtain ⟨t,b⟩:=p;simp only[gB,hg t b rfl]
  have jW:gn s2 gd ↔ gn s gd:=by
   cases gd with
   | none=>exact Iff.rfl
   | some p=>obtain ⟨t,b⟩:=p;simp only[gn,hg t b rfl]
  have MG:∀ L,L=(aC c.gl s (xs.map aP)).map Qh->qv q L (nQ s2 L)=qv q L (nQ s L)/\(qp q L (nQ s L)->qp q L (nQ s2 L)):=fun L hL=>by
   cases hr:fc q with
   | true =>
    have MH:nQ s2 L=nQ s L:=by
     unfold nQ;cases hn:Jw L with
     | none=>rfl
     | some b=>exact hH b (by simp[qO,hr,<- hL,hn])
    rw[MH];exact ⟨rfl,id⟩
   | false =>
    have:q=.mv:=by cases q<;>first|rfl|(simp[fc]at hr)
    subst this;exact Ygh ..
  obtain ⟨nU,m7⟩:=MG _ rfl;obtain ⟨p1,p2,p3⟩:=hp;have m8:∀ v,VR g (Qm c g s2) w (tF c.gl s q (xs.map aP) gd) v->K (a.put io.dst v) w:=fun v hv=>by
   rw[a8];refine hK g _ w ?_;rw[show qO c.gl s q d (xs.map aP) gd=⟨jU gd++Xf (xs.map aP),bif fc q then (Jw ((aC c.gl s (xs.map aP)).map Qh)).toList else [],[d],[]⟩ from rfl,yM];exact hR.put hd hv
  unfold Uj;rw[wN aV hR (jW.2 p1),jV]
  -- where it is wanted
  have run:(∀ b,gB s gd=some b->b=true)->io.wp P a w K Q':=by
   intro hb;have uQ:Jm none q (aC c.gl s2 (xs.map aP)):=by
    rw[bj];cases bW:gB s gd with
    | none=>rw[bW]at p2;exact p2
    | some b =>
     have H7:=hb b bW;rw[bW]at p2;by_cases hq:q=.pick
     ·obtain ⟨x,y,z,rfl⟩:=UI aD hq;subst hq;simp only[aC,map_cons,map_nil,Jm]at p2 ⊢;exact ⟨UH H7 p2.1,p2.2.1 H7,p2.2.2 H7⟩
     ·have h1:Qq (some b) (aC c.gl s (xs.map aP)):=by cases q<;>first|exact absurd rfl hq|exact p2
      have h2:=BD H7 h1;cases q<;>first|exact absurd rfl hq|exact h2
   have hqp:qp q ((aC c.gl s (xs.map aP)).map Qh) (nQ s ((aC c.gl s (xs.map aP)).map Qh)):=by
    cases bW:gB s gd with
    | none=>rw[bW]at p3;exact p3
    | some b=>rw[bW]at p3;exact p3 (hb b bW)
   obtain ⟨fV,a1,a2,a3⟩:=Yfv hR (fun h=>UI aD h) uQ;rw[bj]at a2;rw[bj]at a3;obtain ⟨a4,a5⟩:=a3 _ (m7 hqp);obtain ⟨v,hr,hv⟩:=Ydg (P:=P) aD a.eval (fun _=>rfl) a1 a2 a4;unfold Oper.wp;rw[hr];refine m8 v ?_;rw[a5,nU]at hv;unfold tF;cases bW:gB s gd with
   | none=>exact hv
   | some b=>exact .dU (fun _=>hv) fun h=>by rw[hb b bW]at h;cases h
  cases bW:gB s gd with
  | none=>simp only[Option.getD_none,if_true];exact run fun b h=>by rw[bW]at h;cases h
  | some b =>
   cases b with
   | true=>simp only[Option.getD_some,if_true];exact run fun b h=>by rw[bW]at h;cases h;rfl
   | false =>
    simp only[Option.getD_some,Bool.false_eq_true,if_false];refine m8 undef ?_;unfold tF;rw[bW];exact .dU (fun h=>by cases h) fun _=>rfl
end
def lz:AV->Prop
 | .agg _=>True
 | v=>one v
def BE:TY->List AV->Nat->AV->Prop
 | .sc _,cs,off,v=>off<cs.length/\one v
 | .ag n,cs,off,.agg vs=>vs.length=n/\off+n<=cs.length
 | .ag _,_,_,_=>False
def uR (s:FS)(ty:TY)(a v:AV):Prop :=
 match a with
 | .ptr b off=>match s.H b with
  | .cells cs=>BE ty cs off v
  | _=>False
 | _=>False
def jN:AV->Nat
 | .ptr b _=>b
 | _=>0
def wO:AV->Nat
 | .ptr _ o=>o
 | _=>0
def Yy:Bk->List AV
 | .cells cs=>cs
 | _=>[]
section
variable {P:Program}{c:Cx}{ops:Array Oper}{io:Oper}
def UJ {v:AV}{x:Bk} :dA s2 ((s.aH b x).put d v) ⟨rt,rb,[d],[b]⟩=(s2.aH b x).put d v:=by
 unfold dA FS.put FS.aH;congr 1
 ·funext i;simp only[mem_singleton];by_cases h:d=i
  ·subst h;simp
  ·rw[aa (fun e=>h e.symm),aa h]
 ·funext i;simp only[mem_singleton];by_cases h:b=i
  ·subst h;simp
  ·rw[aa (fun e=>h e.symm),aa h]
def DI {x:Bk} :dA s2 (s.aH b x) ⟨rt,rb,[],[b]⟩=s2.aH b x:=by
 unfold dA FS.aH;congr 1;funext i;simp only[mem_singleton];by_cases h:b=i
 ·subst h;simp
 ·rw[aa (fun e=>h e.symm),aa h]
def Za {K:Act->World->Prop}{Q:Exit->Act->World->Prop}(h:io.guard=none)(hw:io.wp P a w K Q):Uj P ops io a w K Q:=by
 unfold Uj;rw[HZ h];exact hw
def Ji (h:nT ops io=some none):io.guard=none:=by
 unfold nT at h;cases hg:io.guard with
 | none=>rfl
 | some p =>
  obtain ⟨j,b⟩:=p;rw[hg]at h;simp only at h;split at h<;>simp at h
def UK {s:FS}{d b:Nat}{cs:List AV}{rt:List Nat}(hg:io.guard=none)(a8:io.dst=some d)(hd:d<c.N)(hf:s.H b=.free)
  (hrun:∀ s2:FS,(∀ i ∈ rt,s2.T i=s.T i)→∀ g a w,R c g s2 a w→∃ (cur:Array Value) (t:TypeId),(execOp a.eval io).run P w=.ok (.value (.pointer (some ⟨w.heap.size,0,none⟩))) (w.alloc (.cells cur t))∧cur.size=cs.length∧(∀ j,j < cs.length→(cur.getD j undef).oneCell'=true) ∧
   ∀ j,j<cs.length->VR g (Qm c g s2) w (cs.getD j .any) (cur.getD j undef)) :
  kD P c ops io s ⟨rt,[b],[d],[b]⟩ ((s.aH b (.cells cs)).put d (.ptr b 0)):=by
 refine ⟨fun i hi=>?_,fun i hi=>?_,fun s2 hT hH g a w hR K Q' hK=>Za hg ?_⟩
 ·rw[FS.dE,aa (fun e=>hi (by simp[e]))];rfl
 ·show (s.aH b _).H i=_;rw[FS.a7,aa (fun e=>hi (by simp[e]))]
 ·obtain ⟨cur,t,hr,hs,h1,hv⟩:=hrun s2 hT g a w hR;unfold Oper.wp;rw[hr];have iP:s2.H b=.free:=by rw[hH b aw,hf]
  have jk:∀ k,Qm c g s2 k->k<w.heap.size:=by
   rintro k (h|⟨b',hl,fF⟩)
   ·have:=(hR.xs k h).1;have:=hR.fr.size;omega
   ·exact BR.lt (fF ▸ hR.h b') hl
  have bc:=hR.new (b:=b) (x:=.cells cs) (.cells cur t) iP trivial fun g' fF=>by
   exact .cells (cur:=cur) (e:=t) (fz:=(0,0)) (heap_alloc_new w _) af h1 (fun j hj=>(hv j hj).mono (Fr.alloc w _ _) (fun k hk h=>h.resolve_right af) fF) (.inl rfl)
  show K (a.put io.dst _) _;rw[a8];refine hK (Zg g b (.re w.heap.size)) _ _ ?_;rw[UJ];refine bc.put hd (.ptr ?_);simp[Zg]
def Yf8 {z:Value}(aV:nT ops io=some none)(hop:io.op=.alloc t)(a8:io.dst=some d)(hd:d<c.N)(hz:(P.info? t).bind (·.zero)=some z)(h1:z.cells.all (·.oneCell')=true)(hf:s.H b=.free) :
  kD P c ops io s ⟨[],[b],[d],[b]⟩ ((s.aH b (.cells (z.cells.toList.map fE))).put d (.ptr b 0)):=by
 refine UK (Ji aV) a8 hd hf fun s2 _ g a w hR=>⟨z.cells,t,?_,by simp,?_⟩
 ·cases hi:P.info? t with
  | none=>rw[hi]at hz;simp at hz
  | some i =>
   rw[hi]at hz;simp at hz;simp[execOp,hop,Instr.alloc,zeroValue,typeInfo,hi,hz,newVar,newRow,newObj,Sem.run]
 ·have hv:=Bw (g:=g) (W:=Qm c g s2) (w:=w) (.agg z.cells);have pW:uM (.agg z.cells)=.agg (z.cells.toList.map fE):=am h1;rw[pW]at hv;obtain ⟨us,e,q1,q2,q3⟩:=Ui hv;cases e;exact ⟨q2,q3⟩
def Yen {x:Operand}(aV:nT ops io=some none)(hop:io.op=.box t x)(a8:io.dst=some d)(hd:d<c.N)(hx:lz (aU c.gl s (aP x)))(hf:s.H b=.free) :
  kD P c ops io s ⟨Xf [aP x],[b],[d],[b]⟩ ((s.aH b (.cells (Ke (aU c.gl s (aP x))))).put d (.ptr b 0)):=by
 refine UK (Ji aV) a8 hd hf fun s2 hT g a w hR=>?_;have jo:=hR.ev x;have he:aU c.gl s2 (aP x)=aU c.gl s (aP x):=by
  have:=Ya (gl:=c.gl) (xs:=[aP x]) hT;simpa [aC] using this
 rw[he]at jo;have hr:(execOp a.eval io).run P w=.ok (.value (.pointer (some ⟨w.heap.size,0,none⟩))) (w.alloc (.cells (a.eval x).cells t)):=by
  simp[execOp,hop,Instr.box,newVar,newRow,newObj,Sem.run]
 refine ⟨_,_,hr,?_⟩;by_cases Bz:∃ vs,aU c.gl s (aP x)=.agg vs
 ·obtain ⟨vs,e⟩:=Bz;rw[e]at jo ⊢;obtain ⟨us,e2,q1,q2,q3⟩:=Ui jo;rw[e2];exact ⟨q1,q2,q3⟩
 ·have h1:one (aU c.gl s (aP x)):=by
   revert hx Bz;cases aU c.gl s (aP x)<;>simp[lz,one]
  have gX:=jo.one h1;have aW:Ke (aU c.gl s (aP x))=[aU c.gl s (aP x)]:=by
   revert Bz;cases aU c.gl s (aP x)<;>simp[Ke]
  rw[aW,Mw gX];exact ⟨rfl,fun j hj=>by simp at hj;subst hj;exact gX,fun j hj=>by simp at hj;subst hj;exact jo⟩
def MI (w:World)(k o:Nat)(v:Value)(i:Nat):(w.setCell ⟨k,o,none⟩ v).heap[i]?=if i=k then (w.heap[k]?).map (fun x=>match x with|.cells c e fz=>.cells (c.setIfInBounds o v) e fz|x=>x) else w.heap[i]?:=by
 simp only[World.setCell,Array.getElem?_modify];by_cases h:k=i
 ·subst h;simp;cases w.heap[k]? with
  | none=>rfl
  | some x=>cases x<;>rfl
 ·rw[aa h,aa (fun e=>h e.symm)]
def MJ {k:Nat}{e:TypeId}{fz:Nat×Nat}(off:Nat):∀ (vs:List Value) (i:Nat) (w:World) (cur:Array Value),w.heap[k]?=some (.cells cur e fz)->(∀ v ∈ vs,v.oneCell'=true)->off+i+vs.length<=cur.size->(fz=(0,0)\/cur.size<=fz.1) ->
  ∃ w' eT,(storeCells ⟨k,off,none⟩ vs i).run P w=.ok () w'/\w'.heap[k]?=some (.cells eT e fz)/\eT.size=cur.size/\(∀ j,eT.getD j undef=if off+i<=j/\j<off+i+vs.length/\j<cur.size then vs.getD (j-(off+i)) undef else cur.getD j undef)/\Fr w w' (fun x=>x=k)
 | [],i,w,cur,hb,_,_,_=>⟨w,cur,rfl,hb,rfl,fun j=>by rw[aa (by simp;omega)],Fr.refl _ _⟩
 | v::vs,i,w,cur,hb,h1,hl,hf=>by
  have hlt:off+i<cur.size:=by simp at hl;omega
  have eQ:w.cell? ⟨k,off+i,none⟩=some cur[off+i]:=by rw[cell_of_row w k _ cur e fz hb];simp[hlt]
  have qQ:w.frozen? ⟨k,off+i,none⟩=false:=by
   simp only[World.frozen?,hb];rcases hf with h|h
   ·subst h;simp
   ·simp only[Bool.and_eq_false_iff,decide_eq_false_iff_not];omega
  have dW:(store ⟨k,off+i,none⟩ v).run P w=.ok () (w.setCell ⟨k,off+i,none⟩ v):=by
   rw[run_store P w _ v _ (h1 v aw),eQ];simp[qQ]
  have bL:(w.setCell ⟨k,off+i,none⟩ v).heap[k]?=some (.cells (cur.setIfInBounds (off+i) v) e fz):=by rw[MI,am rfl,hb];rfl
  obtain ⟨w',eT,hr,BB,hs,hg,m9⟩:=MJ off vs (i+1) _ _ bL (fun u hu=>h1 u (by simp[hu])) (by simp at hl ⊢;omega) (by simpa using hf);refine ⟨w',eT,?_,BB,by rw[hs];simp,fun j=>?_,?_⟩
  ·simp only[storeCells,Sem.run_bind,add_lit,dW,Result.andThen_ok,hr]
  ·rw[hg j];simp only[Array.size_setIfInBounds,length_cons];by_cases hj:j=off + i
   ·subst hj;rw[aa af,am af];simp[hlt]
   ·have e:(cur.setIfInBounds (off+i) v).getD j undef=cur.getD j undef:=by
     simp only[Array.getD_eq_getD_getElem?,Array.getElem?_setIfInBounds];rw[aa (fun h=>hj h.symm)]
    rw[e];by_cases hc:off+(i+1)<=j/\j<off+(i+1)+vs.length/\j<cur.size
    ·rw[am hc,am af];have:j - (off + i)=(j - (off + (i + 1))) + 1:=by omega
     rw[this];simp
    ·rw[aa hc,aa af]
  ·have h0:Fr w (w.setCell ⟨k,off+i,none⟩ v) (fun x=>x=k):=by
    refine ⟨rfl,rfl,rfl,by simp[World.setCell],fun x _ hx=>by rw[MI,aa hx],fun x c0 e0 f0 hx=>?_⟩;rw[MI];split
    ·rename_i ex;subst ex;rw[hb]at hx;cases hx;rw[hb];exact ⟨_,rfl,by simp⟩
    ·exact ⟨c0,hx,rfl⟩
   exact h0.trans m9 fun i _ h=>h
def BF {cur:Array Value}{n j:Nat}(h:j<n):(cur.extract 0 n).getD j undef=cur.getD j undef:=by
 simp only[Array.getD_eq_getD_getElem?,Array.getElem?_extract];by_cases hj:j<cur.size
 ·rw[am af];simp
 ·rw[aa af];simp[Nat.le_of_not_lt hj]
def Yah {s:FS}{t:TypeId}{ty:TY}{xa xv:Operand}(aV:nT ops io=some none)(hop:io.op=.store t xa xv)(a8:io.dst=none)(jT:lV P t=some ty)
  (hp:uR s ty (aU c.gl s (aP xa)) (aU c.gl s (aP xv))) :
  kD P c ops io s ⟨Xf [aP xa,aP xv],[jN (aU c.gl s (aP xa))],[],[jN (aU c.gl s (aP xa))]⟩
   (s.aH (jN (aU c.gl s (aP xa))) (.cells (uL ty (Yy (s.H (jN (aU c.gl s (aP xa))))) (wO (aU c.gl s (aP xa))) (aU c.gl s (aP xv))))):=by
 cases UL:aU c.gl s (aP xa)<;>rw[UL]at hp<;>simp only[uR]at hp
 rename_i b off;simp only[jN,wO];cases hH:s.H b<;>rw[hH]at hp<;>simp only at hp
 rename_i cs;simp only[Yy];refine ⟨fun i _=>rfl,fun i hi=>by rw[FS.a7,aa (fun e=>hi (by simp[e]))],fun s2 hT hHH g a w hR K Q' hK=>Za (Ji aV) ?_⟩;have bj:=Ya (gl:=c.gl) (xs:=[aP xa,aP xv]) hT;simp only[aC,map_cons,map_nil,List.cons.injEq,and_true]at bj;have UM:=hR.ev xa;have qR:=hR.ev xv;rw[bj.1,UL]at UM;rw[bj.2]at qR;obtain ⟨k,e1,e2⟩:=BA UM;have hb2:s2.H b=.cells cs:=by rw[hHH b aw,hH]
 have ez:=hR.h b;rw[hb2,e2]at ez
 -- the cells yN are stored
 have piece:∃ (vs:List AV),(a.eval xv).cells.size=vs.length∧off + vs.length≤cs.length∧Zr P t=some vs.length∧(∀ j,j < vs.length→((a.eval xv).cells.getD j undef).oneCell'=true)∧(∀ j,j < vs.length→VR g (Qm c g s2) w (vs.getD j .any) ((a.eval xv).cells.getD j undef)) ∧
   uL ty cs off (aU c.gl s (aP xv))=Yj cs off vs:=by
  cases ty with
  | sc q =>
   obtain ⟨hs,_⟩:=TR jT;obtain ⟨p1,p2⟩:=hp;have h1:=qR.one p2;rw[Mw h1];refine ⟨[aU c.gl s (aP xv)],rfl,by simp;omega,hs,fun j hj=>?_,fun j hj=>?_,UC p1⟩
   ·simp at hj;subst hj;exact h1
   ·simp at hj;subst hj;exact qR
  | ag n =>
   obtain ⟨hs,_⟩:=HF jT;clear hK;generalize aU c.gl s (aP xv)=ev at hp qR;cases ev<;>simp only[BE]at hp
   rename_i vs;obtain ⟨us,e3,q1,q2,q3⟩:=Ui qR;rw[e3];exact ⟨vs,q1,by omega,by rw[hs,hp.1],q2,q3,rfl⟩
 obtain ⟨vs,q1,q2,q3,q4,q5,q6⟩:=piece;rw[q6]at hK;by_cases cb:0<cs.length
 ·cases ez with
  | cells hb hl h1 hv hf =>
   rename_i cur e fz;obtain ⟨w',eT,r1,r2,r3,r4,r5⟩:=MJ (P:=P) off (a.eval xv).cells.toList 0 w cur hb (fun v hv=>by
    obtain ⟨j,hj,e⟩:=List.getElem_of_mem hv;have c4:j<vs.length:=by rw[<- q1];simpa using hj
    have:=q4 j c4;have e':(a.eval xv).cells.getD j undef=v:=by
     rw[<- e];have:j<(a.eval xv).cells.size:=by simpa using hj
     simp[Array.getD,this]
    rw[<- e'];exact this) (by simp[q1];omega) hf
   have hrun:(execOp a.eval io).run P w=.ok .skip w':=by
    simp only[execOp,hop,e1,Instr.storeAt,Instr.sureAddr,storeVar,Sem.run_bind,Sem.run_pure,Result.andThen_ok,Jz q3];rw[aa (by rw[q1];simp)];simp[r1]
   unfold Oper.wp;rw[hrun];show K (a.put io.dst undef) w';rw[a8];refine hK g a w' ?_;rw[DI];have aO:(s2.H b).live:=by rw[hb2];trivial
   have hk:Qm c g s2 k:=.inr ⟨b,aO,e2⟩;have l5:∀ {x v},VR g (Qm c g s2) w x v->VR g (Qm c g s2) w' x v:=fun hx=>hx.mono (r5.weak fun i e=>e ▸ hk) (fun _ _ h=>h) (fun _ _=>rfl)
   -- the row fV it was,but for its end,and the piece
   obtain ⟨t1,t2,t3⟩:=UB (g:=g) (W:=Qm c g s2) (w:=w') (cs:=cs) (cells:=cur.extract 0 cs.length) (by simp;omega)
    (fun j hj=>by rw[BF hj];exact h1 j hj) (fun j hj=>by rw[BF hj];exact l5 (hv j hj)) (vs:=vs) (us:=(a.eval xv).cells) q1 q4 (fun j hj=>l5 (q5 j hj)) q2 (cells':=eT.extract 0 cs.length) (by simp;omega) (fun j=>by
     by_cases hj:j<cs.length
     ·rw[BF hj,BF hj,r4 j];simp only[Nat.add_zero,Array.length_toList,Array.size_extract,Nat.sub_zero];by_cases eLa:off≤j∧j < off + (a.eval xv).cells.size
      ·rw[am af,am af];simp[Array.getD_eq_getD_getElem?]
      ·rw[aa af,aa af]
     ·rw[aa (by simp;omega)];have e1:(eT.extract 0 cs.length).getD j undef=undef:=by simp[Array.getD];omega
      have e2:(cur.extract 0 cs.length).getD j undef=undef:=by simp[Array.getD];omega
      rw[e1,e2])
   have hlen:=UA q2;refine hR.setBlock e2 aO trivial r5 (.cells r2 (by rw[hlen,r3];exact hl) (fun j hj=>?_) (fun j hj=>?_) (by rw[r3];exact hf))
   ·have:=t2 j hj;rwa [BF af]at this
   ·have:=t3 j hj;rwa [BF af]at this
 ·have iE:cs=[]:=List.eq_nil_of_length_eq_zero af;subst iE;have MK:vs=[]:=List.eq_nil_of_length_eq_zero (by simp at q2;simp[q2]);subst MK;have hrun:(execOp a.eval io).run P w=.ok .skip w:=by
   have gX:(a.eval xv).cells=#[]:=Array.eq_empty_of_size_eq_zero q1;simp only[execOp,hop,e1,Instr.storeAt,Instr.sureAddr,storeVar,Sem.run_bind,Sem.run_pure,Result.andThen_ok,Jz q3];rw[aa (by rw[q1];simp)];simp[gX,storeCells]
  unfold Oper.wp;rw[hrun];show K (a.put io.dst undef) w;rw[a8];refine hK g a w ?_;rw[DI];have:s2.aH b (.cells (Yj [] off []))=s2:=by
   unfold FS.aH Yj;cases s2;congr 1;funext i;split
   ·rename_i e;subst e;simp at hb2;simp[hb2]
   ·rfl
  rw[this];exact hR
end
section
variable {P:Program}{N:Nat}{ops:Array Oper}{io:Oper}
def Yex {q:Q1}{xs:List TV}  (h:Uu P N ops io=some (.q d q xs gd)) :
  nT ops io=some gd/\io.dst=some d/\d<N/\∃ ys,uN P io=some (q,ys)/\xs=ys.map aP:=by
 unfold Uu at h;split at h
 ·cases h
 ·rename_i DJ hg;split at h
  ·split at h
   ·split at h<;>simp at h
   ·cases h
  ·split at h<;>simp at h
  ·split at h<;>simp at h
  ·split at h
   ·rename_i q' ys d' hq hd;split at h
    ·rename_i hlt;simp only[Option.some.injEq,bD.q.injEq]at h;obtain ⟨rfl,rfl,rfl,rfl⟩:=h;exact ⟨hg,hd,hlt,ys,hq,rfl⟩
    ·cases h
   ·split at h
    ·split at h<;>simp at h
    ·cases h
def Ycm (h:Uu P N ops io=some (.al d z)):nT ops io=some none/\io.dst=some d/\d<N/\∃ t zv,io.op=.alloc t/\(P.info? t).bind (·.zero)=some zv/\zv.cells.all (·.oneCell')=true/\z=zv.cells.toList.map fE:=by
 unfold Uu at h;split at h
 ·cases h
 ·rename_i DJ hg;split at h
  ·rename_i t d' hop hd;split at h
   ·rename_i zv hz;split at h
    ·rename_i hc;simp only[Option.some.injEq,bD.al.injEq]at h;obtain ⟨rfl,rfl⟩:=h;exact ⟨hg,hd,hc.1,t,zv,hop,hz,hc.2,rfl⟩
    ·cases h
   ·cases h
  ·split at h<;>simp at h
  ·split at h<;>simp at h
  ·split at h
   ·split at h<;>simp at h
   ·split at h
    ·split at h<;>simp at h
    ·cases h
def Yay {x:TV}(h:Uu P N ops io=some (.bx d x)):nT ops io=some none/\io.dst=some d/\d<N/\∃ t y,io.op=.box t y/\x=aP y:=by
 unfold Uu at h;split at h
 ·cases h
 ·rename_i DJ hg;split at h
  ·split at h
   ·split at h<;>simp at h
   ·cases h
  ·rename_i t y d' hop hd;split at h
   ·rename_i hc;simp only[Option.some.injEq,bD.bx.injEq]at h;obtain ⟨rfl,rfl⟩:=h;exact ⟨by rw[hg,hc.2],hd,hc.1,t,y,hop,rfl⟩
   ·cases h
  ·split at h<;>simp at h
  ·split at h
   ·split at h<;>simp at h
   ·split at h
    ·split at h<;>simp at h
    ·cases h
def Xuc {ty:TY}{x y:TV}(h:Uu P N ops io=some (.tD ty x y)):nT ops io=some none/\io.dst=none/\∃ t xa xv,io.op=.store t xa xv/\lV P t=some ty/\x=aP xa/\y=aP xv:=by
 unfold Uu at h;split at h
 ·cases h
 ·rename_i DJ hg;split at h
  ·split at h
   ·split at h<;>simp at h
   ·cases h
  ·split at h<;>simp at h
  ·rename_i t a v hop hd;split at h
   ·rename_i jT;simp only[Option.some.injEq,bD.tD.injEq]at h;obtain ⟨rfl,rfl,rfl⟩:=h;exact ⟨hg,hd,t,a,v,hop,jT,rfl,rfl⟩
   ·cases h
  ·split at h
   ·split at h<;>simp at h
   ·split at h
    ·split at h<;>simp at h
    ·cases h
def Zj {d:Option Nat}{k:PK}{xs:List TV}  (h:Uu P N ops io=some (.pd d k xs gd)) :
  nT ops io=some gd/\io.dst=d/\d.all (· < N)=true/\∃ ys,Xs P io=some (k,ys)/\xs=ys.map aP:=by
 unfold Uu at h;split at h
 ·cases h
 ·rename_i DJ hg;split at h
  ·split at h
   ·split at h<;>simp at h
   ·cases h
  ·split at h<;>simp at h
  ·split at h<;>simp at h
  ·split at h
   ·split at h<;>simp at h
   ·split at h
    ·rename_i k' ys hk;split at h
     ·rename_i hd;simp only[Option.some.injEq,bD.pd.injEq]at h;obtain ⟨rfl,rfl,rfl,rfl⟩:=h;exact ⟨hg,rfl,hd,ys,hk,rfl⟩
     ·cases h
    ·cases h
end
def Kn (P:Program)(c:Cx)(o:bD)(s:FS)(F:bg)(s':FS):Prop:=∀ ops io,Uu P c.N ops io=some o->kD P c ops io s F s'
def ML (P:Program)(c:Cx)(o:bD)(K:St->Prop)(s:St):Prop:=∃ F s',Kn P c o s.fs F s'.fs/\K s'
def H8 (P:Program)(c:Cx)(o:bD)(K:St->Prop)(s:St):Prop:=∀ ops io,Uu P c.N ops io=some o->∀ g a w,R c g s.fs a w->∀ (K':Act->World->Prop) (Q':Exit->Act->World->Prop),(∀ g' s' a' w',K s'->R c g' s'.fs a' w'->K' a' w')->Uj P ops io a w K' Q'
def MM (P:Program)(c:Cx)(o:bD)(K:bg->St->Prop)(s:St):Prop:=∃ F s',Kn P c o s.fs F s'.fs/\K F s'
def XP (P:Program)(c:Cx):List bD->(St->Prop)->St->Prop
 | [],K,s=>K s
 | .q d q xs gd::r,K,s=>yL c.gl s.fs q xs gd/\XP P c r K (s.put d (tF c.gl s.fs q xs gd))
 | .al d z::r,K,s=>s.fs.H s.n=.free/\XP P c r K ((s.nw (.cells z)).put d (.ptr s.n 0))
 | .bx d x::r,K,s=>lz (aU c.gl s.fs x)/\s.fs.H s.n=.free/\XP P c r K ((s.nw (.cells (Ke (aU c.gl s.fs x)))).put d (.ptr s.n 0))
 | .tD ty a v::r,K,s=>uR s.fs ty (aU c.gl s.fs a) (aU c.gl s.fs v) ∧
   XP P c r K (s.aH (jN (aU c.gl s.fs a)) (.cells (uL ty (Yy (s.fs.H (jN (aU c.gl s.fs a)))) (wO (aU c.gl s.fs a)) (aU c.gl s.fs v))))
 | .pd d k xs gd::r,K,s=>ML P c (.pd d k xs gd) (XP P c r K) s\/H8 P c (.pd d k xs gd) (XP P c r K) s
def cU (x y:bg):Bool:=x.wt.any (fun i=>y.rt.contains i||y.wt.contains i)||y.wt.any (fun i=>x.rt.contains i)||x.wb.any (fun i=>y.rb.contains i||y.wb.contains i)||y.wb.any (fun i=>x.rb.contains i)
def Uo (anc:Nat)(y:bg):Nat->List bg->Bool
 | _,[]=>true
 | i,x::r=>(!cU x y||anc.testBit i)&&Uo anc y (i+1) r
def Ud (anc:List Nat)(fs:List bg):List bg->Bool
 | []=>true
 | y::r=>Uo (anc.getD fs.length 0) y 0 fs&&Ud anc (fs++[y]) r
def XD (P:Program)(c:Cx)(anc:List Nat):List bD->List bg->(St->Prop)->St->Prop
 | [],fs,K,s=>Ud anc [] fs.reverse=true/\K s
 | .q d q xs gd::r,fs,K,s=>yL c.gl s.fs q xs gd/\XD P c anc r (qO c.gl s.fs q d xs gd::fs) K (s.put d (tF c.gl s.fs q xs gd))
 | .al d z::r,fs,K,s=>s.fs.H s.n=.free/\XD P c anc r (⟨[],[s.n],[d],[s.n]⟩::fs) K ((s.nw (.cells z)).put d (.ptr s.n 0))
 | .bx d x::r,fs,K,s=>lz (aU c.gl s.fs x)/\s.fs.H s.n=.free/\XD P c anc r (⟨Xf [x],[s.n],[d],[s.n]⟩::fs) K ((s.nw (.cells (Ke (aU c.gl s.fs x)))).put d (.ptr s.n 0))
 | .tD ty a v::r,fs,K,s=>uR s.fs ty (aU c.gl s.fs a) (aU c.gl s.fs v) ∧
   XD P c anc r (⟨Xf [a,v],[jN (aU c.gl s.fs a)],[],[jN (aU c.gl s.fs a)]⟩::fs) K (s.aH (jN (aU c.gl s.fs a)) (.cells (uL ty (Yy (s.fs.H (jN (aU c.gl s.fs a)))) (wO (aU c.gl s.fs a)) (aU c.gl s.fs v))))
 | .pd d k xs gd::r,fs,K,s=>MM P c (.pd d k xs gd) (fun F=>XD P c anc r (F::fs) K) s
def Yn (P:Program)(c:Cx)(o:bD)(r:List bD)(K:St->Prop)(s:St):Prop:=ML P c o (XP P c r K) s\/H8 P c o (XP P c r K) s
def Zm (P:Program)(c:Cx)(anc:List Nat)(o:bD)(r:List bD)(fs:List bg)(K:St->Prop)(s:St):Prop:=MM P c o (fun F=>XD P c anc r (F::fs) K) s
section
variable {P:Program}{c:Cx}{K:St->Prop}{s:St}{r:List bD}{anc:List Nat}{fs:List bg}
theorem Yg3:XP P c [] K s=K s:=rfl
theorem Yjn (d:Nat)(q:Q1)(xs:List TV)(gd:Option (Nat×Bool)):XP P c (.q d q xs gd::r) K s=(yL c.gl s.fs q xs gd/\XP P c r K (s.put d (tF c.gl s.fs q xs gd))):=rfl
theorem Yhl (d:Nat)(z:List AV):XP P c (.al d z::r) K s=(s.fs.H s.n=.free/\XP P c r K ((s.nw (.cells z)).put d (.ptr s.n 0))):=rfl
theorem Yj7 (d:Nat)(x:TV):XP P c (.bx d x::r) K s=(lz (aU c.gl s.fs x)/\s.fs.H s.n=.free/\XP P c r K ((s.nw (.cells (Ke (aU c.gl s.fs x)))).put d (.ptr s.n 0))):=rfl
theorem Yf5 (ty:TY)(a v:TV):XP P c (.tD ty a v::r) K s=(uR s.fs ty (aU c.gl s.fs a) (aU c.gl s.fs v) /\
   XP P c r K (s.aH (jN (aU c.gl s.fs a)) (.cells (uL ty (Yy (s.fs.H (jN (aU c.gl s.fs a)))) (wO (aU c.gl s.fs a)) (aU c.gl s.fs v))))):=rfl
theorem Yhv (d:Option Nat)(k:PK)(xs:List TV)(gd:Option (Nat×Bool)):XP P c (.pd d k xs gd::r) K s=Yn P c (.pd d k xs gd) r K s:=rfl
theorem Yea:XD P c anc [] fs K s=(Ud anc [] fs.reverse=true/\K s):=rfl
theorem Yjt (d:Nat)(q:Q1)(xs:List TV)(gd:Option (Nat×Bool)):XD P c anc (.q d q xs gd::r) fs K s=(yL c.gl s.fs q xs gd/\XD P c anc r (qO c.gl s.fs q d xs gd::fs) K (s.put d (tF c.gl s.fs q xs gd))):=rfl
theorem Yix (d:Nat)(z:List AV):XD P c anc (.al d z::r) fs K s=(s.fs.H s.n=.free/\XD P c anc r (⟨[],[s.n],[d],[s.n]⟩::fs) K ((s.nw (.cells z)).put d (.ptr s.n 0))):=rfl
theorem Yi2 (d:Nat)(x:TV):XD P c anc (.bx d x::r) fs K s=(lz (aU c.gl s.fs x)/\s.fs.H s.n=.free/\XD P c anc r (⟨Xf [x],[s.n],[d],[s.n]⟩::fs) K ((s.nw (.cells (Ke (aU c.gl s.fs x)))).put d (.ptr s.n 0))):=rfl
theorem Yey (ty:TY)(a v:TV):XD P c anc (.tD ty a v::r) fs K s=(uR s.fs ty (aU c.gl s.fs a) (aU c.gl s.fs v) /\
   XD P c anc r (⟨Xf [a,v],[jN (aU c.gl s.fs a)],[],[jN (aU c.gl s.fs a)]⟩::fs) K (s.aH (jN (aU c.gl s.fs a)) (.cells (uL ty (Yy (s.fs.H (jN (aU c.gl s.fs a)))) (wO (aU c.gl s.fs a)) (aU c.gl s.fs v))))):=rfl
theorem Yim (d:Option Nat)(k:PK)(xs:List TV)(gd:Option (Nat×Bool)):XD P c anc (.pd d k xs gd::r) fs K s=Zm P c anc (.pd d k xs gd) r fs K s:=rfl
end
section
variable {P:Program}{c:Cx}
def MN {s:St}  {q:Q1}{xs:List TV}  (hp:yL c.gl s.fs q xs gd):Kn P c (.q d q xs gd) s.fs (qO c.gl s.fs q d xs gd) (s.put d (tF c.gl s.fs q xs gd)).fs:=by
 intro ops io he;obtain ⟨h1,h2,h3,ys,h4,rfl⟩:=Yex he;rw[St.bS];exact Yhw h1 h2 h3 h4 hp
def UN {s:St}   (hf:s.fs.H s.n=.free):Kn P c (.al d z) s.fs ⟨[],[s.n],[d],[s.n]⟩ ((s.nw (.cells z)).put d (.ptr s.n 0)).fs:=by
 intro ops io he;obtain ⟨h1,h2,h3,t,zv,h4,h5,h6,rfl⟩:=Ycm he;rw[St.bS,St.iw];exact Yf8 h1 h4 h2 h3 h5 h6 hf
def UO {s:St}  {x:TV}(hx:lz (aU c.gl s.fs x))(hf:s.fs.H s.n=.free):Kn P c (.bx d x) s.fs ⟨Xf [x],[s.n],[d],[s.n]⟩ ((s.nw (.cells (Ke (aU c.gl s.fs x)))).put d (.ptr s.n 0)).fs:=by
 intro ops io he;obtain ⟨h1,h2,h3,t,y,h4,rfl⟩:=Yay he;rw[St.bS,St.iw];exact Yen h1 h4 h2 h3 hx hf
def UP {s:St}{ty:TY}{a v:TV}(hp:uR s.fs ty (aU c.gl s.fs a) (aU c.gl s.fs v)) :
  Kn P c (.tD ty a v) s.fs ⟨Xf [a,v],[jN (aU c.gl s.fs a)],[],[jN (aU c.gl s.fs a)]⟩ (s.aH (jN (aU c.gl s.fs a)) (.cells (uL ty (Yy (s.fs.H (jN (aU c.gl s.fs a)))) (wO (aU c.gl s.fs a)) (aU c.gl s.fs v)))).fs:=by
 intro ops io he;obtain ⟨h1,h2,t,xa,xv,h3,h4,rfl,rfl⟩:=Xuc he;rw[St.cj];exact Yah h1 h3 h2 h4 hp
def Yde {o:bD}{r:List bD}  {s:St}(h:XP P c (o::r) K s):(∃ F s',Kn P c o s.fs F s'.fs/\XP P c r K s')\/H8 P c o (XP P c r K) s:=by
 cases o with
 | q d q xs gd=>exact .inl ⟨_,_,MN h.1,h.2⟩
 | al d z=>exact .inl ⟨_,_,UN h.1,h.2⟩
 | bx d x=>exact .inl ⟨_,_,UO h.1 h.2.1,h.2.2⟩
 | tD ty a v=>exact .inl ⟨_,_,UP h.1,h.2⟩
 | pd d k xs gd=>exact h
def Ybd {anc:List Nat}{o:bD}{r:List bD}{fs:List bg}  {s:St}(h:XD P c anc (o::r) fs K s):∃ F s',Kn P c o s.fs F s'.fs/\XD P c anc r (F::fs) K s':=by
 cases o with
 | q d q xs gd=>exact ⟨_,_,MN h.1,h.2⟩
 | al d z=>exact ⟨_,_,UN h.1,h.2⟩
 | bx d x=>exact ⟨_,_,UO h.1 h.2.1,h.2.2⟩
 | tD ty a v=>exact ⟨_,_,UP h.1,h.2⟩
 | pd d k xs gd=>exact h
def Zq (P:Program)(N:Nat)(ops:Array Oper):List Oper->Option (List bD)
 | []=>some []
 | o::r=>match Uu P N ops o,Zq P N ops r with
  | some x,some l=>some (x::l)
  | _,_=>none
def MO {ops:Array Oper}{Q:Exit->Act->World->Prop}{K:St->Prop}(hK:∀ s g a w,K s->R c g s.fs a w->Q .normal a w):∀ (os:List Oper) (l:List bD) (s:St),Zq P c.N ops os=some l->XP P c l K s ->
  ∀ g a w,R c g s.fs a w->wpList P ops Q os a w
 | [],l,s,he,h,g,a,w,hR=>by
  simp[Zq]at he;subst he;exact hK s g a w h hR
 | o::os,l,s,he,h,g,a,w,hR=>by
  unfold Zq at he;split at he
  ·rename_i x l' hx hl;simp at he;subst he;have:Uj P ops o a w (wpList P ops Q os) Q:=by
    rcases Yde h with ⟨F,s',hA,hr⟩|hS
    ·have yO:=hA ops o hx;exact yO.step s.fs (fun _ _=>rfl) (fun _ _=>rfl) g a w hR (wpList P ops Q os) Q fun g' a' w' bc=>by
      rw[HY yO.a6 yO.dm]at bc;exact MO hK os l' s' hl hr g' a' w' bc
    ·exact hS ops o hx g a w hR (wpList P ops Q os) Q fun g' s' a' w' hk bc=>MO hK os l' s' hl hk g' a' w' bc
   unfold Uj at this;unfold wpList;split
   ·rename_i hw;rw[am hw]at this;exact .inl this
   ·rename_i hw;rw[aa hw]at this;exact this
  ·cases he
end
def lB (o:Oper):List Nat:=(o.after.toList.filter fun e=>Region.binds .any e).map (·.on)
def uS (acc:List Nat):List Nat->Nat
 | []=>0
 | e::r=>(uS acc r ||| (1 <<< e)) ||| acc.getD e 0
def pY:List Oper->List Nat->List Nat
 | [],acc=>acc
 | o::r,acc=>pY r (acc++[uS acc (lB o)])
def UQ (acc:List Nat)(i:Nat):∀ l:List Nat,(uS acc l).testBit i=true->i ∈ l\/∃ e ∈ l,(acc.getD e 0).testBit i=true
 | [],h=>by simp[uS]at h
 | e::r,h=>by
  simp only[uS,Nat.testBit_or,Bool.or_eq_true]at h;rcases h with (h|h)|h
  ·rcases UQ acc i r h with h|⟨x,hx,h⟩
   ·exact .inl (by simp[h])
   ·exact .inr ⟨x,by simp[hx],h⟩
  ·rw[Nat.one_shiftLeft,Nat.testBit_two_pow]at h;exact .inl (by simp at h;simp[h])
  ·exact .inr ⟨e,by simp,h⟩
def DK (ops:Array Oper):Bool:=(List.range ops.size).all fun j=>match ops[j]? with
 | some o=>(lB o).all (· < j)
 | none=>true
def MP {ops:Array Oper}{L:Nat->Prop}(aW:∀ (j:Nat) o,ops[j]?=some o->L j->∀ e ∈ lB o,L e):∀ (l:List Oper) (acc:List Nat),(∀ i,l[i]?=ops[acc.length+i]?) ->
  (∀ j,j<acc.length->L j->∀ i,(acc.getD j 0).testBit i=true->L i)->∀ j,L j->∀ i,((pY l acc).getD j 0).testBit i=true->L i
 | [],acc,_,h,j,hj,i,hi=>by
  by_cases hlt:j<acc.length
  ·exact h j hlt hj i hi
  ·have:acc.getD j 0=0:=by simp[List.getD,Nat.le_of_not_lt hlt]
   rw[pY,this]at hi;simp at hi
 | o::r,acc,hl,h,j,hj,i,hi=>by
  refine MP aW r (acc++[uS acc (lB o)]) (fun k=>?_) (fun k hk MQ m hm=>?_) j hj i hi
  ·have:=hl (k+1);simp only[List.getElem?_cons_succ]at this;rw[this];congr 1;simp;omega
  ·by_cases hlt:k < acc.length
   ·have:(acc++[uS acc (lB o)]).getD k 0=acc.getD k 0:=by
     simp only[List.getD];rw[getElem?_append_left hlt]
    rw[this]at hm;exact h k hlt MQ m hm
   ·have MR:k=acc.length:=by simp at hk;omega
    subst MR;have:(acc++[uS acc (lB o)]).getD acc.length 0=uS acc (lB o):=by
     simp[List.getD]
    rw[this]at hm;have ho:ops[acc.length]?=some o:=by have:=hl 0;simpa using this.symm
    rcases UQ _ _ _ hm with hm|⟨e,he,rJ⟩
    ·exact aW _ o ho MQ m hm
    ·have hLe:=aW _ o ho MQ e he;by_cases DL:e < acc.length
     ·exact h e DL hLe m rJ
     ·have:acc.getD e 0=0:=by simp[List.getD,Nat.le_of_not_lt DL]
      rw[this]at rJ;simp at rJ
def UR {anc:Nat}{y:bg}:∀ (l:List bg) (k:Nat),Uo anc y k l=true->∀ i (hi:i<l.length),cU l[i] y=true->anc.testBit (k+i)=true
 | x::l,k,h,i,hi,hc=>by
  simp only[Uo,Bool.and_eq_true,Bool.or_eq_true,Bool.not_eq_true']at h;cases i with
  | zero =>
   rcases h.1 with h1|h1
   ·simp at hc;rw[hc]at h1;cases h1
   ·simpa using h1
  | succ i =>
   have:=UR l (k+1) h.2 i (by simpa using hi) (by simpa using hc)
   rwa [show k+1+i=k+(i+1) by omega]at this
 | [],_,_,i,hi,_=>absurd hi aw
def H9 {anc:List Nat}:∀ (l pre:List bg),Ud anc pre l=true->∀ j (hj:j<l.length) i (hi:i<(pre++l).length),i<pre.length+j->cU (pre++l)[i] l[j]=true->(anc.getD (pre.length+j) 0).testBit i=true
 | y::l,pre,h,j,hj,i,hi,hlt,hc=>by
  simp only[Ud,Bool.and_eq_true]at h;cases j with
  | zero =>
   have nV:i<pre.length:=by omega
   have:=UR pre 0 h.1 i nV (by simpa [List.getElem_append_left nV] using hc);simpa using this
  | succ j =>
   have:=H9 l (pre++[y]) h.2 j (by simpa using hj) i (by simpa using hi) (by simp;omega) (by simpa using hc);simp only[length_append,List.length_singleton]at this
   rwa [show pre.length+1+j=pre.length+(j+1) by omega]at this
 | [],_,_,j,hj,_,_,_,_=>absurd hj aw
section
variable {P:Program}{c:Cx}{ops:Array Oper}
def Ia {anc:List Nat}{K:St->Prop}:∀ (os:List Oper) (l:List bD) (fs:List bg) (s:St),Zq P c.N ops os=some l->XD P c anc l fs K s ->
  ∃ (S:Nat->FS) (F:Nat->bg) (sn:St),S 0=s.fs/\(∀ j o,os[j]?=some o->kD P c ops o (S j) (F j) (S (j+1)))/\sn.fs=S os.length/\K sn/\Ud anc [] (fs.reverse++(List.range os.length).map F)=true
 | [],l,fs,s,he,h=>by
  simp[Zq]at he;subst he;exact ⟨fun _=>s.fs,fun _=>⟨[],[],[],[]⟩,s,rfl,fun j o h=>by simp at h,rfl,h.2,by simpa using h.1⟩
 | o::os,l,fs,s,he,h=>by
  unfold Zq at he;split at he
  ·rename_i x l' hx hl;simp at he;subst he;obtain ⟨F0,s',hA,hr⟩:=Ybd h;obtain ⟨S,F,sn,h1,h2,h3,h4,h5⟩:=Ia os l' (F0::fs) s' hl hr;refine ⟨fun j=>match j with|0=>s.fs|j + 1=>S j,fun j=>match j with|0=>F0|j + 1=>F j,sn,rfl,fun j o' ho=>?_,h3,h4,?_⟩
   ·cases j with
    | zero =>
     simp at ho;subst ho;have:=hA ops o hx;simpa [h1] using this
    | succ j=>exact h2 j o' (by simpa using ho)
   ·rw[length_cons,List.range_succ_eq_map];simp only[map_cons,List.map_map];simp only[List.reverse_cons,append_assoc,List.singleton_append]at h5;exact h5
  ·cases he
def SL (L:Nat->Bool)(S:Nat->FS)(F:Nat->bg):Nat->FS
 | 0=>S 0
 | m+1=>if L m then dA (SL L S F m) (S (m+1)) (F m) else SL L S F m
def MS (x y:bg):Prop:=(∃ i ∈ x.wt,i ∈ y.rt\/i ∈ y.wt)\/(∃ i ∈ y.wt,i ∈ x.rt)\/(∃ i ∈ x.wb,i ∈ y.rb\/i ∈ y.wb)\/(∃ i ∈ y.wb,i ∈ x.rb)
def MT {x y:bg}(h:MS x y):cU x y=true:=by
 unfold cU;simp only[Bool.or_eq_true,List.any_eq_true,List.contains_iff_mem];rcases h with h|h|h|h
 ·exact .inl (.inl (.inl h))
 ·exact .inl (.inl (.inr h))
 ·exact .inl (.inr h)
 ·exact .inr h
structure Ch (n:Nat)(S:Nat->FS)(F:Nat->bg)(A:Nat->List Nat):Prop where
 a6:∀ j,j<n->∀ i,i ∉ (F j).wt->(S (j+1)).T i=(S j).T i
 dm:∀ j,j<n->∀ i,i ∉ (F j).wb->(S (j+1)).H i=(S j).H i
 cU:∀ i j,i<j->j<n->MS (F i) (F j)->i ∈ A j
variable {n:Nat}{S:Nat->FS}{F:Nat->bg}{A:Nat->List Nat}{L:Nat->Bool}
def Yju {m i:Nat}:(SL L S F (m+1)).T i=if L m=true/\i ∈ (F m).wt then (S (m+1)).T i else (SL L S F m).T i:=by
 have e:SL L S F (m+1)=if L m then dA (SL L S F m) (S (m+1)) (F m) else SL L S F m:=rfl;rw[e];split
 ·rename_i h;simp only[dA,h,true_and]
 ·rename_i h;rw[aa (fun x=>h x.1)]
def Yjr {m i:Nat}:(SL L S F (m+1)).H i=if L m=true/\i ∈ (F m).wb then (S (m+1)).H i else (SL L S F m).H i:=by
 have e:SL L S F (m+1)=if L m then dA (SL L S F m) (S (m+1)) (F m) else SL L S F m:=rfl;rw[e];split
 ·rename_i h;simp only[dA,h,true_and]
 ·rename_i h;rw[aa (fun x=>h x.1)]
def MU (hc:Ch n S F A){j:Nat}(hj:j<n)(jX:L j=false)(eA:∀ i ∈ A j,i<j->L i=true)(aW:∀ m,m<n->L m=true->∀ i ∈ A m,L i=true){t:Nat}(ht:t ∈ (F j).rt):∀ m,m<=n->(SL L S F m).T t=(S (min m j)).T t
 | 0,_=>by simp[SL]
 | m+1,hm=>by
  have ih:=MU hc hj jX eA aW ht m af;rw[Yju,ih];by_cases BG:m<j
  ·rw[show min (m + 1) j=m + 1 by omega,show min m j=m by omega];by_cases hw:t ∈ (F m).wt
   ·have:L m=true:=eA m (hc.cU m j BG hj (.inl ⟨t,hw,.inl ht⟩)) BG;rw[am ⟨this,hw⟩]
   ·rw[aa (fun x=>hw x.2),hc.a6 m af t hw]
  ·rw[show min (m + 1) j=j by omega,show min m j=j by omega];rw[aa];rintro ⟨h1,h2⟩;by_cases he:m=j
   ·subst he;rw[jX]at h1;cases h1
   ·have:=aW m af h1 j (hc.cU j m af af (.inr (.inl ⟨t,h2,ht⟩)));rw[jX]at this;cases this
def MV (hc:Ch n S F A){j:Nat}(hj:j<n)(jX:L j=false)(eA:∀ i ∈ A j,i<j->L i=true)(aW:∀ m,m<n->L m=true->∀ i ∈ A m,L i=true){t:Nat}(ht:t ∈ (F j).rb):∀ m,m<=n->(SL L S F m).H t=(S (min m j)).H t
 | 0,_=>by simp[SL]
 | m+1,hm=>by
  have ih:=MV hc hj jX eA aW ht m af;rw[Yjr,ih];by_cases BG:m<j
  ·rw[show min (m + 1) j=m + 1 by omega,show min m j=m by omega];by_cases hw:t ∈ (F m).wb
   ·have:L m=true:=eA m (hc.cU m j BG hj (.inr (.inr (.inl ⟨t,hw,.inl ht⟩)))) BG;rw[am ⟨this,hw⟩]
   ·rw[aa (fun x=>hw x.2),hc.dm m af t hw]
  ·rw[show min (m + 1) j=j by omega,show min m j=j by omega];rw[aa];rintro ⟨h1,h2⟩;by_cases he:m=j
   ·subst he;rw[jX]at h1;cases h1
   ·have:=aW m af h1 j (hc.cU j m af af (.inr (.inr (.inr ⟨t,h2,ht⟩))));rw[jX]at this;cases this
def Xw1 {s x y:FS}{X Y:bg}(h1:∀ i ∈ X.wt,i ∉ Y.wt)(h2:∀ i ∈ X.wb,i ∉ Y.wb):dA (dA s x X) y Y=dA (dA s y Y) x X:=by
 unfold dA;congr 1
 ·funext i;by_cases hy:i ∈ Y.wt<;>by_cases hx:i ∈ X.wt<;>simp only[hx,hy,if_true,if_false]
  exact absurd hy (h1 i hx)
 ·funext i;by_cases hy:i ∈ Y.wb<;>by_cases hx:i ∈ X.wb<;>simp only[hx,hy,if_true,if_false]
  exact absurd hy (h2 i hx)
def MW (hc:Ch n S F A){j:Nat}(jX:L j=false)(aW:∀ m,m<n->L m=true->∀ i ∈ A m,L i=true){L':Nat->Bool}(c4:L' j=true)(ho:∀ i,i≠j->L' i=L i) :
  ∀ m,m<=n->SL L' S F m=if m<=j then SL L S F m else dA (SL L S F m) (S (j+1)) (F j)
 | 0,_=>by simp[SL]
 | m+1,hm=>by
  have ih:=MW hc jX aW c4 ho m af;have e:∀ L,SL L S F (m+1)=if L m then dA (SL L S F m) (S (m+1)) (F m) else SL L S F m:=fun _=>rfl;by_cases BG:m<j
  ·rw[am af];rw[am af]at ih;rw[e,e,ih,ho m af]
  ·rw[aa af];by_cases he:m=j
   ·subst he;rw[am (Nat.le_refl _)]at ih;rw[e,e,ih,c4,jX];simp
   ·rw[aa af]at ih;rw[e,e,ih,ho m he];split
    ·rename_i yP;have br:¬ MS (F j) (F m):=fun fm=>by
      have:=aW m af yP j (hc.cU j m af af fm);rw[jX]at this;cases this
     exact Xw1 (fun i hi nV=>br (.inl ⟨i,hi,.inr nV⟩)) (fun i hi nV=>br (.inr (.inr (.inl ⟨i,hi,.inr nV⟩))))
    ·rfl
def MX (hc:Ch n S F A)(h:∀ j,j<n->L j=true):∀ m,m<=n->SL L S F m=S m
 | 0,_=>rfl
 | m+1,hm=>by
  have e:SL L S F (m+1)=if L m then dA (SL L S F m) (S (m+1)) (F m) else SL L S F m:=rfl;rw[e,h m af,MX hc h m af];exact HY (hc.a6 m af) (hc.dm m af)
def MY:∀ m,(∀ j,j<m->L j=false)->SL L S F m=S 0
 | 0,_=>rfl
 | m+1,h=>by
  have e:SL L S F (m+1)=if L m then dA (SL L S F m) (S (m+1)) (F m) else SL L S F m:=rfl;rw[e,h m af,MY m fun j hj=>h j af];simp
def BH {listed:Array Bool}:∀ m,(∀ j,j<m->listed.getD j true=true)\/∃ i,i<m/\listed.getD i true=false/\∀ j,j<i->listed.getD j true=true
 | 0=>.inl fun j hj=>by omega
 | m+1=>by
  rcases BH (listed:=listed) m with h|⟨i,hi,hu,hl⟩
  ·cases hm:listed.getD m true with
   | true =>
    refine .inl fun j hj=>?_;by_cases e:j=m
    ·rw[e];exact hm
    ·exact h j af
   | false=>exact .inr ⟨m,by omega,hm,h⟩
  ·exact .inr ⟨i,by omega,hu,hl⟩
def ca (listed:Array Bool)(n:Nat):Nat:=((List.range n).filter fun j=>listed.getD j true==false).length
def yQ {listed:Array Bool}{i:Nat}(hi:listed.getD i true=false):∀ n,i<n->ca listed n=ca (listed.setIfInBounds i true) n+1
 | 0,h=>by omega
 | n+1,h=>by
  have cC:i<listed.size:=by
   rcases Nat.lt_or_ge i listed.size with h'|h'
   ·exact h'
   ·simp[Array.getElem?_eq_none h']at hi
  unfold ca;rw[List.range_succ,List.filter_append,List.filter_append,length_append,length_append];by_cases aK:i=n
  ·subst aK;have e:(List.range i).filter (fun j=>(listed.setIfInBounds i true).getD j true==false)=(List.range i).filter (fun j=>listed.getD j true==false):=by
    refine List.filter_congr fun j hj=>?_;rw[getD_set_ne true (by have:=mem_range.1 hj;omega)]
   rw[e];simp[cC]at hi;simp[cC,hi]
  ·have ih:=yQ hi n af;unfold ca at ih;rw[ih];have e:(listed.setIfInBounds i true).getD n true=listed.getD n true:=getD_set_ne true aK;simp only[List.filter_cons,List.filter_nil,e];omega
def MZ {listed:Array Bool}{n:Nat}(h:∀ j,j<n->listed.getD j true=true):ca listed n=0:=by
 unfold ca;rw[List.length_eq_zero_iff,List.filter_eq_nil_iff];intro j hj;rw[h j (mem_range.1 hj)];simp
def BJ {o:Oper}{e:Nat}(h:e ∈ lB o):∃ x ∈ o.after,Region.binds .any x=true/\x.on=e:=by
 unfold lB at h;obtain ⟨x,hx,rfl⟩:=mem_map.1 h;obtain ⟨h1,h2⟩:=List.mem_filter.1 hx;exact ⟨x,by simpa using h1,h2,rfl⟩
def M0 {o:Oper}{x:Edge}(h:x ∈ o.after)(hb:Region.binds .any x=true):x.on ∈ lB o:=by
 unfold lB;exact mem_map.2 ⟨x,List.mem_filter.2 ⟨by simpa using h,hb⟩,rfl⟩
def Xqt {Q:Exit->Act->World->Prop}(hn:n=ops.size)(jq:DK ops=true)(hc:Ch n S F A)(eA:∀ L':Nat->Bool,(∀ (j:Nat) o,ops[j]?=some o->L' j=true->∀ e ∈ lB o,L' e=true)->∀ j,L' j=true->∀ i ∈ A j,L' i=true)
  (hA:∀ j o,ops[j]?=some o->kD P c ops o (S j) (F j) (S (j+1))) (fW:∀ g a w,R c g (S n) a w->Q .normal a w) :
  ∀ (f:Nat) (listed:Array Bool) (g:Nat->GM) (a:Act) (w:World),HeadInv .any ops n listed->R c g (SL (fun j=>listed.getD j false) S F n) a w->ca listed n=f->wpAny P .any ops Q f listed a w:=by
 intro f
 induction f with
 | zero =>
  intro listed g a w inv hR hf;have bl:∀ j,j<n->listed.getD j true=true:=by
   rcases BH (listed:=listed) n with h|⟨i,hi,hu,_⟩
   ·exact h
   ·have:=yQ hu n hi;omega
  refine ⟨?_,fW g a w ?_⟩
  ·rw[List.eq_nil_iff_forall_not_mem];intro j hj;obtain ⟨h1,o,h2,_⟩:=mem_ready.1 hj;have:j < n:=by rw[hn];exact (Array.getElem?_eq_some_iff.1 h2).1
   rw[bl j this]at h1;cases h1
  ·rw[MX hc (fun j hj=>?_) n (Nat.le_refl _)]at hR
   ·exact hR
   ·have:=bl j hj;have cC:j < listed.size:=by rw[inv.size,← hn];exact hj
    simpa [cC] using this
 | succ f ih =>
  intro listed g a w inv hR hf;rcases BH (listed:=listed) n with h|⟨i,hi,hu,hl⟩
  ·have:=MZ h;omega
  ·have nW:i < ops.size:=by omega
   have l6:i ∈ Region.ready .any ops listed:=mem_ready.2 ⟨hu,ops[i],Array.getElem?_eq_getElem nW,fun e he hb=>by
    have h1:=List.all_eq_true.1 jq i (mem_range.2 nW);rw[Array.getElem?_eq_getElem nW]at h1;have hlt:e.on<i:=by simpa using List.all_eq_true.1 h1 e.on (M0 he hb)
    have:=hl e.on hlt;have cC:e.on<listed.size:=by rw[inv.size];omega
    simpa [cC] using this⟩
   refine ⟨fun h0=>(by rw[h0]at l6;cases l6),fun j hj=>?_⟩;obtain ⟨l7,o,jY,bl⟩:=mem_ready.1 hj;have ij:j<n:=by rw[hn];exact (Array.getElem?_eq_some_iff.1 jY).1
   have wP:=yQ l7 n ij;have jX:listed.getD j false=false:=getD_both l7;have fB:∀ (j:Nat) o,ops[j]?=some o->listed.getD j false=true->∀ e ∈ lB o,listed.getD e false=true:=fun j o ho hL e he=>by
    obtain ⟨x,h1,h2,rfl⟩:=BJ he;exact inv.closed j o ho hL x h1 h2
   have aW:=eA _ fB;have gF:∀ i ∈ A j,i<j->listed.getD i false=true:=by
    have h1:=inv.set hj ij;intro i hi fX;have fm:=eA (fun k=>(listed.setIfInBounds j true).getD k false) (fun k o' oV hL e he=>by
     obtain ⟨x,h3,h4,rfl⟩:=BJ he;exact h1.closed k o' oV hL x h3 h4) j (by
      have cC:j<listed.size:=by rw[inv.size];omega
      simp[cC]) i hi
    rw[getD_set_ne false af]at fm;exact fm
   have hrT:∀ t ∈ (F j).rt,(SL (fun j=>listed.getD j false) S F n).T t=(S j).T t:=fun t ht=>by
    rw[MU hc ij jX gF (fun m _ hm=>aW m hm) ht n (Nat.le_refl _),Nat.min_eq_right (Nat.le_of_lt ij)]
   have hrH:∀ t ∈ (F j).rb,(SL (fun j=>listed.getD j false) S F n).H t=(S j).H t:=fun t ht=>by
    rw[MV hc ij jX gF (fun m _ hm=>aW m hm) ht n (Nat.le_refl _),Nat.min_eq_right (Nat.le_of_lt ij)]
   have dW:=(hA j o jY).step _ hrT hrH g a w hR (wpAny P .any ops Q f (listed.setIfInBounds j true)) Q fun g' a' w' bc=>by
    refine ih _ g' a' w' (inv.set hj ij) ?_ af;have cC:j<listed.size:=by rw[inv.size];omega
    have:=MW (L:=fun j=>listed.getD j false) hc jX (fun m _ hm=>aW m hm) (L':=fun k=>(listed.setIfInBounds j true).getD k false) (by simp[cC]) (fun i hi=>getD_set_ne false (fun e=>hi e.symm)) n (Nat.le_refl _);rw[aa af]at this;rw[this];exact bc
   unfold wpOp;rw[jY];unfold Uj at dW;show if Region.wanted o (yielded ops a.tmps)=true then _ else _;split
   ·rename_i hw;rw[am hw]at dW;exact .inl dW
   ·rename_i hw;rw[aa hw]at dW;exact dW
end
end Go.Proofs.YtogckmommodmhaaGreatDoor
