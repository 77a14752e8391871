import Derived.Test.YtogckmommodmhaaGreatDoorZv1
import Derived.WalkKit
import Derived.WalkSpells
import Derived.WalkLawsBesides
import Derived.Laws.AppendOwn
import Derived.Below
import Derived.Laws.BytesString
import Derived.Lib.Strings
import Derived.Orders
import Derived.StillTail
namespace Go.Proofs.YtogckmommodmhaaGreatDoor
open Go.RowKit
set_option linter.all false
set_option linter.unusedSimpArgs false
set_option maxRecDepth 100000
inductive AV where
 | any
 | dw (b:Bool) (v:AV)
 | int (k:IntKind) (n:Int)
 | bool (b:Bool)
 | str (l:List UInt8)
 | agg (cs:List AV)
 | aU (vs:List AV)
 | ptr (b off:Nat)
 | xp (cs:List AV) (off:Nat)
 | sl (es b off n c:Nat)
 | isl (n:Nat) (cs:List AV)
 | nils
 | cl (f:FuncId) (caps:List AV)
 | mp (b:Nat)
 | lit (v:Value)
 deriving Inhabited
inductive GM where
 | un
 | ph
 | re (k:Nat)
abbrev Uj (w:World) (k o:Nat):Option Value:=w.cell? ⟨k,o,none⟩
inductive VR (g:Nat→GM) (W:Nat→Prop) (w:World):AV→Value→Prop
 | any (v:Value):VR g W w .any v
 | dw {b:Bool} {x:AV} {v:Value} (h:b=true→VR g W w x v) (h0:b=false→v=undef):VR g W w (.dw b x) v
 | int (k:IntKind) (n:Int):VR g W w (.int k n) (.int k n)
 | bool (b:Bool):VR g W w (.bool b) (.bool b)
 | str (l:List UInt8):VR g W w (.str l) (.string ⟨l.toArray⟩)
 | agg {cs:List AV} {us:Array Value} (hs:us.size=cs.length) (h1:∀ j,j < cs.length→(us.getD j undef).oneCell'=true) (h:∀ j,j < cs.length→VR g W w (cs.getD j .any) (us.getD j undef)):VR g W w (.agg cs) (.agg us)
 | aU {cs:List AV} {us:Array Value} (hs:us.size=cs.length) (h:∀ j,j < cs.length→VR g W w (cs.getD j .any) (us.getD j undef)):VR g W w (.aU cs) (.tuple us)
 | ptr {b off k:Nat} (hg:g b=.re k):VR g W w (.ptr b off) (.pointer (some ⟨k,off,none⟩))
 | xp {cs:List AV} {off k o:Nat} {us:Nat→Value} (hc:∀ j,j < cs.length→Uj w k (o + j)=some (us j)∧¬ W k∧(us j).oneCell'=true) (h:∀ j,j < cs.length→VR g W w (cs.getD j .any) (us j)) :
   VR g W w (.xp cs off) (.pointer (some ⟨k,o + off,none⟩))
 | sl {es b off n c k cap:Nat} {e:TypeId} {cur:Array Value} {fz:Nat × Nat} (hg:g b=.re k) (hn:n≤c) (hc:c≤cap) (hm:cap≤maxLen)
   (hb:w.heap[k]?=some (.cells cur e fz)) (hs:off + cap * es≤cur.size):VR g W w (.sl es b off n c) (.slice (some ⟨k,off,none⟩) n cap)
 | ku {a:Option Addr} {es b off c:Nat} (hg:g b=.ph) (hc:c=0):VR g W w (.sl es b off 0 c) (.slice a 0 0)
 | isl {n cap:Nat} {cs:List AV} {a:Option Addr} {us:Nat→Value} (hn:n≤cap) (hm:cap≤maxLen)
   (hc:∀ j,j < cs.length→∃ k o,a=some ⟨k,o,none⟩∧Uj w k (o + j)=some (us j)∧¬ W k∧(us j).oneCell'=true) (h:∀ j,j < cs.length→VR g W w (cs.getD j .any) (us j)) :
   VR g W w (.isl n cs) (.slice a n cap)
 | nils (a:Option Addr):VR g W w .nils (.slice a 0 0)
 | cl {f:FuncId} {caps:List AV} {us:Array Value} (hs:us.size=caps.length) (h:∀ j,j < caps.length→VR g W w (caps.getD j .any) (us.getD j undef)):VR g W w (.cl f caps) (.func (.func f) #[] us)
 | mp {b k:Nat} (hg:g b=.re k):VR g W w (.mp b) (.map (some k))
 | lit (v:Value):VR g W w (.lit v) v
structure Fr (w w':World) (G:Nat→Prop):Prop where
 os:w'.os=w.os
 tape:w'.tape=w.tape
 output:w'.output=w.output
 size:w.heap.size≤w'.heap.size
 eg:∀ k,k < w.heap.size→¬ G k→w'.heap[k]?=w.heap[k]?
 kind:∀ (k:Nat) (cur:Array Value) (e:TypeId) (fz:Nat × Nat),w.heap[k]?=some (.cells cur e fz)→∃ eK:Array Value,w'.heap[k]?=some (.cells eK e fz)∧eK.size=cur.size
theorem Uc {w:World} {k:Nat} {o:Obj} (h:w.heap[k]?=some o):k < w.heap.size:=(Array.getElem?_eq_some_iff.1 h).1
theorem Im {w:World} {k o:Nat} {v:Value} (h:Uj w k o=some v):k < w.heap.size:=by
 unfold Uj World.cell? at h
 split at h
 ·rename_i hh;exact Uc hh
 ·cases h
theorem Fr.refl (w:World) (G:Nat→Prop):Fr w w G:=⟨rfl,rfl,rfl,Nat.le_refl _,fun _ _ _=>rfl,fun _ cur _ _ h=>⟨cur,h,rfl⟩⟩
theorem Fr.trans {a b c:World} {G H:Nat→Prop} (h:Fr a b G) (k:Fr b c H) (hH:∀ i,i < a.heap.size→H i→G i):Fr a c G :=
 ⟨k.os.trans h.os,k.tape.trans h.tape,k.output.trans h.output,Nat.le_trans h.size k.size,
  fun i hi hG=>(k.eg i (Nat.lt_of_lt_of_le hi h.size) (fun x=>hG (hH i hi x))).trans (h.eg i hi hG),
  fun i cur e fz hi=>by
   obtain ⟨c1,h1,s1⟩:=h.kind i cur e fz hi
   obtain ⟨c2,h2,s2⟩:=k.kind i c1 e fz h1
   exact ⟨c2,h2,s2.trans s1⟩⟩
theorem Fr.weak {a b:World} {G H:Nat→Prop} (h:Fr a b G) (hH:∀ i,G i→H i):Fr a b H :=
 ⟨h.os,h.tape,h.output,h.size,fun i hi hG=>h.eg i hi (fun x=>hG (hH i x)),h.kind⟩
theorem Fr.drew (w:World) (G:Nat→Prop):Fr w w.drew G:=⟨rfl,rfl,rfl,Nat.le_refl _,fun _ _ _=>rfl,fun _ cur _ _ h=>⟨cur,h,rfl⟩⟩
theorem Fr.alloc (w:World) (o:Obj) (G:Nat→Prop):Fr w (w.alloc o) G :=
 ⟨rfl,rfl,rfl,by simp,fun k hk _=>Below.heap_alloc w o k hk,fun k cur e fz h=>⟨cur,by rw[Below.heap_alloc w o k (Uc h)];exact h,rfl⟩⟩
theorem Fr.cell {w w':World} {G:Nat→Prop} (h:Fr w w' G) {k o:Nat} {v:Value} (hc:Uj w k o=some v) (hG:¬ G k):Uj w' k o=some v:=by
 have:=h.eg k (Im hc) hG
 rw[← hc]
 unfold Uj World.cell?
 simp only[this]
theorem VR.mono {g g':Nat→GM} {W W':Nat→Prop} {w w':World} {x:AV} {v:Value} (h:VR g W w x v) (hf:Fr w w' W)
  (hW:∀ k,k < w.heap.size→W' k→W k) (hg:∀ b,g b≠.un→g' b=g b):VR g' W' w' x v:=by
 have Bp:∀ {b k},g b=.re k→g' b=.re k:=fun {b k} e=>by rw[hg b (by rw[e];intro x;cases x),e]
 induction h with
 | any v=>exact .any v
 | dw h h0 ih=>exact .dw ih h0
 | int k n=>exact .int k n
 | bool b=>exact .bool b
 | str l=>exact .str l
 | agg hs h1 h ih=>exact .agg hs h1 ih
 | aU hs h ih=>exact .aU hs ih
 | ptr e=>exact .ptr (Bp e)
 | xp hc h ih=>exact .xp (fun j hj=>⟨hf.cell (hc j hj).1 (hc j hj).2.1,fun x=>(hc j hj).2.1 (hW _ (Im (hc j hj).1) x),(hc j hj).2.2⟩) ih
 | sl e hn hc hm hb hs =>
  obtain ⟨eK,bL,qh⟩:=hf.kind _ _ _ _ hb
  exact .sl (Bp e) hn hc hm bL (by rw[qh];exact hs)
 | ku e hc=>exact .ku (by rw[hg _ (by rw[e];intro x;cases x),e]) hc
 | isl hn hm hc h ih =>
  refine .isl hn hm (fun j hj=>?_) ih
  obtain ⟨k,o,ha,vf,Pb,h1⟩:=hc j hj
  exact ⟨k,o,ha,hf.cell vf Pb,fun x=>Pb (hW k (Im vf) x),h1⟩
 | nils a=>exact .nils a
 | cl hs h ih=>exact .cl hs ih
 | mp e=>exact .mp (Bp e)
 | lit v=>exact .lit v
inductive Bk where
 | free
 | dead
 | cells (cs:List AV)
 | aC (kvs:List (AV × AV)) (dn:Bool)
 | bm (kvs:List (AV × AV)) (bs:List Nat) (ck:Nat)
 | iter (b ck:Nat) (seen:List Nat)
 | db (ls:List (List AV))
 deriving Inhabited
def Bk.live:Bk→Prop
 | .cells _|.aC _ _|.bm _ _ _|.iter _ _ _|.db _=>True
 | _=>False
inductive BR (g:Nat→GM) (W:Nat→Prop) (w:World):GM→Bk→Prop
 | free:BR g W w .un .free
 | dead {m:GM} (h:m≠.un):BR g W w m .dead
 | ph:BR g W w .ph (.cells [])
 | cells {k:Nat} {cs:List AV} {cur:Array Value} {e:TypeId} {fz:Nat × Nat} (hb:w.heap[k]?=some (.cells cur e fz)) (hl:cs.length≤cur.size)
   (h1:∀ j,j < cs.length→(cur.getD j undef).oneCell'=true) (hv:∀ j,j < cs.length→VR g W w (cs.getD j .any) (cur.getD j undef)) (hf:fz=(0,0)∨cur.size≤fz.1):BR g W w (.re k) (.cells cs)
 | aC {k:Nat} {kvs:List (AV × AV)} {dn:Bool} {es:Array MapEntry} {clock:Nat} (hb:w.heap[k]?=some (.map es clock)) (hs:es.size=kvs.length)
   (hk:∀ j,j < kvs.length→VR g W w (kvs.getD j (.any,.any)).1 (es.getD j default).key) (hv:∀ j,j < kvs.length→VR g W w (kvs.getD j (.any,.any)).2 (es.getD j default).val)
   (hc:∀ j,j < es.size→(es.getD j default).born < clock) (ha:∀ i j,i < j→j < es.size→(es.getD i default).born < (es.getD j default).born)
   (hd:dn=true→(∀ j,j < es.size→(es.getD j default).born=j)∧clock=es.size):BR g W w (.re k) (.aC kvs dn)
 | bm {k:Nat} {kvs:List (AV × AV)} {bs:List Nat} {es:Array MapEntry} {clock:Nat} (hb:w.heap[k]?=some (.map es clock)) (hs:es.size=kvs.length)
   (hk:∀ j,j < kvs.length→VR g W w (kvs.getD j (.any,.any)).1 (es.getD j default).key) (hv:∀ j,j < kvs.length→VR g W w (kvs.getD j (.any,.any)).2 (es.getD j default).val)
   (hc:∀ j,j < es.size→(es.getD j default).born < clock) (ha:∀ i j,i < j→j < es.size→(es.getD i default).born < (es.getD j default).born)
   (hd:es.toList.map (·.born)=bs):BR g W w (.re k) (.bm kvs bs clock)
 | iter {k m b ck:Nat} {seen:List Nat} (hb:w.heap[k]?=some (.mapIter (some m) ck seen.toArray ck)) (hg:g b=.re m):BR g W w (.re k) (.iter b ck seen)
 | db {m:GM} {ls Bq:List (List AV)} (hp:Bq.Perm ls) (h:BR g W w m (.cells Bq.flatten)):BR g W w m (.db ls)
theorem BR.mono {g g':Nat→GM} {W W':Nat→Prop} {w w':World} {m:GM} {x:Bk} (h:BR g W w m x) (hf:Fr w w' W)
  (hW:∀ k,k < w.heap.size→W' k→W k) (hg:∀ b,g b≠.un→g' b=g b) (hk:∀ k,m=.re k→x.live→w'.heap[k]?=w.heap[k]?):BR g' W' w' m x:=by
 induction h with
 | db hp h ih=>exact .db hp (ih fun k h1 h2=>hk k h1 trivial)
 | free=>exact .free
 | dead h=>exact .dead h
 | ph=>exact .ph
 | cells hb hl h1 hv hz=>exact .cells ((hk _ rfl trivial).trans hb) hl h1 (fun j hj=>(hv j hj).mono hf hW hg) hz
 | aC hb hs j4 hv hc ha hd=>exact .aC ((hk _ rfl trivial).trans hb) hs (fun j hj=>(j4 j hj).mono hf hW hg) (fun j hj=>(hv j hj).mono hf hW hg) hc ha hd
 | bm hb hs j4 hv hc ha hd=>exact .bm ((hk _ rfl trivial).trans hb) hs (fun j hj=>(j4 j hj).mono hf hW hg) (fun j hj=>(hv j hj).mono hf hW hg) hc ha hd
 | iter hb kN=>exact .iter ((hk _ rfl trivial).trans hb) (by rw[hg _ (by rw[kN];intro x;cases x)];exact kN)
structure FS where
 T:Nat→AV
 H:Nat→Bk
def FS.put (s:FS) (d:Nat) (v:AV):FS:=⟨fun i=>if d=i then v else s.T i,s.H⟩
def FS.aK (s:FS) (b:Nat) (x:Bk):FS:=⟨s.T,fun i=>if b=i then x else s.H i⟩
theorem FS.dg (s:FS) (d:Nat) (v:AV) (i:Nat):(s.put d v).T i=if d=i then v else s.T i:=rfl
theorem FS.qi (s:FS) (d:Nat) (v:AV) (b:Nat):(s.put d v).H b=s.H b:=rfl
theorem FS.bc (s:FS) (b:Nat) (x:Bk) (i:Nat):(s.aK b x).H i=if b=i then x else s.H i:=rfl
structure St where
 t:List (Nat × AV)
 h:List (Nat × Bk)
 n:Nat
def look:List (Nat × AV)→Nat→AV
 | [],_=>.any
 | (i,v)::l,j=>bif i == j then v else look l j
def Qc:List (Nat × Bk)→Nat→Nat→Bk
 | [],n,j=>if j < n then .dead else .free
 | (i,v)::l,n,j=>bif i == j then v else Qc l n j
def St.fs (s:St):FS:=⟨look s.t,Qc s.h s.n⟩
def St.put (s:St) (d:Nat) (v:AV):St:=⟨(d,v)::s.t,s.h,s.n⟩
def St.aK (s:St) (b:Nat) (x:Bk):St:=⟨s.t,(b,x)::s.h,s.n⟩
def St.nw (s:St) (x:Bk):St:=⟨s.t,(s.n,x)::s.h,s.n + 1⟩
theorem Zn (i:Nat) (v:AV) (l:List (Nat × AV)) (j:Nat):look ((i,v)::l) j=if i=j then v else look l j:=by
 show (bif i == j then v else look l j)=_
 by_cases h:i=j
 ·subst h;simp
 ·have:(i == j)=false:=by simpa using h
  rw[this,if_neg h];rfl
theorem Qd (i:Nat) (v:Bk) (l:List (Nat × Bk)) (n j:Nat):Qc ((i,v)::l) n j=if i=j then v else Qc l n j:=by
 show (bif i == j then v else Qc l n j)=_
 by_cases h:i=j
 ·subst h;simp
 ·have:(i == j)=false:=by simpa using h
  rw[this,if_neg h];rfl
theorem St.bT (s:St) (d:Nat) (v:AV):(s.put d v).fs=s.fs.put d v:=by
 simp only[St.fs,St.put,FS.put];congr 1;funext i;rw[Zn]
theorem St.cK (s:St) (b:Nat) (x:Bk):(s.aK b x).fs=s.fs.aK b x:=by
 simp only[St.fs,St.aK,FS.aK];congr 1;funext i;rw[Qd]
theorem We (h:List (Nat × Bk)) (n j:Nat) (hj:j≠n):Qc h (n + 1) j=Qc h n j:=by
 induction h with
 | nil =>
  unfold Qc
  by_cases h:j < n
  ·rw[if_pos h,if_pos af]
  ·rw[if_neg h,if_neg af]
 | cons p l ih=>obtain ⟨i,v⟩:=p;rw[Qd,Qd,ih]
theorem St.gV (s:St) (x:Bk):(s.nw x).fs=s.fs.aK s.n x:=by
 simp only[St.fs,St.nw,FS.aK];congr 1;funext i;rw[Qd]
 by_cases h:s.n=i
 ·rw[if_pos h,if_pos h]
 ·rw[if_neg h,if_neg h,We _ _ _ fun e=>h e.symm]
structure Cx where
 N:Nat
 w0:World
 G:Nat→Prop
 X:Nat→Prop
 gl:Nat→AV
 gh:List (Nat × GM)
def Qo (c:Cx) (g:Nat→GM) (s:FS) (k:Nat):Prop:=c.X k∨∃ b,(s.H b).live∧g b=.re k
structure R (c:Cx) (g:Nat→GM) (s:FS) (a:Act) (w:World):Prop where
 size:a.tmps.size=c.N
 dL:a.defers=[]
 t:∀ i,VR g (Qo c g s) w (s.T i) (a.tmps.getD i undef)
 gl:∀ i,VR (fun _=>.un) (Qo c g s) w (c.gl i) (.pointer (some ⟨i,0,none⟩))
 h:∀ b,BR g (Qo c g s) w (g b) (s.H b)
 inj:∀ b b' k,(s.H b).live→(s.H b').live→g b=.re k→g b'=.re k→b=b'
 old:∀ b k,(s.H b).live→g b=.re k→c.w0.heap.size≤k∨c.G k
 fr:Fr c.w0 w c.G
 xs:∀ k,c.X k→k < c.w0.heap.size∧¬ c.G k
 ib:∀ p ∈ c.gh,g p.1=p.2∧p.2≠.un
theorem BR.fU {g:Nat→GM} {W:Nat→Prop} {w:World} {x:Bk} (h:BR g W w .un x) (hl:x.live):False:=by
 cases h with
 | free=>exact hl
 | dead h=>exact hl
 | db hp h=>cases h
theorem BR.lt {g:Nat→GM} {W:Nat→Prop} {w:World} {k:Nat} {x:Bk} (h:BR g W w (.re k) x) (hl:x.live):k < w.heap.size:=by
 cases h with
 | db hp h=>cases h with|cells hb=>exact Uc hb
 | dead h=>exact hl.elim
 | cells hb=>exact Uc hb
 | aC hb=>exact Uc hb
 | bm hb=>exact Uc hb
 | iter hb=>exact Uc hb
section
variable {c:Cx} {g:Nat→GM} {s:FS} {a:Act} {w w':World}
theorem R.put (hR:R c g s a w) {d:Nat} (hd:d < c.N) {x:AV} {v:Value} (h:VR g (Qo c g s) w x v):R c g (s.put d x) (a.put (some d) v) w:=by
 have hW:Qo c g (s.put d x)=Qo c g s:=rfl
 refine ⟨by simpa [Act.put] using hR.size,by simpa [Act.put] using hR.dL,fun i=>?_,hR.gl,hR.h,hR.inj,hR.old,hR.fr,hR.xs,hR.ib⟩
 rw[hW,FS.dg]
 simp only[Act.put]
 by_cases hi:d=i
 ·subst hi
  rw[if_pos rfl]
  have:(a.tmps.setIfInBounds d v).getD d undef=v:=by simp[Array.getD,hR.size,hd]
  rw[this];exact h
 ·rw[if_neg hi]
  have:(a.tmps.setIfInBounds d v).getD i undef=a.tmps.getD i undef:=by
   simp only[Array.getD_eq_getD_getElem?,Array.getElem?_setIfInBounds]
   rw[if_neg hi]
  rw[this];exact hR.t i
theorem R.tA (hR:R c g s a w) (v:Value):R c g s (a.put none v) w:=hR
theorem R.grow (hR:R c g s a w) (hf:Fr w w' (fun _=>False)):R c g s a w':=by
 have me:Fr w w' (Qo c g s):=hf.weak fun _ h=>h.elim
 refine ⟨hR.size,hR.dL,fun i=>(hR.t i).mono me (fun _ _ h=>h) (fun _ _=>rfl),fun i=>(hR.gl i).mono me (fun _ _ h=>h) (fun _ _=>rfl),fun b=>?_,hR.inj,hR.old,hR.fr.trans hf fun _ _ h=>h.elim,hR.xs,hR.ib⟩
 refine (hR.h b).mono me (fun _ _ h=>h) (fun _ _=>rfl) fun k hk hl=>hf.eg k ?_ id
 exact BR.lt (hk ▸ hR.h b) hl
theorem ES {b:Nat}:∀ k,Qo c g (s.aK b .dead) k→Qo c g s k:=by
 rintro k (h|⟨b',hl,hg⟩)
 ·exact .inl h
 ·rw[FS.bc]at hl
  split at hl
  ·exact hl.elim
  ·exact .inr ⟨b',hl,hg⟩
theorem R.kill (hR:R c g s a w) {b:Nat} (hb:g b≠.un):R c g (s.aK b .dead) a w:=by
 have hW:=fun k (_:k < w.heap.size)=>ES (c:=c) (g:=g) (s:=s) (b:=b) k
 have hf:=Fr.refl w (Qo c g s)
 have hl:∀ b',((s.aK b .dead).H b').live→(s.H b').live:=fun b' h=>by
  rw[FS.bc]at h;split at h
  ·exact h.elim
  ·exact h
 refine ⟨hR.size,hR.dL,fun i=>(hR.t i).mono hf hW (fun _ _=>rfl),fun i=>(hR.gl i).mono hf hW (fun _ _=>rfl),fun b'=>?_,fun x y k hx hy=>hR.inj x y k (hl x hx) (hl y hy),fun x k hx=>hR.old x k (hl x hx),hR.fr,hR.xs,hR.ib⟩
 rw[FS.bc]
 split
 ·rename_i e;subst e;exact .dead hb
 ·exact (hR.h b').mono hf hW (fun _ _=>rfl) fun _ _ _=>rfl
theorem R.setBlock (hR:R c g s a w) {b k:Nat} {x:Bk} (hb:g b=.re k) (aO:(s.H b).live) (hx:x.live) (hf:Fr w w' (fun i=>i=k)) (hn:BR g (Qo c g s) w' (.re k) x):R c g (s.aK b x) a w':=by
 have di:∀ b',((s.aK b x).H b').live ↔ (s.H b').live:=fun b'=>by
  rw[FS.bc];split
  ·rename_i e;subst e;exact ⟨fun _=>aO,fun _=>hx⟩
  ·exact Iff.rfl
 have hW:Qo c g (s.aK b x)=Qo c g s:=by
  funext i;simp only[Qo,di]
 have hk:Qo c g s k:=.inr ⟨b,aO,hb⟩
 have me:Fr w w' (Qo c g s):=hf.weak fun i e=>e ▸ hk
 have hlt:k < w.heap.size:=BR.lt (hb ▸ hR.h b) aO
 refine ⟨hR.size,hR.dL,fun i=>?_,fun i=>?_,fun b'=>?_,fun x y k hx hy=>hR.inj x y k ((di x).1 hx) ((di y).1 hy),fun x k hx=>hR.old x k ((di x).1 hx),hR.fr.trans hf fun i hi e=>?_,hR.xs,hR.ib⟩
 ·rw[hW];exact (hR.t i).mono me (fun _ _ h=>h) (fun _ _=>rfl)
 ·rw[hW];exact (hR.gl i).mono me (fun _ _ h=>h) (fun _ _=>rfl)
 ·rw[hW,FS.bc]
  split
  ·rename_i e;subst e;rw[hb];exact hn
  ·rename_i e
   refine (hR.h b').mono me (fun _ _ h=>h) (fun _ _=>rfl) fun i hi hl=>hf.eg i ?_ fun ek=>?_
   ·exact BR.lt (hi ▸ hR.h b') hl
   ·exact e (hR.inj b b' k aO hl hb (ek ▸ hi))
 ·subst e
  rcases hR.old b i aO hb with h|h
  ·omega
  ·exact h
def Zg (g:Nat→GM) (b:Nat) (m:GM):Nat→GM:=fun i=>if i=b then m else g i
theorem zb {g:Nat→GM} {b:Nat} {m:GM} (hb:g b=.un):∀ i,g i≠.un→Zg g b m i=g i:=fun i h=>by
 unfold Zg;split
 ·rename_i e;subst e;exact (h hb).elim
 ·rfl
theorem ET (hR:R c g s a w) {b:Nat} {m:GM} (hb:g b=.un):∀ p ∈ c.gh,Zg g b m p.1=p.2∧p.2≠.un:=fun p hp=>by
 obtain ⟨h1,h2⟩:=hR.ib p hp
 exact ⟨by rw[zb hb p.1 (by rw[h1];exact h2),h1],h2⟩
theorem R.name (hR:R c g s a w) {b k:Nat} {x:Bk} (bq:s.H b=.free) (hx:x.live) (b6:∀ b',(s.H b').live→g b'≠.re k) (hX:¬ c.X k) (hold:c.w0.heap.size≤k∨c.G k)
  (Br:∀ i,VR g (fun j=>Qo c g s j∨j=k) w (s.T i) (a.tmps.getD i undef)) (Y5:∀ i,VR (fun _=>.un) (fun j=>Qo c g s j∨j=k) w (c.gl i) (.pointer (some ⟨i,0,none⟩))) (pw:∀ b',BR g (fun j=>Qo c g s j∨j=k) w (g b') (s.H b'))
  (hn:BR (Zg g b (.re k)) (fun j=>Qo c g s j∨j=k) w (.re k) x):R c (Zg g b (.re k)) (s.aK b x) a w:=by
 have jl:g b=.un:=by
  have:=hR.h b;rw[bq]at this;generalize g b=m at this;cases this;rfl
 have hg:=zb (m:=.re k) jl
 have dx:Zg g b (.re k) b=.re k:=by simp[Zg]
 have bN:∀ b',(s.H b').live→b'≠b:=fun b' h e=>by subst e;rw[bq]at h;exact h
 have en:∀ b',b'≠b→Zg g b (.re k) b'=g b':=fun b' h=>by simp[Zg,h]
 have hl:∀ b',((s.aK b x).H b').live ↔ b'=b∨(s.H b').live:=fun b'=>by
  rw[FS.bc];split
  ·rename_i e;subst e;exact ⟨fun _=>.inl rfl,fun _=>hx⟩
  ·rename_i e;exact ⟨.inr,fun h=>h.resolve_left fun e'=>e e'.symm⟩
 have hW:Qo c (Zg g b (.re k)) (s.aK b x)=fun j=>Qo c g s j∨j=k:=by
  funext j
  apply propext
  constructor
  ·rintro (h|⟨b',h1,h2⟩)
   ·exact .inl (.inl h)
   ·rcases (hl b').1 h1 with rfl|h
    ·rw[dx]at h2;cases h2;exact .inr rfl
    ·rw[en b' (bN b' h)]at h2;exact .inl (.inr ⟨b',h,h2⟩)
  ·rintro ((h|⟨b',h1,h2⟩)|rfl)
   ·exact .inl h
   ·exact .inr ⟨b',(hl b').2 (.inr h1),by rw[en b' (bN b' h1)];exact h2⟩
   ·exact .inr ⟨b,(hl b).2 (.inl rfl),dx⟩
 have hf:=Fr.refl w (fun j=>Qo c g s j∨j=k)
 refine ⟨hR.size,hR.dL,fun i=>?_,fun i=>?_,fun b'=>?_,fun p q m hp hq h1 h2=>?_,fun p m hp h1=>?_,hR.fr,hR.xs,ET hR jl⟩
 ·rw[hW];exact (Br i).mono hf (fun _ _ h=>h) hg
 ·rw[hW];exact Y5 i
 ·rw[hW,FS.bc]
  split
  ·rename_i e;subst e;rw[dx];exact hn
  ·rename_i e
   rw[en b' fun e'=>e e'.symm]
   exact (pw b').mono hf (fun _ _ h=>h) hg fun _ _ _=>rfl
 ·rcases (hl p).1 hp with rfl|wG<;>rcases (hl q).1 hq with rfl|cF
  ·rfl
  ·rw[dx]at h1;cases h1;rw[en q (bN q cF)]at h2;exact (b6 q cF h2).elim
  ·rw[dx]at h2;cases h2;rw[en p (bN p wG)]at h1;exact (b6 p wG h1).elim
  ·rw[en p (bN p wG)]at h1;rw[en q (bN q cF)]at h2;exact hR.inj p q m wG cF h1 h2
 ·rcases (hl p).1 hp with rfl|wG
  ·rw[dx]at h1;cases h1;exact hold
  ·rw[en p (bN p wG)]at h1;exact hR.old p m wG h1
theorem R.new (hR:R c g s a w) {b:Nat} {x:Bk} (o:Obj) (bq:s.H b=.free) (hx:x.live) (hn:∀ g',(∀ i,g i≠.un→g' i=g i)→BR g' (fun j=>Qo c g s j∨j=w.heap.size) (w.alloc o) (.re w.heap.size) x) :
  R c (Zg g b (.re w.heap.size)) (s.aK b x) a (w.alloc o):=by
 have jl:g b=.un:=by
  have:=hR.h b;rw[bq]at this;generalize g b=m at this;cases this;rfl
 have bg:=hR.grow (Fr.alloc w o _)
 have iu:∀ k,Qo c g s k→k < w.heap.size:=by
  rintro k (h|⟨b',hl,hg⟩)
  ·have:=(hR.xs k h).1;have:=hR.fr.size;omega
  ·exact BR.lt (hg ▸ hR.h b') hl
 have hw:∀ k,k < w.heap.size→(Qo c g s k∨k=w.heap.size)→Qo c g s k:=fun k hk h=>h.resolve_right af
 refine bg.name (k:=w.heap.size) bq hx (fun b' hl e=>?_) (fun e=>?_) (.inl hR.fr.size) (fun i=>?_) (fun i=>?_) (fun b'=>?_) (hn _ (zb jl))
 ·have:=BR.lt (e ▸ hR.h b') hl;omega
 ·have:=(hR.xs _ e).1;have:=hR.fr.size;omega
 ·exact (hR.t i).mono (Fr.alloc w o _) hw fun _ _=>rfl
 ·exact (hR.gl i).mono (Fr.alloc w o _) hw fun _ _=>rfl
 ·exact (hR.h b').mono (Fr.alloc w o _) hw (fun _ _=>rfl) fun k hk hl=>Below.heap_alloc w o k (BR.lt (hk ▸ hR.h b') hl)
theorem R.move (hR:R c g s a w) {b b':Nat} (aO:(s.H b).live) (bq:s.H b'=.free):R c (Zg g b' (g b)) ((s.aK b .dead).aK b' (s.H b)) a w:=by
 have jl:g b'=.un:=by
  have:=hR.h b';rw[bq]at this;generalize g b'=m at this;cases this;rfl
 have bN:b'≠b:=fun e=>by subst e;rw[bq]at aO;exact aO
 have hg:=zb (m:=g b) jl
 have dx:Zg g b' (g b) b'=g b:=by simp[Zg]
 have en:∀ i,i≠b'→Zg g b' (g b) i=g i:=fun i h=>by simp[Zg,h]
 have hH:∀ i,((s.aK b .dead).aK b' (s.H b)).H i=if b'=i then s.H b else if b=i then .dead else s.H i:=fun i=>by rw[FS.bc,FS.bc]
 have hl:∀ i,(((s.aK b .dead).aK b' (s.H b)).H i).live→(i=b'∨(i≠b∧i≠b'∧(s.H i).live)):=fun i h=>by
  rw[hH]at h
  split at h
  ·rename_i e;exact .inl e.symm
  ·split at h
   ·exact h.elim
   ·rename_i e1 e2;exact .inr ⟨fun e=>e2 e.symm,fun e=>e1 e.symm,h⟩
 have hW:∀ k,Qo c (Zg g b' (g b)) ((s.aK b .dead).aK b' (s.H b)) k→Qo c g s k:=by
  rintro k (h|⟨i,h1,h2⟩)
  ·exact .inl h
  ·rcases hl i h1 with rfl|⟨h3,h4,h5⟩
   ·rw[dx]at h2;exact .inr ⟨b,aO,h2⟩
   ·rw[en i h4]at h2;exact .inr ⟨i,h5,h2⟩
 have hf:=Fr.refl w (Qo c g s)
 refine ⟨hR.size,hR.dL,fun i=>(hR.t i).mono hf (fun k _=>hW k) hg,fun i=>(hR.gl i).mono hf (fun k _=>hW k) (fun _ _=>rfl),fun i=>?_,fun p q m hp hq h1 h2=>?_,fun p m hp h1=>?_,hR.fr,hR.xs,ET hR jl⟩
 ·rw[hH]
  split
  ·rename_i e;subst e;rw[dx];exact (hR.h b).mono hf (fun k _=>hW k) hg fun _ _ _=>rfl
  ·rename_i e1
   rw[en i fun e=>e1 e.symm]
   split
   ·rename_i e;subst e
    refine .dead fun e=>?_
    have:=hR.h b;rw[e]at this;exact this.fU aO
   ·exact (hR.h i).mono hf (fun k _=>hW k) hg fun _ _ _=>rfl
 ·rcases hl p hp with rfl|⟨h3,h4,h5⟩<;>rcases hl q hq with rfl|⟨h6,h7,h8⟩
  ·rfl
  ·rw[dx]at h1;rw[en q h7]at h2;exact (h6 (hR.inj q b m h8 aO h2 h1)).elim
  ·rw[dx]at h2;rw[en p h4]at h1;exact (h3 (hR.inj p b m h5 aO h1 h2)).elim
  ·rw[en p h4]at h1;rw[en q h7]at h2;exact hR.inj p q m h5 h8 h1 h2
 ·rcases hl p hp with rfl|⟨h3,h4,h5⟩
  ·rw[dx]at h1;exact hR.old b m aO h1
  ·rw[en p h4]at h1;exact hR.old p m h5 h1
end
inductive SK where
 | int (k:IntKind)
 | bool
 | str
 | ref
inductive TY where
 | sc (k:SK)
 | ag (n:Nat)
def bB:AV→Int
 | .int _ n=>n
 | _=>0
def eL:AV→Bool
 | .bool b=>b
 | _=>false
def cL:AV→List UInt8
 | .str l=>l
 | _=>[]
def bZ (k:IntKind):AV→Prop
 | .int k' _=>k'=k
 | _=>False
def fK:AV→Prop
 | .int _ _=>True
 | _=>False
def fh:AV→Prop
 | .bool _=>True
 | _=>False
def fB:AV→Prop
 | .str _=>True
 | _=>False
def one:AV→Prop
 | .int _ _|.bool _|.str _|.ptr _ _|.xp _ _|.sl _ _ _ _ _|.isl _ _|.nils|.cl _ _|.mp _=>True
 | .lit v=>v.oneCell'=true
 | _=>False
def wH:SK→AV→AV
 | .int k,v=>.int k (bB v)
 | .bool,v=>.bool (eL v)
 | .str,v=>.str (cL v)
 | .ref,v=>v
def tB:SK→AV→Prop
 | .int k,v=>bZ k v
 | .bool,v=>fh v
 | .str,v=>fB v
 | .ref,_=>True
def wr:TY→List AV→Nat→AV
 | .sc k,cs,off=>wH k (cs.getD off .any)
 | .ag n,cs,off=>.agg ((cs.drop off).take n)
def j5:TY→List AV→Nat→Prop
 | .sc k,cs,off=>off < cs.length∧tB k (cs.getD off .any)
 | .ag n,cs,off=>off + n≤cs.length
def wI:BinOp→Int→Int→Int
 | .add,x,y=>x + y
 | .sub,x,y=>x - y
 | .mul,x,y=>x * y
 | _,_,_=>0
def sk:BinOp→Int→Int→Bool
 | .eql,x,y=>x == y
 | .neq,x,y=>x != y
 | .lss,x,y=>decide (x < y)
 | .leq,x,y=>decide (x≤y)
 | .gtr,x,y=>decide (y < x)
 | .geq,x,y=>decide (y≤x)
 | _,_,_=>false
def zc:BinOp→IntKind→Int→Int→Int
 | .quo,k,x,y=>k.wrap (x.tdiv y)
 | .rem,_,x,y=>x.tmod y
 | _,_,_,_=>0
def zd:BinOp→IntKind→Int→Int→Int
 | .shl,k,x,y=>k.wrap (x * 2 ^ min y.toNat k.bits)
 | .shr,k,x,y=>x.fdiv (2 ^ min y.toNat k.bits)
 | _,_,_,_=>0
def toB (cs:List AV):List UInt8:=cs.map fun v=>UInt8.ofNat (bB v).toNat
inductive Q1 where
 | mv|not|pick|ar (o:BinOp) (k:IntKind)|dv (o:BinOp) (k:IntKind)|bt (o:BinOp) (k:IntKind)|sh (o:BinOp) (k:IntKind)|cm (o:BinOp) (k:IntKind)
 | cB (ne:Bool)|cS (ne:Bool)|cat|cv (k:IntKind)|ze (ty:TY) (off:Nat)|vg (es len:Nat) (ty:TY)|zf|jm (off:Nat)|ft (len es:Nat)|fu (es:Nat)
 | ld (ty:TY)|oc|fV|od|zg (lo hi:Bool)|og (es:Nat) (lo hi:Bool)|ext (i:Nat)|fW|wJ (zero:List AV) (parts:List (Nat × Nat))|zh (f:FuncId)|mn (k:IntKind)|mx (k:IntKind)
 | eS (ne:Bool)|mZ
def Kf:AV→List AV
 | .agg cs=>cs
 | v=>[v]
def Yx (cs:List AV) (off:Nat) (vs:List AV):List AV:=cs.take off++vs++cs.drop (off + vs.length)
def tC:TY→List AV→Nat→AV→List AV
 | .sc _,cs,off,v=>cs.set off v
 | .ag _,cs,off,.agg vs=>Yx cs off vs
 | .ag _,cs,_,_=>cs
def Zz (cs:List AV):List (Nat × Nat)→List AV→List AV
 | (off,_)::ps,.agg vs::r=>Zz (Yx cs off vs) ps r
 | (off,_)::ps,v::r=>Zz (cs.set off v) ps r
 | _,_=>cs
def Zd (n:Nat):List (Nat × Nat)→List AV→Prop
 | (off,m)::ps,.agg vs::r=>vs.length=m∧off + m≤n∧Zd n ps r
 | (off,m)::ps,v::r=>one v∧m=1∧off < n∧Zd n ps r
 | [],[]=>True
 | _,_=>False
def Xx (lo:Bool):List AV→Int
 | x::_=>bif lo then bB x else 0
 | []=>0
def Ja (lo hi:Bool) (n:Nat):List AV→Int
 | [_,y]=>bif lo && hi then bB y else n
 | [x]=>bif hi then bB x else n
 | _=>n
def lO (lo hi:Bool):List AV→Prop
 | [x,y]=>lo=true∧hi=true∧bZ .i64 x∧bZ .i64 y
 | [x]=>bZ .i64 x∧(lo != hi)=true
 | []=>lo=false∧hi=false
 | _=>False
def qv:Q1→List AV→Bk→AV
 | .mv,[x],_=>x
 | .not,[x],_=>.bool (!eL x)
 | .pick,[c,x,y],_=>.bool (bif eL c then eL x else eL y)
 | .ar o k,[x,y],_=>.int k (k.wrap (wI o (bB x) (bB y)))
 | .dv o k,[x,y],_=>.int k (zc o k (bB x) (bB y))
 | .bt o k,[x,y],_=>.int k (bits o k (bB x) (bB y))
 | .sh o k,[x,y],_=>.int k (zd o k (bB x) (bB y))
 | .cm o _,[x,y],_=>.bool (sk o (bB x) (bB y))
 | .cB ne,[x,y],_=>.bool (ne != (eL x == eL y))
 | .cS ne,[x,y],_=>.bool (ne != (cL x == cL y))
 | .cat,[x,y],_=>.str (cL x++cL y)
 | .cv k,[x],_=>.int k (k.wrap (bB x))
 | .ze ty off,[.agg cs],_=>wr ty cs off
 | .vg es _ ty,[.agg cs,i],_=>wr ty cs ((bB i).toNat * es)
 | .zf,[x,i],_=>.int .u8 ((cL x).getD (bB i).toNat 0).toNat
 | .jm o,[.ptr b off],_=>.ptr b (off + o)
 | .jm o,[.xp cs off],_=>.xp cs (off + o)
 | .ft _ es,[.ptr b off,i],_=>.ptr b (off + (bB i).toNat * es)
 | .ft _ es,[.xp cs off,i],_=>.xp cs (off + (bB i).toNat * es)
 | .fu es,[.sl _ b off _ _,i],_=>.ptr b (off + (bB i).toNat * es)
 | .fu es,[.isl _ cs,i],_=>.xp cs ((bB i).toNat * es)
 | .ld ty,[.ptr _ off],.cells cs=>wr ty cs off
 | .ld ty,[.xp cs off],_=>wr ty cs off
 | .oc,[x],_=>.int .i64 (cL x).length
 | .fV,[.isl n _],_=>.int .i64 n
 | .fV,[.sl _ _ _ n _],_=>.int .i64 n
 | .fV,[.nils],_=>.int .i64 0
 | .od,[.mp _],.aC kvs _=>.int .i64 kvs.length
 | .zg lo hi,x::r,_=>.str (((cL x).drop (Xx lo r).toNat).take ((Ja lo hi (cL x).length r).toNat - (Xx lo r).toNat))
 | .og es lo hi,.isl n cs::r,_=>.isl ((Ja lo hi n r).toNat - (Xx lo r).toNat) ((cs.drop ((Xx lo r).toNat * es)).take (((Ja lo hi n r).toNat - (Xx lo r).toNat) * es))
 | .og es lo hi,.sl _ b off n c::r,_=>if Xx lo r < c then .sl es b (off + (Xx lo r).toNat * es) ((Ja lo hi n r).toNat - (Xx lo r).toNat) (c - (Xx lo r).toNat) else .isl 0 []
 | .ext i,[.aU vs],_=>vs.getD i .any
 | .fW,[x],_=>x
 | .wJ z ps,vs,_=>.agg (Zz z ps vs)
 | .zh f,vs,_=>.cl f vs
 | .mn k,[x,y],_=>.int k (if bB y < bB x then bB y else bB x)
 | .mx k,[x,y],_=>.int k (if bB y > bB x then bB y else bB x)
 | .eS ne,[.lit (.pointer none)],_=>.bool (!ne)
 | .eS ne,[.ptr _ _],_=>.bool ne
 | .eS ne,[.xp _ _],_=>.bool ne
 | .mZ,[.sl _ _ off n _],.cells cs=>.str (toB ((cs.drop off).take n))
 | .mZ,[.isl n cs],_=>.str (toB (cs.take n))
 | .mZ,[.nils],_=>.str []
 | _,_,_=>.any
def qp:Q1→List AV→Bk→Prop
 | .mv,[_],_=>True
 | .not,[x],_=>fh x
 | .pick,[c,x,y],_=>fh c∧(eL c=true→fh x)∧(eL c=false→fh y)
 | .ar _ k,[x,y],_=>bZ k x∧bZ k y
 | .dv _ k,[x,y],_=>bZ k x∧bZ k y∧bB y≠0
 | .bt _ k,[x,y],_=>bZ k x∧bZ k y
 | .sh _ k,[x,y],_=>bZ k x∧fK y∧0≤bB y
 | .cm _ k,[x,y],_=>bZ k x∧bZ k y
 | .cB _,[x,y],_=>fh x∧fh y
 | .cS _,[x,y],_=>fB x∧fB y
 | .cat,[x,y],_=>fB x∧fB y∧(cL x).length + (cL y).length≤9223372036854775807
 | .cv _,[x],_=>fK x
 | .ze ty off,[.agg cs],_=>j5 ty cs off
 | .vg es len ty,[.agg cs,i],_=>fK i∧0≤bB i∧bB i < len∧j5 ty cs ((bB i).toNat * es)
 | .zf,[x,i],_=>fB x∧fK i∧0≤bB i∧bB i < (cL x).length
 | .jm _,[.ptr _ _],_=>True
 | .jm _,[.xp _ _],_=>True
 | .ft len _,[.ptr _ _,i],_=>fK i∧0≤bB i∧bB i < len
 | .ft len _,[.xp _ _,i],_=>fK i∧0≤bB i∧bB i < len
 | .fu es,[.sl es' _ _ n _,i],_=>es'=es∧fK i∧0≤bB i∧bB i < n
 | .fu es,[.isl n cs,i],_=>fK i∧0≤bB i∧bB i < n∧(bB i).toNat * es < cs.length
 | .ld ty,[.ptr _ off],.cells cs=>j5 ty cs off
 | .ld ty,[.xp cs off],_=>j5 ty cs off
 | .oc,[x],_=>fB x
 | .fV,[.isl _ _],_=>True
 | .fV,[.sl _ _ _ _ _],_=>True
 | .fV,[.nils],_=>True
 | .od,[.mp _],.aC _ _=>True
 | .zg lo hi,x::r,_=>fB x∧lO lo hi r∧0≤Xx lo r∧Xx lo r≤Ja lo hi (cL x).length r∧Ja lo hi (cL x).length r≤(cL x).length
 | .og es lo hi,.isl n cs::r,_=>lO lo hi r∧0≤Xx lo r∧Xx lo r≤Ja lo hi n r∧Ja lo hi n r≤n∧cs.length≤n * es
 | .og es lo hi,.sl es' _ _ n c::r,_=>es'=es∧lO lo hi r∧0≤Xx lo r∧Xx lo r≤Ja lo hi n r∧Ja lo hi n r≤c
 | .ext i,[.aU vs],_=>i < vs.length
 | .fW,[.ptr _ _],_=>True
 | .fW,[.xp _ _],_=>True
 | .wJ z ps,vs,_=>Zd z.length ps vs
 | .zh _,_,_=>True
 | .mn k,[x,y],_=>bZ k x∧bZ k y
 | .mx k,[x,y],_=>bZ k x∧bZ k y
 | .eS _,[.lit (.pointer none)],_=>True
 | .eS _,[.ptr _ _],_=>True
 | .eS _,[.xp _ _],_=>True
 | .mZ,[.sl es _ off n _],.cells cs=>es=1∧off + n≤cs.length∧∀ v ∈ (cs.drop off).take n,bZ .u8 v
 | .mZ,[.isl n cs],_=>n≤cs.length∧∀ v ∈ cs.take n,bZ .u8 v
 | .mZ,[.nils],_=>True
 | _,_,_=>False
inductive TV where
 | t (i:Nat)
 | c (v:AV)
 | gl (i:Nat)
def fj:Value→AV
 | .int k n=>.int k n
 | .bool b=>.bool b
 | .string s=>.str s.data.toList
 | .slice none 0 0=>.nils
 | v=>.lit v
def tD:Value→AV
 | .agg cs=>if cs.all (·.oneCell') then .agg (cs.toList.map fj) else .lit (.agg cs)
 | v=>fj v
def aT:Operand→TV
 | .tmp t=>.t t
 | .const v=>.c (tD v)
 | .global i=>.gl i
 | .func f=>.c (.cl f [])
def aZ (gl:Nat→AV) (s:FS):TV→AV
 | .t i=>s.T i
 | .c v=>v
 | .gl i=>gl i
def Io (P:Program) (t:TypeId):Option SK :=
 match P.underlying t with
 | some (.int k)=>some (.int k)
 | some .bool=>some .bool
 | some .string=>some .str
 | some (.pointer _)|some (.slice _)|some (.map _ _)|some (.func _ _ _)=>some .ref
 | _=>none
def Zk (P:Program) (t:TypeId):Option Nat:=(P.info? t).map (·.size)
def kO (P:Program) (t:TypeId):Option TY :=
 match P.underlying t with
 | some (.struct _)|some (.array _ _)=>(Zk P t).map .ag
 | _=>if Zk P t=some 1 then (Io P t).map .sc else none
def zj (P:Program) (fs:Array Field):List Nat→Option (List (Nat × Nat))
 | []=>some []
 | i::r=>match fs[i]? with
  | some f=>match Zk P f.type,zj P fs r with
   | some m,some l=>some ((f.offset,m)::l)
   | _,_=>none
  | none=>none
def Ip (op:BinOp) (k:IntKind):Q1:=match op with
 | .add|.sub|.mul=>.ar op k
 | .quo|.rem=>.dv op k
 | .and|.or|.xor|.andNot=>.bt op k
 | .shl|.shr=>.sh op k
 | _=>.cm op k
def Iq (op:BinOp):Option Q1:=match op with
 | .eql=>some (.cB false)
 | .neq=>some (.cB true)
 | _=>none
def Ir (op:BinOp):Option Q1:=match op with
 | .add=>some .cat
 | .eql=>some (.cS false)
 | .neq=>some (.cS true)
 | _=>none
def kP (op:BinOp) (y:Operand):Option Bool:=match y with
 | .const (.pointer none)=>(match op with
  | .eql=>some false
  | .neq=>some true
  | _=>none)
 | _=>none
def EU (P:Program) (op:BinOp) (t:TypeId) (x y:Operand):Option (Q1 × List Operand) :=
 match P.underlying t with
 | some (.int k)=>some (Ip op k,[x,y])
 | some .bool=>(Iq op).map fun q=>(q,[x,y])
 | some .string=>(Ir op).map fun q=>(q,[x,y])
 | some (.pointer _)=>(kP op y).map fun b=>(.eS b,[x])
 | _=>none
def tF (P:Program) (o:Oper):Option (Q1 × List Operand) :=
 match o.op with
 | .move x=>some (.mv,[x])
 | .assign x=>some (.mv,[x])
 | .pick c a b=>some (.pick,[c,a,b])
 | .unOp .not _ x=>some (.not,[x])
 | .binOp op t x y _=>EU P op t x y
 | .convert s d x=>match P.underlying s,P.underlying d with
  | some (.int _),some (.int k)=>some (.cv k,[x])
  | some (.slice e),some .string=>match P.underlying e with
   | some (.int .u8)=>some (.mZ,[x])
   | _=>none
  | _,_=>none
 | .field t x f=>match P.underlying t with
  | some (.struct fs)=>match fs[f]? with
   | some fd=>(kO P fd.type).map fun ty=>(.ze ty fd.offset,[x])
   | none=>none
  | _=>none
 | .index t x i=>match P.underlying t with
  | some (.array n e)=>match kO P e,Zk P e with
   | some ty,some es=>some (.vg es n ty,[x,i])
   | _,_=>none
  | some .string=>some (.zf,[x,i])
  | _=>none
 | .fieldAddr t x f=>match P.underlying t with
  | some (.struct fs)=>match fs[f]? with
   | some fd=>match Zk P fd.type with
    | some (_ + 1)=>some (.jm fd.offset,[x])
    | _=>none
   | none=>none
  | _=>none
 | .indexAddr t x i=>match P.underlying t with
  | some (.array n e)=>(Zk P e).map fun es=>(.ft n es,[x,i])
  | some (.slice e)=>(Zk P e).map fun es=>(.fu es,[x,i])
  | _=>none
 | .load t x=>(kO P t).map fun ty=>(.ld ty,[x])
 | .call ⟨.builtin .len,⟨[x]⟩,⟨[t]⟩⟩=>match P.underlying t with
  | some .string=>some (.oc,[x])
  | some (.slice _)=>some (.fV,[x])
  | some (.map _ _)=>some (.od,[x])
  | _=>none
 | .call ⟨.builtin .min,⟨[x,y]⟩,_⟩=>match P.underlying o.type with
  | some (.int k)=>some (.mn k,[x,y])
  | _=>none
 | .call ⟨.builtin .max,⟨[x,y]⟩,_⟩=>match P.underlying o.type with
  | some (.int k)=>some (.mx k,[x,y])
  | _=>none
 | .slice t x lo hi none=>match P.underlying t with
  | some .string=>some (.zg lo.isSome hi.isSome,x::(lo.toList++hi.toList))
  | some (.slice e)=>(Zk P e).map fun es=>(.og es lo.isSome hi.isSome,x::(lo.toList++hi.toList))
  | _=>none
 | .extract x i=>some (.ext i,[x])
 | .nilCheck x=>some (.fW,[x])
 | .build t parts=>match (P.info? t).bind (·.zero),P.underlying t with
  | some (.agg z),some (.struct fs)=>if z.all (·.oneCell') && fs.all (fun f=>(Zk P f.type).isSome) then (zj P fs (parts.toList.map (·.1))).map fun ps=>(.wJ (z.toList.map fj) ps,parts.toList.map (·.2)) else none
  | some (.agg z),some (.array _ e)=>if z.all (·.oneCell') then (Zk P e).map fun m=>(.wJ (z.toList.map fj) (parts.toList.map fun p=>(p.1 * m,m)),parts.toList.map (·.2)) else none
  | _,_=>none
 | .makeFunc (.func f) ⟨[]⟩ caps=>some (.zh f,caps.toList)
 | _=>none
section
variable {P:Program} {g:Nat→GM} {W:Nat→Prop} {w:World}
theorem VR.bZ {k:IntKind} {x:AV} {v:Value} (h:VR g W w x v) (hk:bZ k x):v=.int k (bB x):=by
 cases h<;>simp_all [Proofs.YtogckmommodmhaaGreatDoor.bZ,bB]
theorem VR.fK {x:AV} {v:Value} (h:VR g W w x v) (hk:fK x):∃ k,v=.int k (bB x):=by
 cases h<;>simp_all [Proofs.YtogckmommodmhaaGreatDoor.fK,bB]
theorem VR.fh {x:AV} {v:Value} (h:VR g W w x v) (hk:fh x):v=.bool (eL x):=by
 cases h<;>simp_all [Proofs.YtogckmommodmhaaGreatDoor.fh,eL]
theorem VR.fB {x:AV} {v:Value} (h:VR g W w x v) (hk:fB x):v=.string ⟨(cL x).toArray⟩:=by
 cases h<;>simp_all [Proofs.YtogckmommodmhaaGreatDoor.fB,cL]
theorem VR.one {x:AV} {v:Value} (h:VR g W w x v) (hk:one x):v.oneCell'=true:=by
 cases h<;>simp_all [Proofs.YtogckmommodmhaaGreatDoor.one,Value.oneCell']
theorem VR.tB {k:SK} {x:AV} {v:Value} (h:VR g W w x v) (hk:tB k x):VR g W w (wH k x) v:=by
 cases k with
 | int k=>rw[h.bZ hk];exact .int _ _
 | bool=>rw[h.fh hk];exact .bool _
 | str=>rw[h.fB hk];exact .str _
 | ref=>exact h
theorem EV (v:Value):VR g W w (fj v) v:=by
 unfold fj
 split
 ·exact .int _ _
 ·exact .bool _
 ·rename_i s
  have:Value.string s=.string ⟨s.data.toList.toArray⟩:=by cases s;simp
  rw[this];exact .str _
 ·exact .nils _
 ·exact .lit _
theorem EW (v:Value):VR g W w (tD v) v:=by
 unfold tD
 split
 ·rename_i cs
  split
  ·rename_i h
   refine .agg av (fun j hj=>?_) fun j hj=>?_
   ·have cU:j < cs.size:=by simpa using hj
    have:=(Array.all_eq_true.1 h) j cU
    simpa [Array.getD,cU] using this
   ·have cU:j < cs.size:=by simpa using hj
    have e:cs.getD j undef=cs[j]:=by simp[Array.getD,cU]
    have e':(cs.toList.map fj).getD j .any=fj cs[j]:=by simp[cU]
    rw[e,e'];exact EV _
  ·exact .lit _
 ·exact EV _
theorem R.ev {c:Cx} {s:FS} {a:Act} (hR:R c g s a w) (x:Operand):VR g (Qo c g s) w (aZ c.gl s (aT x)) (a.eval x):=by
 cases x with
 | tmp t=>exact hR.t t
 | const v=>exact EW v
 | global i=>exact (hR.gl i).mono (Fr.refl _ _) (fun _ _ h=>h) (fun _ h=>absurd rfl h)
 | func f=>exact .cl rfl (fun j hj=>absurd hj av)
end
def bO (g:Nat→GM) (W:Nat→Prop) (w:World):List AV→List Value→Prop
 | [],[]=>True
 | x::xs,v::vs=>VR g W w x v∧bO g W w xs vs
 | _,_=>False
def Jt:List AV→Option Nat
 | .ptr b _::_=>some b
 | .sl _ b _ _ _::_=>some b
 | .mp b::_=>some b
 | _=>none
def qj (s:FS) (l:List AV):Bk :=
 match Jt l with
 | some b=>s.H b
 | none=>.free
def Bs (g:Nat→GM) (W:Nat→Prop) (w:World) (l:List AV) (x:Bk):Prop:=∀ b,Jt l=some b→BR g W w (g b) x
section
variable {P:Program} {g:Nat→GM} {W:Nat→Prop} {w:World}
theorem bO.m6 {vs:List Value} (h:bO g W w [] vs):vs=[]:=by cases vs<;>simp_all [bO]
theorem bO.cons_inv {x:AV} {xs:List AV} {vs:List Value} (h:bO g W w (x::xs) vs):∃ v r,vs=v::r∧VR g W w x v∧bO g W w xs r:=by
 cases vs with
 | nil=>simp[bO]at h
 | cons v r=>exact ⟨v,r,rfl,h.1,h.2⟩
theorem bO.kQ {xs:List AV} (h:bO g W w xs []):xs=[]:=by cases xs<;>simp_all [bO]
theorem bO.dm {xs:List AV} {v:Value} {r:List Value} (h:bO g W w xs (v::r)):∃ x ys,xs=x::ys∧VR g W w x v∧bO g W w ys r:=by
 cases xs with
 | nil=>simp[bO]at h
 | cons x ys=>exact ⟨x,ys,rfl,h.1,h.2⟩
theorem bO.one {xs:List AV} {v:Value} (h:bO g W w xs [v]):∃ x,xs=[x]∧VR g W w x v:=by
 obtain ⟨x,ys,rfl,h1,h2⟩:=h.dm
 obtain rfl:=h2.kQ
 exact ⟨x,rfl,h1⟩
theorem bO.two {xs:List AV} {v u:Value} (h:bO g W w xs [v,u]):∃ x y,xs=[x,y]∧VR g W w x v∧VR g W w y u:=by
 obtain ⟨x,ys,rfl,h1,h2⟩:=h.dm
 obtain ⟨y,rfl,h3⟩:=h2.one
 exact ⟨x,y,rfl,h1,h3⟩
theorem bO.three {xs:List AV} {v u t:Value} (h:bO g W w xs [v,u,t]):∃ x y z,xs=[x,y,z]∧VR g W w x v∧VR g W w y u∧VR g W w z t:=by
 obtain ⟨x,ys,rfl,h1,h2⟩:=h.dm
 obtain ⟨y,z,rfl,h3⟩:=h2.two
 exact ⟨x,y,z,rfl,h1,h3⟩
theorem bO.length:∀ {xs:List AV} {vs:List Value},bO g W w xs vs→xs.length=vs.length
 | [],[],_=>rfl
 | _::xs,_::vs,h=>by simp[bO.length h.2]
 | [],_::_,h=>h.elim
 | _::_,[],h=>h.elim
theorem bO.get:∀ {xs:List AV} {vs:List Value} (_:bO g W w xs vs) (j:Nat) (_:j < xs.length),VR g W w (xs.getD j .any) (vs.getD j undef)
 | x::xs,v::vs,h,0,_=>h.1
 | x::xs,v::vs,h,j + 1,hj=>by
  have:=bO.get h.2 j (by simpa using hj)
  simpa using this
 | [],_,_,_,hj=>absurd hj av
 | _::_,[],h,_,_=>h.elim
theorem Bt {cs:List AV} {j:Nat} (h:j < cs.length):cs.getD j .any=cs[j]:=by simp[List.getD,h]
theorem Pc {k:SK} {cs:List AV} {us:Nat→Value} (hv:∀ j,j < cs.length→VR g W w (cs.getD j .any) (us j)) {off:Nat} (h:j5 (.sc k) cs off):VR g W w (wr (.sc k) cs off) (us off):=by
 exact (hv off h.1).tB h.2
theorem Pd {n:Nat} {cs:List AV} {us:Nat→Value} (h1:∀ j,j < cs.length→(us j).oneCell'=true) (hv:∀ j,j < cs.length→VR g W w (cs.getD j .any) (us j)) {off:Nat} (h:j5 (.ag n) cs off) (vs:Array Value) (hn:vs.size=n) (fv:∀ j,j < n→vs.getD j undef=us (off + j)):VR g W w (wr (.ag n) cs off) (.agg vs):=by
 have hl:((cs.drop off).take n).length=n:=by simp only[j5]at h;simp;omega
 have h':off + n≤cs.length:=h
 refine .agg (by rw[hl,hn]) (fun j hj=>?_) fun j hj=>?_
 ·rw[hl]at hj;rw[fv j hj];exact h1 _ af
 ·rw[hl]at hj
  rw[fv j hj]
  have e:((cs.drop off).take n).getD j .any=cs.getD (off + j) .any:=by
   simp only[List.getD,List.getElem?_take,List.getElem?_drop,if_pos hj]
  rw[e]
  exact hv _ af
theorem add_lit (k o j:Nat):(⟨k,o,none⟩:Addr).add j=⟨k,o + j,none⟩:=by unfold Addr.add;split<;>simp_all
theorem EY {t:TypeId} {n:Nat} (h:kO P t=some (.ag n)):Zk P t=some n∧((∃ fs,P.underlying t=some (.struct fs))∨∃ m e,P.underlying t=some (.array m e)):=by
 unfold kO at h
 split at h
 ·rename_i fs hu
  cases hs:Zk P t<;>rw[hs]at h<;>simp at h
  exact ⟨by rw[h],.inl ⟨_,hu⟩⟩
 ·rename_i m e hu
  cases hs:Zk P t<;>rw[hs]at h<;>simp at h
  exact ⟨by rw[h],.inr ⟨_,_,hu⟩⟩
 ·split at h
  ·cases hs:Io P t<;>rw[hs]at h<;>simp at h
  ·cases h
theorem Pe {t:TypeId} {k:SK} (h:kO P t=some (.sc k)):Zk P t=some 1∧∃ d,P.underlying t=some d∧(∀ fs,d≠.struct fs)∧(∀ m e,d≠.array m e):=by
 unfold kO at h
 split at h
 ·cases hs:Zk P t<;>rw[hs]at h<;>simp at h
 ·cases hs:Zk P t<;>rw[hs]at h<;>simp at h
 ·rename_i h1 h2
  split at h
  ·rename_i h3
   refine ⟨h3,?_⟩
   cases hu:P.underlying t with
   | none=>unfold Io at h;rw[hu]at h;simp at h
   | some d=>exact ⟨d,rfl,fun fs e=>h1 fs (by rw[hu,e]),fun m e e'=>h2 m e (by rw[hu,e'])⟩
  ·cases h
theorem Pf {t:TypeId} {n:Nat} (h:kO P t=some (.ag n)):(isAgg t).run P w=.ok true w:=by
 obtain ⟨_,⟨fs,hu⟩|⟨m,e,hu⟩⟩:=EY h<;>simp[isAgg,run_underlying hu]
theorem Pg {t:TypeId} {k:SK} (h:kO P t=some (.sc k)):(isAgg t).run P w=.ok false w:=by
 obtain ⟨_,d,hu,h1,h2⟩:=Pe h
 simp only[isAgg,Sem.run_bind,run_underlying hu,Result.andThen_ok]
 cases d<;>first|rfl|exact absurd rfl (h1 _)|exact absurd rfl (h2 _ _)
theorem Ju {t:TypeId} {n:Nat} (h:Zk P t=some n):(sizeOf t).run P w=.ok n w:=by
 unfold Zk at h
 cases hi:P.info? t with
 | none=>rw[hi]at h;simp at h
 | some i=>rw[hi]at h;simp at h;simp[sizeOf,typeInfo,hi,h]
theorem Bu {t:TypeId} {ty:TY} (ht:kO P t=some ty) {k o:Nat} {cs:List AV} {us:Nat→Value} (hc:∀ j,j < cs.length→Uj w k (o + j)=some (us j)) (h1:∀ j,j < cs.length→(us j).oneCell'=true)
  (hv:∀ j,j < cs.length→VR g W w (cs.getD j .any) (us j)) {off:Nat} (h:j5 ty cs off) :
  ∃ v,(Instr.loadAt t (.pointer (some ⟨k,o + off,none⟩))).run P w=.ok v w∧VR g W w (wr ty cs off) v:=by
 cases ty with
 | sc q =>
  refine ⟨us off,?_,Pc hv h⟩
  have h0:w.cell? ⟨k,o + off,none⟩=some (us off):=hc off h.1
  simp[Instr.loadAt,Instr.sureAddr,loadVar,Pg ht,h0]
 | ag n =>
  obtain ⟨hs,_⟩:=EY ht
  have h':off + n≤cs.length:=h
  refine ⟨.agg ((List.range n).map fun j=>us (off + j)).toArray,?_,Pd h1 hv h _ av fun j hj=>by simp[Array.getD,hj]⟩
  have hl:=run_loadCells (P:=P) w ⟨k,o + off,none⟩ n (fun j=>us (off + j)) (fun j hj=>by rw[add_lit,Nat.add_assoc];exact hc _ af)
  simp[Instr.loadAt,Instr.sureAddr,loadVar,Pf ht,Ju hs,hl]
theorem Ph {t:TypeId} {ty:TY} (ht:kO P t=some ty) {vs:Array Value} {cs:List AV} (hs:vs.size=cs.length) (h1:∀ j,j < cs.length→(vs.getD j undef).oneCell'=true)
  (hv:∀ j,j < cs.length→VR g W w (cs.getD j .any) (vs.getD j undef)) {off:Nat} (h:j5 ty cs off):∃ v,(part t vs off).run P w=.ok v w∧VR g W w (wr ty cs off) v:=by
 cases ty with
 | sc q =>
  refine ⟨vs.getD off undef,?_,Pc hv h⟩
  have h0:off < vs.size:=by rw[hs];exact h.1
  simp[part,Pg ht,h0,Array.getD]
 | ag m =>
  obtain ⟨qh,_⟩:=EY ht
  have h':off + m≤cs.length:=h
  refine ⟨.agg (vs.extract off (off + m)),?_,Pd h1 hv h _ (by simp;omega) fun j hj=>?_⟩
  ·simp[part,Pf ht,Ju qh]
  ·have:off + j < vs.size:=by omega
   simp only[Array.getD,Array.size_extract,this,dif_pos]
   rw[dif_pos af]
   simp
theorem Is {m:GM} {cs:List AV} (h:BR g W w m (.cells cs)) (bN:0 < cs.length):∃ (k:Nat) (us:Nat→Value),m=.re k∧(∀ j,j < cs.length→Uj w k (0 + j)=some (us j))∧(∀ j,j < cs.length→(us j).oneCell'=true)∧∀ j,j < cs.length→VR g W w (cs.getD j .any) (us j):=by
 cases h with
 | ph=>simp at bN
 | cells hb hl h1 hv hf =>
  rename_i k cur e fz
  refine ⟨k,fun j=>cur.getD j undef,rfl,fun j hj=>?_,h1,hv⟩
  have cU:j < cur.size:=by omega
  have:=cell_of_row w k (0 + j) cur e fz hb
  unfold Uj
  rw[this]
  simp[Array.getD,cU]
theorem Pj {ty:TY} {cs:List AV} {off:Nat} (h:j5 ty cs off) (bN:¬ 0 < cs.length):ty=.ag 0∧cs=[]∧off=0:=by
 have hl:cs.length=0:=by omega
 cases ty with
 | sc k=>have:=h.1;omega
 | ag n=>have h':off + n≤cs.length:=h;exact ⟨by congr;omega,List.eq_nil_of_length_eq_zero hl,by omega⟩
end
section
variable {P:Program} {g:Nat→GM} {W:Nat→Prop} {w:World}
theorem EZ {op:BinOp} {t:TypeId} {x y:Operand} {a b:Value} (h:a.oneCell'=true) (h2:a≠.nilIface):(eqGuard op t x y a b).run P w=.ok () w:=by
 cases op<;>cases a<;>simp_all [eqGuard,Value.oneCell']<;>rfl
theorem Kr {op:BinOp} {t:TypeId} {x y:Operand} (k:IntKind) (n:Int) (b:Value):(eqGuard op t x y (.int k n) b).run P w=.ok () w:=EZ rfl (by simp)
theorem Pm {op:BinOp} {t:TypeId} {x y:Operand} (n:Bool) (b:Value):(eqGuard op t x y (.bool n) b).run P w=.ok () w:=EZ rfl (by simp)
theorem It {op:BinOp} {t:TypeId} {x y:Operand} (n:ByteArray) (b:Value):(eqGuard op t x y (.string n) b).run P w=.ok () w:=EZ rfl (by simp)
theorem Pn {op:BinOp} {t:TypeId} {x y:Operand} (n:Option Addr) (b:Value):(eqGuard op t x y (.pointer n) b).run P w=.ok () w:=EZ rfl (by simp)
theorem Iu {op:BinOp} (h:op=.add∨op=.sub∨op=.mul) (t:TypeId) (k:IntKind) (m n:Int):binOp op t (.int k m) (.int k n)=pure (.int k (k.wrap (wI op m n))):=by
 rcases h with rfl|rfl|rfl<;>simp[binOp,Op.intArith,wI]
theorem Po {op:BinOp} (h:op=.quo∨op=.rem) (t:TypeId) (k:IntKind) (m n:Int) (h0:n≠0):binOp op t (.int k m) (.int k n)=pure (.int k (zc op k m n)):=by
 rcases h with rfl|rfl<;>simp[binOp,Op.intDiv,zc,h0]
theorem E0 {op:BinOp} (h:op=.and∨op=.or∨op=.xor∨op=.andNot) (t:TypeId) (k:IntKind) (m n:Int):binOp op t (.int k m) (.int k n)=pure (.int k (bits op k m n)):=by
 rcases h with rfl|rfl|rfl|rfl<;>simp[binOp,Op.intBits,bits]
theorem Pp {op:BinOp} (h:op=.shl∨op=.shr) (t:TypeId) (k j:IntKind) (m n:Int) (h0:0≤n):binOp op t (.int k m) (.int j n)=pure (.int k (zd op k m n)):=by
 have h1:¬ n < 0:=by omega
 rcases h with rfl|rfl<;>simp[binOp,Op.shift,zd,h1]
theorem Y6 {op:BinOp} (h:op=.eql∨op=.neq∨op=.lss∨op=.leq∨op=.gtr∨op=.geq) (t:TypeId) (k:IntKind) (m n:Int):binOp op t (.int k m) (.int k n)=pure (.bool (sk op m n)):=by
 rcases h with rfl|rfl|rfl|rfl|rfl|rfl<;>simp[binOp,Op.intCmp,sk]
theorem Y7 {t e:TypeId} (hu:P.underlying t=some (.pointer e)) (p:Option Addr):(binOp .eql t (.pointer p) (.pointer none)).run P w=.ok (.bool p.isNone) w:=by
 rw[run_eql_pointer_nil w t p (by rw[hu];simp[Program.pointee,hu])]
theorem Y8 {t e:TypeId} (hu:P.underlying t=some (.pointer e)) (p:Option Addr):(binOp .neq t (.pointer p) (.pointer none)).run P w=.ok (.bool (!p.isNone)) w:=by
 rw[run_neq_pointer_nil w t p (by rw[hu];simp[Program.pointee,hu])]
theorem Pq (l:List UInt8):(⟨l.toArray⟩:ByteArray).toList=l:=by rw[Lib.toList_data]
theorem Y9 (l m:List UInt8):(⟨l.toArray⟩:ByteArray)++⟨m.toArray⟩=⟨(l++m).toArray⟩:=by
 apply ByteArray.ext
 simp[ByteArray.data_append]
theorem E3 (l:List UInt8):(⟨l.toArray⟩:ByteArray).size=l.length:=by simp[ByteArray.size]
theorem ZA {op:BinOp} {t:TypeId} {x y:Operand} {q:Q1} {xs:List Operand} (aJ:EU P op t x y=some (q,xs)) (ρ:Operand→Value) {iv:List AV} (ha:bO g W w iv (xs.map ρ)) {m7:Bk}
  (hp:qp q iv m7) (hy:∀ v,y=.const v→ρ y=v):∃ v,(do eqGuard op t x y (ρ x) (ρ y);binOp op t (ρ x) (ρ y):Sem Value).run P w=.ok v w∧VR g W w (qv q iv m7) v:=by
 unfold EU at aJ
 split at aJ
 ·rename_i k hu
  have two:∀ q',some (q',[x,y])=some (q,xs)→∃ a b,iv=[a,b]∧q=q'∧VR g W w a (ρ x)∧VR g W w b (ρ y):=by
   intro q' h
   simp at h
   obtain ⟨rfl,rfl⟩:=h
   obtain ⟨a,b,rfl,h1,h2⟩:=bO.two (by simpa using ha)
   exact ⟨a,b,rfl,rfl,h1,h2⟩
  unfold Ip at aJ
  split at aJ
  all_goals
   obtain ⟨a,b,rfl,rfl,h1,h2⟩:=two _ aJ
   simp only[qp]at hp
  ·rw[h1.bZ hp.1,h2.bZ hp.2];exact ⟨_,by simp only[Sem.run_bind,Kr,Result.andThen_ok,Iu (.inl rfl)];rfl,.int _ _⟩
  ·rw[h1.bZ hp.1,h2.bZ hp.2];exact ⟨_,by simp only[Sem.run_bind,Kr,Result.andThen_ok,Iu (.inr (.inl rfl))];rfl,.int _ _⟩
  ·rw[h1.bZ hp.1,h2.bZ hp.2];exact ⟨_,by simp only[Sem.run_bind,Kr,Result.andThen_ok,Iu (.inr (.inr rfl))];rfl,.int _ _⟩
  ·rw[h1.bZ hp.1,h2.bZ hp.2.1];exact ⟨_,by simp only[Sem.run_bind,Kr,Result.andThen_ok,Po (.inl rfl) _ _ _ _ hp.2.2];rfl,.int _ _⟩
  ·rw[h1.bZ hp.1,h2.bZ hp.2.1];exact ⟨_,by simp only[Sem.run_bind,Kr,Result.andThen_ok,Po (.inr rfl) _ _ _ _ hp.2.2];rfl,.int _ _⟩
  ·rw[h1.bZ hp.1,h2.bZ hp.2];exact ⟨_,by simp only[Sem.run_bind,Kr,Result.andThen_ok,E0 (.inl rfl)];rfl,.int _ _⟩
  ·rw[h1.bZ hp.1,h2.bZ hp.2];exact ⟨_,by simp only[Sem.run_bind,Kr,Result.andThen_ok,E0 (.inr (.inl rfl))];rfl,.int _ _⟩
  ·rw[h1.bZ hp.1,h2.bZ hp.2];exact ⟨_,by simp only[Sem.run_bind,Kr,Result.andThen_ok,E0 (.inr (.inr (.inl rfl)))];rfl,.int _ _⟩
  ·rw[h1.bZ hp.1,h2.bZ hp.2];exact ⟨_,by simp only[Sem.run_bind,Kr,Result.andThen_ok,E0 (.inr (.inr (.inr rfl)))];rfl,.int _ _⟩
  ·obtain ⟨j,hj⟩:=h2.fK hp.2.1
   rw[h1.bZ hp.1,hj];exact ⟨_,by simp only[Sem.run_bind,Kr,Result.andThen_ok,Pp (.inl rfl) _ _ _ _ _ hp.2.2];rfl,.int _ _⟩
  ·obtain ⟨j,hj⟩:=h2.fK hp.2.1
   rw[h1.bZ hp.1,hj];exact ⟨_,by simp only[Sem.run_bind,Kr,Result.andThen_ok,Pp (.inr rfl) _ _ _ _ _ hp.2.2];rfl,.int _ _⟩
  ·rw[h1.bZ hp.1,h2.bZ hp.2]
   have bl:op=.eql∨op=.neq∨op=.lss∨op=.leq∨op=.gtr∨op=.geq:=by cases op<;>simp_all
   exact ⟨_,by simp only[Sem.run_bind,Kr,Result.andThen_ok,Y6 bl];rfl,.bool _⟩
 ·rename_i hu
  unfold Iq at aJ
  split at aJ
  ·simp at aJ
   obtain ⟨rfl,rfl⟩:=aJ
   obtain ⟨a,b,rfl,h1,h2⟩:=bO.two (by simpa using ha)
   rw[h1.fh hp.1,h2.fh hp.2]
   exact ⟨.bool (eL a == eL b),by simp only[Sem.run_bind,Pm,Result.andThen_ok,run_eql_bool _ _ _ _ hu],by simp only[qv,Bool.false_bne];exact .bool _⟩
  ·simp at aJ
   obtain ⟨rfl,rfl⟩:=aJ
   obtain ⟨a,b,rfl,h1,h2⟩:=bO.two (by simpa using ha)
   rw[h1.fh hp.1,h2.fh hp.2]
   exact ⟨.bool (!(eL a == eL b)),by simp only[Sem.run_bind,Pm,Result.andThen_ok,run_neq_bool _ _ _ _ hu],by simp only[qv,Bool.true_bne];exact .bool _⟩
  ·simp at aJ
 ·rename_i hu
  unfold Ir at aJ
  split at aJ
  ·simp at aJ
   obtain ⟨rfl,rfl⟩:=aJ
   obtain ⟨a,b,rfl,h1,h2⟩:=bO.two (by simpa using ha)
   rw[h1.fB hp.1,h2.fB hp.2.1]
   have hlen:=hp.2.2
   refine ⟨.string ⟨(cL a++cL b).toArray⟩,?_,.str _⟩
   simp only[Sem.run_bind,It,Result.andThen_ok,binOp_string_add,Op.stringOp,E3,Y9]
   rw[if_neg (by simp[IntKind.max,IntKind.signed,IntKind.bits];omega)]
   rfl
  ·simp at aJ
   obtain ⟨rfl,rfl⟩:=aJ
   obtain ⟨a,b,rfl,h1,h2⟩:=bO.two (by simpa using ha)
   rw[h1.fB hp.1,h2.fB hp.2]
   exact ⟨.bool (cL a == cL b),by simp only[Sem.run_bind,It,Result.andThen_ok,binOp_string_eql,Pq,Sem.run_pure],by simp only[qv,Bool.false_bne];exact .bool _⟩
  ·simp at aJ
   obtain ⟨rfl,rfl⟩:=aJ
   obtain ⟨a,b,rfl,h1,h2⟩:=bO.two (by simpa using ha)
   rw[h1.fB hp.1,h2.fB hp.2]
   exact ⟨.bool (!(cL a == cL b)),by simp only[Sem.run_bind,It,Result.andThen_ok,binOp_string_neq,Pq,Sem.run_pure],by simp only[qv,Bool.true_bne];exact .bool _⟩
  ·simp at aJ
 ·rename_i e hu
  have ptr:∀ {a:AV},VR g W w a (ρ x)→(qp (.eS false) [a] m7∨qp (.eS true) [a] m7)→∃ p:Option Addr,ρ x=.pointer p∧∀ ne,qv (.eS ne) [a] m7=.bool (if p.isNone then !ne else ne):=by
   intro a h1 hq
   generalize ρ x=rx at h1
   cases h1 with
   | ptr=>exact ⟨_,rfl,fun ne=>by simp[qv]⟩
   | xp=>exact ⟨_,rfl,fun ne=>by simp[qv]⟩
   | lit =>
    cases rx<;>simp only[qp,or_self]at hq
    rename_i p
    cases p<;>simp only[qp,or_self]at hq
    exact ⟨_,rfl,fun ne=>by simp[qv]⟩
   | _=>simp[qp]at hq
  unfold kP at aJ
  split at aJ
  rotate_left
  ·simp at aJ
  split at aJ
  ·simp at aJ
   obtain ⟨rfl,rfl⟩:=aJ
   obtain ⟨a,rfl,h1⟩:=bO.one (by simpa using ha)
   obtain ⟨p,e1,e2⟩:=ptr h1 (.inl hp)
   refine ⟨.bool p.isNone,?_,by rw[e2];cases p<;>exact .bool _⟩
   rw[hy _ rfl,e1]
   simp only[Sem.run_bind,Pn,Result.andThen_ok,Y7 hu]
  ·simp at aJ
   obtain ⟨rfl,rfl⟩:=aJ
   obtain ⟨a,rfl,h1⟩:=bO.one (by simpa using ha)
   obtain ⟨p,e1,e2⟩:=ptr h1 (.inr hp)
   refine ⟨.bool (!p.isNone),?_,by rw[e2];cases p<;>exact .bool _⟩
   rw[hy _ rfl,e1]
   simp only[Sem.run_bind,Pn,Result.andThen_ok,Y8 hu]
  ·simp at aJ
 ·cases aJ
theorem Zt {s:Sem Value} {v:Value} {w':World} (h:s.run P w=.ok v w'):(do pure (.value (← s)):Sem Next).run P w=.ok (.value v) w':=by simp[h]
theorem ZB {lo hi:Bool} {r:List AV} (hb:lO lo hi r) {vs:List Value} (hv:bO g W w r vs) :
  (lo=true→∃ k,vs[0]?=some (.int k (Xx lo r)))∧(lo=false→Xx lo r=0)∧(∀ n,hi=true→∃ k,vs[if lo then 1 else 0]?=some (.int k (Ja lo hi n r)))∧(∀ n,hi=false→Ja lo hi n r=n):=by
 match r,hb with
 | [],⟨h1,h2⟩=>subst h1;subst h2;exact ⟨(fun h=>by cases h),fun _=>rfl,(fun _ h=>by cases h),fun _ _=>rfl⟩
 | [x],⟨h1,h2⟩ =>
  obtain ⟨v,r',rfl,h3,h4⟩:=hv.cons_inv
  obtain rfl:=h4.m6
  have e:=h3.bZ h1
  cases lo<;>cases hi<;>simp at h2<;>simp[Xx,Ja,e]
 | [x,y],⟨h1,h2,h3,h4⟩ =>
  subst h1;subst h2
  obtain ⟨v,r',rfl,h5,h6⟩:=hv.cons_inv
  obtain ⟨u,r'',rfl,h7,h8⟩:=h6.cons_inv
  have e:=h5.bZ h3
  have e':=h7.bZ h4
  simp[Xx,Ja,e,e']
theorem E4 {isSlice:Bool} {len cap:Nat} {lo hi:Option Operand} {ρ:Operand→Value} {r:List AV} (hb:lO lo.isSome hi.isSome r) (hv:bO g W w r ((lo.toList++hi.toList).map ρ))
  (h0:0≤Xx lo.isSome r) (h1:Xx lo.isSome r≤Ja lo.isSome hi.isSome len r) (h2:Ja lo.isSome hi.isSome len r≤cap) :
  (Instr.sliceBounds isSlice len cap (lo.map ρ) (hi.map ρ) none).run P w=.ok ((Xx lo.isSome r).toNat,(Ja lo.isSome hi.isSome len r).toNat,cap) w:=by
 obtain ⟨a1,a2,a3,a4⟩:=ZB hb hv
 generalize Xx lo.isSome r=L at *
 replace a3:=a3 len
 replace a4:=a4 len
 generalize Ja lo.isSome hi.isSome len r=H at *
 have wK:∀ (k:IntKind) (i:Int) (y:Nat) (code:BoundsCode),0≤i→i≤y→(Instr.sliceBound (.int k i) y code).run P w=.ok i.toNat w:=fun k i y code h h'=>by
  simp[Instr.sliceBound,asIntOf,h,h']
 have hH:(H.toNat:Int)=H:=by omega
 cases lo with
 | none =>
  have e:=a2 rfl
  subst e
  cases hi with
  | none=>have e:=a4 rfl;subst e;simp[Instr.sliceBounds]
  | some y =>
   obtain ⟨k,e⟩:=a3 rfl
   simp at e
   simp[Instr.sliceBounds,e,wK k H cap _ h1 h2]
 | some x =>
  obtain ⟨k,e⟩:=a1 rfl
  simp at e
  cases hi with
  | none=>have e':=a4 rfl;subst e';simp[Instr.sliceBounds,e,wK k L len _ h0 h1]
  | some y =>
   obtain ⟨k',e'⟩:=a3 rfl
   simp at e'
   simp[Instr.sliceBounds,e,e',wK k' H cap _ af h2,wK k L H.toNat _ h0 af]
theorem Pr (off:Nat):∀ (l:List Value) (k:Nat) (cs:Array Value),((l.zipIdx k).foldl (fun cs (p:Value × Nat)=>cs.setIfInBounds (off + p.2) p.1) cs).size=cs.size ∧
  ∀ j,((l.zipIdx k).foldl (fun cs (p:Value × Nat)=>cs.setIfInBounds (off + p.2) p.1) cs).getD j undef=if off + k≤j∧j < off + k + l.length∧j < cs.size then l.getD (j - (off + k)) undef else cs.getD j undef
 | [],k,cs=>by
  refine ⟨rfl,fun j=>?_⟩
  rw[if_neg (by simp;omega)]
  rfl
 | v::l,k,cs=>by
  obtain ⟨h1,h2⟩:=Pr off l (k + 1) (cs.setIfInBounds (off + k) v)
  simp only[List.zipIdx_cons,List.foldl_cons]
  refine ⟨by rw[h1];simp,fun j=>?_⟩
  rw[h2 j]
  simp only[Array.size_setIfInBounds,List.length_cons]
  by_cases hj:j=off + k
  ·subst hj
   rw[if_neg af]
   by_cases hs:off + k < cs.size
   ·rw[if_pos af];simp[Array.getD,hs]
   ·rw[if_neg af];simp[Array.getD,hs]
  ·have e:(cs.setIfInBounds (off + k) v).getD j undef=cs.getD j undef:=by
    simp only[Array.getD_eq_getD_getElem?,Array.getElem?_setIfInBounds]
    rw[if_neg (fun h=>hj h.symm)]
   rw[e]
   by_cases hc:off + (k + 1)≤j∧j < off + (k + 1) + l.length∧j < cs.size
   ·rw[if_pos hc,if_pos af]
    have:j - (off + k)=(j - (off + (k + 1))) + 1:=by omega
    rw[this];simp
   ·rw[if_neg hc,if_neg af]
theorem Ps {cs vs:List AV} {off:Nat} (ho:off + vs.length≤cs.length):(Yx cs off vs).length=cs.length:=by unfold Yx;simp;omega
theorem ZC {cs vs:List AV} {off:Nat} (ho:off + vs.length≤cs.length) (j:Nat):(Yx cs off vs).getD j .any=if off≤j∧j < off + vs.length then vs.getD (j - off) .any else cs.getD j .any:=by
 unfold Yx
 simp only[List.getD]
 by_cases hlt:j < off
 ·rw[if_neg af,List.append_assoc,List.getElem?_append_left (by simp;omega),List.getElem?_take,if_pos hlt]
 ·by_cases ZD:j < off + vs.length
  ·rw[if_pos af,List.getElem?_append_left (by simp;omega),List.getElem?_append_right (by simp;omega)]
   simp only[List.length_take]
   rw[show min off cs.length=off by omega]
  ·rw[if_neg af,List.getElem?_append_right (by simp;omega),List.getElem?_drop]
   simp only[List.length_append,List.length_take]
   rw[show off + vs.length + (j - (min off cs.length + vs.length))=j by omega]
theorem Pt {cs:List AV} {cells:Array Value} (hs:cells.size=cs.length) (h1:∀ j,j < cs.length→(cells.getD j undef).oneCell'=true) (h:∀ j,j < cs.length→VR g W w (cs.getD j .any) (cells.getD j undef))
  {vs:List AV} {us:Array Value} (hu:us.size=vs.length) (ZE:∀ j,j < vs.length→(us.getD j undef).oneCell'=true) (hv:∀ j,j < vs.length→VR g W w (vs.getD j .any) (us.getD j undef)) {off:Nat} (ho:off + vs.length≤cs.length)
  {cells':Array Value} (qh:cells'.size=cells.size) (hc:∀ j,cells'.getD j undef=if off≤j∧j < off + us.size∧j < cells.size then us.getD (j - off) undef else cells.getD j undef) :
  cells'.size=(Yx cs off vs).length∧(∀ j,j < (Yx cs off vs).length→(cells'.getD j undef).oneCell'=true)∧∀ j,j < (Yx cs off vs).length→VR g W w ((Yx cs off vs).getD j .any) (cells'.getD j undef):=by
 have hl:(Yx cs off vs).length=cs.length:=by unfold Yx;simp;omega
 refine ⟨by rw[hl,qh,hs],fun j hj=>?_,fun j hj=>?_⟩
 ·rw[hl]at hj
  rw[hc]
  split
  ·exact ZE _ af
  ·exact h1 _ hj
 ·rw[hl]at hj
  rw[hc]
  rw[ZC ho]
  by_cases zl:off≤j∧j < off + vs.length
  ·rw[if_pos zl,if_pos af];exact hv _ af
  ·rw[if_neg zl,if_neg af];exact h j hj
theorem Pu {cs:List AV} {off:Nat} {x:AV} (h:off < cs.length):cs.set off x=Yx cs off [x]:=by
 apply List.ext_getElem?
 intro j
 unfold Yx
 rw[List.getElem?_set]
 by_cases hlt:j < off
 ·rw[if_neg af,List.append_assoc,List.getElem?_append_left (by simp;omega),List.getElem?_take,if_pos hlt]
 ·by_cases he:off=j
  ·subst he
   rw[if_pos rfl,if_pos h,List.getElem?_append_left (by simp;omega),List.getElem?_append_right (by simp;omega)]
   simp[Nat.min_eq_left (Nat.le_of_lt h)]
  ·rw[if_neg he,List.getElem?_append_right (by simp;omega),List.getElem?_drop]
   simp only[List.length_append,List.length_take,List.length_singleton]
   congr 1;omega
theorem Iv {v:Value} (h:v.oneCell'=true):v.cells=#[v]:=by cases v<;>simp_all [Value.cells,Value.oneCell']
theorem ZF {n off m:Nat} {ps:List (Nat × Nat)} {x:AV} {r:List AV} (h:∀ vs,x≠.agg vs) (hb:Zd n ((off,m)::ps) (x::r)):one x∧m=1∧off < n∧Zd n ps r:=by
 cases x<;>first|exact absurd rfl (h _)|exact hb
theorem ZG {cs:List AV} {off m:Nat} {ps:List (Nat × Nat)} {x:AV} {r:List AV} (h:∀ vs,x≠.agg vs):Zz cs ((off,m)::ps) (x::r)=Zz (cs.set off x) ps r:=by
 cases x<;>first|exact absurd rfl (h _)|rfl
theorem Iw {place:Nat→Option (Nat × Nat)}:∀ (ps:List (Nat × Nat)) (is:List Nat) (_:is.map place=ps.map some) {iv:List AV} {vs:List Value} (_:bO g W w iv vs) (_:is.length=vs.length) {cs:List AV} {cells:Array Value}
  (_:Zd cs.length ps iv) (_:cells.size=cs.length) (_:∀ j,j < cs.length→(cells.getD j undef).oneCell'=true) (_:∀ j,j < cs.length→VR g W w (cs.getD j .any) (cells.getD j undef)),
  ∃ cells',Instr.fill place cells (is.zip vs)=some cells'∧VR g W w (.agg (Zz cs ps iv)) (.agg cells'):=by
 intro ps
 induction ps with
 | nil =>
  intro is zn iv vs hv hl cs cells hb hs h1 h
  obtain rfl:is=[]:=by simpa using zn
  obtain rfl:vs=[]:=by simpa using hl.symm
  obtain rfl:=hv.kQ
  exact ⟨cells,rfl,.agg hs h1 h⟩
 | cons p ps ih =>
  intro is zn iv vs hv hl cs cells hb hs h1 h
  obtain ⟨off,m⟩:=p
  cases is with
  | nil=>simp at zn
  | cons i is =>
   cases vs with
   | nil=>simp at hl
   | cons v vs =>
    obtain ⟨x,Ix,rfl,hx,oh⟩:=hv.dm
    simp only[List.map_cons,List.cons.injEq]at zn
    have kR:is.length=vs.length:=by simpa using hl
    -- the E5 cells,iv abstract and iv real ZH
    have piece:∃ (pv:List AV),v.cells.size=m∧pv.length=m∧off + m≤cs.length∧Zd cs.length ps Ix∧(∀ j,j < pv.length→(v.cells.getD j undef).oneCell'=true)∧(∀ j,j < pv.length→VR g W w (pv.getD j .any) (v.cells.getD j undef)) ∧
      Zz cs ((off,m)::ps) (x::Ix)=Zz (Yx cs off pv) ps Ix:=by
     by_cases zo:∃ Iy,x=.agg Iy
     ·obtain ⟨Iy,rfl⟩:=zo
      cases hx with
      | agg E6 fC h2 =>
       obtain ⟨e1,e2,e3⟩:=hb
       exact ⟨Iy,by rw[← e1];exact E6,e1,e2,e3,fC,h2,rfl⟩
     ·have wL:∀ vs,x≠.agg vs:=fun vs e=>zo ⟨vs,e⟩
      obtain ⟨e1,rfl,e2,e3⟩:=ZF wL hb
      have wM:=hx.one e1
      rw[Iv wM]
      refine ⟨[x],rfl,rfl,by omega,e3,fun j hj=>?_,fun j hj=>?_,by rw[ZG wL,Pu e2]⟩
      ·simp at hj;subst hj;exact wM
      ·simp at hj;subst hj;exact hx
    obtain ⟨pv,p1,p2,p3,p4,p5,p6,p7⟩:=piece
    rw[p7]
    have ep:Instr.fill place cells ((i::is).zip (v::vs))=Instr.fill place (v.cells.zipIdx.foldl (fun cs (c,j)=>cs.setIfInBounds (off + j) c) cells) (is.zip vs):=by
     simp only[List.zip_cons_cons,Instr.fill,zn.1]
     rw[if_neg]
     simp[p1]
     omega
    rw[ep]
    obtain ⟨f1,f2⟩:=Pr off v.cells.toList 0 cells
    have Bv:v.cells.zipIdx.foldl (fun cs (c,j)=>cs.setIfInBounds (off + j) c) cells=(v.cells.toList.zipIdx 0).foldl (fun cs (p:Value × Nat)=>cs.setIfInBounds (off + p.2) p.1) cells:=by
     rw[← Array.foldl_toList];simp
    rw[Bv]
    generalize (v.cells.toList.zipIdx 0).foldl (fun cs (p:Value × Nat)=>cs.setIfInBounds (off + p.2) p.1) cells=Iz at f1 f2
    have ho:off + pv.length≤cs.length:=by omega
    obtain ⟨s1,s2,s3⟩:=Pt hs h1 h (vs:=pv) (us:=v.cells) (by rw[p1,p2]) p5 p6 ho f1 (fun j=>by
     rw[f2 j]
     simp only[Nat.add_zero,Array.length_toList]
     congr 1
     simp[Array.getD_eq_getD_getElem?])
    exact ih is zn.2 oh kR (by rw[Ps ho];exact p4) s1 s2 s3
end
section
variable {P:Program} {g:Nat→GM} {W:Nat→Prop} {w:World}
theorem Pv {fs:Array Field} {places:Array (Nat × Nat)} (gM:∀ i:Nat,places[i]?=(fs[i]?).bind fun (f:Field)=>(Zk P f.type).map fun m=>(f.offset,m)):∀ (is:List Nat) (ps:List (Nat × Nat)),zj P fs is=some ps→is.map (fun i=>places[i]?)=ps.map some
 | [],ps,h=>by simp[zj]at h;subst h;rfl
 | i::r,ps,h=>by
  unfold zj at h
  cases hf:fs[i]? with
  | none=>rw[hf]at h;simp at h
  | some f =>
   rw[hf]at h
   simp only at h
   split at h
   ·rename_i m l hm hl
    simp at h
    subst h
    simp only[List.map_cons]
    rw[Pv gM r l hl,gM i,hf]
    simp[hm]
   ·cases h
theorem ZI {fs:Array Field} (h:∀ f ∈ fs.toList,(Zk P f.type).isSome=true):∃ places:Array (Nat × Nat),(fs.mapM (fun f=>(do pure (f.offset,← sizeOf f.type):Sem (Nat × Nat)))).run P w=.ok places w∧∀ i:Nat,places[i]?=(fs[i]?).bind fun (f:Field)=>(Zk P f.type).map fun m=>(f.offset,m):=by
 have key:∀ (l:List Field),(∀ f ∈ l,(Zk P f.type).isSome=true)→∃ ps:List (Nat × Nat),(l.mapM (fun f=>(do pure (f.offset,← sizeOf f.type):Sem (Nat × Nat)))).run P w=.ok ps w∧∀ i:Nat,ps[i]?=(l[i]?).bind fun (f:Field)=>(Zk P f.type).map fun m=>(f.offset,m):=by
  intro l
  induction l with
  | nil=>intro _;exact ⟨[],by simp,by simp⟩
  | cons f l ih =>
   intro h
   obtain ⟨ps,h1,h2⟩:=ih fun f hf=>h f (List.mem_cons_of_mem _ hf)
   have hf:=h f av
   cases hs:Zk P f.type with
   | none=>rw[hs]at hf;cases hf
   | some m =>
    refine ⟨(f.offset,m)::ps,?_,fun i=>?_⟩
    ·simp only[List.mapM_cons,Sem.run_bind,Ju hs,Result.andThen_ok,Sem.run_pure,h1]
    ·cases i with
     | zero=>simp[hs]
     | succ i=>simpa using h2 i
 obtain ⟨ps,h1,h2⟩:=key fs.toList h
 refine ⟨ps.toArray,?_,fun i=>by simpa using h2 i⟩
 rw[← Array.toArray_toList (xs:=fs)]
 rw[Array.mapM_eq_mapM_toList]
 simp only[Sem.run_map,h1,Result.andThen_ok]
theorem Ub {cs:List AV} {v:Value} (h:VR g W w (.agg cs) v):∃ us:Array Value,v=.agg us∧us.size=cs.length∧(∀ j,j < cs.length→(us.getD j undef).oneCell'=true)∧∀ j,j < cs.length→VR g W w (cs.getD j .any) (us.getD j undef):=by
 cases h with
 | agg hs h1 h=>exact ⟨_,rfl,hs,h1,h⟩
theorem Bw {cs:List AV} {v:Value} (h:VR g W w (.aU cs) v):∃ us:Array Value,v=.tuple us∧us.size=cs.length∧∀ j,j < cs.length→VR g W w (cs.getD j .any) (us.getD j undef):=by
 cases h with
 | aU hs h=>exact ⟨_,rfl,hs,h⟩
theorem sm {n:Nat} {cs:List AV} {v:Value} (h:VR g W w (.isl n cs) v):∃ (a:Option Addr) (cap:Nat) (us:Nat→Value),v=.slice a n cap∧n≤cap∧cap≤maxLen ∧
  (∀ j,j < cs.length→∃ k o,a=some ⟨k,o,none⟩∧Uj w k (o + j)=some (us j)∧¬ W k∧(us j).oneCell'=true)∧∀ j,j < cs.length→VR g W w (cs.getD j .any) (us j):=by
 cases h with
 | isl hn hm hc h=>exact ⟨_,_,_,rfl,hn,hm,hc,h⟩
theorem px {es b off n c:Nat} {v:Value} (h:VR g W w (.sl es b off n c) v):(∃ k cap e cur fz,v=.slice (some ⟨k,off,none⟩) n cap∧g b=.re k∧n≤c∧c≤cap∧cap≤maxLen∧w.heap[k]?=some (.cells cur e fz)∧off + cap * es≤cur.size)∨(∃ a,v=.slice a 0 0∧g b=.ph∧n=0∧c=0):=by
 cases h with
 | sl hg hn hc hm hb hs=>exact .inl ⟨_,_,_,_,_,rfl,hg,hn,hc,hm,hb,hs⟩
 | ku hg hc=>exact .inr ⟨_,rfl,hg,rfl,hc⟩
theorem E7 {cs:List AV} {off:Nat} {v:Value} (h:VR g W w (.xp cs off) v):∃ (k o:Nat) (us:Nat→Value),v=.pointer (some ⟨k,o + off,none⟩)∧(∀ j,j < cs.length→Uj w k (o + j)=some (us j)∧¬ W k∧(us j).oneCell'=true)∧∀ j,j < cs.length→VR g W w (cs.getD j .any) (us j):=by
 cases h with
 | xp hc h=>exact ⟨_,_,_,rfl,hc,h⟩
theorem zq {b off:Nat} {v:Value} (h:VR g W w (.ptr b off) v):∃ k,v=.pointer (some ⟨k,off,none⟩)∧g b=.re k:=by
 cases h with
 | ptr hg=>exact ⟨_,rfl,hg⟩
theorem E8 {v:Value} (h:VR g W w .nils v):∃ a,v=.slice a 0 0:=by
 cases h with
 | nils a=>exact ⟨a,rfl⟩
theorem By {b:Nat} {v:Value} (h:VR g W w (.mp b) v):∃ k,v=.map (some k)∧g b=.re k:=by
 cases h with
 | mp hg=>exact ⟨_,rfl,hg⟩
theorem Bs.get {l:List AV} {x:Bk} (h:Bs g W w l x) {b:Nat} (hb:Jt l=some b):BR g W w (g b) x:=h b hb
theorem ZJ (cs:List AV) (h:∀ v ∈ cs,bZ .u8 v) {us:Nat→Value} (hv:∀ j,j < cs.length→VR g W w (cs.getD j .any) (us j)) (j:Nat) (hj:j < (toB cs).length):us j=.int .u8 (bB (cs.getD j .any)):=by
 have cU:j < cs.length:=by simpa [toB] using hj
 have hm:cs.getD j .any ∈ cs:=by rw[Bt cU];exact List.getElem_mem _
 exact (hv j cU).bZ (h _ hm)
theorem IA {src dst e:TypeId} (hs:P.underlying src=some (.slice e)) (he:P.underlying e=some (.int .u8)) (hd:P.underlying dst=some .string) {k o n cap:Nat} {cs:List AV} {us:Nat→Value} (hn:cs.length=n)
  (hc:∀ j,j < n→Uj w k (o + j)=some (us j)) (h8:∀ v ∈ cs,bZ .u8 v) (hv:∀ j,j < cs.length→VR g W w (cs.getD j .any) (us j)) :
  (convert src dst (.slice (some ⟨k,o,none⟩) n cap)).run P w=.ok (.string ⟨(toB cs).toArray⟩) w:=by
 subst hn
 rw[run_convert_bytes_string w src dst e _ _ _ hs he hd]
 have hl:=run_loadCells (P:=P) w ⟨k,o,none⟩ cs.length us (fun j hj=>by rw[add_lit];exact hc j hj)
 have tG:((List.range cs.length).map us).toArray=((cs.map bB).map (Value.int .u8)).toArray:=by
  congr 1
  apply List.ext_getElem av
  intro j h1 h2
  simp only[List.getElem_map,List.getElem_range]
  have hj:j < cs.length:=by simpa using h1
  have:=ZJ cs h8 hv j (by simpa [toB] using hj)
  rw[this,Bt hj]
 rw[tG]at hl
 rw[run_bytesToString w _ _ _ _ hl]
 congr 2
 have key:∀ (l:List AV) (s:ByteArray),(l.map bB).foldl (fun r n=>r.push (UInt8.ofNat n.toNat)) s=⟨s.data++(toB l).toArray⟩:=by
  intro l
  induction l with
  | nil=>intro s;cases s;simp[toB]
  | cons x l ih =>
   intro s
   simp only[List.map_cons,List.foldl_cons,ih,toB]
   congr 1
   simp[ByteArray.data_push]
 rw[key]
 simp[ByteArray.empty,ByteArray.emptyWithCapacity]
 rfl
theorem Pw {t:TypeId} {fs:Array Field} (hu:P.underlying t=some (.struct fs)) {f:Nat} {fd:Field} (kS:fs[f]?=some fd) {m:Nat} (hm:Zk P fd.type=some (m + 1)) (k o:Nat) :
  (Instr.fieldAt t (.pointer (some ⟨k,o,none⟩)) f).run P w=.ok (.pointer (some ⟨k,o + fd.offset,none⟩)) w:=by
 simp[Instr.fieldAt,run_underlying hu,kS,Instr.sureAddr,fieldPlace,Ju hm,add_lit]
theorem Px {t e:TypeId} {n es:Nat} (hu:P.underlying t=some (.array n e)) (cR:Zk P e=some es) (k o:Nat) (q:IntKind) (i:Int) (h0:0≤i) (h1:i < (n:Int)) :
  (Instr.indexAt t (.pointer (some ⟨k,o,none⟩)) (.int q i)).run P w=.ok (.pointer (some ⟨k,o + i.toNat * es,none⟩)) w:=by
 simp[Instr.indexAt,run_underlying hu,asIntOf,Instr.sureAddr,h0,h1,Ju cR,add_lit]
theorem Py {t e:TypeId} {es:Nat} (hu:P.underlying t=some (.slice e)) (cR:Zk P e=some es) (k o n cap:Nat) (q:IntKind) (i:Int) (h0:0≤i) (h1:i < (n:Int)) :
  (Instr.indexAt t (.slice (some ⟨k,o,none⟩) n cap) (.int q i)).run P w=.ok (.pointer (some ⟨k,o + i.toNat * es,none⟩)) w:=by
 simp[Instr.indexAt,run_underlying hu,asIntOf,h0,h1,Ju cR,add_lit]
theorem ZK {o:Oper} {q:Q1} {xs:List Operand} (aJ:tF P o=some (q,xs)) (ρ:Operand→Value) (hρ:∀ v,ρ (.const v)=v) {iv:List AV} (ha:bO g W w iv (xs.map ρ)) {m7:Bk} (hb:Bs g W w iv m7) (hp:qp q iv m7) :
  ∃ v,(execOp ρ o).run P w=.ok (.value v) w∧VR g W w (qv q iv m7) v:=by
 unfold tF at aJ
 split at aJ
 all_goals (rename_i bl)
 -- move,assign
 ·simp at aJ;obtain ⟨rfl,rfl⟩:=aJ
  obtain ⟨a,rfl,h1⟩:=bO.one (by simpa using ha)
  exact ⟨_,by simp[execOp,bl],h1⟩
 ·simp at aJ;obtain ⟨rfl,rfl⟩:=aJ
  obtain ⟨a,rfl,h1⟩:=bO.one (by simpa using ha)
  exact ⟨_,by simp[execOp,bl],h1⟩
 -- pick
 ·simp at aJ;obtain ⟨rfl,rfl⟩:=aJ
  obtain ⟨a,b,c,rfl,h1,h2,h3⟩:=bO.three (by simpa using ha)
  obtain ⟨p1,p2,p3⟩:=hp
  have e1:=h1.fh p1
  refine ⟨_,by simp[execOp,bl,e1,asBool];rfl,?_⟩
  simp only[qv]
  cases hc:eL a with
  | true=>simp only[cond_true,if_true];rw[h2.fh (p2 hc)];exact .bool _
  | false=>simp only[cond_false,Bool.false_eq_true,if_false];rw[h3.fh (p3 hc)];exact .bool _
 -- not
 ·simp at aJ;obtain ⟨rfl,rfl⟩:=aJ
  obtain ⟨a,rfl,h1⟩:=bO.one (by simpa using ha)
  exact ⟨.bool (!eL a),by simp[execOp,bl,h1.fh hp,Op.unary],.bool _⟩
 -- binOp
 ·obtain ⟨v,h1,h2⟩:=ZA (w:=w) aJ ρ ha hp (fun v e=>by rw[e];exact hρ v)
  refine ⟨v,?_,h2⟩
  simp only[execOp,bl]
  exact Zt h1
 -- convert
 ·split at aJ
  ·rename_i ks kd hs hd
   simp at aJ;obtain ⟨rfl,rfl⟩:=aJ
   obtain ⟨a,rfl,h1⟩:=bO.one (by simpa using ha)
   obtain ⟨k',e⟩:=h1.fK hp
   exact ⟨_,by simp only[execOp,bl];refine Zt (v:=.int kd (kd.wrap (bB a))) ?_;rw[e];simp[convert,run_underlying hs,run_underlying hd,Conv.intToInt],.int _ _⟩
  ·rename_i e hs hd
   split at aJ
   ·rename_i he
    simp at aJ;obtain ⟨rfl,rfl⟩:=aJ
    obtain ⟨a,rfl,h1⟩:=bO.one (by simpa using ha)
    simp only[execOp,bl]
    cases a<;>simp only[qp]at hp
    ·rename_i es b off n c
     cases m7<;>simp only[qp]at hp
     rename_i cs
     obtain ⟨rfl,p2,p3⟩:=hp
     rcases px h1 with ⟨k,cap,e',cur,fz,e1,e2,_⟩|⟨vh,e1,e2,rfl,rfl⟩
     ·by_cases dU:0 < cs.length
      ·obtain ⟨k',us,q1,q2,q3,q4⟩:=Is (hb.get (b:=b) rfl) dU
       rw[e2]at q1;cases q1
       refine ⟨_,Zt ?_,.str _⟩
       rw[e1]
       refine IA (g:=g) (W:=W) (us:=fun j=>us (off + j)) hs he hd (by simp;omega) (fun j hj=>?_) p3 (fun j hj=>?_)
       ·have:=q2 (off + j) af;simpa using this
       ·have cU:j < n:=by simp at hj;omega
        have ee:((cs.drop off).take n).getD j .any=cs.getD (off + j) .any:=by simp only[List.getD,List.getElem?_take,List.getElem?_drop,if_pos cU]
        rw[ee];exact q4 _ af
      ·have:cs=[]:=List.eq_nil_of_length_eq_zero af
       subst this
       have:n=0:=by simp at p2;omega
       subst this
       refine ⟨.string ⟨(toB []).toArray⟩,Zt ?_,by simpa [qv,toB] using VR.str (g:=g) (W:=W) (w:=w) []⟩
       rw[e1]
       exact IA (g:=g) (W:=W) (us:=fun _=>undef) hs he hd rfl (fun j hj=>absurd hj av) av (fun j hj=>absurd hj av)
     ·refine ⟨.string .empty,Zt ?_,?_⟩
      ·rw[e1,run_convert_bytes_string w _ _ e _ _ _ hs he hd];cases vh<;>rfl
      ·simp only[qv,List.take_zero,toB,List.map_nil];exact .str []
    ·rename_i n cs
     obtain ⟨p2,p3⟩:=hp
     obtain ⟨a,cap,us,e1,e2,e3,e4,e5⟩:=sm h1
     by_cases dU:0 < n
     ·obtain ⟨k,o,rfl,_⟩:=e4 0 af
      refine ⟨_,Zt ?_,.str _⟩
      rw[e1]
      refine IA (g:=g) (W:=W) (us:=us) hs he hd (by simp;omega) (fun j hj=>?_) p3 (fun j hj=>?_)
      ·obtain ⟨k',o',hh,h6,_⟩:=e4 j af
       cases hh;exact h6
      ·have cU:j < n:=by simp at hj;omega
       have ee:(cs.take n).getD j .any=cs.getD j .any:=by simp only[List.getD,List.getElem?_take,if_pos cU]
       rw[ee];exact e5 _ af
     ·have:n=0:=by omega
      subst this
      refine ⟨.string ⟨#[]⟩,Zt ?_,by simpa [qv,toB] using VR.str (g:=g) (W:=W) (w:=w) []⟩
      rw[e1,run_convert_bytes_string w _ _ e _ _ _ hs he hd]
      cases a<;>rfl
    ·generalize ρ _=rx at h1 ⊢
     cases h1 with
     | nils a =>
      refine ⟨.string ⟨#[]⟩,Zt ?_,.str []⟩
      rw[run_convert_bytes_string w _ _ e _ _ _ hs he hd]
      cases a<;>rfl
   ·cases aJ
  ·cases aJ
 -- field
 ·split at aJ
  ·rename_i fs hu
   split at aJ
   ·rename_i fd kS
    cases jn:kO P fd.type with
    | none=>rw[jn]at aJ;simp at aJ
    | some ty =>
     rw[jn]at aJ
     simp at aJ;obtain ⟨rfl,rfl⟩:=aJ
     obtain ⟨a,rfl,h1⟩:=bO.one (by simpa using ha)
     cases a<;>simp only[qp]at hp
     rename_i cs
     obtain ⟨us,e,hs,jI,hv⟩:=Ub h1
     obtain ⟨v,hr,om⟩:=Ph (P:=P) (w:=w) jn hs jI hv hp
     refine ⟨v,?_,om⟩
     simp only[execOp,bl]
     refine Zt ?_
     rw[e]
     simp[Instr.field,run_underlying hu,kS,asAgg,hr]
   ·cases aJ
  ·cases aJ
 -- index
 ·split at aJ
  ·rename_i n e hu
   split at aJ
   ·rename_i ty es jn cR
    simp at aJ;obtain ⟨rfl,rfl⟩:=aJ
    obtain ⟨a,b,rfl,h1,h2⟩:=bO.two (by simpa using ha)
    cases a<;>simp only[qp]at hp
    rename_i cs
    obtain ⟨p1,p2,p3,p4⟩:=hp
    obtain ⟨us,e1,hs,jI,hv⟩:=Ub h1
    obtain ⟨k,e2⟩:=h2.fK p1
    obtain ⟨v,hr,om⟩:=Ph (P:=P) (w:=w) jn hs jI hv p4
    refine ⟨v,?_,om⟩
    simp only[execOp,bl]
    refine Zt ?_
    rw[e1,e2]
    simp[Instr.index,run_underlying hu,asIntOf,p2,p3,Ju cR,hr]
   ·cases aJ
  ·rename_i hu
   simp at aJ;obtain ⟨rfl,rfl⟩:=aJ
   obtain ⟨a,b,rfl,h1,h2⟩:=bO.two (by simpa using ha)
   obtain ⟨p1,p2,p3,p4⟩:=hp
   obtain ⟨k,e2⟩:=h2.fK p2
   have e1:=h1.fB p1
   have hlt:(bB b).toNat < (cL a).length:=by omega
   refine ⟨.int .u8 ((cL a).getD (bB b).toNat 0).toNat,?_,.int _ _⟩
   simp only[execOp,bl]
   refine Zt ?_
   rw[e1,e2]
   have hg:(⟨(cL a).toArray⟩:ByteArray)[(bB b).toNat]?=some ((cL a)[(bB b).toNat]):=by
    rw[getElem?_pos _ _ (by rw[E3];exact hlt)]
    rfl
   simp[Instr.index,run_underlying hu,asIntOf,p3,hg,List.getD,hlt]
  ·cases aJ
 -- fieldAddr
 ·split at aJ
  ·rename_i fs hu
   split at aJ
   ·rename_i fd kS
    split at aJ
    ·rename_i m hm
     simp at aJ;obtain ⟨rfl,rfl⟩:=aJ
     obtain ⟨a,rfl,h1⟩:=bO.one (by simpa using ha)
     cases a<;>simp only[qp]at hp
     ·obtain ⟨k,e1,e2⟩:=zq h1
      exact ⟨_,by simp only[execOp,bl];exact Zt (by rw[e1];exact Pw hu kS hm _ _),.ptr e2⟩
     ·obtain ⟨k,o,us,e1,e2,e3⟩:=E7 h1
      exact ⟨_,by simp only[execOp,bl];exact Zt (by rw[e1];exact Pw hu kS hm _ _),by rw[Nat.add_assoc];exact .xp e2 e3⟩
    ·cases aJ
   ·cases aJ
  ·cases aJ
 -- indexAddr
 ·split at aJ
  ·rename_i n e hu
   cases cR:Zk P e with
   | none=>rw[cR]at aJ;simp at aJ
   | some es =>
    rw[cR]at aJ
    simp at aJ;obtain ⟨rfl,rfl⟩:=aJ
    obtain ⟨a,b,rfl,h1,h2⟩:=bO.two (by simpa using ha)
    cases a<;>simp only[qp]at hp
    ·obtain ⟨p1,p2,p3⟩:=hp
     obtain ⟨k,e1,e2⟩:=zq h1
     obtain ⟨q,e3⟩:=h2.fK p1
     exact ⟨_,by simp only[execOp,bl];exact Zt (by rw[e1,e3];exact Px hu cR _ _ _ _ p2 p3),.ptr e2⟩
    ·obtain ⟨p1,p2,p3⟩:=hp
     obtain ⟨k,o,us,e1,e2,e4⟩:=E7 h1
     obtain ⟨q,e3⟩:=h2.fK p1
     exact ⟨_,by simp only[execOp,bl];exact Zt (by rw[e1,e3];exact Px hu cR _ _ _ _ p2 p3),by rw[Nat.add_assoc];exact .xp e2 e4⟩
  ·rename_i e hu
   cases cR:Zk P e with
   | none=>rw[cR]at aJ;simp at aJ
   | some es =>
    rw[cR]at aJ
    simp at aJ;obtain ⟨rfl,rfl⟩:=aJ
    obtain ⟨a,b,rfl,h1,h2⟩:=bO.two (by simpa using ha)
    cases a<;>simp only[qp]at hp
    ·obtain ⟨p0,p1,p2,p3⟩:=hp
     obtain ⟨q,e3⟩:=h2.fK p1
     rcases px h1 with ⟨k,cap,e',cur,fz,e1,e2,_⟩|⟨vh,e1,e2,rfl,rfl⟩
     ·exact ⟨_,by simp only[execOp,bl];exact Zt (by rw[e1,e3];exact Py hu cR _ _ _ _ _ _ p2 p3),.ptr e2⟩
     ·omega
    ·obtain ⟨p1,p2,p3,p4⟩:=hp
     obtain ⟨q,e3⟩:=h2.fK p1
     obtain ⟨ad,cap,us,e1,_,_,e4,e5⟩:=sm h1
     obtain ⟨k,o,rfl,_⟩:=e4 _ p4
     refine ⟨_,by simp only[execOp,bl];exact Zt (by rw[e1,e3];exact Py hu cR _ _ _ _ _ _ p2 p3),.xp (fun j hj=>?_) e5⟩
     obtain ⟨k',o',hh,r⟩:=e4 j hj
     cases hh;exact r
  ·cases aJ
 -- load
 ·cases jn:kO P _ with
  | none=>rw[jn]at aJ;simp at aJ
  | some ty =>
   rw[jn]at aJ
   simp at aJ;obtain ⟨rfl,rfl⟩:=aJ
   obtain ⟨a,rfl,h1⟩:=bO.one (by simpa using ha)
   cases a<;>simp only[qp]at hp
   ·rename_i b off
    cases m7<;>simp only[qp]at hp
    rename_i cs
    obtain ⟨k,e1,e2⟩:=zq h1
    by_cases dU:0 < cs.length
    ·obtain ⟨k',us,q1,q2,q3,q4⟩:=Is (hb.get (b:=b) rfl) dU
     rw[e2]at q1;cases q1
     obtain ⟨v,hr,om⟩:=Bu (P:=P) (o:=0) jn q2 q3 q4 hp
     refine ⟨v,?_,om⟩
     simp only[execOp,bl]
     exact Zt (by rw[e1];simpa using hr)
    ·obtain ⟨rfl,rfl,rfl⟩:=Pj hp dU
     obtain ⟨v,hr,om⟩:=Bu (P:=P) (g:=g) (W:=W) (k:=k) (o:=0) (us:=fun _=>undef) jn (fun j hj=>absurd hj av) (fun j hj=>absurd hj av) (fun j hj=>absurd hj av) hp
     refine ⟨v,?_,om⟩
     simp only[execOp,bl]
     exact Zt (by rw[e1];simpa using hr)
   ·rename_i cs off
    obtain ⟨k,o,us,e1,e2,e3⟩:=E7 h1
    obtain ⟨v,hr,om⟩:=Bu (P:=P) jn (fun j hj=>(e2 j hj).1) (fun j hj=>(e2 j hj).2.2) e3 hp
    refine ⟨v,?_,by cases ty<;>exact om⟩
    simp only[execOp,bl]
    exact Zt (by rw[e1];exact hr)
 -- len
 ·split at aJ
  ·rename_i hu
   simp at aJ;obtain ⟨rfl,rfl⟩:=aJ
   obtain ⟨a,rfl,h1⟩:=bO.one (by simpa using ha)
   have e:=h1.fB hp
   exact ⟨.int .i64 (cL a).length,by simp[execOp,bl,resolve,invoke,builtin,Builtin.len_,run_underlying hu,e,goInt,E3],.int _ _⟩
  ·rename_i e hu
   simp at aJ;obtain ⟨rfl,rfl⟩:=aJ
   obtain ⟨a,rfl,h1⟩:=bO.one (by simpa using ha)
   rename_i x _ _
   have fin:∀ b n c,ρ x=.slice b n c→(execOp ρ o).run P w=.ok (.value (.int .i64 n)) w:=fun b n c h=>by
    simp[execOp,bl,resolve,invoke,builtin,Builtin.len_,run_underlying hu,h,goInt]
   cases a<;>simp only[qp]at hp
   ·rcases px h1 with ⟨k,cap,e',cur,fz,e1,_⟩|⟨vh,e1,_,rfl,rfl⟩
    ·exact ⟨_,fin _ _ _ e1,.int _ _⟩
    ·exact ⟨_,fin _ _ _ e1,.int _ _⟩
   ·obtain ⟨ad,cap,us,e1,_⟩:=sm h1
    exact ⟨_,fin _ _ _ e1,.int _ _⟩
   ·obtain ⟨b,e1⟩:=E8 h1
    exact ⟨_,fin _ _ _ e1,.int _ _⟩
  ·rename_i kt et hu
   simp at aJ;obtain ⟨rfl,rfl⟩:=aJ
   obtain ⟨a,rfl,h1⟩:=bO.one (by simpa using ha)
   cases a<;>simp only[qp]at hp
   rename_i b
   cases m7<;>simp only[qp]at hp
   rename_i kvs dn
   obtain ⟨k,e1,e2⟩:=By h1
   have dV:=hb.get (b:=b) rfl
   rw[e2]at dV
   cases dV with
   | aC zr hs =>
    refine ⟨.int .i64 kvs.length,?_,.int _ _⟩
    simp[execOp,bl,resolve,invoke,builtin,Builtin.len_,run_underlying hu,e1,goInt,getObj,Sem.run,zr,hs]
  ·cases aJ
 -- min,max
 ·split at aJ
  ·rename_i k hu
   simp at aJ;obtain ⟨rfl,rfl⟩:=aJ
   obtain ⟨a,b,rfl,h1,h2⟩:=bO.two (by simpa using ha)
   refine ⟨_,?_,.int _ _⟩
   simp only[execOp,bl,resolve,invoke,builtin,Sem.run_bind,Sem.run_pure,Result.andThen_ok,List.map_toArray,List.map_cons,List.map_nil,h1.bZ hp.1,h2.bZ hp.2,run_min_int2]
  ·cases aJ
 ·split at aJ
  ·rename_i k hu
   simp at aJ;obtain ⟨rfl,rfl⟩:=aJ
   obtain ⟨a,b,rfl,h1,h2⟩:=bO.two (by simpa using ha)
   refine ⟨_,?_,.int _ _⟩
   simp only[execOp,bl,resolve,invoke,builtin,Sem.run_bind,Sem.run_pure,Result.andThen_ok,List.map_toArray,List.map_cons,List.map_nil,h1.bZ hp.1,h2.bZ hp.2,run_max_int2]
  ·cases aJ
 -- slice
 ·rename_i t x lo hi
  split at aJ
  ·rename_i hu
   simp only[Option.some.injEq,Prod.mk.injEq]at aJ;obtain ⟨rfl,rfl⟩:=aJ
   obtain ⟨a,r,rfl,h1,hr⟩:=bO.dm (v:=ρ x) (r:=(lo.toList++hi.toList).map ρ) (by simpa using ha)
   simp only[qp]at hp
   obtain ⟨p1,p2,p3,p4,p5⟩:=hp
   refine ⟨_,?_,.str _⟩
   simp only[execOp,bl]
   refine Zt ?_
   rw[h1.fB p1]
   have ox:=E4 (P:=P) (isSlice:=false) (len:=(cL a).length) (cap:=(cL a).length) p2 hr p3 p4 p5
   simp only[Instr.sliceAt,Instr.slice,Sem.run_bind,run_underlying hu,Result.andThen_ok,Option.map_none,Option.isSome_none,Bool.false_eq_true,if_false,E3,ox,Sem.run_pure]
   congr 2
   apply ByteArray.ext
   simp[ByteArray.extract,ByteArray.copySlice]
  ·rename_i e hu
   cases cR:Zk P e with
   | none=>rw[cR]at aJ;simp at aJ
   | some es =>
    rw[cR]at aJ
    simp only[Option.map_some,Option.some.injEq,Prod.mk.injEq]at aJ;obtain ⟨rfl,rfl⟩:=aJ
    obtain ⟨a,r,rfl,h1,hr⟩:=bO.dm (v:=ρ x) (r:=(lo.toList++hi.toList).map ρ) (by simpa using ha)
    cases a<;>simp only[qp]at hp
    ·rename_i es' b off n c
     obtain ⟨rfl,p2,p3,p4,p5⟩:=hp
     have Bz:qv (.og es' lo.isSome hi.isSome) (.sl es' b off n c::r) m7=if Xx lo.isSome r < c then .sl es' b (off + (Xx lo.isSome r).toNat * es') ((Ja lo.isSome hi.isSome n r).toNat - (Xx lo.isSome r).toNat) (c - (Xx lo.isSome r).toNat) else .isl 0 []:=rfl
     rw[Bz]
     clear Bz
     rcases px h1 with ⟨k,cap,e',cur,fz,e1,e2,q1,q2,q3,q4,q5⟩|⟨vh,e1,e2,rfl,rfl⟩
     ·have ox:=E4 (P:=P) (isSlice:=true) (len:=n) (cap:=cap) p2 hr p3 p4 af
      by_cases p6:Xx lo.isSome r < c
      ·rw[if_pos p6]
       have fw:(Xx lo.isSome r).toNat < cap:=by omega
       refine ⟨.slice (some ⟨k,off + (Xx lo.isSome r).toNat * es',none⟩) ((Ja lo.isSome hi.isSome n r).toNat - (Xx lo.isSome r).toNat) (cap - (Xx lo.isSome r).toNat),?_,?_⟩
       ·simp only[execOp,bl]
        refine Zt ?_
        rw[e1]
        simp only[Instr.sliceAt,Instr.slice,Sem.run_bind,run_underlying hu,Result.andThen_ok,Option.map_none,ox,Ju cR,Sem.run_pure]
        rw[if_neg af]
        simp[add_lit]
       ·refine .sl e2 af af af q4 ?_
        have:(Xx lo.isSome r).toNat * es' + (cap - (Xx lo.isSome r).toNat) * es'=cap * es':=by rw[← Nat.add_mul];congr 1;omega
        omega
      ·rw[if_neg p6]
       have h0:(Ja lo.isSome hi.isSome n r).toNat - (Xx lo.isSome r).toNat=0:=by omega
       refine ⟨_,?_,.isl (a:=if cap=(Xx lo.isSome r).toNat then some ⟨k,off,none⟩ else (some (⟨k,off,none⟩:Addr)).map (·.add ((Xx lo.isSome r).toNat * es'))) (cap:=cap - (Xx lo.isSome r).toNat) (us:=fun _=>undef) (Nat.zero_le _) af (fun j hj=>by simp at hj) (fun j hj=>by simp at hj)⟩
       simp only[execOp,bl]
       refine Zt ?_
       rw[e1]
       simp only[Instr.sliceAt,Instr.slice,Sem.run_bind,run_underlying hu,Result.andThen_ok,Option.map_none,ox,Ju cR,Sem.run_pure,h0]
     ·have ox:=E4 (P:=P) (isSlice:=true) (len:=0) (cap:=0) p2 hr p3 p4 af
      rw[if_neg af]
      have h0:(Ja lo.isSome hi.isSome 0 r).toNat - (Xx lo.isSome r).toNat=0:=by omega
      refine ⟨_,?_,.isl (a:=if 0=(Xx lo.isSome r).toNat then vh else vh.map (·.add ((Xx lo.isSome r).toNat * es'))) (cap:=0 - (Xx lo.isSome r).toNat) (us:=fun _=>undef) (Nat.zero_le _) (by unfold maxLen;omega) (fun j hj=>by simp at hj) (fun j hj=>by simp at hj)⟩
      simp only[execOp,bl]
      refine Zt ?_
      rw[e1]
      simp only[Instr.sliceAt,Instr.slice,Sem.run_bind,run_underlying hu,Result.andThen_ok,Option.map_none,ox,Ju cR,Sem.run_pure,h0]
    ·rename_i n cs
     obtain ⟨p2,p3,p4,p5,p6⟩:=hp
     obtain ⟨ad,cap,us,e1,q1,q2,q3,q4⟩:=sm h1
     have ox:=E4 (P:=P) (isSlice:=true) (len:=n) (cap:=cap) p2 hr p3 p4 af
     have Bz:qv (.og es lo.isSome hi.isSome) (.isl n cs::r) m7=.isl ((Ja lo.isSome hi.isSome n r).toNat - (Xx lo.isSome r).toNat) ((cs.drop ((Xx lo.isSome r).toNat * es)).take (((Ja lo.isSome hi.isSome n r).toNat - (Xx lo.isSome r).toNat) * es)):=rfl
     rw[Bz]
     clear Bz
     generalize (Xx lo.isSome r)=L at *
     generalize (Ja lo.isSome hi.isSome n r)=H at *
     have hex:∃ E9,(execOp ρ o).run P w=.ok (.value (.slice E9 (H.toNat - L.toNat) (cap - L.toNat))) w∧(cap=L.toNat→E9=ad)∧(cap≠L.toNat→E9=ad.map (·.add (L.toNat * es))):=by
      refine ⟨if cap=L.toNat then ad else ad.map (·.add (L.toNat * es)),?_,fun h=>by rw[if_pos h],fun h=>by rw[if_neg h]⟩
      simp only[execOp,bl]
      refine Zt ?_
      rw[e1]
      simp only[Instr.sliceAt,Instr.slice,Sem.run_bind,run_underlying hu,Result.andThen_ok,Option.map_none,ox,Ju cR,Sem.run_pure]
     obtain ⟨E9,dM,c1,c2⟩:=hex
     refine ⟨_,dM,.isl (us:=fun j=>us (L.toNat * es + j)) af af (fun j hj=>?_) fun j hj=>?_⟩
     ·have py:j < (H.toNat - L.toNat) * es:=by simp at hj;omega
      have fD:L.toNat * es + j < cs.length:=by simp at hj;omega
      obtain ⟨k,o',rfl,r1,r2,r3⟩:=q3 _ fD
      have bN:cap≠L.toNat:=fun e=>by
       have:H.toNat - L.toNat=0:=by omega
       rw[this]at py;simp at py
      rw[c2 bN]
      exact ⟨k,o' + L.toNat * es,by simp[add_lit],by rw[Nat.add_assoc];exact r1,r2,r3⟩
     ·have py:j < (H.toNat - L.toNat) * es:=by simp at hj;omega
      have fD:L.toNat * es + j < cs.length:=by simp at hj;omega
      have ee:((cs.drop (L.toNat * es)).take ((H.toNat - L.toNat) * es)).getD j .any=cs.getD (L.toNat * es + j) .any:=by simp only[List.getD,List.getElem?_take,List.getElem?_drop,if_pos py]
      rw[ee];exact q4 _ fD
  ·cases aJ
 -- extract
 ·rename_i x i
  simp at aJ;obtain ⟨rfl,rfl⟩:=aJ
  obtain ⟨a,rfl,h1⟩:=bO.one (by simpa using ha)
  cases a<;>simp only[qp]at hp
  rename_i vs
  obtain ⟨us,e1,e2,e3⟩:=Bw h1
  refine ⟨us.getD i undef,?_,e3 i hp⟩
  simp only[execOp,bl]
  refine Zt ?_
  rw[e1]
  have hi:i < us.size:=by omega
  simp[Instr.extract,hi,Array.getD]
 -- nilCheck
 ·simp at aJ;obtain ⟨rfl,rfl⟩:=aJ
  obtain ⟨a,rfl,h1⟩:=bO.one (by simpa using ha)
  cases a<;>simp only[qp]at hp
  ·obtain ⟨k,e1,e2⟩:=zq h1
   exact ⟨_,by simp[execOp,bl,e1],.ptr e2⟩
  ·obtain ⟨k,o',us,e1,e2,e3⟩:=E7 h1
   exact ⟨.pointer (some ⟨k,o' + _,none⟩),by simp[execOp,bl,e1],.xp e2 e3⟩
 -- build
 ·rename_i t parts
  have BA:∀ z:Array Value,z.all (·.oneCell')=true→z.size=(z.toList.map fj).length∧(∀ j,j < (z.toList.map fj).length→(z.getD j undef).oneCell'=true)∧(∀ j,j < (z.toList.map fj).length→VR g W w ((z.toList.map fj).getD j .any) (z.getD j undef)):=by
   intro z hz
   have hv:=EW (g:=g) (W:=W) (w:=w) (.agg z)
   have oh:tD (.agg z)=.agg (z.toList.map fj):=if_pos hz
   rw[oh]at hv
   obtain ⟨us,e,q1,q2,q3⟩:=Ub hv
   cases e
   exact ⟨q1,q2,q3⟩
  have BB:∀ z:Array Value,(P.info? t).bind (·.zero)=some (.agg z)→(zeroValue t).run P w=.ok (.agg z) w:=by
   intro z hz
   cases hi:P.info? t with
   | none=>rw[hi]at hz;simp at hz
   | some i=>rw[hi]at hz;simp at hz;simp[zeroValue,typeInfo,hi,hz]
  have Fa:(parts.map fun (p:Nat × Operand)=>(p.1,ρ p.2)).toList=(parts.toList.map (·.1)).zip ((parts.toList.map (·.2)).map ρ):=by
   simp only[Array.toList_map]
   induction parts.toList with
   | nil=>rfl
   | cons p l ih=>simp[ih]
  split at aJ
  ·rename_i z fs hz hu
   split at aJ
   ·rename_i hc
    simp only[Bool.and_eq_true]at hc
    cases ec:zj P fs (parts.toList.map (·.1)) with
    | none=>rw[ec]at aJ;simp at aJ
    | some ps =>
     rw[ec]at aJ
     simp only[Option.map_some,Option.some.injEq,Prod.mk.injEq]at aJ;obtain ⟨rfl,rfl⟩:=aJ
     obtain ⟨z1,z2,z3⟩:=BA z hc.1
     obtain ⟨places,pr,pl⟩:=ZI (P:=P) (w:=w) (fs:=fs) (fun f hf=>by
      have:=Array.all_eq_true'.1 hc.2 f (by simpa using hf)
      simpa using this)
     obtain ⟨cells',f1,f2⟩:=Iw ps (parts.toList.map (·.1)) (Pv pl _ _ ec) ha av hp z1 z2 z3
     refine ⟨_,?_,f2⟩
     simp only[execOp,bl]
     refine Zt ?_
     simp only[Instr.build,Sem.run_bind,BB z hz,Result.andThen_ok,Value.cells,run_underlying hu,pr,Fa,f1,Sem.run_pure]
   ·cases aJ
  ·rename_i z n e hz hu
   split at aJ
   ·rename_i hc
    cases cR:Zk P e with
    | none=>rw[cR]at aJ;simp at aJ
    | some m =>
     rw[cR]at aJ
     simp only[Option.map_some,Option.some.injEq,Prod.mk.injEq]at aJ;obtain ⟨rfl,rfl⟩:=aJ
     obtain ⟨z1,z2,z3⟩:=BA z hc
     obtain ⟨cells',f1,f2⟩:=Iw (place:=fun i=>some (i * m,m)) (parts.toList.map fun (p:Nat × Operand)=>(p.1 * m,m)) (parts.toList.map (fun (p:Nat × Operand)=>p.1)) av ha av (cs:=z.toList.map fj) hp z1 z2 z3
     refine ⟨_,?_,f2⟩
     simp only[execOp,bl]
     refine Zt ?_
     simp only[Instr.build,Sem.run_bind,BB z hz,Result.andThen_ok,Value.cells,run_underlying hu,Ju cR,Fa,f1,Sem.run_pure]
   ·cases aJ
  ·cases aJ
 -- makeFunc
 ·rename_i f caps
  simp only[Option.some.injEq,Prod.mk.injEq]at aJ;obtain ⟨rfl,rfl⟩:=aJ
  have hl:=ha.length
  refine ⟨.func (.func f) #[] (caps.map ρ),?_,.cl (by simp at hl ⊢;omega) fun j hj=>?_⟩
  ·simp[execOp,bl,Instr.makeFunc]
  ·have:=ha.get j hj
   simpa using this
 ·cases aJ
end
inductive PK where
 | call (f:FuncId)
 | cX
 | app (es iF:Nat) (str:Bool)
 | wN (es len:Nat) (zero:List AV) (parts:List (Nat × Nat))
 | BC
 | cA (ne:Bool) (t:TypeId)
 | Fb (t:TypeId)
 | BD (t:TypeId)
 | zt (t:TypeId) (ok:Bool)
 | del (t:TypeId)
 | Fc (t:TypeId)
 | ZL (t:TypeId)
 | IB (t:TypeId)
 | b7
 | IC
 | Fe (es:Nat) (lo hi:Bool)
 | ZM (t:TypeId)
 | ZN (t:TypeId)
inductive bG where
 | q (d:Nat) (q:Q1) (xs:List TV) (gd:Option (Nat × Bool))
 | al (d:Nat) (z:List AV)
 | bx (d:Nat) (x:TV)
 | so (ty:TY) (a v:TV)
 | pd (d:Option Nat) (k:PK) (xs:List TV) (gd:Option (Nat × Bool))
def mf (ops:Array Oper) (o:Oper):Option (Option (Nat × Bool)) :=
 match o.guard with
 | none=>some none
 | some (j,b)=>match (ops[j]?).bind (·.dst) with
  | some t=>some (some (t,b))
  | none=>none
def Yf (P:Program) (o:Oper):Option (PK × List Operand) :=
 match o.op with
 | .call ⟨.value (.func f),args,_⟩=>some (.call f,args.toList)
 | .call ⟨.value x,args,_⟩=>some (.cX,x::args.toList)
 | .call ⟨.builtin .append,⟨[x,y]⟩,⟨[t,u]⟩⟩=>match P.underlying t with
  | some (.slice e)=>match P.info? e with
   | some i=>match i.zero with
    | some z=>if z.cells.size=i.size∧0 < i.size then (if u=t then some (.app i.size i.bytes false,[x,y]) else match P.underlying u with
     | some .string=>some (.app i.size i.bytes true,[x,y])
     | _=>none) else none
    | none=>none
   | none=>none
  | _=>none
 | .call ⟨.builtin .delete,⟨[x,y]⟩,⟨[t,_]⟩⟩=>some (.del t,[x,y])
 | .call ⟨.builtin .clear,⟨[x]⟩,⟨[t]⟩⟩=>some (.Fc t,[x])
 | .call ⟨.builtin .copy,⟨[x,y]⟩,⟨[t,_]⟩⟩=>some (.ZL t,[x,y])
 | .buildSlice t len parts=>match P.underlying t with
  | some (.slice e)=>match P.info? e with
   | some i=>match i.zero with
    | some z=>if z.cells.size=i.size∧0 < i.size∧z.cells.all (·.oneCell')∧len * i.size≤2 ^ 24∧len≤2 ^ 24 then some (.wN i.size len (z.cells.toList.map fj) (parts.toList.map fun p=>(p.1 * i.size,i.size)),parts.toList.map (·.2)) else none
    | none=>none
   | none=>none
  | _=>none
 | .convert s d x=>match P.underlying s,P.underlying d with
  | some .string,some (.slice e)=>match P.underlying e with
   | some (.int .u8)=>some (.BC,[x])
   | _=>none
  | _,_=>none
 | .binOp .eql t x y _=>some (.cA false t,[x,y])
 | .binOp .neq t x y _=>some (.cA true t,[x,y])
 | .lookup t m k ok=>some (.zt t ok,[m,k])
 | .mapUpdate t m k v=>some (.BD t,[m,k,v])
 | .makeMap t r=>if (match r with|none=>true|some (.const (.int _ _))=>true|_=>false)=true then some (.Fb t,[]) else none
 | .range t x=>some (.IB t,[x])
 | .next x false=>some (.b7,[x])
 | .entry x=>some (.IC,[x])
 | .slice t x lo hi (some mx)=>match P.underlying t with
  | some (.slice e)=>(Zk P e).map fun es=>(.Fe es lo.isSome hi.isSome,x::(lo.toList++hi.toList++[mx]))
  | _=>none
 | .mapEntry t m k=>some (.ZM t,[m,k])
 | .entryStore t m s v=>some (.ZN t,[m,s,v])
 | _=>none
def Ui (P:Program) (N:Nat) (ops:Array Oper) (o:Oper):Option bG :=
 match mf ops o with
 | none=>none
 | some gd =>
  match o.op,o.dst with
  | .alloc t,some d=>match gd,(P.info? t).bind (·.zero) with
   | none,some z=>if d < N∧z.cells.all (·.oneCell') then some (.al d (z.cells.toList.map fj)) else none
   | _,_=>none
  | .box _ x,some d=>if d < N∧gd=none then some (.bx d (aT x)) else none
  | .store t a v,none=>match gd,kO P t with
   | none,some ty=>some (.so ty (aT a) (aT v))
   | _,_=>none
  | _,dst=>match tF P o,dst with
   | some (q,xs),some d=>if d < N then some (.q d q (xs.map aT) gd) else none
   | _,_=>match Yf P o with
    | some (k,xs)=>if dst.all (· < N) then some (.pd dst k (xs.map aT) gd) else none
    | none=>none
structure bn where
 rt:List Nat
 rb:List Nat
 wt:List Nat
 wb:List Nat
def dj (s2 s':FS) (F:bn):FS:=⟨fun i=>if i ∈ F.wt then s'.T i else s2.T i,fun b=>if b ∈ F.wb then s'.H b else s2.H b⟩
def mg (P:Program) (ops:Array Oper) (io:Oper) (a:Act) (w:World) (K:Act→World→Prop) (Q:Exit→Act→World→Prop):Prop :=
 if Region.wanted io (yielded ops a.tmps) then io.wp P a w K Q else K (a.put io.dst undef) w
structure oy (P:Program) (c:Cx) (ops:Array Oper) (io:Oper) (s:FS) (F:bn) (s':FS):Prop where
 bj:∀ i,i ∉ F.wt→s'.T i=s.T i
 dc:∀ b,b ∉ F.wb→s'.H b=s.H b
 step:∀ s2:FS,(∀ i ∈ F.rt,s2.T i=s.T i)→(∀ b ∈ F.rb,s2.H b=s.H b)→∀ g a w,R c g s2 a w→∀ K Q',(∀ g' a' w',R c g' (dj s2 s' F) a' w'→K a' w')→mg P ops io a w K Q'
theorem BE {s s':FS} {F:bn} (hT:∀ i,i ∉ F.wt→s'.T i=s.T i) (hH:∀ b,b ∉ F.wb→s'.H b=s.H b):dj s s' F=s':=by
 unfold dj
 cases s'
 congr 1
 ·funext i;split
  ·rfl
  ·rename_i h;exact (hT i h).symm
 ·funext b;split
  ·rfl
  ·rename_i h;exact (hH b h).symm
def Qk:AV→AV
 | .dw _ v=>v
 | v=>v
def ob:Option Bool→Prop→Prop
 | none,p=>p
 | some c,p=>c=true→p
def eP (c:Option Bool):AV→Prop
 | .dw b _=>ob c (b=true)
 | _=>True
def Qv (c:Option Bool):List AV→Prop
 | []=>True
 | x::xs=>eP c x∧Qv c xs
def Jk (c:Option Bool):Q1→List AV→Prop
 | .pick,[x,y,z]=>eP c x∧ob c (eL (Qk x)=true→eP none y)∧ob c (eL (Qk x)=false→eP none z)
 | _,xs=>Qv c xs
def cw:Option Bool→AV→AV
 | none,v=>v
 | some c,v=>.dw c v
def gB (s:FS):Option (Nat × Bool)→Option Bool
 | none=>none
 | some (t,want)=>match s.T t with
  | .bool b=>some (b == want)
  | .dw c (.bool b)=>some (c && (b == want))
  | _=>some false
def fE (s:FS):Option (Nat × Bool)→Prop
 | none=>True
 | some (t,_)=>match s.T t with
  | .bool _=>True
  | .dw _ (.bool _)=>True
  | _=>False
def aG (gl:Nat→AV) (s:FS) (xs:List TV):List AV:=xs.map (aZ gl s)
def wO (gl:Nat→AV) (s:FS) (q:Q1) (xs:List TV) (gd:Option (Nat × Bool)):Prop :=
 fE s gd∧Jk (gB s gd) q (aG gl s xs)∧ob (gB s gd) (qp q ((aG gl s xs).map Qk) (qj s ((aG gl s xs).map Qk)))
def sq (gl:Nat→AV) (s:FS) (q:Q1) (xs:List TV) (gd:Option (Nat × Bool)):AV :=
 cw (gB s gd) (qv q ((aG gl s xs).map Qk) (qj s ((aG gl s xs).map Qk)))
def Xr:List TV→List Nat
 | []=>[]
 | .t i::r=>i::Xr r
 | _::r=>Xr r
def jo:Option (Nat × Bool)→List Nat
 | none=>[]
 | some (t,_)=>[t]
def sr (gl:Nat→AV) (s:FS) (d:Nat) (xs:List TV) (gd:Option (Nat × Bool)):bn :=
 ⟨jo gd++Xr xs,(Jt ((aG gl s xs).map Qk)).toList,[d],[]⟩
section
variable {P:Program} {c:Cx} {ops:Array Oper} {io:Oper}
theorem Yi {gl:Nat→AV} {s s2:FS}:∀ {xs:List TV},(∀ i ∈ Xr xs,s2.T i=s.T i)→aG gl s2 xs=aG gl s xs
 | [],_=>rfl
 | .t i::r,h=>by
  have h1:=h i (by simp[Xr])
  have h2:=Yi (gl:=gl) (xs:=r) fun j hj=>h j (by simp[Xr,hj])
  simp only[aG,List.map_cons,aZ,h1]at *
  rw[h2]
 | .c v::r,h=>by
  have h2:=Yi (gl:=gl) (xs:=r) fun j hj=>h j hj
  simp only[aG,List.map_cons,aZ]at *
  rw[h2]
 | .gl i::r,h=>by
  have h2:=Yi (gl:=gl) (xs:=r) fun j hj=>h j hj
  simp only[aG,List.map_cons,aZ]at *
  rw[h2]
theorem Ff (h:io.guard=none) (f:Nat→Option Bool):Region.wanted io f=true:=by simp[Region.wanted,h]
theorem vi {gd:Option (Nat × Bool)} (bf:mf ops io=some gd) {g:Nat→GM} {s:FS} {a:Act} {w:World} (hR:R c g s a w) (aY:fE s gd) :
  Region.wanted io (yielded ops a.tmps)=(gB s gd).getD true:=by
 unfold mf at bf
 cases hg:io.guard with
 | none =>
  rw[hg]at bf;simp at bf;subst bf
  rw[Ff hg];rfl
 | some p =>
  obtain ⟨j,b⟩:=p
  rw[hg]at bf
  simp only at bf
  cases ht:(ops[j]?).bind (·.dst) with
  | none=>rw[ht]at bf;simp at bf
  | some t =>
   rw[ht]at bf
   simp at bf;subst bf
   have hv:=hR.t t
   have hy:Region.wanted io (yielded ops a.tmps)=(match a.tmps.getD t undef with|.bool x=>x == b|_=>false):=by
    simp only[Region.wanted,hg,yielded,ht,Option.bind_some]
    rw[Array.getD_eq_getD_getElem?]
    cases ss:a.tmps[t]? with
    | none=>rfl
    | some v=>cases v<;>simp
   rw[hy]
   simp only[fE]at aY
   simp only[gB]
   split at aY
   ·rename_i x e
    rw[e]at hv
    rw[hv.fh trivial];rfl
   ·rename_i x y e
    rw[e]at hv
    generalize a.tmps.getD t undef=rv at hv ⊢
    cases hv with
    | dw h h0 =>
     cases x with
     | true=>rw[(h rfl).fh trivial];simp[eL]
     | false=>rw[h0 rfl];rfl
   ·exact aY.elim
theorem BF {g:Nat→GM} {W:Nat→Prop} {w:World} {x:AV} {v:Value} (h:VR g W w x v) (hc:eP none x):VR g W w (Qk x) v:=by
 cases h with
 | dw h h0=>exact h hc
 | any=>exact .any _
 | int=>exact .int _ _
 | bool=>exact .bool _
 | str=>exact .str _
 | agg a b c=>exact .agg a b c
 | aU a b=>exact .aU a b
 | ptr a=>exact .ptr a
 | xp a b=>exact .xp a b
 | sl a b c d e f=>exact .sl a b c d e f
 | ku a b=>exact .ku a b
 | isl a b c d=>exact .isl a b c d
 | nils=>exact .nils _
 | cl a b=>exact .cl a b
 | mp a=>exact .mp a
 | lit=>exact .lit _
theorem Pz {b:Bool} (hb:b=true) {x:AV} (h:eP (some b) x):eP none x:=by
 cases x<;>simp_all [eP,ob]
theorem Yn {g:Nat→GM} {W:Nat→Prop} {w:World}:∀ {xs:List AV} {vs:List Value},bO g W w xs vs→Qv none xs→bO g W w (xs.map Qk) vs
 | [],[],_,_=>trivial
 | _::_,_::_,h,hc=>⟨BF h.1 hc.1,Yn h.2 hc.2⟩
 | [],_::_,h,_=>h.elim
 | _::_,[],h,_=>h.elim
theorem zu {b:Bool} (hb:b=true):∀ {xs:List AV},Qv (some b) xs→Qv none xs
 | [],_=>trivial
 | _::_,h=>⟨Pz hb h.1,zu hb h.2⟩
theorem R.aG {g:Nat→GM} {s:FS} {a:Act} {w:World} (hR:R c g s a w):∀ (xs:List Operand),bO g (Qo c g s) w (Proofs.YtogckmommodmhaaGreatDoor.aG c.gl s (xs.map aT)) (xs.map a.eval)
 | []=>trivial
 | x::xs=>⟨hR.ev x,R.aG hR xs⟩
theorem ID {g:Nat→GM} {s:FS} {a:Act} {w:World} (hR:R c g s a w) (l:List AV):Bs g (Qo c g s) w l (qj s l):=by
 intro b hb
 have:=hR.h b
 unfold qj
 rw[hb];exact this
theorem ZO {g:Nat→GM} {s:FS} {a:Act} {w:World} (hR:R c g s a w) {q:Q1} {xs:List Operand} (mh:q=.pick→∃ x y z,xs=[x,y,z])
  (hc:Jk none q (Proofs.YtogckmommodmhaaGreatDoor.aG c.gl s (xs.map aT))) :
  ∃ iv,bO g (Qo c g s) w iv (xs.map a.eval)∧Bs g (Qo c g s) w iv (qj s ((Proofs.YtogckmommodmhaaGreatDoor.aG c.gl s (xs.map aT)).map Qk)) ∧
   (∀ bk,qp q ((Proofs.YtogckmommodmhaaGreatDoor.aG c.gl s (xs.map aT)).map Qk) bk→qp q iv bk∧qv q iv bk=qv q ((Proofs.YtogckmommodmhaaGreatDoor.aG c.gl s (xs.map aT)).map Qk) bk):=by
 have ed:=hR.aG xs
 by_cases hq:q=.pick
 ·obtain ⟨x,y,z,rfl⟩:=mh hq
  subst hq
  obtain ⟨h1,h2,h3,_⟩:=ed
  simp only[Proofs.YtogckmommodmhaaGreatDoor.aG,List.map_cons,List.map_nil,Jk,ob]at hc ⊢
  obtain ⟨c1,c2,c3⟩:=hc
  have hx:=BF h1 c1
  cases hb:eL (Qk (aZ c.gl s (aT x))) with
  | true =>
   refine ⟨[Qk (aZ c.gl s (aT x)),Qk (aZ c.gl s (aT y)),.any],⟨hx,BF h2 (c2 hb),.any _,trivial⟩,?_,fun bk hp=>?_⟩
   ·intro b dR
    have:=ID hR [Qk (aZ c.gl s (aT x)),Qk (aZ c.gl s (aT y)),Qk (aZ c.gl s (aT z))] b
    refine this ?_
    revert dR
    cases Qk (aZ c.gl s (aT x))<;>exact id
   ·obtain ⟨p1,p2,p3⟩:=hp
    exact ⟨⟨p1,p2,fun h=>by rw[hb]at h;cases h⟩,by simp[qv,hb]⟩
  | false =>
   refine ⟨[Qk (aZ c.gl s (aT x)),.any,Qk (aZ c.gl s (aT z))],⟨hx,.any _,BF h3 (c3 hb),trivial⟩,?_,fun bk hp=>?_⟩
   ·intro b dR
    have:=ID hR [Qk (aZ c.gl s (aT x)),Qk (aZ c.gl s (aT y)),Qk (aZ c.gl s (aT z))] b
    refine this ?_
    revert dR
    cases Qk (aZ c.gl s (aT x))<;>exact id
   ·obtain ⟨p1,p2,p3⟩:=hp
    exact ⟨⟨p1,fun h=>(by rw[hb]at h;cases h),p3⟩,by simp[qv,hb]⟩
 ·have zl:Qv none (Proofs.YtogckmommodmhaaGreatDoor.aG c.gl s (xs.map aT)):=by
   cases q<;>first|exact absurd rfl hq|exact hc
  exact ⟨_,Yn ed zl,ID hR _,fun bk hp=>⟨hp,rfl⟩⟩
theorem PA {o:Oper} {q:Q1} {xs:List Operand} (h:tF P o=some (q,xs)) (hq:q=.pick):∃ x y z,xs=[x,y,z]:=by
 subst hq
 unfold tF EU Ip Iq Ir kP at h
 repeat' split at h
 all_goals first
  | (simp at h;obtain ⟨rfl⟩:=h;exact ⟨_,_,_,rfl⟩)
  | (simp at h;done)
  | (rename_i hh;cases hh;done)
  | (simp[Option.map_eq_some_iff]at h;done)
theorem wP {s s2:FS} {d:Nat} {v:AV} {rt rb:List Nat}:dj s2 (s.put d v) ⟨rt,rb,[d],[]⟩=s2.put d v:=by
 unfold dj FS.put
 congr 1
 ·funext i
  simp only[List.mem_singleton]
  by_cases h:d=i
  ·subst h;simp
  ·rw[if_neg (fun e=>h e.symm),if_neg h]
theorem ZP {s:FS} {d:Nat} {q:Q1} {xs:List Operand} {gd:Option (Nat × Bool)} (bf:mf ops io=some gd) (bh:io.dst=some d) (hd:d < c.N) (aJ:tF P io=some (q,xs))
  (hp:wO c.gl s q (xs.map aT) gd):oy P c ops io s (sr c.gl s d (xs.map aT) gd) (s.put d (sq c.gl s q (xs.map aT) gd)):=by
 refine ⟨fun i hi=>?_,fun b _=>rfl,?_⟩
 ·rw[FS.dg,if_neg]
  rintro rfl;exact hi (by simp[sr])
 ·intro s2 hT hH g a w hR K Q' hK
  have bp:aG c.gl s2 (xs.map aT)=aG c.gl s (xs.map aT):=Yi fun i hi=>hT i (by simp[sr,hi])
  have hg:∀ t b,gd=some (t,b)→s2.T t=s.T t:=fun t b e=>hT t (by simp[sr,e,jo])
  have oz:gB s2 gd=gB s gd:=by
   cases gd with
   | none=>rfl
   | some p=>obtain ⟨t,b⟩:=p;simp only[gB,hg t b rfl]
  have oA:fE s2 gd ↔ fE s gd:=by
   cases gd with
   | none=>exact Iff.rfl
   | some p=>obtain ⟨t,b⟩:=p;simp only[fE,hg t b rfl]
  have IE:qj s2 ((aG c.gl s (xs.map aT)).map Qk)=qj s ((aG c.gl s (xs.map aT)).map Qk):=by
   unfold qj
   cases hn:Jt ((aG c.gl s (xs.map aT)).map Qk) with
   | none=>rfl
   | some b=>exact hH b (by simp[sr,hn])
  obtain ⟨p1,p2,p3⟩:=hp
  have lP:∀ v,VR g (Qo c g s2) w (sq c.gl s q (xs.map aT) gd) v→K (a.put io.dst v) w:=fun v hv=>by
   rw[bh]
   refine hK g _ w ?_
   rw[show sr c.gl s d (xs.map aT) gd=⟨jo gd++Xr (xs.map aT),(Jt ((aG c.gl s (xs.map aT)).map Qk)).toList,[d],[]⟩ from rfl,wP]
   exact hR.put hd hv
  unfold mg
  rw[vi bf hR (oA.2 p1),oz]
  -- where it is wanted
  have run:(∀ b,gB s gd=some b→b=true)→io.wp P a w K Q':=by
   intro hb
   have tH:Jk none q (aG c.gl s2 (xs.map aT)):=by
    rw[bp]
    cases ca:gB s gd with
    | none=>rw[ca]at p2;exact p2
    | some b =>
     have Fg:=hb b ca
     rw[ca]at p2
     by_cases hq:q=.pick
     ·obtain ⟨x,y,z,rfl⟩:=PA aJ hq
      subst hq
      simp only[aG,List.map_cons,List.map_nil,Jk]at p2 ⊢
      exact ⟨Pz Fg p2.1,p2.2.1 Fg,p2.2.2 Fg⟩
     ·have h1:Qv (some b) (aG c.gl s (xs.map aT)):=by cases q<;>first|exact absurd rfl hq|exact p2
      have h2:=zu Fg h1
      cases q<;>first|exact absurd rfl hq|exact h2
   have ZQ:qp q ((aG c.gl s (xs.map aT)).map Qk) (qj s ((aG c.gl s (xs.map aT)).map Qk)):=by
    cases ca:gB s gd with
    | none=>rw[ca]at p3;exact p3
    | some b=>rw[ca]at p3;exact p3 (hb b ca)
   obtain ⟨iv,a1,a2,a3⟩:=ZO hR (fun h=>PA aJ h) tH
   rw[bp,IE]at a2
   rw[bp]at a3
   obtain ⟨a4,a5⟩:=a3 _ ZQ
   obtain ⟨v,hr,hv⟩:=ZK (P:=P) aJ a.eval (fun _=>rfl) a1 a2 a4
   unfold Oper.wp
   rw[hr]
   refine lP v ?_
   rw[a5]at hv
   unfold sq
   cases ca:gB s gd with
   | none=>exact hv
   | some b=>exact .dw (fun _=>hv) fun h=>by rw[hb b ca]at h;cases h
  cases ca:gB s gd with
  | none=>simp only[Option.getD_none,if_true];exact run fun b h=>by rw[ca]at h;cases h
  | some b =>
   cases b with
   | true=>simp only[Option.getD_some,if_true];exact run fun b h=>by rw[ca]at h;cases h;rfl
   | false =>
    simp only[Option.getD_some,Bool.false_eq_true,if_false]
    refine lP undef ?_
    unfold sq
    rw[ca]
    exact .dw (fun h=>by cases h) fun _=>rfl
end
def kv:AV→Prop
 | .agg _=>True
 | v=>one v
def zw:TY→List AV→Nat→AV→Prop
 | .sc _,cs,off,v=>off < cs.length∧one v
 | .ag n,cs,off,.agg vs=>vs.length=n∧off + n≤cs.length
 | .ag _,_,_,_=>False
def tI (s:FS) (ty:TY) (a v:AV):Prop :=
 match a with
 | .ptr b off=>match s.H b with
  | .cells cs=>zw ty cs off v
  | _=>False
 | _=>False
def je:AV→Nat
 | .ptr b _=>b
 | _=>0
def vj:AV→Nat
 | .ptr _ o=>o
 | _=>0
def Zb:Bk→List AV
 | .cells cs=>cs
 | _=>[]
section
variable {P:Program} {c:Cx} {ops:Array Oper} {io:Oper}
theorem PB {s s2:FS} {d b:Nat} {v:AV} {x:Bk} {rt rb:List Nat}:dj s2 ((s.aK b x).put d v) ⟨rt,rb,[d],[b]⟩=(s2.aK b x).put d v:=by
 unfold dj FS.put FS.aK
 congr 1
 ·funext i
  simp only[List.mem_singleton]
  by_cases h:d=i
  ·subst h;simp
  ·rw[if_neg (fun e=>h e.symm),if_neg h]
 ·funext i
  simp only[List.mem_singleton]
  by_cases h:b=i
  ·subst h;simp
  ·rw[if_neg (fun e=>h e.symm),if_neg h]
theorem BG {s s2:FS} {b:Nat} {x:Bk} {rt rb:List Nat}:dj s2 (s.aK b x) ⟨rt,rb,[],[b]⟩=s2.aK b x:=by
 unfold dj FS.aK
 congr 1
 funext i
 simp only[List.mem_singleton]
 by_cases h:b=i
 ·subst h;simp
 ·rw[if_neg (fun e=>h e.symm),if_neg h]
theorem Zc {a:Act} {w:World} {K:Act→World→Prop} {Q:Exit→Act→World→Prop} (h:io.guard=none) (hw:io.wp P a w K Q):mg P ops io a w K Q:=by
 unfold mg
 rw[Ff h];exact hw
theorem Ka (h:mf ops io=some none):io.guard=none:=by
 unfold mf at h
 cases hg:io.guard with
 | none=>rfl
 | some p =>
  obtain ⟨j,b⟩:=p
  rw[hg]at h
  simp only at h
  split at h<;>simp at h
theorem PD {s:FS} {d b:Nat} {cs:List AV} {rt:List Nat} (hg:io.guard=none) (bh:io.dst=some d) (hd:d < c.N) (hf:s.H b=.free)
  (dM:∀ s2:FS,(∀ i ∈ rt,s2.T i=s.T i)→∀ g a w,R c g s2 a w→∃ (cur:Array Value) (t:TypeId),(execOp a.eval io).run P w=.ok (.value (.pointer (some ⟨w.heap.size,0,none⟩))) (w.alloc (.cells cur t))∧cur.size=cs.length∧(∀ j,j < cs.length→(cur.getD j undef).oneCell'=true) ∧
   ∀ j,j < cs.length→VR g (Qo c g s2) w (cs.getD j .any) (cur.getD j undef)) :
  oy P c ops io s ⟨rt,[b],[d],[b]⟩ ((s.aK b (.cells cs)).put d (.ptr b 0)):=by
 refine ⟨fun i hi=>?_,fun i hi=>?_,fun s2 hT hH g a w hR K Q' hK=>Zc hg ?_⟩
 ·rw[FS.dg,if_neg (fun e=>hi (by simp[e]))];rfl
 ·show (s.aK b _).H i=_
  rw[FS.bc,if_neg (fun e=>hi (by simp[e]))]
 ·obtain ⟨cur,t,hr,hs,h1,hv⟩:=dM s2 hT g a w hR
  unfold Oper.wp
  rw[hr]
  have jq:s2.H b=.free:=by rw[hH b av,hf]
  have iu:∀ k,Qo c g s2 k→k < w.heap.size:=by
   rintro k (h|⟨b',hl,fk⟩)
   ·have:=(hR.xs k h).1;have:=hR.fr.size;omega
   ·exact BR.lt (fk ▸ hR.h b') hl
  have bg:=hR.new (b:=b) (x:=.cells cs) (.cells cur t) jq trivial fun g' fk=>by
   exact .cells (cur:=cur) (e:=t) (fz:=(0,0)) (heap_alloc_new w _) af h1 (fun j hj=>(hv j hj).mono (Fr.alloc w _ _) (fun k hk h=>h.resolve_right af) fk) (.inl rfl)
  show K (a.put io.dst _) _
  rw[bh]
  refine hK (Zg g b (.re w.heap.size)) _ _ ?_
  rw[PB]
  refine bg.put hd (.ptr ?_)
  simp[Zg]
theorem ZR {s:FS} {d b:Nat} {t:TypeId} {z:Value} (bf:mf ops io=some none) (bl:io.op=.alloc t) (bh:io.dst=some d) (hd:d < c.N) (hz:(P.info? t).bind (·.zero)=some z) (h1:z.cells.all (·.oneCell')=true) (hf:s.H b=.free) :
  oy P c ops io s ⟨[],[b],[d],[b]⟩ ((s.aK b (.cells (z.cells.toList.map fj))).put d (.ptr b 0)):=by
 refine PD (Ka bf) bh hd hf fun s2 _ g a w hR=>⟨z.cells,t,?_,by simp,?_⟩
 ·cases hi:P.info? t with
  | none=>rw[hi]at hz;simp at hz
  | some i =>
   rw[hi]at hz;simp at hz
   simp[execOp,bl,Instr.alloc,zeroValue,typeInfo,hi,hz,newVar,newRow,newObj,Sem.run]
 ·have hv:=EW (g:=g) (W:=Qo c g s2) (w:=w) (.agg z.cells)
  have oh:tD (.agg z.cells)=.agg (z.cells.toList.map fj):=if_pos h1
  rw[oh]at hv
  obtain ⟨us,e,q1,q2,q3⟩:=Ub hv
  cases e
  exact ⟨q2,q3⟩
theorem ZS {s:FS} {d b:Nat} {t:TypeId} {x:Operand} (bf:mf ops io=some none) (bl:io.op=.box t x) (bh:io.dst=some d) (hd:d < c.N) (hx:kv (aZ c.gl s (aT x))) (hf:s.H b=.free) :
  oy P c ops io s ⟨Xr [aT x],[b],[d],[b]⟩ ((s.aK b (.cells (Kf (aZ c.gl s (aT x))))).put d (.ptr b 0)):=by
 refine PD (Ka bf) bh hd hf fun s2 hT g a w hR=>?_
 have ed:=hR.ev x
 have he:aZ c.gl s2 (aT x)=aZ c.gl s (aT x):=by
  have:=Yi (gl:=c.gl) (xs:=[aT x]) hT
  simpa [aG] using this
 rw[he]at ed
 have hr:(execOp a.eval io).run P w=.ok (.value (.pointer (some ⟨w.heap.size,0,none⟩))) (w.alloc (.cells (a.eval x).cells t)):=by
  simp[execOp,bl,Instr.box,newVar,newRow,newObj,Sem.run]
 refine ⟨_,_,hr,?_⟩
 by_cases zo:∃ vs,aZ c.gl s (aT x)=.agg vs
 ·obtain ⟨vs,e⟩:=zo
  rw[e]at ed ⊢
  obtain ⟨us,e2,q1,q2,q3⟩:=Ub ed
  rw[e2]
  exact ⟨q1,q2,q3⟩
 ·have h1:one (aZ c.gl s (aT x)):=by
   revert hx zo
   cases aZ c.gl s (aT x)<;>simp[kv,one]
  have pA:=ed.one h1
  have aX:Kf (aZ c.gl s (aT x))=[aZ c.gl s (aT x)]:=by
   revert zo
   cases aZ c.gl s (aT x)<;>simp[Kf]
  rw[aX,Iv pA]
  exact ⟨rfl,fun j hj=>by simp at hj;subst hj;exact pA,fun j hj=>by simp at hj;subst hj;exact ed⟩
theorem IF (w:World) (k o:Nat) (v:Value) (i:Nat):(w.setCell ⟨k,o,none⟩ v).heap[i]?=if i=k then (w.heap[k]?).map (fun x=>match x with|.cells c e fz=>.cells (c.setIfInBounds o v) e fz|x=>x) else w.heap[i]?:=by
 simp only[World.setCell,Array.getElem?_modify]
 by_cases h:k=i
 ·subst h;simp
  cases w.heap[k]? with
  | none=>rfl
  | some x=>cases x<;>rfl
 ·rw[if_neg h,if_neg (fun e=>h e.symm)]
theorem IG {k:Nat} {e:TypeId} {fz:Nat × Nat} (off:Nat):∀ (vs:List Value) (i:Nat) (w:World) (cur:Array Value),w.heap[k]?=some (.cells cur e fz)→(∀ v ∈ vs,v.oneCell'=true)→off + i + vs.length≤cur.size→(fz=(0,0)∨cur.size≤fz.1) →
  ∃ w' eK,(storeCells ⟨k,off,none⟩ vs i).run P w=.ok () w'∧w'.heap[k]?=some (.cells eK e fz)∧eK.size=cur.size∧(∀ j,eK.getD j undef=if off + i≤j∧j < off + i + vs.length∧j < cur.size then vs.getD (j - (off + i)) undef else cur.getD j undef)∧Fr w w' (fun x=>x=k)
 | [],i,w,cur,hb,_,_,_=>⟨w,cur,rfl,hb,rfl,fun j=>by rw[if_neg (by simp;omega)],Fr.refl _ _⟩
 | v::vs,i,w,cur,hb,h1,hl,hf=>by
  have hlt:off + i < cur.size:=by simp at hl;omega
  have eE:w.cell? ⟨k,off + i,none⟩=some cur[off + i]:=by rw[cell_of_row w k _ cur e fz hb];simp[hlt]
  have pB:w.frozen? ⟨k,off + i,none⟩=false:=by
   simp only[World.frozen?,hb]
   rcases hf with h|h
   ·subst h;simp
   ·simp only[Bool.and_eq_false_iff,decide_eq_false_iff_not];omega
  have ep:(store ⟨k,off + i,none⟩ v).run P w=.ok () (w.setCell ⟨k,off + i,none⟩ v):=by
   rw[run_store P w _ v _ (h1 v av),eE]
   simp[pB]
  have bL:(w.setCell ⟨k,off + i,none⟩ v).heap[k]?=some (.cells (cur.setIfInBounds (off + i) v) e fz):=by rw[IF,if_pos rfl,hb];rfl
  obtain ⟨w',eK,hr,zr,hs,hg,kx⟩:=IG off vs (i + 1) _ _ bL (fun u hu=>h1 u (by simp[hu])) (by simp at hl ⊢;omega) (by simpa using hf)
  refine ⟨w',eK,?_,zr,by rw[hs];simp,fun j=>?_,?_⟩
  ·simp only[storeCells,Sem.run_bind,add_lit,ep,Result.andThen_ok,hr]
  ·rw[hg j]
   simp only[Array.size_setIfInBounds,List.length_cons]
   by_cases hj:j=off + i
   ·subst hj
    rw[if_neg af,if_pos af]
    simp[hlt]
   ·have e:(cur.setIfInBounds (off + i) v).getD j undef=cur.getD j undef:=by
     simp only[Array.getD_eq_getD_getElem?,Array.getElem?_setIfInBounds]
     rw[if_neg (fun h=>hj h.symm)]
    rw[e]
    by_cases hc:off + (i + 1)≤j∧j < off + (i + 1) + vs.length∧j < cur.size
    ·rw[if_pos hc,if_pos af]
     have:j - (off + i)=(j - (off + (i + 1))) + 1:=by omega
     rw[this];simp
    ·rw[if_neg hc,if_neg af]
  ·have h0:Fr w (w.setCell ⟨k,off + i,none⟩ v) (fun x=>x=k):=by
    refine ⟨rfl,rfl,rfl,by simp[World.setCell],fun x _ hx=>by rw[IF,if_neg hx],fun x c0 e0 f0 hx=>?_⟩
    rw[IF]
    split
    ·rename_i ex;subst ex
     rw[hb]at hx;cases hx
     rw[hb]
     exact ⟨_,rfl,by simp⟩
    ·exact ⟨c0,hx,rfl⟩
   exact h0.trans kx fun i _ h=>h
theorem zx {cur:Array Value} {n j:Nat} (h:j < n):(cur.extract 0 n).getD j undef=cur.getD j undef:=by
 simp only[Array.getD_eq_getD_getElem?,Array.getElem?_extract]
 by_cases hj:j < cur.size
 ·rw[if_pos af];simp
 ·rw[if_neg af];simp[Nat.le_of_not_lt hj]
theorem ZT {s:FS} {t:TypeId} {ty:TY} {xa xv:Operand} (bf:mf ops io=some none) (bl:io.op=.store t xa xv) (bh:io.dst=none) (jn:kO P t=some ty)
  (hp:tI s ty (aZ c.gl s (aT xa)) (aZ c.gl s (aT xv))) :
  oy P c ops io s ⟨Xr [aT xa,aT xv],[je (aZ c.gl s (aT xa))],[],[je (aZ c.gl s (aT xa))]⟩
   (s.aK (je (aZ c.gl s (aT xa))) (.cells (tC ty (Zb (s.H (je (aZ c.gl s (aT xa))))) (vj (aZ c.gl s (aT xa))) (aZ c.gl s (aT xv))))):=by
 cases PE:aZ c.gl s (aT xa)<;>rw[PE]at hp<;>simp only[tI]at hp
 rename_i b off
 simp only[je,vj]
 cases hH:s.H b<;>rw[hH]at hp<;>simp only at hp
 rename_i cs
 simp only[Zb]
 refine ⟨fun i _=>rfl,fun i hi=>by rw[FS.bc,if_neg (fun e=>hi (by simp[e]))],fun s2 hT ZU g a w hR K Q' hK=>Zc (Ka bf) ?_⟩
 have bp:=Yi (gl:=c.gl) (xs:=[aT xa,aT xv]) hT
 simp only[aG,List.map_cons,List.map_nil,List.cons.injEq,and_true]at bp
 have PF:=hR.ev xa
 have tJ:=hR.ev xv
 rw[bp.1,PE]at PF
 rw[bp.2]at tJ
 obtain ⟨k,e1,e2⟩:=zq PF
 have dF:s2.H b=.cells cs:=by rw[ZU b av,hH]
 have dV:=hR.h b
 rw[dF,e2]at dV
 -- the cells wQ are stored
 have piece:∃ (vs:List AV),(a.eval xv).cells.size=vs.length∧off + vs.length≤cs.length∧Zk P t=some vs.length∧(∀ j,j < vs.length→((a.eval xv).cells.getD j undef).oneCell'=true)∧(∀ j,j < vs.length→VR g (Qo c g s2) w (vs.getD j .any) ((a.eval xv).cells.getD j undef)) ∧
   tC ty cs off (aZ c.gl s (aT xv))=Yx cs off vs:=by
  cases ty with
  | sc q =>
   obtain ⟨hs,_⟩:=Pe jn
   obtain ⟨p1,p2⟩:=hp
   have h1:=tJ.one p2
   rw[Iv h1]
   refine ⟨[aZ c.gl s (aT xv)],rfl,by simp;omega,hs,fun j hj=>?_,fun j hj=>?_,Pu p1⟩
   ·simp at hj;subst hj;exact h1
   ·simp at hj;subst hj;exact tJ
  | ag n =>
   obtain ⟨hs,_⟩:=EY jn
   clear hK
   generalize aZ c.gl s (aT xv)=ev at hp tJ
   cases ev<;>simp only[zw]at hp
   rename_i vs
   obtain ⟨us,e3,q1,q2,q3⟩:=Ub tJ
   rw[e3]
   exact ⟨vs,q1,by omega,by rw[hs,hp.1],q2,q3,rfl⟩
 obtain ⟨vs,q1,q2,q3,q4,q5,q6⟩:=piece
 rw[q6]at hK
 by_cases bN:0 < cs.length
 ·cases dV with
  | cells hb hl h1 hv hf =>
   rename_i cur e fz
   obtain ⟨w',eK,r1,r2,r3,r4,r5⟩:=IG (P:=P) off (a.eval xv).cells.toList 0 w cur hb (fun v hv=>by
    obtain ⟨j,hj,e⟩:=List.getElem_of_mem hv
    have cU:j < vs.length:=by rw[← q1];simpa using hj
    have:=q4 j cU
    have e':(a.eval xv).cells.getD j undef=v:=by
     rw[← e]
     have:j < (a.eval xv).cells.size:=by simpa using hj
     simp[Array.getD,this]
    rw[← e'];exact this) (by simp[q1];omega) hf
   have dM:(execOp a.eval io).run P w=.ok .skip w':=by
    simp only[execOp,bl,e1,Instr.storeAt,Instr.sureAddr,storeVar,Sem.run_bind,Sem.run_pure,Result.andThen_ok,Ju q3]
    rw[if_neg (by rw[q1];simp)]
    simp[r1]
   unfold Oper.wp
   rw[dM]
   show K (a.put io.dst undef) w'
   rw[bh]
   refine hK g a w' ?_
   rw[BG]
   have aO:(s2.H b).live:=by rw[dF];trivial
   have hk:Qo c g s2 k:=.inr ⟨b,aO,e2⟩
   have kT:∀ {x v},VR g (Qo c g s2) w x v→VR g (Qo c g s2) w' x v:=fun hx=>hx.mono (r5.weak fun i e=>e ▸ hk) (fun _ _ h=>h) (fun _ _=>rfl)
   -- the row iv it was,but for its end,and the piece
   obtain ⟨t1,t2,t3⟩:=Pt (g:=g) (W:=Qo c g s2) (w:=w') (cs:=cs) (cells:=cur.extract 0 cs.length) (by simp;omega)
    (fun j hj=>by rw[zx hj];exact h1 j hj) (fun j hj=>by rw[zx hj];exact kT (hv j hj)) (vs:=vs) (us:=(a.eval xv).cells) q1 q4 (fun j hj=>kT (q5 j hj)) q2 (cells':=eK.extract 0 cs.length) (by simp;omega) (fun j=>by
     by_cases hj:j < cs.length
     ·rw[zx hj,zx hj,r4 j]
      simp only[Nat.add_zero,Array.length_toList,Array.size_extract,Nat.sub_zero]
      by_cases kU:off≤j∧j < off + (a.eval xv).cells.size
      ·rw[if_pos af,if_pos af]
       simp[Array.getD_eq_getD_getElem?]
      ·rw[if_neg af,if_neg af]
     ·rw[if_neg (by simp;omega)]
      have e1:(eK.extract 0 cs.length).getD j undef=undef:=by simp[Array.getD];omega
      have e2:(cur.extract 0 cs.length).getD j undef=undef:=by simp[Array.getD];omega
      rw[e1,e2])
   have hlen:=Ps q2
   refine hR.setBlock e2 aO trivial r5 (.cells r2 (by rw[hlen,r3];exact hl) (fun j hj=>?_) (fun j hj=>?_) (by rw[r3];exact hf))
   ·have:=t2 j hj;rwa [zx af]at this
   ·have:=t3 j hj;rwa [zx af]at this
 ·have jr:cs=[]:=List.eq_nil_of_length_eq_zero af
  subst jr
  have II:vs=[]:=List.eq_nil_of_length_eq_zero (by simp at q2;simp[q2])
  subst II
  have dM:(execOp a.eval io).run P w=.ok .skip w:=by
   have pA:(a.eval xv).cells=#[]:=Array.eq_empty_of_size_eq_zero q1
   simp only[execOp,bl,e1,Instr.storeAt,Instr.sureAddr,storeVar,Sem.run_bind,Sem.run_pure,Result.andThen_ok,Ju q3]
   rw[if_neg (by rw[q1];simp)]
   simp[pA,storeCells]
  unfold Oper.wp
  rw[dM]
  show K (a.put io.dst undef) w
  rw[bh]
  refine hK g a w ?_
  rw[BG]
  have:s2.aK b (.cells (Yx [] off []))=s2:=by
   unfold FS.aK Yx
   cases s2
   congr 1
   funext i
   split
   ·rename_i e;subst e;simp at dF;simp[dF]
   ·rfl
  rw[this];exact hR
end
section
variable {P:Program} {N:Nat} {ops:Array Oper} {io:Oper}
theorem ZV {d:Nat} {q:Q1} {xs:List TV} {gd:Option (Nat × Bool)} (h:Ui P N ops io=some (.q d q xs gd)) :
  mf ops io=some gd∧io.dst=some d∧d < N∧∃ ys,tF P io=some (q,ys)∧xs=ys.map aT:=by
 unfold Ui at h
 split at h
 ·cases h
 ·rename_i BH hg
  split at h
  ·split at h
   ·split at h<;>simp at h
   ·cases h
  ·split at h<;>simp at h
  ·split at h<;>simp at h
  ·split at h
   ·rename_i q' ys d' hq hd
    split at h
    ·rename_i hlt
     simp only[Option.some.injEq,bG.q.injEq]at h
     obtain ⟨rfl,rfl,rfl,rfl⟩:=h
     exact ⟨hg,hd,hlt,ys,hq,rfl⟩
    ·cases h
   ·split at h
    ·split at h<;>simp at h
    ·cases h
theorem ZW {d:Nat} {z:List AV} (h:Ui P N ops io=some (.al d z)):mf ops io=some none∧io.dst=some d∧d < N∧∃ t zv,io.op=.alloc t∧(P.info? t).bind (·.zero)=some zv∧zv.cells.all (·.oneCell')=true∧z=zv.cells.toList.map fj:=by
 unfold Ui at h
 split at h
 ·cases h
 ·rename_i BH hg
  split at h
  ·rename_i t d' bl hd
   split at h
   ·rename_i zv hz
    split at h
    ·rename_i hc
     simp only[Option.some.injEq,bG.al.injEq]at h
     obtain ⟨rfl,rfl⟩:=h
     exact ⟨hg,hd,hc.1,t,zv,bl,hz,hc.2,rfl⟩
    ·cases h
   ·cases h
  ·split at h<;>simp at h
  ·split at h<;>simp at h
  ·split at h
   ·split at h<;>simp at h
   ·split at h
    ·split at h<;>simp at h
    ·cases h
theorem ZX {d:Nat} {x:TV} (h:Ui P N ops io=some (.bx d x)):mf ops io=some none∧io.dst=some d∧d < N∧∃ t y,io.op=.box t y∧x=aT y:=by
 unfold Ui at h
 split at h
 ·cases h
 ·rename_i BH hg
  split at h
  ·split at h
   ·split at h<;>simp at h
   ·cases h
  ·rename_i t y d' bl hd
   split at h
   ·rename_i hc
    simp only[Option.some.injEq,bG.bx.injEq]at h
    obtain ⟨rfl,rfl⟩:=h
    exact ⟨by rw[hg,hc.2],hd,hc.1,t,y,bl,rfl⟩
   ·cases h
  ·split at h<;>simp at h
  ·split at h
   ·split at h<;>simp at h
   ·split at h
    ·split at h<;>simp at h
    ·cases h
theorem ZY {ty:TY} {x y:TV} (h:Ui P N ops io=some (.so ty x y)):mf ops io=some none∧io.dst=none∧∃ t xa xv,io.op=.store t xa xv∧kO P t=some ty∧x=aT xa∧y=aT xv:=by
 unfold Ui at h
 split at h
 ·cases h
 ·rename_i BH hg
  split at h
  ·split at h
   ·split at h<;>simp at h
   ·cases h
  ·split at h<;>simp at h
  ·rename_i t a v bl hd
   split at h
   ·rename_i jn
    simp only[Option.some.injEq,bG.so.injEq]at h
    obtain ⟨rfl,rfl,rfl⟩:=h
    exact ⟨hg,hd,t,a,v,bl,jn,rfl,rfl⟩
   ·cases h
  ·split at h
   ·split at h<;>simp at h
   ·split at h
    ·split at h<;>simp at h
    ·cases h
theorem Zr {d:Option Nat} {k:PK} {xs:List TV} {gd:Option (Nat × Bool)} (h:Ui P N ops io=some (.pd d k xs gd)) :
  mf ops io=some gd∧io.dst=d∧d.all (· < N)=true∧∃ ys,Yf P io=some (k,ys)∧xs=ys.map aT:=by
 unfold Ui at h
 split at h
 ·cases h
 ·rename_i BH hg
  split at h
  ·split at h
   ·split at h<;>simp at h
   ·cases h
  ·split at h<;>simp at h
  ·split at h<;>simp at h
  ·split at h
   ·split at h<;>simp at h
   ·split at h
    ·rename_i k' ys hk
     split at h
     ·rename_i hd
      simp only[Option.some.injEq,bG.pd.injEq]at h
      obtain ⟨rfl,rfl,rfl,rfl⟩:=h
      exact ⟨hg,rfl,hd,ys,hk,rfl⟩
     ·cases h
    ·cases h
end
def Ky (P:Program) (c:Cx) (o:bG) (s:FS) (F:bn) (s':FS):Prop:=∀ ops io,Ui P c.N ops io=some o→oy P c ops io s F s'
def IJ (P:Program) (c:Cx) (o:bG) (K:St→Prop) (s:St):Prop:=∃ F s',Ky P c o s.fs F s'.fs∧K s'
def Fh (P:Program) (c:Cx) (o:bG) (K:St→Prop) (s:St):Prop:=∀ ops io,Ui P c.N ops io=some o→∀ g a w,R c g s.fs a w→∀ (K':Act→World→Prop) (Q':Exit→Act→World→Prop),(∀ g' s' a' w',K s'→R c g' s'.fs a' w'→K' a' w')→mg P ops io a w K' Q'
def IK (P:Program) (c:Cx) (o:bG) (K:bn→St→Prop) (s:St):Prop:=∃ F s',Ky P c o s.fs F s'.fs∧K F s'
def XP (P:Program) (c:Cx):List bG→(St→Prop)→St→Prop
 | [],K,s=>K s
 | .q d q xs gd::r,K,s=>wO c.gl s.fs q xs gd∧XP P c r K (s.put d (sq c.gl s.fs q xs gd))
 | .al d z::r,K,s=>s.fs.H s.n=.free∧XP P c r K ((s.nw (.cells z)).put d (.ptr s.n 0))
 | .bx d x::r,K,s=>kv (aZ c.gl s.fs x)∧s.fs.H s.n=.free∧XP P c r K ((s.nw (.cells (Kf (aZ c.gl s.fs x)))).put d (.ptr s.n 0))
 | .so ty a v::r,K,s=>tI s.fs ty (aZ c.gl s.fs a) (aZ c.gl s.fs v) ∧
   XP P c r K (s.aK (je (aZ c.gl s.fs a)) (.cells (tC ty (Zb (s.fs.H (je (aZ c.gl s.fs a)))) (vj (aZ c.gl s.fs a)) (aZ c.gl s.fs v))))
 | .pd d k xs gd::r,K,s=>IJ P c (.pd d k xs gd) (XP P c r K) s∨Fh P c (.pd d k xs gd) (XP P c r K) s
def cM (x y:bn):Bool:=x.wt.any (fun i=>y.rt.contains i || y.wt.contains i) || y.wt.any (fun i=>x.rt.contains i) || x.wb.any (fun i=>y.rb.contains i || y.wb.contains i) || y.wb.any (fun i=>x.rb.contains i)
def Ug (anc:Nat) (y:bn):Nat→List bn→Bool
 | _,[]=>true
 | i,x::r=>(!cM x y || anc.testBit i) && Ug anc y (i + 1) r
def Uv (anc:List Nat) (fs:List bn):List bn→Bool
 | []=>true
 | y::r=>Ug (anc.getD fs.length 0) y 0 fs && Uv anc (fs++[y]) r
def XD (P:Program) (c:Cx) (anc:List Nat):List bG→List bn→(St→Prop)→St→Prop
 | [],fs,K,s=>Uv anc [] fs.reverse=true∧K s
 | .q d q xs gd::r,fs,K,s=>wO c.gl s.fs q xs gd∧XD P c anc r (sr c.gl s.fs d xs gd::fs) K (s.put d (sq c.gl s.fs q xs gd))
 | .al d z::r,fs,K,s=>s.fs.H s.n=.free∧XD P c anc r (⟨[],[s.n],[d],[s.n]⟩::fs) K ((s.nw (.cells z)).put d (.ptr s.n 0))
 | .bx d x::r,fs,K,s=>kv (aZ c.gl s.fs x)∧s.fs.H s.n=.free∧XD P c anc r (⟨Xr [x],[s.n],[d],[s.n]⟩::fs) K ((s.nw (.cells (Kf (aZ c.gl s.fs x)))).put d (.ptr s.n 0))
 | .so ty a v::r,fs,K,s=>tI s.fs ty (aZ c.gl s.fs a) (aZ c.gl s.fs v) ∧
   XD P c anc r (⟨Xr [a,v],[je (aZ c.gl s.fs a)],[],[je (aZ c.gl s.fs a)]⟩::fs) K (s.aK (je (aZ c.gl s.fs a)) (.cells (tC ty (Zb (s.fs.H (je (aZ c.gl s.fs a)))) (vj (aZ c.gl s.fs a)) (aZ c.gl s.fs v))))
 | .pd d k xs gd::r,fs,K,s=>IK P c (.pd d k xs gd) (fun F=>XD P c anc r (F::fs) K) s
def Yh (P:Program) (c:Cx) (o:bG) (r:List bG) (K:St→Prop) (s:St):Prop:=IJ P c o (XP P c r K) s∨Fh P c o (XP P c r K) s
def Zm (P:Program) (c:Cx) (anc:List Nat) (o:bG) (r:List bG) (fs:List bn) (K:St→Prop) (s:St):Prop:=IK P c o (fun F=>XD P c anc r (F::fs) K) s
section
variable {P:Program} {c:Cx} {K:St→Prop} {s:St} {r:List bG} {anc:List Nat} {fs:List bn}
theorem ZZ:XP P c [] K s=K s:=rfl
theorem Z0 (d:Nat) (q:Q1) (xs:List TV) (gd:Option (Nat × Bool)):XP P c (.q d q xs gd::r) K s=(wO c.gl s.fs q xs gd∧XP P c r K (s.put d (sq c.gl s.fs q xs gd))):=rfl
theorem Z4 (d:Nat) (z:List AV):XP P c (.al d z::r) K s=(s.fs.H s.n=.free∧XP P c r K ((s.nw (.cells z)).put d (.ptr s.n 0))):=rfl
theorem Z5 (d:Nat) (x:TV):XP P c (.bx d x::r) K s=(kv (aZ c.gl s.fs x)∧s.fs.H s.n=.free∧XP P c r K ((s.nw (.cells (Kf (aZ c.gl s.fs x)))).put d (.ptr s.n 0))):=rfl
theorem Z6 (ty:TY) (a v:TV):XP P c (.so ty a v::r) K s=(tI s.fs ty (aZ c.gl s.fs a) (aZ c.gl s.fs v) ∧
   XP P c r K (s.aK (je (aZ c.gl s.fs a)) (.cells (tC ty (Zb (s.fs.H (je (aZ c.gl s.fs a)))) (vj (aZ c.gl s.fs a)) (aZ c.gl s.fs v))))):=rfl
theorem Z7 (d:Option Nat) (k:PK) (xs:List TV) (gd:Option (Nat × Bool)):XP P c (.pd d k xs gd::r) K s=Yh P c (.pd d k xs gd) r K s:=rfl
theorem Z8:XD P c anc [] fs K s=(Uv anc [] fs.reverse=true∧K s):=rfl
theorem Z9 (d:Nat) (q:Q1) (xs:List TV) (gd:Option (Nat × Bool)):XD P c anc (.q d q xs gd::r) fs K s=(wO c.gl s.fs q xs gd∧XD P c anc r (sr c.gl s.fs d xs gd::fs) K (s.put d (sq c.gl s.fs q xs gd))):=rfl
theorem Yei (d:Nat) (z:List AV):XD P c anc (.al d z::r) fs K s=(s.fs.H s.n=.free∧XD P c anc r (⟨[],[s.n],[d],[s.n]⟩::fs) K ((s.nw (.cells z)).put d (.ptr s.n 0))):=rfl
theorem Yf9 (d:Nat) (x:TV):XD P c anc (.bx d x::r) fs K s=(kv (aZ c.gl s.fs x)∧s.fs.H s.n=.free∧XD P c anc r (⟨Xr [x],[s.n],[d],[s.n]⟩::fs) K ((s.nw (.cells (Kf (aZ c.gl s.fs x)))).put d (.ptr s.n 0))):=rfl
theorem Yce (ty:TY) (a v:TV):XD P c anc (.so ty a v::r) fs K s=(tI s.fs ty (aZ c.gl s.fs a) (aZ c.gl s.fs v) ∧
   XD P c anc r (⟨Xr [a,v],[je (aZ c.gl s.fs a)],[],[je (aZ c.gl s.fs a)]⟩::fs) K (s.aK (je (aZ c.gl s.fs a)) (.cells (tC ty (Zb (s.fs.H (je (aZ c.gl s.fs a)))) (vj (aZ c.gl s.fs a)) (aZ c.gl s.fs v))))):=rfl
theorem Yf6 (d:Option Nat) (k:PK) (xs:List TV) (gd:Option (Nat × Bool)):XD P c anc (.pd d k xs gd::r) fs K s=Zm P c anc (.pd d k xs gd) r fs K s:=rfl
end
section
variable {P:Program} {c:Cx}
theorem PG {s:St} {d:Nat} {q:Q1} {xs:List TV} {gd:Option (Nat × Bool)} (hp:wO c.gl s.fs q xs gd):Ky P c (.q d q xs gd) s.fs (sr c.gl s.fs d xs gd) (s.put d (sq c.gl s.fs q xs gd)).fs:=by
 intro ops io he
 obtain ⟨h1,h2,h3,ys,h4,rfl⟩:=ZV he
 rw[St.bT]
 exact ZP h1 h2 h3 h4 hp
theorem PH {s:St} {d:Nat} {z:List AV} (hf:s.fs.H s.n=.free):Ky P c (.al d z) s.fs ⟨[],[s.n],[d],[s.n]⟩ ((s.nw (.cells z)).put d (.ptr s.n 0)).fs:=by
 intro ops io he
 obtain ⟨h1,h2,h3,t,zv,h4,h5,h6,rfl⟩:=ZW he
 rw[St.bT,St.gV]
 exact ZR h1 h4 h2 h3 h5 h6 hf
theorem PI {s:St} {d:Nat} {x:TV} (hx:kv (aZ c.gl s.fs x)) (hf:s.fs.H s.n=.free):Ky P c (.bx d x) s.fs ⟨Xr [x],[s.n],[d],[s.n]⟩ ((s.nw (.cells (Kf (aZ c.gl s.fs x)))).put d (.ptr s.n 0)).fs:=by
 intro ops io he
 obtain ⟨h1,h2,h3,t,y,h4,rfl⟩:=ZX he
 rw[St.bT,St.gV]
 exact ZS h1 h4 h2 h3 hx hf
theorem PJ {s:St} {ty:TY} {a v:TV} (hp:tI s.fs ty (aZ c.gl s.fs a) (aZ c.gl s.fs v)) :
  Ky P c (.so ty a v) s.fs ⟨Xr [a,v],[je (aZ c.gl s.fs a)],[],[je (aZ c.gl s.fs a)]⟩ (s.aK (je (aZ c.gl s.fs a)) (.cells (tC ty (Zb (s.fs.H (je (aZ c.gl s.fs a)))) (vj (aZ c.gl s.fs a)) (aZ c.gl s.fs v)))).fs:=by
 intro ops io he
 obtain ⟨h1,h2,t,xa,xv,h3,h4,rfl,rfl⟩:=ZY he
 rw[St.cK]
 exact ZT h1 h3 h2 h4 hp
theorem Xya {o:bG} {r:List bG} {K:St→Prop} {s:St} (h:XP P c (o::r) K s):(∃ F s',Ky P c o s.fs F s'.fs∧XP P c r K s')∨Fh P c o (XP P c r K) s:=by
 cases o with
 | q d q xs gd=>exact .inl ⟨_,_,PG h.1,h.2⟩
 | al d z=>exact .inl ⟨_,_,PH h.1,h.2⟩
 | bx d x=>exact .inl ⟨_,_,PI h.1 h.2.1,h.2.2⟩
 | so ty a v=>exact .inl ⟨_,_,PJ h.1,h.2⟩
 | pd d k xs gd=>exact h
theorem Xzk {anc:List Nat} {o:bG} {r:List bG} {fs:List bn} {K:St→Prop} {s:St} (h:XD P c anc (o::r) fs K s):∃ F s',Ky P c o s.fs F s'.fs∧XD P c anc r (F::fs) K s':=by
 cases o with
 | q d q xs gd=>exact ⟨_,_,PG h.1,h.2⟩
 | al d z=>exact ⟨_,_,PH h.1,h.2⟩
 | bx d x=>exact ⟨_,_,PI h.1 h.2.1,h.2.2⟩
 | so ty a v=>exact ⟨_,_,PJ h.1,h.2⟩
 | pd d k xs gd=>exact h
def su (P:Program) (N:Nat) (ops:Array Oper):List Oper→Option (List bG)
 | []=>some []
 | o::r=>match Ui P N ops o,su P N ops r with
  | some x,some l=>some (x::l)
  | _,_=>none
theorem IL {ops:Array Oper} {Q:Exit→Act→World→Prop} {K:St→Prop} (hK:∀ s g a w,K s→R c g s.fs a w→Q .normal a w):∀ (os:List Oper) (l:List bG) (s:St),su P c.N ops os=some l→XP P c l K s →
  ∀ g a w,R c g s.fs a w→wpList P ops Q os a w
 | [],l,s,he,h,g,a,w,hR=>by
  simp[su]at he;subst he
  exact hK s g a w h hR
 | o::os,l,s,he,h,g,a,w,hR=>by
  unfold su at he
  split at he
  ·rename_i x l' hx hl
   simp at he;subst he
   have:mg P ops o a w (wpList P ops Q os) Q:=by
    rcases Xya h with ⟨F,s',hA,hr⟩|hS
    ·have wR:=hA ops o hx
     exact wR.step s.fs (fun _ _=>rfl) (fun _ _=>rfl) g a w hR (wpList P ops Q os) Q fun g' a' w' bg=>by
      rw[BE wR.bj wR.dc]at bg
      exact IL hK os l' s' hl hr g' a' w' bg
    ·exact hS ops o hx g a w hR (wpList P ops Q os) Q fun g' s' a' w' hk bg=>IL hK os l' s' hl hk g' a' w' bg
   unfold mg at this
   unfold wpList
   split
   ·rename_i hw;rw[if_pos hw]at this;exact .inl this
   ·rename_i hw;rw[if_neg hw]at this;exact this
  ·cases he
end
def oB (o:Oper):List Nat:=(o.after.toList.filter fun e=>Region.binds .any e).map (·.on)
def tK (acc:List Nat):List Nat→Nat
 | []=>0
 | e::r=>(tK acc r ||| (1 <<< e)) ||| acc.getD e 0
def zy:List Oper→List Nat→List Nat
 | [],acc=>acc
 | o::r,acc=>zy r (acc++[tK acc (oB o)])
theorem PL (acc:List Nat) (i:Nat):∀ l:List Nat,(tK acc l).testBit i=true→i ∈ l∨∃ e ∈ l,(acc.getD e 0).testBit i=true
 | [],h=>by simp[tK]at h
 | e::r,h=>by
  simp only[tK,Nat.testBit_or,Bool.or_eq_true]at h
  rcases h with (h|h)|h
  ·rcases PL acc i r h with h|⟨x,hx,h⟩
   ·exact .inl (by simp[h])
   ·exact .inr ⟨x,by simp[hx],h⟩
  ·rw[Nat.one_shiftLeft,Nat.testBit_two_pow]at h
   exact .inl (by simp at h;simp[h])
  ·exact .inr ⟨e,by simp,h⟩
def IM (ops:Array Oper):Bool:=(List.range ops.size).all fun j=>match ops[j]? with
 | some o=>(oB o).all (· < j)
 | none=>true
theorem PM {ops:Array Oper} {L:Nat→Prop} (aX:∀ (j:Nat) o,ops[j]?=some o→L j→∀ e ∈ oB o,L e):∀ (l:List Oper) (acc:List Nat),(∀ i,l[i]?=ops[acc.length + i]?) →
  (∀ j,j < acc.length→L j→∀ i,(acc.getD j 0).testBit i=true→L i)→∀ j,L j→∀ i,((zy l acc).getD j 0).testBit i=true→L i
 | [],acc,_,h,j,hj,i,hi=>by
  by_cases hlt:j < acc.length
  ·exact h j hlt hj i hi
  ·have:acc.getD j 0=0:=by simp[List.getD,Nat.le_of_not_lt hlt]
   rw[zy,this]at hi;simp at hi
 | o::r,acc,hl,h,j,hj,i,hi=>by
  refine PM aX r (acc++[tK acc (oB o)]) (fun k=>?_) (fun k hk IN m hm=>?_) j hj i hi
  ·have:=hl (k + 1)
   simp only[List.getElem?_cons_succ]at this
   rw[this]
   congr 1
   simp;omega
  ·by_cases hlt:k < acc.length
   ·have:(acc++[tK acc (oB o)]).getD k 0=acc.getD k 0:=by
     simp only[List.getD];rw[List.getElem?_append_left hlt]
    rw[this]at hm
    exact h k hlt IN m hm
   ·have IP:k=acc.length:=by simp at hk;omega
    subst IP
    have:(acc++[tK acc (oB o)]).getD acc.length 0=tK acc (oB o):=by
     simp[List.getD]
    rw[this]at hm
    have ho:ops[acc.length]?=some o:=by have:=hl 0;simpa using this.symm
    rcases PL _ _ _ hm with hm|⟨e,he,IQ⟩
    ·exact aX _ o ho IN m hm
    ·have hLe:=aX _ o ho IN e he
     by_cases BI:e < acc.length
     ·exact h e BI hLe m IQ
     ·have:acc.getD e 0=0:=by simp[List.getD,Nat.le_of_not_lt BI]
      rw[this]at IQ;simp at IQ
theorem PN {anc:Nat} {y:bn}:∀ (l:List bn) (k:Nat),Ug anc y k l=true→∀ i (hi:i < l.length),cM l[i] y=true→anc.testBit (k + i)=true
 | x::l,k,h,i,hi,hc=>by
  simp only[Ug,Bool.and_eq_true,Bool.or_eq_true,Bool.not_eq_true']at h
  cases i with
  | zero =>
   rcases h.1 with h1|h1
   ·simp at hc;rw[hc]at h1;cases h1
   ·simpa using h1
  | succ i =>
   have:=PN l (k + 1) h.2 i (by simpa using hi) (by simpa using hc)
   rwa [show k + 1 + i=k + (i + 1) by omega]at this
 | [],_,_,i,hi,_=>absurd hi av
theorem PO {anc:List Nat}:∀ (l pre:List bn),Uv anc pre l=true→∀ j (hj:j < l.length) i (hi:i < (pre++l).length),i < pre.length + j→cM (pre++l)[i] l[j]=true→(anc.getD (pre.length + j) 0).testBit i=true
 | y::l,pre,h,j,hj,i,hi,hlt,hc=>by
  simp only[Uv,Bool.and_eq_true]at h
  cases j with
  | zero =>
   have mj:i < pre.length:=by omega
   have:=PN pre 0 h.1 i mj (by simpa [List.getElem_append_left mj] using hc)
   simpa using this
  | succ j =>
   have:=PO l (pre++[y]) h.2 j (by simpa using hj) i (by simpa using hi) (by simp;omega) (by simpa using hc)
   simp only[List.length_append,List.length_singleton]at this
   rwa [show pre.length + 1 + j=pre.length + (j + 1) by omega]at this
 | [],_,_,j,hj,_,_,_,_=>absurd hj av
section
variable {P:Program} {c:Cx} {ops:Array Oper}
theorem PQ {anc:List Nat} {K:St→Prop}:∀ (os:List Oper) (l:List bG) (fs:List bn) (s:St),su P c.N ops os=some l→XD P c anc l fs K s →
  ∃ (S:Nat→FS) (F:Nat→bn) (sn:St),S 0=s.fs∧(∀ j o,os[j]?=some o→oy P c ops o (S j) (F j) (S (j + 1)))∧sn.fs=S os.length∧K sn∧Uv anc [] (fs.reverse++(List.range os.length).map F)=true
 | [],l,fs,s,he,h=>by
  simp[su]at he;subst he
  exact ⟨fun _=>s.fs,fun _=>⟨[],[],[],[]⟩,s,rfl,fun j o h=>by simp at h,rfl,h.2,by simpa using h.1⟩
 | o::os,l,fs,s,he,h=>by
  unfold su at he
  split at he
  ·rename_i x l' hx hl
   simp at he;subst he
   obtain ⟨F0,s',hA,hr⟩:=Xzk h
   obtain ⟨S,F,sn,h1,h2,h3,h4,h5⟩:=PQ os l' (F0::fs) s' hl hr
   refine ⟨fun j=>match j with|0=>s.fs|j + 1=>S j,fun j=>match j with|0=>F0|j + 1=>F j,sn,rfl,fun j o' ho=>?_,h3,h4,?_⟩
   ·cases j with
    | zero =>
     simp at ho;subst ho
     have:=hA ops o hx
     simpa [h1] using this
    | succ j=>exact h2 j o' (by simpa using ho)
   ·rw[List.length_cons,List.range_succ_eq_map]
    simp only[List.map_cons,List.map_map]
    simp only[List.reverse_cons,List.append_assoc,List.singleton_append]at h5
    exact h5
  ·cases he
def SL (L:Nat→Bool) (S:Nat→FS) (F:Nat→bn):Nat→FS
 | 0=>S 0
 | m + 1=>if L m then dj (SL L S F m) (S (m + 1)) (F m) else SL L S F m
def IS (x y:bn):Prop:=(∃ i ∈ x.wt,i ∈ y.rt∨i ∈ y.wt)∨(∃ i ∈ y.wt,i ∈ x.rt)∨(∃ i ∈ x.wb,i ∈ y.rb∨i ∈ y.wb)∨(∃ i ∈ y.wb,i ∈ x.rb)
theorem Xtt {x y:bn} (h:IS x y):cM x y=true:=by
 unfold cM
 simp only[Bool.or_eq_true,List.any_eq_true,List.contains_iff_mem]
 rcases h with h|h|h|h
 ·exact .inl (.inl (.inl h))
 ·exact .inl (.inl (.inr h))
 ·exact .inl (.inr h)
 ·exact .inr h
structure Ch (n:Nat) (S:Nat→FS) (F:Nat→bn) (A:Nat→List Nat):Prop where
 bj:∀ j,j < n→∀ i,i ∉ (F j).wt→(S (j + 1)).T i=(S j).T i
 dc:∀ j,j < n→∀ i,i ∉ (F j).wb→(S (j + 1)).H i=(S j).H i
 cM:∀ i j,i < j→j < n→IS (F i) (F j)→i ∈ A j
variable {n:Nat} {S:Nat→FS} {F:Nat→bn} {A:Nat→List Nat} {L:Nat→Bool}
theorem Yfm {m i:Nat}:(SL L S F (m + 1)).T i=if L m=true∧i ∈ (F m).wt then (S (m + 1)).T i else (SL L S F m).T i:=by
 have e:SL L S F (m + 1)=if L m then dj (SL L S F m) (S (m + 1)) (F m) else SL L S F m:=rfl
 rw[e]
 split
 ·rename_i h;simp only[dj,h,true_and]
 ·rename_i h;rw[if_neg (fun x=>h x.1)]
theorem Yfp {m i:Nat}:(SL L S F (m + 1)).H i=if L m=true∧i ∈ (F m).wb then (S (m + 1)).H i else (SL L S F m).H i:=by
 have e:SL L S F (m + 1)=if L m then dj (SL L S F m) (S (m + 1)) (F m) else SL L S F m:=rfl
 rw[e]
 split
 ·rename_i h;simp only[dj,h,true_and]
 ·rename_i h;rw[if_neg (fun x=>h x.1)]
theorem PR (hc:Ch n S F A) {j:Nat} (hj:j < n) (ml:L j=false) (kV:∀ i ∈ A j,i < j→L i=true) (aX:∀ m,m < n→L m=true→∀ i ∈ A m,L i=true) {t:Nat} (ht:t ∈ (F j).rt):∀ m,m≤n→(SL L S F m).T t=(S (min m j)).T t
 | 0,_=>by simp[SL]
 | m + 1,hm=>by
  have ih:=PR hc hj ml kV aX ht m af
  rw[Yfm,ih]
  by_cases zA:m < j
  ·rw[show min (m + 1) j=m + 1 by omega,show min m j=m by omega]
   by_cases hw:t ∈ (F m).wt
   ·have:L m=true:=kV m (hc.cM m j zA hj (.inl ⟨t,hw,.inl ht⟩)) zA
    rw[if_pos ⟨this,hw⟩]
   ·rw[if_neg (fun x=>hw x.2),hc.bj m af t hw]
  ·rw[show min (m + 1) j=j by omega,show min m j=j by omega]
   rw[if_neg]
   rintro ⟨h1,h2⟩
   by_cases he:m=j
   ·subst he;rw[ml]at h1;cases h1
   ·have:=aX m af h1 j (hc.cM j m af af (.inr (.inl ⟨t,h2,ht⟩)))
    rw[ml]at this;cases this
theorem PT (hc:Ch n S F A) {j:Nat} (hj:j < n) (ml:L j=false) (kV:∀ i ∈ A j,i < j→L i=true) (aX:∀ m,m < n→L m=true→∀ i ∈ A m,L i=true) {t:Nat} (ht:t ∈ (F j).rb):∀ m,m≤n→(SL L S F m).H t=(S (min m j)).H t
 | 0,_=>by simp[SL]
 | m + 1,hm=>by
  have ih:=PT hc hj ml kV aX ht m af
  rw[Yfp,ih]
  by_cases zA:m < j
  ·rw[show min (m + 1) j=m + 1 by omega,show min m j=m by omega]
   by_cases hw:t ∈ (F m).wb
   ·have:L m=true:=kV m (hc.cM m j zA hj (.inr (.inr (.inl ⟨t,hw,.inl ht⟩)))) zA
    rw[if_pos ⟨this,hw⟩]
   ·rw[if_neg (fun x=>hw x.2),hc.dc m af t hw]
  ·rw[show min (m + 1) j=j by omega,show min m j=j by omega]
   rw[if_neg]
   rintro ⟨h1,h2⟩
   by_cases he:m=j
   ·subst he;rw[ml]at h1;cases h1
   ·have:=aX m af h1 j (hc.cM j m af af (.inr (.inr (.inr ⟨t,h2,ht⟩))))
    rw[ml]at this;cases this
theorem Xrh {s x y:FS} {X Y:bn} (h1:∀ i ∈ X.wt,i ∉ Y.wt) (h2:∀ i ∈ X.wb,i ∉ Y.wb):dj (dj s x X) y Y=dj (dj s y Y) x X:=by
 unfold dj
 congr 1
 ·funext i
  by_cases hy:i ∈ Y.wt<;>by_cases hx:i ∈ X.wt<;>simp only[hx,hy,if_true,if_false]
  exact absurd hy (h1 i hx)
 ·funext i
  by_cases hy:i ∈ Y.wb<;>by_cases hx:i ∈ X.wb<;>simp only[hx,hy,if_true,if_false]
  exact absurd hy (h2 i hx)
theorem PU (hc:Ch n S F A) {j:Nat} (ml:L j=false) (aX:∀ m,m < n→L m=true→∀ i ∈ A m,L i=true) {L':Nat→Bool} (cU:L' j=true) (ho:∀ i,i≠j→L' i=L i) :
  ∀ m,m≤n→SL L' S F m=if m≤j then SL L S F m else dj (SL L S F m) (S (j + 1)) (F j)
 | 0,_=>by simp[SL]
 | m + 1,hm=>by
  have ih:=PU hc ml aX cU ho m af
  have e:∀ L,SL L S F (m + 1)=if L m then dj (SL L S F m) (S (m + 1)) (F m) else SL L S F m:=fun _=>rfl
  by_cases zA:m < j
  ·rw[if_pos af]
   rw[if_pos af]at ih
   rw[e,e,ih,ho m af]
  ·rw[if_neg af]
   by_cases he:m=j
   ·subst he
    rw[if_pos (Nat.le_refl _)]at ih
    rw[e,e,ih,cU,ml]
    simp
   ·rw[if_neg af]at ih
    rw[e,e,ih,ho m he]
    split
    ·rename_i hLm
     have cd:¬ IS (F j) (F m):=fun fX=>by
      have:=aX m af hLm j (hc.cM j m af af fX)
      rw[ml]at this;cases this
     exact Xrh (fun i hi mj=>cd (.inl ⟨i,hi,.inr mj⟩)) (fun i hi mj=>cd (.inr (.inr (.inl ⟨i,hi,.inr mj⟩))))
    ·rfl
theorem PV (hc:Ch n S F A) (h:∀ j,j < n→L j=true):∀ m,m≤n→SL L S F m=S m
 | 0,_=>rfl
 | m + 1,hm=>by
  have e:SL L S F (m + 1)=if L m then dj (SL L S F m) (S (m + 1)) (F m) else SL L S F m:=rfl
  rw[e,h m af,PV hc h m af]
  exact BE (hc.bj m af) (hc.dc m af)
theorem PW:∀ m,(∀ j,j < m→L j=false)→SL L S F m=S 0
 | 0,_=>rfl
 | m + 1,h=>by
  have e:SL L S F (m + 1)=if L m then dj (SL L S F m) (S (m + 1)) (F m) else SL L S F m:=rfl
  rw[e,h m af,PW m fun j hj=>h j af]
  simp
theorem IT {listed:Array Bool}:∀ m,(∀ j,j < m→listed.getD j true=true)∨∃ i,i < m∧listed.getD i true=false∧∀ j,j < i→listed.getD j true=true
 | 0=>.inl fun j hj=>by omega
 | m + 1=>by
  rcases IT (listed:=listed) m with h|⟨i,hi,hu,hl⟩
  ·cases hm:listed.getD m true with
   | true =>
    refine .inl fun j hj=>?_
    by_cases e:j=m
    ·rw[e];exact hm
    ·exact h j af
   | false=>exact .inr ⟨m,by omega,hm,h⟩
  ·exact .inr ⟨i,by omega,hu,hl⟩
def cz (listed:Array Bool) (n:Nat):Nat:=((List.range n).filter fun j=>listed.getD j true == false).length
theorem IU {listed:Array Bool} {i:Nat} (hi:listed.getD i true=false):∀ n,i < n→cz listed n=cz (listed.setIfInBounds i true) n + 1
 | 0,h=>by omega
 | n + 1,h=>by
  have cE:i < listed.size:=by
   rcases Nat.lt_or_ge i listed.size with h'|h'
   ·exact h'
   ·simp[Array.getElem?_eq_none h']at hi
  unfold cz
  rw[List.range_succ,List.filter_append,List.filter_append,List.length_append,List.length_append]
  by_cases aI:i=n
  ·subst aI
   have e:(List.range i).filter (fun j=>(listed.setIfInBounds i true).getD j true == false)=(List.range i).filter (fun j=>listed.getD j true == false):=by
    refine List.filter_congr fun j hj=>?_
    rw[getD_set_ne true (by have:=List.mem_range.1 hj;omega)]
   rw[e]
   simp[cE]at hi
   simp[cE,hi]
  ·have ih:=IU hi n af
   unfold cz at ih
   rw[ih]
   have e:(listed.setIfInBounds i true).getD n true=listed.getD n true:=getD_set_ne true aI
   simp only[List.filter_cons,List.filter_nil,e]
   omega
theorem Xvy {listed:Array Bool} {n:Nat} (h:∀ j,j < n→listed.getD j true=true):cz listed n=0:=by
 unfold cz
 rw[List.length_eq_zero_iff,List.filter_eq_nil_iff]
 intro j hj
 rw[h j (List.mem_range.1 hj)];simp
theorem PX {o:Oper} {e:Nat} (h:e ∈ oB o):∃ x ∈ o.after,Region.binds .any x=true∧x.on=e:=by
 unfold oB at h
 obtain ⟨x,hx,rfl⟩:=List.mem_map.1 h
 obtain ⟨h1,h2⟩:=List.mem_filter.1 hx
 exact ⟨x,by simpa using h1,h2,rfl⟩
theorem Xhi {o:Oper} {x:Edge} (h:x ∈ o.after) (hb:Region.binds .any x=true):x.on ∈ oB o:=by
 unfold oB
 exact List.mem_map.2 ⟨x,List.mem_filter.2 ⟨by simpa using h,hb⟩,rfl⟩
theorem Xpf {Q:Exit→Act→World→Prop} (hn:n=ops.size) (kW:IM ops=true) (hc:Ch n S F A) (kV:∀ L':Nat→Bool,(∀ (j:Nat) o,ops[j]?=some o→L' j=true→∀ e ∈ oB o,L' e=true)→∀ j,L' j=true→∀ i ∈ A j,L' i=true)
  (hA:∀ j o,ops[j]?=some o→oy P c ops o (S j) (F j) (S (j + 1))) (oC:∀ g a w,R c g (S n) a w→Q .normal a w) :
  ∀ (f:Nat) (listed:Array Bool) (g:Nat→GM) (a:Act) (w:World),HeadInv .any ops n listed→R c g (SL (fun j=>listed.getD j false) S F n) a w→cz listed n=f→wpAny P .any ops Q f listed a w:=by
 intro f
 induction f with
 | zero =>
  intro listed g a w inv hR hf
  have b8:∀ j,j < n→listed.getD j true=true:=by
   rcases IT (listed:=listed) n with h|⟨i,hi,hu,_⟩
   ·exact h
   ·have:=IU hu n hi;omega
  refine ⟨?_,oC g a w ?_⟩
  ·rw[List.eq_nil_iff_forall_not_mem]
   intro j hj
   obtain ⟨h1,o,h2,_⟩:=mem_ready.1 hj
   have:j < n:=by rw[hn];exact (Array.getElem?_eq_some_iff.1 h2).1
   rw[b8 j this]at h1;cases h1
  ·rw[PV hc (fun j hj=>?_) n (Nat.le_refl _)]at hR
   ·exact hR
   ·have:=b8 j hj
    have cE:j < listed.size:=by rw[inv.size,← hn];exact hj
    simpa [cE] using this
 | succ f ih =>
  intro listed g a w inv hR hf
  rcases IT (listed:=listed) n with h|⟨i,hi,hu,hl⟩
  ·have:=Xvy h;omega
  ·have wS:i < ops.size:=by omega
   have BJ:i ∈ Region.ready .any ops listed:=mem_ready.2 ⟨hu,ops[i],Array.getElem?_eq_getElem wS,fun e he hb=>by
    have h1:=List.all_eq_true.1 kW i (List.mem_range.2 wS)
    rw[Array.getElem?_eq_getElem wS]at h1
    have hlt:e.on < i:=by simpa using List.all_eq_true.1 h1 e.on (Xhi he hb)
    have:=hl e.on hlt
    have cE:e.on < listed.size:=by rw[inv.size];omega
    simpa [cE] using this⟩
   refine ⟨fun h0=>(by rw[h0]at BJ;cases BJ),fun j hj=>?_⟩
   obtain ⟨BK,o,qk,b8⟩:=mem_ready.1 hj
   have mo:j < n:=by rw[hn];exact (Array.getElem?_eq_some_iff.1 qk).1
   have PY:=IU BK n mo
   have ml:listed.getD j false=false:=getD_both BK
   have tL:∀ (j:Nat) o,ops[j]?=some o→listed.getD j false=true→∀ e ∈ oB o,listed.getD e false=true:=fun j o ho hL e he=>by
    obtain ⟨x,h1,h2,rfl⟩:=PX he
    exact inv.closed j o ho hL x h1 h2
   have aX:=kV _ tL
   have vl:∀ i ∈ A j,i < j→listed.getD i false=true:=by
    have h1:=inv.set hj mo
    intro i hi iG
    have fX:=kV (fun k=>(listed.setIfInBounds j true).getD k false) (fun k o' pC hL e he=>by
     obtain ⟨x,h3,h4,rfl⟩:=PX he
     exact h1.closed k o' pC hL x h3 h4) j (by
      have cE:j < listed.size:=by rw[inv.size];omega
      simp[cE]) i hi
    rw[getD_set_ne false af]at fX;exact fX
   have hrT:∀ t ∈ (F j).rt,(SL (fun j=>listed.getD j false) S F n).T t=(S j).T t:=fun t ht=>by
    rw[PR hc mo ml vl (fun m _ hm=>aX m hm) ht n (Nat.le_refl _),Nat.min_eq_right (Nat.le_of_lt mo)]
   have hrH:∀ t ∈ (F j).rb,(SL (fun j=>listed.getD j false) S F n).H t=(S j).H t:=fun t ht=>by
    rw[PT hc mo ml vl (fun m _ hm=>aX m hm) ht n (Nat.le_refl _),Nat.min_eq_right (Nat.le_of_lt mo)]
   have ep:=(hA j o qk).step _ hrT hrH g a w hR (wpAny P .any ops Q f (listed.setIfInBounds j true)) Q fun g' a' w' bg=>by
    refine ih _ g' a' w' (inv.set hj mo) ?_ af
    have cE:j < listed.size:=by rw[inv.size];omega
    have:=PU (L:=fun j=>listed.getD j false) hc ml (fun m _ hm=>aX m hm) (L':=fun k=>(listed.setIfInBounds j true).getD k false) (by simp[cE]) (fun i hi=>getD_set_ne false (fun e=>hi e.symm)) n (Nat.le_refl _)
    rw[if_neg af]at this
    rw[this];exact bg
   unfold wpOp
   rw[qk]
   unfold mg at ep
   show if Region.wanted o (yielded ops a.tmps)=true then _ else _
   split
   ·rename_i hw;rw[if_pos hw]at ep;exact .inl ep
   ·rename_i hw;rw[if_neg hw]at ep;exact ep
end
end Go.Proofs.YtogckmommodmhaaGreatDoor
