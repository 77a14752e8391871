import Derived.Test.YtogckmommodmhaaGreatDoorZw1
import Derived.WalkKit
import Derived.WalkSpells
import Derived.WalkLawsBesides
import Derived.Laws.AppendOwn
import Derived.Below
import Derived.Laws.BytesString
import Derived.Lib.Strings
import Derived.Orders
import Derived.StillTail
namespace Go.Proofs.YtogckmommodmhaaGreatDoor
open Go.RowKit
set_option linter.all false
set_option linter.unusedSimpArgs false
set_option maxRecDepth 100000
inductive AV where
 | any
 | dx (b:Bool) (v:AV)
 | int (k:IntKind) (n:Int)
 | bool (b:Bool)
 | str (l:List UInt8)
 | agg (cs:List AV)
 | aU (vs:List AV)
 | ptr (b off:Nat)
 | xp (cs:List AV) (off:Nat)
 | sl (es b off n c:Nat)
 | isl (n:Nat) (cs:List AV)
 | nils
 | cl (f:FuncId) (caps:List AV)
 | mp (b:Nat)
 | lit (v:Value)
 deriving Inhabited
inductive GM where
 | un
 | ph
 | re (k:Nat)
abbrev Ud (w:World) (k o:Nat):Option Value:=w.cell? ⟨k,o,none⟩
inductive VR (g:Nat→GM) (W:Nat→Prop) (w:World):AV→Value→Prop
 | any (v:Value):VR g W w .any v
 | dx {b:Bool} {x:AV} {v:Value} (h:b=true→VR g W w x v) (h0:b=false→v=undef):VR g W w (.dx b x) v
 | int (k:IntKind) (n:Int):VR g W w (.int k n) (.int k n)
 | bool (b:Bool):VR g W w (.bool b) (.bool b)
 | str (l:List UInt8):VR g W w (.str l) (.string ⟨l.toArray⟩)
 | agg {cs:List AV} {us:Array Value} (hs:us.size=cs.length) (h1:∀ j,j < cs.length→(us.getD j undef).oneCell'=true) (h:∀ j,j < cs.length→VR g W w (cs.getD j .any) (us.getD j undef)):VR g W w (.agg cs) (.agg us)
 | aU {cs:List AV} {us:Array Value} (hs:us.size=cs.length) (h:∀ j,j < cs.length→VR g W w (cs.getD j .any) (us.getD j undef)):VR g W w (.aU cs) (.tuple us)
 | ptr {b off k:Nat} (hg:g b=.re k):VR g W w (.ptr b off) (.pointer (some ⟨k,off,none⟩))
 | xp {cs:List AV} {off k o:Nat} {us:Nat→Value} (hc:∀ j,j < cs.length→Ud w k (o + j)=some (us j)∧¬ W k∧(us j).oneCell'=true) (h:∀ j,j < cs.length→VR g W w (cs.getD j .any) (us j)) :
   VR g W w (.xp cs off) (.pointer (some ⟨k,o + off,none⟩))
 | sl {es b off n c k cap:Nat} {e:TypeId} {cur:Array Value} {fz:Nat × Nat} (hg:g b=.re k) (hn:n≤c) (hc:c≤cap) (hm:cap≤maxLen)
   (hb:w.heap[k]?=some (.cells cur e fz)) (hs:off + cap * es≤cur.size):VR g W w (.sl es b off n c) (.slice (some ⟨k,off,none⟩) n cap)
 | kq {a:Option Addr} {es b off c:Nat} (hg:g b=.ph) (hc:c=0):VR g W w (.sl es b off 0 c) (.slice a 0 0)
 | isl {n cap:Nat} {cs:List AV} {a:Option Addr} {us:Nat→Value} (hn:n≤cap) (hm:cap≤maxLen)
   (hc:∀ j,j < cs.length→∃ k o,a=some ⟨k,o,none⟩∧Ud w k (o + j)=some (us j)∧¬ W k∧(us j).oneCell'=true) (h:∀ j,j < cs.length→VR g W w (cs.getD j .any) (us j)) :
   VR g W w (.isl n cs) (.slice a n cap)
 | nils (a:Option Addr):VR g W w .nils (.slice a 0 0)
 | cl {f:FuncId} {caps:List AV} {us:Array Value} (hs:us.size=caps.length) (h:∀ j,j < caps.length→VR g W w (caps.getD j .any) (us.getD j undef)):VR g W w (.cl f caps) (.func (.func f) #[] us)
 | mp {b k:Nat} (hg:g b=.re k):VR g W w (.mp b) (.map (some k))
 | lit (v:Value):VR g W w (.lit v) v
structure Fr (w w':World) (G:Nat→Prop):Prop where
 os:w'.os=w.os
 tape:w'.tape=w.tape
 output:w'.output=w.output
 size:w.heap.size≤w'.heap.size
 fV:∀ k,k < w.heap.size→¬ G k→w'.heap[k]?=w.heap[k]?
 kind:∀ (k:Nat) (cur:Array Value) (e:TypeId) (fz:Nat × Nat),w.heap[k]?=some (.cells cur e fz)→∃ eM:Array Value,w'.heap[k]?=some (.cells eM e fz)∧eM.size=cur.size
theorem Wx {w:World} {k:Nat} {o:Obj} (h:w.heap[k]?=some o):k < w.heap.size:=(Array.getElem?_eq_some_iff.1 h).1
theorem Iz {w:World} {k o:Nat} {v:Value} (h:Ud w k o=some v):k < w.heap.size:=by
 unfold Ud World.cell? at h
 split at h
 ·rename_i hh;exact Wx hh
 ·cases h
theorem Fr.refl (w:World) (G:Nat→Prop):Fr w w G:=⟨rfl,rfl,rfl,Nat.le_refl _,fun _ _ _=>rfl,fun _ cur _ _ h=>⟨cur,h,rfl⟩⟩
theorem Fr.trans {a b c:World} {G H:Nat→Prop} (h:Fr a b G) (k:Fr b c H) (hH:∀ i,i < a.heap.size→H i→G i):Fr a c G :=
 ⟨k.os.trans h.os,k.tape.trans h.tape,k.output.trans h.output,Nat.le_trans h.size k.size,
  fun i hi hG=>(k.fV i (Nat.lt_of_lt_of_le hi h.size) (fun x=>hG (hH i hi x))).trans (h.fV i hi hG),
  fun i cur e fz hi=>by
   obtain ⟨c1,h1,s1⟩:=h.kind i cur e fz hi
   obtain ⟨c2,h2,s2⟩:=k.kind i c1 e fz h1
   exact ⟨c2,h2,s2.trans s1⟩⟩
theorem Fr.weak {a b:World} {G H:Nat→Prop} (h:Fr a b G) (hH:∀ i,G i→H i):Fr a b H :=
 ⟨h.os,h.tape,h.output,h.size,fun i hi hG=>h.fV i hi (fun x=>hG (hH i x)),h.kind⟩
theorem Fr.drew (w:World) (G:Nat→Prop):Fr w w.drew G:=⟨rfl,rfl,rfl,Nat.le_refl _,fun _ _ _=>rfl,fun _ cur _ _ h=>⟨cur,h,rfl⟩⟩
theorem Fr.alloc (w:World) (o:Obj) (G:Nat→Prop):Fr w (w.alloc o) G :=
 ⟨rfl,rfl,rfl,by simp,fun k hk _=>Below.heap_alloc w o k hk,fun k cur e fz h=>⟨cur,by rw[Below.heap_alloc w o k (Wx h)];exact h,rfl⟩⟩
theorem Fr.cell {w w':World} {G:Nat→Prop} (h:Fr w w' G) {k o:Nat} {v:Value} (hc:Ud w k o=some v) (hG:¬ G k):Ud w' k o=some v:=by
 have:=h.fV k (Iz hc) hG
 rw[← hc]
 unfold Ud World.cell?
 simp only[this]
theorem VR.mono {g g':Nat→GM} {W W':Nat→Prop} {w w':World} {x:AV} {v:Value} (h:VR g W w x v) (hf:Fr w w' W)
  (hW:∀ k,k < w.heap.size→W' k→W k) (hg:∀ b,g b≠.un→g' b=g b):VR g' W' w' x v:=by
 have BB:∀ {b k},g b=.re k→g' b=.re k:=fun {b k} e=>by rw[hg b (by rw[e];intro x;cases x),e]
 induction h with
 | any v=>exact .any v
 | dx h h0 ih=>exact .dx ih h0
 | int k n=>exact .int k n
 | bool b=>exact .bool b
 | str l=>exact .str l
 | agg hs h1 h ih=>exact .agg hs h1 ih
 | aU hs h ih=>exact .aU hs ih
 | ptr e=>exact .ptr (BB e)
 | xp hc h ih=>exact .xp (fun j hj=>⟨hf.cell (hc j hj).1 (hc j hj).2.1,fun x=>(hc j hj).2.1 (hW _ (Iz (hc j hj).1) x),(hc j hj).2.2⟩) ih
 | sl e hn hc hm hb hs =>
  obtain ⟨eM,bH,qc⟩:=hf.kind _ _ _ _ hb
  exact .sl (BB e) hn hc hm bH (by rw[qc];exact hs)
 | kq e hc=>exact .kq (by rw[hg _ (by rw[e];intro x;cases x),e]) hc
 | isl hn hm hc h ih =>
  refine .isl hn hm (fun j hj=>?_) ih
  obtain ⟨k,o,ha,vf,BC,h1⟩:=hc j hj
  exact ⟨k,o,ha,hf.cell vf BC,fun x=>BC (hW k (Iz vf) x),h1⟩
 | nils a=>exact .nils a
 | cl hs h ih=>exact .cl hs ih
 | mp e=>exact .mp (BB e)
 | lit v=>exact .lit v
inductive Bk where
 | free
 | dead
 | cells (cs:List AV)
 | aC (kvs:List (AV × AV)) (dn:Bool)
 | bn (kvs:List (AV × AV)) (bs:List Nat) (ck:Nat)
 | iter (b ck:Nat) (seen:List Nat)
 | dd (ls:List (List AV))
 deriving Inhabited
def Bk.live:Bk→Prop
 | .cells _|.aC _ _|.bn _ _ _|.iter _ _ _|.dd _=>True
 | _=>False
inductive BR (g:Nat→GM) (W:Nat→Prop) (w:World):GM→Bk→Prop
 | free:BR g W w .un .free
 | dead {m:GM} (h:m≠.un):BR g W w m .dead
 | ph:BR g W w .ph (.cells [])
 | cells {k:Nat} {cs:List AV} {cur:Array Value} {e:TypeId} {fz:Nat × Nat} (hb:w.heap[k]?=some (.cells cur e fz)) (hl:cs.length≤cur.size)
   (h1:∀ j,j < cs.length→(cur.getD j undef).oneCell'=true) (hv:∀ j,j < cs.length→VR g W w (cs.getD j .any) (cur.getD j undef)) (hf:fz=(0,0)∨cur.size≤fz.1):BR g W w (.re k) (.cells cs)
 | aC {k:Nat} {kvs:List (AV × AV)} {dn:Bool} {es:Array MapEntry} {clock:Nat} (hb:w.heap[k]?=some (.map es clock)) (hs:es.size=kvs.length)
   (hk:∀ j,j < kvs.length→VR g W w (kvs.getD j (.any,.any)).1 (es.getD j default).key) (hv:∀ j,j < kvs.length→VR g W w (kvs.getD j (.any,.any)).2 (es.getD j default).val)
   (hc:∀ j,j < es.size→(es.getD j default).born < clock) (ha:∀ i j,i < j→j < es.size→(es.getD i default).born < (es.getD j default).born)
   (hd:dn=true→(∀ j,j < es.size→(es.getD j default).born=j)∧clock=es.size):BR g W w (.re k) (.aC kvs dn)
 | bn {k:Nat} {kvs:List (AV × AV)} {bs:List Nat} {es:Array MapEntry} {clock:Nat} (hb:w.heap[k]?=some (.map es clock)) (hs:es.size=kvs.length)
   (hk:∀ j,j < kvs.length→VR g W w (kvs.getD j (.any,.any)).1 (es.getD j default).key) (hv:∀ j,j < kvs.length→VR g W w (kvs.getD j (.any,.any)).2 (es.getD j default).val)
   (hc:∀ j,j < es.size→(es.getD j default).born < clock) (ha:∀ i j,i < j→j < es.size→(es.getD i default).born < (es.getD j default).born)
   (hd:es.toList.map (·.born)=bs):BR g W w (.re k) (.bn kvs bs clock)
 | iter {k m b ck:Nat} {seen:List Nat} (hb:w.heap[k]?=some (.mapIter (some m) ck seen.toArray ck)) (hg:g b=.re m):BR g W w (.re k) (.iter b ck seen)
 | dd {m:GM} {ls BD:List (List AV)} (hp:BD.Perm ls) (h:BR g W w m (.cells BD.flatten)):BR g W w m (.dd ls)
theorem BR.mono {g g':Nat→GM} {W W':Nat→Prop} {w w':World} {m:GM} {x:Bk} (h:BR g W w m x) (hf:Fr w w' W)
  (hW:∀ k,k < w.heap.size→W' k→W k) (hg:∀ b,g b≠.un→g' b=g b) (hk:∀ k,m=.re k→x.live→w'.heap[k]?=w.heap[k]?):BR g' W' w' m x:=by
 induction h with
 | dd hp h ih=>exact .dd hp (ih fun k h1 h2=>hk k h1 trivial)
 | free=>exact .free
 | dead h=>exact .dead h
 | ph=>exact .ph
 | cells hb hl h1 hv hz=>exact .cells ((hk _ rfl trivial).trans hb) hl h1 (fun j hj=>(hv j hj).mono hf hW hg) hz
 | aC hb hs j7 hv hc ha hd=>exact .aC ((hk _ rfl trivial).trans hb) hs (fun j hj=>(j7 j hj).mono hf hW hg) (fun j hj=>(hv j hj).mono hf hW hg) hc ha hd
 | bn hb hs j7 hv hc ha hd=>exact .bn ((hk _ rfl trivial).trans hb) hs (fun j hj=>(j7 j hj).mono hf hW hg) (fun j hj=>(hv j hj).mono hf hW hg) hc ha hd
 | iter hb kL=>exact .iter ((hk _ rfl trivial).trans hb) (by rw[hg _ (by rw[kL];intro x;cases x)];exact kL)
structure FS where
 T:Nat→AV
 H:Nat→Bk
def FS.put (s:FS) (d:Nat) (v:AV):FS:=⟨fun i=>if d=i then v else s.T i,s.H⟩
def FS.aK (s:FS) (b:Nat) (x:Bk):FS:=⟨s.T,fun i=>if b=i then x else s.H i⟩
theorem FS.dh (s:FS) (d:Nat) (v:AV) (i:Nat):(s.put d v).T i=if d=i then v else s.T i:=rfl
theorem FS.qd (s:FS) (d:Nat) (v:AV) (b:Nat):(s.put d v).H b=s.H b:=rfl
theorem FS.bb (s:FS) (b:Nat) (x:Bk) (i:Nat):(s.aK b x).H i=if b=i then x else s.H i:=rfl
structure St where
 t:List (Nat × AV)
 h:List (Nat × Bk)
 n:Nat
def look:List (Nat × AV)→Nat→AV
 | [],_=>.any
 | (i,v)::l,j=>bif i == j then v else look l j
def Qc:List (Nat × Bk)→Nat→Nat→Bk
 | [],n,j=>if j < n then .dead else .free
 | (i,v)::l,n,j=>bif i == j then v else Qc l n j
def St.fs (s:St):FS:=⟨look s.t,Qc s.h s.n⟩
def St.put (s:St) (d:Nat) (v:AV):St:=⟨(d,v)::s.t,s.h,s.n⟩
def St.aK (s:St) (b:Nat) (x:Bk):St:=⟨s.t,(b,x)::s.h,s.n⟩
def St.nw (s:St) (x:Bk):St:=⟨s.t,(s.n,x)::s.h,s.n + 1⟩
theorem Yw (i:Nat) (v:AV) (l:List (Nat × AV)) (j:Nat):look ((i,v)::l) j=if i=j then v else look l j:=by
 show (bif i == j then v else look l j)=_
 by_cases h:i=j
 ·subst h;simp
 ·have:(i == j)=false:=by simpa using h
  rw[this,if_neg h];rfl
theorem Qd (i:Nat) (v:Bk) (l:List (Nat × Bk)) (n j:Nat):Qc ((i,v)::l) n j=if i=j then v else Qc l n j:=by
 show (bif i == j then v else Qc l n j)=_
 by_cases h:i=j
 ·subst h;simp
 ·have:(i == j)=false:=by simpa using h
  rw[this,if_neg h];rfl
theorem St.bS (s:St) (d:Nat) (v:AV):(s.put d v).fs=s.fs.put d v:=by
 simp only[St.fs,St.put,FS.put];congr 1;funext i;rw[Yw]
theorem St.cL (s:St) (b:Nat) (x:Bk):(s.aK b x).fs=s.fs.aK b x:=by
 simp only[St.fs,St.aK,FS.aK];congr 1;funext i;rw[Qd]
theorem Wd (h:List (Nat × Bk)) (n j:Nat) (hj:j≠n):Qc h (n + 1) j=Qc h n j:=by
 induction h with
 | nil =>
  unfold Qc
  by_cases h:j < n
  ·rw[if_pos h,if_pos ae]
  ·rw[if_neg h,if_neg ae]
 | cons p l ih=>obtain ⟨i,v⟩:=p;rw[Qd,Qd,ih]
theorem St.gW (s:St) (x:Bk):(s.nw x).fs=s.fs.aK s.n x:=by
 simp only[St.fs,St.nw,FS.aK];congr 1;funext i;rw[Qd]
 by_cases h:s.n=i
 ·rw[if_pos h,if_pos h]
 ·rw[if_neg h,if_neg h,Wd _ _ _ fun e=>h e.symm]
structure Cx where
 N:Nat
 w0:World
 G:Nat→Prop
 X:Nat→Prop
 gl:Nat→AV
 gh:List (Nat × GM)
def Qn (c:Cx) (g:Nat→GM) (s:FS) (k:Nat):Prop:=c.X k∨∃ b,(s.H b).live∧g b=.re k
structure R (c:Cx) (g:Nat→GM) (s:FS) (a:Act) (w:World):Prop where
 size:a.tmps.size=c.N
 dK:a.defers=[]
 t:∀ i,VR g (Qn c g s) w (s.T i) (a.tmps.getD i undef)
 gl:∀ i,VR (fun _=>.un) (Qn c g s) w (c.gl i) (.pointer (some ⟨i,0,none⟩))
 h:∀ b,BR g (Qn c g s) w (g b) (s.H b)
 inj:∀ b b' k,(s.H b).live→(s.H b').live→g b=.re k→g b'=.re k→b=b'
 old:∀ b k,(s.H b).live→g b=.re k→c.w0.heap.size≤k∨c.G k
 fr:Fr c.w0 w c.G
 xs:∀ k,c.X k→k < c.w0.heap.size∧¬ c.G k
 hU:∀ p ∈ c.gh,g p.1=p.2∧p.2≠.un
theorem BR.fW {g:Nat→GM} {W:Nat→Prop} {w:World} {x:Bk} (h:BR g W w .un x) (hl:x.live):False:=by
 cases h with
 | free=>exact hl
 | dead h=>exact hl
 | dd hp h=>cases h
theorem BR.lt {g:Nat→GM} {W:Nat→Prop} {w:World} {k:Nat} {x:Bk} (h:BR g W w (.re k) x) (hl:x.live):k < w.heap.size:=by
 cases h with
 | dd hp h=>cases h with|cells hb=>exact Wx hb
 | dead h=>exact hl.elim
 | cells hb=>exact Wx hb
 | aC hb=>exact Wx hb
 | bn hb=>exact Wx hb
 | iter hb=>exact Wx hb
section
variable {c:Cx} {g:Nat→GM} {s:FS} {a:Act} {w w':World}
theorem R.put (hR:R c g s a w) {d:Nat} (hd:d < c.N) {x:AV} {v:Value} (h:VR g (Qn c g s) w x v):R c g (s.put d x) (a.put (some d) v) w:=by
 have hW:Qn c g (s.put d x)=Qn c g s:=rfl
 refine ⟨by simpa [Act.put] using hR.size,by simpa [Act.put] using hR.dK,fun i=>?_,hR.gl,hR.h,hR.inj,hR.old,hR.fr,hR.xs,hR.hU⟩
 rw[hW,FS.dh]
 simp only[Act.put]
 by_cases hi:d=i
 ·subst hi
  rw[if_pos rfl]
  have:(a.tmps.setIfInBounds d v).getD d undef=v:=by simp[Array.getD,hR.size,hd]
  rw[this];exact h
 ·rw[if_neg hi]
  have:(a.tmps.setIfInBounds d v).getD i undef=a.tmps.getD i undef:=by
   simp only[Array.getD_eq_getD_getElem?,Array.getElem?_setIfInBounds]
   rw[if_neg hi]
  rw[this];exact hR.t i
theorem R.td (hR:R c g s a w) (v:Value):R c g s (a.put none v) w:=hR
theorem R.grow (hR:R c g s a w) (hf:Fr w w' (fun _=>False)):R c g s a w':=by
 have l9:Fr w w' (Qn c g s):=hf.weak fun _ h=>h.elim
 refine ⟨hR.size,hR.dK,fun i=>(hR.t i).mono l9 (fun _ _ h=>h) (fun _ _=>rfl),fun i=>(hR.gl i).mono l9 (fun _ _ h=>h) (fun _ _=>rfl),fun b=>?_,hR.inj,hR.old,hR.fr.trans hf fun _ _ h=>h.elim,hR.xs,hR.hU⟩
 refine (hR.h b).mono l9 (fun _ _ h=>h) (fun _ _=>rfl) fun k hk hl=>hf.fV k ?_ id
 exact BR.lt (hk ▸ hR.h b) hl
theorem E9 {b:Nat}:∀ k,Qn c g (s.aK b .dead) k→Qn c g s k:=by
 rintro k (h|⟨b',hl,hg⟩)
 ·exact .inl h
 ·rw[FS.bb]at hl
  split at hl
  ·exact hl.elim
  ·exact .inr ⟨b',hl,hg⟩
theorem R.kill (hR:R c g s a w) {b:Nat} (hb:g b≠.un):R c g (s.aK b .dead) a w:=by
 have hW:=fun k (_:k < w.heap.size)=>E9 (c:=c) (g:=g) (s:=s) (b:=b) k
 have hf:=Fr.refl w (Qn c g s)
 have hl:∀ b',((s.aK b .dead).H b').live→(s.H b').live:=fun b' h=>by
  rw[FS.bb]at h;split at h
  ·exact h.elim
  ·exact h
 refine ⟨hR.size,hR.dK,fun i=>(hR.t i).mono hf hW (fun _ _=>rfl),fun i=>(hR.gl i).mono hf hW (fun _ _=>rfl),fun b'=>?_,fun x y k hx hy=>hR.inj x y k (hl x hx) (hl y hy),fun x k hx=>hR.old x k (hl x hx),hR.fr,hR.xs,hR.hU⟩
 rw[FS.bb]
 split
 ·rename_i e;subst e;exact .dead hb
 ·exact (hR.h b').mono hf hW (fun _ _=>rfl) fun _ _ _=>rfl
theorem R.setBlock (hR:R c g s a w) {b k:Nat} {x:Bk} (hb:g b=.re k) (aO:(s.H b).live) (hx:x.live) (hf:Fr w w' (fun i=>i=k)) (hn:BR g (Qn c g s) w' (.re k) x):R c g (s.aK b x) a w':=by
 have cR:∀ b',((s.aK b x).H b').live ↔ (s.H b').live:=fun b'=>by
  rw[FS.bb];split
  ·rename_i e;subst e;exact ⟨fun _=>aO,fun _=>hx⟩
  ·exact Iff.rfl
 have hW:Qn c g (s.aK b x)=Qn c g s:=by
  funext i;simp only[Qn,cR]
 have hk:Qn c g s k:=.inr ⟨b,aO,hb⟩
 have l9:Fr w w' (Qn c g s):=hf.weak fun i e=>e ▸ hk
 have hlt:k < w.heap.size:=BR.lt (hb ▸ hR.h b) aO
 refine ⟨hR.size,hR.dK,fun i=>?_,fun i=>?_,fun b'=>?_,fun x y k hx hy=>hR.inj x y k ((cR x).1 hx) ((cR y).1 hy),fun x k hx=>hR.old x k ((cR x).1 hx),hR.fr.trans hf fun i hi e=>?_,hR.xs,hR.hU⟩
 ·rw[hW];exact (hR.t i).mono l9 (fun _ _ h=>h) (fun _ _=>rfl)
 ·rw[hW];exact (hR.gl i).mono l9 (fun _ _ h=>h) (fun _ _=>rfl)
 ·rw[hW,FS.bb]
  split
  ·rename_i e;subst e;rw[hb];exact hn
  ·rename_i e
   refine (hR.h b').mono l9 (fun _ _ h=>h) (fun _ _=>rfl) fun i hi hl=>hf.fV i ?_ fun ek=>?_
   ·exact BR.lt (hi ▸ hR.h b') hl
   ·exact e (hR.inj b b' k aO hl hb (ek ▸ hi))
 ·subst e
  rcases hR.old b i aO hb with h|h
  ·omega
  ·exact h
def Za (g:Nat→GM) (b:Nat) (m:GM):Nat→GM:=fun i=>if i=b then m else g i
theorem zg {g:Nat→GM} {b:Nat} {m:GM} (hb:g b=.un):∀ i,g i≠.un→Za g b m i=g i:=fun i h=>by
 unfold Za;split
 ·rename_i e;subst e;exact (h hb).elim
 ·rfl
theorem Fa (hR:R c g s a w) {b:Nat} {m:GM} (hb:g b=.un):∀ p ∈ c.gh,Za g b m p.1=p.2∧p.2≠.un:=fun p hp=>by
 obtain ⟨h1,h2⟩:=hR.hU p hp
 exact ⟨by rw[zg hb p.1 (by rw[h1];exact h2),h1],h2⟩
theorem R.name (hR:R c g s a w) {b k:Nat} {x:Bk} (bq:s.H b=.free) (hx:x.live) (bV:∀ b',(s.H b').live→g b'≠.re k) (hX:¬ c.X k) (hold:c.w0.heap.size≤k∨c.G k)
  (BE:∀ i,VR g (fun j=>Qn c g s j∨j=k) w (s.T i) (a.tmps.getD i undef)) (Y9:∀ i,VR (fun _=>.un) (fun j=>Qn c g s j∨j=k) w (c.gl i) (.pointer (some ⟨i,0,none⟩))) (pn:∀ b',BR g (fun j=>Qn c g s j∨j=k) w (g b') (s.H b'))
  (hn:BR (Za g b (.re k)) (fun j=>Qn c g s j∨j=k) w (.re k) x):R c (Za g b (.re k)) (s.aK b x) a w:=by
 have ju:g b=.un:=by
  have:=hR.h b;rw[bq]at this;generalize g b=m at this;cases this;rfl
 have hg:=zg (m:=.re k) ju
 have dy:Za g b (.re k) b=.re k:=by simp[Za]
 have bY:∀ b',(s.H b').live→b'≠b:=fun b' h e=>by subst e;rw[bq]at h;exact h
 have en:∀ b',b'≠b→Za g b (.re k) b'=g b':=fun b' h=>by simp[Za,h]
 have hl:∀ b',((s.aK b x).H b').live ↔ b'=b∨(s.H b').live:=fun b'=>by
  rw[FS.bb];split
  ·rename_i e;subst e;exact ⟨fun _=>.inl rfl,fun _=>hx⟩
  ·rename_i e;exact ⟨.inr,fun h=>h.resolve_left fun e'=>e e'.symm⟩
 have hW:Qn c (Za g b (.re k)) (s.aK b x)=fun j=>Qn c g s j∨j=k:=by
  funext j
  apply propext
  constructor
  ·rintro (h|⟨b',h1,h2⟩)
   ·exact .inl (.inl h)
   ·rcases (hl b').1 h1 with rfl|h
    ·rw[dy]at h2;cases h2;exact .inr rfl
    ·rw[en b' (bY b' h)]at h2;exact .inl (.inr ⟨b',h,h2⟩)
  ·rintro ((h|⟨b',h1,h2⟩)|rfl)
   ·exact .inl h
   ·exact .inr ⟨b',(hl b').2 (.inr h1),by rw[en b' (bY b' h1)];exact h2⟩
   ·exact .inr ⟨b,(hl b).2 (.inl rfl),dy⟩
 have hf:=Fr.refl w (fun j=>Qn c g s j∨j=k)
 refine ⟨hR.size,hR.dK,fun i=>?_,fun i=>?_,fun b'=>?_,fun p q m hp hq h1 h2=>?_,fun p m hp h1=>?_,hR.fr,hR.xs,Fa hR ju⟩
 ·rw[hW];exact (BE i).mono hf (fun _ _ h=>h) hg
 ·rw[hW];exact Y9 i
 ·rw[hW,FS.bb]
  split
  ·rename_i e;subst e;rw[dy];exact hn
  ·rename_i e
   rw[en b' fun e'=>e e'.symm]
   exact (pn b').mono hf (fun _ _ h=>h) hg fun _ _ _=>rfl
 ·rcases (hl p).1 hp with rfl|wO<;>rcases (hl q).1 hq with rfl|cD
  ·rfl
  ·rw[dy]at h1;cases h1;rw[en q (bY q cD)]at h2;exact (bV q cD h2).elim
  ·rw[dy]at h2;cases h2;rw[en p (bY p wO)]at h1;exact (bV p wO h1).elim
  ·rw[en p (bY p wO)]at h1;rw[en q (bY q cD)]at h2;exact hR.inj p q m wO cD h1 h2
 ·rcases (hl p).1 hp with rfl|wO
  ·rw[dy]at h1;cases h1;exact hold
  ·rw[en p (bY p wO)]at h1;exact hR.old p m wO h1
theorem R.new (hR:R c g s a w) {b:Nat} {x:Bk} (o:Obj) (bq:s.H b=.free) (hx:x.live) (hn:∀ g',(∀ i,g i≠.un→g' i=g i)→BR g' (fun j=>Qn c g s j∨j=w.heap.size) (w.alloc o) (.re w.heap.size) x) :
  R c (Za g b (.re w.heap.size)) (s.aK b x) a (w.alloc o):=by
 have ju:g b=.un:=by
  have:=hR.h b;rw[bq]at this;generalize g b=m at this;cases this;rfl
 have bf:=hR.grow (Fr.alloc w o _)
 have iq:∀ k,Qn c g s k→k < w.heap.size:=by
  rintro k (h|⟨b',hl,hg⟩)
  ·have:=(hR.xs k h).1;have:=hR.fr.size;omega
  ·exact BR.lt (hg ▸ hR.h b') hl
 have hw:∀ k,k < w.heap.size→(Qn c g s k∨k=w.heap.size)→Qn c g s k:=fun k hk h=>h.resolve_right ae
 refine bf.name (k:=w.heap.size) bq hx (fun b' hl e=>?_) (fun e=>?_) (.inl hR.fr.size) (fun i=>?_) (fun i=>?_) (fun b'=>?_) (hn _ (zg ju))
 ·have:=BR.lt (e ▸ hR.h b') hl;omega
 ·have:=(hR.xs _ e).1;have:=hR.fr.size;omega
 ·exact (hR.t i).mono (Fr.alloc w o _) hw fun _ _=>rfl
 ·exact (hR.gl i).mono (Fr.alloc w o _) hw fun _ _=>rfl
 ·exact (hR.h b').mono (Fr.alloc w o _) hw (fun _ _=>rfl) fun k hk hl=>Below.heap_alloc w o k (BR.lt (hk ▸ hR.h b') hl)
theorem R.move (hR:R c g s a w) {b b':Nat} (aO:(s.H b).live) (bq:s.H b'=.free):R c (Za g b' (g b)) ((s.aK b .dead).aK b' (s.H b)) a w:=by
 have ju:g b'=.un:=by
  have:=hR.h b';rw[bq]at this;generalize g b'=m at this;cases this;rfl
 have bY:b'≠b:=fun e=>by subst e;rw[bq]at aO;exact aO
 have hg:=zg (m:=g b) ju
 have dy:Za g b' (g b) b'=g b:=by simp[Za]
 have en:∀ i,i≠b'→Za g b' (g b) i=g i:=fun i h=>by simp[Za,h]
 have hH:∀ i,((s.aK b .dead).aK b' (s.H b)).H i=if b'=i then s.H b else if b=i then .dead else s.H i:=fun i=>by rw[FS.bb,FS.bb]
 have hl:∀ i,(((s.aK b .dead).aK b' (s.H b)).H i).live→(i=b'∨(i≠b∧i≠b'∧(s.H i).live)):=fun i h=>by
  rw[hH]at h
  split at h
  ·rename_i e;exact .inl e.symm
  ·split at h
   ·exact h.elim
   ·rename_i e1 e2;exact .inr ⟨fun e=>e2 e.symm,fun e=>e1 e.symm,h⟩
 have hW:∀ k,Qn c (Za g b' (g b)) ((s.aK b .dead).aK b' (s.H b)) k→Qn c g s k:=by
  rintro k (h|⟨i,h1,h2⟩)
  ·exact .inl h
  ·rcases hl i h1 with rfl|⟨h3,h4,h5⟩
   ·rw[dy]at h2;exact .inr ⟨b,aO,h2⟩
   ·rw[en i h4]at h2;exact .inr ⟨i,h5,h2⟩
 have hf:=Fr.refl w (Qn c g s)
 refine ⟨hR.size,hR.dK,fun i=>(hR.t i).mono hf (fun k _=>hW k) hg,fun i=>(hR.gl i).mono hf (fun k _=>hW k) (fun _ _=>rfl),fun i=>?_,fun p q m hp hq h1 h2=>?_,fun p m hp h1=>?_,hR.fr,hR.xs,Fa hR ju⟩
 ·rw[hH]
  split
  ·rename_i e;subst e;rw[dy];exact (hR.h b).mono hf (fun k _=>hW k) hg fun _ _ _=>rfl
  ·rename_i e1
   rw[en i fun e=>e1 e.symm]
   split
   ·rename_i e;subst e
    refine .dead fun e=>?_
    have:=hR.h b;rw[e]at this;exact this.fW aO
   ·exact (hR.h i).mono hf (fun k _=>hW k) hg fun _ _ _=>rfl
 ·rcases hl p hp with rfl|⟨h3,h4,h5⟩<;>rcases hl q hq with rfl|⟨h6,h7,h8⟩
  ·rfl
  ·rw[dy]at h1;rw[en q h7]at h2;exact (h6 (hR.inj q b m h8 aO h2 h1)).elim
  ·rw[dy]at h2;rw[en p h4]at h1;exact (h3 (hR.inj p b m h5 aO h1 h2)).elim
  ·rw[en p h4]at h1;rw[en q h7]at h2;exact hR.inj p q m h5 h8 h1 h2
 ·rcases hl p hp with rfl|⟨h3,h4,h5⟩
  ·rw[dy]at h1;exact hR.old b m aO h1
  ·rw[en p h4]at h1;exact hR.old p m h5 h1
end
inductive SK where
 | int (k:IntKind)
 | bool
 | str
 | ref
inductive TY where
 | sc (k:SK)
 | ag (n:Nat)
def bB:AV→Int
 | .int _ n=>n
 | _=>0
def eN:AV→Bool
 | .bool b=>b
 | _=>false
def cM:AV→List UInt8
 | .str l=>l
 | _=>[]
def b6 (k:IntKind):AV→Prop
 | .int k' _=>k'=k
 | _=>False
def fM:AV→Prop
 | .int _ _=>True
 | _=>False
def ff:AV→Prop
 | .bool _=>True
 | _=>False
def fE:AV→Prop
 | .str _=>True
 | _=>False
def one:AV→Prop
 | .int _ _|.bool _|.str _|.ptr _ _|.xp _ _|.sl _ _ _ _ _|.isl _ _|.nils|.cl _ _|.mp _=>True
 | .lit v=>v.oneCell'=true
 | _=>False
def wP:SK→AV→AV
 | .int k,v=>.int k (bB v)
 | .bool,v=>.bool (eN v)
 | .str,v=>.str (cM v)
 | .ref,v=>v
def tg:SK→AV→Prop
 | .int k,v=>b6 k v
 | .bool,v=>ff v
 | .str,v=>fE v
 | .ref,_=>True
def wr:TY→List AV→Nat→AV
 | .sc k,cs,off=>wP k (cs.getD off .any)
 | .ag n,cs,off=>.agg ((cs.drop off).take n)
def j8:TY→List AV→Nat→Prop
 | .sc k,cs,off=>off < cs.length∧tg k (cs.getD off .any)
 | .ag n,cs,off=>off + n≤cs.length
def wQ:BinOp→Int→Int→Int
 | .add,x,y=>x + y
 | .sub,x,y=>x - y
 | .mul,x,y=>x * y
 | _,_,_=>0
def rT:BinOp→Int→Int→Bool
 | .eql,x,y=>x == y
 | .neq,x,y=>x != y
 | .lss,x,y=>decide (x < y)
 | .leq,x,y=>decide (x≤y)
 | .gtr,x,y=>decide (y < x)
 | .geq,x,y=>decide (y≤x)
 | _,_,_=>false
def zh:BinOp→IntKind→Int→Int→Int
 | .quo,k,x,y=>k.wrap (x.tdiv y)
 | .rem,_,x,y=>x.tmod y
 | _,_,_,_=>0
def zj:BinOp→IntKind→Int→Int→Int
 | .shl,k,x,y=>k.wrap (x * 2 ^ min y.toNat k.bits)
 | .shr,k,x,y=>x.fdiv (2 ^ min y.toNat k.bits)
 | _,_,_,_=>0
def toB (cs:List AV):List UInt8:=cs.map fun v=>UInt8.ofNat (bB v).toNat
inductive Q1 where
 | mv|not|pick|ar (o:BinOp) (k:IntKind)|dv (o:BinOp) (k:IntKind)|bt (o:BinOp) (k:IntKind)|sh (o:BinOp) (k:IntKind)|cm (o:BinOp) (k:IntKind)
 | cB (ne:Bool)|cS (ne:Bool)|cat|cv (k:IntKind)|zn (ty:TY) (off:Nat)|vg (es len:Nat) (ty:TY)|zo|jv (off:Nat)|ft (len es:Nat)|fu (es:Nat)
 | ld (ty:TY)|nZ|fX|n7|zq (lo hi:Bool)|n8 (es:Nat) (lo hi:Bool)|ext (i:Nat)|fY|wR (zero:List AV) (parts:List (Nat × Nat))|zr (f:FuncId)|mn (k:IntKind)|mx (k:IntKind)
 | eT (ne:Bool)|mZ
def Kc:AV→List AV
 | .agg cs=>cs
 | v=>[v]
def Yp (cs:List AV) (off:Nat) (vs:List AV):List AV:=cs.take off++vs++cs.drop (off + vs.length)
def ti:TY→List AV→Nat→AV→List AV
 | .sc _,cs,off,v=>cs.set off v
 | .ag _,cs,off,.agg vs=>Yp cs off vs
 | .ag _,cs,_,_=>cs
def Zv (cs:List AV):List (Nat × Nat)→List AV→List AV
 | (off,_)::ps,.agg vs::r=>Zv (Yp cs off vs) ps r
 | (off,_)::ps,v::r=>Zv (cs.set off v) ps r
 | _,_=>cs
def Yv (n:Nat):List (Nat × Nat)→List AV→Prop
 | (off,m)::ps,.agg vs::r=>vs.length=m∧off + m≤n∧Yv n ps r
 | (off,m)::ps,v::r=>one v∧m=1∧off < n∧Yv n ps r
 | [],[]=>True
 | _,_=>False
def Xo (lo:Bool):List AV→Int
 | x::_=>bif lo then bB x else 0
 | []=>0
def Zw (lo hi:Bool) (n:Nat):List AV→Int
 | [_,y]=>bif lo && hi then bB y else n
 | [x]=>bif hi then bB x else n
 | _=>n
def lN (lo hi:Bool):List AV→Prop
 | [x,y]=>lo=true∧hi=true∧b6 .i64 x∧b6 .i64 y
 | [x]=>b6 .i64 x∧(lo != hi)=true
 | []=>lo=false∧hi=false
 | _=>False
def qv:Q1→List AV→Bk→AV
 | .mv,[x],_=>x
 | .not,[x],_=>.bool (!eN x)
 | .pick,[c,x,y],_=>.bool (bif eN c then eN x else eN y)
 | .ar o k,[x,y],_=>.int k (k.wrap (wQ o (bB x) (bB y)))
 | .dv o k,[x,y],_=>.int k (zh o k (bB x) (bB y))
 | .bt o k,[x,y],_=>.int k (bits o k (bB x) (bB y))
 | .sh o k,[x,y],_=>.int k (zj o k (bB x) (bB y))
 | .cm o _,[x,y],_=>.bool (rT o (bB x) (bB y))
 | .cB ne,[x,y],_=>.bool (ne != (eN x == eN y))
 | .cS ne,[x,y],_=>.bool (ne != (cM x == cM y))
 | .cat,[x,y],_=>.str (cM x++cM y)
 | .cv k,[x],_=>.int k (k.wrap (bB x))
 | .zn ty off,[.agg cs],_=>wr ty cs off
 | .vg es _ ty,[.agg cs,i],_=>wr ty cs ((bB i).toNat * es)
 | .zo,[x,i],_=>.int .u8 ((cM x).getD (bB i).toNat 0).toNat
 | .jv o,[.ptr b off],_=>.ptr b (off + o)
 | .jv o,[.xp cs off],_=>.xp cs (off + o)
 | .ft _ es,[.ptr b off,i],_=>.ptr b (off + (bB i).toNat * es)
 | .ft _ es,[.xp cs off,i],_=>.xp cs (off + (bB i).toNat * es)
 | .fu es,[.sl _ b off _ _,i],_=>.ptr b (off + (bB i).toNat * es)
 | .fu es,[.isl _ cs,i],_=>.xp cs ((bB i).toNat * es)
 | .ld ty,[.ptr _ off],.cells cs=>wr ty cs off
 | .ld ty,[.xp cs off],_=>wr ty cs off
 | .nZ,[x],_=>.int .i64 (cM x).length
 | .fX,[.isl n _],_=>.int .i64 n
 | .fX,[.sl _ _ _ n _],_=>.int .i64 n
 | .fX,[.nils],_=>.int .i64 0
 | .n7,[.mp _],.aC kvs _=>.int .i64 kvs.length
 | .zq lo hi,x::r,_=>.str (((cM x).drop (Xo lo r).toNat).take ((Zw lo hi (cM x).length r).toNat - (Xo lo r).toNat))
 | .n8 es lo hi,.isl n cs::r,_=>.isl ((Zw lo hi n r).toNat - (Xo lo r).toNat) ((cs.drop ((Xo lo r).toNat * es)).take (((Zw lo hi n r).toNat - (Xo lo r).toNat) * es))
 | .n8 es lo hi,.sl _ b off n c::r,_=>if Xo lo r < c then .sl es b (off + (Xo lo r).toNat * es) ((Zw lo hi n r).toNat - (Xo lo r).toNat) (c - (Xo lo r).toNat) else .isl 0 []
 | .ext i,[.aU vs],_=>vs.getD i .any
 | .fY,[x],_=>x
 | .wR z ps,vs,_=>.agg (Zv z ps vs)
 | .zr f,vs,_=>.cl f vs
 | .mn k,[x,y],_=>.int k (if bB y < bB x then bB y else bB x)
 | .mx k,[x,y],_=>.int k (if bB y > bB x then bB y else bB x)
 | .eT ne,[.lit (.pointer none)],_=>.bool (!ne)
 | .eT ne,[.ptr _ _],_=>.bool ne
 | .eT ne,[.xp _ _],_=>.bool ne
 | .mZ,[.sl _ _ off n _],.cells cs=>.str (toB ((cs.drop off).take n))
 | .mZ,[.isl n cs],_=>.str (toB (cs.take n))
 | .mZ,[.nils],_=>.str []
 | _,_,_=>.any
def qp:Q1→List AV→Bk→Prop
 | .mv,[_],_=>True
 | .not,[x],_=>ff x
 | .pick,[c,x,y],_=>ff c∧(eN c=true→ff x)∧(eN c=false→ff y)
 | .ar _ k,[x,y],_=>b6 k x∧b6 k y
 | .dv _ k,[x,y],_=>b6 k x∧b6 k y∧bB y≠0
 | .bt _ k,[x,y],_=>b6 k x∧b6 k y
 | .sh _ k,[x,y],_=>b6 k x∧fM y∧0≤bB y
 | .cm _ k,[x,y],_=>b6 k x∧b6 k y
 | .cB _,[x,y],_=>ff x∧ff y
 | .cS _,[x,y],_=>fE x∧fE y
 | .cat,[x,y],_=>fE x∧fE y∧(cM x).length + (cM y).length≤9223372036854775807
 | .cv _,[x],_=>fM x
 | .zn ty off,[.agg cs],_=>j8 ty cs off
 | .vg es len ty,[.agg cs,i],_=>fM i∧0≤bB i∧bB i < len∧j8 ty cs ((bB i).toNat * es)
 | .zo,[x,i],_=>fE x∧fM i∧0≤bB i∧bB i < (cM x).length
 | .jv _,[.ptr _ _],_=>True
 | .jv _,[.xp _ _],_=>True
 | .ft len _,[.ptr _ _,i],_=>fM i∧0≤bB i∧bB i < len
 | .ft len _,[.xp _ _,i],_=>fM i∧0≤bB i∧bB i < len
 | .fu es,[.sl es' _ _ n _,i],_=>es'=es∧fM i∧0≤bB i∧bB i < n
 | .fu es,[.isl n cs,i],_=>fM i∧0≤bB i∧bB i < n∧(bB i).toNat * es < cs.length
 | .ld ty,[.ptr _ off],.cells cs=>j8 ty cs off
 | .ld ty,[.xp cs off],_=>j8 ty cs off
 | .nZ,[x],_=>fE x
 | .fX,[.isl _ _],_=>True
 | .fX,[.sl _ _ _ _ _],_=>True
 | .fX,[.nils],_=>True
 | .n7,[.mp _],.aC _ _=>True
 | .zq lo hi,x::r,_=>fE x∧lN lo hi r∧0≤Xo lo r∧Xo lo r≤Zw lo hi (cM x).length r∧Zw lo hi (cM x).length r≤(cM x).length
 | .n8 es lo hi,.isl n cs::r,_=>lN lo hi r∧0≤Xo lo r∧Xo lo r≤Zw lo hi n r∧Zw lo hi n r≤n∧cs.length≤n * es
 | .n8 es lo hi,.sl es' _ _ n c::r,_=>es'=es∧lN lo hi r∧0≤Xo lo r∧Xo lo r≤Zw lo hi n r∧Zw lo hi n r≤c
 | .ext i,[.aU vs],_=>i < vs.length
 | .fY,[.ptr _ _],_=>True
 | .fY,[.xp _ _],_=>True
 | .wR z ps,vs,_=>Yv z.length ps vs
 | .zr _,_,_=>True
 | .mn k,[x,y],_=>b6 k x∧b6 k y
 | .mx k,[x,y],_=>b6 k x∧b6 k y
 | .eT _,[.lit (.pointer none)],_=>True
 | .eT _,[.ptr _ _],_=>True
 | .eT _,[.xp _ _],_=>True
 | .mZ,[.sl es _ off n _],.cells cs=>es=1∧off + n≤cs.length∧∀ v ∈ (cs.drop off).take n,b6 .u8 v
 | .mZ,[.isl n cs],_=>n≤cs.length∧∀ v ∈ cs.take n,b6 .u8 v
 | .mZ,[.nils],_=>True
 | _,_,_=>False
inductive TV where
 | t (i:Nat)
 | c (v:AV)
 | gl (i:Nat)
def fg:Value→AV
 | .int k n=>.int k n
 | .bool b=>.bool b
 | .string s=>.str s.data.toList
 | .slice none 0 0=>.nils
 | v=>.lit v
def tj:Value→AV
 | .agg cs=>if cs.all (·.oneCell') then .agg (cs.toList.map fg) else .lit (.agg cs)
 | v=>fg v
def aS:Operand→TV
 | .tmp t=>.t t
 | .const v=>.c (tj v)
 | .global i=>.gl i
 | .func f=>.c (.cl f [])
def aZ (gl:Nat→AV) (s:FS):TV→AV
 | .t i=>s.T i
 | .c v=>v
 | .gl i=>gl i
def IA (P:Program) (t:TypeId):Option SK :=
 match P.underlying t with
 | some (.int k)=>some (.int k)
 | some .bool=>some .bool
 | some .string=>some .str
 | some (.pointer _)|some (.slice _)|some (.map _ _)|some (.func _ _ _)=>some .ref
 | _=>none
def Zh (P:Program) (t:TypeId):Option Nat:=(P.info? t).map (·.size)
def kM (P:Program) (t:TypeId):Option TY :=
 match P.underlying t with
 | some (.struct _)|some (.array _ _)=>(Zh P t).map .ag
 | _=>if Zh P t=some 1 then (IA P t).map .sc else none
def zt (P:Program) (fs:Array Field):List Nat→Option (List (Nat × Nat))
 | []=>some []
 | i::r=>match fs[i]? with
  | some f=>match Zh P f.type,zt P fs r with
   | some m,some l=>some ((f.offset,m)::l)
   | _,_=>none
  | none=>none
def IB (op:BinOp) (k:IntKind):Q1:=match op with
 | .add|.sub|.mul=>.ar op k
 | .quo|.rem=>.dv op k
 | .and|.or|.xor|.andNot=>.bt op k
 | .shl|.shr=>.sh op k
 | _=>.cm op k
def IC (op:BinOp):Option Q1:=match op with
 | .eql=>some (.cB false)
 | .neq=>some (.cB true)
 | _=>none
def ID (op:BinOp):Option Q1:=match op with
 | .add=>some .cat
 | .eql=>some (.cS false)
 | .neq=>some (.cS true)
 | _=>none
def kN (op:BinOp) (y:Operand):Option Bool:=match y with
 | .const (.pointer none)=>(match op with
  | .eql=>some false
  | .neq=>some true
  | _=>none)
 | _=>none
def Fb (P:Program) (op:BinOp) (t:TypeId) (x y:Operand):Option (Q1 × List Operand) :=
 match P.underlying t with
 | some (.int k)=>some (IB op k,[x,y])
 | some .bool=>(IC op).map fun q=>(q,[x,y])
 | some .string=>(ID op).map fun q=>(q,[x,y])
 | some (.pointer _)=>(kN op y).map fun b=>(.eT b,[x])
 | _=>none
def tm (P:Program) (o:Oper):Option (Q1 × List Operand) :=
 match o.op with
 | .move x=>some (.mv,[x])
 | .assign x=>some (.mv,[x])
 | .pick c a b=>some (.pick,[c,a,b])
 | .unOp .not _ x=>some (.not,[x])
 | .binOp op t x y _=>Fb P op t x y
 | .convert s d x=>match P.underlying s,P.underlying d with
  | some (.int _),some (.int k)=>some (.cv k,[x])
  | some (.slice e),some .string=>match P.underlying e with
   | some (.int .u8)=>some (.mZ,[x])
   | _=>none
  | _,_=>none
 | .field t x f=>match P.underlying t with
  | some (.struct fs)=>match fs[f]? with
   | some fd=>(kM P fd.type).map fun ty=>(.zn ty fd.offset,[x])
   | none=>none
  | _=>none
 | .index t x i=>match P.underlying t with
  | some (.array n e)=>match kM P e,Zh P e with
   | some ty,some es=>some (.vg es n ty,[x,i])
   | _,_=>none
  | some .string=>some (.zo,[x,i])
  | _=>none
 | .fieldAddr t x f=>match P.underlying t with
  | some (.struct fs)=>match fs[f]? with
   | some fd=>match Zh P fd.type with
    | some (_ + 1)=>some (.jv fd.offset,[x])
    | _=>none
   | none=>none
  | _=>none
 | .indexAddr t x i=>match P.underlying t with
  | some (.array n e)=>(Zh P e).map fun es=>(.ft n es,[x,i])
  | some (.slice e)=>(Zh P e).map fun es=>(.fu es,[x,i])
  | _=>none
 | .load t x=>(kM P t).map fun ty=>(.ld ty,[x])
 | .call ⟨.builtin .len,⟨[x]⟩,⟨[t]⟩⟩=>match P.underlying t with
  | some .string=>some (.nZ,[x])
  | some (.slice _)=>some (.fX,[x])
  | some (.map _ _)=>some (.n7,[x])
  | _=>none
 | .call ⟨.builtin .min,⟨[x,y]⟩,_⟩=>match P.underlying o.type with
  | some (.int k)=>some (.mn k,[x,y])
  | _=>none
 | .call ⟨.builtin .max,⟨[x,y]⟩,_⟩=>match P.underlying o.type with
  | some (.int k)=>some (.mx k,[x,y])
  | _=>none
 | .slice t x lo hi none=>match P.underlying t with
  | some .string=>some (.zq lo.isSome hi.isSome,x::(lo.toList++hi.toList))
  | some (.slice e)=>(Zh P e).map fun es=>(.n8 es lo.isSome hi.isSome,x::(lo.toList++hi.toList))
  | _=>none
 | .extract x i=>some (.ext i,[x])
 | .nilCheck x=>some (.fY,[x])
 | .build t parts=>match (P.info? t).bind (·.zero),P.underlying t with
  | some (.agg z),some (.struct fs)=>if z.all (·.oneCell') && fs.all (fun f=>(Zh P f.type).isSome) then (zt P fs (parts.toList.map (·.1))).map fun ps=>(.wR (z.toList.map fg) ps,parts.toList.map (·.2)) else none
  | some (.agg z),some (.array _ e)=>if z.all (·.oneCell') then (Zh P e).map fun m=>(.wR (z.toList.map fg) (parts.toList.map fun p=>(p.1 * m,m)),parts.toList.map (·.2)) else none
  | _,_=>none
 | .makeFunc (.func f) ⟨[]⟩ caps=>some (.zr f,caps.toList)
 | _=>none
section
variable {P:Program} {g:Nat→GM} {W:Nat→Prop} {w:World}
theorem VR.b6 {k:IntKind} {x:AV} {v:Value} (h:VR g W w x v) (hk:b6 k x):v=.int k (bB x):=by
 cases h<;>simp_all [Proofs.YtogckmommodmhaaGreatDoor.b6,bB]
theorem VR.fM {x:AV} {v:Value} (h:VR g W w x v) (hk:fM x):∃ k,v=.int k (bB x):=by
 cases h<;>simp_all [Proofs.YtogckmommodmhaaGreatDoor.fM,bB]
theorem VR.ff {x:AV} {v:Value} (h:VR g W w x v) (hk:ff x):v=.bool (eN x):=by
 cases h<;>simp_all [Proofs.YtogckmommodmhaaGreatDoor.ff,eN]
theorem VR.fE {x:AV} {v:Value} (h:VR g W w x v) (hk:fE x):v=.string ⟨(cM x).toArray⟩:=by
 cases h<;>simp_all [Proofs.YtogckmommodmhaaGreatDoor.fE,cM]
theorem VR.one {x:AV} {v:Value} (h:VR g W w x v) (hk:one x):v.oneCell'=true:=by
 cases h<;>simp_all [Proofs.YtogckmommodmhaaGreatDoor.one,Value.oneCell']
theorem VR.tg {k:SK} {x:AV} {v:Value} (h:VR g W w x v) (hk:tg k x):VR g W w (wP k x) v:=by
 cases k with
 | int k=>rw[h.b6 hk];exact .int _ _
 | bool=>rw[h.ff hk];exact .bool _
 | str=>rw[h.fE hk];exact .str _
 | ref=>exact h
theorem Fc (v:Value):VR g W w (fg v) v:=by
 unfold fg
 split
 ·exact .int _ _
 ·exact .bool _
 ·rename_i s
  have:Value.string s=.string ⟨s.data.toList.toArray⟩:=by cases s;simp
  rw[this];exact .str _
 ·exact .nils _
 ·exact .lit _
theorem Fe (v:Value):VR g W w (tj v) v:=by
 unfold tj
 split
 ·rename_i cs
  split
  ·rename_i h
   refine .agg au (fun j hj=>?_) fun j hj=>?_
   ·have cV:j < cs.size:=by simpa using hj
    have:=(Array.all_eq_true.1 h) j cV
    simpa [Array.getD,cV] using this
   ·have cV:j < cs.size:=by simpa using hj
    have e:cs.getD j undef=cs[j]:=by simp[Array.getD,cV]
    have e':(cs.toList.map fg).getD j .any=fg cs[j]:=by simp[cV]
    rw[e,e'];exact Fc _
  ·exact .lit _
 ·exact Fc _
theorem R.ev {c:Cx} {s:FS} {a:Act} (hR:R c g s a w) (x:Operand):VR g (Qn c g s) w (aZ c.gl s (aS x)) (a.eval x):=by
 cases x with
 | tmp t=>exact hR.t t
 | const v=>exact Fe v
 | global i=>exact (hR.gl i).mono (Fr.refl _ _) (fun _ _ h=>h) (fun _ h=>absurd rfl h)
 | func f=>exact .cl rfl (fun j hj=>absurd hj au)
end
def bO (g:Nat→GM) (W:Nat→Prop) (w:World):List AV→List Value→Prop
 | [],[]=>True
 | x::xs,v::vs=>VR g W w x v∧bO g W w xs vs
 | _,_=>False
def Ju:List AV→Option Nat
 | .ptr b _::_=>some b
 | .sl _ b _ _ _::_=>some b
 | .mp b::_=>some b
 | _=>none
def qe (s:FS) (l:List AV):Bk :=
 match Ju l with
 | some b=>s.H b
 | none=>.free
def BF (g:Nat→GM) (W:Nat→Prop) (w:World) (l:List AV) (x:Bk):Prop:=∀ b,Ju l=some b→BR g W w (g b) x
section
variable {P:Program} {g:Nat→GM} {W:Nat→Prop} {w:World}
theorem bO.m6 {vs:List Value} (h:bO g W w [] vs):vs=[]:=by cases vs<;>simp_all [bO]
theorem bO.cons_inv {x:AV} {xs:List AV} {vs:List Value} (h:bO g W w (x::xs) vs):∃ v r,vs=v::r∧VR g W w x v∧bO g W w xs r:=by
 cases vs with
 | nil=>simp[bO]at h
 | cons v r=>exact ⟨v,r,rfl,h.1,h.2⟩
theorem bO.kO {xs:List AV} (h:bO g W w xs []):xs=[]:=by cases xs<;>simp_all [bO]
theorem bO.dm {xs:List AV} {v:Value} {r:List Value} (h:bO g W w xs (v::r)):∃ x ys,xs=x::ys∧VR g W w x v∧bO g W w ys r:=by
 cases xs with
 | nil=>simp[bO]at h
 | cons x ys=>exact ⟨x,ys,rfl,h.1,h.2⟩
theorem bO.one {xs:List AV} {v:Value} (h:bO g W w xs [v]):∃ x,xs=[x]∧VR g W w x v:=by
 obtain ⟨x,ys,rfl,h1,h2⟩:=h.dm
 obtain rfl:=h2.kO
 exact ⟨x,rfl,h1⟩
theorem bO.two {xs:List AV} {v u:Value} (h:bO g W w xs [v,u]):∃ x y,xs=[x,y]∧VR g W w x v∧VR g W w y u:=by
 obtain ⟨x,ys,rfl,h1,h2⟩:=h.dm
 obtain ⟨y,rfl,h3⟩:=h2.one
 exact ⟨x,y,rfl,h1,h3⟩
theorem bO.three {xs:List AV} {v u t:Value} (h:bO g W w xs [v,u,t]):∃ x y z,xs=[x,y,z]∧VR g W w x v∧VR g W w y u∧VR g W w z t:=by
 obtain ⟨x,ys,rfl,h1,h2⟩:=h.dm
 obtain ⟨y,z,rfl,h3⟩:=h2.two
 exact ⟨x,y,z,rfl,h1,h3⟩
theorem bO.length:∀ {xs:List AV} {vs:List Value},bO g W w xs vs→xs.length=vs.length
 | [],[],_=>rfl
 | _::xs,_::vs,h=>by simp[bO.length h.2]
 | [],_::_,h=>h.elim
 | _::_,[],h=>h.elim
theorem bO.get:∀ {xs:List AV} {vs:List Value} (_:bO g W w xs vs) (j:Nat) (_:j < xs.length),VR g W w (xs.getD j .any) (vs.getD j undef)
 | x::xs,v::vs,h,0,_=>h.1
 | x::xs,v::vs,h,j + 1,hj=>by
  have:=bO.get h.2 j (by simpa using hj)
  simpa using this
 | [],_,_,_,hj=>absurd hj au
 | _::_,[],h,_,_=>h.elim
theorem BG {cs:List AV} {j:Nat} (h:j < cs.length):cs.getD j .any=cs[j]:=by simp[List.getD,h]
theorem Ph {k:SK} {cs:List AV} {us:Nat→Value} (hv:∀ j,j < cs.length→VR g W w (cs.getD j .any) (us j)) {off:Nat} (h:j8 (.sc k) cs off):VR g W w (wr (.sc k) cs off) (us off):=by
 exact (hv off h.1).tg h.2
theorem Pj {n:Nat} {cs:List AV} {us:Nat→Value} (h1:∀ j,j < cs.length→(us j).oneCell'=true) (hv:∀ j,j < cs.length→VR g W w (cs.getD j .any) (us j)) {off:Nat} (h:j8 (.ag n) cs off) (vs:Array Value) (hn:vs.size=n) (fv:∀ j,j < n→vs.getD j undef=us (off + j)):VR g W w (wr (.ag n) cs off) (.agg vs):=by
 have hl:((cs.drop off).take n).length=n:=by simp only[j8]at h;simp;omega
 have h':off + n≤cs.length:=h
 refine .agg (by rw[hl,hn]) (fun j hj=>?_) fun j hj=>?_
 ·rw[hl]at hj;rw[fv j hj];exact h1 _ ae
 ·rw[hl]at hj
  rw[fv j hj]
  have e:((cs.drop off).take n).getD j .any=cs.getD (off + j) .any:=by
   simp only[List.getD,List.getElem?_take,List.getElem?_drop,if_pos hj]
  rw[e]
  exact hv _ ae
theorem add_lit (k o j:Nat):(⟨k,o,none⟩:Addr).add j=⟨k,o + j,none⟩:=by unfold Addr.add;split<;>simp_all
theorem Ff {t:TypeId} {n:Nat} (h:kM P t=some (.ag n)):Zh P t=some n∧((∃ fs,P.underlying t=some (.struct fs))∨∃ m e,P.underlying t=some (.array m e)):=by
 unfold kM at h
 split at h
 ·rename_i fs hu
  cases hs:Zh P t<;>rw[hs]at h<;>simp at h
  exact ⟨by rw[h],.inl ⟨_,hu⟩⟩
 ·rename_i m e hu
  cases hs:Zh P t<;>rw[hs]at h<;>simp at h
  exact ⟨by rw[h],.inr ⟨_,_,hu⟩⟩
 ·split at h
  ·cases hs:IA P t<;>rw[hs]at h<;>simp at h
  ·cases h
theorem Pm {t:TypeId} {k:SK} (h:kM P t=some (.sc k)):Zh P t=some 1∧∃ d,P.underlying t=some d∧(∀ fs,d≠.struct fs)∧(∀ m e,d≠.array m e):=by
 unfold kM at h
 split at h
 ·cases hs:Zh P t<;>rw[hs]at h<;>simp at h
 ·cases hs:Zh P t<;>rw[hs]at h<;>simp at h
 ·rename_i h1 h2
  split at h
  ·rename_i h3
   refine ⟨h3,?_⟩
   cases hu:P.underlying t with
   | none=>unfold IA at h;rw[hu]at h;simp at h
   | some d=>exact ⟨d,rfl,fun fs e=>h1 fs (by rw[hu,e]),fun m e e'=>h2 m e (by rw[hu,e'])⟩
  ·cases h
theorem Pn {t:TypeId} {n:Nat} (h:kM P t=some (.ag n)):(isAgg t).run P w=.ok true w:=by
 obtain ⟨_,⟨fs,hu⟩|⟨m,e,hu⟩⟩:=Ff h<;>simp[isAgg,run_underlying hu]
theorem Po {t:TypeId} {k:SK} (h:kM P t=some (.sc k)):(isAgg t).run P w=.ok false w:=by
 obtain ⟨_,d,hu,h1,h2⟩:=Pm h
 simp only[isAgg,Sem.run_bind,run_underlying hu,Result.andThen_ok]
 cases d<;>first|rfl|exact absurd rfl (h1 _)|exact absurd rfl (h2 _ _)
theorem Jt {t:TypeId} {n:Nat} (h:Zh P t=some n):(sizeOf t).run P w=.ok n w:=by
 unfold Zh at h
 cases hi:P.info? t with
 | none=>rw[hi]at h;simp at h
 | some i=>rw[hi]at h;simp at h;simp[sizeOf,typeInfo,hi,h]
theorem BH {t:TypeId} {ty:TY} (ht:kM P t=some ty) {k o:Nat} {cs:List AV} {us:Nat→Value} (hc:∀ j,j < cs.length→Ud w k (o + j)=some (us j)) (h1:∀ j,j < cs.length→(us j).oneCell'=true)
  (hv:∀ j,j < cs.length→VR g W w (cs.getD j .any) (us j)) {off:Nat} (h:j8 ty cs off) :
  ∃ v,(Instr.loadAt t (.pointer (some ⟨k,o + off,none⟩))).run P w=.ok v w∧VR g W w (wr ty cs off) v:=by
 cases ty with
 | sc q =>
  refine ⟨us off,?_,Ph hv h⟩
  have h0:w.cell? ⟨k,o + off,none⟩=some (us off):=hc off h.1
  simp[Instr.loadAt,Instr.sureAddr,loadVar,Po ht,h0]
 | ag n =>
  obtain ⟨hs,_⟩:=Ff ht
  have h':off + n≤cs.length:=h
  refine ⟨.agg ((List.range n).map fun j=>us (off + j)).toArray,?_,Pj h1 hv h _ au fun j hj=>by simp[Array.getD,hj]⟩
  have hl:=run_loadCells (P:=P) w ⟨k,o + off,none⟩ n (fun j=>us (off + j)) (fun j hj=>by rw[add_lit,Nat.add_assoc];exact hc _ ae)
  simp[Instr.loadAt,Instr.sureAddr,loadVar,Pn ht,Jt hs,hl]
theorem Pp {t:TypeId} {ty:TY} (ht:kM P t=some ty) {vs:Array Value} {cs:List AV} (hs:vs.size=cs.length) (h1:∀ j,j < cs.length→(vs.getD j undef).oneCell'=true)
  (hv:∀ j,j < cs.length→VR g W w (cs.getD j .any) (vs.getD j undef)) {off:Nat} (h:j8 ty cs off):∃ v,(part t vs off).run P w=.ok v w∧VR g W w (wr ty cs off) v:=by
 cases ty with
 | sc q =>
  refine ⟨vs.getD off undef,?_,Ph hv h⟩
  have h0:off < vs.size:=by rw[hs];exact h.1
  simp[part,Po ht,h0,Array.getD]
 | ag m =>
  obtain ⟨qc,_⟩:=Ff ht
  have h':off + m≤cs.length:=h
  refine ⟨.agg (vs.extract off (off + m)),?_,Pj h1 hv h _ (by simp;omega) fun j hj=>?_⟩
  ·simp[part,Pn ht,Jt qc]
  ·have:off + j < vs.size:=by omega
   simp only[Array.getD,Array.size_extract,this,dif_pos]
   rw[dif_pos ae]
   simp
theorem IE {m:GM} {cs:List AV} (h:BR g W w m (.cells cs)) (bY:0 < cs.length):∃ (k:Nat) (us:Nat→Value),m=.re k∧(∀ j,j < cs.length→Ud w k (0 + j)=some (us j))∧(∀ j,j < cs.length→(us j).oneCell'=true)∧∀ j,j < cs.length→VR g W w (cs.getD j .any) (us j):=by
 cases h with
 | ph=>simp at bY
 | cells hb hl h1 hv hf =>
  rename_i k cur e fz
  refine ⟨k,fun j=>cur.getD j undef,rfl,fun j hj=>?_,h1,hv⟩
  have cV:j < cur.size:=by omega
  have:=cell_of_row w k (0 + j) cur e fz hb
  unfold Ud
  rw[this]
  simp[Array.getD,cV]
theorem Pq {ty:TY} {cs:List AV} {off:Nat} (h:j8 ty cs off) (bY:¬ 0 < cs.length):ty=.ag 0∧cs=[]∧off=0:=by
 have hl:cs.length=0:=by omega
 cases ty with
 | sc k=>have:=h.1;omega
 | ag n=>have h':off + n≤cs.length:=h;exact ⟨by congr;omega,List.eq_nil_of_length_eq_zero hl,by omega⟩
end
section
variable {P:Program} {g:Nat→GM} {W:Nat→Prop} {w:World}
theorem Fg {op:BinOp} {t:TypeId} {x y:Operand} {a b:Value} (h:a.oneCell'=true) (h2:a≠.nilIface):(eqGuard op t x y a b).run P w=.ok () w:=by
 cases op<;>cases a<;>simp_all [eqGuard,Value.oneCell']<;>rfl
theorem Kn {op:BinOp} {t:TypeId} {x y:Operand} (k:IntKind) (n:Int) (b:Value):(eqGuard op t x y (.int k n) b).run P w=.ok () w:=Fg rfl (by simp)
theorem Pr {op:BinOp} {t:TypeId} {x y:Operand} (n:Bool) (b:Value):(eqGuard op t x y (.bool n) b).run P w=.ok () w:=Fg rfl (by simp)
theorem IF {op:BinOp} {t:TypeId} {x y:Operand} (n:ByteArray) (b:Value):(eqGuard op t x y (.string n) b).run P w=.ok () w:=Fg rfl (by simp)
theorem Ps {op:BinOp} {t:TypeId} {x y:Operand} (n:Option Addr) (b:Value):(eqGuard op t x y (.pointer n) b).run P w=.ok () w:=Fg rfl (by simp)
theorem IG {op:BinOp} (h:op=.add∨op=.sub∨op=.mul) (t:TypeId) (k:IntKind) (m n:Int):binOp op t (.int k m) (.int k n)=pure (.int k (k.wrap (wQ op m n))):=by
 rcases h with rfl|rfl|rfl<;>simp[binOp,Op.intArith,wQ]
theorem Pt {op:BinOp} (h:op=.quo∨op=.rem) (t:TypeId) (k:IntKind) (m n:Int) (h0:n≠0):binOp op t (.int k m) (.int k n)=pure (.int k (zh op k m n)):=by
 rcases h with rfl|rfl<;>simp[binOp,Op.intDiv,zh,h0]
theorem Fh {op:BinOp} (h:op=.and∨op=.or∨op=.xor∨op=.andNot) (t:TypeId) (k:IntKind) (m n:Int):binOp op t (.int k m) (.int k n)=pure (.int k (bits op k m n)):=by
 rcases h with rfl|rfl|rfl|rfl<;>simp[binOp,Op.intBits,bits]
theorem Pu {op:BinOp} (h:op=.shl∨op=.shr) (t:TypeId) (k j:IntKind) (m n:Int) (h0:0≤n):binOp op t (.int k m) (.int j n)=pure (.int k (zj op k m n)):=by
 have h1:¬ n < 0:=by omega
 rcases h with rfl|rfl<;>simp[binOp,Op.shift,zj,h1]
theorem ZA {op:BinOp} (h:op=.eql∨op=.neq∨op=.lss∨op=.leq∨op=.gtr∨op=.geq) (t:TypeId) (k:IntKind) (m n:Int):binOp op t (.int k m) (.int k n)=pure (.bool (rT op m n)):=by
 rcases h with rfl|rfl|rfl|rfl|rfl|rfl<;>simp[binOp,Op.intCmp,rT]
theorem ZB {t e:TypeId} (hu:P.underlying t=some (.pointer e)) (p:Option Addr):(binOp .eql t (.pointer p) (.pointer none)).run P w=.ok (.bool p.isNone) w:=by
 rw[run_eql_pointer_nil w t p (by rw[hu];simp[Program.pointee,hu])]
theorem ZC {t e:TypeId} (hu:P.underlying t=some (.pointer e)) (p:Option Addr):(binOp .neq t (.pointer p) (.pointer none)).run P w=.ok (.bool (!p.isNone)) w:=by
 rw[run_neq_pointer_nil w t p (by rw[hu];simp[Program.pointee,hu])]
theorem Pv (l:List UInt8):(⟨l.toArray⟩:ByteArray).toList=l:=by rw[Lib.toList_data]
theorem ZD (l m:List UInt8):(⟨l.toArray⟩:ByteArray)++⟨m.toArray⟩=⟨(l++m).toArray⟩:=by
 apply ByteArray.ext
 simp[ByteArray.data_append]
theorem Fi (l:List UInt8):(⟨l.toArray⟩:ByteArray).size=l.length:=by simp[ByteArray.size]
theorem ZE {op:BinOp} {t:TypeId} {x y:Operand} {q:Q1} {xs:List Operand} (aH:Fb P op t x y=some (q,xs)) (ρ:Operand→Value) {iu:List AV} (ha:bO g W w iu (xs.map ρ)) {m7:Bk}
  (hp:qp q iu m7) (hy:∀ v,y=.const v→ρ y=v):∃ v,(do eqGuard op t x y (ρ x) (ρ y);binOp op t (ρ x) (ρ y):Sem Value).run P w=.ok v w∧VR g W w (qv q iu m7) v:=by
 unfold Fb at aH
 split at aH
 ·rename_i k hu
  have two:∀ q',some (q',[x,y])=some (q,xs)→∃ a b,iu=[a,b]∧q=q'∧VR g W w a (ρ x)∧VR g W w b (ρ y):=by
   intro q' h
   simp at h
   obtain ⟨rfl,rfl⟩:=h
   obtain ⟨a,b,rfl,h1,h2⟩:=bO.two (by simpa using ha)
   exact ⟨a,b,rfl,rfl,h1,h2⟩
  unfold IB at aH
  split at aH
  all_goals
   obtain ⟨a,b,rfl,rfl,h1,h2⟩:=two _ aH
   simp only[qp]at hp
  ·rw[h1.b6 hp.1,h2.b6 hp.2];exact ⟨_,by simp only[Sem.run_bind,Kn,Result.andThen_ok,IG (.inl rfl)];rfl,.int _ _⟩
  ·rw[h1.b6 hp.1,h2.b6 hp.2];exact ⟨_,by simp only[Sem.run_bind,Kn,Result.andThen_ok,IG (.inr (.inl rfl))];rfl,.int _ _⟩
  ·rw[h1.b6 hp.1,h2.b6 hp.2];exact ⟨_,by simp only[Sem.run_bind,Kn,Result.andThen_ok,IG (.inr (.inr rfl))];rfl,.int _ _⟩
  ·rw[h1.b6 hp.1,h2.b6 hp.2.1];exact ⟨_,by simp only[Sem.run_bind,Kn,Result.andThen_ok,Pt (.inl rfl) _ _ _ _ hp.2.2];rfl,.int _ _⟩
  ·rw[h1.b6 hp.1,h2.b6 hp.2.1];exact ⟨_,by simp only[Sem.run_bind,Kn,Result.andThen_ok,Pt (.inr rfl) _ _ _ _ hp.2.2];rfl,.int _ _⟩
  ·rw[h1.b6 hp.1,h2.b6 hp.2];exact ⟨_,by simp only[Sem.run_bind,Kn,Result.andThen_ok,Fh (.inl rfl)];rfl,.int _ _⟩
  ·rw[h1.b6 hp.1,h2.b6 hp.2];exact ⟨_,by simp only[Sem.run_bind,Kn,Result.andThen_ok,Fh (.inr (.inl rfl))];rfl,.int _ _⟩
  ·rw[h1.b6 hp.1,h2.b6 hp.2];exact ⟨_,by simp only[Sem.run_bind,Kn,Result.andThen_ok,Fh (.inr (.inr (.inl rfl)))];rfl,.int _ _⟩
  ·rw[h1.b6 hp.1,h2.b6 hp.2];exact ⟨_,by simp only[Sem.run_bind,Kn,Result.andThen_ok,Fh (.inr (.inr (.inr rfl)))];rfl,.int _ _⟩
  ·obtain ⟨j,hj⟩:=h2.fM hp.2.1
   rw[h1.b6 hp.1,hj];exact ⟨_,by simp only[Sem.run_bind,Kn,Result.andThen_ok,Pu (.inl rfl) _ _ _ _ _ hp.2.2];rfl,.int _ _⟩
  ·obtain ⟨j,hj⟩:=h2.fM hp.2.1
   rw[h1.b6 hp.1,hj];exact ⟨_,by simp only[Sem.run_bind,Kn,Result.andThen_ok,Pu (.inr rfl) _ _ _ _ _ hp.2.2];rfl,.int _ _⟩
  ·rw[h1.b6 hp.1,h2.b6 hp.2]
   have bl:op=.eql∨op=.neq∨op=.lss∨op=.leq∨op=.gtr∨op=.geq:=by cases op<;>simp_all
   exact ⟨_,by simp only[Sem.run_bind,Kn,Result.andThen_ok,ZA bl];rfl,.bool _⟩
 ·rename_i hu
  unfold IC at aH
  split at aH
  ·simp at aH
   obtain ⟨rfl,rfl⟩:=aH
   obtain ⟨a,b,rfl,h1,h2⟩:=bO.two (by simpa using ha)
   rw[h1.ff hp.1,h2.ff hp.2]
   exact ⟨.bool (eN a == eN b),by simp only[Sem.run_bind,Pr,Result.andThen_ok,run_eql_bool _ _ _ _ hu],by simp only[qv,Bool.false_bne];exact .bool _⟩
  ·simp at aH
   obtain ⟨rfl,rfl⟩:=aH
   obtain ⟨a,b,rfl,h1,h2⟩:=bO.two (by simpa using ha)
   rw[h1.ff hp.1,h2.ff hp.2]
   exact ⟨.bool (!(eN a == eN b)),by simp only[Sem.run_bind,Pr,Result.andThen_ok,run_neq_bool _ _ _ _ hu],by simp only[qv,Bool.true_bne];exact .bool _⟩
  ·simp at aH
 ·rename_i hu
  unfold ID at aH
  split at aH
  ·simp at aH
   obtain ⟨rfl,rfl⟩:=aH
   obtain ⟨a,b,rfl,h1,h2⟩:=bO.two (by simpa using ha)
   rw[h1.fE hp.1,h2.fE hp.2.1]
   have hlen:=hp.2.2
   refine ⟨.string ⟨(cM a++cM b).toArray⟩,?_,.str _⟩
   simp only[Sem.run_bind,IF,Result.andThen_ok,binOp_string_add,Op.stringOp,Fi,ZD]
   rw[if_neg (by simp[IntKind.max,IntKind.signed,IntKind.bits];omega)]
   rfl
  ·simp at aH
   obtain ⟨rfl,rfl⟩:=aH
   obtain ⟨a,b,rfl,h1,h2⟩:=bO.two (by simpa using ha)
   rw[h1.fE hp.1,h2.fE hp.2]
   exact ⟨.bool (cM a == cM b),by simp only[Sem.run_bind,IF,Result.andThen_ok,binOp_string_eql,Pv,Sem.run_pure],by simp only[qv,Bool.false_bne];exact .bool _⟩
  ·simp at aH
   obtain ⟨rfl,rfl⟩:=aH
   obtain ⟨a,b,rfl,h1,h2⟩:=bO.two (by simpa using ha)
   rw[h1.fE hp.1,h2.fE hp.2]
   exact ⟨.bool (!(cM a == cM b)),by simp only[Sem.run_bind,IF,Result.andThen_ok,binOp_string_neq,Pv,Sem.run_pure],by simp only[qv,Bool.true_bne];exact .bool _⟩
  ·simp at aH
 ·rename_i e hu
  have ptr:∀ {a:AV},VR g W w a (ρ x)→(qp (.eT false) [a] m7∨qp (.eT true) [a] m7)→∃ p:Option Addr,ρ x=.pointer p∧∀ ne,qv (.eT ne) [a] m7=.bool (if p.isNone then !ne else ne):=by
   intro a h1 hq
   generalize ρ x=rx at h1
   cases h1 with
   | ptr=>exact ⟨_,rfl,fun ne=>by simp[qv]⟩
   | xp=>exact ⟨_,rfl,fun ne=>by simp[qv]⟩
   | lit =>
    cases rx<;>simp only[qp,or_self]at hq
    rename_i p
    cases p<;>simp only[qp,or_self]at hq
    exact ⟨_,rfl,fun ne=>by simp[qv]⟩
   | _=>simp[qp]at hq
  unfold kN at aH
  split at aH
  rotate_left
  ·simp at aH
  split at aH
  ·simp at aH
   obtain ⟨rfl,rfl⟩:=aH
   obtain ⟨a,rfl,h1⟩:=bO.one (by simpa using ha)
   obtain ⟨p,e1,e2⟩:=ptr h1 (.inl hp)
   refine ⟨.bool p.isNone,?_,by rw[e2];cases p<;>exact .bool _⟩
   rw[hy _ rfl,e1]
   simp only[Sem.run_bind,Ps,Result.andThen_ok,ZB hu]
  ·simp at aH
   obtain ⟨rfl,rfl⟩:=aH
   obtain ⟨a,rfl,h1⟩:=bO.one (by simpa using ha)
   obtain ⟨p,e1,e2⟩:=ptr h1 (.inr hp)
   refine ⟨.bool (!p.isNone),?_,by rw[e2];cases p<;>exact .bool _⟩
   rw[hy _ rfl,e1]
   simp only[Sem.run_bind,Ps,Result.andThen_ok,ZC hu]
  ·simp at aH
 ·cases aH
theorem Zo {s:Sem Value} {v:Value} {w':World} (h:s.run P w=.ok v w'):(do pure (.value (← s)):Sem Next).run P w=.ok (.value v) w':=by simp[h]
theorem ZF {lo hi:Bool} {r:List AV} (hb:lN lo hi r) {vs:List Value} (hv:bO g W w r vs) :
  (lo=true→∃ k,vs[0]?=some (.int k (Xo lo r)))∧(lo=false→Xo lo r=0)∧(∀ n,hi=true→∃ k,vs[if lo then 1 else 0]?=some (.int k (Zw lo hi n r)))∧(∀ n,hi=false→Zw lo hi n r=n):=by
 match r,hb with
 | [],⟨h1,h2⟩=>subst h1;subst h2;exact ⟨(fun h=>by cases h),fun _=>rfl,(fun _ h=>by cases h),fun _ _=>rfl⟩
 | [x],⟨h1,h2⟩ =>
  obtain ⟨v,r',rfl,h3,h4⟩:=hv.cons_inv
  obtain rfl:=h4.m6
  have e:=h3.b6 h1
  cases lo<;>cases hi<;>simp at h2<;>simp[Xo,Zw,e]
 | [x,y],⟨h1,h2,h3,h4⟩ =>
  subst h1;subst h2
  obtain ⟨v,r',rfl,h5,h6⟩:=hv.cons_inv
  obtain ⟨u,r'',rfl,h7,h8⟩:=h6.cons_inv
  have e:=h5.b6 h3
  have e':=h7.b6 h4
  simp[Xo,Zw,e,e']
theorem Fj {isSlice:Bool} {len cap:Nat} {lo hi:Option Operand} {ρ:Operand→Value} {r:List AV} (hb:lN lo.isSome hi.isSome r) (hv:bO g W w r ((lo.toList++hi.toList).map ρ))
  (h0:0≤Xo lo.isSome r) (h1:Xo lo.isSome r≤Zw lo.isSome hi.isSome len r) (h2:Zw lo.isSome hi.isSome len r≤cap) :
  (Instr.sliceBounds isSlice len cap (lo.map ρ) (hi.map ρ) none).run P w=.ok ((Xo lo.isSome r).toNat,(Zw lo.isSome hi.isSome len r).toNat,cap) w:=by
 obtain ⟨a1,a2,a3,a4⟩:=ZF hb hv
 generalize Xo lo.isSome r=L at *
 replace a3:=a3 len
 replace a4:=a4 len
 generalize Zw lo.isSome hi.isSome len r=H at *
 have ji:∀ (k:IntKind) (i:Int) (y:Nat) (code:BoundsCode),0≤i→i≤y→(Instr.sliceBound (.int k i) y code).run P w=.ok i.toNat w:=fun k i y code h h'=>by
  simp[Instr.sliceBound,asIntOf,h,h']
 have hH:(H.toNat:Int)=H:=by omega
 cases lo with
 | none =>
  have e:=a2 rfl
  subst e
  cases hi with
  | none=>have e:=a4 rfl;subst e;simp[Instr.sliceBounds]
  | some y =>
   obtain ⟨k,e⟩:=a3 rfl
   simp at e
   simp[Instr.sliceBounds,e,ji k H cap _ h1 h2]
 | some x =>
  obtain ⟨k,e⟩:=a1 rfl
  simp at e
  cases hi with
  | none=>have e':=a4 rfl;subst e';simp[Instr.sliceBounds,e,ji k L len _ h0 h1]
  | some y =>
   obtain ⟨k',e'⟩:=a3 rfl
   simp at e'
   simp[Instr.sliceBounds,e,e',ji k' H cap _ ae h2,ji k L H.toNat _ h0 ae]
theorem Pw (off:Nat):∀ (l:List Value) (k:Nat) (cs:Array Value),((l.zipIdx k).foldl (fun cs (p:Value × Nat)=>cs.setIfInBounds (off + p.2) p.1) cs).size=cs.size ∧
  ∀ j,((l.zipIdx k).foldl (fun cs (p:Value × Nat)=>cs.setIfInBounds (off + p.2) p.1) cs).getD j undef=if off + k≤j∧j < off + k + l.length∧j < cs.size then l.getD (j - (off + k)) undef else cs.getD j undef
 | [],k,cs=>by
  refine ⟨rfl,fun j=>?_⟩
  rw[if_neg (by simp;omega)]
  rfl
 | v::l,k,cs=>by
  obtain ⟨h1,h2⟩:=Pw off l (k + 1) (cs.setIfInBounds (off + k) v)
  simp only[List.zipIdx_cons,List.foldl_cons]
  refine ⟨by rw[h1];simp,fun j=>?_⟩
  rw[h2 j]
  simp only[Array.size_setIfInBounds,List.length_cons]
  by_cases hj:j=off + k
  ·subst hj
   rw[if_neg ae]
   by_cases hs:off + k < cs.size
   ·rw[if_pos ae];simp[Array.getD,hs]
   ·rw[if_neg ae];simp[Array.getD,hs]
  ·have e:(cs.setIfInBounds (off + k) v).getD j undef=cs.getD j undef:=by
    simp only[Array.getD_eq_getD_getElem?,Array.getElem?_setIfInBounds]
    rw[if_neg (fun h=>hj h.symm)]
   rw[e]
   by_cases hc:off + (k + 1)≤j∧j < off + (k + 1) + l.length∧j < cs.size
   ·rw[if_pos hc,if_pos ae]
    have:j - (off + k)=(j - (off + (k + 1))) + 1:=by omega
    rw[this];simp
   ·rw[if_neg hc,if_neg ae]
theorem Px {cs vs:List AV} {off:Nat} (ho:off + vs.length≤cs.length):(Yp cs off vs).length=cs.length:=by unfold Yp;simp;omega
theorem ZG {cs vs:List AV} {off:Nat} (ho:off + vs.length≤cs.length) (j:Nat):(Yp cs off vs).getD j .any=if off≤j∧j < off + vs.length then vs.getD (j - off) .any else cs.getD j .any:=by
 unfold Yp
 simp only[List.getD]
 by_cases hlt:j < off
 ·rw[if_neg ae,List.append_assoc,List.getElem?_append_left (by simp;omega),List.getElem?_take,if_pos hlt]
 ·by_cases ZH:j < off + vs.length
  ·rw[if_pos ae,List.getElem?_append_left (by simp;omega),List.getElem?_append_right (by simp;omega)]
   simp only[List.length_take]
   rw[show min off cs.length=off by omega]
  ·rw[if_neg ae,List.getElem?_append_right (by simp;omega),List.getElem?_drop]
   simp only[List.length_append,List.length_take]
   rw[show off + vs.length + (j - (min off cs.length + vs.length))=j by omega]
theorem Py {cs:List AV} {cells:Array Value} (hs:cells.size=cs.length) (h1:∀ j,j < cs.length→(cells.getD j undef).oneCell'=true) (h:∀ j,j < cs.length→VR g W w (cs.getD j .any) (cells.getD j undef))
  {vs:List AV} {us:Array Value} (hu:us.size=vs.length) (ZI:∀ j,j < vs.length→(us.getD j undef).oneCell'=true) (hv:∀ j,j < vs.length→VR g W w (vs.getD j .any) (us.getD j undef)) {off:Nat} (ho:off + vs.length≤cs.length)
  {cells':Array Value} (qc:cells'.size=cells.size) (hc:∀ j,cells'.getD j undef=if off≤j∧j < off + us.size∧j < cells.size then us.getD (j - off) undef else cells.getD j undef) :
  cells'.size=(Yp cs off vs).length∧(∀ j,j < (Yp cs off vs).length→(cells'.getD j undef).oneCell'=true)∧∀ j,j < (Yp cs off vs).length→VR g W w ((Yp cs off vs).getD j .any) (cells'.getD j undef):=by
 have hl:(Yp cs off vs).length=cs.length:=by unfold Yp;simp;omega
 refine ⟨by rw[hl,qc,hs],fun j hj=>?_,fun j hj=>?_⟩
 ·rw[hl]at hj
  rw[hc]
  split
  ·exact ZI _ ae
  ·exact h1 _ hj
 ·rw[hl]at hj
  rw[hc]
  rw[ZG ho]
  by_cases tn:off≤j∧j < off + vs.length
  ·rw[if_pos tn,if_pos ae];exact hv _ ae
  ·rw[if_neg tn,if_neg ae];exact h j hj
theorem Pz {cs:List AV} {off:Nat} {x:AV} (h:off < cs.length):cs.set off x=Yp cs off [x]:=by
 apply List.ext_getElem?
 intro j
 unfold Yp
 rw[List.getElem?_set]
 by_cases hlt:j < off
 ·rw[if_neg ae,List.append_assoc,List.getElem?_append_left (by simp;omega),List.getElem?_take,if_pos hlt]
 ·by_cases he:off=j
  ·subst he
   rw[if_pos rfl,if_pos h,List.getElem?_append_left (by simp;omega),List.getElem?_append_right (by simp;omega)]
   simp[Nat.min_eq_left (Nat.le_of_lt h)]
  ·rw[if_neg he,List.getElem?_append_right (by simp;omega),List.getElem?_drop]
   simp only[List.length_append,List.length_take,List.length_singleton]
   congr 1;omega
theorem II {v:Value} (h:v.oneCell'=true):v.cells=#[v]:=by cases v<;>simp_all [Value.cells,Value.oneCell']
theorem ZJ {n off m:Nat} {ps:List (Nat × Nat)} {x:AV} {r:List AV} (h:∀ vs,x≠.agg vs) (hb:Yv n ((off,m)::ps) (x::r)):one x∧m=1∧off < n∧Yv n ps r:=by
 cases x<;>first|exact absurd rfl (h _)|exact hb
theorem ZK {cs:List AV} {off m:Nat} {ps:List (Nat × Nat)} {x:AV} {r:List AV} (h:∀ vs,x≠.agg vs):Zv cs ((off,m)::ps) (x::r)=Zv (cs.set off x) ps r:=by
 cases x<;>first|exact absurd rfl (h _)|rfl
theorem IJ {place:Nat→Option (Nat × Nat)}:∀ (ps:List (Nat × Nat)) (is:List Nat) (_:is.map place=ps.map some) {iu:List AV} {vs:List Value} (_:bO g W w iu vs) (_:is.length=vs.length) {cs:List AV} {cells:Array Value}
  (_:Yv cs.length ps iu) (_:cells.size=cs.length) (_:∀ j,j < cs.length→(cells.getD j undef).oneCell'=true) (_:∀ j,j < cs.length→VR g W w (cs.getD j .any) (cells.getD j undef)),
  ∃ cells',Instr.fill place cells (is.zip vs)=some cells'∧VR g W w (.agg (Zv cs ps iu)) (.agg cells'):=by
 intro ps
 induction ps with
 | nil =>
  intro is zu iu vs hv hl cs cells hb hs h1 h
  obtain rfl:is=[]:=by simpa using zu
  obtain rfl:vs=[]:=by simpa using hl.symm
  obtain rfl:=hv.kO
  exact ⟨cells,rfl,.agg hs h1 h⟩
 | cons p ps ih =>
  intro is zu iu vs hv hl cs cells hb hs h1 h
  obtain ⟨off,m⟩:=p
  cases is with
  | nil=>simp at zu
  | cons i is =>
   cases vs with
   | nil=>simp at hl
   | cons v vs =>
    obtain ⟨x,IK,rfl,hx,n9⟩:=hv.dm
    simp only[List.map_cons,List.cons.injEq]at zu
    have kP:is.length=vs.length:=by simpa using hl
    -- the Fk cells,iu abstract and iu real ZL
    have piece:∃ (pv:List AV),v.cells.size=m∧pv.length=m∧off + m≤cs.length∧Yv cs.length ps IK∧(∀ j,j < pv.length→(v.cells.getD j undef).oneCell'=true)∧(∀ j,j < pv.length→VR g W w (pv.getD j .any) (v.cells.getD j undef)) ∧
      Zv cs ((off,m)::ps) (x::IK)=Zv (Yp cs off pv) ps IK:=by
     by_cases zw:∃ IL,x=.agg IL
     ·obtain ⟨IL,rfl⟩:=zw
      cases hx with
      | agg Fm fF h2 =>
       obtain ⟨e1,e2,e3⟩:=hb
       exact ⟨IL,by rw[← e1];exact Fm,e1,e2,e3,fF,h2,rfl⟩
     ·have wS:∀ vs,x≠.agg vs:=fun vs e=>zw ⟨vs,e⟩
      obtain ⟨e1,rfl,e2,e3⟩:=ZJ wS hb
      have wT:=hx.one e1
      rw[II wT]
      refine ⟨[x],rfl,rfl,by omega,e3,fun j hj=>?_,fun j hj=>?_,by rw[ZK wS,Pz e2]⟩
      ·simp at hj;subst hj;exact wT
      ·simp at hj;subst hj;exact hx
    obtain ⟨pv,p1,p2,p3,p4,p5,p6,p7⟩:=piece
    rw[p7]
    have ep:Instr.fill place cells ((i::is).zip (v::vs))=Instr.fill place (v.cells.zipIdx.foldl (fun cs (c,j)=>cs.setIfInBounds (off + j) c) cells) (is.zip vs):=by
     simp only[List.zip_cons_cons,Instr.fill,zu.1]
     rw[if_neg]
     simp[p1]
     omega
    rw[ep]
    obtain ⟨f1,f2⟩:=Pw off v.cells.toList 0 cells
    have BI:v.cells.zipIdx.foldl (fun cs (c,j)=>cs.setIfInBounds (off + j) c) cells=(v.cells.toList.zipIdx 0).foldl (fun cs (p:Value × Nat)=>cs.setIfInBounds (off + p.2) p.1) cells:=by
     rw[← Array.foldl_toList];simp
    rw[BI]
    generalize (v.cells.toList.zipIdx 0).foldl (fun cs (p:Value × Nat)=>cs.setIfInBounds (off + p.2) p.1) cells=IM at f1 f2
    have ho:off + pv.length≤cs.length:=by omega
    obtain ⟨s1,s2,s3⟩:=Py hs h1 h (vs:=pv) (us:=v.cells) (by rw[p1,p2]) p5 p6 ho f1 (fun j=>by
     rw[f2 j]
     simp only[Nat.add_zero,Array.length_toList]
     congr 1
     simp[Array.getD_eq_getD_getElem?])
    exact ih is zu.2 n9 kP (by rw[Px ho];exact p4) s1 s2 s3
end
section
variable {P:Program} {g:Nat→GM} {W:Nat→Prop} {w:World}
theorem PA {fs:Array Field} {places:Array (Nat × Nat)} (iv:∀ i:Nat,places[i]?=(fs[i]?).bind fun (f:Field)=>(Zh P f.type).map fun m=>(f.offset,m)):∀ (is:List Nat) (ps:List (Nat × Nat)),zt P fs is=some ps→is.map (fun i=>places[i]?)=ps.map some
 | [],ps,h=>by simp[zt]at h;subst h;rfl
 | i::r,ps,h=>by
  unfold zt at h
  cases hf:fs[i]? with
  | none=>rw[hf]at h;simp at h
  | some f =>
   rw[hf]at h
   simp only at h
   split at h
   ·rename_i m l hm hl
    simp at h
    subst h
    simp only[List.map_cons]
    rw[PA iv r l hl,iv i,hf]
    simp[hm]
   ·cases h
theorem ZM {fs:Array Field} (h:∀ f ∈ fs.toList,(Zh P f.type).isSome=true):∃ places:Array (Nat × Nat),(fs.mapM (fun f=>(do pure (f.offset,← sizeOf f.type):Sem (Nat × Nat)))).run P w=.ok places w∧∀ i:Nat,places[i]?=(fs[i]?).bind fun (f:Field)=>(Zh P f.type).map fun m=>(f.offset,m):=by
 have key:∀ (l:List Field),(∀ f ∈ l,(Zh P f.type).isSome=true)→∃ ps:List (Nat × Nat),(l.mapM (fun f=>(do pure (f.offset,← sizeOf f.type):Sem (Nat × Nat)))).run P w=.ok ps w∧∀ i:Nat,ps[i]?=(l[i]?).bind fun (f:Field)=>(Zh P f.type).map fun m=>(f.offset,m):=by
  intro l
  induction l with
  | nil=>intro _;exact ⟨[],by simp,by simp⟩
  | cons f l ih =>
   intro h
   obtain ⟨ps,h1,h2⟩:=ih fun f hf=>h f (List.mem_cons_of_mem _ hf)
   have hf:=h f au
   cases hs:Zh P f.type with
   | none=>rw[hs]at hf;cases hf
   | some m =>
    refine ⟨(f.offset,m)::ps,?_,fun i=>?_⟩
    ·simp only[List.mapM_cons,Sem.run_bind,Jt hs,Result.andThen_ok,Sem.run_pure,h1]
    ·cases i with
     | zero=>simp[hs]
     | succ i=>simpa using h2 i
 obtain ⟨ps,h1,h2⟩:=key fs.toList h
 refine ⟨ps.toArray,?_,fun i=>by simpa using h2 i⟩
 rw[← Array.toArray_toList (xs:=fs)]
 rw[Array.mapM_eq_mapM_toList]
 simp only[Sem.run_map,h1,Result.andThen_ok]
theorem Wv {cs:List AV} {v:Value} (h:VR g W w (.agg cs) v):∃ us:Array Value,v=.agg us∧us.size=cs.length∧(∀ j,j < cs.length→(us.getD j undef).oneCell'=true)∧∀ j,j < cs.length→VR g W w (cs.getD j .any) (us.getD j undef):=by
 cases h with
 | agg hs h1 h=>exact ⟨_,rfl,hs,h1,h⟩
theorem BJ {cs:List AV} {v:Value} (h:VR g W w (.aU cs) v):∃ us:Array Value,v=.tuple us∧us.size=cs.length∧∀ j,j < cs.length→VR g W w (cs.getD j .any) (us.getD j undef):=by
 cases h with
 | aU hs h=>exact ⟨_,rfl,hs,h⟩
theorem rU {n:Nat} {cs:List AV} {v:Value} (h:VR g W w (.isl n cs) v):∃ (a:Option Addr) (cap:Nat) (us:Nat→Value),v=.slice a n cap∧n≤cap∧cap≤maxLen ∧
  (∀ j,j < cs.length→∃ k o,a=some ⟨k,o,none⟩∧Ud w k (o + j)=some (us j)∧¬ W k∧(us j).oneCell'=true)∧∀ j,j < cs.length→VR g W w (cs.getD j .any) (us j):=by
 cases h with
 | isl hn hm hc h=>exact ⟨_,_,_,rfl,hn,hm,hc,h⟩
theorem po {es b off n c:Nat} {v:Value} (h:VR g W w (.sl es b off n c) v):(∃ k cap e cur fz,v=.slice (some ⟨k,off,none⟩) n cap∧g b=.re k∧n≤c∧c≤cap∧cap≤maxLen∧w.heap[k]?=some (.cells cur e fz)∧off + cap * es≤cur.size)∨(∃ a,v=.slice a 0 0∧g b=.ph∧n=0∧c=0):=by
 cases h with
 | sl hg hn hc hm hb hs=>exact .inl ⟨_,_,_,_,_,rfl,hg,hn,hc,hm,hb,hs⟩
 | kq hg hc=>exact .inr ⟨_,rfl,hg,rfl,hc⟩
theorem Fo {cs:List AV} {off:Nat} {v:Value} (h:VR g W w (.xp cs off) v):∃ (k o:Nat) (us:Nat→Value),v=.pointer (some ⟨k,o + off,none⟩)∧(∀ j,j < cs.length→Ud w k (o + j)=some (us j)∧¬ W k∧(us j).oneCell'=true)∧∀ j,j < cs.length→VR g W w (cs.getD j .any) (us j):=by
 cases h with
 | xp hc h=>exact ⟨_,_,_,rfl,hc,h⟩
theorem zx {b off:Nat} {v:Value} (h:VR g W w (.ptr b off) v):∃ k,v=.pointer (some ⟨k,off,none⟩)∧g b=.re k:=by
 cases h with
 | ptr hg=>exact ⟨_,rfl,hg⟩
theorem Fp {v:Value} (h:VR g W w .nils v):∃ a,v=.slice a 0 0:=by
 cases h with
 | nils a=>exact ⟨a,rfl⟩
theorem BK {b:Nat} {v:Value} (h:VR g W w (.mp b) v):∃ k,v=.map (some k)∧g b=.re k:=by
 cases h with
 | mp hg=>exact ⟨_,rfl,hg⟩
theorem BF.get {l:List AV} {x:Bk} (h:BF g W w l x) {b:Nat} (hb:Ju l=some b):BR g W w (g b) x:=h b hb
theorem ZN (cs:List AV) (h:∀ v ∈ cs,b6 .u8 v) {us:Nat→Value} (hv:∀ j,j < cs.length→VR g W w (cs.getD j .any) (us j)) (j:Nat) (hj:j < (toB cs).length):us j=.int .u8 (bB (cs.getD j .any)):=by
 have cV:j < cs.length:=by simpa [toB] using hj
 have hm:cs.getD j .any ∈ cs:=by rw[BG cV];exact List.getElem_mem _
 exact (hv j cV).b6 (h _ hm)
theorem IN {src dst e:TypeId} (hs:P.underlying src=some (.slice e)) (he:P.underlying e=some (.int .u8)) (hd:P.underlying dst=some .string) {k o n cap:Nat} {cs:List AV} {us:Nat→Value} (hn:cs.length=n)
  (hc:∀ j,j < n→Ud w k (o + j)=some (us j)) (h8:∀ v ∈ cs,b6 .u8 v) (hv:∀ j,j < cs.length→VR g W w (cs.getD j .any) (us j)) :
  (convert src dst (.slice (some ⟨k,o,none⟩) n cap)).run P w=.ok (.string ⟨(toB cs).toArray⟩) w:=by
 subst hn
 rw[run_convert_bytes_string w src dst e _ _ _ hs he hd]
 have hl:=run_loadCells (P:=P) w ⟨k,o,none⟩ cs.length us (fun j hj=>by rw[add_lit];exact hc j hj)
 have tq:((List.range cs.length).map us).toArray=((cs.map bB).map (Value.int .u8)).toArray:=by
  congr 1
  apply List.ext_getElem au
  intro j h1 h2
  simp only[List.getElem_map,List.getElem_range]
  have hj:j < cs.length:=by simpa using h1
  have:=ZN cs h8 hv j (by simpa [toB] using hj)
  rw[this,BG hj]
 rw[tq]at hl
 rw[run_bytesToString w _ _ _ _ hl]
 congr 2
 have key:∀ (l:List AV) (s:ByteArray),(l.map bB).foldl (fun r n=>r.push (UInt8.ofNat n.toNat)) s=⟨s.data++(toB l).toArray⟩:=by
  intro l
  induction l with
  | nil=>intro s;cases s;simp[toB]
  | cons x l ih =>
   intro s
   simp only[List.map_cons,List.foldl_cons,ih,toB]
   congr 1
   simp[ByteArray.data_push]
 rw[key]
 simp[ByteArray.empty,ByteArray.emptyWithCapacity]
 rfl
theorem PB {t:TypeId} {fs:Array Field} (hu:P.underlying t=some (.struct fs)) {f:Nat} {fd:Field} (kQ:fs[f]?=some fd) {m:Nat} (hm:Zh P fd.type=some (m + 1)) (k o:Nat) :
  (Instr.fieldAt t (.pointer (some ⟨k,o,none⟩)) f).run P w=.ok (.pointer (some ⟨k,o + fd.offset,none⟩)) w:=by
 simp[Instr.fieldAt,run_underlying hu,kQ,Instr.sureAddr,fieldPlace,Jt hm,add_lit]
theorem PD {t e:TypeId} {n es:Nat} (hu:P.underlying t=some (.array n e)) (dc:Zh P e=some es) (k o:Nat) (q:IntKind) (i:Int) (h0:0≤i) (h1:i < (n:Int)) :
  (Instr.indexAt t (.pointer (some ⟨k,o,none⟩)) (.int q i)).run P w=.ok (.pointer (some ⟨k,o + i.toNat * es,none⟩)) w:=by
 simp[Instr.indexAt,run_underlying hu,asIntOf,Instr.sureAddr,h0,h1,Jt dc,add_lit]
theorem PE {t e:TypeId} {es:Nat} (hu:P.underlying t=some (.slice e)) (dc:Zh P e=some es) (k o n cap:Nat) (q:IntKind) (i:Int) (h0:0≤i) (h1:i < (n:Int)) :
  (Instr.indexAt t (.slice (some ⟨k,o,none⟩) n cap) (.int q i)).run P w=.ok (.pointer (some ⟨k,o + i.toNat * es,none⟩)) w:=by
 simp[Instr.indexAt,run_underlying hu,asIntOf,h0,h1,Jt dc,add_lit]
theorem ZO {o:Oper} {q:Q1} {xs:List Operand} (aH:tm P o=some (q,xs)) (ρ:Operand→Value) (hρ:∀ v,ρ (.const v)=v) {iu:List AV} (ha:bO g W w iu (xs.map ρ)) {m7:Bk} (hb:BF g W w iu m7) (hp:qp q iu m7) :
  ∃ v,(execOp ρ o).run P w=.ok (.value v) w∧VR g W w (qv q iu m7) v:=by
 unfold tm at aH
 split at aH
 all_goals (rename_i bl)
 -- move,assign
 ·simp at aH;obtain ⟨rfl,rfl⟩:=aH
  obtain ⟨a,rfl,h1⟩:=bO.one (by simpa using ha)
  exact ⟨_,by simp[execOp,bl],h1⟩
 ·simp at aH;obtain ⟨rfl,rfl⟩:=aH
  obtain ⟨a,rfl,h1⟩:=bO.one (by simpa using ha)
  exact ⟨_,by simp[execOp,bl],h1⟩
 -- pick
 ·simp at aH;obtain ⟨rfl,rfl⟩:=aH
  obtain ⟨a,b,c,rfl,h1,h2,h3⟩:=bO.three (by simpa using ha)
  obtain ⟨p1,p2,p3⟩:=hp
  have e1:=h1.ff p1
  refine ⟨_,by simp[execOp,bl,e1,asBool];rfl,?_⟩
  simp only[qv]
  cases hc:eN a with
  | true=>simp only[cond_true,if_true];rw[h2.ff (p2 hc)];exact .bool _
  | false=>simp only[cond_false,Bool.false_eq_true,if_false];rw[h3.ff (p3 hc)];exact .bool _
 -- not
 ·simp at aH;obtain ⟨rfl,rfl⟩:=aH
  obtain ⟨a,rfl,h1⟩:=bO.one (by simpa using ha)
  exact ⟨.bool (!eN a),by simp[execOp,bl,h1.ff hp,Op.unary],.bool _⟩
 -- binOp
 ·obtain ⟨v,h1,h2⟩:=ZE (w:=w) aH ρ ha hp (fun v e=>by rw[e];exact hρ v)
  refine ⟨v,?_,h2⟩
  simp only[execOp,bl]
  exact Zo h1
 -- convert
 ·split at aH
  ·rename_i ks kd hs hd
   simp at aH;obtain ⟨rfl,rfl⟩:=aH
   obtain ⟨a,rfl,h1⟩:=bO.one (by simpa using ha)
   obtain ⟨k',e⟩:=h1.fM hp
   exact ⟨_,by simp only[execOp,bl];refine Zo (v:=.int kd (kd.wrap (bB a))) ?_;rw[e];simp[convert,run_underlying hs,run_underlying hd,Conv.intToInt],.int _ _⟩
  ·rename_i e hs hd
   split at aH
   ·rename_i he
    simp at aH;obtain ⟨rfl,rfl⟩:=aH
    obtain ⟨a,rfl,h1⟩:=bO.one (by simpa using ha)
    simp only[execOp,bl]
    cases a<;>simp only[qp]at hp
    ·rename_i es b off n c
     cases m7<;>simp only[qp]at hp
     rename_i cs
     obtain ⟨rfl,p2,p3⟩:=hp
     rcases po h1 with ⟨k,cap,e',cur,fz,e1,e2,_⟩|⟨vh,e1,e2,rfl,rfl⟩
     ·by_cases dS:0 < cs.length
      ·obtain ⟨k',us,q1,q2,q3,q4⟩:=IE (hb.get (b:=b) rfl) dS
       rw[e2]at q1;cases q1
       refine ⟨_,Zo ?_,.str _⟩
       rw[e1]
       refine IN (g:=g) (W:=W) (us:=fun j=>us (off + j)) hs he hd (by simp;omega) (fun j hj=>?_) p3 (fun j hj=>?_)
       ·have:=q2 (off + j) ae;simpa using this
       ·have cV:j < n:=by simp at hj;omega
        have ee:((cs.drop off).take n).getD j .any=cs.getD (off + j) .any:=by simp only[List.getD,List.getElem?_take,List.getElem?_drop,if_pos cV]
        rw[ee];exact q4 _ ae
      ·have:cs=[]:=List.eq_nil_of_length_eq_zero ae
       subst this
       have:n=0:=by simp at p2;omega
       subst this
       refine ⟨.string ⟨(toB []).toArray⟩,Zo ?_,by simpa [qv,toB] using VR.str (g:=g) (W:=W) (w:=w) []⟩
       rw[e1]
       exact IN (g:=g) (W:=W) (us:=fun _=>undef) hs he hd rfl (fun j hj=>absurd hj au) au (fun j hj=>absurd hj au)
     ·refine ⟨.string .empty,Zo ?_,?_⟩
      ·rw[e1,run_convert_bytes_string w _ _ e _ _ _ hs he hd];cases vh<;>rfl
      ·simp only[qv,List.take_zero,toB,List.map_nil];exact .str []
    ·rename_i n cs
     obtain ⟨p2,p3⟩:=hp
     obtain ⟨a,cap,us,e1,e2,e3,e4,e5⟩:=rU h1
     by_cases dS:0 < n
     ·obtain ⟨k,o,rfl,_⟩:=e4 0 ae
      refine ⟨_,Zo ?_,.str _⟩
      rw[e1]
      refine IN (g:=g) (W:=W) (us:=us) hs he hd (by simp;omega) (fun j hj=>?_) p3 (fun j hj=>?_)
      ·obtain ⟨k',o',hh,h6,_⟩:=e4 j ae
       cases hh;exact h6
      ·have cV:j < n:=by simp at hj;omega
       have ee:(cs.take n).getD j .any=cs.getD j .any:=by simp only[List.getD,List.getElem?_take,if_pos cV]
       rw[ee];exact e5 _ ae
     ·have:n=0:=by omega
      subst this
      refine ⟨.string ⟨#[]⟩,Zo ?_,by simpa [qv,toB] using VR.str (g:=g) (W:=W) (w:=w) []⟩
      rw[e1,run_convert_bytes_string w _ _ e _ _ _ hs he hd]
      cases a<;>rfl
    ·generalize ρ _=rx at h1 ⊢
     cases h1 with
     | nils a =>
      refine ⟨.string ⟨#[]⟩,Zo ?_,.str []⟩
      rw[run_convert_bytes_string w _ _ e _ _ _ hs he hd]
      cases a<;>rfl
   ·cases aH
  ·cases aH
 -- field
 ·split at aH
  ·rename_i fs hu
   split at aH
   ·rename_i fd kQ
    cases jw:kM P fd.type with
    | none=>rw[jw]at aH;simp at aH
    | some ty =>
     rw[jw]at aH
     simp at aH;obtain ⟨rfl,rfl⟩:=aH
     obtain ⟨a,rfl,h1⟩:=bO.one (by simpa using ha)
     cases a<;>simp only[qp]at hp
     rename_i cs
     obtain ⟨us,e,hs,jL,hv⟩:=Wv h1
     obtain ⟨v,hr,oc⟩:=Pp (P:=P) (w:=w) jw hs jL hv hp
     refine ⟨v,?_,oc⟩
     simp only[execOp,bl]
     refine Zo ?_
     rw[e]
     simp[Instr.field,run_underlying hu,kQ,asAgg,hr]
   ·cases aH
  ·cases aH
 -- index
 ·split at aH
  ·rename_i n e hu
   split at aH
   ·rename_i ty es jw dc
    simp at aH;obtain ⟨rfl,rfl⟩:=aH
    obtain ⟨a,b,rfl,h1,h2⟩:=bO.two (by simpa using ha)
    cases a<;>simp only[qp]at hp
    rename_i cs
    obtain ⟨p1,p2,p3,p4⟩:=hp
    obtain ⟨us,e1,hs,jL,hv⟩:=Wv h1
    obtain ⟨k,e2⟩:=h2.fM p1
    obtain ⟨v,hr,oc⟩:=Pp (P:=P) (w:=w) jw hs jL hv p4
    refine ⟨v,?_,oc⟩
    simp only[execOp,bl]
    refine Zo ?_
    rw[e1,e2]
    simp[Instr.index,run_underlying hu,asIntOf,p2,p3,Jt dc,hr]
   ·cases aH
  ·rename_i hu
   simp at aH;obtain ⟨rfl,rfl⟩:=aH
   obtain ⟨a,b,rfl,h1,h2⟩:=bO.two (by simpa using ha)
   obtain ⟨p1,p2,p3,p4⟩:=hp
   obtain ⟨k,e2⟩:=h2.fM p2
   have e1:=h1.fE p1
   have hlt:(bB b).toNat < (cM a).length:=by omega
   refine ⟨.int .u8 ((cM a).getD (bB b).toNat 0).toNat,?_,.int _ _⟩
   simp only[execOp,bl]
   refine Zo ?_
   rw[e1,e2]
   have hg:(⟨(cM a).toArray⟩:ByteArray)[(bB b).toNat]?=some ((cM a)[(bB b).toNat]):=by
    rw[getElem?_pos _ _ (by rw[Fi];exact hlt)]
    rfl
   simp[Instr.index,run_underlying hu,asIntOf,p3,hg,List.getD,hlt]
  ·cases aH
 -- fieldAddr
 ·split at aH
  ·rename_i fs hu
   split at aH
   ·rename_i fd kQ
    split at aH
    ·rename_i m hm
     simp at aH;obtain ⟨rfl,rfl⟩:=aH
     obtain ⟨a,rfl,h1⟩:=bO.one (by simpa using ha)
     cases a<;>simp only[qp]at hp
     ·obtain ⟨k,e1,e2⟩:=zx h1
      exact ⟨_,by simp only[execOp,bl];exact Zo (by rw[e1];exact PB hu kQ hm _ _),.ptr e2⟩
     ·obtain ⟨k,o,us,e1,e2,e3⟩:=Fo h1
      exact ⟨_,by simp only[execOp,bl];exact Zo (by rw[e1];exact PB hu kQ hm _ _),by rw[Nat.add_assoc];exact .xp e2 e3⟩
    ·cases aH
   ·cases aH
  ·cases aH
 -- indexAddr
 ·split at aH
  ·rename_i n e hu
   cases dc:Zh P e with
   | none=>rw[dc]at aH;simp at aH
   | some es =>
    rw[dc]at aH
    simp at aH;obtain ⟨rfl,rfl⟩:=aH
    obtain ⟨a,b,rfl,h1,h2⟩:=bO.two (by simpa using ha)
    cases a<;>simp only[qp]at hp
    ·obtain ⟨p1,p2,p3⟩:=hp
     obtain ⟨k,e1,e2⟩:=zx h1
     obtain ⟨q,e3⟩:=h2.fM p1
     exact ⟨_,by simp only[execOp,bl];exact Zo (by rw[e1,e3];exact PD hu dc _ _ _ _ p2 p3),.ptr e2⟩
    ·obtain ⟨p1,p2,p3⟩:=hp
     obtain ⟨k,o,us,e1,e2,e4⟩:=Fo h1
     obtain ⟨q,e3⟩:=h2.fM p1
     exact ⟨_,by simp only[execOp,bl];exact Zo (by rw[e1,e3];exact PD hu dc _ _ _ _ p2 p3),by rw[Nat.add_assoc];exact .xp e2 e4⟩
  ·rename_i e hu
   cases dc:Zh P e with
   | none=>rw[dc]at aH;simp at aH
   | some es =>
    rw[dc]at aH
    simp at aH;obtain ⟨rfl,rfl⟩:=aH
    obtain ⟨a,b,rfl,h1,h2⟩:=bO.two (by simpa using ha)
    cases a<;>simp only[qp]at hp
    ·obtain ⟨p0,p1,p2,p3⟩:=hp
     obtain ⟨q,e3⟩:=h2.fM p1
     rcases po h1 with ⟨k,cap,e',cur,fz,e1,e2,_⟩|⟨vh,e1,e2,rfl,rfl⟩
     ·exact ⟨_,by simp only[execOp,bl];exact Zo (by rw[e1,e3];exact PE hu dc _ _ _ _ _ _ p2 p3),.ptr e2⟩
     ·omega
    ·obtain ⟨p1,p2,p3,p4⟩:=hp
     obtain ⟨q,e3⟩:=h2.fM p1
     obtain ⟨ad,cap,us,e1,_,_,e4,e5⟩:=rU h1
     obtain ⟨k,o,rfl,_⟩:=e4 _ p4
     refine ⟨_,by simp only[execOp,bl];exact Zo (by rw[e1,e3];exact PE hu dc _ _ _ _ _ _ p2 p3),.xp (fun j hj=>?_) e5⟩
     obtain ⟨k',o',hh,r⟩:=e4 j hj
     cases hh;exact r
  ·cases aH
 -- load
 ·cases jw:kM P _ with
  | none=>rw[jw]at aH;simp at aH
  | some ty =>
   rw[jw]at aH
   simp at aH;obtain ⟨rfl,rfl⟩:=aH
   obtain ⟨a,rfl,h1⟩:=bO.one (by simpa using ha)
   cases a<;>simp only[qp]at hp
   ·rename_i b off
    cases m7<;>simp only[qp]at hp
    rename_i cs
    obtain ⟨k,e1,e2⟩:=zx h1
    by_cases dS:0 < cs.length
    ·obtain ⟨k',us,q1,q2,q3,q4⟩:=IE (hb.get (b:=b) rfl) dS
     rw[e2]at q1;cases q1
     obtain ⟨v,hr,oc⟩:=BH (P:=P) (o:=0) jw q2 q3 q4 hp
     refine ⟨v,?_,oc⟩
     simp only[execOp,bl]
     exact Zo (by rw[e1];simpa using hr)
    ·obtain ⟨rfl,rfl,rfl⟩:=Pq hp dS
     obtain ⟨v,hr,oc⟩:=BH (P:=P) (g:=g) (W:=W) (k:=k) (o:=0) (us:=fun _=>undef) jw (fun j hj=>absurd hj au) (fun j hj=>absurd hj au) (fun j hj=>absurd hj au) hp
     refine ⟨v,?_,oc⟩
     simp only[execOp,bl]
     exact Zo (by rw[e1];simpa using hr)
   ·rename_i cs off
    obtain ⟨k,o,us,e1,e2,e3⟩:=Fo h1
    obtain ⟨v,hr,oc⟩:=BH (P:=P) jw (fun j hj=>(e2 j hj).1) (fun j hj=>(e2 j hj).2.2) e3 hp
    refine ⟨v,?_,by cases ty<;>exact oc⟩
    simp only[execOp,bl]
    exact Zo (by rw[e1];exact hr)
 -- len
 ·split at aH
  ·rename_i hu
   simp at aH;obtain ⟨rfl,rfl⟩:=aH
   obtain ⟨a,rfl,h1⟩:=bO.one (by simpa using ha)
   have e:=h1.fE hp
   exact ⟨.int .i64 (cM a).length,by simp[execOp,bl,resolve,invoke,builtin,Builtin.len_,run_underlying hu,e,goInt,Fi],.int _ _⟩
  ·rename_i e hu
   simp at aH;obtain ⟨rfl,rfl⟩:=aH
   obtain ⟨a,rfl,h1⟩:=bO.one (by simpa using ha)
   rename_i x _ _
   have fin:∀ b n c,ρ x=.slice b n c→(execOp ρ o).run P w=.ok (.value (.int .i64 n)) w:=fun b n c h=>by
    simp[execOp,bl,resolve,invoke,builtin,Builtin.len_,run_underlying hu,h,goInt]
   cases a<;>simp only[qp]at hp
   ·rcases po h1 with ⟨k,cap,e',cur,fz,e1,_⟩|⟨vh,e1,_,rfl,rfl⟩
    ·exact ⟨_,fin _ _ _ e1,.int _ _⟩
    ·exact ⟨_,fin _ _ _ e1,.int _ _⟩
   ·obtain ⟨ad,cap,us,e1,_⟩:=rU h1
    exact ⟨_,fin _ _ _ e1,.int _ _⟩
   ·obtain ⟨b,e1⟩:=Fp h1
    exact ⟨_,fin _ _ _ e1,.int _ _⟩
  ·rename_i kt et hu
   simp at aH;obtain ⟨rfl,rfl⟩:=aH
   obtain ⟨a,rfl,h1⟩:=bO.one (by simpa using ha)
   cases a<;>simp only[qp]at hp
   rename_i b
   cases m7<;>simp only[qp]at hp
   rename_i kvs dn
   obtain ⟨k,e1,e2⟩:=BK h1
   have dT:=hb.get (b:=b) rfl
   rw[e2]at dT
   cases dT with
   | aC zy hs =>
    refine ⟨.int .i64 kvs.length,?_,.int _ _⟩
    simp[execOp,bl,resolve,invoke,builtin,Builtin.len_,run_underlying hu,e1,goInt,getObj,Sem.run,zy,hs]
  ·cases aH
 -- min,max
 ·split at aH
  ·rename_i k hu
   simp at aH;obtain ⟨rfl,rfl⟩:=aH
   obtain ⟨a,b,rfl,h1,h2⟩:=bO.two (by simpa using ha)
   refine ⟨_,?_,.int _ _⟩
   simp only[execOp,bl,resolve,invoke,builtin,Sem.run_bind,Sem.run_pure,Result.andThen_ok,List.map_toArray,List.map_cons,List.map_nil,h1.b6 hp.1,h2.b6 hp.2,run_min_int2]
  ·cases aH
 ·split at aH
  ·rename_i k hu
   simp at aH;obtain ⟨rfl,rfl⟩:=aH
   obtain ⟨a,b,rfl,h1,h2⟩:=bO.two (by simpa using ha)
   refine ⟨_,?_,.int _ _⟩
   simp only[execOp,bl,resolve,invoke,builtin,Sem.run_bind,Sem.run_pure,Result.andThen_ok,List.map_toArray,List.map_cons,List.map_nil,h1.b6 hp.1,h2.b6 hp.2,run_max_int2]
  ·cases aH
 -- slice
 ·rename_i t x lo hi
  split at aH
  ·rename_i hu
   simp only[Option.some.injEq,Prod.mk.injEq]at aH;obtain ⟨rfl,rfl⟩:=aH
   obtain ⟨a,r,rfl,h1,hr⟩:=bO.dm (v:=ρ x) (r:=(lo.toList++hi.toList).map ρ) (by simpa using ha)
   simp only[qp]at hp
   obtain ⟨p1,p2,p3,p4,p5⟩:=hp
   refine ⟨_,?_,.str _⟩
   simp only[execOp,bl]
   refine Zo ?_
   rw[h1.fE p1]
   have od:=Fj (P:=P) (isSlice:=false) (len:=(cM a).length) (cap:=(cM a).length) p2 hr p3 p4 p5
   simp only[Instr.sliceAt,Instr.slice,Sem.run_bind,run_underlying hu,Result.andThen_ok,Option.map_none,Option.isSome_none,Bool.false_eq_true,if_false,Fi,od,Sem.run_pure]
   congr 2
   apply ByteArray.ext
   simp[ByteArray.extract,ByteArray.copySlice]
  ·rename_i e hu
   cases dc:Zh P e with
   | none=>rw[dc]at aH;simp at aH
   | some es =>
    rw[dc]at aH
    simp only[Option.map_some,Option.some.injEq,Prod.mk.injEq]at aH;obtain ⟨rfl,rfl⟩:=aH
    obtain ⟨a,r,rfl,h1,hr⟩:=bO.dm (v:=ρ x) (r:=(lo.toList++hi.toList).map ρ) (by simpa using ha)
    cases a<;>simp only[qp]at hp
    ·rename_i es' b off n c
     obtain ⟨rfl,p2,p3,p4,p5⟩:=hp
     have BL:qv (.n8 es' lo.isSome hi.isSome) (.sl es' b off n c::r) m7=if Xo lo.isSome r < c then .sl es' b (off + (Xo lo.isSome r).toNat * es') ((Zw lo.isSome hi.isSome n r).toNat - (Xo lo.isSome r).toNat) (c - (Xo lo.isSome r).toNat) else .isl 0 []:=rfl
     rw[BL]
     clear BL
     rcases po h1 with ⟨k,cap,e',cur,fz,e1,e2,q1,q2,q3,q4,q5⟩|⟨vh,e1,e2,rfl,rfl⟩
     ·have od:=Fj (P:=P) (isSlice:=true) (len:=n) (cap:=cap) p2 hr p3 p4 ae
      by_cases p6:Xo lo.isSome r < c
      ·rw[if_pos p6]
       have fw:(Xo lo.isSome r).toNat < cap:=by omega
       refine ⟨.slice (some ⟨k,off + (Xo lo.isSome r).toNat * es',none⟩) ((Zw lo.isSome hi.isSome n r).toNat - (Xo lo.isSome r).toNat) (cap - (Xo lo.isSome r).toNat),?_,?_⟩
       ·simp only[execOp,bl]
        refine Zo ?_
        rw[e1]
        simp only[Instr.sliceAt,Instr.slice,Sem.run_bind,run_underlying hu,Result.andThen_ok,Option.map_none,od,Jt dc,Sem.run_pure]
        rw[if_neg ae]
        simp[add_lit]
       ·refine .sl e2 ae ae ae q4 ?_
        have:(Xo lo.isSome r).toNat * es' + (cap - (Xo lo.isSome r).toNat) * es'=cap * es':=by rw[← Nat.add_mul];congr 1;omega
        omega
      ·rw[if_neg p6]
       have h0:(Zw lo.isSome hi.isSome n r).toNat - (Xo lo.isSome r).toNat=0:=by omega
       refine ⟨_,?_,.isl (a:=if cap=(Xo lo.isSome r).toNat then some ⟨k,off,none⟩ else (some (⟨k,off,none⟩:Addr)).map (·.add ((Xo lo.isSome r).toNat * es'))) (cap:=cap - (Xo lo.isSome r).toNat) (us:=fun _=>undef) (Nat.zero_le _) ae (fun j hj=>by simp at hj) (fun j hj=>by simp at hj)⟩
       simp only[execOp,bl]
       refine Zo ?_
       rw[e1]
       simp only[Instr.sliceAt,Instr.slice,Sem.run_bind,run_underlying hu,Result.andThen_ok,Option.map_none,od,Jt dc,Sem.run_pure,h0]
     ·have od:=Fj (P:=P) (isSlice:=true) (len:=0) (cap:=0) p2 hr p3 p4 ae
      rw[if_neg ae]
      have h0:(Zw lo.isSome hi.isSome 0 r).toNat - (Xo lo.isSome r).toNat=0:=by omega
      refine ⟨_,?_,.isl (a:=if 0=(Xo lo.isSome r).toNat then vh else vh.map (·.add ((Xo lo.isSome r).toNat * es'))) (cap:=0 - (Xo lo.isSome r).toNat) (us:=fun _=>undef) (Nat.zero_le _) (by unfold maxLen;omega) (fun j hj=>by simp at hj) (fun j hj=>by simp at hj)⟩
      simp only[execOp,bl]
      refine Zo ?_
      rw[e1]
      simp only[Instr.sliceAt,Instr.slice,Sem.run_bind,run_underlying hu,Result.andThen_ok,Option.map_none,od,Jt dc,Sem.run_pure,h0]
    ·rename_i n cs
     obtain ⟨p2,p3,p4,p5,p6⟩:=hp
     obtain ⟨ad,cap,us,e1,q1,q2,q3,q4⟩:=rU h1
     have od:=Fj (P:=P) (isSlice:=true) (len:=n) (cap:=cap) p2 hr p3 p4 ae
     have BL:qv (.n8 es lo.isSome hi.isSome) (.isl n cs::r) m7=.isl ((Zw lo.isSome hi.isSome n r).toNat - (Xo lo.isSome r).toNat) ((cs.drop ((Xo lo.isSome r).toNat * es)).take (((Zw lo.isSome hi.isSome n r).toNat - (Xo lo.isSome r).toNat) * es)):=rfl
     rw[BL]
     clear BL
     generalize (Xo lo.isSome r)=L at *
     generalize (Zw lo.isSome hi.isSome n r)=H at *
     have hex:∃ Fq,(execOp ρ o).run P w=.ok (.value (.slice Fq (H.toNat - L.toNat) (cap - L.toNat))) w∧(cap=L.toNat→Fq=ad)∧(cap≠L.toNat→Fq=ad.map (·.add (L.toNat * es))):=by
      refine ⟨if cap=L.toNat then ad else ad.map (·.add (L.toNat * es)),?_,fun h=>by rw[if_pos h],fun h=>by rw[if_neg h]⟩
      simp only[execOp,bl]
      refine Zo ?_
      rw[e1]
      simp only[Instr.sliceAt,Instr.slice,Sem.run_bind,run_underlying hu,Result.andThen_ok,Option.map_none,od,Jt dc,Sem.run_pure]
     obtain ⟨Fq,dL,c1,c2⟩:=hex
     refine ⟨_,dL,.isl (us:=fun j=>us (L.toNat * es + j)) ae ae (fun j hj=>?_) fun j hj=>?_⟩
     ·have pq:j < (H.toNat - L.toNat) * es:=by simp at hj;omega
      have fG:L.toNat * es + j < cs.length:=by simp at hj;omega
      obtain ⟨k,o',rfl,r1,r2,r3⟩:=q3 _ fG
      have bY:cap≠L.toNat:=fun e=>by
       have:H.toNat - L.toNat=0:=by omega
       rw[this]at pq;simp at pq
      rw[c2 bY]
      exact ⟨k,o' + L.toNat * es,by simp[add_lit],by rw[Nat.add_assoc];exact r1,r2,r3⟩
     ·have pq:j < (H.toNat - L.toNat) * es:=by simp at hj;omega
      have fG:L.toNat * es + j < cs.length:=by simp at hj;omega
      have ee:((cs.drop (L.toNat * es)).take ((H.toNat - L.toNat) * es)).getD j .any=cs.getD (L.toNat * es + j) .any:=by simp only[List.getD,List.getElem?_take,List.getElem?_drop,if_pos pq]
      rw[ee];exact q4 _ fG
  ·cases aH
 -- extract
 ·rename_i x i
  simp at aH;obtain ⟨rfl,rfl⟩:=aH
  obtain ⟨a,rfl,h1⟩:=bO.one (by simpa using ha)
  cases a<;>simp only[qp]at hp
  rename_i vs
  obtain ⟨us,e1,e2,e3⟩:=BJ h1
  refine ⟨us.getD i undef,?_,e3 i hp⟩
  simp only[execOp,bl]
  refine Zo ?_
  rw[e1]
  have hi:i < us.size:=by omega
  simp[Instr.extract,hi,Array.getD]
 -- nilCheck
 ·simp at aH;obtain ⟨rfl,rfl⟩:=aH
  obtain ⟨a,rfl,h1⟩:=bO.one (by simpa using ha)
  cases a<;>simp only[qp]at hp
  ·obtain ⟨k,e1,e2⟩:=zx h1
   exact ⟨_,by simp[execOp,bl,e1],.ptr e2⟩
  ·obtain ⟨k,o',us,e1,e2,e3⟩:=Fo h1
   exact ⟨.pointer (some ⟨k,o' + _,none⟩),by simp[execOp,bl,e1],.xp e2 e3⟩
 -- build
 ·rename_i t parts
  have BM:∀ z:Array Value,z.all (·.oneCell')=true→z.size=(z.toList.map fg).length∧(∀ j,j < (z.toList.map fg).length→(z.getD j undef).oneCell'=true)∧(∀ j,j < (z.toList.map fg).length→VR g W w ((z.toList.map fg).getD j .any) (z.getD j undef)):=by
   intro z hz
   have hv:=Fe (g:=g) (W:=W) (w:=w) (.agg z)
   have n9:tj (.agg z)=.agg (z.toList.map fg):=if_pos hz
   rw[n9]at hv
   obtain ⟨us,e,q1,q2,q3⟩:=Wv hv
   cases e
   exact ⟨q1,q2,q3⟩
  have BN:∀ z:Array Value,(P.info? t).bind (·.zero)=some (.agg z)→(zeroValue t).run P w=.ok (.agg z) w:=by
   intro z hz
   cases hi:P.info? t with
   | none=>rw[hi]at hz;simp at hz
   | some i=>rw[hi]at hz;simp at hz;simp[zeroValue,typeInfo,hi,hz]
  have Fs:(parts.map fun (p:Nat × Operand)=>(p.1,ρ p.2)).toList=(parts.toList.map (·.1)).zip ((parts.toList.map (·.2)).map ρ):=by
   simp only[Array.toList_map]
   induction parts.toList with
   | nil=>rfl
   | cons p l ih=>simp[ih]
  split at aH
  ·rename_i z fs hz hu
   split at aH
   ·rename_i hc
    simp only[Bool.and_eq_true]at hc
    cases eg:zt P fs (parts.toList.map (·.1)) with
    | none=>rw[eg]at aH;simp at aH
    | some ps =>
     rw[eg]at aH
     simp only[Option.map_some,Option.some.injEq,Prod.mk.injEq]at aH;obtain ⟨rfl,rfl⟩:=aH
     obtain ⟨z1,z2,z3⟩:=BM z hc.1
     obtain ⟨places,pr,pl⟩:=ZM (P:=P) (w:=w) (fs:=fs) (fun f hf=>by
      have:=Array.all_eq_true'.1 hc.2 f (by simpa using hf)
      simpa using this)
     obtain ⟨cells',f1,f2⟩:=IJ ps (parts.toList.map (·.1)) (PA pl _ _ eg) ha au hp z1 z2 z3
     refine ⟨_,?_,f2⟩
     simp only[execOp,bl]
     refine Zo ?_
     simp only[Instr.build,Sem.run_bind,BN z hz,Result.andThen_ok,Value.cells,run_underlying hu,pr,Fs,f1,Sem.run_pure]
   ·cases aH
  ·rename_i z n e hz hu
   split at aH
   ·rename_i hc
    cases dc:Zh P e with
    | none=>rw[dc]at aH;simp at aH
    | some m =>
     rw[dc]at aH
     simp only[Option.map_some,Option.some.injEq,Prod.mk.injEq]at aH;obtain ⟨rfl,rfl⟩:=aH
     obtain ⟨z1,z2,z3⟩:=BM z hc
     obtain ⟨cells',f1,f2⟩:=IJ (place:=fun i=>some (i * m,m)) (parts.toList.map fun (p:Nat × Operand)=>(p.1 * m,m)) (parts.toList.map (fun (p:Nat × Operand)=>p.1)) au ha au (cs:=z.toList.map fg) hp z1 z2 z3
     refine ⟨_,?_,f2⟩
     simp only[execOp,bl]
     refine Zo ?_
     simp only[Instr.build,Sem.run_bind,BN z hz,Result.andThen_ok,Value.cells,run_underlying hu,Jt dc,Fs,f1,Sem.run_pure]
   ·cases aH
  ·cases aH
 -- makeFunc
 ·rename_i f caps
  simp only[Option.some.injEq,Prod.mk.injEq]at aH;obtain ⟨rfl,rfl⟩:=aH
  have hl:=ha.length
  refine ⟨.func (.func f) #[] (caps.map ρ),?_,.cl (by simp at hl ⊢;omega) fun j hj=>?_⟩
  ·simp[execOp,bl,Instr.makeFunc]
  ·have:=ha.get j hj
   simpa using this
 ·cases aH
end
inductive PK where
 | call (f:FuncId)
 | cY
 | app (es iL:Nat) (str:Bool)
 | wU (es len:Nat) (zero:List AV) (parts:List (Nat × Nat))
 | BO
 | cA (ne:Bool) (t:TypeId)
 | Ft (t:TypeId)
 | BP (t:TypeId)
 | zA (t:TypeId) (ok:Bool)
 | del (t:TypeId)
 | Fu (t:TypeId)
 | ZP (t:TypeId)
 | IP (t:TypeId)
 | b7
 | IQ
 | Fv (es:Nat) (lo hi:Bool)
 | ZQ (t:TypeId)
 | ZR (t:TypeId)
inductive bG where
 | q (d:Nat) (q:Q1) (xs:List TV) (gd:Option (Nat × Bool))
 | al (d:Nat) (z:List AV)
 | bx (d:Nat) (x:TV)
 | rV (ty:TY) (a v:TV)
 | pd (d:Option Nat) (k:PK) (xs:List TV) (gd:Option (Nat × Bool))
def mc (ops:Array Oper) (o:Oper):Option (Option (Nat × Bool)) :=
 match o.guard with
 | none=>some none
 | some (j,b)=>match (ops[j]?).bind (·.dst) with
  | some t=>some (some (t,b))
  | none=>none
def Xy (P:Program) (o:Oper):Option (PK × List Operand) :=
 match o.op with
 | .call ⟨.value (.func f),args,_⟩=>some (.call f,args.toList)
 | .call ⟨.value x,args,_⟩=>some (.cY,x::args.toList)
 | .call ⟨.builtin .append,⟨[x,y]⟩,⟨[t,u]⟩⟩=>match P.underlying t with
  | some (.slice e)=>match P.info? e with
   | some i=>match i.zero with
    | some z=>if z.cells.size=i.size∧0 < i.size then (if u=t then some (.app i.size i.bytes false,[x,y]) else match P.underlying u with
     | some .string=>some (.app i.size i.bytes true,[x,y])
     | _=>none) else none
    | none=>none
   | none=>none
  | _=>none
 | .call ⟨.builtin .delete,⟨[x,y]⟩,⟨[t,_]⟩⟩=>some (.del t,[x,y])
 | .call ⟨.builtin .clear,⟨[x]⟩,⟨[t]⟩⟩=>some (.Fu t,[x])
 | .call ⟨.builtin .copy,⟨[x,y]⟩,⟨[t,_]⟩⟩=>some (.ZP t,[x,y])
 | .buildSlice t len parts=>match P.underlying t with
  | some (.slice e)=>match P.info? e with
   | some i=>match i.zero with
    | some z=>if z.cells.size=i.size∧0 < i.size∧z.cells.all (·.oneCell')∧len * i.size≤2 ^ 24∧len≤2 ^ 24 then some (.wU i.size len (z.cells.toList.map fg) (parts.toList.map fun p=>(p.1 * i.size,i.size)),parts.toList.map (·.2)) else none
    | none=>none
   | none=>none
  | _=>none
 | .convert s d x=>match P.underlying s,P.underlying d with
  | some .string,some (.slice e)=>match P.underlying e with
   | some (.int .u8)=>some (.BO,[x])
   | _=>none
  | _,_=>none
 | .binOp .eql t x y _=>some (.cA false t,[x,y])
 | .binOp .neq t x y _=>some (.cA true t,[x,y])
 | .lookup t m k ok=>some (.zA t ok,[m,k])
 | .mapUpdate t m k v=>some (.BP t,[m,k,v])
 | .makeMap t r=>if (match r with|none=>true|some (.const (.int _ _))=>true|_=>false)=true then some (.Ft t,[]) else none
 | .range t x=>some (.IP t,[x])
 | .next x false=>some (.b7,[x])
 | .entry x=>some (.IQ,[x])
 | .slice t x lo hi (some mx)=>match P.underlying t with
  | some (.slice e)=>(Zh P e).map fun es=>(.Fv es lo.isSome hi.isSome,x::(lo.toList++hi.toList++[mx]))
  | _=>none
 | .mapEntry t m k=>some (.ZQ t,[m,k])
 | .entryStore t m s v=>some (.ZR t,[m,s,v])
 | _=>none
def Uc (P:Program) (N:Nat) (ops:Array Oper) (o:Oper):Option bG :=
 match mc ops o with
 | none=>none
 | some gd =>
  match o.op,o.dst with
  | .alloc t,some d=>match gd,(P.info? t).bind (·.zero) with
   | none,some z=>if d < N∧z.cells.all (·.oneCell') then some (.al d (z.cells.toList.map fg)) else none
   | _,_=>none
  | .box _ x,some d=>if d < N∧gd=none then some (.bx d (aS x)) else none
  | .store t a v,none=>match gd,kM P t with
   | none,some ty=>some (.rV ty (aS a) (aS v))
   | _,_=>none
  | _,dst=>match tm P o,dst with
   | some (q,xs),some d=>if d < N then some (.q d q (xs.map aS) gd) else none
   | _,_=>match Xy P o with
    | some (k,xs)=>if dst.all (· < N) then some (.pd dst k (xs.map aS) gd) else none
    | none=>none
structure bp where
 rt:List Nat
 rb:List Nat
 wt:List Nat
 wb:List Nat
def dj (s2 s':FS) (F:bp):FS:=⟨fun i=>if i ∈ F.wt then s'.T i else s2.T i,fun b=>if b ∈ F.wb then s'.H b else s2.H b⟩
def me (P:Program) (ops:Array Oper) (io:Oper) (a:Act) (w:World) (K:Act→World→Prop) (Q:Exit→Act→World→Prop):Prop :=
 if Region.wanted io (yielded ops a.tmps) then io.wp P a w K Q else K (a.put io.dst undef) w
structure og (P:Program) (c:Cx) (ops:Array Oper) (io:Oper) (s:FS) (F:bp) (s':FS):Prop where
 bh:∀ i,i ∉ F.wt→s'.T i=s.T i
 cZ:∀ b,b ∉ F.wb→s'.H b=s.H b
 step:∀ s2:FS,(∀ i ∈ F.rt,s2.T i=s.T i)→(∀ b ∈ F.rb,s2.H b=s.H b)→∀ g a w,R c g s2 a w→∀ K Q',(∀ g' a' w',R c g' (dj s2 s' F) a' w'→K a' w')→me P ops io a w K Q'
theorem zB {s s':FS} {F:bp} (hT:∀ i,i ∉ F.wt→s'.T i=s.T i) (hH:∀ b,b ∉ F.wb→s'.H b=s.H b):dj s s' F=s':=by
 unfold dj
 cases s'
 congr 1
 ·funext i;split
  ·rfl
  ·rename_i h;exact (hT i h).symm
 ·funext b;split
  ·rfl
  ·rename_i h;exact (hH b h).symm
def Qj:AV→AV
 | .dx _ v=>v
 | v=>v
def ob:Option Bool→Prop→Prop
 | none,p=>p
 | some c,p=>c=true→p
def eR (c:Option Bool):AV→Prop
 | .dx b _=>ob c (b=true)
 | _=>True
def Qt (c:Option Bool):List AV→Prop
 | []=>True
 | x::xs=>eR c x∧Qt c xs
def Ji (c:Option Bool):Q1→List AV→Prop
 | .pick,[x,y,z]=>eR c x∧ob c (eN (Qj x)=true→eR none y)∧ob c (eN (Qj x)=false→eR none z)
 | _,xs=>Qt c xs
def cw:Option Bool→AV→AV
 | none,v=>v
 | some c,v=>.dx c v
def gB (s:FS):Option (Nat × Bool)→Option Bool
 | none=>none
 | some (t,want)=>match s.T t with
  | .bool b=>some (b == want)
  | .dx c (.bool b)=>some (c && (b == want))
  | _=>some false
def fx (s:FS):Option (Nat × Bool)→Prop
 | none=>True
 | some (t,_)=>match s.T t with
  | .bool _=>True
  | .dx _ (.bool _)=>True
  | _=>False
def aF (gl:Nat→AV) (s:FS) (xs:List TV):List AV:=xs.map (aZ gl s)
def wV (gl:Nat→AV) (s:FS) (q:Q1) (xs:List TV) (gd:Option (Nat × Bool)):Prop :=
 fx s gd∧Ji (gB s gd) q (aF gl s xs)∧ob (gB s gd) (qp q ((aF gl s xs).map Qj) (qe s ((aF gl s xs).map Qj)))
def rW (gl:Nat→AV) (s:FS) (q:Q1) (xs:List TV) (gd:Option (Nat × Bool)):AV :=
 cw (gB s gd) (qv q ((aF gl s xs).map Qj) (qe s ((aF gl s xs).map Qj)))
def Xf:List TV→List Nat
 | []=>[]
 | .t i::r=>i::Xf r
 | _::r=>Xf r
def jj:Option (Nat × Bool)→List Nat
 | none=>[]
 | some (t,_)=>[t]
def rX (gl:Nat→AV) (s:FS) (d:Nat) (xs:List TV) (gd:Option (Nat × Bool)):bp :=
 ⟨jj gd++Xf xs,(Ju ((aF gl s xs).map Qj)).toList,[d],[]⟩
section
variable {P:Program} {c:Cx} {ops:Array Oper} {io:Oper}
theorem Xu {gl:Nat→AV} {s s2:FS}:∀ {xs:List TV},(∀ i ∈ Xf xs,s2.T i=s.T i)→aF gl s2 xs=aF gl s xs
 | [],_=>rfl
 | .t i::r,h=>by
  have h1:=h i (by simp[Xf])
  have h2:=Xu (gl:=gl) (xs:=r) fun j hj=>h j (by simp[Xf,hj])
  simp only[aF,List.map_cons,aZ,h1]at *
  rw[h2]
 | .c v::r,h=>by
  have h2:=Xu (gl:=gl) (xs:=r) fun j hj=>h j hj
  simp only[aF,List.map_cons,aZ]at *
  rw[h2]
 | .gl i::r,h=>by
  have h2:=Xu (gl:=gl) (xs:=r) fun j hj=>h j hj
  simp only[aF,List.map_cons,aZ]at *
  rw[h2]
theorem Fw (h:io.guard=none) (f:Nat→Option Bool):Region.wanted io f=true:=by simp[Region.wanted,h]
theorem vi {gd:Option (Nat × Bool)} (bc:mc ops io=some gd) {g:Nat→GM} {s:FS} {a:Act} {w:World} (hR:R c g s a w) (aX:fx s gd) :
  Region.wanted io (yielded ops a.tmps)=(gB s gd).getD true:=by
 unfold mc at bc
 cases hg:io.guard with
 | none =>
  rw[hg]at bc;simp at bc;subst bc
  rw[Fw hg];rfl
 | some p =>
  obtain ⟨j,b⟩:=p
  rw[hg]at bc
  simp only at bc
  cases ht:(ops[j]?).bind (·.dst) with
  | none=>rw[ht]at bc;simp at bc
  | some t =>
   rw[ht]at bc
   simp at bc;subst bc
   have hv:=hR.t t
   have hy:Region.wanted io (yielded ops a.tmps)=(match a.tmps.getD t undef with|.bool x=>x == b|_=>false):=by
    simp only[Region.wanted,hg,yielded,ht,Option.bind_some]
    rw[Array.getD_eq_getD_getElem?]
    cases tt:a.tmps[t]? with
    | none=>rfl
    | some v=>cases v<;>simp
   rw[hy]
   simp only[fx]at aX
   simp only[gB]
   split at aX
   ·rename_i x e
    rw[e]at hv
    rw[hv.ff trivial];rfl
   ·rename_i x y e
    rw[e]at hv
    generalize a.tmps.getD t undef=rv at hv ⊢
    cases hv with
    | dx h h0 =>
     cases x with
     | true=>rw[(h rfl).ff trivial];simp[eN]
     | false=>rw[h0 rfl];rfl
   ·exact aX.elim
theorem BQ {g:Nat→GM} {W:Nat→Prop} {w:World} {x:AV} {v:Value} (h:VR g W w x v) (hc:eR none x):VR g W w (Qj x) v:=by
 cases h with
 | dx h h0=>exact h hc
 | any=>exact .any _
 | int=>exact .int _ _
 | bool=>exact .bool _
 | str=>exact .str _
 | agg a b c=>exact .agg a b c
 | aU a b=>exact .aU a b
 | ptr a=>exact .ptr a
 | xp a b=>exact .xp a b
 | sl a b c d e f=>exact .sl a b c d e f
 | kq a b=>exact .kq a b
 | isl a b c d=>exact .isl a b c d
 | nils=>exact .nils _
 | cl a b=>exact .cl a b
 | mp a=>exact .mp a
 | lit=>exact .lit _
theorem PF {b:Bool} (hb:b=true) {x:AV} (h:eR (some b) x):eR none x:=by
 cases x<;>simp_all [eR,ob]
theorem Xx {g:Nat→GM} {W:Nat→Prop} {w:World}:∀ {xs:List AV} {vs:List Value},bO g W w xs vs→Qt none xs→bO g W w (xs.map Qj) vs
 | [],[],_,_=>trivial
 | _::_,_::_,h,hc=>⟨BQ h.1 hc.1,Xx h.2 hc.2⟩
 | [],_::_,h,_=>h.elim
 | _::_,[],h,_=>h.elim
theorem zD {b:Bool} (hb:b=true):∀ {xs:List AV},Qt (some b) xs→Qt none xs
 | [],_=>trivial
 | _::_,h=>⟨PF hb h.1,zD hb h.2⟩
theorem R.aF {g:Nat→GM} {s:FS} {a:Act} {w:World} (hR:R c g s a w):∀ (xs:List Operand),bO g (Qn c g s) w (Proofs.YtogckmommodmhaaGreatDoor.aF c.gl s (xs.map aS)) (xs.map a.eval)
 | []=>trivial
 | x::xs=>⟨hR.ev x,R.aF hR xs⟩
theorem IS {g:Nat→GM} {s:FS} {a:Act} {w:World} (hR:R c g s a w) (l:List AV):BF g (Qn c g s) w l (qe s l):=by
 intro b hb
 have:=hR.h b
 unfold qe
 rw[hb];exact this
theorem ZS {g:Nat→GM} {s:FS} {a:Act} {w:World} (hR:R c g s a w) {q:Q1} {xs:List Operand} (mf:q=.pick→∃ x y z,xs=[x,y,z])
  (hc:Ji none q (Proofs.YtogckmommodmhaaGreatDoor.aF c.gl s (xs.map aS))) :
  ∃ iu,bO g (Qn c g s) w iu (xs.map a.eval)∧BF g (Qn c g s) w iu (qe s ((Proofs.YtogckmommodmhaaGreatDoor.aF c.gl s (xs.map aS)).map Qj)) ∧
   (∀ bk,qp q ((Proofs.YtogckmommodmhaaGreatDoor.aF c.gl s (xs.map aS)).map Qj) bk→qp q iu bk∧qv q iu bk=qv q ((Proofs.YtogckmommodmhaaGreatDoor.aF c.gl s (xs.map aS)).map Qj) bk):=by
 have fa:=hR.aF xs
 by_cases hq:q=.pick
 ·obtain ⟨x,y,z,rfl⟩:=mf hq
  subst hq
  obtain ⟨h1,h2,h3,_⟩:=fa
  simp only[Proofs.YtogckmommodmhaaGreatDoor.aF,List.map_cons,List.map_nil,Ji,ob]at hc ⊢
  obtain ⟨c1,c2,c3⟩:=hc
  have hx:=BQ h1 c1
  cases hb:eN (Qj (aZ c.gl s (aS x))) with
  | true =>
   refine ⟨[Qj (aZ c.gl s (aS x)),Qj (aZ c.gl s (aS y)),.any],⟨hx,BQ h2 (c2 hb),.any _,trivial⟩,?_,fun bk hp=>?_⟩
   ·intro b dQ
    have:=IS hR [Qj (aZ c.gl s (aS x)),Qj (aZ c.gl s (aS y)),Qj (aZ c.gl s (aS z))] b
    refine this ?_
    revert dQ
    cases Qj (aZ c.gl s (aS x))<;>exact id
   ·obtain ⟨p1,p2,p3⟩:=hp
    exact ⟨⟨p1,p2,fun h=>by rw[hb]at h;cases h⟩,by simp[qv,hb]⟩
  | false =>
   refine ⟨[Qj (aZ c.gl s (aS x)),.any,Qj (aZ c.gl s (aS z))],⟨hx,.any _,BQ h3 (c3 hb),trivial⟩,?_,fun bk hp=>?_⟩
   ·intro b dQ
    have:=IS hR [Qj (aZ c.gl s (aS x)),Qj (aZ c.gl s (aS y)),Qj (aZ c.gl s (aS z))] b
    refine this ?_
    revert dQ
    cases Qj (aZ c.gl s (aS x))<;>exact id
   ·obtain ⟨p1,p2,p3⟩:=hp
    exact ⟨⟨p1,fun h=>(by rw[hb]at h;cases h),p3⟩,by simp[qv,hb]⟩
 ·have tn:Qt none (Proofs.YtogckmommodmhaaGreatDoor.aF c.gl s (xs.map aS)):=by
   cases q<;>first|exact absurd rfl hq|exact hc
  exact ⟨_,Xx fa tn,IS hR _,fun bk hp=>⟨hp,rfl⟩⟩
theorem PG {o:Oper} {q:Q1} {xs:List Operand} (h:tm P o=some (q,xs)) (hq:q=.pick):∃ x y z,xs=[x,y,z]:=by
 subst hq
 unfold tm Fb IB IC ID kN at h
 repeat' split at h
 all_goals first
  | (simp at h;obtain ⟨rfl⟩:=h;exact ⟨_,_,_,rfl⟩)
  | (simp at h;done)
  | (rename_i hh;cases hh;done)
  | (simp[Option.map_eq_some_iff]at h;done)
theorem wW {s s2:FS} {d:Nat} {v:AV} {rt rb:List Nat}:dj s2 (s.put d v) ⟨rt,rb,[d],[]⟩=s2.put d v:=by
 unfold dj FS.put
 congr 1
 ·funext i
  simp only[List.mem_singleton]
  by_cases h:d=i
  ·subst h;simp
  ·rw[if_neg (fun e=>h e.symm),if_neg h]
theorem ZT {s:FS} {d:Nat} {q:Q1} {xs:List Operand} {gd:Option (Nat × Bool)} (bc:mc ops io=some gd) (bg:io.dst=some d) (hd:d < c.N) (aH:tm P io=some (q,xs))
  (hp:wV c.gl s q (xs.map aS) gd):og P c ops io s (rX c.gl s d (xs.map aS) gd) (s.put d (rW c.gl s q (xs.map aS) gd)):=by
 refine ⟨fun i hi=>?_,fun b _=>rfl,?_⟩
 ·rw[FS.dh,if_neg]
  rintro rfl;exact hi (by simp[rX])
 ·intro s2 hT hH g a w hR K Q' hK
  have bj:aF c.gl s2 (xs.map aS)=aF c.gl s (xs.map aS):=Xu fun i hi=>hT i (by simp[rX,hi])
  have hg:∀ t b,gd=some (t,b)→s2.T t=s.T t:=fun t b e=>hT t (by simp[rX,e,jj])
  have oh:gB s2 gd=gB s gd:=by
   cases gd with
   | none=>rfl
   | some p=>obtain ⟨t,b⟩:=p;simp only[gB,hg t b rfl]
  have om:fx s2 gd ↔ fx s gd:=by
   cases gd with
   | none=>exact Iff.rfl
   | some p=>obtain ⟨t,b⟩:=p;simp only[fx,hg t b rfl]
  have IT:qe s2 ((aF c.gl s (xs.map aS)).map Qj)=qe s ((aF c.gl s (xs.map aS)).map Qj):=by
   unfold qe
   cases hn:Ju ((aF c.gl s (xs.map aS)).map Qj) with
   | none=>rfl
   | some b=>exact hH b (by simp[rX,hn])
  obtain ⟨p1,p2,p3⟩:=hp
  have lO:∀ v,VR g (Qn c g s2) w (rW c.gl s q (xs.map aS) gd) v→K (a.put io.dst v) w:=fun v hv=>by
   rw[bg]
   refine hK g _ w ?_
   rw[show rX c.gl s d (xs.map aS) gd=⟨jj gd++Xf (xs.map aS),(Ju ((aF c.gl s (xs.map aS)).map Qj)).toList,[d],[]⟩ from rfl,wW]
   exact hR.put hd hv
  unfold me
  rw[vi bc hR (om.2 p1),oh]
  -- where it is wanted
  have run:(∀ b,gB s gd=some b→b=true)→io.wp P a w K Q':=by
   intro hb
   have tu:Ji none q (aF c.gl s2 (xs.map aS)):=by
    rw[bj]
    cases b9:gB s gd with
    | none=>rw[b9]at p2;exact p2
    | some b =>
     have Fx:=hb b b9
     rw[b9]at p2
     by_cases hq:q=.pick
     ·obtain ⟨x,y,z,rfl⟩:=PG aH hq
      subst hq
      simp only[aF,List.map_cons,List.map_nil,Ji]at p2 ⊢
      exact ⟨PF Fx p2.1,p2.2.1 Fx,p2.2.2 Fx⟩
     ·have h1:Qt (some b) (aF c.gl s (xs.map aS)):=by cases q<;>first|exact absurd rfl hq|exact p2
      have h2:=zD Fx h1
      cases q<;>first|exact absurd rfl hq|exact h2
   have ZU:qp q ((aF c.gl s (xs.map aS)).map Qj) (qe s ((aF c.gl s (xs.map aS)).map Qj)):=by
    cases b9:gB s gd with
    | none=>rw[b9]at p3;exact p3
    | some b=>rw[b9]at p3;exact p3 (hb b b9)
   obtain ⟨iu,a1,a2,a3⟩:=ZS hR (fun h=>PG aH h) tu
   rw[bj,IT]at a2
   rw[bj]at a3
   obtain ⟨a4,a5⟩:=a3 _ ZU
   obtain ⟨v,hr,hv⟩:=ZO (P:=P) aH a.eval (fun _=>rfl) a1 a2 a4
   unfold Oper.wp
   rw[hr]
   refine lO v ?_
   rw[a5]at hv
   unfold rW
   cases b9:gB s gd with
   | none=>exact hv
   | some b=>exact .dx (fun _=>hv) fun h=>by rw[hb b b9]at h;cases h
  cases b9:gB s gd with
  | none=>simp only[Option.getD_none,if_true];exact run fun b h=>by rw[b9]at h;cases h
  | some b =>
   cases b with
   | true=>simp only[Option.getD_some,if_true];exact run fun b h=>by rw[b9]at h;cases h;rfl
   | false =>
    simp only[Option.getD_some,Bool.false_eq_true,if_false]
    refine lO undef ?_
    unfold rW
    rw[b9]
    exact .dx (fun h=>by cases h) fun _=>rfl
end
def kr:AV→Prop
 | .agg _=>True
 | v=>one v
def zE:TY→List AV→Nat→AV→Prop
 | .sc _,cs,off,v=>off < cs.length∧one v
 | .ag n,cs,off,.agg vs=>vs.length=n∧off + n≤cs.length
 | .ag _,_,_,_=>False
def tv (s:FS) (ty:TY) (a v:AV):Prop :=
 match a with
 | .ptr b off=>match s.H b with
  | .cells cs=>zE ty cs off v
  | _=>False
 | _=>False
def jk:AV→Nat
 | .ptr b _=>b
 | _=>0
def vj:AV→Nat
 | .ptr _ o=>o
 | _=>0
def Yu:Bk→List AV
 | .cells cs=>cs
 | _=>[]
section
variable {P:Program} {c:Cx} {ops:Array Oper} {io:Oper}
theorem PH {s s2:FS} {d b:Nat} {v:AV} {x:Bk} {rt rb:List Nat}:dj s2 ((s.aK b x).put d v) ⟨rt,rb,[d],[b]⟩=(s2.aK b x).put d v:=by
 unfold dj FS.put FS.aK
 congr 1
 ·funext i
  simp only[List.mem_singleton]
  by_cases h:d=i
  ·subst h;simp
  ·rw[if_neg (fun e=>h e.symm),if_neg h]
 ·funext i
  simp only[List.mem_singleton]
  by_cases h:b=i
  ·subst h;simp
  ·rw[if_neg (fun e=>h e.symm),if_neg h]
theorem BS {s s2:FS} {b:Nat} {x:Bk} {rt rb:List Nat}:dj s2 (s.aK b x) ⟨rt,rb,[],[b]⟩=s2.aK b x:=by
 unfold dj FS.aK
 congr 1
 funext i
 simp only[List.mem_singleton]
 by_cases h:b=i
 ·subst h;simp
 ·rw[if_neg (fun e=>h e.symm),if_neg h]
theorem Ys {a:Act} {w:World} {K:Act→World→Prop} {Q:Exit→Act→World→Prop} (h:io.guard=none) (hw:io.wp P a w K Q):me P ops io a w K Q:=by
 unfold me
 rw[Fw h];exact hw
theorem Ka (h:mc ops io=some none):io.guard=none:=by
 unfold mc at h
 cases hg:io.guard with
 | none=>rfl
 | some p =>
  obtain ⟨j,b⟩:=p
  rw[hg]at h
  simp only at h
  split at h<;>simp at h
theorem PI {s:FS} {d b:Nat} {cs:List AV} {rt:List Nat} (hg:io.guard=none) (bg:io.dst=some d) (hd:d < c.N) (hf:s.H b=.free)
  (dL:∀ s2:FS,(∀ i ∈ rt,s2.T i=s.T i)→∀ g a w,R c g s2 a w→∃ (cur:Array Value) (t:TypeId),(execOp a.eval io).run P w=.ok (.value (.pointer (some ⟨w.heap.size,0,none⟩))) (w.alloc (.cells cur t))∧cur.size=cs.length∧(∀ j,j < cs.length→(cur.getD j undef).oneCell'=true) ∧
   ∀ j,j < cs.length→VR g (Qn c g s2) w (cs.getD j .any) (cur.getD j undef)) :
  og P c ops io s ⟨rt,[b],[d],[b]⟩ ((s.aK b (.cells cs)).put d (.ptr b 0)):=by
 refine ⟨fun i hi=>?_,fun i hi=>?_,fun s2 hT hH g a w hR K Q' hK=>Ys hg ?_⟩
 ·rw[FS.dh,if_neg (fun e=>hi (by simp[e]))];rfl
 ·show (s.aK b _).H i=_
  rw[FS.bb,if_neg (fun e=>hi (by simp[e]))]
 ·obtain ⟨cur,t,hr,hs,h1,hv⟩:=dL s2 hT g a w hR
  unfold Oper.wp
  rw[hr]
  have jx:s2.H b=.free:=by rw[hH b au,hf]
  have iq:∀ k,Qn c g s2 k→k < w.heap.size:=by
   rintro k (h|⟨b',hl,fh⟩)
   ·have:=(hR.xs k h).1;have:=hR.fr.size;omega
   ·exact BR.lt (fh ▸ hR.h b') hl
  have bf:=hR.new (b:=b) (x:=.cells cs) (.cells cur t) jx trivial fun g' fh=>by
   exact .cells (cur:=cur) (e:=t) (fz:=(0,0)) (heap_alloc_new w _) ae h1 (fun j hj=>(hv j hj).mono (Fr.alloc w _ _) (fun k hk h=>h.resolve_right ae) fh) (.inl rfl)
  show K (a.put io.dst _) _
  rw[bg]
  refine hK (Za g b (.re w.heap.size)) _ _ ?_
  rw[PH]
  refine bf.put hd (.ptr ?_)
  simp[Za]
theorem ZV {s:FS} {d b:Nat} {t:TypeId} {z:Value} (bc:mc ops io=some none) (bl:io.op=.alloc t) (bg:io.dst=some d) (hd:d < c.N) (hz:(P.info? t).bind (·.zero)=some z) (h1:z.cells.all (·.oneCell')=true) (hf:s.H b=.free) :
  og P c ops io s ⟨[],[b],[d],[b]⟩ ((s.aK b (.cells (z.cells.toList.map fg))).put d (.ptr b 0)):=by
 refine PI (Ka bc) bg hd hf fun s2 _ g a w hR=>⟨z.cells,t,?_,by simp,?_⟩
 ·cases hi:P.info? t with
  | none=>rw[hi]at hz;simp at hz
  | some i =>
   rw[hi]at hz;simp at hz
   simp[execOp,bl,Instr.alloc,zeroValue,typeInfo,hi,hz,newVar,newRow,newObj,Sem.run]
 ·have hv:=Fe (g:=g) (W:=Qn c g s2) (w:=w) (.agg z.cells)
  have n9:tj (.agg z.cells)=.agg (z.cells.toList.map fg):=if_pos h1
  rw[n9]at hv
  obtain ⟨us,e,q1,q2,q3⟩:=Wv hv
  cases e
  exact ⟨q2,q3⟩
theorem ZW {s:FS} {d b:Nat} {t:TypeId} {x:Operand} (bc:mc ops io=some none) (bl:io.op=.box t x) (bg:io.dst=some d) (hd:d < c.N) (hx:kr (aZ c.gl s (aS x))) (hf:s.H b=.free) :
  og P c ops io s ⟨Xf [aS x],[b],[d],[b]⟩ ((s.aK b (.cells (Kc (aZ c.gl s (aS x))))).put d (.ptr b 0)):=by
 refine PI (Ka bc) bg hd hf fun s2 hT g a w hR=>?_
 have fa:=hR.ev x
 have he:aZ c.gl s2 (aS x)=aZ c.gl s (aS x):=by
  have:=Xu (gl:=c.gl) (xs:=[aS x]) hT
  simpa [aF] using this
 rw[he]at fa
 have hr:(execOp a.eval io).run P w=.ok (.value (.pointer (some ⟨w.heap.size,0,none⟩))) (w.alloc (.cells (a.eval x).cells t)):=by
  simp[execOp,bl,Instr.box,newVar,newRow,newObj,Sem.run]
 refine ⟨_,_,hr,?_⟩
 by_cases zw:∃ vs,aZ c.gl s (aS x)=.agg vs
 ·obtain ⟨vs,e⟩:=zw
  rw[e]at fa ⊢
  obtain ⟨us,e2,q1,q2,q3⟩:=Wv fa
  rw[e2]
  exact ⟨q1,q2,q3⟩
 ·have h1:one (aZ c.gl s (aS x)):=by
   revert hx zw
   cases aZ c.gl s (aS x)<;>simp[kr,one]
  have pw:=fa.one h1
  have aW:Kc (aZ c.gl s (aS x))=[aZ c.gl s (aS x)]:=by
   revert zw
   cases aZ c.gl s (aS x)<;>simp[Kc]
  rw[aW,II pw]
  exact ⟨rfl,fun j hj=>by simp at hj;subst hj;exact pw,fun j hj=>by simp at hj;subst hj;exact fa⟩
theorem IU (w:World) (k o:Nat) (v:Value) (i:Nat):(w.setCell ⟨k,o,none⟩ v).heap[i]?=if i=k then (w.heap[k]?).map (fun x=>match x with|.cells c e fz=>.cells (c.setIfInBounds o v) e fz|x=>x) else w.heap[i]?:=by
 simp only[World.setCell,Array.getElem?_modify]
 by_cases h:k=i
 ·subst h;simp
  cases w.heap[k]? with
  | none=>rfl
  | some x=>cases x<;>rfl
 ·rw[if_neg h,if_neg (fun e=>h e.symm)]
theorem IV {k:Nat} {e:TypeId} {fz:Nat × Nat} (off:Nat):∀ (vs:List Value) (i:Nat) (w:World) (cur:Array Value),w.heap[k]?=some (.cells cur e fz)→(∀ v ∈ vs,v.oneCell'=true)→off + i + vs.length≤cur.size→(fz=(0,0)∨cur.size≤fz.1) →
  ∃ w' eM,(storeCells ⟨k,off,none⟩ vs i).run P w=.ok () w'∧w'.heap[k]?=some (.cells eM e fz)∧eM.size=cur.size∧(∀ j,eM.getD j undef=if off + i≤j∧j < off + i + vs.length∧j < cur.size then vs.getD (j - (off + i)) undef else cur.getD j undef)∧Fr w w' (fun x=>x=k)
 | [],i,w,cur,hb,_,_,_=>⟨w,cur,rfl,hb,rfl,fun j=>by rw[if_neg (by simp;omega)],Fr.refl _ _⟩
 | v::vs,i,w,cur,hb,h1,hl,hf=>by
  have hlt:off + i < cur.size:=by simp at hl;omega
  have eD:w.cell? ⟨k,off + i,none⟩=some cur[off + i]:=by rw[cell_of_row w k _ cur e fz hb];simp[hlt]
  have m8:w.frozen? ⟨k,off + i,none⟩=false:=by
   simp only[World.frozen?,hb]
   rcases hf with h|h
   ·subst h;simp
   ·simp only[Bool.and_eq_false_iff,decide_eq_false_iff_not];omega
  have ep:(store ⟨k,off + i,none⟩ v).run P w=.ok () (w.setCell ⟨k,off + i,none⟩ v):=by
   rw[run_store P w _ v _ (h1 v au),eD]
   simp[m8]
  have bH:(w.setCell ⟨k,off + i,none⟩ v).heap[k]?=some (.cells (cur.setIfInBounds (off + i) v) e fz):=by rw[IU,if_pos rfl,hb];rfl
  obtain ⟨w',eM,hr,zy,hs,hg,mg⟩:=IV off vs (i + 1) _ _ bH (fun u hu=>h1 u (by simp[hu])) (by simp at hl ⊢;omega) (by simpa using hf)
  refine ⟨w',eM,?_,zy,by rw[hs];simp,fun j=>?_,?_⟩
  ·simp only[storeCells,Sem.run_bind,add_lit,ep,Result.andThen_ok,hr]
  ·rw[hg j]
   simp only[Array.size_setIfInBounds,List.length_cons]
   by_cases hj:j=off + i
   ·subst hj
    rw[if_neg ae,if_pos ae]
    simp[hlt]
   ·have e:(cur.setIfInBounds (off + i) v).getD j undef=cur.getD j undef:=by
     simp only[Array.getD_eq_getD_getElem?,Array.getElem?_setIfInBounds]
     rw[if_neg (fun h=>hj h.symm)]
    rw[e]
    by_cases hc:off + (i + 1)≤j∧j < off + (i + 1) + vs.length∧j < cur.size
    ·rw[if_pos hc,if_pos ae]
     have:j - (off + i)=(j - (off + (i + 1))) + 1:=by omega
     rw[this];simp
    ·rw[if_neg hc,if_neg ae]
  ·have h0:Fr w (w.setCell ⟨k,off + i,none⟩ v) (fun x=>x=k):=by
    refine ⟨rfl,rfl,rfl,by simp[World.setCell],fun x _ hx=>by rw[IU,if_neg hx],fun x c0 e0 f0 hx=>?_⟩
    rw[IU]
    split
    ·rename_i ex;subst ex
     rw[hb]at hx;cases hx
     rw[hb]
     exact ⟨_,rfl,by simp⟩
    ·exact ⟨c0,hx,rfl⟩
   exact h0.trans mg fun i _ h=>h
theorem zF {cur:Array Value} {n j:Nat} (h:j < n):(cur.extract 0 n).getD j undef=cur.getD j undef:=by
 simp only[Array.getD_eq_getD_getElem?,Array.getElem?_extract]
 by_cases hj:j < cur.size
 ·rw[if_pos ae];simp
 ·rw[if_neg ae];simp[Nat.le_of_not_lt hj]
theorem ZX {s:FS} {t:TypeId} {ty:TY} {xa xv:Operand} (bc:mc ops io=some none) (bl:io.op=.store t xa xv) (bg:io.dst=none) (jw:kM P t=some ty)
  (hp:tv s ty (aZ c.gl s (aS xa)) (aZ c.gl s (aS xv))) :
  og P c ops io s ⟨Xf [aS xa,aS xv],[jk (aZ c.gl s (aS xa))],[],[jk (aZ c.gl s (aS xa))]⟩
   (s.aK (jk (aZ c.gl s (aS xa))) (.cells (ti ty (Yu (s.H (jk (aZ c.gl s (aS xa))))) (vj (aZ c.gl s (aS xa))) (aZ c.gl s (aS xv))))):=by
 cases PJ:aZ c.gl s (aS xa)<;>rw[PJ]at hp<;>simp only[tv]at hp
 rename_i b off
 simp only[jk,vj]
 cases hH:s.H b<;>rw[hH]at hp<;>simp only at hp
 rename_i cs
 simp only[Yu]
 refine ⟨fun i _=>rfl,fun i hi=>by rw[FS.bb,if_neg (fun e=>hi (by simp[e]))],fun s2 hT ZY g a w hR K Q' hK=>Ys (Ka bc) ?_⟩
 have bj:=Xu (gl:=c.gl) (xs:=[aS xa,aS xv]) hT
 simp only[aF,List.map_cons,List.map_nil,List.cons.injEq,and_true]at bj
 have PL:=hR.ev xa
 have tw:=hR.ev xv
 rw[bj.1,PJ]at PL
 rw[bj.2]at tw
 obtain ⟨k,e1,e2⟩:=zx PL
 have dE:s2.H b=.cells cs:=by rw[ZY b au,hH]
 have dT:=hR.h b
 rw[dE,e2]at dT
 -- the cells wX are stored
 have piece:∃ (vs:List AV),(a.eval xv).cells.size=vs.length∧off + vs.length≤cs.length∧Zh P t=some vs.length∧(∀ j,j < vs.length→((a.eval xv).cells.getD j undef).oneCell'=true)∧(∀ j,j < vs.length→VR g (Qn c g s2) w (vs.getD j .any) ((a.eval xv).cells.getD j undef)) ∧
   ti ty cs off (aZ c.gl s (aS xv))=Yp cs off vs:=by
  cases ty with
  | sc q =>
   obtain ⟨hs,_⟩:=Pm jw
   obtain ⟨p1,p2⟩:=hp
   have h1:=tw.one p2
   rw[II h1]
   refine ⟨[aZ c.gl s (aS xv)],rfl,by simp;omega,hs,fun j hj=>?_,fun j hj=>?_,Pz p1⟩
   ·simp at hj;subst hj;exact h1
   ·simp at hj;subst hj;exact tw
  | ag n =>
   obtain ⟨hs,_⟩:=Ff jw
   clear hK
   generalize aZ c.gl s (aS xv)=ev at hp tw
   cases ev<;>simp only[zE]at hp
   rename_i vs
   obtain ⟨us,e3,q1,q2,q3⟩:=Wv tw
   rw[e3]
   exact ⟨vs,q1,by omega,by rw[hs,hp.1],q2,q3,rfl⟩
 obtain ⟨vs,q1,q2,q3,q4,q5,q6⟩:=piece
 rw[q6]at hK
 by_cases bY:0 < cs.length
 ·cases dT with
  | cells hb hl h1 hv hf =>
   rename_i cur e fz
   obtain ⟨w',eM,r1,r2,r3,r4,r5⟩:=IV (P:=P) off (a.eval xv).cells.toList 0 w cur hb (fun v hv=>by
    obtain ⟨j,hj,e⟩:=List.getElem_of_mem hv
    have cV:j < vs.length:=by rw[← q1];simpa using hj
    have:=q4 j cV
    have e':(a.eval xv).cells.getD j undef=v:=by
     rw[← e]
     have:j < (a.eval xv).cells.size:=by simpa using hj
     simp[Array.getD,this]
    rw[← e'];exact this) (by simp[q1];omega) hf
   have dL:(execOp a.eval io).run P w=.ok .skip w':=by
    simp only[execOp,bl,e1,Instr.storeAt,Instr.sureAddr,storeVar,Sem.run_bind,Sem.run_pure,Result.andThen_ok,Jt q3]
    rw[if_neg (by rw[q1];simp)]
    simp[r1]
   unfold Oper.wp
   rw[dL]
   show K (a.put io.dst undef) w'
   rw[bg]
   refine hK g a w' ?_
   rw[BS]
   have aO:(s2.H b).live:=by rw[dE];trivial
   have hk:Qn c g s2 k:=.inr ⟨b,aO,e2⟩
   have kR:∀ {x v},VR g (Qn c g s2) w x v→VR g (Qn c g s2) w' x v:=fun hx=>hx.mono (r5.weak fun i e=>e ▸ hk) (fun _ _ h=>h) (fun _ _=>rfl)
   -- the row iu it was,but for its end,and the piece
   obtain ⟨t1,t2,t3⟩:=Py (g:=g) (W:=Qn c g s2) (w:=w') (cs:=cs) (cells:=cur.extract 0 cs.length) (by simp;omega)
    (fun j hj=>by rw[zF hj];exact h1 j hj) (fun j hj=>by rw[zF hj];exact kR (hv j hj)) (vs:=vs) (us:=(a.eval xv).cells) q1 q4 (fun j hj=>kR (q5 j hj)) q2 (cells':=eM.extract 0 cs.length) (by simp;omega) (fun j=>by
     by_cases hj:j < cs.length
     ·rw[zF hj,zF hj,r4 j]
      simp only[Nat.add_zero,Array.length_toList,Array.size_extract,Nat.sub_zero]
      by_cases kS:off≤j∧j < off + (a.eval xv).cells.size
      ·rw[if_pos ae,if_pos ae]
       simp[Array.getD_eq_getD_getElem?]
      ·rw[if_neg ae,if_neg ae]
     ·rw[if_neg (by simp;omega)]
      have e1:(eM.extract 0 cs.length).getD j undef=undef:=by simp[Array.getD];omega
      have e2:(cur.extract 0 cs.length).getD j undef=undef:=by simp[Array.getD];omega
      rw[e1,e2])
   have hlen:=Px q2
   refine hR.setBlock e2 aO trivial r5 (.cells r2 (by rw[hlen,r3];exact hl) (fun j hj=>?_) (fun j hj=>?_) (by rw[r3];exact hf))
   ·have:=t2 j hj;rwa [zF ae]at this
   ·have:=t3 j hj;rwa [zF ae]at this
 ·have jy:cs=[]:=List.eq_nil_of_length_eq_zero ae
  subst jy
  have IW:vs=[]:=List.eq_nil_of_length_eq_zero (by simp at q2;simp[q2])
  subst IW
  have dL:(execOp a.eval io).run P w=.ok .skip w:=by
   have pw:(a.eval xv).cells=#[]:=Array.eq_empty_of_size_eq_zero q1
   simp only[execOp,bl,e1,Instr.storeAt,Instr.sureAddr,storeVar,Sem.run_bind,Sem.run_pure,Result.andThen_ok,Jt q3]
   rw[if_neg (by rw[q1];simp)]
   simp[pw,storeCells]
  unfold Oper.wp
  rw[dL]
  show K (a.put io.dst undef) w
  rw[bg]
  refine hK g a w ?_
  rw[BS]
  have:s2.aK b (.cells (Yp [] off []))=s2:=by
   unfold FS.aK Yp
   cases s2
   congr 1
   funext i
   split
   ·rename_i e;subst e;simp at dE;simp[dE]
   ·rfl
  rw[this];exact hR
end
section
variable {P:Program} {N:Nat} {ops:Array Oper} {io:Oper}
theorem ZZ {d:Nat} {q:Q1} {xs:List TV} {gd:Option (Nat × Bool)} (h:Uc P N ops io=some (.q d q xs gd)) :
  mc ops io=some gd∧io.dst=some d∧d < N∧∃ ys,tm P io=some (q,ys)∧xs=ys.map aS:=by
 unfold Uc at h
 split at h
 ·cases h
 ·rename_i BT hg
  split at h
  ·split at h
   ·split at h<;>simp at h
   ·cases h
  ·split at h<;>simp at h
  ·split at h<;>simp at h
  ·split at h
   ·rename_i q' ys d' hq hd
    split at h
    ·rename_i hlt
     simp only[Option.some.injEq,bG.q.injEq]at h
     obtain ⟨rfl,rfl,rfl,rfl⟩:=h
     exact ⟨hg,hd,hlt,ys,hq,rfl⟩
    ·cases h
   ·split at h
    ·split at h<;>simp at h
    ·cases h
theorem Z0 {d:Nat} {z:List AV} (h:Uc P N ops io=some (.al d z)):mc ops io=some none∧io.dst=some d∧d < N∧∃ t zv,io.op=.alloc t∧(P.info? t).bind (·.zero)=some zv∧zv.cells.all (·.oneCell')=true∧z=zv.cells.toList.map fg:=by
 unfold Uc at h
 split at h
 ·cases h
 ·rename_i BT hg
  split at h
  ·rename_i t d' bl hd
   split at h
   ·rename_i zv hz
    split at h
    ·rename_i hc
     simp only[Option.some.injEq,bG.al.injEq]at h
     obtain ⟨rfl,rfl⟩:=h
     exact ⟨hg,hd,hc.1,t,zv,bl,hz,hc.2,rfl⟩
    ·cases h
   ·cases h
  ·split at h<;>simp at h
  ·split at h<;>simp at h
  ·split at h
   ·split at h<;>simp at h
   ·split at h
    ·split at h<;>simp at h
    ·cases h
theorem Z4 {d:Nat} {x:TV} (h:Uc P N ops io=some (.bx d x)):mc ops io=some none∧io.dst=some d∧d < N∧∃ t y,io.op=.box t y∧x=aS y:=by
 unfold Uc at h
 split at h
 ·cases h
 ·rename_i BT hg
  split at h
  ·split at h
   ·split at h<;>simp at h
   ·cases h
  ·rename_i t y d' bl hd
   split at h
   ·rename_i hc
    simp only[Option.some.injEq,bG.bx.injEq]at h
    obtain ⟨rfl,rfl⟩:=h
    exact ⟨by rw[hg,hc.2],hd,hc.1,t,y,bl,rfl⟩
   ·cases h
  ·split at h<;>simp at h
  ·split at h
   ·split at h<;>simp at h
   ·split at h
    ·split at h<;>simp at h
    ·cases h
theorem Z5 {ty:TY} {x y:TV} (h:Uc P N ops io=some (.rV ty x y)):mc ops io=some none∧io.dst=none∧∃ t xa xv,io.op=.store t xa xv∧kM P t=some ty∧x=aS xa∧y=aS xv:=by
 unfold Uc at h
 split at h
 ·cases h
 ·rename_i BT hg
  split at h
  ·split at h
   ·split at h<;>simp at h
   ·cases h
  ·split at h<;>simp at h
  ·rename_i t a v bl hd
   split at h
   ·rename_i jw
    simp only[Option.some.injEq,bG.rV.injEq]at h
    obtain ⟨rfl,rfl,rfl⟩:=h
    exact ⟨hg,hd,t,a,v,bl,jw,rfl,rfl⟩
   ·cases h
  ·split at h
   ·split at h<;>simp at h
   ·split at h
    ·split at h<;>simp at h
    ·cases h
theorem Zl {d:Option Nat} {k:PK} {xs:List TV} {gd:Option (Nat × Bool)} (h:Uc P N ops io=some (.pd d k xs gd)) :
  mc ops io=some gd∧io.dst=d∧d.all (· < N)=true∧∃ ys,Xy P io=some (k,ys)∧xs=ys.map aS:=by
 unfold Uc at h
 split at h
 ·cases h
 ·rename_i BT hg
  split at h
  ·split at h
   ·split at h<;>simp at h
   ·cases h
  ·split at h<;>simp at h
  ·split at h<;>simp at h
  ·split at h
   ·split at h<;>simp at h
   ·split at h
    ·rename_i k' ys hk
     split at h
     ·rename_i hd
      simp only[Option.some.injEq,bG.pd.injEq]at h
      obtain ⟨rfl,rfl,rfl,rfl⟩:=h
      exact ⟨hg,rfl,hd,ys,hk,rfl⟩
     ·cases h
    ·cases h
end
def Kv (P:Program) (c:Cx) (o:bG) (s:FS) (F:bp) (s':FS):Prop:=∀ ops io,Uc P c.N ops io=some o→og P c ops io s F s'
def IX (P:Program) (c:Cx) (o:bG) (K:St→Prop) (s:St):Prop:=∃ F s',Kv P c o s.fs F s'.fs∧K s'
def Fy (P:Program) (c:Cx) (o:bG) (K:St→Prop) (s:St):Prop:=∀ ops io,Uc P c.N ops io=some o→∀ g a w,R c g s.fs a w→∀ (K':Act→World→Prop) (Q':Exit→Act→World→Prop),(∀ g' s' a' w',K s'→R c g' s'.fs a' w'→K' a' w')→me P ops io a w K' Q'
def IY (P:Program) (c:Cx) (o:bG) (K:bp→St→Prop) (s:St):Prop:=∃ F s',Kv P c o s.fs F s'.fs∧K F s'
def XP (P:Program) (c:Cx):List bG→(St→Prop)→St→Prop
 | [],K,s=>K s
 | .q d q xs gd::r,K,s=>wV c.gl s.fs q xs gd∧XP P c r K (s.put d (rW c.gl s.fs q xs gd))
 | .al d z::r,K,s=>s.fs.H s.n=.free∧XP P c r K ((s.nw (.cells z)).put d (.ptr s.n 0))
 | .bx d x::r,K,s=>kr (aZ c.gl s.fs x)∧s.fs.H s.n=.free∧XP P c r K ((s.nw (.cells (Kc (aZ c.gl s.fs x)))).put d (.ptr s.n 0))
 | .rV ty a v::r,K,s=>tv s.fs ty (aZ c.gl s.fs a) (aZ c.gl s.fs v) ∧
   XP P c r K (s.aK (jk (aZ c.gl s.fs a)) (.cells (ti ty (Yu (s.fs.H (jk (aZ c.gl s.fs a)))) (vj (aZ c.gl s.fs a)) (aZ c.gl s.fs v))))
 | .pd d k xs gd::r,K,s=>IX P c (.pd d k xs gd) (XP P c r K) s∨Fy P c (.pd d k xs gd) (XP P c r K) s
def cN (x y:bp):Bool:=x.wt.any (fun i=>y.rt.contains i || y.wt.contains i) || y.wt.any (fun i=>x.rt.contains i) || x.wb.any (fun i=>y.rb.contains i || y.wb.contains i) || y.wb.any (fun i=>x.rb.contains i)
def Ub (anc:Nat) (y:bp):Nat→List bp→Bool
 | _,[]=>true
 | i,x::r=>(!cN x y || anc.testBit i) && Ub anc y (i + 1) r
def Us (anc:List Nat) (fs:List bp):List bp→Bool
 | []=>true
 | y::r=>Ub (anc.getD fs.length 0) y 0 fs && Us anc (fs++[y]) r
def XD (P:Program) (c:Cx) (anc:List Nat):List bG→List bp→(St→Prop)→St→Prop
 | [],fs,K,s=>Us anc [] fs.reverse=true∧K s
 | .q d q xs gd::r,fs,K,s=>wV c.gl s.fs q xs gd∧XD P c anc r (rX c.gl s.fs d xs gd::fs) K (s.put d (rW c.gl s.fs q xs gd))
 | .al d z::r,fs,K,s=>s.fs.H s.n=.free∧XD P c anc r (⟨[],[s.n],[d],[s.n]⟩::fs) K ((s.nw (.cells z)).put d (.ptr s.n 0))
 | .bx d x::r,fs,K,s=>kr (aZ c.gl s.fs x)∧s.fs.H s.n=.free∧XD P c anc r (⟨Xf [x],[s.n],[d],[s.n]⟩::fs) K ((s.nw (.cells (Kc (aZ c.gl s.fs x)))).put d (.ptr s.n 0))
 | .rV ty a v::r,fs,K,s=>tv s.fs ty (aZ c.gl s.fs a) (aZ c.gl s.fs v) ∧
   XD P c anc r (⟨Xf [a,v],[jk (aZ c.gl s.fs a)],[],[jk (aZ c.gl s.fs a)]⟩::fs) K (s.aK (jk (aZ c.gl s.fs a)) (.cells (ti ty (Yu (s.fs.H (jk (aZ c.gl s.fs a)))) (vj (aZ c.gl s.fs a)) (aZ c.gl s.fs v))))
 | .pd d k xs gd::r,fs,K,s=>IY P c (.pd d k xs gd) (fun F=>XD P c anc r (F::fs) K) s
def Xw (P:Program) (c:Cx) (o:bG) (r:List bG) (K:St→Prop) (s:St):Prop:=IX P c o (XP P c r K) s∨Fy P c o (XP P c r K) s
def Zi (P:Program) (c:Cx) (anc:List Nat) (o:bG) (r:List bG) (fs:List bp) (K:St→Prop) (s:St):Prop:=IY P c o (fun F=>XD P c anc r (F::fs) K) s
section
variable {P:Program} {c:Cx} {K:St→Prop} {s:St} {r:List bG} {anc:List Nat} {fs:List bp}
theorem Z6:XP P c [] K s=K s:=rfl
theorem Z7 (d:Nat) (q:Q1) (xs:List TV) (gd:Option (Nat × Bool)):XP P c (.q d q xs gd::r) K s=(wV c.gl s.fs q xs gd∧XP P c r K (s.put d (rW c.gl s.fs q xs gd))):=rfl
theorem Z8 (d:Nat) (z:List AV):XP P c (.al d z::r) K s=(s.fs.H s.n=.free∧XP P c r K ((s.nw (.cells z)).put d (.ptr s.n 0))):=rfl
theorem Z9 (d:Nat) (x:TV):XP P c (.bx d x::r) K s=(kr (aZ c.gl s.fs x)∧s.fs.H s.n=.free∧XP P c r K ((s.nw (.cells (Kc (aZ c.gl s.fs x)))).put d (.ptr s.n 0))):=rfl
theorem Ydm (ty:TY) (a v:TV):XP P c (.rV ty a v::r) K s=(tv s.fs ty (aZ c.gl s.fs a) (aZ c.gl s.fs v) ∧
   XP P c r K (s.aK (jk (aZ c.gl s.fs a)) (.cells (ti ty (Yu (s.fs.H (jk (aZ c.gl s.fs a)))) (vj (aZ c.gl s.fs a)) (aZ c.gl s.fs v))))):=rfl
theorem Yet (d:Option Nat) (k:PK) (xs:List TV) (gd:Option (Nat × Bool)):XP P c (.pd d k xs gd::r) K s=Xw P c (.pd d k xs gd) r K s:=rfl
theorem Yc7:XD P c anc [] fs K s=(Us anc [] fs.reverse=true∧K s):=rfl
theorem Yfz (d:Nat) (q:Q1) (xs:List TV) (gd:Option (Nat × Bool)):XD P c anc (.q d q xs gd::r) fs K s=(wV c.gl s.fs q xs gd∧XD P c anc r (rX c.gl s.fs d xs gd::fs) K (s.put d (rW c.gl s.fs q xs gd))):=rfl
theorem Yeo (d:Nat) (z:List AV):XD P c anc (.al d z::r) fs K s=(s.fs.H s.n=.free∧XD P c anc r (⟨[],[s.n],[d],[s.n]⟩::fs) K ((s.nw (.cells z)).put d (.ptr s.n 0))):=rfl
theorem Yei (d:Nat) (x:TV):XD P c anc (.bx d x::r) fs K s=(kr (aZ c.gl s.fs x)∧s.fs.H s.n=.free∧XD P c anc r (⟨Xf [x],[s.n],[d],[s.n]⟩::fs) K ((s.nw (.cells (Kc (aZ c.gl s.fs x)))).put d (.ptr s.n 0))):=rfl
theorem Ycq (ty:TY) (a v:TV):XD P c anc (.rV ty a v::r) fs K s=(tv s.fs ty (aZ c.gl s.fs a) (aZ c.gl s.fs v) ∧
   XD P c anc r (⟨Xf [a,v],[jk (aZ c.gl s.fs a)],[],[jk (aZ c.gl s.fs a)]⟩::fs) K (s.aK (jk (aZ c.gl s.fs a)) (.cells (ti ty (Yu (s.fs.H (jk (aZ c.gl s.fs a)))) (vj (aZ c.gl s.fs a)) (aZ c.gl s.fs v))))):=rfl
theorem Yf6 (d:Option Nat) (k:PK) (xs:List TV) (gd:Option (Nat × Bool)):XD P c anc (.pd d k xs gd::r) fs K s=Zi P c anc (.pd d k xs gd) r fs K s:=rfl
end
section
variable {P:Program} {c:Cx}
theorem PM {s:St} {d:Nat} {q:Q1} {xs:List TV} {gd:Option (Nat × Bool)} (hp:wV c.gl s.fs q xs gd):Kv P c (.q d q xs gd) s.fs (rX c.gl s.fs d xs gd) (s.put d (rW c.gl s.fs q xs gd)).fs:=by
 intro ops io he
 obtain ⟨h1,h2,h3,ys,h4,rfl⟩:=ZZ he
 rw[St.bS]
 exact ZT h1 h2 h3 h4 hp
theorem PN {s:St} {d:Nat} {z:List AV} (hf:s.fs.H s.n=.free):Kv P c (.al d z) s.fs ⟨[],[s.n],[d],[s.n]⟩ ((s.nw (.cells z)).put d (.ptr s.n 0)).fs:=by
 intro ops io he
 obtain ⟨h1,h2,h3,t,zv,h4,h5,h6,rfl⟩:=Z0 he
 rw[St.bS,St.gW]
 exact ZV h1 h4 h2 h3 h5 h6 hf
theorem PO {s:St} {d:Nat} {x:TV} (hx:kr (aZ c.gl s.fs x)) (hf:s.fs.H s.n=.free):Kv P c (.bx d x) s.fs ⟨Xf [x],[s.n],[d],[s.n]⟩ ((s.nw (.cells (Kc (aZ c.gl s.fs x)))).put d (.ptr s.n 0)).fs:=by
 intro ops io he
 obtain ⟨h1,h2,h3,t,y,h4,rfl⟩:=Z4 he
 rw[St.bS,St.gW]
 exact ZW h1 h4 h2 h3 hx hf
theorem PQ {s:St} {ty:TY} {a v:TV} (hp:tv s.fs ty (aZ c.gl s.fs a) (aZ c.gl s.fs v)) :
  Kv P c (.rV ty a v) s.fs ⟨Xf [a,v],[jk (aZ c.gl s.fs a)],[],[jk (aZ c.gl s.fs a)]⟩ (s.aK (jk (aZ c.gl s.fs a)) (.cells (ti ty (Yu (s.fs.H (jk (aZ c.gl s.fs a)))) (vj (aZ c.gl s.fs a)) (aZ c.gl s.fs v)))).fs:=by
 intro ops io he
 obtain ⟨h1,h2,t,xa,xv,h3,h4,rfl,rfl⟩:=Z5 he
 rw[St.cL]
 exact ZX h1 h3 h2 h4 hp
theorem Yaf {o:bG} {r:List bG} {K:St→Prop} {s:St} (h:XP P c (o::r) K s):(∃ F s',Kv P c o s.fs F s'.fs∧XP P c r K s')∨Fy P c o (XP P c r K) s:=by
 cases o with
 | q d q xs gd=>exact .inl ⟨_,_,PM h.1,h.2⟩
 | al d z=>exact .inl ⟨_,_,PN h.1,h.2⟩
 | bx d x=>exact .inl ⟨_,_,PO h.1 h.2.1,h.2.2⟩
 | rV ty a v=>exact .inl ⟨_,_,PQ h.1,h.2⟩
 | pd d k xs gd=>exact h
theorem Yb5 {anc:List Nat} {o:bG} {r:List bG} {fs:List bp} {K:St→Prop} {s:St} (h:XD P c anc (o::r) fs K s):∃ F s',Kv P c o s.fs F s'.fs∧XD P c anc r (F::fs) K s':=by
 cases o with
 | q d q xs gd=>exact ⟨_,_,PM h.1,h.2⟩
 | al d z=>exact ⟨_,_,PN h.1,h.2⟩
 | bx d x=>exact ⟨_,_,PO h.1 h.2.1,h.2.2⟩
 | rV ty a v=>exact ⟨_,_,PQ h.1,h.2⟩
 | pd d k xs gd=>exact h
def rY (P:Program) (N:Nat) (ops:Array Oper):List Oper→Option (List bG)
 | []=>some []
 | o::r=>match Uc P N ops o,rY P N ops r with
  | some x,some l=>some (x::l)
  | _,_=>none
theorem IZ {ops:Array Oper} {Q:Exit→Act→World→Prop} {K:St→Prop} (hK:∀ s g a w,K s→R c g s.fs a w→Q .normal a w):∀ (os:List Oper) (l:List bG) (s:St),rY P c.N ops os=some l→XP P c l K s →
  ∀ g a w,R c g s.fs a w→wpList P ops Q os a w
 | [],l,s,he,h,g,a,w,hR=>by
  simp[rY]at he;subst he
  exact hK s g a w h hR
 | o::os,l,s,he,h,g,a,w,hR=>by
  unfold rY at he
  split at he
  ·rename_i x l' hx hl
   simp at he;subst he
   have:me P ops o a w (wpList P ops Q os) Q:=by
    rcases Yaf h with ⟨F,s',hA,hr⟩|hS
    ·have wY:=hA ops o hx
     exact wY.step s.fs (fun _ _=>rfl) (fun _ _=>rfl) g a w hR (wpList P ops Q os) Q fun g' a' w' bf=>by
      rw[zB wY.bh wY.cZ]at bf
      exact IZ hK os l' s' hl hr g' a' w' bf
    ·exact hS ops o hx g a w hR (wpList P ops Q os) Q fun g' s' a' w' hk bf=>IZ hK os l' s' hl hk g' a' w' bf
   unfold me at this
   unfold wpList
   split
   ·rename_i hw;rw[if_pos hw]at this;exact .inl this
   ·rename_i hw;rw[if_neg hw]at this;exact this
  ·cases he
end
def ox (o:Oper):List Nat:=(o.after.toList.filter fun e=>Region.binds .any e).map (·.on)
def tz (acc:List Nat):List Nat→Nat
 | []=>0
 | e::r=>(tz acc r ||| (1 <<< e)) ||| acc.getD e 0
def zG:List Oper→List Nat→List Nat
 | [],acc=>acc
 | o::r,acc=>zG r (acc++[tz acc (ox o)])
theorem PR (acc:List Nat) (i:Nat):∀ l:List Nat,(tz acc l).testBit i=true→i ∈ l∨∃ e ∈ l,(acc.getD e 0).testBit i=true
 | [],h=>by simp[tz]at h
 | e::r,h=>by
  simp only[tz,Nat.testBit_or,Bool.or_eq_true]at h
  rcases h with (h|h)|h
  ·rcases PR acc i r h with h|⟨x,hx,h⟩
   ·exact .inl (by simp[h])
   ·exact .inr ⟨x,by simp[hx],h⟩
  ·rw[Nat.one_shiftLeft,Nat.testBit_two_pow]at h
   exact .inl (by simp at h;simp[h])
  ·exact .inr ⟨e,by simp,h⟩
def I0 (ops:Array Oper):Bool:=(List.range ops.size).all fun j=>match ops[j]? with
 | some o=>(ox o).all (· < j)
 | none=>true
theorem PT {ops:Array Oper} {L:Nat→Prop} (aW:∀ (j:Nat) o,ops[j]?=some o→L j→∀ e ∈ ox o,L e):∀ (l:List Oper) (acc:List Nat),(∀ i,l[i]?=ops[acc.length + i]?) →
  (∀ j,j < acc.length→L j→∀ i,(acc.getD j 0).testBit i=true→L i)→∀ j,L j→∀ i,((zG l acc).getD j 0).testBit i=true→L i
 | [],acc,_,h,j,hj,i,hi=>by
  by_cases hlt:j < acc.length
  ·exact h j hlt hj i hi
  ·have:acc.getD j 0=0:=by simp[List.getD,Nat.le_of_not_lt hlt]
   rw[zG,this]at hi;simp at hi
 | o::r,acc,hl,h,j,hj,i,hi=>by
  refine PT aW r (acc++[tz acc (ox o)]) (fun k=>?_) (fun k hk I1 m hm=>?_) j hj i hi
  ·have:=hl (k + 1)
   simp only[List.getElem?_cons_succ]at this
   rw[this]
   congr 1
   simp;omega
  ·by_cases hlt:k < acc.length
   ·have:(acc++[tz acc (ox o)]).getD k 0=acc.getD k 0:=by
     simp only[List.getD];rw[List.getElem?_append_left hlt]
    rw[this]at hm
    exact h k hlt I1 m hm
   ·have I2:k=acc.length:=by simp at hk;omega
    subst I2
    have:(acc++[tz acc (ox o)]).getD acc.length 0=tz acc (ox o):=by
     simp[List.getD]
    rw[this]at hm
    have ho:ops[acc.length]?=some o:=by have:=hl 0;simpa using this.symm
    rcases PR _ _ _ hm with hm|⟨e,he,I3⟩
    ·exact aW _ o ho I1 m hm
    ·have hLe:=aW _ o ho I1 e he
     by_cases BU:e < acc.length
     ·exact h e BU hLe m I3
     ·have:acc.getD e 0=0:=by simp[List.getD,Nat.le_of_not_lt BU]
      rw[this]at I3;simp at I3
theorem PU {anc:Nat} {y:bp}:∀ (l:List bp) (k:Nat),Ub anc y k l=true→∀ i (hi:i < l.length),cN l[i] y=true→anc.testBit (k + i)=true
 | x::l,k,h,i,hi,hc=>by
  simp only[Ub,Bool.and_eq_true,Bool.or_eq_true,Bool.not_eq_true']at h
  cases i with
  | zero =>
   rcases h.1 with h1|h1
   ·simp at hc;rw[hc]at h1;cases h1
   ·simpa using h1
  | succ i =>
   have:=PU l (k + 1) h.2 i (by simpa using hi) (by simpa using hc)
   rwa [show k + 1 + i=k + (i + 1) by omega]at this
 | [],_,_,i,hi,_=>absurd hi au
theorem PV {anc:List Nat}:∀ (l pre:List bp),Us anc pre l=true→∀ j (hj:j < l.length) i (hi:i < (pre++l).length),i < pre.length + j→cN (pre++l)[i] l[j]=true→(anc.getD (pre.length + j) 0).testBit i=true
 | y::l,pre,h,j,hj,i,hi,hlt,hc=>by
  simp only[Us,Bool.and_eq_true]at h
  cases j with
  | zero =>
   have mh:i < pre.length:=by omega
   have:=PU pre 0 h.1 i mh (by simpa [List.getElem_append_left mh] using hc)
   simpa using this
  | succ j =>
   have:=PV l (pre++[y]) h.2 j (by simpa using hj) i (by simpa using hi) (by simp;omega) (by simpa using hc)
   simp only[List.length_append,List.length_singleton]at this
   rwa [show pre.length + 1 + j=pre.length + (j + 1) by omega]at this
 | [],_,_,j,hj,_,_,_,_=>absurd hj au
section
variable {P:Program} {c:Cx} {ops:Array Oper}
theorem PW {anc:List Nat} {K:St→Prop}:∀ (os:List Oper) (l:List bG) (fs:List bp) (s:St),rY P c.N ops os=some l→XD P c anc l fs K s →
  ∃ (S:Nat→FS) (F:Nat→bp) (sn:St),S 0=s.fs∧(∀ j o,os[j]?=some o→og P c ops o (S j) (F j) (S (j + 1)))∧sn.fs=S os.length∧K sn∧Us anc [] (fs.reverse++(List.range os.length).map F)=true
 | [],l,fs,s,he,h=>by
  simp[rY]at he;subst he
  exact ⟨fun _=>s.fs,fun _=>⟨[],[],[],[]⟩,s,rfl,fun j o h=>by simp at h,rfl,h.2,by simpa using h.1⟩
 | o::os,l,fs,s,he,h=>by
  unfold rY at he
  split at he
  ·rename_i x l' hx hl
   simp at he;subst he
   obtain ⟨F0,s',hA,hr⟩:=Yb5 h
   obtain ⟨S,F,sn,h1,h2,h3,h4,h5⟩:=PW os l' (F0::fs) s' hl hr
   refine ⟨fun j=>match j with|0=>s.fs|j + 1=>S j,fun j=>match j with|0=>F0|j + 1=>F j,sn,rfl,fun j o' ho=>?_,h3,h4,?_⟩
   ·cases j with
    | zero =>
     simp at ho;subst ho
     have:=hA ops o hx
     simpa [h1] using this
    | succ j=>exact h2 j o' (by simpa using ho)
   ·rw[List.length_cons,List.range_succ_eq_map]
    simp only[List.map_cons,List.map_map]
    simp only[List.reverse_cons,List.append_assoc,List.singleton_append]at h5
    exact h5
  ·cases he
def SL (L:Nat→Bool) (S:Nat→FS) (F:Nat→bp):Nat→FS
 | 0=>S 0
 | m + 1=>if L m then dj (SL L S F m) (S (m + 1)) (F m) else SL L S F m
def I4 (x y:bp):Prop:=(∃ i ∈ x.wt,i ∈ y.rt∨i ∈ y.wt)∨(∃ i ∈ y.wt,i ∈ x.rt)∨(∃ i ∈ x.wb,i ∈ y.rb∨i ∈ y.wb)∨(∃ i ∈ y.wb,i ∈ x.rb)
theorem Xsi {x y:bp} (h:I4 x y):cN x y=true:=by
 unfold cN
 simp only[Bool.or_eq_true,List.any_eq_true,List.contains_iff_mem]
 rcases h with h|h|h|h
 ·exact .inl (.inl (.inl h))
 ·exact .inl (.inl (.inr h))
 ·exact .inl (.inr h)
 ·exact .inr h
structure Ch (n:Nat) (S:Nat→FS) (F:Nat→bp) (A:Nat→List Nat):Prop where
 bh:∀ j,j < n→∀ i,i ∉ (F j).wt→(S (j + 1)).T i=(S j).T i
 cZ:∀ j,j < n→∀ i,i ∉ (F j).wb→(S (j + 1)).H i=(S j).H i
 cN:∀ i j,i < j→j < n→I4 (F i) (F j)→i ∈ A j
variable {n:Nat} {S:Nat→FS} {F:Nat→bp} {A:Nat→List Nat} {L:Nat→Bool}
theorem Yfh {m i:Nat}:(SL L S F (m + 1)).T i=if L m=true∧i ∈ (F m).wt then (S (m + 1)).T i else (SL L S F m).T i:=by
 have e:SL L S F (m + 1)=if L m then dj (SL L S F m) (S (m + 1)) (F m) else SL L S F m:=rfl
 rw[e]
 split
 ·rename_i h;simp only[dj,h,true_and]
 ·rename_i h;rw[if_neg (fun x=>h x.1)]
theorem Yg2 {m i:Nat}:(SL L S F (m + 1)).H i=if L m=true∧i ∈ (F m).wb then (S (m + 1)).H i else (SL L S F m).H i:=by
 have e:SL L S F (m + 1)=if L m then dj (SL L S F m) (S (m + 1)) (F m) else SL L S F m:=rfl
 rw[e]
 split
 ·rename_i h;simp only[dj,h,true_and]
 ·rename_i h;rw[if_neg (fun x=>h x.1)]
theorem PX (hc:Ch n S F A) {j:Nat} (hj:j < n) (mj:L j=false) (kT:∀ i ∈ A j,i < j→L i=true) (aW:∀ m,m < n→L m=true→∀ i ∈ A m,L i=true) {t:Nat} (ht:t ∈ (F j).rt):∀ m,m≤n→(SL L S F m).T t=(S (min m j)).T t
 | 0,_=>by simp[SL]
 | m + 1,hm=>by
  have ih:=PX hc hj mj kT aW ht m ae
  rw[Yfh,ih]
  by_cases zH:m < j
  ·rw[show min (m + 1) j=m + 1 by omega,show min m j=m by omega]
   by_cases hw:t ∈ (F m).wt
   ·have:L m=true:=kT m (hc.cN m j zH hj (.inl ⟨t,hw,.inl ht⟩)) zH
    rw[if_pos ⟨this,hw⟩]
   ·rw[if_neg (fun x=>hw x.2),hc.bh m ae t hw]
  ·rw[show min (m + 1) j=j by omega,show min m j=j by omega]
   rw[if_neg]
   rintro ⟨h1,h2⟩
   by_cases he:m=j
   ·subst he;rw[mj]at h1;cases h1
   ·have:=aW m ae h1 j (hc.cN j m ae ae (.inr (.inl ⟨t,h2,ht⟩)))
    rw[mj]at this;cases this
theorem PY (hc:Ch n S F A) {j:Nat} (hj:j < n) (mj:L j=false) (kT:∀ i ∈ A j,i < j→L i=true) (aW:∀ m,m < n→L m=true→∀ i ∈ A m,L i=true) {t:Nat} (ht:t ∈ (F j).rb):∀ m,m≤n→(SL L S F m).H t=(S (min m j)).H t
 | 0,_=>by simp[SL]
 | m + 1,hm=>by
  have ih:=PY hc hj mj kT aW ht m ae
  rw[Yg2,ih]
  by_cases zH:m < j
  ·rw[show min (m + 1) j=m + 1 by omega,show min m j=m by omega]
   by_cases hw:t ∈ (F m).wb
   ·have:L m=true:=kT m (hc.cN m j zH hj (.inr (.inr (.inl ⟨t,hw,.inl ht⟩)))) zH
    rw[if_pos ⟨this,hw⟩]
   ·rw[if_neg (fun x=>hw x.2),hc.cZ m ae t hw]
  ·rw[show min (m + 1) j=j by omega,show min m j=j by omega]
   rw[if_neg]
   rintro ⟨h1,h2⟩
   by_cases he:m=j
   ·subst he;rw[mj]at h1;cases h1
   ·have:=aW m ae h1 j (hc.cN j m ae ae (.inr (.inr (.inr ⟨t,h2,ht⟩))))
    rw[mj]at this;cases this
theorem Xsl {s x y:FS} {X Y:bp} (h1:∀ i ∈ X.wt,i ∉ Y.wt) (h2:∀ i ∈ X.wb,i ∉ Y.wb):dj (dj s x X) y Y=dj (dj s y Y) x X:=by
 unfold dj
 congr 1
 ·funext i
  by_cases hy:i ∈ Y.wt<;>by_cases hx:i ∈ X.wt<;>simp only[hx,hy,if_true,if_false]
  exact absurd hy (h1 i hx)
 ·funext i
  by_cases hy:i ∈ Y.wb<;>by_cases hx:i ∈ X.wb<;>simp only[hx,hy,if_true,if_false]
  exact absurd hy (h2 i hx)
theorem PZ (hc:Ch n S F A) {j:Nat} (mj:L j=false) (aW:∀ m,m < n→L m=true→∀ i ∈ A m,L i=true) {L':Nat→Bool} (cV:L' j=true) (ho:∀ i,i≠j→L' i=L i) :
  ∀ m,m≤n→SL L' S F m=if m≤j then SL L S F m else dj (SL L S F m) (S (j + 1)) (F j)
 | 0,_=>by simp[SL]
 | m + 1,hm=>by
  have ih:=PZ hc mj aW cV ho m ae
  have e:∀ L,SL L S F (m + 1)=if L m then dj (SL L S F m) (S (m + 1)) (F m) else SL L S F m:=fun _=>rfl
  by_cases zH:m < j
  ·rw[if_pos ae]
   rw[if_pos ae]at ih
   rw[e,e,ih,ho m ae]
  ·rw[if_neg ae]
   by_cases he:m=j
   ·subst he
    rw[if_pos (Nat.le_refl _)]at ih
    rw[e,e,ih,cV,mj]
    simp
   ·rw[if_neg ae]at ih
    rw[e,e,ih,ho m he]
    split
    ·rename_i hLm
     have cd:¬ I4 (F j) (F m):=fun fZ=>by
      have:=aW m ae hLm j (hc.cN j m ae ae fZ)
      rw[mj]at this;cases this
     exact Xsl (fun i hi mh=>cd (.inl ⟨i,hi,.inr mh⟩)) (fun i hi mh=>cd (.inr (.inr (.inl ⟨i,hi,.inr mh⟩))))
    ·rfl
theorem P0 (hc:Ch n S F A) (h:∀ j,j < n→L j=true):∀ m,m≤n→SL L S F m=S m
 | 0,_=>rfl
 | m + 1,hm=>by
  have e:SL L S F (m + 1)=if L m then dj (SL L S F m) (S (m + 1)) (F m) else SL L S F m:=rfl
  rw[e,h m ae,P0 hc h m ae]
  exact zB (hc.bh m ae) (hc.cZ m ae)
theorem P1:∀ m,(∀ j,j < m→L j=false)→SL L S F m=S 0
 | 0,_=>rfl
 | m + 1,h=>by
  have e:SL L S F (m + 1)=if L m then dj (SL L S F m) (S (m + 1)) (F m) else SL L S F m:=rfl
  rw[e,h m ae,P1 m fun j hj=>h j ae]
  simp
theorem I5 {listed:Array Bool}:∀ m,(∀ j,j < m→listed.getD j true=true)∨∃ i,i < m∧listed.getD i true=false∧∀ j,j < i→listed.getD j true=true
 | 0=>.inl fun j hj=>by omega
 | m + 1=>by
  rcases I5 (listed:=listed) m with h|⟨i,hi,hu,hl⟩
  ·cases hm:listed.getD m true with
   | true =>
    refine .inl fun j hj=>?_
    by_cases e:j=m
    ·rw[e];exact hm
    ·exact h j ae
   | false=>exact .inr ⟨m,by omega,hm,h⟩
  ·exact .inr ⟨i,by omega,hu,hl⟩
def cE (listed:Array Bool) (n:Nat):Nat:=((List.range n).filter fun j=>listed.getD j true == false).length
theorem I6 {listed:Array Bool} {i:Nat} (hi:listed.getD i true=false):∀ n,i < n→cE listed n=cE (listed.setIfInBounds i true) n + 1
 | 0,h=>by omega
 | n + 1,h=>by
  have cJ:i < listed.size:=by
   rcases Nat.lt_or_ge i listed.size with h'|h'
   ·exact h'
   ·simp[Array.getElem?_eq_none h']at hi
  unfold cE
  rw[List.range_succ,List.filter_append,List.filter_append,List.length_append,List.length_append]
  by_cases aG:i=n
  ·subst aG
   have e:(List.range i).filter (fun j=>(listed.setIfInBounds i true).getD j true == false)=(List.range i).filter (fun j=>listed.getD j true == false):=by
    refine List.filter_congr fun j hj=>?_
    rw[getD_set_ne true (by have:=List.mem_range.1 hj;omega)]
   rw[e]
   simp[cJ]at hi
   simp[cJ,hi]
  ·have ih:=I6 hi n ae
   unfold cE at ih
   rw[ih]
   have e:(listed.setIfInBounds i true).getD n true=listed.getD n true:=getD_set_ne true aG
   simp only[List.filter_cons,List.filter_nil,e]
   omega
theorem Xu1 {listed:Array Bool} {n:Nat} (h:∀ j,j < n→listed.getD j true=true):cE listed n=0:=by
 unfold cE
 rw[List.length_eq_zero_iff,List.filter_eq_nil_iff]
 intro j hj
 rw[h j (List.mem_range.1 hj)];simp
theorem P2 {o:Oper} {e:Nat} (h:e ∈ ox o):∃ x ∈ o.after,Region.binds .any x=true∧x.on=e:=by
 unfold ox at h
 obtain ⟨x,hx,rfl⟩:=List.mem_map.1 h
 obtain ⟨h1,h2⟩:=List.mem_filter.1 hx
 exact ⟨x,by simpa using h1,h2,rfl⟩
theorem Xg2 {o:Oper} {x:Edge} (h:x ∈ o.after) (hb:Region.binds .any x=true):x.on ∈ ox o:=by
 unfold ox
 exact List.mem_map.2 ⟨x,List.mem_filter.2 ⟨by simpa using h,hb⟩,rfl⟩
theorem Xlf {Q:Exit→Act→World→Prop} (hn:n=ops.size) (kU:I0 ops=true) (hc:Ch n S F A) (kT:∀ L':Nat→Bool,(∀ (j:Nat) o,ops[j]?=some o→L' j=true→∀ e ∈ ox o,L' e=true)→∀ j,L' j=true→∀ i ∈ A j,L' i=true)
  (hA:∀ j o,ops[j]?=some o→og P c ops o (S j) (F j) (S (j + 1))) (oy:∀ g a w,R c g (S n) a w→Q .normal a w) :
  ∀ (f:Nat) (listed:Array Bool) (g:Nat→GM) (a:Act) (w:World),HeadInv .any ops n listed→R c g (SL (fun j=>listed.getD j false) S F n) a w→cE listed n=f→wpAny P .any ops Q f listed a w:=by
 intro f
 induction f with
 | zero =>
  intro listed g a w inv hR hf
  have cg:∀ j,j < n→listed.getD j true=true:=by
   rcases I5 (listed:=listed) n with h|⟨i,hi,hu,_⟩
   ·exact h
   ·have:=I6 hu n hi;omega
  refine ⟨?_,oy g a w ?_⟩
  ·rw[List.eq_nil_iff_forall_not_mem]
   intro j hj
   obtain ⟨h1,o,h2,_⟩:=mem_ready.1 hj
   have:j < n:=by rw[hn];exact (Array.getElem?_eq_some_iff.1 h2).1
   rw[cg j this]at h1;cases h1
  ·rw[P0 hc (fun j hj=>?_) n (Nat.le_refl _)]at hR
   ·exact hR
   ·have:=cg j hj
    have cJ:j < listed.size:=by rw[inv.size,← hn];exact hj
    simpa [cJ] using this
 | succ f ih =>
  intro listed g a w inv hR hf
  rcases I5 (listed:=listed) n with h|⟨i,hi,hu,hl⟩
  ·have:=Xu1 h;omega
  ·have wZ:i < ops.size:=by omega
   have BV:i ∈ Region.ready .any ops listed:=mem_ready.2 ⟨hu,ops[i],Array.getElem?_eq_getElem wZ,fun e he hb=>by
    have h1:=List.all_eq_true.1 kU i (List.mem_range.2 wZ)
    rw[Array.getElem?_eq_getElem wZ]at h1
    have hlt:e.on < i:=by simpa using List.all_eq_true.1 h1 e.on (Xg2 he hb)
    have:=hl e.on hlt
    have cJ:e.on < listed.size:=by rw[inv.size];omega
    simpa [cJ] using this⟩
   refine ⟨fun h0=>(by rw[h0]at BV;cases BV),fun j hj=>?_⟩
   obtain ⟨BW,o,qf,cg⟩:=mem_ready.1 hj
   have kV:j < n:=by rw[hn];exact (Array.getElem?_eq_some_iff.1 qf).1
   have P3:=I6 BW n kV
   have mj:listed.getD j false=false:=getD_both BW
   have tA:∀ (j:Nat) o,ops[j]?=some o→listed.getD j false=true→∀ e ∈ ox o,listed.getD e false=true:=fun j o ho hL e he=>by
    obtain ⟨x,h1,h2,rfl⟩:=P2 he
    exact inv.closed j o ho hL x h1 h2
   have aW:=kT _ tA
   have vl:∀ i ∈ A j,i < j→listed.getD i false=true:=by
    have h1:=inv.set hj kV
    intro i hi iM
    have fZ:=kT (fun k=>(listed.setIfInBounds j true).getD k false) (fun k o' px hL e he=>by
     obtain ⟨x,h3,h4,rfl⟩:=P2 he
     exact h1.closed k o' px hL x h3 h4) j (by
      have cJ:j < listed.size:=by rw[inv.size];omega
      simp[cJ]) i hi
    rw[getD_set_ne false ae]at fZ;exact fZ
   have hrT:∀ t ∈ (F j).rt,(SL (fun j=>listed.getD j false) S F n).T t=(S j).T t:=fun t ht=>by
    rw[PX hc kV mj vl (fun m _ hm=>aW m hm) ht n (Nat.le_refl _),Nat.min_eq_right (Nat.le_of_lt kV)]
   have hrH:∀ t ∈ (F j).rb,(SL (fun j=>listed.getD j false) S F n).H t=(S j).H t:=fun t ht=>by
    rw[PY hc kV mj vl (fun m _ hm=>aW m hm) ht n (Nat.le_refl _),Nat.min_eq_right (Nat.le_of_lt kV)]
   have ep:=(hA j o qf).step _ hrT hrH g a w hR (wpAny P .any ops Q f (listed.setIfInBounds j true)) Q fun g' a' w' bf=>by
    refine ih _ g' a' w' (inv.set hj kV) ?_ ae
    have cJ:j < listed.size:=by rw[inv.size];omega
    have:=PZ (L:=fun j=>listed.getD j false) hc mj (fun m _ hm=>aW m hm) (L':=fun k=>(listed.setIfInBounds j true).getD k false) (by simp[cJ]) (fun i hi=>getD_set_ne false (fun e=>hi e.symm)) n (Nat.le_refl _)
    rw[if_neg ae]at this
    rw[this];exact bf
   unfold wpOp
   rw[qf]
   unfold me at ep
   show if Region.wanted o (yielded ops a.tmps)=true then _ else _
   split
   ·rename_i hw;rw[if_pos hw]at ep;exact .inl ep
   ·rename_i hw;rw[if_neg hw]at ep;exact ep
end
end Go.Proofs.YtogckmommodmhaaGreatDoor
