import Derived.Test.YtogckmommodmhaaGreatDoorZr1
import Derived.ProofKit
import Derived.OpenShut
import Derived.ShutString
import Derived.SizedLaws
import Derived.ChangeOld
import Derived.Below
import Derived.Laws.AppendOwn
import Derived.Laws.BytesString
import Derived.Lib.Strings
import Derived.Orders
import Derived.StillTail
namespace Go.Proofs.YtogckmommodmhaaGreatDoor
open Go.ChangeMaps (open_string shut_string)
open Go.ChangeShapes Go.WideShapes Go.ChangeAt Go.RowKit
open Go.RowKit
set_option linter.all false
set_option linter.unusedSimpArgs false
set_option maxRecDepth 100000
theorem Tryz.own:ownKnob Tryz.prog.godebug=none:=by kernel_rfl
theorem Tryz.laidOut:laidOutB Tryz.prog=true:=by kernel_rfl
theorem Qiq {H:Type} {enc:TypeId × Value→H} {P:Program} (hL:laidOutB P=true) {W W':World} (bel:Below W.heap.size W W') :
  ∀ {ts:List TypeId} {vs:List Value} {ds:List (DataW H)} {p:List MemPlace},(∀ t ∈ ts,P.readableRec t=true∧t < P.types.size) →
   DataW.TrodAll enc P W 0 (fun _=>true) true ts vs ds p→DataW.TrodAll enc P W' 0 (fun b=>decide (b < W.heap.size)) true ts vs ds p
 | [],[],[],p,_,h=>h
 | t::ts,v::vs,d::ds,p,hr,h=>by
  obtain ⟨p1,q1,h1,h2,rfl⟩:=h
  refine ⟨p1,q1,?_,Qiq hL bel (fun t ht=>hr t (List.mem_cons_of_mem _ ht)) h2,rfl⟩
  have k:=hr t (List.mem_cons_self ..)
  refine Below.trod hL k.1 k.2 h1 bel ?_
  obtain ⟨m,hm⟩:=h1
  exact DataW.trod_lt m _ _ _ hm
 | [],_::_,_,_,_,h=>by simp[DataW.TrodAll]at h
 | [],[],_::_,_,_,h=>by simp[DataW.TrodAll]at h
 | _::_,[],_,_,_,h=>by simp[DataW.TrodAll]at h
 | _::_,_::_,[],_,_,h=>by simp[DataW.TrodAll]at h
theorem Qh2 {H:Type} {enc:TypeId × Value→H} {P:Program} {W:World} {sp:Nat→Bool} {b:Nat} {held:Bool} :
  ∀ {ts:List TypeId} {vs:List Value} {ds:List (DataW H)} {p:List MemPlace},DataW.TrodAll enc P W b sp held ts vs ds p→ds.length=ts.length
 | [],[],[],_,_=>rfl
 | t::ts,v::vs,d::ds,p,h=>by
  obtain ⟨p1,q1,h1,h2,rfl⟩:=h
  simp[Qh2 h2]
 | [],_::_,_,_,h=>by simp[DataW.TrodAll]at h
 | [],[],_::_,_,h=>by simp[DataW.TrodAll]at h
 | _::_,[],_,_,h=>by simp[DataW.TrodAll]at h
 | _::_,_::_,[],_,h=>by simp[DataW.TrodAll]at h
structure ArgsIn (H:Type) (enc:TypeId × Value→H) (P:Program) (fn:Func) (W:World) (base:Nat) (args:Array Value) (ds:List (DataW H)):Prop where
 ok:∀ (j:Nat) t v,fn.params[j]?=some t→args[j]?=some v→Value.okWide P W .any base t v
 trod:∃ p,DataW.TrodAll enc P W 0 (fun _=>true) true fn.params.toList args.toList ds p
 sized:(DataW.weightsEach P fn.params.toList ds).all (·≤reachBytes)=true
section
variable {H:Type} {enc:TypeId × Value→H} {P:Program} {W:World} {b0 b:Nat} {sp:Nat→Bool} {held:Bool}
theorem Qko {t:TypeId} {v:Value} {d:DataW H} (ht:P.underlying t=some (.int .i64)) (hval:Value.okWide P W .any b0 t v) {p} (hd:DataW.Trod enc P W b sp held t v d p) :
  ∃ n:Int,v=.int .i64 n∧-9223372036854775808≤n∧n≤9223372036854775807:=by
 obtain ⟨n,h1,h2,_,hw⟩:=open_int ht hval hd
 simp[Lit.wf,IntKind.min,IntKind.max,IntKind.bits,IntKind.signed]at hw
 exact ⟨n,h1,by omega,by omega⟩
theorem Quv {t:TypeId} {v:Value} {d:DataW H} (ht:P.underlying t=some .bool) (hval:Value.okWide P W .any b0 t v) {p} (hd:DataW.Trod enc P W b sp held t v d p) :
  ∃ x:Bool,v=.bool x:=by
 obtain ⟨n,h1,h2,_⟩:=open_bool ht hval hd
 exact ⟨n,h1⟩
end
end Go.Proofs.YtogckmommodmhaaGreatDoor
namespace Go.Proofs.YtogckmommodmhaaGreatDoor
open Go.RowKit
set_option linter.all false
set_option linter.unusedSimpArgs false
set_option maxRecDepth 100000
section
variable {P:Program} {W:World} {b0:Nat}
theorem Xku {t:TypeId} {v:Value} {ts:List TypeId} {n:Nat} (hu:(∃ fs,P.underlying t=some (.struct fs))∨∃ k e,P.underlying t=some (.array k e)) (hts:P.cellTypes P.depth t=some ts) (hn:P.cellsOf t=n) (hl:ts.length=n)
  (hval:Value.okWide P W .any b0 t v):∃ cs:Array Value,v=.agg cs∧cs.size=n∧∀ (i:Nat) (u:TypeId),ts[i]?=some u→∃ x,cs[i]?=some x∧Cell.okWide P W .any b0 u x:=by
 have h:∃ cs,v=.agg cs∧cs.size=P.cellsOf t∧Row.okWide P W .any b0 t cs:=by
  unfold Value.okWide at hval
  rcases hu with ⟨fs,hu⟩|⟨k,e,hu⟩<;>rw[hu]at hval<;>exact hval
 obtain ⟨cs,rfl,hs,ts',hts',_,hall⟩:=h
 rw[hts]at hts'
 obtain rfl:ts=ts':=by injection hts'
 refine ⟨cs,rfl,by omega,fun i u hu'=>?_⟩
 have hi:i < ts.length:=(List.getElem?_eq_some_iff.1 hu').1
 obtain ⟨u',h1,h2⟩:=hall i cs[i] (Array.getElem?_eq_getElem Zom)
 rw[Nat.mod_eq_of_lt hi,hu']at h1
 obtain rfl:u=u':=by injection h1
 exact ⟨cs[i],Array.getElem?_eq_getElem Zom,h2⟩
theorem Qlf {u:TypeId} {x:Value} (h:Cell.okWide P W .any b0 u x) (hu:P.underlying u=some (.int .i64)):∃ n:Int,x=.int .i64 n∧-9223372036854775808≤n∧n≤9223372036854775807:=by
 unfold Cell.okWide Cell.ok at h
 rw[hu]at h
 cases x<;>simp at h
 obtain ⟨rfl,h1,h2⟩:=h
 simp[IntKind.min,IntKind.max,IntKind.bits,IntKind.signed]at h1 h2
 exact ⟨_,rfl,by omega,by omega⟩
theorem Qw1 {u:TypeId} {x:Value} (h:Cell.okWide P W .any b0 u x) (hu:P.underlying u=some .string):∃ s:ByteArray,x=.string s∧s.size≤maxLen:=by
 unfold Cell.okWide Cell.ok at h
 rw[hu]at h
 cases x<;>simp at h
 refine ⟨_,rfl,?_⟩
 unfold maxLen;omega
end
inductive AV where
 | any
 | cnd (b:Bool) (v:AV)
 | int (k:IntKind) (n:Int)
 | bool (b:Bool)
 | str (l:List UInt8)
 | agg (cs:List AV)
 | tup (vs:List AV)
 | ptr (b off:Nat)
 | xp (cs:List AV) (off:Nat)
 | sl (es b off n c:Nat)
 | isl (n:Nat) (cs:List AV)
 | nils
 | cl (f:FuncId) (caps:List AV)
 | mp (b:Nat)
 | lit (v:Value)
 deriving Inhabited
inductive GM where
 | un
 | ph
 | re (k:Nat)
abbrev Wu (w:World) (k o:Nat):Option Value:=w.cell? ⟨k,o,none⟩
inductive VR (g:Nat→GM) (W:Nat→Prop) (w:World):AV→Value→Prop
 | any (v:Value):VR g W w .any v
 | cnd {b:Bool} {x:AV} {v:Value} (h:b=true→VR g W w x v) (h0:b=false→v=undef):VR g W w (.cnd b x) v
 | int (k:IntKind) (n:Int):VR g W w (.int k n) (.int k n)
 | bool (b:Bool):VR g W w (.bool b) (.bool b)
 | str (l:List UInt8):VR g W w (.str l) (.string ⟨l.toArray⟩)
 | agg {cs:List AV} {us:Array Value} (hs:us.size=cs.length) (h1:∀ j,j < cs.length→(us.getD j undef).oneCell'=true) (h:∀ j,j < cs.length→VR g W w (cs.getD j .any) (us.getD j undef)):VR g W w (.agg cs) (.agg us)
 | tup {cs:List AV} {us:Array Value} (hs:us.size=cs.length) (h:∀ j,j < cs.length→VR g W w (cs.getD j .any) (us.getD j undef)):VR g W w (.tup cs) (.tuple us)
 | ptr {b off k:Nat} (hg:g b=.re k):VR g W w (.ptr b off) (.pointer (some ⟨k,off,none⟩))
 | xp {cs:List AV} {off k o:Nat} {us:Nat→Value} (hc:∀ j,j < cs.length→Wu w k (o + j)=some (us j)∧¬ W k∧(us j).oneCell'=true) (h:∀ j,j < cs.length→VR g W w (cs.getD j .any) (us j)) :
   VR g W w (.xp cs off) (.pointer (some ⟨k,o + off,none⟩))
 | sl {es b off n c k cap:Nat} {e:TypeId} {cur:Array Value} {fz:Nat × Nat} (hg:g b=.re k) (hn:n≤c) (hc:c≤cap) (hm:cap≤maxLen)
   (hb:w.heap[k]?=some (.cells cur e fz)) (hs:off + cap * es≤cur.size):VR g W w (.sl es b off n c) (.slice (some ⟨k,off,none⟩) n cap)
 | slp {a:Option Addr} {es b off c:Nat} (hg:g b=.ph) (hc:c=0):VR g W w (.sl es b off 0 c) (.slice a 0 0)
 | isl {n cap:Nat} {cs:List AV} {a:Option Addr} {us:Nat→Value} (hn:n≤cap) (hm:cap≤maxLen)
   (hc:∀ j,j < cs.length→∃ k o,a=some ⟨k,o,none⟩∧Wu w k (o + j)=some (us j)∧¬ W k∧(us j).oneCell'=true) (h:∀ j,j < cs.length→VR g W w (cs.getD j .any) (us j)) :
   VR g W w (.isl n cs) (.slice a n cap)
 | nils (a:Option Addr):VR g W w .nils (.slice a 0 0)
 | cl {f:FuncId} {caps:List AV} {us:Array Value} (hs:us.size=caps.length) (h:∀ j,j < caps.length→VR g W w (caps.getD j .any) (us.getD j undef)):VR g W w (.cl f caps) (.func (.func f) #[] us)
 | mp {b k:Nat} (hg:g b=.re k):VR g W w (.mp b) (.map (some k))
 | lit (v:Value):VR g W w (.lit v) v
structure Fr (w w':World) (G:Nat→Prop):Prop where
 os:w'.os=w.os
 tape:w'.tape=w.tape
 output:w'.output=w.output
 size:w.heap.size≤w'.heap.size
 keep:∀ k,k < w.heap.size→¬ G k→w'.heap[k]?=w.heap[k]?
 kind:∀ (k:Nat) (cur:Array Value) (e:TypeId) (fz:Nat × Nat),w.heap[k]?=some (.cells cur e fz)→∃ cur':Array Value,w'.heap[k]?=some (.cells cur' e fz)∧cur'.size=cur.size
theorem Wj {w:World} {k:Nat} {o:Obj} (h:w.heap[k]?=some o):k < w.heap.size:=(Array.getElem?_eq_some_iff.1 h).1
theorem Qjg {w:World} {k o:Nat} {v:Value} (h:Wu w k o=some v):k < w.heap.size:=by
 unfold Wu World.cell? at h
 split at h
 ·rename_i hh;exact Wj hh
 ·cases h
theorem Fr.refl (w:World) (G:Nat→Prop):Fr w w G:=⟨rfl,rfl,rfl,Nat.le_refl _,fun _ _ _=>rfl,fun _ cur _ _ h=>⟨cur,h,rfl⟩⟩
theorem Fr.trans {a b c:World} {G H:Nat→Prop} (h:Fr a b G) (k:Fr b c H) (hH:∀ i,i < a.heap.size→H i→G i):Fr a c G :=
 ⟨k.os.trans h.os,k.tape.trans h.tape,k.output.trans h.output,Nat.le_trans h.size k.size,
  fun i hi hG=>(k.keep i (Nat.lt_of_lt_of_le hi h.size) (fun x=>hG (hH i hi x))).trans (h.keep i hi hG),
  fun i cur e fz hi=>by
   obtain ⟨c1,h1,s1⟩:=h.kind i cur e fz hi
   obtain ⟨c2,h2,s2⟩:=k.kind i c1 e fz h1
   exact ⟨c2,h2,s2.trans s1⟩⟩
theorem Fr.weak {a b:World} {G H:Nat→Prop} (h:Fr a b G) (hH:∀ i,G i→H i):Fr a b H :=
 ⟨h.os,h.tape,h.output,h.size,fun i hi hG=>h.keep i hi (fun x=>hG (hH i x)),h.kind⟩
theorem Fr.drew (w:World) (G:Nat→Prop):Fr w w.drew G:=⟨rfl,rfl,rfl,Nat.le_refl _,fun _ _ _=>rfl,fun _ cur _ _ h=>⟨cur,h,rfl⟩⟩
theorem Fr.alloc (w:World) (o:Obj) (G:Nat→Prop):Fr w (w.alloc o) G :=
 ⟨rfl,rfl,rfl,by simp,fun k hk _=>Below.heap_alloc w o k hk,fun k cur e fz h=>⟨cur,by rw[Below.heap_alloc w o k (Wj h)];exact h,rfl⟩⟩
theorem Fr.cell {w w':World} {G:Nat→Prop} (h:Fr w w' G) {k o:Nat} {v:Value} (hc:Wu w k o=some v) (hG:¬ G k):Wu w' k o=some v:=by
 have:=h.keep k (Qjg hc) hG
 rw[← hc]
 unfold Wu World.cell?
 simp only[this]
theorem VR.mono {g g':Nat→GM} {W W':Nat→Prop} {w w':World} {x:AV} {v:Value} (h:VR g W w x v) (hf:Fr w w' W)
  (hW:∀ k,k < w.heap.size→W' k→W k) (hg:∀ b,g b≠.un→g' b=g b):VR g' W' w' x v:=by
 have hre:∀ {b k},g b=.re k→g' b=.re k:=fun {b k} e=>by rw[hg b (by rw[e];intro x;cases x),e]
 induction h with
 | any v=>exact .any v
 | cnd h h0 ih=>exact .cnd ih h0
 | int k n=>exact .int k n
 | bool b=>exact .bool b
 | str l=>exact .str l
 | agg hs h1 h ih=>exact .agg hs h1 ih
 | tup hs h ih=>exact .tup hs ih
 | ptr e=>exact .ptr (hre e)
 | xp hc h ih=>exact .xp (fun j hj=>⟨hf.cell (hc j hj).1 (hc j hj).2.1,fun x=>(hc j hj).2.1 (hW _ (Qjg (hc j hj).1) x),(hc j hj).2.2⟩) ih
 | sl e hn hc hm hb hs =>
  obtain ⟨cur',hb',hs'⟩:=hf.kind _ _ _ _ hb
  exact .sl (hre e) hn hc hm hb' (by rw[hs'];exact hs)
 | slp e hc=>exact .slp (by rw[hg _ (by rw[e];intro x;cases x),e]) hc
 | isl hn hm hc h ih =>
  refine .isl hn hm (fun j hj=>?_) ih
  obtain ⟨k,o,ha,hcc,hnw,h1⟩:=hc j hj
  exact ⟨k,o,ha,hf.cell hcc hnw,fun x=>hnw (hW k (Qjg hcc) x),h1⟩
 | nils a=>exact .nils a
 | cl hs h ih=>exact .cl hs ih
 | mp e=>exact .mp (hre e)
 | lit v=>exact .lit v
inductive Bk where
 | free
 | dead
 | cells (cs:List AV)
 | mapb (kvs:List (AV × AV)) (dn:Bool)
 | mapx (kvs:List (AV × AV)) (bs:List Nat) (ck:Nat)
 | iter (b ck:Nat) (seen:List Nat)
 | bag (ls:List (List AV))
 deriving Inhabited
def Bk.live:Bk→Prop
 | .cells _|.mapb _ _|.mapx _ _ _|.iter _ _ _|.bag _=>True
 | _=>False
inductive BR (g:Nat→GM) (W:Nat→Prop) (w:World):GM→Bk→Prop
 | free:BR g W w .un .free
 | dead {m:GM} (h:m≠.un):BR g W w m .dead
 | ph:BR g W w .ph (.cells [])
 | cells {k:Nat} {cs:List AV} {cur:Array Value} {e:TypeId} {fz:Nat × Nat} (hb:w.heap[k]?=some (.cells cur e fz)) (hl:cs.length≤cur.size)
   (h1:∀ j,j < cs.length→(cur.getD j undef).oneCell'=true) (hv:∀ j,j < cs.length→VR g W w (cs.getD j .any) (cur.getD j undef)) (hf:fz=(0,0)∨cur.size≤fz.1):BR g W w (.re k) (.cells cs)
 | mapb {k:Nat} {kvs:List (AV × AV)} {dn:Bool} {es:Array MapEntry} {clock:Nat} (hb:w.heap[k]?=some (.map es clock)) (hs:es.size=kvs.length)
   (hk:∀ j,j < kvs.length→VR g W w (kvs.getD j (.any,.any)).1 (es.getD j default).key) (hv:∀ j,j < kvs.length→VR g W w (kvs.getD j (.any,.any)).2 (es.getD j default).val)
   (hc:∀ j,j < es.size→(es.getD j default).born < clock) (ha:∀ i j,i < j→j < es.size→(es.getD i default).born < (es.getD j default).born)
   (hd:dn=true→(∀ j,j < es.size→(es.getD j default).born=j)∧clock=es.size):BR g W w (.re k) (.mapb kvs dn)
 | mapx {k:Nat} {kvs:List (AV × AV)} {bs:List Nat} {es:Array MapEntry} {clock:Nat} (hb:w.heap[k]?=some (.map es clock)) (hs:es.size=kvs.length)
   (hk:∀ j,j < kvs.length→VR g W w (kvs.getD j (.any,.any)).1 (es.getD j default).key) (hv:∀ j,j < kvs.length→VR g W w (kvs.getD j (.any,.any)).2 (es.getD j default).val)
   (hc:∀ j,j < es.size→(es.getD j default).born < clock) (ha:∀ i j,i < j→j < es.size→(es.getD i default).born < (es.getD j default).born)
   (hd:es.toList.map (·.born)=bs):BR g W w (.re k) (.mapx kvs bs clock)
 | iter {k m b ck:Nat} {seen:List Nat} (hb:w.heap[k]?=some (.mapIter (some m) ck seen.toArray ck)) (hg:g b=.re m):BR g W w (.re k) (.iter b ck seen)
 | bag {m:GM} {ls ls':List (List AV)} (hp:ls'.Perm ls) (h:BR g W w m (.cells ls'.flatten)):BR g W w m (.bag ls)
theorem BR.mono {g g':Nat→GM} {W W':Nat→Prop} {w w':World} {m:GM} {x:Bk} (h:BR g W w m x) (hf:Fr w w' W)
  (hW:∀ k,k < w.heap.size→W' k→W k) (hg:∀ b,g b≠.un→g' b=g b) (hk:∀ k,m=.re k→x.live→w'.heap[k]?=w.heap[k]?):BR g' W' w' m x:=by
 induction h with
 | bag hp h ih=>exact .bag hp (ih fun k h1 h2=>hk k h1 trivial)
 | free=>exact .free
 | dead h=>exact .dead h
 | ph=>exact .ph
 | cells hb hl h1 hv hz=>exact .cells ((hk _ rfl trivial).trans hb) hl h1 (fun j hj=>(hv j hj).mono hf hW hg) hz
 | mapb hb hs hkk hv hc ha hd=>exact .mapb ((hk _ rfl trivial).trans hb) hs (fun j hj=>(hkk j hj).mono hf hW hg) (fun j hj=>(hv j hj).mono hf hW hg) hc ha hd
 | mapx hb hs hkk hv hc ha hd=>exact .mapx ((hk _ rfl trivial).trans hb) hs (fun j hj=>(hkk j hj).mono hf hW hg) (fun j hj=>(hv j hj).mono hf hW hg) hc ha hd
 | iter hb hg0=>exact .iter ((hk _ rfl trivial).trans hb) (by rw[hg _ (by rw[hg0];intro x;cases x)];exact hg0)
structure FS where
 T:Nat→AV
 H:Nat→Bk
def FS.put (s:FS) (d:Nat) (v:AV):FS:=⟨fun i=>if d=i then v else s.T i,s.H⟩
def FS.putB (s:FS) (b:Nat) (x:Bk):FS:=⟨s.T,fun i=>if b=i then x else s.H i⟩
theorem FS.T_put (s:FS) (d:Nat) (v:AV) (i:Nat):(s.put d v).T i=if d=i then v else s.T i:=rfl
theorem FS.H_put (s:FS) (d:Nat) (v:AV) (b:Nat):(s.put d v).H b=s.H b:=rfl
theorem FS.H_putB (s:FS) (b:Nat) (x:Bk) (i:Nat):(s.putB b x).H i=if b=i then x else s.H i:=rfl
structure St where
 t:List (Nat × AV)
 h:List (Nat × Bk)
 n:Nat
def look:List (Nat × AV)→Nat→AV
 | [],_=>.any
 | (i,v)::l,j=>bif i == j then v else look l j
def Qb:List (Nat × Bk)→Nat→Nat→Bk
 | [],n,j=>if j < n then .dead else .free
 | (i,v)::l,n,j=>bif i == j then v else Qb l n j
def St.fs (s:St):FS:=⟨look s.t,Qb s.h s.n⟩
def St.put (s:St) (d:Nat) (v:AV):St:=⟨(d,v)::s.t,s.h,s.n⟩
def St.putB (s:St) (b:Nat) (x:Bk):St:=⟨s.t,(b,x)::s.h,s.n⟩
def St.nw (s:St) (x:Bk):St:=⟨s.t,(s.n,x)::s.h,s.n + 1⟩
theorem Zt (i:Nat) (v:AV) (l:List (Nat × AV)) (j:Nat):look ((i,v)::l) j=if i=j then v else look l j:=by
 show (bif i == j then v else look l j)=_
 by_cases h:i=j
 ·subst h;simp
 ·have:(i == j)=false:=by simpa using h
  rw[this,if_neg h];rfl
theorem Qc (i:Nat) (v:Bk) (l:List (Nat × Bk)) (n j:Nat):Qb ((i,v)::l) n j=if i=j then v else Qb l n j:=by
 show (bif i == j then v else Qb l n j)=_
 by_cases h:i=j
 ·subst h;simp
 ·have:(i == j)=false:=by simpa using h
  rw[this,if_neg h];rfl
theorem St.fs_put (s:St) (d:Nat) (v:AV):(s.put d v).fs=s.fs.put d v:=by
 simp only[St.fs,St.put,FS.put];congr 1;funext i;rw[Zt]
theorem St.fs_putB (s:St) (b:Nat) (x:Bk):(s.putB b x).fs=s.fs.putB b x:=by
 simp only[St.fs,St.putB,FS.putB];congr 1;funext i;rw[Qc]
theorem Kn (h:List (Nat × Bk)) (n j:Nat) (hj:j≠n):Qb h (n + 1) j=Qb h n j:=by
 induction h with
 | nil =>
  unfold Qb
  by_cases h:j < n
  ·rw[if_pos h,if_pos Zom]
  ·rw[if_neg h,if_neg Zom]
 | cons p l ih=>obtain ⟨i,v⟩:=p;rw[Qc,Qc,ih]
theorem St.fs_nw (s:St) (x:Bk):(s.nw x).fs=s.fs.putB s.n x:=by
 simp only[St.fs,St.nw,FS.putB];congr 1;funext i;rw[Qc]
 by_cases h:s.n=i
 ·rw[if_pos h,if_pos h]
 ·rw[if_neg h,if_neg h,Kn _ _ _ fun e=>h e.symm]
structure Cx where
 N:Nat
 w0:World
 G:Nat→Prop
 X:Nat→Prop
 gl:Nat→AV
 gh:List (Nat × GM)
def Qn (c:Cx) (g:Nat→GM) (s:FS) (k:Nat):Prop:=c.X k∨∃ b,(s.H b).live∧g b=.re k
structure R (c:Cx) (g:Nat→GM) (s:FS) (a:Act) (w:World):Prop where
 size:a.tmps.size=c.N
 def_:a.defers=[]
 t:∀ i,VR g (Qn c g s) w (s.T i) (a.tmps.getD i undef)
 gl:∀ i,VR (fun _=>.un) (Qn c g s) w (c.gl i) (.pointer (some ⟨i,0,none⟩))
 h:∀ b,BR g (Qn c g s) w (g b) (s.H b)
 inj:∀ b b' k,(s.H b).live→(s.H b').live→g b=.re k→g b'=.re k→b=b'
 old:∀ b k,(s.H b).live→g b=.re k→c.w0.heap.size≤k∨c.G k
 fr:Fr c.w0 w c.G
 xs:∀ k,c.X k→k < c.w0.heap.size∧¬ c.G k
 pin:∀ p ∈ c.gh,g p.1=p.2∧p.2≠.un
theorem BR.ne_un {g:Nat→GM} {W:Nat→Prop} {w:World} {x:Bk} (h:BR g W w .un x) (hl:x.live):False:=by
 cases h with
 | free=>exact hl
 | dead h=>exact hl
 | bag hp h=>cases h
theorem BR.lt {g:Nat→GM} {W:Nat→Prop} {w:World} {k:Nat} {x:Bk} (h:BR g W w (.re k) x) (hl:x.live):k < w.heap.size:=by
 cases h with
 | bag hp h=>cases h with|cells hb=>exact Wj hb
 | dead h=>exact hl.elim
 | cells hb=>exact Wj hb
 | mapb hb=>exact Wj hb
 | mapx hb=>exact Wj hb
 | iter hb=>exact Wj hb
section
variable {c:Cx} {g:Nat→GM} {s:FS} {a:Act} {w w':World}
theorem R.put (hR:R c g s a w) {d:Nat} (hd:d < c.N) {x:AV} {v:Value} (h:VR g (Qn c g s) w x v):R c g (s.put d x) (a.put (some d) v) w:=by
 have hW:Qn c g (s.put d x)=Qn c g s:=rfl
 refine ⟨by simpa [Act.put] using hR.size,by simpa [Act.put] using hR.def_,fun i=>?_,hR.gl,hR.h,hR.inj,hR.old,hR.fr,hR.xs,hR.pin⟩
 rw[hW,FS.T_put]
 simp only[Act.put]
 by_cases hi:d=i
 ·subst hi
  rw[if_pos rfl]
  have:(a.tmps.setIfInBounds d v).getD d undef=v:=by simp[Array.getD,hR.size,hd]
  rw[this];exact h
 ·rw[if_neg hi]
  have:(a.tmps.setIfInBounds d v).getD i undef=a.tmps.getD i undef:=by
   simp only[Array.getD_eq_getD_getElem?,Array.getElem?_setIfInBounds]
   rw[if_neg hi]
  rw[this];exact hR.t i
theorem R.putNone (hR:R c g s a w) (v:Value):R c g s (a.put none v) w:=hR
theorem R.grow (hR:R c g s a w) (hf:Fr w w' (fun _=>False)):R c g s a w':=by
 have hf':Fr w w' (Qn c g s):=hf.weak fun _ h=>h.elim
 refine ⟨hR.size,hR.def_,fun i=>(hR.t i).mono hf' (fun _ _ h=>h) (fun _ _=>rfl),fun i=>(hR.gl i).mono hf' (fun _ _ h=>h) (fun _ _=>rfl),fun b=>?_,hR.inj,hR.old,hR.fr.trans hf fun _ _ h=>h.elim,hR.xs,hR.pin⟩
 refine (hR.h b).mono hf' (fun _ _ h=>h) (fun _ _=>rfl) fun k hk hl=>hf.keep k ?_ id
 exact BR.lt (hk ▸ hR.h b) hl
theorem Qbs {b:Nat}:∀ k,Qn c g (s.putB b .dead) k→Qn c g s k:=by
 rintro k (h|⟨b',hl,hg⟩)
 ·exact .inl h
 ·rw[FS.H_putB]at hl
  split at hl
  ·exact hl.elim
  ·exact .inr ⟨b',hl,hg⟩
theorem R.kill (hR:R c g s a w) {b:Nat} (hb:g b≠.un):R c g (s.putB b .dead) a w:=by
 have hW:=fun k (_:k < w.heap.size)=>Qbs (c:=c) (g:=g) (s:=s) (b:=b) k
 have hf:=Fr.refl w (Qn c g s)
 have hl:∀ b',((s.putB b .dead).H b').live→(s.H b').live:=fun b' h=>by
  rw[FS.H_putB]at h;split at h
  ·exact h.elim
  ·exact h
 refine ⟨hR.size,hR.def_,fun i=>(hR.t i).mono hf hW (fun _ _=>rfl),fun i=>(hR.gl i).mono hf hW (fun _ _=>rfl),fun b'=>?_,fun x y k hx hy=>hR.inj x y k (hl x hx) (hl y hy),fun x k hx=>hR.old x k (hl x hx),hR.fr,hR.xs,hR.pin⟩
 rw[FS.H_putB]
 split
 ·rename_i e;subst e;exact .dead hb
 ·exact (hR.h b').mono hf hW (fun _ _=>rfl) fun _ _ _=>rfl
theorem R.setBlock (hR:R c g s a w) {b k:Nat} {x:Bk} (hb:g b=.re k) (hlive:(s.H b).live) (hx:x.live) (hf:Fr w w' (fun i=>i=k)) (hn:BR g (Qn c g s) w' (.re k) x):R c g (s.putB b x) a w':=by
 have hlv:∀ b',((s.putB b x).H b').live ↔ (s.H b').live:=fun b'=>by
  rw[FS.H_putB];split
  ·rename_i e;subst e;exact ⟨fun _=>hlive,fun _=>hx⟩
  ·exact Iff.rfl
 have hW:Qn c g (s.putB b x)=Qn c g s:=by
  funext i;simp only[Qn,hlv]
 have hk:Qn c g s k:=.inr ⟨b,hlive,hb⟩
 have hf':Fr w w' (Qn c g s):=hf.weak fun i e=>e ▸ hk
 have hlt:k < w.heap.size:=BR.lt (hb ▸ hR.h b) hlive
 refine ⟨hR.size,hR.def_,fun i=>?_,fun i=>?_,fun b'=>?_,fun x y k hx hy=>hR.inj x y k ((hlv x).1 hx) ((hlv y).1 hy),fun x k hx=>hR.old x k ((hlv x).1 hx),hR.fr.trans hf fun i hi e=>?_,hR.xs,hR.pin⟩
 ·rw[hW];exact (hR.t i).mono hf' (fun _ _ h=>h) (fun _ _=>rfl)
 ·rw[hW];exact (hR.gl i).mono hf' (fun _ _ h=>h) (fun _ _=>rfl)
 ·rw[hW,FS.H_putB]
  split
  ·rename_i e;subst e;rw[hb];exact hn
  ·rename_i e
   refine (hR.h b').mono hf' (fun _ _ h=>h) (fun _ _=>rfl) fun i hi hl=>hf.keep i ?_ fun ek=>?_
   ·exact BR.lt (hi ▸ hR.h b') hl
   ·exact e (hR.inj b b' k hlive hl hb (ek ▸ hi))
 ·subst e
  rcases hR.old b i hlive hb with h|h
  ·omega
  ·exact h
def Yu (g:Nat→GM) (b:Nat) (m:GM):Nat→GM:=fun i=>if i=b then m else g i
theorem Qbx {g:Nat→GM} {b:Nat} {m:GM} (hb:g b=.un):∀ i,g i≠.un→Yu g b m i=g i:=fun i h=>by
 unfold Yu;split
 ·rename_i e;subst e;exact (h hb).elim
 ·rfl
theorem Qkd (hR:R c g s a w) {b:Nat} {m:GM} (hb:g b=.un):∀ p ∈ c.gh,Yu g b m p.1=p.2∧p.2≠.un:=fun p hp=>by
 obtain ⟨h1,h2⟩:=hR.pin p hp
 exact ⟨by rw[Qbx hb p.1 (by rw[h1];exact h2),h1],h2⟩
theorem R.name (hR:R c g s a w) {b k:Nat} {x:Bk} (hfree:s.H b=.free) (hx:x.live) (hnew:∀ b',(s.H b').live→g b'≠.re k) (hX:¬ c.X k) (hold:c.w0.heap.size≤k∨c.G k)
  (hni:∀ i,VR g (fun j=>Qn c g s j∨j=k) w (s.T i) (a.tmps.getD i undef)) (hng:∀ i,VR (fun _=>.un) (fun j=>Qn c g s j∨j=k) w (c.gl i) (.pointer (some ⟨i,0,none⟩))) (hnb:∀ b',BR g (fun j=>Qn c g s j∨j=k) w (g b') (s.H b'))
  (hn:BR (Yu g b (.re k)) (fun j=>Qn c g s j∨j=k) w (.re k) x):R c (Yu g b (.re k)) (s.putB b x) a w:=by
 have hun:g b=.un:=by
  have:=hR.h b;rw[hfree]at this;generalize g b=m at this;cases this;rfl
 have hg:=Qbx (m:=.re k) hun
 have hself:Yu g b (.re k) b=.re k:=by simp[Yu]
 have hne:∀ b',(s.H b').live→b'≠b:=fun b' h e=>by subst e;rw[hfree]at h;exact h
 have hoth:∀ b',b'≠b→Yu g b (.re k) b'=g b':=fun b' h=>by simp[Yu,h]
 have hl:∀ b',((s.putB b x).H b').live ↔ b'=b∨(s.H b').live:=fun b'=>by
  rw[FS.H_putB];split
  ·rename_i e;subst e;exact ⟨fun _=>.inl rfl,fun _=>hx⟩
  ·rename_i e;exact ⟨.inr,fun h=>h.resolve_left fun e'=>e e'.symm⟩
 have hW:Qn c (Yu g b (.re k)) (s.putB b x)=fun j=>Qn c g s j∨j=k:=by
  funext j
  apply propext
  constructor
  ·rintro (h|⟨b',h1,h2⟩)
   ·exact .inl (.inl h)
   ·rcases (hl b').1 h1 with rfl|h
    ·rw[hself]at h2;cases h2;exact .inr rfl
    ·rw[hoth b' (hne b' h)]at h2;exact .inl (.inr ⟨b',h,h2⟩)
  ·rintro ((h|⟨b',h1,h2⟩)|rfl)
   ·exact .inl h
   ·exact .inr ⟨b',(hl b').2 (.inr h1),by rw[hoth b' (hne b' h1)];exact h2⟩
   ·exact .inr ⟨b,(hl b).2 (.inl rfl),hself⟩
 have hf:=Fr.refl w (fun j=>Qn c g s j∨j=k)
 refine ⟨hR.size,hR.def_,fun i=>?_,fun i=>?_,fun b'=>?_,fun p q m hp hq h1 h2=>?_,fun p m hp h1=>?_,hR.fr,hR.xs,Qkd hR hun⟩
 ·rw[hW];exact (hni i).mono hf (fun _ _ h=>h) hg
 ·rw[hW];exact hng i
 ·rw[hW,FS.H_putB]
  split
  ·rename_i e;subst e;rw[hself];exact hn
  ·rename_i e
   rw[hoth b' fun e'=>e e'.symm]
   exact (hnb b').mono hf (fun _ _ h=>h) hg fun _ _ _=>rfl
 ·rcases (hl p).1 hp with rfl|hp'<;>rcases (hl q).1 hq with rfl|hq'
  ·rfl
  ·rw[hself]at h1;cases h1;rw[hoth q (hne q hq')]at h2;exact (hnew q hq' h2).elim
  ·rw[hself]at h2;cases h2;rw[hoth p (hne p hp')]at h1;exact (hnew p hp' h1).elim
  ·rw[hoth p (hne p hp')]at h1;rw[hoth q (hne q hq')]at h2;exact hR.inj p q m hp' hq' h1 h2
 ·rcases (hl p).1 hp with rfl|hp'
  ·rw[hself]at h1;cases h1;exact hold
  ·rw[hoth p (hne p hp')]at h1;exact hR.old p m hp' h1
theorem R.new (hR:R c g s a w) {b:Nat} {x:Bk} (o:Obj) (hfree:s.H b=.free) (hx:x.live) (hn:∀ g',(∀ i,g i≠.un→g' i=g i)→BR g' (fun j=>Qn c g s j∨j=w.heap.size) (w.alloc o) (.re w.heap.size) x) :
  R c (Yu g b (.re w.heap.size)) (s.putB b x) a (w.alloc o):=by
 have hun:g b=.un:=by
  have:=hR.h b;rw[hfree]at this;generalize g b=m at this;cases this;rfl
 have hR':=hR.grow (Fr.alloc w o _)
 have hge:∀ k,Qn c g s k→k < w.heap.size:=by
  rintro k (h|⟨b',hl,hg⟩)
  ·have:=(hR.xs k h).1;have:=hR.fr.size;omega
  ·exact BR.lt (hg ▸ hR.h b') hl
 have hw:∀ k,k < w.heap.size→(Qn c g s k∨k=w.heap.size)→Qn c g s k:=fun k hk h=>h.resolve_right Zom
 refine hR'.name (k:=w.heap.size) hfree hx (fun b' hl e=>?_) (fun e=>?_) (.inl hR.fr.size) (fun i=>?_) (fun i=>?_) (fun b'=>?_) (hn _ (Qbx hun))
 ·have:=BR.lt (e ▸ hR.h b') hl;omega
 ·have:=(hR.xs _ e).1;have:=hR.fr.size;omega
 ·exact (hR.t i).mono (Fr.alloc w o _) hw fun _ _=>rfl
 ·exact (hR.gl i).mono (Fr.alloc w o _) hw fun _ _=>rfl
 ·exact (hR.h b').mono (Fr.alloc w o _) hw (fun _ _=>rfl) fun k hk hl=>Below.heap_alloc w o k (BR.lt (hk ▸ hR.h b') hl)
theorem R.move (hR:R c g s a w) {b b':Nat} (hlive:(s.H b).live) (hfree:s.H b'=.free):R c (Yu g b' (g b)) ((s.putB b .dead).putB b' (s.H b)) a w:=by
 have hun:g b'=.un:=by
  have:=hR.h b';rw[hfree]at this;generalize g b'=m at this;cases this;rfl
 have hne:b'≠b:=fun e=>by subst e;rw[hfree]at hlive;exact hlive
 have hg:=Qbx (m:=g b) hun
 have hself:Yu g b' (g b) b'=g b:=by simp[Yu]
 have hoth:∀ i,i≠b'→Yu g b' (g b) i=g i:=fun i h=>by simp[Yu,h]
 have hH:∀ i,((s.putB b .dead).putB b' (s.H b)).H i=if b'=i then s.H b else if b=i then .dead else s.H i:=fun i=>by rw[FS.H_putB,FS.H_putB]
 have hl:∀ i,(((s.putB b .dead).putB b' (s.H b)).H i).live→(i=b'∨(i≠b∧i≠b'∧(s.H i).live)):=fun i h=>by
  rw[hH]at h
  split at h
  ·rename_i e;exact .inl e.symm
  ·split at h
   ·exact h.elim
   ·rename_i e1 e2;exact .inr ⟨fun e=>e2 e.symm,fun e=>e1 e.symm,h⟩
 have hW:∀ k,Qn c (Yu g b' (g b)) ((s.putB b .dead).putB b' (s.H b)) k→Qn c g s k:=by
  rintro k (h|⟨i,h1,h2⟩)
  ·exact .inl h
  ·rcases hl i h1 with rfl|⟨h3,h4,h5⟩
   ·rw[hself]at h2;exact .inr ⟨b,hlive,h2⟩
   ·rw[hoth i h4]at h2;exact .inr ⟨i,h5,h2⟩
 have hf:=Fr.refl w (Qn c g s)
 refine ⟨hR.size,hR.def_,fun i=>(hR.t i).mono hf (fun k _=>hW k) hg,fun i=>(hR.gl i).mono hf (fun k _=>hW k) (fun _ _=>rfl),fun i=>?_,fun p q m hp hq h1 h2=>?_,fun p m hp h1=>?_,hR.fr,hR.xs,Qkd hR hun⟩
 ·rw[hH]
  split
  ·rename_i e;subst e;rw[hself];exact (hR.h b).mono hf (fun k _=>hW k) hg fun _ _ _=>rfl
  ·rename_i e1
   rw[hoth i fun e=>e1 e.symm]
   split
   ·rename_i e;subst e
    refine .dead fun e=>?_
    have:=hR.h b;rw[e]at this;exact this.ne_un hlive
   ·exact (hR.h i).mono hf (fun k _=>hW k) hg fun _ _ _=>rfl
 ·rcases hl p hp with rfl|⟨h3,h4,h5⟩<;>rcases hl q hq with rfl|⟨h6,h7,h8⟩
  ·rfl
  ·rw[hself]at h1;rw[hoth q h7]at h2;exact (h6 (hR.inj q b m h8 hlive h2 h1)).elim
  ·rw[hself]at h2;rw[hoth p h4]at h1;exact (h3 (hR.inj p b m h5 hlive h1 h2)).elim
  ·rw[hoth p h4]at h1;rw[hoth q h7]at h2;exact hR.inj p q m h5 h8 h1 h2
 ·rcases hl p hp with rfl|⟨h3,h4,h5⟩
  ·rw[hself]at h1;exact hR.old b m hlive h1
  ·rw[hoth p h4]at h1;exact hR.old p m h5 h1
end
inductive SK where
 | int (k:IntKind)
 | bool
 | str
 | ref
inductive TY where
 | sc (k:SK)
 | ag (n:Nat)
def asI:AV→Int
 | .int _ n=>n
 | _=>0
def asB:AV→Bool
 | .bool b=>b
 | _=>false
def asS:AV→List UInt8
 | .str l=>l
 | _=>[]
def isI (k:IntKind):AV→Prop
 | .int k' _=>k'=k
 | _=>False
def isN:AV→Prop
 | .int _ _=>True
 | _=>False
def isB:AV→Prop
 | .bool _=>True
 | _=>False
def isS:AV→Prop
 | .str _=>True
 | _=>False
def one:AV→Prop
 | .int _ _|.bool _|.str _|.ptr _ _|.xp _ _|.sl _ _ _ _ _|.isl _ _|.nils|.cl _ _|.mp _=>True
 | .lit v=>v.oneCell'=true
 | _=>False
def wrS:SK→AV→AV
 | .int k,v=>.int k (asI v)
 | .bool,v=>.bool (asB v)
 | .str,v=>.str (asS v)
 | .ref,v=>v
def okS:SK→AV→Prop
 | .int k,v=>isI k v
 | .bool,v=>isB v
 | .str,v=>isS v
 | .ref,_=>True
def wr:TY→List AV→Nat→AV
 | .sc k,cs,off=>wrS k (cs.getD off .any)
 | .ag n,cs,off=>.agg ((cs.drop off).take n)
def Qah:TY→List AV→Nat→Prop
 | .sc k,cs,off=>off < cs.length∧okS k (cs.getD off .any)
 | .ag n,cs,off=>off + n≤cs.length
def arI:BinOp→Int→Int→Int
 | .add,x,y=>x + y
 | .sub,x,y=>x - y
 | .mul,x,y=>x * y
 | _,_,_=>0
def cmI:BinOp→Int→Int→Bool
 | .eql,x,y=>x == y
 | .neq,x,y=>x != y
 | .lss,x,y=>decide (x < y)
 | .leq,x,y=>decide (x≤y)
 | .gtr,x,y=>decide (y < x)
 | .geq,x,y=>decide (y≤x)
 | _,_,_=>false
def dvI:BinOp→IntKind→Int→Int→Int
 | .quo,k,x,y=>k.wrap (x.tdiv y)
 | .rem,_,x,y=>x.tmod y
 | _,_,_,_=>0
def shI:BinOp→IntKind→Int→Int→Int
 | .shl,k,x,y=>k.wrap (x * 2 ^ min y.toNat k.bits)
 | .shr,k,x,y=>x.fdiv (2 ^ min y.toNat k.bits)
 | _,_,_,_=>0
def toB (cs:List AV):List UInt8:=cs.map fun v=>UInt8.ofNat (asI v).toNat
inductive Q1 where
 | mv|not|pick|ar (o:BinOp) (k:IntKind)|dv (o:BinOp) (k:IntKind)|bt (o:BinOp) (k:IntKind)|sh (o:BinOp) (k:IntKind)|cm (o:BinOp) (k:IntKind)
 | cB (ne:Bool)|cS (ne:Bool)|cat|cv (k:IntKind)|fld (ty:TY) (off:Nat)|ixA (es len:Nat) (ty:TY)|ixS|fadr (off:Nat)|iadrA (len es:Nat)|iadrS (es:Nat)
 | ld (ty:TY)|lenS|lenL|lenM|slS (lo hi:Bool)|slL (es:Nat) (lo hi:Bool)|ext (i:Nat)|nilck|bld (zero:List AV) (parts:List (Nat × Nat))|mkf (f:FuncId)|mn (k:IntKind)|mx (k:IntKind)
 | nilP (ne:Bool)|b2s
def Jo:AV→List AV
 | .agg cs=>cs
 | v=>[v]
def Ym (cs:List AV) (off:Nat) (vs:List AV):List AV:=cs.take off++vs++cs.drop (off + vs.length)
def Qhv:TY→List AV→Nat→AV→List AV
 | .sc _,cs,off,v=>cs.set off v
 | .ag _,cs,off,.agg vs=>Ym cs off vs
 | .ag _,cs,_,_=>cs
def Zp (cs:List AV):List (Nat × Nat)→List AV→List AV
 | (off,_)::ps,.agg vs::r=>Zp (Ym cs off vs) ps r
 | (off,_)::ps,v::r=>Zp (cs.set off v) ps r
 | _,_=>cs
def Yr (n:Nat):List (Nat × Nat)→List AV→Prop
 | (off,m)::ps,.agg vs::r=>vs.length=m∧off + m≤n∧Yr n ps r
 | (off,m)::ps,v::r=>one v∧m=1∧off < n∧Yr n ps r
 | [],[]=>True
 | _,_=>False
def Xq (lo:Bool):List AV→Int
 | x::_=>bif lo then asI x else 0
 | []=>0
def Zo (lo hi:Bool) (n:Nat):List AV→Int
 | [_,y]=>bif lo && hi then asI y else n
 | [x]=>bif hi then asI x else n
 | _=>n
def Qby (lo hi:Bool):List AV→Prop
 | [x,y]=>lo=true∧hi=true∧isI .i64 x∧isI .i64 y
 | [x]=>isI .i64 x∧(lo != hi)=true
 | []=>lo=false∧hi=false
 | _=>False
def qv:Q1→List AV→Bk→AV
 | .mv,[x],_=>x
 | .not,[x],_=>.bool (!asB x)
 | .pick,[c,x,y],_=>.bool (bif asB c then asB x else asB y)
 | .ar o k,[x,y],_=>.int k (k.wrap (arI o (asI x) (asI y)))
 | .dv o k,[x,y],_=>.int k (dvI o k (asI x) (asI y))
 | .bt o k,[x,y],_=>.int k (bits o k (asI x) (asI y))
 | .sh o k,[x,y],_=>.int k (shI o k (asI x) (asI y))
 | .cm o _,[x,y],_=>.bool (cmI o (asI x) (asI y))
 | .cB ne,[x,y],_=>.bool (ne != (asB x == asB y))
 | .cS ne,[x,y],_=>.bool (ne != (asS x == asS y))
 | .cat,[x,y],_=>.str (asS x++asS y)
 | .cv k,[x],_=>.int k (k.wrap (asI x))
 | .fld ty off,[.agg cs],_=>wr ty cs off
 | .ixA es _ ty,[.agg cs,i],_=>wr ty cs ((asI i).toNat * es)
 | .ixS,[x,i],_=>.int .u8 ((asS x).getD (asI i).toNat 0).toNat
 | .fadr o,[.ptr b off],_=>.ptr b (off + o)
 | .fadr o,[.xp cs off],_=>.xp cs (off + o)
 | .iadrA _ es,[.ptr b off,i],_=>.ptr b (off + (asI i).toNat * es)
 | .iadrA _ es,[.xp cs off,i],_=>.xp cs (off + (asI i).toNat * es)
 | .iadrS es,[.sl _ b off _ _,i],_=>.ptr b (off + (asI i).toNat * es)
 | .iadrS es,[.isl _ cs,i],_=>.xp cs ((asI i).toNat * es)
 | .ld ty,[.ptr _ off],.cells cs=>wr ty cs off
 | .ld ty,[.xp cs off],_=>wr ty cs off
 | .lenS,[x],_=>.int .i64 (asS x).length
 | .lenL,[.isl n _],_=>.int .i64 n
 | .lenL,[.sl _ _ _ n _],_=>.int .i64 n
 | .lenL,[.nils],_=>.int .i64 0
 | .lenM,[.mp _],.mapb kvs _=>.int .i64 kvs.length
 | .slS lo hi,x::r,_=>.str (((asS x).drop (Xq lo r).toNat).take ((Zo lo hi (asS x).length r).toNat - (Xq lo r).toNat))
 | .slL es lo hi,.isl n cs::r,_=>.isl ((Zo lo hi n r).toNat - (Xq lo r).toNat) ((cs.drop ((Xq lo r).toNat * es)).take (((Zo lo hi n r).toNat - (Xq lo r).toNat) * es))
 | .slL es lo hi,.sl _ b off n c::r,_=>if Xq lo r < c then .sl es b (off + (Xq lo r).toNat * es) ((Zo lo hi n r).toNat - (Xq lo r).toNat) (c - (Xq lo r).toNat) else .isl 0 []
 | .ext i,[.tup vs],_=>vs.getD i .any
 | .nilck,[x],_=>x
 | .bld z ps,vs,_=>.agg (Zp z ps vs)
 | .mkf f,vs,_=>.cl f vs
 | .mn k,[x,y],_=>.int k (if asI y < asI x then asI y else asI x)
 | .mx k,[x,y],_=>.int k (if asI y > asI x then asI y else asI x)
 | .nilP ne,[.lit (.pointer none)],_=>.bool (!ne)
 | .nilP ne,[.ptr _ _],_=>.bool ne
 | .nilP ne,[.xp _ _],_=>.bool ne
 | .b2s,[.sl _ _ off n _],.cells cs=>.str (toB ((cs.drop off).take n))
 | .b2s,[.isl n cs],_=>.str (toB (cs.take n))
 | .b2s,[.nils],_=>.str []
 | _,_,_=>.any
def qp:Q1→List AV→Bk→Prop
 | .mv,[_],_=>True
 | .not,[x],_=>isB x
 | .pick,[c,x,y],_=>isB c∧(asB c=true→isB x)∧(asB c=false→isB y)
 | .ar _ k,[x,y],_=>isI k x∧isI k y
 | .dv _ k,[x,y],_=>isI k x∧isI k y∧asI y≠0
 | .bt _ k,[x,y],_=>isI k x∧isI k y
 | .sh _ k,[x,y],_=>isI k x∧isN y∧0≤asI y
 | .cm _ k,[x,y],_=>isI k x∧isI k y
 | .cB _,[x,y],_=>isB x∧isB y
 | .cS _,[x,y],_=>isS x∧isS y
 | .cat,[x,y],_=>isS x∧isS y∧(asS x).length + (asS y).length≤9223372036854775807
 | .cv _,[x],_=>isN x
 | .fld ty off,[.agg cs],_=>Qah ty cs off
 | .ixA es len ty,[.agg cs,i],_=>isN i∧0≤asI i∧asI i < len∧Qah ty cs ((asI i).toNat * es)
 | .ixS,[x,i],_=>isS x∧isN i∧0≤asI i∧asI i < (asS x).length
 | .fadr _,[.ptr _ _],_=>True
 | .fadr _,[.xp _ _],_=>True
 | .iadrA len _,[.ptr _ _,i],_=>isN i∧0≤asI i∧asI i < len
 | .iadrA len _,[.xp _ _,i],_=>isN i∧0≤asI i∧asI i < len
 | .iadrS es,[.sl es' _ _ n _,i],_=>es'=es∧isN i∧0≤asI i∧asI i < n
 | .iadrS es,[.isl n cs,i],_=>isN i∧0≤asI i∧asI i < n∧(asI i).toNat * es < cs.length
 | .ld ty,[.ptr _ off],.cells cs=>Qah ty cs off
 | .ld ty,[.xp cs off],_=>Qah ty cs off
 | .lenS,[x],_=>isS x
 | .lenL,[.isl _ _],_=>True
 | .lenL,[.sl _ _ _ _ _],_=>True
 | .lenL,[.nils],_=>True
 | .lenM,[.mp _],.mapb _ _=>True
 | .slS lo hi,x::r,_=>isS x∧Qby lo hi r∧0≤Xq lo r∧Xq lo r≤Zo lo hi (asS x).length r∧Zo lo hi (asS x).length r≤(asS x).length
 | .slL es lo hi,.isl n cs::r,_=>Qby lo hi r∧0≤Xq lo r∧Xq lo r≤Zo lo hi n r∧Zo lo hi n r≤n∧cs.length≤n * es
 | .slL es lo hi,.sl es' _ _ n c::r,_=>es'=es∧Qby lo hi r∧0≤Xq lo r∧Xq lo r≤Zo lo hi n r∧Zo lo hi n r≤c
 | .ext i,[.tup vs],_=>i < vs.length
 | .nilck,[.ptr _ _],_=>True
 | .nilck,[.xp _ _],_=>True
 | .bld z ps,vs,_=>Yr z.length ps vs
 | .mkf _,_,_=>True
 | .mn k,[x,y],_=>isI k x∧isI k y
 | .mx k,[x,y],_=>isI k x∧isI k y
 | .nilP _,[.lit (.pointer none)],_=>True
 | .nilP _,[.ptr _ _],_=>True
 | .nilP _,[.xp _ _],_=>True
 | .b2s,[.sl es _ off n _],.cells cs=>es=1∧off + n≤cs.length∧∀ v ∈ (cs.drop off).take n,isI .u8 v
 | .b2s,[.isl n cs],_=>n≤cs.length∧∀ v ∈ cs.take n,isI .u8 v
 | .b2s,[.nils],_=>True
 | _,_,_=>False
inductive TV where
 | t (i:Nat)
 | c (v:AV)
 | gl (i:Nat)
def ofS:Value→AV
 | .int k n=>.int k n
 | .bool b=>.bool b
 | .string s=>.str s.data.toList
 | .slice none 0 0=>.nils
 | v=>.lit v
def ofV:Value→AV
 | .agg cs=>if cs.all (·.oneCell') then .agg (cs.toList.map ofS) else .lit (.agg cs)
 | v=>ofS v
def tvO:Operand→TV
 | .tmp t=>.t t
 | .const v=>.c (ofV v)
 | .global i=>.gl i
 | .func f=>.c (.cl f [])
def evT (gl:Nat→AV) (s:FS):TV→AV
 | .t i=>s.T i
 | .c v=>v
 | .gl i=>gl i
def Xs5 (P:Program) (t:TypeId):Option SK :=
 match P.underlying t with
 | some (.int k)=>some (.int k)
 | some .bool=>some .bool
 | some .string=>some .str
 | some (.pointer _)|some (.slice _)|some (.map _ _)|some (.func _ _ _)=>some .ref
 | _=>none
def Yz (P:Program) (t:TypeId):Option Nat:=(P.info? t).map (·.size)
def Qbg (P:Program) (t:TypeId):Option TY :=
 match P.underlying t with
 | some (.struct _)|some (.array _ _)=>(Yz P t).map .ag
 | _=>if Yz P t=some 1 then (Xs5 P t).map .sc else none
def Qf9 (P:Program) (fs:Array Field):List Nat→Option (List (Nat × Nat))
 | []=>some []
 | i::r=>match fs[i]? with
  | some f=>match Yz P f.type,Qf9 P fs r with
   | some m,some l=>some ((f.offset,m)::l)
   | _,_=>none
  | none=>none
def Xq0 (op:BinOp) (k:IntKind):Q1:=match op with
 | .add|.sub|.mul=>.ar op k
 | .quo|.rem=>.dv op k
 | .and|.or|.xor|.andNot=>.bt op k
 | .shl|.shr=>.sh op k
 | _=>.cm op k
def Xqc (op:BinOp):Option Q1:=match op with
 | .eql=>some (.cB false)
 | .neq=>some (.cB true)
 | _=>none
def Xre (op:BinOp):Option Q1:=match op with
 | .add=>some .cat
 | .eql=>some (.cS false)
 | .neq=>some (.cS true)
 | _=>none
def nilB (op:BinOp) (y:Operand):Option Bool:=match y with
 | .const (.pointer none)=>(match op with
  | .eql=>some false
  | .neq=>some true
  | _=>none)
 | _=>none
def Qkw (P:Program) (op:BinOp) (t:TypeId) (x y:Operand):Option (Q1 × List Operand) :=
 match P.underlying t with
 | some (.int k)=>some (Xq0 op k,[x,y])
 | some .bool=>(Xqc op).map fun q=>(q,[x,y])
 | some .string=>(Xre op).map fun q=>(q,[x,y])
 | some (.pointer _)=>(nilB op y).map fun b=>(.nilP b,[x])
 | _=>none
def Qet (P:Program) (o:Oper):Option (Q1 × List Operand) :=
 match o.op with
 | .move x=>some (.mv,[x])
 | .assign x=>some (.mv,[x])
 | .pick c a b=>some (.pick,[c,a,b])
 | .unOp .not _ x=>some (.not,[x])
 | .binOp op t x y _=>Qkw P op t x y
 | .convert s d x=>match P.underlying s,P.underlying d with
  | some (.int _),some (.int k)=>some (.cv k,[x])
  | some (.slice e),some .string=>match P.underlying e with
   | some (.int .u8)=>some (.b2s,[x])
   | _=>none
  | _,_=>none
 | .field t x f=>match P.underlying t with
  | some (.struct fs)=>match fs[f]? with
   | some fd=>(Qbg P fd.type).map fun ty=>(.fld ty fd.offset,[x])
   | none=>none
  | _=>none
 | .index t x i=>match P.underlying t with
  | some (.array n e)=>match Qbg P e,Yz P e with
   | some ty,some es=>some (.ixA es n ty,[x,i])
   | _,_=>none
  | some .string=>some (.ixS,[x,i])
  | _=>none
 | .fieldAddr t x f=>match P.underlying t with
  | some (.struct fs)=>match fs[f]? with
   | some fd=>match Yz P fd.type with
    | some (_ + 1)=>some (.fadr fd.offset,[x])
    | _=>none
   | none=>none
  | _=>none
 | .indexAddr t x i=>match P.underlying t with
  | some (.array n e)=>(Yz P e).map fun es=>(.iadrA n es,[x,i])
  | some (.slice e)=>(Yz P e).map fun es=>(.iadrS es,[x,i])
  | _=>none
 | .load t x=>(Qbg P t).map fun ty=>(.ld ty,[x])
 | .call ⟨.builtin .len,⟨[x]⟩,⟨[t]⟩⟩=>match P.underlying t with
  | some .string=>some (.lenS,[x])
  | some (.slice _)=>some (.lenL,[x])
  | some (.map _ _)=>some (.lenM,[x])
  | _=>none
 | .call ⟨.builtin .min,⟨[x,y]⟩,_⟩=>match P.underlying o.type with
  | some (.int k)=>some (.mn k,[x,y])
  | _=>none
 | .call ⟨.builtin .max,⟨[x,y]⟩,_⟩=>match P.underlying o.type with
  | some (.int k)=>some (.mx k,[x,y])
  | _=>none
 | .slice t x lo hi none=>match P.underlying t with
  | some .string=>some (.slS lo.isSome hi.isSome,x::(lo.toList++hi.toList))
  | some (.slice e)=>(Yz P e).map fun es=>(.slL es lo.isSome hi.isSome,x::(lo.toList++hi.toList))
  | _=>none
 | .extract x i=>some (.ext i,[x])
 | .nilCheck x=>some (.nilck,[x])
 | .build t parts=>match (P.info? t).bind (·.zero),P.underlying t with
  | some (.agg z),some (.struct fs)=>if z.all (·.oneCell') && fs.all (fun f=>(Yz P f.type).isSome) then (Qf9 P fs (parts.toList.map (·.1))).map fun ps=>(.bld (z.toList.map ofS) ps,parts.toList.map (·.2)) else none
  | some (.agg z),some (.array _ e)=>if z.all (·.oneCell') then (Yz P e).map fun m=>(.bld (z.toList.map ofS) (parts.toList.map fun p=>(p.1 * m,m)),parts.toList.map (·.2)) else none
  | _,_=>none
 | .makeFunc (.func f) ⟨[]⟩ caps=>some (.mkf f,caps.toList)
 | _=>none
section
variable {P:Program} {g:Nat→GM} {W:Nat→Prop} {w:World}
theorem VR.isI {k:IntKind} {x:AV} {v:Value} (h:VR g W w x v) (hk:isI k x):v=.int k (asI x):=by
 cases h<;>simp_all [Proofs.YtogckmommodmhaaGreatDoor.isI,asI]
theorem VR.isN {x:AV} {v:Value} (h:VR g W w x v) (hk:isN x):∃ k,v=.int k (asI x):=by
 cases h<;>simp_all [Proofs.YtogckmommodmhaaGreatDoor.isN,asI]
theorem VR.isB {x:AV} {v:Value} (h:VR g W w x v) (hk:isB x):v=.bool (asB x):=by
 cases h<;>simp_all [Proofs.YtogckmommodmhaaGreatDoor.isB,asB]
theorem VR.isS {x:AV} {v:Value} (h:VR g W w x v) (hk:isS x):v=.string ⟨(asS x).toArray⟩:=by
 cases h<;>simp_all [Proofs.YtogckmommodmhaaGreatDoor.isS,asS]
theorem VR.one {x:AV} {v:Value} (h:VR g W w x v) (hk:one x):v.oneCell'=true:=by
 cases h<;>simp_all [Proofs.YtogckmommodmhaaGreatDoor.one,Value.oneCell']
theorem VR.okS {k:SK} {x:AV} {v:Value} (h:VR g W w x v) (hk:okS k x):VR g W w (wrS k x) v:=by
 cases k with
 | int k=>rw[h.isI hk];exact .int _ _
 | bool=>rw[h.isB hk];exact .bool _
 | str=>rw[h.isS hk];exact .str _
 | ref=>exact h
theorem Qms (v:Value):VR g W w (ofS v) v:=by
 unfold ofS
 split
 ·exact .int _ _
 ·exact .bool _
 ·rename_i s
  have:Value.string s=.string ⟨s.data.toList.toArray⟩:=by cases s;simp
  rw[this];exact .str _
 ·exact .nils _
 ·exact .lit _
theorem Qmi (v:Value):VR g W w (ofV v) v:=by
 unfold ofV
 split
 ·rename_i cs
  split
  ·rename_i h
   refine .agg Zsi (fun j hj=>?_) fun j hj=>?_
   ·have hj':j < cs.size:=by simpa using hj
    have:=(Array.all_eq_true.1 h) j hj'
    simpa [Array.getD,hj'] using this
   ·have hj':j < cs.size:=by simpa using hj
    have e:cs.getD j undef=cs[j]:=by simp[Array.getD,hj']
    have e':(cs.toList.map ofS).getD j .any=ofS cs[j]:=by simp[hj']
    rw[e,e'];exact Qms _
  ·exact .lit _
 ·exact Qms _
theorem R.ev {c:Cx} {s:FS} {a:Act} (hR:R c g s a w) (x:Operand):VR g (Qn c g s) w (evT c.gl s (tvO x)) (a.eval x):=by
 cases x with
 | tmp t=>exact hR.t t
 | const v=>exact Qmi v
 | global i=>exact (hR.gl i).mono (Fr.refl _ _) (fun _ _ h=>h) (fun _ h=>absurd rfl h)
 | func f=>exact .cl rfl (fun j hj=>absurd hj Zsi)
end
def VRs (g:Nat→GM) (W:Nat→Prop) (w:World):List AV→List Value→Prop
 | [],[]=>True
 | x::xs,v::vs=>VR g W w x v∧VRs g W w xs vs
 | _,_=>False
def Jg:List AV→Option Nat
 | .ptr b _::_=>some b
 | .sl _ b _ _ _::_=>some b
 | .mp b::_=>some b
 | _=>none
def Qdg (s:FS) (l:List AV):Bk :=
 match Jg l with
 | some b=>s.H b
 | none=>.free
def BRs (g:Nat→GM) (W:Nat→Prop) (w:World) (l:List AV) (x:Bk):Prop:=∀ b,Jg l=some b→BR g W w (g b) x
section
variable {P:Program} {g:Nat→GM} {W:Nat→Prop} {w:World}
theorem VRs.nil_inv {vs:List Value} (h:VRs g W w [] vs):vs=[]:=by cases vs<;>simp_all [VRs]
theorem VRs.cons_inv {x:AV} {xs:List AV} {vs:List Value} (h:VRs g W w (x::xs) vs):∃ v r,vs=v::r∧VR g W w x v∧VRs g W w xs r:=by
 cases vs with
 | nil=>simp[VRs]at h
 | cons v r=>exact ⟨v,r,rfl,h.1,h.2⟩
theorem VRs.nil_inv' {xs:List AV} (h:VRs g W w xs []):xs=[]:=by cases xs<;>simp_all [VRs]
theorem VRs.cons_inv' {xs:List AV} {v:Value} {r:List Value} (h:VRs g W w xs (v::r)):∃ x ys,xs=x::ys∧VR g W w x v∧VRs g W w ys r:=by
 cases xs with
 | nil=>simp[VRs]at h
 | cons x ys=>exact ⟨x,ys,rfl,h.1,h.2⟩
theorem VRs.one {xs:List AV} {v:Value} (h:VRs g W w xs [v]):∃ x,xs=[x]∧VR g W w x v:=by
 obtain ⟨x,ys,rfl,h1,h2⟩:=h.cons_inv'
 obtain rfl:=h2.nil_inv'
 exact ⟨x,rfl,h1⟩
theorem VRs.two {xs:List AV} {v u:Value} (h:VRs g W w xs [v,u]):∃ x y,xs=[x,y]∧VR g W w x v∧VR g W w y u:=by
 obtain ⟨x,ys,rfl,h1,h2⟩:=h.cons_inv'
 obtain ⟨y,rfl,h3⟩:=h2.one
 exact ⟨x,y,rfl,h1,h3⟩
theorem VRs.three {xs:List AV} {v u t:Value} (h:VRs g W w xs [v,u,t]):∃ x y z,xs=[x,y,z]∧VR g W w x v∧VR g W w y u∧VR g W w z t:=by
 obtain ⟨x,ys,rfl,h1,h2⟩:=h.cons_inv'
 obtain ⟨y,z,rfl,h3⟩:=h2.two
 exact ⟨x,y,z,rfl,h1,h3⟩
theorem VRs.length:∀ {xs:List AV} {vs:List Value},VRs g W w xs vs→xs.length=vs.length
 | [],[],_=>rfl
 | _::xs,_::vs,h=>by simp[VRs.length h.2]
 | [],_::_,h=>h.elim
 | _::_,[],h=>h.elim
theorem VRs.get:∀ {xs:List AV} {vs:List Value} (_:VRs g W w xs vs) (j:Nat) (_:j < xs.length),VR g W w (xs.getD j .any) (vs.getD j undef)
 | x::xs,v::vs,h,0,_=>h.1
 | x::xs,v::vs,h,j + 1,hj=>by
  have:=VRs.get h.2 j (by simpa using hj)
  simpa using this
 | [],_,_,_,hj=>absurd hj Zsi
 | _::_,[],h,_,_=>h.elim
theorem Qhd {cs:List AV} {j:Nat} (h:j < cs.length):cs.getD j .any=cs[j]:=by simp[List.getD,h]
theorem Xt8 {k:SK} {cs:List AV} {us:Nat→Value} (hv:∀ j,j < cs.length→VR g W w (cs.getD j .any) (us j)) {off:Nat} (h:Qah (.sc k) cs off):VR g W w (wr (.sc k) cs off) (us off):=by
 exact (hv off h.1).okS h.2
theorem Xtb {n:Nat} {cs:List AV} {us:Nat→Value} (h1:∀ j,j < cs.length→(us j).oneCell'=true) (hv:∀ j,j < cs.length→VR g W w (cs.getD j .any) (us j)) {off:Nat} (h:Qah (.ag n) cs off) (vs:Array Value) (hn:vs.size=n) (hvs:∀ j,j < n→vs.getD j undef=us (off + j)):VR g W w (wr (.ag n) cs off) (.agg vs):=by
 have hl:((cs.drop off).take n).length=n:=by simp only[Qah]at h;simp;omega
 have h':off + n≤cs.length:=h
 refine .agg (by rw[hl,hn]) (fun j hj=>?_) fun j hj=>?_
 ·rw[hl]at hj;rw[hvs j hj];exact h1 _ Zom
 ·rw[hl]at hj
  rw[hvs j hj]
  have e:((cs.drop off).take n).getD j .any=cs.getD (off + j) .any:=by
   simp only[List.getD,List.getElem?_take,List.getElem?_drop,if_pos hj]
  rw[e]
  exact hv _ Zom
theorem add_lit (k o j:Nat):(⟨k,o,none⟩:Addr).add j=⟨k,o + j,none⟩:=by unfold Addr.add;split<;>simp_all
theorem Qkl {t:TypeId} {n:Nat} (h:Qbg P t=some (.ag n)):Yz P t=some n∧((∃ fs,P.underlying t=some (.struct fs))∨∃ m e,P.underlying t=some (.array m e)):=by
 unfold Qbg at h
 split at h
 ·rename_i fs hu
  cases hs:Yz P t<;>rw[hs]at h<;>simp at h
  exact ⟨by rw[h],.inl ⟨_,hu⟩⟩
 ·rename_i m e hu
  cases hs:Yz P t<;>rw[hs]at h<;>simp at h
  exact ⟨by rw[h],.inr ⟨_,_,hu⟩⟩
 ·split at h
  ·cases hs:Xs5 P t<;>rw[hs]at h<;>simp at h
  ·cases h
theorem Qzh {t:TypeId} {k:SK} (h:Qbg P t=some (.sc k)):Yz P t=some 1∧∃ d,P.underlying t=some d∧(∀ fs,d≠.struct fs)∧(∀ m e,d≠.array m e):=by
 unfold Qbg at h
 split at h
 ·cases hs:Yz P t<;>rw[hs]at h<;>simp at h
 ·cases hs:Yz P t<;>rw[hs]at h<;>simp at h
 ·rename_i h1 h2
  split at h
  ·rename_i h3
   refine ⟨h3,?_⟩
   cases hu:P.underlying t with
   | none=>unfold Xs5 at h;rw[hu]at h;simp at h
   | some d=>exact ⟨d,rfl,fun fs e=>h1 fs (by rw[hu,e]),fun m e e'=>h2 m e (by rw[hu,e'])⟩
  ·cases h
theorem Qjr {t:TypeId} {n:Nat} (h:Qbg P t=some (.ag n)):(isAgg t).run P w=.ok true w:=by
 obtain ⟨_,⟨fs,hu⟩|⟨m,e,hu⟩⟩:=Qkl h<;>simp[isAgg,run_underlying hu]
theorem Qje {t:TypeId} {k:SK} (h:Qbg P t=some (.sc k)):(isAgg t).run P w=.ok false w:=by
 obtain ⟨_,d,hu,h1,h2⟩:=Qzh h
 simp only[isAgg,Sem.run_bind,run_underlying hu,Result.andThen_ok]
 cases d<;>first|rfl|exact absurd rfl (h1 _)|exact absurd rfl (h2 _ _)
theorem Ji {t:TypeId} {n:Nat} (h:Yz P t=some n):(sizeOf t).run P w=.ok n w:=by
 unfold Yz at h
 cases hi:P.info? t with
 | none=>rw[hi]at h;simp at h
 | some i=>rw[hi]at h;simp at h;simp[sizeOf,typeInfo,hi,h]
theorem Qbj {t:TypeId} {ty:TY} (ht:Qbg P t=some ty) {k o:Nat} {cs:List AV} {us:Nat→Value} (hc:∀ j,j < cs.length→Wu w k (o + j)=some (us j)) (h1:∀ j,j < cs.length→(us j).oneCell'=true)
  (hv:∀ j,j < cs.length→VR g W w (cs.getD j .any) (us j)) {off:Nat} (h:Qah ty cs off) :
  ∃ v,(Instr.loadAt t (.pointer (some ⟨k,o + off,none⟩))).run P w=.ok v w∧VR g W w (wr ty cs off) v:=by
 cases ty with
 | sc q =>
  refine ⟨us off,?_,Xt8 hv h⟩
  have h0:w.cell? ⟨k,o + off,none⟩=some (us off):=hc off h.1
  simp[Instr.loadAt,Instr.sureAddr,loadVar,Qje ht,h0]
 | ag n =>
  obtain ⟨hs,_⟩:=Qkl ht
  have h':off + n≤cs.length:=h
  refine ⟨.agg ((List.range n).map fun j=>us (off + j)).toArray,?_,Xtb h1 hv h _ Zsi fun j hj=>by simp[Array.getD,hj]⟩
  have hl:=run_loadCells (P:=P) w ⟨k,o + off,none⟩ n (fun j=>us (off + j)) (fun j hj=>by rw[add_lit,Nat.add_assoc];exact hc _ Zom)
  simp[Instr.loadAt,Instr.sureAddr,loadVar,Qjr ht,Ji hs,hl]
theorem Qj7 {t:TypeId} {ty:TY} (ht:Qbg P t=some ty) {vs:Array Value} {cs:List AV} (hs:vs.size=cs.length) (h1:∀ j,j < cs.length→(vs.getD j undef).oneCell'=true)
  (hv:∀ j,j < cs.length→VR g W w (cs.getD j .any) (vs.getD j undef)) {off:Nat} (h:Qah ty cs off):∃ v,(part t vs off).run P w=.ok v w∧VR g W w (wr ty cs off) v:=by
 cases ty with
 | sc q =>
  refine ⟨vs.getD off undef,?_,Xt8 hv h⟩
  have h0:off < vs.size:=by rw[hs];exact h.1
  simp[part,Qje ht,h0,Array.getD]
 | ag m =>
  obtain ⟨hs',_⟩:=Qkl ht
  have h':off + m≤cs.length:=h
  refine ⟨.agg (vs.extract off (off + m)),?_,Xtb h1 hv h _ (by simp;omega) fun j hj=>?_⟩
  ·simp[part,Qjr ht,Ji hs']
  ·have:off + j < vs.size:=by omega
   simp only[Array.getD,Array.size_extract,this,dif_pos]
   rw[dif_pos Zom]
   simp
theorem Qgs {m:GM} {cs:List AV} (h:BR g W w m (.cells cs)) (hne:0 < cs.length):∃ (k:Nat) (us:Nat→Value),m=.re k∧(∀ j,j < cs.length→Wu w k (0 + j)=some (us j))∧(∀ j,j < cs.length→(us j).oneCell'=true)∧∀ j,j < cs.length→VR g W w (cs.getD j .any) (us j):=by
 cases h with
 | ph=>simp at hne
 | cells hb hl h1 hv hf =>
  rename_i k cur e fz
  refine ⟨k,fun j=>cur.getD j undef,rfl,fun j hj=>?_,h1,hv⟩
  have hj':j < cur.size:=by omega
  have:=cell_of_row w k (0 + j) cur e fz hb
  unfold Wu
  rw[this]
  simp[Array.getD,hj']
theorem Qs6 {ty:TY} {cs:List AV} {off:Nat} (h:Qah ty cs off) (hne:¬ 0 < cs.length):ty=.ag 0∧cs=[]∧off=0:=by
 have hl:cs.length=0:=by omega
 cases ty with
 | sc k=>have:=h.1;omega
 | ag n=>have h':off + n≤cs.length:=h;exact ⟨by congr;omega,List.eq_nil_of_length_eq_zero hl,by omega⟩
end
section
variable {P:Program} {g:Nat→GM} {W:Nat→Prop} {w:World}
theorem Qg2 {op:BinOp} {t:TypeId} {x y:Operand} {a b:Value} (h:a.oneCell'=true) (h2:a≠.nilIface):(eqGuard op t x y a b).run P w=.ok () w:=by
 cases op<;>cases a<;>simp_all [eqGuard,Value.oneCell']<;>rfl
theorem Jy {op:BinOp} {t:TypeId} {x y:Operand} (k:IntKind) (n:Int) (b:Value):(eqGuard op t x y (.int k n) b).run P w=.ok () w:=Qg2 rfl (by simp)
theorem Qmb {op:BinOp} {t:TypeId} {x y:Operand} (n:Bool) (b:Value):(eqGuard op t x y (.bool n) b).run P w=.ok () w:=Qg2 rfl (by simp)
theorem Qic {op:BinOp} {t:TypeId} {x y:Operand} (n:ByteArray) (b:Value):(eqGuard op t x y (.string n) b).run P w=.ok () w:=Qg2 rfl (by simp)
theorem Qnr {op:BinOp} {t:TypeId} {x y:Operand} (n:Option Addr) (b:Value):(eqGuard op t x y (.pointer n) b).run P w=.ok () w:=Qg2 rfl (by simp)
theorem Qtd {op:BinOp} (h:op=.add∨op=.sub∨op=.mul) (t:TypeId) (k:IntKind) (m n:Int):binOp op t (.int k m) (.int k n)=pure (.int k (k.wrap (arI op m n))):=by
 rcases h with rfl|rfl|rfl<;>simp[binOp,Op.intArith,arI]
theorem Xl9 {op:BinOp} (h:op=.quo∨op=.rem) (t:TypeId) (k:IntKind) (m n:Int) (h0:n≠0):binOp op t (.int k m) (.int k n)=pure (.int k (dvI op k m n)):=by
 rcases h with rfl|rfl<;>simp[binOp,Op.intDiv,dvI,h0]
theorem Qnm {op:BinOp} (h:op=.and∨op=.or∨op=.xor∨op=.andNot) (t:TypeId) (k:IntKind) (m n:Int):binOp op t (.int k m) (.int k n)=pure (.int k (bits op k m n)):=by
 rcases h with rfl|rfl|rfl|rfl<;>simp[binOp,Op.intBits,bits]
theorem Xmn {op:BinOp} (h:op=.shl∨op=.shr) (t:TypeId) (k j:IntKind) (m n:Int) (h0:0≤n):binOp op t (.int k m) (.int j n)=pure (.int k (shI op k m n)):=by
 have h1:¬ n < 0:=by omega
 rcases h with rfl|rfl<;>simp[binOp,Op.shift,shI,h1]
theorem Xyw {op:BinOp} (h:op=.eql∨op=.neq∨op=.lss∨op=.leq∨op=.gtr∨op=.geq) (t:TypeId) (k:IntKind) (m n:Int):binOp op t (.int k m) (.int k n)=pure (.bool (cmI op m n)):=by
 rcases h with rfl|rfl|rfl|rfl|rfl|rfl<;>simp[binOp,Op.intCmp,cmI]
theorem Xun {t e:TypeId} (hu:P.underlying t=some (.pointer e)) (p:Option Addr):(binOp .eql t (.pointer p) (.pointer none)).run P w=.ok (.bool p.isNone) w:=by
 rw[run_eql_pointer_nil w t p (by rw[hu];simp[Program.pointee,hu])]
theorem Xw7 {t e:TypeId} (hu:P.underlying t=some (.pointer e)) (p:Option Addr):(binOp .neq t (.pointer p) (.pointer none)).run P w=.ok (.bool (!p.isNone)) w:=by
 rw[run_neq_pointer_nil w t p (by rw[hu];simp[Program.pointee,hu])]
theorem Qqi (l:List UInt8):(⟨l.toArray⟩:ByteArray).toList=l:=by rw[Lib.toList_data]
theorem Xj3 (l m:List UInt8):(⟨l.toArray⟩:ByteArray)++⟨m.toArray⟩=⟨(l++m).toArray⟩:=by
 apply ByteArray.ext
 simp[ByteArray.data_append]
theorem Qkb (l:List UInt8):(⟨l.toArray⟩:ByteArray).size=l.length:=by simp[ByteArray.size]
theorem Xlw {op:BinOp} {t:TypeId} {x y:Operand} {q:Q1} {xs:List Operand} (hel:Qkw P op t x y=some (q,xs)) (ρ:Operand→Value) {asq:List AV} (ha:VRs g W w asq (xs.map ρ)) {blk:Bk}
  (hp:qp q asq blk) (hy:∀ v,y=.const v→ρ y=v):∃ v,(do eqGuard op t x y (ρ x) (ρ y);binOp op t (ρ x) (ρ y):Sem Value).run P w=.ok v w∧VR g W w (qv q asq blk) v:=by
 unfold Qkw at hel
 split at hel
 ·rename_i k hu
  have two:∀ q',some (q',[x,y])=some (q,xs)→∃ a b,asq=[a,b]∧q=q'∧VR g W w a (ρ x)∧VR g W w b (ρ y):=by
   intro q' h
   simp at h
   obtain ⟨rfl,rfl⟩:=h
   obtain ⟨a,b,rfl,h1,h2⟩:=VRs.two (by simpa using ha)
   exact ⟨a,b,rfl,rfl,h1,h2⟩
  unfold Xq0 at hel
  split at hel
  all_goals
   obtain ⟨a,b,rfl,rfl,h1,h2⟩:=two _ hel
   simp only[qp]at hp
  ·rw[h1.isI hp.1,h2.isI hp.2];exact ⟨_,by simp only[Sem.run_bind,Jy,Result.andThen_ok,Qtd (.inl rfl)];rfl,.int _ _⟩
  ·rw[h1.isI hp.1,h2.isI hp.2];exact ⟨_,by simp only[Sem.run_bind,Jy,Result.andThen_ok,Qtd (.inr (.inl rfl))];rfl,.int _ _⟩
  ·rw[h1.isI hp.1,h2.isI hp.2];exact ⟨_,by simp only[Sem.run_bind,Jy,Result.andThen_ok,Qtd (.inr (.inr rfl))];rfl,.int _ _⟩
  ·rw[h1.isI hp.1,h2.isI hp.2.1];exact ⟨_,by simp only[Sem.run_bind,Jy,Result.andThen_ok,Xl9 (.inl rfl) _ _ _ _ hp.2.2];rfl,.int _ _⟩
  ·rw[h1.isI hp.1,h2.isI hp.2.1];exact ⟨_,by simp only[Sem.run_bind,Jy,Result.andThen_ok,Xl9 (.inr rfl) _ _ _ _ hp.2.2];rfl,.int _ _⟩
  ·rw[h1.isI hp.1,h2.isI hp.2];exact ⟨_,by simp only[Sem.run_bind,Jy,Result.andThen_ok,Qnm (.inl rfl)];rfl,.int _ _⟩
  ·rw[h1.isI hp.1,h2.isI hp.2];exact ⟨_,by simp only[Sem.run_bind,Jy,Result.andThen_ok,Qnm (.inr (.inl rfl))];rfl,.int _ _⟩
  ·rw[h1.isI hp.1,h2.isI hp.2];exact ⟨_,by simp only[Sem.run_bind,Jy,Result.andThen_ok,Qnm (.inr (.inr (.inl rfl)))];rfl,.int _ _⟩
  ·rw[h1.isI hp.1,h2.isI hp.2];exact ⟨_,by simp only[Sem.run_bind,Jy,Result.andThen_ok,Qnm (.inr (.inr (.inr rfl)))];rfl,.int _ _⟩
  ·obtain ⟨j,hj⟩:=h2.isN hp.2.1
   rw[h1.isI hp.1,hj];exact ⟨_,by simp only[Sem.run_bind,Jy,Result.andThen_ok,Xmn (.inl rfl) _ _ _ _ _ hp.2.2];rfl,.int _ _⟩
  ·obtain ⟨j,hj⟩:=h2.isN hp.2.1
   rw[h1.isI hp.1,hj];exact ⟨_,by simp only[Sem.run_bind,Jy,Result.andThen_ok,Xmn (.inr rfl) _ _ _ _ _ hp.2.2];rfl,.int _ _⟩
  ·rw[h1.isI hp.1,h2.isI hp.2]
   have hop:op=.eql∨op=.neq∨op=.lss∨op=.leq∨op=.gtr∨op=.geq:=by cases op<;>simp_all
   exact ⟨_,by simp only[Sem.run_bind,Jy,Result.andThen_ok,Xyw hop];rfl,.bool _⟩
 ·rename_i hu
  unfold Xqc at hel
  split at hel
  ·simp at hel
   obtain ⟨rfl,rfl⟩:=hel
   obtain ⟨a,b,rfl,h1,h2⟩:=VRs.two (by simpa using ha)
   rw[h1.isB hp.1,h2.isB hp.2]
   exact ⟨.bool (asB a == asB b),by simp only[Sem.run_bind,Qmb,Result.andThen_ok,run_eql_bool _ _ _ _ hu],by simp only[qv,Bool.false_bne];exact .bool _⟩
  ·simp at hel
   obtain ⟨rfl,rfl⟩:=hel
   obtain ⟨a,b,rfl,h1,h2⟩:=VRs.two (by simpa using ha)
   rw[h1.isB hp.1,h2.isB hp.2]
   exact ⟨.bool (!(asB a == asB b)),by simp only[Sem.run_bind,Qmb,Result.andThen_ok,run_neq_bool _ _ _ _ hu],by simp only[qv,Bool.true_bne];exact .bool _⟩
  ·simp at hel
 ·rename_i hu
  unfold Xre at hel
  split at hel
  ·simp at hel
   obtain ⟨rfl,rfl⟩:=hel
   obtain ⟨a,b,rfl,h1,h2⟩:=VRs.two (by simpa using ha)
   rw[h1.isS hp.1,h2.isS hp.2.1]
   have hlen:=hp.2.2
   refine ⟨.string ⟨(asS a++asS b).toArray⟩,?_,.str _⟩
   simp only[Sem.run_bind,Qic,Result.andThen_ok,binOp_string_add,Op.stringOp,Qkb,Xj3]
   rw[if_neg (by simp[IntKind.max,IntKind.signed,IntKind.bits];omega)]
   rfl
  ·simp at hel
   obtain ⟨rfl,rfl⟩:=hel
   obtain ⟨a,b,rfl,h1,h2⟩:=VRs.two (by simpa using ha)
   rw[h1.isS hp.1,h2.isS hp.2]
   exact ⟨.bool (asS a == asS b),by simp only[Sem.run_bind,Qic,Result.andThen_ok,binOp_string_eql,Qqi,Sem.run_pure],by simp only[qv,Bool.false_bne];exact .bool _⟩
  ·simp at hel
   obtain ⟨rfl,rfl⟩:=hel
   obtain ⟨a,b,rfl,h1,h2⟩:=VRs.two (by simpa using ha)
   rw[h1.isS hp.1,h2.isS hp.2]
   exact ⟨.bool (!(asS a == asS b)),by simp only[Sem.run_bind,Qic,Result.andThen_ok,binOp_string_neq,Qqi,Sem.run_pure],by simp only[qv,Bool.true_bne];exact .bool _⟩
  ·simp at hel
 ·rename_i e hu
  have ptr:∀ {a:AV},VR g W w a (ρ x)→(qp (.nilP false) [a] blk∨qp (.nilP true) [a] blk)→∃ p:Option Addr,ρ x=.pointer p∧∀ ne,qv (.nilP ne) [a] blk=.bool (if p.isNone then !ne else ne):=by
   intro a h1 hq
   generalize ρ x=rx at h1
   cases h1 with
   | ptr=>exact ⟨_,rfl,fun ne=>by simp[qv]⟩
   | xp=>exact ⟨_,rfl,fun ne=>by simp[qv]⟩
   | lit =>
    cases rx<;>simp only[qp,or_self]at hq
    rename_i p
    cases p<;>simp only[qp,or_self]at hq
    exact ⟨_,rfl,fun ne=>by simp[qv]⟩
   | _=>simp[qp]at hq
  unfold nilB at hel
  split at hel
  rotate_left
  ·simp at hel
  split at hel
  ·simp at hel
   obtain ⟨rfl,rfl⟩:=hel
   obtain ⟨a,rfl,h1⟩:=VRs.one (by simpa using ha)
   obtain ⟨p,e1,e2⟩:=ptr h1 (.inl hp)
   refine ⟨.bool p.isNone,?_,by rw[e2];cases p<;>exact .bool _⟩
   rw[hy _ rfl,e1]
   simp only[Sem.run_bind,Qnr,Result.andThen_ok,Xun hu]
  ·simp at hel
   obtain ⟨rfl,rfl⟩:=hel
   obtain ⟨a,rfl,h1⟩:=VRs.one (by simpa using ha)
   obtain ⟨p,e1,e2⟩:=ptr h1 (.inr hp)
   refine ⟨.bool (!p.isNone),?_,by rw[e2];cases p<;>exact .bool _⟩
   rw[hy _ rfl,e1]
   simp only[Sem.run_bind,Qnr,Result.andThen_ok,Xw7 hu]
  ·simp at hel
 ·cases hel
theorem Zg {s:Sem Value} {v:Value} {w':World} (h:s.run P w=.ok v w'):(do pure (.value (← s)):Sem Next).run P w=.ok (.value v) w':=by simp[h]
theorem Xfm {lo hi:Bool} {r:List AV} (hb:Qby lo hi r) {vs:List Value} (hv:VRs g W w r vs) :
  (lo=true→∃ k,vs[0]?=some (.int k (Xq lo r)))∧(lo=false→Xq lo r=0)∧(∀ n,hi=true→∃ k,vs[if lo then 1 else 0]?=some (.int k (Zo lo hi n r)))∧(∀ n,hi=false→Zo lo hi n r=n):=by
 match r,hb with
 | [],⟨h1,h2⟩=>subst h1;subst h2;exact ⟨(fun h=>by cases h),fun _=>rfl,(fun _ h=>by cases h),fun _ _=>rfl⟩
 | [x],⟨h1,h2⟩ =>
  obtain ⟨v,r',rfl,h3,h4⟩:=hv.cons_inv
  obtain rfl:=h4.nil_inv
  have e:=h3.isI h1
  cases lo<;>cases hi<;>simp at h2<;>simp[Xq,Zo,e]
 | [x,y],⟨h1,h2,h3,h4⟩ =>
  subst h1;subst h2
  obtain ⟨v,r',rfl,h5,h6⟩:=hv.cons_inv
  obtain ⟨u,r'',rfl,h7,h8⟩:=h6.cons_inv
  have e:=h5.isI h3
  have e':=h7.isI h4
  simp[Xq,Zo,e,e']
theorem Qev {isSlice:Bool} {len cap:Nat} {lo hi:Option Operand} {ρ:Operand→Value} {r:List AV} (hb:Qby lo.isSome hi.isSome r) (hv:VRs g W w r ((lo.toList++hi.toList).map ρ))
  (h0:0≤Xq lo.isSome r) (h1:Xq lo.isSome r≤Zo lo.isSome hi.isSome len r) (h2:Zo lo.isSome hi.isSome len r≤cap) :
  (Instr.sliceBounds isSlice len cap (lo.map ρ) (hi.map ρ) none).run P w=.ok ((Xq lo.isSome r).toNat,(Zo lo.isSome hi.isSome len r).toNat,cap) w:=by
 obtain ⟨a1,a2,a3,a4⟩:=Xfm hb hv
 generalize Xq lo.isSome r=L at *
 replace a3:=a3 len
 replace a4:=a4 len
 generalize Zo lo.isSome hi.isSome len r=H at *
 have hsb:∀ (k:IntKind) (i:Int) (y:Nat) (code:BoundsCode),0≤i→i≤y→(Instr.sliceBound (.int k i) y code).run P w=.ok i.toNat w:=fun k i y code h h'=>by
  simp[Instr.sliceBound,asIntOf,h,h']
 have hH:(H.toNat:Int)=H:=by omega
 cases lo with
 | none =>
  have e:=a2 rfl
  subst e
  cases hi with
  | none=>have e:=a4 rfl;subst e;simp[Instr.sliceBounds]
  | some y =>
   obtain ⟨k,e⟩:=a3 rfl
   simp at e
   simp[Instr.sliceBounds,e,hsb k H cap _ h1 h2]
 | some x =>
  obtain ⟨k,e⟩:=a1 rfl
  simp at e
  cases hi with
  | none=>have e':=a4 rfl;subst e';simp[Instr.sliceBounds,e,hsb k L len _ h0 h1]
  | some y =>
   obtain ⟨k',e'⟩:=a3 rfl
   simp at e'
   simp[Instr.sliceBounds,e,e',hsb k' H cap _ Zom h2,hsb k L H.toNat _ h0 Zom]
theorem Qyr (off:Nat):∀ (l:List Value) (k:Nat) (cs:Array Value),((l.zipIdx k).foldl (fun cs (p:Value × Nat)=>cs.setIfInBounds (off + p.2) p.1) cs).size=cs.size ∧
  ∀ j,((l.zipIdx k).foldl (fun cs (p:Value × Nat)=>cs.setIfInBounds (off + p.2) p.1) cs).getD j undef=if off + k≤j∧j < off + k + l.length∧j < cs.size then l.getD (j - (off + k)) undef else cs.getD j undef
 | [],k,cs=>by
  refine ⟨rfl,fun j=>?_⟩
  rw[if_neg (by simp;omega)]
  rfl
 | v::l,k,cs=>by
  obtain ⟨h1,h2⟩:=Qyr off l (k + 1) (cs.setIfInBounds (off + k) v)
  simp only[List.zipIdx_cons,List.foldl_cons]
  refine ⟨by rw[h1];simp,fun j=>?_⟩
  rw[h2 j]
  simp only[Array.size_setIfInBounds,List.length_cons]
  by_cases hj:j=off + k
  ·subst hj
   rw[if_neg Zom]
   by_cases hs:off + k < cs.size
   ·rw[if_pos Zom];simp[Array.getD,hs]
   ·rw[if_neg Zom];simp[Array.getD,hs]
  ·have e:(cs.setIfInBounds (off + k) v).getD j undef=cs.getD j undef:=by
    simp only[Array.getD_eq_getD_getElem?,Array.getElem?_setIfInBounds]
    rw[if_neg (fun h=>hj h.symm)]
   rw[e]
   by_cases hc:off + (k + 1)≤j∧j < off + (k + 1) + l.length∧j < cs.size
   ·rw[if_pos hc,if_pos Zom]
    have:j - (off + k)=(j - (off + (k + 1))) + 1:=by omega
    rw[this];simp
   ·rw[if_neg hc,if_neg Zom]
theorem Qvp {cs vs:List AV} {off:Nat} (ho:off + vs.length≤cs.length):(Ym cs off vs).length=cs.length:=by unfold Ym;simp;omega
theorem Xoh {cs vs:List AV} {off:Nat} (ho:off + vs.length≤cs.length) (j:Nat):(Ym cs off vs).getD j .any=if off≤j∧j < off + vs.length then vs.getD (j - off) .any else cs.getD j .any:=by
 unfold Ym
 simp only[List.getD]
 by_cases hlt:j < off
 ·rw[if_neg Zom,List.append_assoc,List.getElem?_append_left (by simp;omega),List.getElem?_take,if_pos hlt]
 ·by_cases hlt2:j < off + vs.length
  ·rw[if_pos Zom,List.getElem?_append_left (by simp;omega),List.getElem?_append_right (by simp;omega)]
   simp only[List.length_take]
   rw[show min off cs.length=off by omega]
  ·rw[if_neg Zom,List.getElem?_append_right (by simp;omega),List.getElem?_drop]
   simp only[List.length_append,List.length_take]
   rw[show off + vs.length + (j - (min off cs.length + vs.length))=j by omega]
theorem Qyk {cs:List AV} {cells:Array Value} (hs:cells.size=cs.length) (h1:∀ j,j < cs.length→(cells.getD j undef).oneCell'=true) (h:∀ j,j < cs.length→VR g W w (cs.getD j .any) (cells.getD j undef))
  {vs:List AV} {us:Array Value} (hu:us.size=vs.length) (hu1:∀ j,j < vs.length→(us.getD j undef).oneCell'=true) (hv:∀ j,j < vs.length→VR g W w (vs.getD j .any) (us.getD j undef)) {off:Nat} (ho:off + vs.length≤cs.length)
  {cells':Array Value} (hs':cells'.size=cells.size) (hc:∀ j,cells'.getD j undef=if off≤j∧j < off + us.size∧j < cells.size then us.getD (j - off) undef else cells.getD j undef) :
  cells'.size=(Ym cs off vs).length∧(∀ j,j < (Ym cs off vs).length→(cells'.getD j undef).oneCell'=true)∧∀ j,j < (Ym cs off vs).length→VR g W w ((Ym cs off vs).getD j .any) (cells'.getD j undef):=by
 have hl:(Ym cs off vs).length=cs.length:=by unfold Ym;simp;omega
 refine ⟨by rw[hl,hs',hs],fun j hj=>?_,fun j hj=>?_⟩
 ·rw[hl]at hj
  rw[hc]
  split
  ·exact hu1 _ Zom
  ·exact h1 _ hj
 ·rw[hl]at hj
  rw[hc]
  rw[Xoh ho]
  by_cases hc':off≤j∧j < off + vs.length
  ·rw[if_pos hc',if_pos Zom];exact hv _ Zom
  ·rw[if_neg hc',if_neg Zom];exact h j hj
theorem Qmn {cs:List AV} {off:Nat} {x:AV} (h:off < cs.length):cs.set off x=Ym cs off [x]:=by
 apply List.ext_getElem?
 intro j
 unfold Ym
 rw[List.getElem?_set]
 by_cases hlt:j < off
 ·rw[if_neg Zom,List.append_assoc,List.getElem?_append_left (by simp;omega),List.getElem?_take,if_pos hlt]
 ·by_cases he:off=j
  ·subst he
   rw[if_pos rfl,if_pos h,List.getElem?_append_left (by simp;omega),List.getElem?_append_right (by simp;omega)]
   simp[Nat.min_eq_left (Nat.le_of_lt h)]
  ·rw[if_neg he,List.getElem?_append_right (by simp;omega),List.getElem?_drop]
   simp only[List.length_append,List.length_take,List.length_singleton]
   congr 1;omega
theorem Qjt {v:Value} (h:v.oneCell'=true):v.cells=#[v]:=by cases v<;>simp_all [Value.cells,Value.oneCell']
theorem Xph {n off m:Nat} {ps:List (Nat × Nat)} {x:AV} {r:List AV} (h:∀ vs,x≠.agg vs) (hb:Yr n ((off,m)::ps) (x::r)):one x∧m=1∧off < n∧Yr n ps r:=by
 cases x<;>first|exact absurd rfl (h _)|exact hb
theorem Xwj {cs:List AV} {off m:Nat} {ps:List (Nat × Nat)} {x:AV} {r:List AV} (h:∀ vs,x≠.agg vs):Zp cs ((off,m)::ps) (x::r)=Zp (cs.set off x) ps r:=by
 cases x<;>first|exact absurd rfl (h _)|rfl
theorem Qo9 {place:Nat→Option (Nat × Nat)}:∀ (ps:List (Nat × Nat)) (is:List Nat) (_:is.map place=ps.map some) {asq:List AV} {vs:List Value} (_:VRs g W w asq vs) (_:is.length=vs.length) {cs:List AV} {cells:Array Value}
  (_:Yr cs.length ps asq) (_:cells.size=cs.length) (_:∀ j,j < cs.length→(cells.getD j undef).oneCell'=true) (_:∀ j,j < cs.length→VR g W w (cs.getD j .any) (cells.getD j undef)),
  ∃ cells',Instr.fill place cells (is.zip vs)=some cells'∧VR g W w (.agg (Zp cs ps asq)) (.agg cells'):=by
 intro ps
 induction ps with
 | nil =>
  intro is his asq vs hv hl cs cells hb hs h1 h
  obtain rfl:is=[]:=by simpa using his
  obtain rfl:vs=[]:=by simpa using hl.symm
  obtain rfl:=hv.nil_inv'
  exact ⟨cells,rfl,.agg hs h1 h⟩
 | cons p ps ih =>
  intro is his asq vs hv hl cs cells hb hs h1 h
  obtain ⟨off,m⟩:=p
  cases is with
  | nil=>simp at his
  | cons i is =>
   cases vs with
   | nil=>simp at hl
   | cons v vs =>
    obtain ⟨x,as',rfl,hx,hv'⟩:=hv.cons_inv'
    simp only[List.map_cons,List.cons.injEq]at his
    have hl':is.length=vs.length:=by simpa using hl
    -- the piece's cells,asq abstract and asq real ones
    have piece:∃ (pv:List AV),v.cells.size=m∧pv.length=m∧off + m≤cs.length∧Yr cs.length ps as'∧(∀ j,j < pv.length→(v.cells.getD j undef).oneCell'=true)∧(∀ j,j < pv.length→VR g W w (pv.getD j .any) (v.cells.getD j undef)) ∧
      Zp cs ((off,m)::ps) (x::as')=Zp (Ym cs off pv) ps as':=by
     by_cases hag:∃ vs2,x=.agg vs2
     ·obtain ⟨vs2,rfl⟩:=hag
      cases hx with
      | agg hs2 h12 h2 =>
       obtain ⟨e1,e2,e3⟩:=hb
       exact ⟨vs2,by rw[← e1];exact hs2,e1,e2,e3,h12,h2,rfl⟩
     ·have hna:∀ vs,x≠.agg vs:=fun vs e=>hag ⟨vs,e⟩
      obtain ⟨e1,rfl,e2,e3⟩:=Xph hna hb
      have h1c:=hx.one e1
      rw[Qjt h1c]
      refine ⟨[x],rfl,rfl,by omega,e3,fun j hj=>?_,fun j hj=>?_,by rw[Xwj hna,Qmn e2]⟩
      ·simp at hj;subst hj;exact h1c
      ·simp at hj;subst hj;exact hx
    obtain ⟨pv,p1,p2,p3,p4,p5,p6,p7⟩:=piece
    rw[p7]
    have hst:Instr.fill place cells ((i::is).zip (v::vs))=Instr.fill place (v.cells.zipIdx.foldl (fun cs (c,j)=>cs.setIfInBounds (off + j) c) cells) (is.zip vs):=by
     simp only[List.zip_cons_cons,Instr.fill,his.1]
     rw[if_neg]
     simp[p1]
     omega
    rw[hst]
    obtain ⟨f1,f2⟩:=Qyr off v.cells.toList 0 cells
    have hfold:v.cells.zipIdx.foldl (fun cs (c,j)=>cs.setIfInBounds (off + j) c) cells=(v.cells.toList.zipIdx 0).foldl (fun cs (p:Value × Nat)=>cs.setIfInBounds (off + p.2) p.1) cells:=by
     rw[← Array.foldl_toList];simp
    rw[hfold]
    generalize (v.cells.toList.zipIdx 0).foldl (fun cs (p:Value × Nat)=>cs.setIfInBounds (off + p.2) p.1) cells=cells1 at f1 f2
    have ho:off + pv.length≤cs.length:=by omega
    obtain ⟨s1,s2,s3⟩:=Qyk hs h1 h (vs:=pv) (us:=v.cells) (by rw[p1,p2]) p5 p6 ho f1 (fun j=>by
     rw[f2 j]
     simp only[Nat.add_zero,Array.length_toList]
     congr 1
     simp[Array.getD_eq_getD_getElem?])
    exact ih is his.2 hv' hl' (by rw[Qvp ho];exact p4) s1 s2 s3
end
section
variable {P:Program} {g:Nat→GM} {W:Nat→Prop} {w:World}
theorem Qmu {fs:Array Field} {places:Array (Nat × Nat)} (hpl:∀ i:Nat,places[i]?=(fs[i]?).bind fun (f:Field)=>(Yz P f.type).map fun m=>(f.offset,m)):∀ (is:List Nat) (ps:List (Nat × Nat)),Qf9 P fs is=some ps→is.map (fun i=>places[i]?)=ps.map some
 | [],ps,h=>by simp[Qf9]at h;subst h;rfl
 | i::r,ps,h=>by
  unfold Qf9 at h
  cases hf:fs[i]? with
  | none=>rw[hf]at h;simp at h
  | some f =>
   rw[hf]at h
   simp only at h
   split at h
   ·rename_i m l hm hl
    simp at h
    subst h
    simp only[List.map_cons]
    rw[Qmu hpl r l hl,hpl i,hf]
    simp[hm]
   ·cases h
theorem Xax {fs:Array Field} (h:∀ f ∈ fs.toList,(Yz P f.type).isSome=true):∃ places:Array (Nat × Nat),(fs.mapM (fun f=>(do pure (f.offset,← sizeOf f.type):Sem (Nat × Nat)))).run P w=.ok places w∧∀ i:Nat,places[i]?=(fs[i]?).bind fun (f:Field)=>(Yz P f.type).map fun m=>(f.offset,m):=by
 have key:∀ (l:List Field),(∀ f ∈ l,(Yz P f.type).isSome=true)→∃ ps:List (Nat × Nat),(l.mapM (fun f=>(do pure (f.offset,← sizeOf f.type):Sem (Nat × Nat)))).run P w=.ok ps w∧∀ i:Nat,ps[i]?=(l[i]?).bind fun (f:Field)=>(Yz P f.type).map fun m=>(f.offset,m):=by
  intro l
  induction l with
  | nil=>intro _;exact ⟨[],by simp,by simp⟩
  | cons f l ih =>
   intro h
   obtain ⟨ps,h1,h2⟩:=ih fun f hf=>h f (List.mem_cons_of_mem _ hf)
   have hf:=h f Zsi
   cases hs:Yz P f.type with
   | none=>rw[hs]at hf;cases hf
   | some m =>
    refine ⟨(f.offset,m)::ps,?_,fun i=>?_⟩
    ·simp only[List.mapM_cons,Sem.run_bind,Ji hs,Result.andThen_ok,Sem.run_pure,h1]
    ·cases i with
     | zero=>simp[hs]
     | succ i=>simpa using h2 i
 obtain ⟨ps,h1,h2⟩:=key fs.toList h
 refine ⟨ps.toArray,?_,fun i=>by simpa using h2 i⟩
 rw[← Array.toArray_toList (xs:=fs)]
 rw[Array.mapM_eq_mapM_toList]
 simp only[Sem.run_map,h1,Result.andThen_ok]
theorem Kv {cs:List AV} {v:Value} (h:VR g W w (.agg cs) v):∃ us:Array Value,v=.agg us∧us.size=cs.length∧(∀ j,j < cs.length→(us.getD j undef).oneCell'=true)∧∀ j,j < cs.length→VR g W w (cs.getD j .any) (us.getD j undef):=by
 cases h with
 | agg hs h1 h=>exact ⟨_,rfl,hs,h1,h⟩
theorem Qh1 {cs:List AV} {v:Value} (h:VR g W w (.tup cs) v):∃ us:Array Value,v=.tuple us∧us.size=cs.length∧∀ j,j < cs.length→VR g W w (cs.getD j .any) (us.getD j undef):=by
 cases h with
 | tup hs h=>exact ⟨_,rfl,hs,h⟩
theorem Qav {n:Nat} {cs:List AV} {v:Value} (h:VR g W w (.isl n cs) v):∃ (a:Option Addr) (cap:Nat) (us:Nat→Value),v=.slice a n cap∧n≤cap∧cap≤maxLen ∧
  (∀ j,j < cs.length→∃ k o,a=some ⟨k,o,none⟩∧Wu w k (o + j)=some (us j)∧¬ W k∧(us j).oneCell'=true)∧∀ j,j < cs.length→VR g W w (cs.getD j .any) (us j):=by
 cases h with
 | isl hn hm hc h=>exact ⟨_,_,_,rfl,hn,hm,hc,h⟩
theorem Qar {es b off n c:Nat} {v:Value} (h:VR g W w (.sl es b off n c) v):(∃ k cap e cur fz,v=.slice (some ⟨k,off,none⟩) n cap∧g b=.re k∧n≤c∧c≤cap∧cap≤maxLen∧w.heap[k]?=some (.cells cur e fz)∧off + cap * es≤cur.size)∨(∃ a,v=.slice a 0 0∧g b=.ph∧n=0∧c=0):=by
 cases h with
 | sl hg hn hc hm hb hs=>exact .inl ⟨_,_,_,_,_,rfl,hg,hn,hc,hm,hb,hs⟩
 | slp hg hc=>exact .inr ⟨_,rfl,hg,rfl,hc⟩
theorem Qnl {cs:List AV} {off:Nat} {v:Value} (h:VR g W w (.xp cs off) v):∃ (k o:Nat) (us:Nat→Value),v=.pointer (some ⟨k,o + off,none⟩)∧(∀ j,j < cs.length→Wu w k (o + j)=some (us j)∧¬ W k∧(us j).oneCell'=true)∧∀ j,j < cs.length→VR g W w (cs.getD j .any) (us j):=by
 cases h with
 | xp hc h=>exact ⟨_,_,_,rfl,hc,h⟩
theorem Qf2 {b off:Nat} {v:Value} (h:VR g W w (.ptr b off) v):∃ k,v=.pointer (some ⟨k,off,none⟩)∧g b=.re k:=by
 cases h with
 | ptr hg=>exact ⟨_,rfl,hg⟩
theorem Qif {v:Value} (h:VR g W w .nils v):∃ a,v=.slice a 0 0:=by
 cases h with
 | nils a=>exact ⟨a,rfl⟩
theorem Qju {b:Nat} {v:Value} (h:VR g W w (.mp b) v):∃ k,v=.map (some k)∧g b=.re k:=by
 cases h with
 | mp hg=>exact ⟨_,rfl,hg⟩
theorem BRs.get {l:List AV} {x:Bk} (h:BRs g W w l x) {b:Nat} (hb:Jg l=some b):BR g W w (g b) x:=h b hb
theorem Xww (cs:List AV) (h:∀ v ∈ cs,isI .u8 v) {us:Nat→Value} (hv:∀ j,j < cs.length→VR g W w (cs.getD j .any) (us j)) (j:Nat) (hj:j < (toB cs).length):us j=.int .u8 (asI (cs.getD j .any)):=by
 have hj':j < cs.length:=by simpa [toB] using hj
 have hm:cs.getD j .any ∈ cs:=by rw[Qhd hj'];exact List.getElem_mem _
 exact (hv j hj').isI (h _ hm)
theorem Qp0 {src dst e:TypeId} (hs:P.underlying src=some (.slice e)) (he:P.underlying e=some (.int .u8)) (hd:P.underlying dst=some .string) {k o n cap:Nat} {cs:List AV} {us:Nat→Value} (hn:cs.length=n)
  (hc:∀ j,j < n→Wu w k (o + j)=some (us j)) (h8:∀ v ∈ cs,isI .u8 v) (hv:∀ j,j < cs.length→VR g W w (cs.getD j .any) (us j)) :
  (convert src dst (.slice (some ⟨k,o,none⟩) n cap)).run P w=.ok (.string ⟨(toB cs).toArray⟩) w:=by
 subst hn
 rw[run_convert_bytes_string w src dst e _ _ _ hs he hd]
 have hl:=run_loadCells (P:=P) w ⟨k,o,none⟩ cs.length us (fun j hj=>by rw[add_lit];exact hc j hj)
 have hus:((List.range cs.length).map us).toArray=((cs.map asI).map (Value.int .u8)).toArray:=by
  congr 1
  apply List.ext_getElem Zsi
  intro j h1 h2
  simp only[List.getElem_map,List.getElem_range]
  have hj:j < cs.length:=by simpa using h1
  have:=Xww cs h8 hv j (by simpa [toB] using hj)
  rw[this,Qhd hj]
 rw[hus]at hl
 rw[run_bytesToString w _ _ _ _ hl]
 congr 2
 have key:∀ (l:List AV) (s:ByteArray),(l.map asI).foldl (fun r n=>r.push (UInt8.ofNat n.toNat)) s=⟨s.data++(toB l).toArray⟩:=by
  intro l
  induction l with
  | nil=>intro s;cases s;simp[toB]
  | cons x l ih =>
   intro s
   simp only[List.map_cons,List.foldl_cons,ih,toB]
   congr 1
   simp[ByteArray.data_push]
 rw[key]
 simp[ByteArray.empty,ByteArray.emptyWithCapacity]
 rfl
theorem Ql3 {t:TypeId} {fs:Array Field} (hu:P.underlying t=some (.struct fs)) {f:Nat} {fd:Field} (hfd:fs[f]?=some fd) {m:Nat} (hm:Yz P fd.type=some (m + 1)) (k o:Nat) :
  (Instr.fieldAt t (.pointer (some ⟨k,o,none⟩)) f).run P w=.ok (.pointer (some ⟨k,o + fd.offset,none⟩)) w:=by
 simp[Instr.fieldAt,run_underlying hu,hfd,Instr.sureAddr,fieldPlace,Ji hm,add_lit]
theorem Qj2 {t e:TypeId} {n es:Nat} (hu:P.underlying t=some (.array n e)) (hes:Yz P e=some es) (k o:Nat) (q:IntKind) (i:Int) (h0:0≤i) (h1:i < (n:Int)) :
  (Instr.indexAt t (.pointer (some ⟨k,o,none⟩)) (.int q i)).run P w=.ok (.pointer (some ⟨k,o + i.toNat * es,none⟩)) w:=by
 simp[Instr.indexAt,run_underlying hu,asIntOf,Instr.sureAddr,h0,h1,Ji hes,add_lit]
theorem Qj8 {t e:TypeId} {es:Nat} (hu:P.underlying t=some (.slice e)) (hes:Yz P e=some es) (k o n cap:Nat) (q:IntKind) (i:Int) (h0:0≤i) (h1:i < (n:Int)) :
  (Instr.indexAt t (.slice (some ⟨k,o,none⟩) n cap) (.int q i)).run P w=.ok (.pointer (some ⟨k,o + i.toNat * es,none⟩)) w:=by
 simp[Instr.indexAt,run_underlying hu,asIntOf,h0,h1,Ji hes,add_lit]
theorem Xvb {o:Oper} {q:Q1} {xs:List Operand} (hel:Qet P o=some (q,xs)) (ρ:Operand→Value) (hρ:∀ v,ρ (.const v)=v) {asq:List AV} (ha:VRs g W w asq (xs.map ρ)) {blk:Bk} (hb:BRs g W w asq blk) (hp:qp q asq blk) :
  ∃ v,(execOp ρ o).run P w=.ok (.value v) w∧VR g W w (qv q asq blk) v:=by
 unfold Qet at hel
 split at hel
 all_goals (rename_i hop)
 -- move,assign
 ·simp at hel;obtain ⟨rfl,rfl⟩:=hel
  obtain ⟨a,rfl,h1⟩:=VRs.one (by simpa using ha)
  exact ⟨_,by simp[execOp,hop],h1⟩
 ·simp at hel;obtain ⟨rfl,rfl⟩:=hel
  obtain ⟨a,rfl,h1⟩:=VRs.one (by simpa using ha)
  exact ⟨_,by simp[execOp,hop],h1⟩
 -- pick
 ·simp at hel;obtain ⟨rfl,rfl⟩:=hel
  obtain ⟨a,b,c,rfl,h1,h2,h3⟩:=VRs.three (by simpa using ha)
  obtain ⟨p1,p2,p3⟩:=hp
  have e1:=h1.isB p1
  refine ⟨_,by simp[execOp,hop,e1,asBool];rfl,?_⟩
  simp only[qv]
  cases hc:asB a with
  | true=>simp only[cond_true,if_true];rw[h2.isB (p2 hc)];exact .bool _
  | false=>simp only[cond_false,Bool.false_eq_true,if_false];rw[h3.isB (p3 hc)];exact .bool _
 -- not
 ·simp at hel;obtain ⟨rfl,rfl⟩:=hel
  obtain ⟨a,rfl,h1⟩:=VRs.one (by simpa using ha)
  exact ⟨.bool (!asB a),by simp[execOp,hop,h1.isB hp,Op.unary],.bool _⟩
 -- binOp
 ·obtain ⟨v,h1,h2⟩:=Xlw (w:=w) hel ρ ha hp (fun v e=>by rw[e];exact hρ v)
  refine ⟨v,?_,h2⟩
  simp only[execOp,hop]
  exact Zg h1
 -- convert
 ·split at hel
  ·rename_i ks kd hs hd
   simp at hel;obtain ⟨rfl,rfl⟩:=hel
   obtain ⟨a,rfl,h1⟩:=VRs.one (by simpa using ha)
   obtain ⟨k',e⟩:=h1.isN hp
   exact ⟨_,by simp only[execOp,hop];refine Zg (v:=.int kd (kd.wrap (asI a))) ?_;rw[e];simp[convert,run_underlying hs,run_underlying hd,Conv.intToInt],.int _ _⟩
  ·rename_i e hs hd
   split at hel
   ·rename_i he
    simp at hel;obtain ⟨rfl,rfl⟩:=hel
    obtain ⟨a,rfl,h1⟩:=VRs.one (by simpa using ha)
    simp only[execOp,hop]
    cases a<;>simp only[qp]at hp
    ·rename_i es b off n c
     cases blk<;>simp only[qp]at hp
     rename_i cs
     obtain ⟨rfl,p2,p3⟩:=hp
     rcases Qar h1 with ⟨k,cap,e',cur,fz,e1,e2,_⟩|⟨ad0,e1,e2,rfl,rfl⟩
     ·by_cases hpos:0 < cs.length
      ·obtain ⟨k',us,q1,q2,q3,q4⟩:=Qgs (hb.get (b:=b) rfl) hpos
       rw[e2]at q1;cases q1
       refine ⟨_,Zg ?_,.str _⟩
       rw[e1]
       refine Qp0 (g:=g) (W:=W) (us:=fun j=>us (off + j)) hs he hd (by simp;omega) (fun j hj=>?_) p3 (fun j hj=>?_)
       ·have:=q2 (off + j) Zom;simpa using this
       ·have hj':j < n:=by simp at hj;omega
        have ee:((cs.drop off).take n).getD j .any=cs.getD (off + j) .any:=by simp only[List.getD,List.getElem?_take,List.getElem?_drop,if_pos hj']
        rw[ee];exact q4 _ Zom
      ·have:cs=[]:=List.eq_nil_of_length_eq_zero Zom
       subst this
       have:n=0:=by simp at p2;omega
       subst this
       refine ⟨.string ⟨(toB []).toArray⟩,Zg ?_,by simpa [qv,toB] using VR.str (g:=g) (W:=W) (w:=w) []⟩
       rw[e1]
       exact Qp0 (g:=g) (W:=W) (us:=fun _=>undef) hs he hd rfl (fun j hj=>absurd hj Zsi) Zsi (fun j hj=>absurd hj Zsi)
     ·refine ⟨.string .empty,Zg ?_,?_⟩
      ·rw[e1,run_convert_bytes_string w _ _ e _ _ _ hs he hd];cases ad0<;>rfl
      ·simp only[qv,List.take_zero,toB,List.map_nil];exact .str []
    ·rename_i n cs
     obtain ⟨p2,p3⟩:=hp
     obtain ⟨a,cap,us,e1,e2,e3,e4,e5⟩:=Qav h1
     by_cases hpos:0 < n
     ·obtain ⟨k,o,rfl,_⟩:=e4 0 Zom
      refine ⟨_,Zg ?_,.str _⟩
      rw[e1]
      refine Qp0 (g:=g) (W:=W) (us:=us) hs he hd (by simp;omega) (fun j hj=>?_) p3 (fun j hj=>?_)
      ·obtain ⟨k',o',hh,h6,_⟩:=e4 j Zom
       cases hh;exact h6
      ·have hj':j < n:=by simp at hj;omega
       have ee:(cs.take n).getD j .any=cs.getD j .any:=by simp only[List.getD,List.getElem?_take,if_pos hj']
       rw[ee];exact e5 _ Zom
     ·have:n=0:=by omega
      subst this
      refine ⟨.string ⟨#[]⟩,Zg ?_,by simpa [qv,toB] using VR.str (g:=g) (W:=W) (w:=w) []⟩
      rw[e1,run_convert_bytes_string w _ _ e _ _ _ hs he hd]
      cases a<;>rfl
    ·generalize ρ _=rx at h1 ⊢
     cases h1 with
     | nils a =>
      refine ⟨.string ⟨#[]⟩,Zg ?_,.str []⟩
      rw[run_convert_bytes_string w _ _ e _ _ _ hs he hd]
      cases a<;>rfl
   ·cases hel
  ·cases hel
 -- field
 ·split at hel
  ·rename_i fs hu
   split at hel
   ·rename_i fd hfd
    cases hty:Qbg P fd.type with
    | none=>rw[hty]at hel;simp at hel
    | some ty =>
     rw[hty]at hel
     simp at hel;obtain ⟨rfl,rfl⟩:=hel
     obtain ⟨a,rfl,h1⟩:=VRs.one (by simpa using ha)
     cases a<;>simp only[qp]at hp
     rename_i cs
     obtain ⟨us,e,hs,h11,hv⟩:=Kv h1
     obtain ⟨v,hr,hvr⟩:=Qj7 (P:=P) (w:=w) hty hs h11 hv hp
     refine ⟨v,?_,hvr⟩
     simp only[execOp,hop]
     refine Zg ?_
     rw[e]
     simp[Instr.field,run_underlying hu,hfd,asAgg,hr]
   ·cases hel
  ·cases hel
 -- index
 ·split at hel
  ·rename_i n e hu
   split at hel
   ·rename_i ty es hty hes
    simp at hel;obtain ⟨rfl,rfl⟩:=hel
    obtain ⟨a,b,rfl,h1,h2⟩:=VRs.two (by simpa using ha)
    cases a<;>simp only[qp]at hp
    rename_i cs
    obtain ⟨p1,p2,p3,p4⟩:=hp
    obtain ⟨us,e1,hs,h11,hv⟩:=Kv h1
    obtain ⟨k,e2⟩:=h2.isN p1
    obtain ⟨v,hr,hvr⟩:=Qj7 (P:=P) (w:=w) hty hs h11 hv p4
    refine ⟨v,?_,hvr⟩
    simp only[execOp,hop]
    refine Zg ?_
    rw[e1,e2]
    simp[Instr.index,run_underlying hu,asIntOf,p2,p3,Ji hes,hr]
   ·cases hel
  ·rename_i hu
   simp at hel;obtain ⟨rfl,rfl⟩:=hel
   obtain ⟨a,b,rfl,h1,h2⟩:=VRs.two (by simpa using ha)
   obtain ⟨p1,p2,p3,p4⟩:=hp
   obtain ⟨k,e2⟩:=h2.isN p2
   have e1:=h1.isS p1
   have hlt:(asI b).toNat < (asS a).length:=by omega
   refine ⟨.int .u8 ((asS a).getD (asI b).toNat 0).toNat,?_,.int _ _⟩
   simp only[execOp,hop]
   refine Zg ?_
   rw[e1,e2]
   have hg:(⟨(asS a).toArray⟩:ByteArray)[(asI b).toNat]?=some ((asS a)[(asI b).toNat]):=by
    rw[getElem?_pos _ _ (by rw[Qkb];exact hlt)]
    rfl
   simp[Instr.index,run_underlying hu,asIntOf,p3,hg,List.getD,hlt]
  ·cases hel
 -- fieldAddr
 ·split at hel
  ·rename_i fs hu
   split at hel
   ·rename_i fd hfd
    split at hel
    ·rename_i m hm
     simp at hel;obtain ⟨rfl,rfl⟩:=hel
     obtain ⟨a,rfl,h1⟩:=VRs.one (by simpa using ha)
     cases a<;>simp only[qp]at hp
     ·obtain ⟨k,e1,e2⟩:=Qf2 h1
      exact ⟨_,by simp only[execOp,hop];exact Zg (by rw[e1];exact Ql3 hu hfd hm _ _),.ptr e2⟩
     ·obtain ⟨k,o,us,e1,e2,e3⟩:=Qnl h1
      exact ⟨_,by simp only[execOp,hop];exact Zg (by rw[e1];exact Ql3 hu hfd hm _ _),by rw[Nat.add_assoc];exact .xp e2 e3⟩
    ·cases hel
   ·cases hel
  ·cases hel
 -- indexAddr
 ·split at hel
  ·rename_i n e hu
   cases hes:Yz P e with
   | none=>rw[hes]at hel;simp at hel
   | some es =>
    rw[hes]at hel
    simp at hel;obtain ⟨rfl,rfl⟩:=hel
    obtain ⟨a,b,rfl,h1,h2⟩:=VRs.two (by simpa using ha)
    cases a<;>simp only[qp]at hp
    ·obtain ⟨p1,p2,p3⟩:=hp
     obtain ⟨k,e1,e2⟩:=Qf2 h1
     obtain ⟨q,e3⟩:=h2.isN p1
     exact ⟨_,by simp only[execOp,hop];exact Zg (by rw[e1,e3];exact Qj2 hu hes _ _ _ _ p2 p3),.ptr e2⟩
    ·obtain ⟨p1,p2,p3⟩:=hp
     obtain ⟨k,o,us,e1,e2,e4⟩:=Qnl h1
     obtain ⟨q,e3⟩:=h2.isN p1
     exact ⟨_,by simp only[execOp,hop];exact Zg (by rw[e1,e3];exact Qj2 hu hes _ _ _ _ p2 p3),by rw[Nat.add_assoc];exact .xp e2 e4⟩
  ·rename_i e hu
   cases hes:Yz P e with
   | none=>rw[hes]at hel;simp at hel
   | some es =>
    rw[hes]at hel
    simp at hel;obtain ⟨rfl,rfl⟩:=hel
    obtain ⟨a,b,rfl,h1,h2⟩:=VRs.two (by simpa using ha)
    cases a<;>simp only[qp]at hp
    ·obtain ⟨p0,p1,p2,p3⟩:=hp
     obtain ⟨q,e3⟩:=h2.isN p1
     rcases Qar h1 with ⟨k,cap,e',cur,fz,e1,e2,_⟩|⟨ad0,e1,e2,rfl,rfl⟩
     ·exact ⟨_,by simp only[execOp,hop];exact Zg (by rw[e1,e3];exact Qj8 hu hes _ _ _ _ _ _ p2 p3),.ptr e2⟩
     ·omega
    ·obtain ⟨p1,p2,p3,p4⟩:=hp
     obtain ⟨q,e3⟩:=h2.isN p1
     obtain ⟨ad,cap,us,e1,_,_,e4,e5⟩:=Qav h1
     obtain ⟨k,o,rfl,_⟩:=e4 _ p4
     refine ⟨_,by simp only[execOp,hop];exact Zg (by rw[e1,e3];exact Qj8 hu hes _ _ _ _ _ _ p2 p3),.xp (fun j hj=>?_) e5⟩
     obtain ⟨k',o',hh,r⟩:=e4 j hj
     cases hh;exact r
  ·cases hel
 -- load
 ·cases hty:Qbg P _ with
  | none=>rw[hty]at hel;simp at hel
  | some ty =>
   rw[hty]at hel
   simp at hel;obtain ⟨rfl,rfl⟩:=hel
   obtain ⟨a,rfl,h1⟩:=VRs.one (by simpa using ha)
   cases a<;>simp only[qp]at hp
   ·rename_i b off
    cases blk<;>simp only[qp]at hp
    rename_i cs
    obtain ⟨k,e1,e2⟩:=Qf2 h1
    by_cases hpos:0 < cs.length
    ·obtain ⟨k',us,q1,q2,q3,q4⟩:=Qgs (hb.get (b:=b) rfl) hpos
     rw[e2]at q1;cases q1
     obtain ⟨v,hr,hvr⟩:=Qbj (P:=P) (o:=0) hty q2 q3 q4 hp
     refine ⟨v,?_,hvr⟩
     simp only[execOp,hop]
     exact Zg (by rw[e1];simpa using hr)
    ·obtain ⟨rfl,rfl,rfl⟩:=Qs6 hp hpos
     obtain ⟨v,hr,hvr⟩:=Qbj (P:=P) (g:=g) (W:=W) (k:=k) (o:=0) (us:=fun _=>undef) hty (fun j hj=>absurd hj Zsi) (fun j hj=>absurd hj Zsi) (fun j hj=>absurd hj Zsi) hp
     refine ⟨v,?_,hvr⟩
     simp only[execOp,hop]
     exact Zg (by rw[e1];simpa using hr)
   ·rename_i cs off
    obtain ⟨k,o,us,e1,e2,e3⟩:=Qnl h1
    obtain ⟨v,hr,hvr⟩:=Qbj (P:=P) hty (fun j hj=>(e2 j hj).1) (fun j hj=>(e2 j hj).2.2) e3 hp
    refine ⟨v,?_,by cases ty<;>exact hvr⟩
    simp only[execOp,hop]
    exact Zg (by rw[e1];exact hr)
 -- len
 ·split at hel
  ·rename_i hu
   simp at hel;obtain ⟨rfl,rfl⟩:=hel
   obtain ⟨a,rfl,h1⟩:=VRs.one (by simpa using ha)
   have e:=h1.isS hp
   exact ⟨.int .i64 (asS a).length,by simp[execOp,hop,resolve,invoke,builtin,Builtin.len_,run_underlying hu,e,goInt,Qkb],.int _ _⟩
  ·rename_i e hu
   simp at hel;obtain ⟨rfl,rfl⟩:=hel
   obtain ⟨a,rfl,h1⟩:=VRs.one (by simpa using ha)
   rename_i x _ _
   have fin:∀ b n c,ρ x=.slice b n c→(execOp ρ o).run P w=.ok (.value (.int .i64 n)) w:=fun b n c h=>by
    simp[execOp,hop,resolve,invoke,builtin,Builtin.len_,run_underlying hu,h,goInt]
   cases a<;>simp only[qp]at hp
   ·rcases Qar h1 with ⟨k,cap,e',cur,fz,e1,_⟩|⟨ad0,e1,_,rfl,rfl⟩
    ·exact ⟨_,fin _ _ _ e1,.int _ _⟩
    ·exact ⟨_,fin _ _ _ e1,.int _ _⟩
   ·obtain ⟨ad,cap,us,e1,_⟩:=Qav h1
    exact ⟨_,fin _ _ _ e1,.int _ _⟩
   ·obtain ⟨b,e1⟩:=Qif h1
    exact ⟨_,fin _ _ _ e1,.int _ _⟩
  ·rename_i kt et hu
   simp at hel;obtain ⟨rfl,rfl⟩:=hel
   obtain ⟨a,rfl,h1⟩:=VRs.one (by simpa using ha)
   cases a<;>simp only[qp]at hp
   rename_i b
   cases blk<;>simp only[qp]at hp
   rename_i kvs dn
   obtain ⟨k,e1,e2⟩:=Qju h1
   have hbr:=hb.get (b:=b) rfl
   rw[e2]at hbr
   cases hbr with
   | mapb hbb hs =>
    refine ⟨.int .i64 kvs.length,?_,.int _ _⟩
    simp[execOp,hop,resolve,invoke,builtin,Builtin.len_,run_underlying hu,e1,goInt,getObj,Sem.run,hbb,hs]
  ·cases hel
 -- min,max
 ·split at hel
  ·rename_i k hu
   simp at hel;obtain ⟨rfl,rfl⟩:=hel
   obtain ⟨a,b,rfl,h1,h2⟩:=VRs.two (by simpa using ha)
   refine ⟨_,?_,.int _ _⟩
   simp only[execOp,hop,resolve,invoke,builtin,Sem.run_bind,Sem.run_pure,Result.andThen_ok,List.map_toArray,List.map_cons,List.map_nil,h1.isI hp.1,h2.isI hp.2,run_min_int2]
  ·cases hel
 ·split at hel
  ·rename_i k hu
   simp at hel;obtain ⟨rfl,rfl⟩:=hel
   obtain ⟨a,b,rfl,h1,h2⟩:=VRs.two (by simpa using ha)
   refine ⟨_,?_,.int _ _⟩
   simp only[execOp,hop,resolve,invoke,builtin,Sem.run_bind,Sem.run_pure,Result.andThen_ok,List.map_toArray,List.map_cons,List.map_nil,h1.isI hp.1,h2.isI hp.2,run_max_int2]
  ·cases hel
 -- slice
 ·rename_i t x lo hi
  split at hel
  ·rename_i hu
   simp only[Option.some.injEq,Prod.mk.injEq]at hel;obtain ⟨rfl,rfl⟩:=hel
   obtain ⟨a,r,rfl,h1,hr⟩:=VRs.cons_inv' (v:=ρ x) (r:=(lo.toList++hi.toList).map ρ) (by simpa using ha)
   simp only[qp]at hp
   obtain ⟨p1,p2,p3,p4,p5⟩:=hp
   refine ⟨_,?_,.str _⟩
   simp only[execOp,hop]
   refine Zg ?_
   rw[h1.isS p1]
   have hbd:=Qev (P:=P) (isSlice:=false) (len:=(asS a).length) (cap:=(asS a).length) p2 hr p3 p4 p5
   simp only[Instr.sliceAt,Instr.slice,Sem.run_bind,run_underlying hu,Result.andThen_ok,Option.map_none,Option.isSome_none,Bool.false_eq_true,if_false,Qkb,hbd,Sem.run_pure]
   congr 2
   apply ByteArray.ext
   simp[ByteArray.extract,ByteArray.copySlice]
  ·rename_i e hu
   cases hes:Yz P e with
   | none=>rw[hes]at hel;simp at hel
   | some es =>
    rw[hes]at hel
    simp only[Option.map_some,Option.some.injEq,Prod.mk.injEq]at hel;obtain ⟨rfl,rfl⟩:=hel
    obtain ⟨a,r,rfl,h1,hr⟩:=VRs.cons_inv' (v:=ρ x) (r:=(lo.toList++hi.toList).map ρ) (by simpa using ha)
    cases a<;>simp only[qp]at hp
    ·rename_i es' b off n c
     obtain ⟨rfl,p2,p3,p4,p5⟩:=hp
     have hqv:qv (.slL es' lo.isSome hi.isSome) (.sl es' b off n c::r) blk=if Xq lo.isSome r < c then .sl es' b (off + (Xq lo.isSome r).toNat * es') ((Zo lo.isSome hi.isSome n r).toNat - (Xq lo.isSome r).toNat) (c - (Xq lo.isSome r).toNat) else .isl 0 []:=rfl
     rw[hqv]
     clear hqv
     rcases Qar h1 with ⟨k,cap,e',cur,fz,e1,e2,q1,q2,q3,q4,q5⟩|⟨ad0,e1,e2,rfl,rfl⟩
     ·have hbd:=Qev (P:=P) (isSlice:=true) (len:=n) (cap:=cap) p2 hr p3 p4 Zom
      by_cases p6:Xq lo.isSome r < c
      ·rw[if_pos p6]
       have hlo:(Xq lo.isSome r).toNat < cap:=by omega
       refine ⟨.slice (some ⟨k,off + (Xq lo.isSome r).toNat * es',none⟩) ((Zo lo.isSome hi.isSome n r).toNat - (Xq lo.isSome r).toNat) (cap - (Xq lo.isSome r).toNat),?_,?_⟩
       ·simp only[execOp,hop]
        refine Zg ?_
        rw[e1]
        simp only[Instr.sliceAt,Instr.slice,Sem.run_bind,run_underlying hu,Result.andThen_ok,Option.map_none,hbd,Ji hes,Sem.run_pure]
        rw[if_neg Zom]
        simp[add_lit]
       ·refine .sl e2 Zom Zom Zom q4 ?_
        have:(Xq lo.isSome r).toNat * es' + (cap - (Xq lo.isSome r).toNat) * es'=cap * es':=by rw[← Nat.add_mul];congr 1;omega
        omega
      ·rw[if_neg p6]
       have h0:(Zo lo.isSome hi.isSome n r).toNat - (Xq lo.isSome r).toNat=0:=by omega
       refine ⟨_,?_,.isl (a:=if cap=(Xq lo.isSome r).toNat then some ⟨k,off,none⟩ else (some (⟨k,off,none⟩:Addr)).map (·.add ((Xq lo.isSome r).toNat * es'))) (cap:=cap - (Xq lo.isSome r).toNat) (us:=fun _=>undef) (Nat.zero_le _) Zom (fun j hj=>by simp at hj) (fun j hj=>by simp at hj)⟩
       simp only[execOp,hop]
       refine Zg ?_
       rw[e1]
       simp only[Instr.sliceAt,Instr.slice,Sem.run_bind,run_underlying hu,Result.andThen_ok,Option.map_none,hbd,Ji hes,Sem.run_pure,h0]
     ·have hbd:=Qev (P:=P) (isSlice:=true) (len:=0) (cap:=0) p2 hr p3 p4 Zom
      rw[if_neg Zom]
      have h0:(Zo lo.isSome hi.isSome 0 r).toNat - (Xq lo.isSome r).toNat=0:=by omega
      refine ⟨_,?_,.isl (a:=if 0=(Xq lo.isSome r).toNat then ad0 else ad0.map (·.add ((Xq lo.isSome r).toNat * es'))) (cap:=0 - (Xq lo.isSome r).toNat) (us:=fun _=>undef) (Nat.zero_le _) (by unfold maxLen;omega) (fun j hj=>by simp at hj) (fun j hj=>by simp at hj)⟩
      simp only[execOp,hop]
      refine Zg ?_
      rw[e1]
      simp only[Instr.sliceAt,Instr.slice,Sem.run_bind,run_underlying hu,Result.andThen_ok,Option.map_none,hbd,Ji hes,Sem.run_pure,h0]
    ·rename_i n cs
     obtain ⟨p2,p3,p4,p5,p6⟩:=hp
     obtain ⟨ad,cap,us,e1,q1,q2,q3,q4⟩:=Qav h1
     have hbd:=Qev (P:=P) (isSlice:=true) (len:=n) (cap:=cap) p2 hr p3 p4 Zom
     have hqv:qv (.slL es lo.isSome hi.isSome) (.isl n cs::r) blk=.isl ((Zo lo.isSome hi.isSome n r).toNat - (Xq lo.isSome r).toNat) ((cs.drop ((Xq lo.isSome r).toNat * es)).take (((Zo lo.isSome hi.isSome n r).toNat - (Xq lo.isSome r).toNat) * es)):=rfl
     rw[hqv]
     clear hqv
     generalize (Xq lo.isSome r)=L at *
     generalize (Zo lo.isSome hi.isSome n r)=H at *
     have hex:∃ ad',(execOp ρ o).run P w=.ok (.value (.slice ad' (H.toNat - L.toNat) (cap - L.toNat))) w∧(cap=L.toNat→ad'=ad)∧(cap≠L.toNat→ad'=ad.map (·.add (L.toNat * es))):=by
      refine ⟨if cap=L.toNat then ad else ad.map (·.add (L.toNat * es)),?_,fun h=>by rw[if_pos h],fun h=>by rw[if_neg h]⟩
      simp only[execOp,hop]
      refine Zg ?_
      rw[e1]
      simp only[Instr.sliceAt,Instr.slice,Sem.run_bind,run_underlying hu,Result.andThen_ok,Option.map_none,hbd,Ji hes,Sem.run_pure]
     obtain ⟨ad',hrun,c1,c2⟩:=hex
     refine ⟨_,hrun,.isl (us:=fun j=>us (L.toNat * es + j)) Zom Zom (fun j hj=>?_) fun j hj=>?_⟩
     ·have hj1:j < (H.toNat - L.toNat) * es:=by simp at hj;omega
      have hj2:L.toNat * es + j < cs.length:=by simp at hj;omega
      obtain ⟨k,o',rfl,r1,r2,r3⟩:=q3 _ hj2
      have hne:cap≠L.toNat:=fun e=>by
       have:H.toNat - L.toNat=0:=by omega
       rw[this]at hj1;simp at hj1
      rw[c2 hne]
      exact ⟨k,o' + L.toNat * es,by simp[add_lit],by rw[Nat.add_assoc];exact r1,r2,r3⟩
     ·have hj1:j < (H.toNat - L.toNat) * es:=by simp at hj;omega
      have hj2:L.toNat * es + j < cs.length:=by simp at hj;omega
      have ee:((cs.drop (L.toNat * es)).take ((H.toNat - L.toNat) * es)).getD j .any=cs.getD (L.toNat * es + j) .any:=by simp only[List.getD,List.getElem?_take,List.getElem?_drop,if_pos hj1]
      rw[ee];exact q4 _ hj2
  ·cases hel
 -- extract
 ·rename_i x i
  simp at hel;obtain ⟨rfl,rfl⟩:=hel
  obtain ⟨a,rfl,h1⟩:=VRs.one (by simpa using ha)
  cases a<;>simp only[qp]at hp
  rename_i vs
  obtain ⟨us,e1,e2,e3⟩:=Qh1 h1
  refine ⟨us.getD i undef,?_,e3 i hp⟩
  simp only[execOp,hop]
  refine Zg ?_
  rw[e1]
  have hi:i < us.size:=by omega
  simp[Instr.extract,hi,Array.getD]
 -- nilCheck
 ·simp at hel;obtain ⟨rfl,rfl⟩:=hel
  obtain ⟨a,rfl,h1⟩:=VRs.one (by simpa using ha)
  cases a<;>simp only[qp]at hp
  ·obtain ⟨k,e1,e2⟩:=Qf2 h1
   exact ⟨_,by simp[execOp,hop,e1],.ptr e2⟩
  ·obtain ⟨k,o',us,e1,e2,e3⟩:=Qnl h1
   exact ⟨.pointer (some ⟨k,o' + _,none⟩),by simp[execOp,hop,e1],.xp e2 e3⟩
 -- build
 ·rename_i t parts
  have zinv:∀ z:Array Value,z.all (·.oneCell')=true→z.size=(z.toList.map ofS).length∧(∀ j,j < (z.toList.map ofS).length→(z.getD j undef).oneCell'=true)∧(∀ j,j < (z.toList.map ofS).length→VR g W w ((z.toList.map ofS).getD j .any) (z.getD j undef)):=by
   intro z hz
   have hv:=Qmi (g:=g) (W:=W) (w:=w) (.agg z)
   have hv':ofV (.agg z)=.agg (z.toList.map ofS):=if_pos hz
   rw[hv']at hv
   obtain ⟨us,e,q1,q2,q3⟩:=Kv hv
   cases e
   exact ⟨q1,q2,q3⟩
  have zrun:∀ z:Array Value,(P.info? t).bind (·.zero)=some (.agg z)→(zeroValue t).run P w=.ok (.agg z) w:=by
   intro z hz
   cases hi:P.info? t with
   | none=>rw[hi]at hz;simp at hz
   | some i=>rw[hi]at hz;simp at hz;simp[zeroValue,typeInfo,hi,hz]
  have hpz:(parts.map fun (p:Nat × Operand)=>(p.1,ρ p.2)).toList=(parts.toList.map (·.1)).zip ((parts.toList.map (·.2)).map ρ):=by
   simp only[Array.toList_map]
   induction parts.toList with
   | nil=>rfl
   | cons p l ih=>simp[ih]
  split at hel
  ·rename_i z fs hz hu
   split at hel
   ·rename_i hc
    simp only[Bool.and_eq_true]at hc
    cases hps:Qf9 P fs (parts.toList.map (·.1)) with
    | none=>rw[hps]at hel;simp at hel
    | some ps =>
     rw[hps]at hel
     simp only[Option.map_some,Option.some.injEq,Prod.mk.injEq]at hel;obtain ⟨rfl,rfl⟩:=hel
     obtain ⟨z1,z2,z3⟩:=zinv z hc.1
     obtain ⟨places,pr,pl⟩:=Xax (P:=P) (w:=w) (fs:=fs) (fun f hf=>by
      have:=Array.all_eq_true'.1 hc.2 f (by simpa using hf)
      simpa using this)
     obtain ⟨cells',f1,f2⟩:=Qo9 ps (parts.toList.map (·.1)) (Qmu pl _ _ hps) ha Zsi hp z1 z2 z3
     refine ⟨_,?_,f2⟩
     simp only[execOp,hop]
     refine Zg ?_
     simp only[Instr.build,Sem.run_bind,zrun z hz,Result.andThen_ok,Value.cells,run_underlying hu,pr,hpz,f1,Sem.run_pure]
   ·cases hel
  ·rename_i z n e hz hu
   split at hel
   ·rename_i hc
    cases hes:Yz P e with
    | none=>rw[hes]at hel;simp at hel
    | some m =>
     rw[hes]at hel
     simp only[Option.map_some,Option.some.injEq,Prod.mk.injEq]at hel;obtain ⟨rfl,rfl⟩:=hel
     obtain ⟨z1,z2,z3⟩:=zinv z hc
     obtain ⟨cells',f1,f2⟩:=Qo9 (place:=fun i=>some (i * m,m)) (parts.toList.map fun (p:Nat × Operand)=>(p.1 * m,m)) (parts.toList.map (fun (p:Nat × Operand)=>p.1)) Zsi ha Zsi (cs:=z.toList.map ofS) hp z1 z2 z3
     refine ⟨_,?_,f2⟩
     simp only[execOp,hop]
     refine Zg ?_
     simp only[Instr.build,Sem.run_bind,zrun z hz,Result.andThen_ok,Value.cells,run_underlying hu,Ji hes,hpz,f1,Sem.run_pure]
   ·cases hel
  ·cases hel
 -- makeFunc
 ·rename_i f caps
  simp only[Option.some.injEq,Prod.mk.injEq]at hel;obtain ⟨rfl,rfl⟩:=hel
  have hl:=ha.length
  refine ⟨.func (.func f) #[] (caps.map ρ),?_,.cl (by simp at hl ⊢;omega) fun j hj=>?_⟩
  ·simp[execOp,hop,Instr.makeFunc]
  ·have:=ha.get j hj
   simpa using this
 ·cases hel
end
inductive PK where
 | call (f:FuncId)
 | callv
 | app (es by_:Nat) (str:Bool)
 | bsl (es len:Nat) (zero:List AV) (parts:List (Nat × Nat))
 | s2b
 | cA (ne:Bool) (t:TypeId)
 | mkm (t:TypeId)
 | upd (t:TypeId)
 | lkp (t:TypeId) (ok:Bool)
 | del (t:TypeId)
 | clr (t:TypeId)
 | cpy (t:TypeId)
 | rng (t:TypeId)
 | nxt
 | ent
 | sl3 (es:Nat) (lo hi:Bool)
 | men (t:TypeId)
 | mst (t:TypeId)
inductive TOp where
 | q (d:Nat) (q:Q1) (xs:List TV) (gd:Option (Nat × Bool))
 | al (d:Nat) (z:List AV)
 | bx (d:Nat) (x:TV)
 | sto (ty:TY) (a v:TV)
 | pd (d:Option Nat) (k:PK) (xs:List TV) (gd:Option (Nat × Bool))
def Qcl (ops:Array Oper) (o:Oper):Option (Option (Nat × Bool)) :=
 match o.guard with
 | none=>some none
 | some (j,b)=>match (ops[j]?).bind (·.dst) with
  | some t=>some (some (t,b))
  | none=>none
def Xy (P:Program) (o:Oper):Option (PK × List Operand) :=
 match o.op with
 | .call ⟨.value (.func f),args,_⟩=>some (.call f,args.toList)
 | .call ⟨.value x,args,_⟩=>some (.callv,x::args.toList)
 | .call ⟨.builtin .append,⟨[x,y]⟩,⟨[t,u]⟩⟩=>match P.underlying t with
  | some (.slice e)=>match P.info? e with
   | some i=>match i.zero with
    | some z=>if z.cells.size=i.size∧0 < i.size then (if u=t then some (.app i.size i.bytes false,[x,y]) else match P.underlying u with
     | some .string=>some (.app i.size i.bytes true,[x,y])
     | _=>none) else none
    | none=>none
   | none=>none
  | _=>none
 | .call ⟨.builtin .delete,⟨[x,y]⟩,⟨[t,_]⟩⟩=>some (.del t,[x,y])
 | .call ⟨.builtin .clear,⟨[x]⟩,⟨[t]⟩⟩=>some (.clr t,[x])
 | .call ⟨.builtin .copy,⟨[x,y]⟩,⟨[t,_]⟩⟩=>some (.cpy t,[x,y])
 | .buildSlice t len parts=>match P.underlying t with
  | some (.slice e)=>match P.info? e with
   | some i=>match i.zero with
    | some z=>if z.cells.size=i.size∧0 < i.size∧z.cells.all (·.oneCell')∧len * i.size≤2 ^ 24∧len≤2 ^ 24 then some (.bsl i.size len (z.cells.toList.map ofS) (parts.toList.map fun p=>(p.1 * i.size,i.size)),parts.toList.map (·.2)) else none
    | none=>none
   | none=>none
  | _=>none
 | .convert s d x=>match P.underlying s,P.underlying d with
  | some .string,some (.slice e)=>match P.underlying e with
   | some (.int .u8)=>some (.s2b,[x])
   | _=>none
  | _,_=>none
 | .binOp .eql t x y _=>some (.cA false t,[x,y])
 | .binOp .neq t x y _=>some (.cA true t,[x,y])
 | .lookup t m k ok=>some (.lkp t ok,[m,k])
 | .mapUpdate t m k v=>some (.upd t,[m,k,v])
 | .makeMap t r=>if (match r with|none=>true|some (.const (.int _ _))=>true|_=>false)=true then some (.mkm t,[]) else none
 | .range t x=>some (.rng t,[x])
 | .next x false=>some (.nxt,[x])
 | .entry x=>some (.ent,[x])
 | .slice t x lo hi (some mx)=>match P.underlying t with
  | some (.slice e)=>(Yz P e).map fun es=>(.sl3 es lo.isSome hi.isSome,x::(lo.toList++hi.toList++[mx]))
  | _=>none
 | .mapEntry t m k=>some (.men t,[m,k])
 | .entryStore t m s v=>some (.mst t,[m,s,v])
 | _=>none
def Wq (P:Program) (N:Nat) (ops:Array Oper) (o:Oper):Option TOp :=
 match Qcl ops o with
 | none=>none
 | some gd =>
  match o.op,o.dst with
  | .alloc t,some d=>match gd,(P.info? t).bind (·.zero) with
   | none,some z=>if d < N∧z.cells.all (·.oneCell') then some (.al d (z.cells.toList.map ofS)) else none
   | _,_=>none
  | .box _ x,some d=>if d < N∧gd=none then some (.bx d (tvO x)) else none
  | .store t a v,none=>match gd,Qbg P t with
   | none,some ty=>some (.sto ty (tvO a) (tvO v))
   | _,_=>none
  | _,dst=>match Qet P o,dst with
   | some (q,xs),some d=>if d < N then some (.q d q (xs.map tvO) gd) else none
   | _,_=>match Xy P o with
    | some (k,xs)=>if dst.all (· < N) then some (.pd dst k (xs.map tvO) gd) else none
    | none=>none
structure Foot where
 rt:List Nat
 rb:List Nat
 wt:List Nat
 wb:List Nat
def ovr (s2 s':FS) (F:Foot):FS:=⟨fun i=>if i ∈ F.wt then s'.T i else s2.T i,fun b=>if b ∈ F.wb then s'.H b else s2.H b⟩
def Qan (P:Program) (ops:Array Oper) (io:Oper) (a:Act) (w:World) (K:Act→World→Prop) (Q:Exit→Act→World→Prop):Prop :=
 if Region.wanted io (yielded ops a.tmps) then io.wp P a w K Q else K (a.put io.dst undef) w
structure AOk (P:Program) (c:Cx) (ops:Array Oper) (io:Oper) (s:FS) (F:Foot) (s':FS):Prop where
 outT:∀ i,i ∉ F.wt→s'.T i=s.T i
 outH:∀ b,b ∉ F.wb→s'.H b=s.H b
 step:∀ s2:FS,(∀ i ∈ F.rt,s2.T i=s.T i)→(∀ b ∈ F.rb,s2.H b=s.H b)→∀ g a w,R c g s2 a w→∀ K Q',(∀ g' a' w',R c g' (ovr s2 s' F) a' w'→K a' w')→Qan P ops io a w K Q'
theorem Qfj {s s':FS} {F:Foot} (hT:∀ i,i ∉ F.wt→s'.T i=s.T i) (hH:∀ b,b ∉ F.wb→s'.H b=s.H b):ovr s s' F=s':=by
 unfold ovr
 cases s'
 congr 1
 ·funext i;split
  ·rfl
  ·rename_i h;exact (hT i h).symm
 ·funext b;split
  ·rfl
  ·rename_i h;exact (hH b h).symm
def Qj:AV→AV
 | .cnd _ v=>v
 | v=>v
def ob:Option Bool→Prop→Prop
 | none,p=>p
 | some c,p=>c=true→p
def cok (c:Option Bool):AV→Prop
 | .cnd b _=>ob c (b=true)
 | _=>True
def Qt (c:Option Bool):List AV→Prop
 | []=>True
 | x::xs=>cok c x∧Qt c xs
def Zu (c:Option Bool):Q1→List AV→Prop
 | .pick,[x,y,z]=>cok c x∧ob c (asB (Qj x)=true→cok none y)∧ob c (asB (Qj x)=false→cok none z)
 | _,xs=>Qt c xs
def cw:Option Bool→AV→AV
 | none,v=>v
 | some c,v=>.cnd c v
def gB (s:FS):Option (Nat × Bool)→Option Bool
 | none=>none
 | some (t,want)=>match s.T t with
  | .bool b=>some (b == want)
  | .cnd c (.bool b)=>some (c && (b == want))
  | _=>some false
def gOk (s:FS):Option (Nat × Bool)→Prop
 | none=>True
 | some (t,_)=>match s.T t with
  | .bool _=>True
  | .cnd _ (.bool _)=>True
  | _=>False
def evs (gl:Nat→AV) (s:FS) (xs:List TV):List AV:=xs.map (evT gl s)
def qOk (gl:Nat→AV) (s:FS) (q:Q1) (xs:List TV) (gd:Option (Nat × Bool)):Prop :=
 gOk s gd∧Zu (gB s gd) q (evs gl s xs)∧ob (gB s gd) (qp q ((evs gl s xs).map Qj) (Qdg s ((evs gl s xs).map Qj)))
def Qgq (gl:Nat→AV) (s:FS) (q:Q1) (xs:List TV) (gd:Option (Nat × Bool)):AV :=
 cw (gB s gd) (qv q ((evs gl s xs).map Qj) (Qdg s ((evs gl s xs).map Qj)))
def Xj:List TV→List Nat
 | []=>[]
 | .t i::r=>i::Xj r
 | _::r=>Xj r
def gdT:Option (Nat × Bool)→List Nat
 | none=>[]
 | some (t,_)=>[t]
def Qe6 (gl:Nat→AV) (s:FS) (d:Nat) (xs:List TV) (gd:Option (Nat × Bool)):Foot :=
 ⟨gdT gd++Xj xs,(Jg ((evs gl s xs).map Qj)).toList,[d],[]⟩
section
variable {P:Program} {c:Cx} {ops:Array Oper} {io:Oper}
theorem Ye {gl:Nat→AV} {s s2:FS}:∀ {xs:List TV},(∀ i ∈ Xj xs,s2.T i=s.T i)→evs gl s2 xs=evs gl s xs
 | [],_=>rfl
 | .t i::r,h=>by
  have h1:=h i (by simp[Xj])
  have h2:=Ye (gl:=gl) (xs:=r) fun j hj=>h j (by simp[Xj,hj])
  simp only[evs,List.map_cons,evT,h1]at *
  rw[h2]
 | .c v::r,h=>by
  have h2:=Ye (gl:=gl) (xs:=r) fun j hj=>h j hj
  simp only[evs,List.map_cons,evT]at *
  rw[h2]
 | .gl i::r,h=>by
  have h2:=Ye (gl:=gl) (xs:=r) fun j hj=>h j hj
  simp only[evs,List.map_cons,evT]at *
  rw[h2]
theorem Qe5 (h:io.guard=none) (f:Nat→Option Bool):Region.wanted io f=true:=by simp[Region.wanted,h]
theorem Qb9 {gd:Option (Nat × Bool)} (hgd:Qcl ops io=some gd) {g:Nat→GM} {s:FS} {a:Act} {w:World} (hR:R c g s a w) (hok:gOk s gd) :
  Region.wanted io (yielded ops a.tmps)=(gB s gd).getD true:=by
 unfold Qcl at hgd
 cases hg:io.guard with
 | none =>
  rw[hg]at hgd;simp at hgd;subst hgd
  rw[Qe5 hg];rfl
 | some p =>
  obtain ⟨j,b⟩:=p
  rw[hg]at hgd
  simp only at hgd
  cases ht:(ops[j]?).bind (·.dst) with
  | none=>rw[ht]at hgd;simp at hgd
  | some t =>
   rw[ht]at hgd
   simp at hgd;subst hgd
   have hv:=hR.t t
   have hy:Region.wanted io (yielded ops a.tmps)=(match a.tmps.getD t undef with|.bool x=>x == b|_=>false):=by
    simp only[Region.wanted,hg,yielded,ht,Option.bind_some]
    rw[Array.getD_eq_getD_getElem?]
    cases htt:a.tmps[t]? with
    | none=>rfl
    | some v=>cases v<;>simp
   rw[hy]
   simp only[gOk]at hok
   simp only[gB]
   split at hok
   ·rename_i x e
    rw[e]at hv
    rw[hv.isB trivial];rfl
   ·rename_i x y e
    rw[e]at hv
    generalize a.tmps.getD t undef=rv at hv ⊢
    cases hv with
    | cnd h h0 =>
     cases x with
     | true=>rw[(h rfl).isB trivial];simp[asB]
     | false=>rw[h0 rfl];rfl
   ·exact hok.elim
theorem Qfy {g:Nat→GM} {W:Nat→Prop} {w:World} {x:AV} {v:Value} (h:VR g W w x v) (hc:cok none x):VR g W w (Qj x) v:=by
 cases h with
 | cnd h h0=>exact h hc
 | any=>exact .any _
 | int=>exact .int _ _
 | bool=>exact .bool _
 | str=>exact .str _
 | agg a b c=>exact .agg a b c
 | tup a b=>exact .tup a b
 | ptr a=>exact .ptr a
 | xp a b=>exact .xp a b
 | sl a b c d e f=>exact .sl a b c d e f
 | slp a b=>exact .slp a b
 | isl a b c d=>exact .isl a b c d
 | nils=>exact .nils _
 | cl a b=>exact .cl a b
 | mp a=>exact .mp a
 | lit=>exact .lit _
theorem Qup {b:Bool} (hb:b=true) {x:AV} (h:cok (some b) x):cok none x:=by
 cases x<;>simp_all [cok,ob]
theorem Yh {g:Nat→GM} {W:Nat→Prop} {w:World}:∀ {xs:List AV} {vs:List Value},VRs g W w xs vs→Qt none xs→VRs g W w (xs.map Qj) vs
 | [],[],_,_=>trivial
 | _::_,_::_,h,hc=>⟨Qfy h.1 hc.1,Yh h.2 hc.2⟩
 | [],_::_,h,_=>h.elim
 | _::_,[],h,_=>h.elim
theorem Qaw {b:Bool} (hb:b=true):∀ {xs:List AV},Qt (some b) xs→Qt none xs
 | [],_=>trivial
 | _::_,h=>⟨Qup hb h.1,Qaw hb h.2⟩
theorem R.evs {g:Nat→GM} {s:FS} {a:Act} {w:World} (hR:R c g s a w):∀ (xs:List Operand),VRs g (Qn c g s) w (Proofs.YtogckmommodmhaaGreatDoor.evs c.gl s (xs.map tvO)) (xs.map a.eval)
 | []=>trivial
 | x::xs=>⟨hR.ev x,R.evs hR xs⟩
theorem Qlb {g:Nat→GM} {s:FS} {a:Act} {w:World} (hR:R c g s a w) (l:List AV):BRs g (Qn c g s) w l (Qdg s l):=by
 intro b hb
 have:=hR.h b
 unfold Qdg
 rw[hb];exact this
theorem Xzc {g:Nat→GM} {s:FS} {a:Act} {w:World} (hR:R c g s a w) {q:Q1} {xs:List Operand} (hpk:q=.pick→∃ x y z,xs=[x,y,z])
  (hc:Zu none q (Proofs.YtogckmommodmhaaGreatDoor.evs c.gl s (xs.map tvO))) :
  ∃ asq,VRs g (Qn c g s) w asq (xs.map a.eval)∧BRs g (Qn c g s) w asq (Qdg s ((Proofs.YtogckmommodmhaaGreatDoor.evs c.gl s (xs.map tvO)).map Qj)) ∧
   (∀ bk,qp q ((Proofs.YtogckmommodmhaaGreatDoor.evs c.gl s (xs.map tvO)).map Qj) bk→qp q asq bk∧qv q asq bk=qv q ((Proofs.YtogckmommodmhaaGreatDoor.evs c.gl s (xs.map tvO)).map Qj) bk):=by
 have hev:=hR.evs xs
 by_cases hq:q=.pick
 ·obtain ⟨x,y,z,rfl⟩:=hpk hq
  subst hq
  obtain ⟨h1,h2,h3,_⟩:=hev
  simp only[Proofs.YtogckmommodmhaaGreatDoor.evs,List.map_cons,List.map_nil,Zu,ob]at hc ⊢
  obtain ⟨c1,c2,c3⟩:=hc
  have hx:=Qfy h1 c1
  cases hb:asB (Qj (evT c.gl s (tvO x))) with
  | true =>
   refine ⟨[Qj (evT c.gl s (tvO x)),Qj (evT c.gl s (tvO y)),.any],⟨hx,Qfy h2 (c2 hb),.any _,trivial⟩,?_,fun bk hp=>?_⟩
   ·intro b hbn
    have:=Qlb hR [Qj (evT c.gl s (tvO x)),Qj (evT c.gl s (tvO y)),Qj (evT c.gl s (tvO z))] b
    refine this ?_
    revert hbn
    cases Qj (evT c.gl s (tvO x))<;>exact id
   ·obtain ⟨p1,p2,p3⟩:=hp
    exact ⟨⟨p1,p2,fun h=>by rw[hb]at h;cases h⟩,by simp[qv,hb]⟩
  | false =>
   refine ⟨[Qj (evT c.gl s (tvO x)),.any,Qj (evT c.gl s (tvO z))],⟨hx,.any _,Qfy h3 (c3 hb),trivial⟩,?_,fun bk hp=>?_⟩
   ·intro b hbn
    have:=Qlb hR [Qj (evT c.gl s (tvO x)),Qj (evT c.gl s (tvO y)),Qj (evT c.gl s (tvO z))] b
    refine this ?_
    revert hbn
    cases Qj (evT c.gl s (tvO x))<;>exact id
   ·obtain ⟨p1,p2,p3⟩:=hp
    exact ⟨⟨p1,fun h=>(by rw[hb]at h;cases h),p3⟩,by simp[qv,hb]⟩
 ·have hc':Qt none (Proofs.YtogckmommodmhaaGreatDoor.evs c.gl s (xs.map tvO)):=by
   cases q<;>first|exact absurd rfl hq|exact hc
  exact ⟨_,Yh hev hc',Qlb hR _,fun bk hp=>⟨hp,rfl⟩⟩
theorem Qqc {o:Oper} {q:Q1} {xs:List Operand} (h:Qet P o=some (q,xs)) (hq:q=.pick):∃ x y z,xs=[x,y,z]:=by
 subst hq
 unfold Qet Qkw Xq0 Xqc Xre nilB at h
 repeat' split at h
 all_goals first
  | (simp at h;obtain ⟨rfl⟩:=h;exact ⟨_,_,_,rfl⟩)
  | (simp at h;done)
  | (rename_i hh;cases hh;done)
  | (simp[Option.map_eq_some_iff]at h;done)
theorem Qdo {s s2:FS} {d:Nat} {v:AV} {rt rb:List Nat}:ovr s2 (s.put d v) ⟨rt,rb,[d],[]⟩=s2.put d v:=by
 unfold ovr FS.put
 congr 1
 ·funext i
  simp only[List.mem_singleton]
  by_cases h:d=i
  ·subst h;simp
  ·rw[if_neg (fun e=>h e.symm),if_neg h]
theorem Ya3 {s:FS} {d:Nat} {q:Q1} {xs:List Operand} {gd:Option (Nat × Bool)} (hgd:Qcl ops io=some gd) (hdst:io.dst=some d) (hd:d < c.N) (hel:Qet P io=some (q,xs))
  (hp:qOk c.gl s q (xs.map tvO) gd):AOk P c ops io s (Qe6 c.gl s d (xs.map tvO) gd) (s.put d (Qgq c.gl s q (xs.map tvO) gd)):=by
 refine ⟨fun i hi=>?_,fun b _=>rfl,?_⟩
 ·rw[FS.T_put,if_neg]
  rintro rfl;exact hi (by simp[Qe6])
 ·intro s2 hT hH g a w hR K Q' hK
  have hevs:evs c.gl s2 (xs.map tvO)=evs c.gl s (xs.map tvO):=Ye fun i hi=>hT i (by simp[Qe6,hi])
  have hg:∀ t b,gd=some (t,b)→s2.T t=s.T t:=fun t b e=>hT t (by simp[Qe6,e,gdT])
  have hgB:gB s2 gd=gB s gd:=by
   cases gd with
   | none=>rfl
   | some p=>obtain ⟨t,b⟩:=p;simp only[gB,hg t b rfl]
  have hgO:gOk s2 gd ↔ gOk s gd:=by
   cases gd with
   | none=>exact Iff.rfl
   | some p=>obtain ⟨t,b⟩:=p;simp only[gOk,hg t b rfl]
  have hblk:Qdg s2 ((evs c.gl s (xs.map tvO)).map Qj)=Qdg s ((evs c.gl s (xs.map tvO)).map Qj):=by
   unfold Qdg
   cases hn:Jg ((evs c.gl s (xs.map tvO)).map Qj) with
   | none=>rfl
   | some b=>exact hH b (by simp[Qe6,hn])
  obtain ⟨p1,p2,p3⟩:=hp
  have hK':∀ v,VR g (Qn c g s2) w (Qgq c.gl s q (xs.map tvO) gd) v→K (a.put io.dst v) w:=fun v hv=>by
   rw[hdst]
   refine hK g _ w ?_
   rw[show Qe6 c.gl s d (xs.map tvO) gd=⟨gdT gd++Xj (xs.map tvO),(Jg ((evs c.gl s (xs.map tvO)).map Qj)).toList,[d],[]⟩ from rfl,Qdo]
   exact hR.put hd hv
  unfold Qan
  rw[Qb9 hgd hR (hgO.2 p1),hgB]
  -- where it is wanted
  have run:(∀ b,gB s gd=some b→b=true)→io.wp P a w K Q':=by
   intro hb
   have hcok:Zu none q (evs c.gl s2 (xs.map tvO)):=by
    rw[hevs]
    cases hgb:gB s gd with
    | none=>rw[hgb]at p2;exact p2
    | some b =>
     have hbt:=hb b hgb
     rw[hgb]at p2
     by_cases hq:q=.pick
     ·obtain ⟨x,y,z,rfl⟩:=Qqc hel hq
      subst hq
      simp only[evs,List.map_cons,List.map_nil,Zu]at p2 ⊢
      exact ⟨Qup hbt p2.1,p2.2.1 hbt,p2.2.2 hbt⟩
     ·have h1:Qt (some b) (evs c.gl s (xs.map tvO)):=by cases q<;>first|exact absurd rfl hq|exact p2
      have h2:=Qaw hbt h1
      cases q<;>first|exact absurd rfl hq|exact h2
   have hqp:qp q ((evs c.gl s (xs.map tvO)).map Qj) (Qdg s ((evs c.gl s (xs.map tvO)).map Qj)):=by
    cases hgb:gB s gd with
    | none=>rw[hgb]at p3;exact p3
    | some b=>rw[hgb]at p3;exact p3 (hb b hgb)
   obtain ⟨asq,a1,a2,a3⟩:=Xzc hR (fun h=>Qqc hel h) hcok
   rw[hevs,hblk]at a2
   rw[hevs]at a3
   obtain ⟨a4,a5⟩:=a3 _ hqp
   obtain ⟨v,hr,hv⟩:=Xvb (P:=P) hel a.eval (fun _=>rfl) a1 a2 a4
   unfold Oper.wp
   rw[hr]
   refine hK' v ?_
   rw[a5]at hv
   unfold Qgq
   cases hgb:gB s gd with
   | none=>exact hv
   | some b=>exact .cnd (fun _=>hv) fun h=>by rw[hb b hgb]at h;cases h
  cases hgb:gB s gd with
  | none=>simp only[Option.getD_none,if_true];exact run fun b h=>by rw[hgb]at h;cases h
  | some b =>
   cases b with
   | true=>simp only[Option.getD_some,if_true];exact run fun b h=>by rw[hgb]at h;cases h;rfl
   | false =>
    simp only[Option.getD_some,Bool.false_eq_true,if_false]
    refine hK' undef ?_
    unfold Qgq
    rw[hgb]
    exact .cnd (fun h=>by cases h) fun _=>rfl
end
def Qb2:AV→Prop
 | .agg _=>True
 | v=>one v
def Qkm:TY→List AV→Nat→AV→Prop
 | .sc _,cs,off,v=>off < cs.length∧one v
 | .ag n,cs,off,.agg vs=>vs.length=n∧off + n≤cs.length
 | .ag _,_,_,_=>False
def Qin (s:FS) (ty:TY) (a v:AV):Prop :=
 match a with
 | .ptr b off=>match s.H b with
  | .cells cs=>Qkm ty cs off v
  | _=>False
 | _=>False
def Ul:AV→Nat
 | .ptr b _=>b
 | _=>0
def Qj3:AV→Nat
 | .ptr _ o=>o
 | _=>0
def Yo:Bk→List AV
 | .cells cs=>cs
 | _=>[]
section
variable {P:Program} {c:Cx} {ops:Array Oper} {io:Oper}
theorem Xhs {s s2:FS} {d b:Nat} {v:AV} {x:Bk} {rt rb:List Nat}:ovr s2 ((s.putB b x).put d v) ⟨rt,rb,[d],[b]⟩=(s2.putB b x).put d v:=by
 unfold ovr FS.put FS.putB
 congr 1
 ·funext i
  simp only[List.mem_singleton]
  by_cases h:d=i
  ·subst h;simp
  ·rw[if_neg (fun e=>h e.symm),if_neg h]
 ·funext i
  simp only[List.mem_singleton]
  by_cases h:b=i
  ·subst h;simp
  ·rw[if_neg (fun e=>h e.symm),if_neg h]
theorem Qfk {s s2:FS} {b:Nat} {x:Bk} {rt rb:List Nat}:ovr s2 (s.putB b x) ⟨rt,rb,[],[b]⟩=s2.putB b x:=by
 unfold ovr FS.putB
 congr 1
 funext i
 simp only[List.mem_singleton]
 by_cases h:b=i
 ·subst h;simp
 ·rw[if_neg (fun e=>h e.symm),if_neg h]
theorem Yl {a:Act} {w:World} {K:Act→World→Prop} {Q:Exit→Act→World→Prop} (h:io.guard=none) (hw:io.wp P a w K Q):Qan P ops io a w K Q:=by
 unfold Qan
 rw[Qe5 h];exact hw
theorem Jl (h:Qcl ops io=some none):io.guard=none:=by
 unfold Qcl at h
 cases hg:io.guard with
 | none=>rfl
 | some p =>
  obtain ⟨j,b⟩:=p
  rw[hg]at h
  simp only at h
  split at h<;>simp at h
theorem Qym {s:FS} {d b:Nat} {cs:List AV} {rt:List Nat} (hg:io.guard=none) (hdst:io.dst=some d) (hd:d < c.N) (hf:s.H b=.free)
  (hrun:∀ s2:FS,(∀ i ∈ rt,s2.T i=s.T i)→∀ g a w,R c g s2 a w→∃ (cur:Array Value) (t:TypeId),(execOp a.eval io).run P w=.ok (.value (.pointer (some ⟨w.heap.size,0,none⟩))) (w.alloc (.cells cur t))∧cur.size=cs.length∧(∀ j,j < cs.length→(cur.getD j undef).oneCell'=true) ∧
   ∀ j,j < cs.length→VR g (Qn c g s2) w (cs.getD j .any) (cur.getD j undef)) :
  AOk P c ops io s ⟨rt,[b],[d],[b]⟩ ((s.putB b (.cells cs)).put d (.ptr b 0)):=by
 refine ⟨fun i hi=>?_,fun i hi=>?_,fun s2 hT hH g a w hR K Q' hK=>Yl hg ?_⟩
 ·rw[FS.T_put,if_neg (fun e=>hi (by simp[e]))];rfl
 ·show (s.putB b _).H i=_
  rw[FS.H_putB,if_neg (fun e=>hi (by simp[e]))]
 ·obtain ⟨cur,t,hr,hs,h1,hv⟩:=hrun s2 hT g a w hR
  unfold Oper.wp
  rw[hr]
  have hf2:s2.H b=.free:=by rw[hH b Zsi,hf]
  have hge:∀ k,Qn c g s2 k→k < w.heap.size:=by
   rintro k (h|⟨b',hl,hg'⟩)
   ·have:=(hR.xs k h).1;have:=hR.fr.size;omega
   ·exact BR.lt (hg' ▸ hR.h b') hl
  have hR':=hR.new (b:=b) (x:=.cells cs) (.cells cur t) hf2 trivial fun g' hg'=>by
   exact .cells (cur:=cur) (e:=t) (fz:=(0,0)) (heap_alloc_new w _) Zom h1 (fun j hj=>(hv j hj).mono (Fr.alloc w _ _) (fun k hk h=>h.resolve_right Zom) hg') (.inl rfl)
  show K (a.put io.dst _) _
  rw[hdst]
  refine hK (Yu g b (.re w.heap.size)) _ _ ?_
  rw[Xhs]
  refine hR'.put hd (.ptr ?_)
  simp[Yu]
theorem Xz9 {s:FS} {d b:Nat} {t:TypeId} {z:Value} (hgd:Qcl ops io=some none) (hop:io.op=.alloc t) (hdst:io.dst=some d) (hd:d < c.N) (hz:(P.info? t).bind (·.zero)=some z) (h1:z.cells.all (·.oneCell')=true) (hf:s.H b=.free) :
  AOk P c ops io s ⟨[],[b],[d],[b]⟩ ((s.putB b (.cells (z.cells.toList.map ofS))).put d (.ptr b 0)):=by
 refine Qym (Jl hgd) hdst hd hf fun s2 _ g a w hR=>⟨z.cells,t,?_,by simp,?_⟩
 ·cases hi:P.info? t with
  | none=>rw[hi]at hz;simp at hz
  | some i =>
   rw[hi]at hz;simp at hz
   simp[execOp,hop,Instr.alloc,zeroValue,typeInfo,hi,hz,newVar,newRow,newObj,Sem.run]
 ·have hv:=Qmi (g:=g) (W:=Qn c g s2) (w:=w) (.agg z.cells)
  have hv':ofV (.agg z.cells)=.agg (z.cells.toList.map ofS):=if_pos h1
  rw[hv']at hv
  obtain ⟨us,e,q1,q2,q3⟩:=Kv hv
  cases e
  exact ⟨q2,q3⟩
theorem Xz2 {s:FS} {d b:Nat} {t:TypeId} {x:Operand} (hgd:Qcl ops io=some none) (hop:io.op=.box t x) (hdst:io.dst=some d) (hd:d < c.N) (hx:Qb2 (evT c.gl s (tvO x))) (hf:s.H b=.free) :
  AOk P c ops io s ⟨Xj [tvO x],[b],[d],[b]⟩ ((s.putB b (.cells (Jo (evT c.gl s (tvO x))))).put d (.ptr b 0)):=by
 refine Qym (Jl hgd) hdst hd hf fun s2 hT g a w hR=>?_
 have hev:=hR.ev x
 have he:evT c.gl s2 (tvO x)=evT c.gl s (tvO x):=by
  have:=Ye (gl:=c.gl) (xs:=[tvO x]) hT
  simpa [evs] using this
 rw[he]at hev
 have hr:(execOp a.eval io).run P w=.ok (.value (.pointer (some ⟨w.heap.size,0,none⟩))) (w.alloc (.cells (a.eval x).cells t)):=by
  simp[execOp,hop,Instr.box,newVar,newRow,newObj,Sem.run]
 refine ⟨_,_,hr,?_⟩
 by_cases hag:∃ vs,evT c.gl s (tvO x)=.agg vs
 ·obtain ⟨vs,e⟩:=hag
  rw[e]at hev ⊢
  obtain ⟨us,e2,q1,q2,q3⟩:=Kv hev
  rw[e2]
  exact ⟨q1,q2,q3⟩
 ·have h1:one (evT c.gl s (tvO x)):=by
   revert hx hag
   cases evT c.gl s (tvO x)<;>simp[Qb2,one]
  have hc1:=hev.one h1
  have hcl:Jo (evT c.gl s (tvO x))=[evT c.gl s (tvO x)]:=by
   revert hag
   cases evT c.gl s (tvO x)<;>simp[Jo]
  rw[hcl,Qjt hc1]
  exact ⟨rfl,fun j hj=>by simp at hj;subst hj;exact hc1,fun j hj=>by simp at hj;subst hj;exact hev⟩
theorem Qg0 (w:World) (k o:Nat) (v:Value) (i:Nat):(w.setCell ⟨k,o,none⟩ v).heap[i]?=if i=k then (w.heap[k]?).map (fun x=>match x with|.cells c e fz=>.cells (c.setIfInBounds o v) e fz|x=>x) else w.heap[i]?:=by
 simp only[World.setCell,Array.getElem?_modify]
 by_cases h:k=i
 ·subst h;simp
  cases w.heap[k]? with
  | none=>rfl
  | some x=>cases x<;>rfl
 ·rw[if_neg h,if_neg (fun e=>h e.symm)]
theorem Qft {k:Nat} {e:TypeId} {fz:Nat × Nat} (off:Nat):∀ (vs:List Value) (i:Nat) (w:World) (cur:Array Value),w.heap[k]?=some (.cells cur e fz)→(∀ v ∈ vs,v.oneCell'=true)→off + i + vs.length≤cur.size→(fz=(0,0)∨cur.size≤fz.1) →
  ∃ w' cur',(storeCells ⟨k,off,none⟩ vs i).run P w=.ok () w'∧w'.heap[k]?=some (.cells cur' e fz)∧cur'.size=cur.size∧(∀ j,cur'.getD j undef=if off + i≤j∧j < off + i + vs.length∧j < cur.size then vs.getD (j - (off + i)) undef else cur.getD j undef)∧Fr w w' (fun x=>x=k)
 | [],i,w,cur,hb,_,_,_=>⟨w,cur,rfl,hb,rfl,fun j=>by rw[if_neg (by simp;omega)],Fr.refl _ _⟩
 | v::vs,i,w,cur,hb,h1,hl,hf=>by
  have hlt:off + i < cur.size:=by simp at hl;omega
  have hcell:w.cell? ⟨k,off + i,none⟩=some cur[off + i]:=by rw[cell_of_row w k _ cur e fz hb];simp[hlt]
  have hfz:w.frozen? ⟨k,off + i,none⟩=false:=by
   simp only[World.frozen?,hb]
   rcases hf with h|h
   ·subst h;simp
   ·simp only[Bool.and_eq_false_iff,decide_eq_false_iff_not];omega
  have hst:(store ⟨k,off + i,none⟩ v).run P w=.ok () (w.setCell ⟨k,off + i,none⟩ v):=by
   rw[run_store P w _ v _ (h1 v Zsi),hcell]
   simp[hfz]
  have hb':(w.setCell ⟨k,off + i,none⟩ v).heap[k]?=some (.cells (cur.setIfInBounds (off + i) v) e fz):=by rw[Qg0,if_pos rfl,hb];rfl
  obtain ⟨w',cur',hr,hbb,hs,hg,hfr⟩:=Qft off vs (i + 1) _ _ hb' (fun u hu=>h1 u (by simp[hu])) (by simp at hl ⊢;omega) (by simpa using hf)
  refine ⟨w',cur',?_,hbb,by rw[hs];simp,fun j=>?_,?_⟩
  ·simp only[storeCells,Sem.run_bind,add_lit,hst,Result.andThen_ok,hr]
  ·rw[hg j]
   simp only[Array.size_setIfInBounds,List.length_cons]
   by_cases hj:j=off + i
   ·subst hj
    rw[if_neg Zom,if_pos Zom]
    simp[hlt]
   ·have e:(cur.setIfInBounds (off + i) v).getD j undef=cur.getD j undef:=by
     simp only[Array.getD_eq_getD_getElem?,Array.getElem?_setIfInBounds]
     rw[if_neg (fun h=>hj h.symm)]
    rw[e]
    by_cases hc:off + (i + 1)≤j∧j < off + (i + 1) + vs.length∧j < cur.size
    ·rw[if_pos hc,if_pos Zom]
     have:j - (off + i)=(j - (off + (i + 1))) + 1:=by omega
     rw[this];simp
    ·rw[if_neg hc,if_neg Zom]
  ·have h0:Fr w (w.setCell ⟨k,off + i,none⟩ v) (fun x=>x=k):=by
    refine ⟨rfl,rfl,rfl,by simp[World.setCell],fun x _ hx=>by rw[Qg0,if_neg hx],fun x c0 e0 f0 hx=>?_⟩
    rw[Qg0]
    split
    ·rename_i ex;subst ex
     rw[hb]at hx;cases hx
     rw[hb]
     exact ⟨_,rfl,by simp⟩
    ·exact ⟨c0,hx,rfl⟩
   exact h0.trans hfr fun i _ h=>h
theorem Qa1 {cur:Array Value} {n j:Nat} (h:j < n):(cur.extract 0 n).getD j undef=cur.getD j undef:=by
 simp only[Array.getD_eq_getD_getElem?,Array.getElem?_extract]
 by_cases hj:j < cur.size
 ·rw[if_pos Zom];simp
 ·rw[if_neg Zom];simp[Nat.le_of_not_lt hj]
theorem Xxd {s:FS} {t:TypeId} {ty:TY} {xa xv:Operand} (hgd:Qcl ops io=some none) (hop:io.op=.store t xa xv) (hdst:io.dst=none) (hty:Qbg P t=some ty)
  (hp:Qin s ty (evT c.gl s (tvO xa)) (evT c.gl s (tvO xv))) :
  AOk P c ops io s ⟨Xj [tvO xa,tvO xv],[Ul (evT c.gl s (tvO xa))],[],[Ul (evT c.gl s (tvO xa))]⟩
   (s.putB (Ul (evT c.gl s (tvO xa))) (.cells (Qhv ty (Yo (s.H (Ul (evT c.gl s (tvO xa))))) (Qj3 (evT c.gl s (tvO xa))) (evT c.gl s (tvO xv))))):=by
 cases hea:evT c.gl s (tvO xa)<;>rw[hea]at hp<;>simp only[Qin]at hp
 rename_i b off
 simp only[Ul,Qj3]
 cases hH:s.H b<;>rw[hH]at hp<;>simp only at hp
 rename_i cs
 simp only[Yo]
 refine ⟨fun i _=>rfl,fun i hi=>by rw[FS.H_putB,if_neg (fun e=>hi (by simp[e]))],fun s2 hT hHH g a w hR K Q' hK=>Yl (Jl hgd) ?_⟩
 have hevs:=Ye (gl:=c.gl) (xs:=[tvO xa,tvO xv]) hT
 simp only[evs,List.map_cons,List.map_nil,List.cons.injEq,and_true]at hevs
 have hva:=hR.ev xa
 have hvv:=hR.ev xv
 rw[hevs.1,hea]at hva
 rw[hevs.2]at hvv
 obtain ⟨k,e1,e2⟩:=Qf2 hva
 have hb2:s2.H b=.cells cs:=by rw[hHH b Zsi,hH]
 have hbr:=hR.h b
 rw[hb2,e2]at hbr
 -- the cells that are stored
 have piece:∃ (vs:List AV),(a.eval xv).cells.size=vs.length∧off + vs.length≤cs.length∧Yz P t=some vs.length∧(∀ j,j < vs.length→((a.eval xv).cells.getD j undef).oneCell'=true)∧(∀ j,j < vs.length→VR g (Qn c g s2) w (vs.getD j .any) ((a.eval xv).cells.getD j undef)) ∧
   Qhv ty cs off (evT c.gl s (tvO xv))=Ym cs off vs:=by
  cases ty with
  | sc q =>
   obtain ⟨hs,_⟩:=Qzh hty
   obtain ⟨p1,p2⟩:=hp
   have h1:=hvv.one p2
   rw[Qjt h1]
   refine ⟨[evT c.gl s (tvO xv)],rfl,by simp;omega,hs,fun j hj=>?_,fun j hj=>?_,Qmn p1⟩
   ·simp at hj;subst hj;exact h1
   ·simp at hj;subst hj;exact hvv
  | ag n =>
   obtain ⟨hs,_⟩:=Qkl hty
   clear hK
   generalize evT c.gl s (tvO xv)=ev at hp hvv
   cases ev<;>simp only[Qkm]at hp
   rename_i vs
   obtain ⟨us,e3,q1,q2,q3⟩:=Kv hvv
   rw[e3]
   exact ⟨vs,q1,by omega,by rw[hs,hp.1],q2,q3,rfl⟩
 obtain ⟨vs,q1,q2,q3,q4,q5,q6⟩:=piece
 rw[q6]at hK
 by_cases hne:0 < cs.length
 ·cases hbr with
  | cells hb hl h1 hv hf =>
   rename_i cur e fz
   obtain ⟨w',cur',r1,r2,r3,r4,r5⟩:=Qft (P:=P) off (a.eval xv).cells.toList 0 w cur hb (fun v hv=>by
    obtain ⟨j,hj,e⟩:=List.getElem_of_mem hv
    have hj':j < vs.length:=by rw[← q1];simpa using hj
    have:=q4 j hj'
    have e':(a.eval xv).cells.getD j undef=v:=by
     rw[← e]
     have:j < (a.eval xv).cells.size:=by simpa using hj
     simp[Array.getD,this]
    rw[← e'];exact this) (by simp[q1];omega) hf
   have hrun:(execOp a.eval io).run P w=.ok .skip w':=by
    simp only[execOp,hop,e1,Instr.storeAt,Instr.sureAddr,storeVar,Sem.run_bind,Sem.run_pure,Result.andThen_ok,Ji q3]
    rw[if_neg (by rw[q1];simp)]
    simp[r1]
   unfold Oper.wp
   rw[hrun]
   show K (a.put io.dst undef) w'
   rw[hdst]
   refine hK g a w' ?_
   rw[Qfk]
   have hlive:(s2.H b).live:=by rw[hb2];trivial
   have hk:Qn c g s2 k:=.inr ⟨b,hlive,e2⟩
   have hmono:∀ {x v},VR g (Qn c g s2) w x v→VR g (Qn c g s2) w' x v:=fun hx=>hx.mono (r5.weak fun i e=>e ▸ hk) (fun _ _ h=>h) (fun _ _=>rfl)
   -- the row asq it was,but for its end,and the piece
   obtain ⟨t1,t2,t3⟩:=Qyk (g:=g) (W:=Qn c g s2) (w:=w') (cs:=cs) (cells:=cur.extract 0 cs.length) (by simp;omega)
    (fun j hj=>by rw[Qa1 hj];exact h1 j hj) (fun j hj=>by rw[Qa1 hj];exact hmono (hv j hj)) (vs:=vs) (us:=(a.eval xv).cells) q1 q4 (fun j hj=>hmono (q5 j hj)) q2 (cells':=cur'.extract 0 cs.length) (by simp;omega) (fun j=>by
     by_cases hj:j < cs.length
     ·rw[Qa1 hj,Qa1 hj,r4 j]
      simp only[Nat.add_zero,Array.length_toList,Array.size_extract,Nat.sub_zero]
      by_cases hcnd:off≤j∧j < off + (a.eval xv).cells.size
      ·rw[if_pos Zom,if_pos Zom]
       simp[Array.getD_eq_getD_getElem?]
      ·rw[if_neg Zom,if_neg Zom]
     ·rw[if_neg (by simp;omega)]
      have e1:(cur'.extract 0 cs.length).getD j undef=undef:=by simp[Array.getD];omega
      have e2:(cur.extract 0 cs.length).getD j undef=undef:=by simp[Array.getD];omega
      rw[e1,e2])
   have hlen:=Qvp q2
   refine hR.setBlock e2 hlive trivial r5 (.cells r2 (by rw[hlen,r3];exact hl) (fun j hj=>?_) (fun j hj=>?_) (by rw[r3];exact hf))
   ·have:=t2 j hj;rwa [Qa1 Zom]at this
   ·have:=t3 j hj;rwa [Qa1 Zom]at this
 ·have hc0:cs=[]:=List.eq_nil_of_length_eq_zero Zom
  subst hc0
  have hv0:vs=[]:=List.eq_nil_of_length_eq_zero (by simp at q2;simp[q2])
  subst hv0
  have hrun:(execOp a.eval io).run P w=.ok .skip w:=by
   have hc1:(a.eval xv).cells=#[]:=Array.eq_empty_of_size_eq_zero q1
   simp only[execOp,hop,e1,Instr.storeAt,Instr.sureAddr,storeVar,Sem.run_bind,Sem.run_pure,Result.andThen_ok,Ji q3]
   rw[if_neg (by rw[q1];simp)]
   simp[hc1,storeCells]
  unfold Oper.wp
  rw[hrun]
  show K (a.put io.dst undef) w
  rw[hdst]
  refine hK g a w ?_
  rw[Qfk]
  have:s2.putB b (.cells (Ym [] off []))=s2:=by
   unfold FS.putB Ym
   cases s2
   congr 1
   funext i
   split
   ·rename_i e;subst e;simp at hb2;simp[hb2]
   ·rfl
  rw[this];exact hR
end
section
variable {P:Program} {N:Nat} {ops:Array Oper} {io:Oper}
theorem Xzf {d:Nat} {q:Q1} {xs:List TV} {gd:Option (Nat × Bool)} (h:Wq P N ops io=some (.q d q xs gd)) :
  Qcl ops io=some gd∧io.dst=some d∧d < N∧∃ ys,Qet P io=some (q,ys)∧xs=ys.map tvO:=by
 unfold Wq at h
 split at h
 ·cases h
 ·rename_i gd' hg
  split at h
  ·split at h
   ·split at h<;>simp at h
   ·cases h
  ·split at h<;>simp at h
  ·split at h<;>simp at h
  ·split at h
   ·rename_i q' ys d' hq hd
    split at h
    ·rename_i hlt
     simp only[Option.some.injEq,TOp.q.injEq]at h
     obtain ⟨rfl,rfl,rfl,rfl⟩:=h
     exact ⟨hg,hd,hlt,ys,hq,rfl⟩
    ·cases h
   ·split at h
    ·split at h<;>simp at h
    ·cases h
theorem Xw8 {d:Nat} {z:List AV} (h:Wq P N ops io=some (.al d z)):Qcl ops io=some none∧io.dst=some d∧d < N∧∃ t zv,io.op=.alloc t∧(P.info? t).bind (·.zero)=some zv∧zv.cells.all (·.oneCell')=true∧z=zv.cells.toList.map ofS:=by
 unfold Wq at h
 split at h
 ·cases h
 ·rename_i gd' hg
  split at h
  ·rename_i t d' hop hd
   split at h
   ·rename_i zv hz
    split at h
    ·rename_i hc
     simp only[Option.some.injEq,TOp.al.injEq]at h
     obtain ⟨rfl,rfl⟩:=h
     exact ⟨hg,hd,hc.1,t,zv,hop,hz,hc.2,rfl⟩
    ·cases h
   ·cases h
  ·split at h<;>simp at h
  ·split at h<;>simp at h
  ·split at h
   ·split at h<;>simp at h
   ·split at h
    ·split at h<;>simp at h
    ·cases h
theorem Xv6 {d:Nat} {x:TV} (h:Wq P N ops io=some (.bx d x)):Qcl ops io=some none∧io.dst=some d∧d < N∧∃ t y,io.op=.box t y∧x=tvO y:=by
 unfold Wq at h
 split at h
 ·cases h
 ·rename_i gd' hg
  split at h
  ·split at h
   ·split at h<;>simp at h
   ·cases h
  ·rename_i t y d' hop hd
   split at h
   ·rename_i hc
    simp only[Option.some.injEq,TOp.bx.injEq]at h
    obtain ⟨rfl,rfl⟩:=h
    exact ⟨by rw[hg,hc.2],hd,hc.1,t,y,hop,rfl⟩
   ·cases h
  ·split at h<;>simp at h
  ·split at h
   ·split at h<;>simp at h
   ·split at h
    ·split at h<;>simp at h
    ·cases h
theorem Xss {ty:TY} {x y:TV} (h:Wq P N ops io=some (.sto ty x y)):Qcl ops io=some none∧io.dst=none∧∃ t xa xv,io.op=.store t xa xv∧Qbg P t=some ty∧x=tvO xa∧y=tvO xv:=by
 unfold Wq at h
 split at h
 ·cases h
 ·rename_i gd' hg
  split at h
  ·split at h
   ·split at h<;>simp at h
   ·cases h
  ·split at h<;>simp at h
  ·rename_i t a v hop hd
   split at h
   ·rename_i hty
    simp only[Option.some.injEq,TOp.sto.injEq]at h
    obtain ⟨rfl,rfl,rfl⟩:=h
    exact ⟨hg,hd,t,a,v,hop,hty,rfl,rfl⟩
   ·cases h
  ·split at h
   ·split at h<;>simp at h
   ·split at h
    ·split at h<;>simp at h
    ·cases h
theorem Zd {d:Option Nat} {k:PK} {xs:List TV} {gd:Option (Nat × Bool)} (h:Wq P N ops io=some (.pd d k xs gd)) :
  Qcl ops io=some gd∧io.dst=d∧d.all (· < N)=true∧∃ ys,Xy P io=some (k,ys)∧xs=ys.map tvO:=by
 unfold Wq at h
 split at h
 ·cases h
 ·rename_i gd' hg
  split at h
  ·split at h
   ·split at h<;>simp at h
   ·cases h
  ·split at h<;>simp at h
  ·split at h<;>simp at h
  ·split at h
   ·split at h<;>simp at h
   ·split at h
    ·rename_i k' ys hk
     split at h
     ·rename_i hd
      simp only[Option.some.injEq,TOp.pd.injEq]at h
      obtain ⟨rfl,rfl,rfl,rfl⟩:=h
      exact ⟨hg,rfl,hd,ys,hk,rfl⟩
     ·cases h
    ·cases h
end
def Kj (P:Program) (c:Cx) (o:TOp) (s:FS) (F:Foot) (s':FS):Prop:=∀ ops io,Wq P c.N ops io=some o→AOk P c ops io s F s'
def Xs0 (P:Program) (c:Cx) (o:TOp) (K:St→Prop) (s:St):Prop:=∃ F s',Kj P c o s.fs F s'.fs∧K s'
def Qr6 (P:Program) (c:Cx) (o:TOp) (K:St→Prop) (s:St):Prop:=∀ ops io,Wq P c.N ops io=some o→∀ g a w,R c g s.fs a w→∀ (K':Act→World→Prop) (Q':Exit→Act→World→Prop),(∀ g' s' a' w',K s'→R c g' s'.fs a' w'→K' a' w')→Qan P ops io a w K' Q'
def Xe5 (P:Program) (c:Cx) (o:TOp) (K:Foot→St→Prop) (s:St):Prop:=∃ F s',Kj P c o s.fs F s'.fs∧K F s'
def XP (P:Program) (c:Cx):List TOp→(St→Prop)→St→Prop
 | [],K,s=>K s
 | .q d q xs gd::r,K,s=>qOk c.gl s.fs q xs gd∧XP P c r K (s.put d (Qgq c.gl s.fs q xs gd))
 | .al d z::r,K,s=>s.fs.H s.n=.free∧XP P c r K ((s.nw (.cells z)).put d (.ptr s.n 0))
 | .bx d x::r,K,s=>Qb2 (evT c.gl s.fs x)∧s.fs.H s.n=.free∧XP P c r K ((s.nw (.cells (Jo (evT c.gl s.fs x)))).put d (.ptr s.n 0))
 | .sto ty a v::r,K,s=>Qin s.fs ty (evT c.gl s.fs a) (evT c.gl s.fs v) ∧
   XP P c r K (s.putB (Ul (evT c.gl s.fs a)) (.cells (Qhv ty (Yo (s.fs.H (Ul (evT c.gl s.fs a)))) (Qj3 (evT c.gl s.fs a)) (evT c.gl s.fs v))))
 | .pd d k xs gd::r,K,s=>Xs0 P c (.pd d k xs gd) (XP P c r K) s∨Qr6 P c (.pd d k xs gd) (XP P c r K) s
def clash (x y:Foot):Bool:=x.wt.any (fun i=>y.rt.contains i || y.wt.contains i) || y.wt.any (fun i=>x.rt.contains i) || x.wb.any (fun i=>y.rb.contains i || y.wb.contains i) || y.wb.any (fun i=>x.rb.contains i)
def Wo (anc:Nat) (y:Foot):Nat→List Foot→Bool
 | _,[]=>true
 | i,x::r=>(!clash x y || anc.testBit i) && Wo anc y (i + 1) r
def Ue (anc:List Nat) (fs:List Foot):List Foot→Bool
 | []=>true
 | y::r=>Wo (anc.getD fs.length 0) y 0 fs && Ue anc (fs++[y]) r
def XD (P:Program) (c:Cx) (anc:List Nat):List TOp→List Foot→(St→Prop)→St→Prop
 | [],fs,K,s=>Ue anc [] fs.reverse=true∧K s
 | .q d q xs gd::r,fs,K,s=>qOk c.gl s.fs q xs gd∧XD P c anc r (Qe6 c.gl s.fs d xs gd::fs) K (s.put d (Qgq c.gl s.fs q xs gd))
 | .al d z::r,fs,K,s=>s.fs.H s.n=.free∧XD P c anc r (⟨[],[s.n],[d],[s.n]⟩::fs) K ((s.nw (.cells z)).put d (.ptr s.n 0))
 | .bx d x::r,fs,K,s=>Qb2 (evT c.gl s.fs x)∧s.fs.H s.n=.free∧XD P c anc r (⟨Xj [x],[s.n],[d],[s.n]⟩::fs) K ((s.nw (.cells (Jo (evT c.gl s.fs x)))).put d (.ptr s.n 0))
 | .sto ty a v::r,fs,K,s=>Qin s.fs ty (evT c.gl s.fs a) (evT c.gl s.fs v) ∧
   XD P c anc r (⟨Xj [a,v],[Ul (evT c.gl s.fs a)],[],[Ul (evT c.gl s.fs a)]⟩::fs) K (s.putB (Ul (evT c.gl s.fs a)) (.cells (Qhv ty (Yo (s.fs.H (Ul (evT c.gl s.fs a)))) (Qj3 (evT c.gl s.fs a)) (evT c.gl s.fs v))))
 | .pd d k xs gd::r,fs,K,s=>Xe5 P c (.pd d k xs gd) (fun F=>XD P c anc r (F::fs) K) s
def Yc (P:Program) (c:Cx) (o:TOp) (r:List TOp) (K:St→Prop) (s:St):Prop:=Xs0 P c o (XP P c r K) s∨Qr6 P c o (XP P c r K) s
def Za (P:Program) (c:Cx) (anc:List Nat) (o:TOp) (r:List TOp) (fs:List Foot) (K:St→Prop) (s:St):Prop:=Xe5 P c o (fun F=>XD P c anc r (F::fs) K) s
section
variable {P:Program} {c:Cx} {K:St→Prop} {s:St} {r:List TOp} {anc:List Nat} {fs:List Foot}
theorem Xxy:XP P c [] K s=K s:=rfl
theorem Ybf (d:Nat) (q:Q1) (xs:List TV) (gd:Option (Nat × Bool)):XP P c (.q d q xs gd::r) K s=(qOk c.gl s.fs q xs gd∧XP P c r K (s.put d (Qgq c.gl s.fs q xs gd))):=rfl
theorem Yad (d:Nat) (z:List AV):XP P c (.al d z::r) K s=(s.fs.H s.n=.free∧XP P c r K ((s.nw (.cells z)).put d (.ptr s.n 0))):=rfl
theorem Yaf (d:Nat) (x:TV):XP P c (.bx d x::r) K s=(Qb2 (evT c.gl s.fs x)∧s.fs.H s.n=.free∧XP P c r K ((s.nw (.cells (Jo (evT c.gl s.fs x)))).put d (.ptr s.n 0))):=rfl
theorem Xzb (ty:TY) (a v:TV):XP P c (.sto ty a v::r) K s=(Qin s.fs ty (evT c.gl s.fs a) (evT c.gl s.fs v) ∧
   XP P c r K (s.putB (Ul (evT c.gl s.fs a)) (.cells (Qhv ty (Yo (s.fs.H (Ul (evT c.gl s.fs a)))) (Qj3 (evT c.gl s.fs a)) (evT c.gl s.fs v))))):=rfl
theorem Ya5 (d:Option Nat) (k:PK) (xs:List TV) (gd:Option (Nat × Bool)):XP P c (.pd d k xs gd::r) K s=Yc P c (.pd d k xs gd) r K s:=rfl
theorem Xyq:XD P c anc [] fs K s=(Ue anc [] fs.reverse=true∧K s):=rfl
theorem Ybd (d:Nat) (q:Q1) (xs:List TV) (gd:Option (Nat × Bool)):XD P c anc (.q d q xs gd::r) fs K s=(qOk c.gl s.fs q xs gd∧XD P c anc r (Qe6 c.gl s.fs d xs gd::fs) K (s.put d (Qgq c.gl s.fs q xs gd))):=rfl
theorem Ya8 (d:Nat) (z:List AV):XD P c anc (.al d z::r) fs K s=(s.fs.H s.n=.free∧XD P c anc r (⟨[],[s.n],[d],[s.n]⟩::fs) K ((s.nw (.cells z)).put d (.ptr s.n 0))):=rfl
theorem Yaa (d:Nat) (x:TV):XD P c anc (.bx d x::r) fs K s=(Qb2 (evT c.gl s.fs x)∧s.fs.H s.n=.free∧XD P c anc r (⟨Xj [x],[s.n],[d],[s.n]⟩::fs) K ((s.nw (.cells (Jo (evT c.gl s.fs x)))).put d (.ptr s.n 0))):=rfl
theorem Xxw (ty:TY) (a v:TV):XD P c anc (.sto ty a v::r) fs K s=(Qin s.fs ty (evT c.gl s.fs a) (evT c.gl s.fs v) ∧
   XD P c anc r (⟨Xj [a,v],[Ul (evT c.gl s.fs a)],[],[Ul (evT c.gl s.fs a)]⟩::fs) K (s.putB (Ul (evT c.gl s.fs a)) (.cells (Qhv ty (Yo (s.fs.H (Ul (evT c.gl s.fs a)))) (Qj3 (evT c.gl s.fs a)) (evT c.gl s.fs v))))):=rfl
theorem Yax (d:Option Nat) (k:PK) (xs:List TV) (gd:Option (Nat × Bool)):XD P c anc (.pd d k xs gd::r) fs K s=Za P c anc (.pd d k xs gd) r fs K s:=rfl
end
section
variable {P:Program} {c:Cx}
theorem Xjc {s:St} {d:Nat} {q:Q1} {xs:List TV} {gd:Option (Nat × Bool)} (hp:qOk c.gl s.fs q xs gd):Kj P c (.q d q xs gd) s.fs (Qe6 c.gl s.fs d xs gd) (s.put d (Qgq c.gl s.fs q xs gd)).fs:=by
 intro ops io he
 obtain ⟨h1,h2,h3,ys,h4,rfl⟩:=Xzf he
 rw[St.fs_put]
 exact Ya3 h1 h2 h3 h4 hp
theorem Qze {s:St} {d:Nat} {z:List AV} (hf:s.fs.H s.n=.free):Kj P c (.al d z) s.fs ⟨[],[s.n],[d],[s.n]⟩ ((s.nw (.cells z)).put d (.ptr s.n 0)).fs:=by
 intro ops io he
 obtain ⟨h1,h2,h3,t,zv,h4,h5,h6,rfl⟩:=Xw8 he
 rw[St.fs_put,St.fs_nw]
 exact Xz9 h1 h4 h2 h3 h5 h6 hf
theorem Qyg {s:St} {d:Nat} {x:TV} (hx:Qb2 (evT c.gl s.fs x)) (hf:s.fs.H s.n=.free):Kj P c (.bx d x) s.fs ⟨Xj [x],[s.n],[d],[s.n]⟩ ((s.nw (.cells (Jo (evT c.gl s.fs x)))).put d (.ptr s.n 0)).fs:=by
 intro ops io he
 obtain ⟨h1,h2,h3,t,y,h4,rfl⟩:=Xv6 he
 rw[St.fs_put,St.fs_nw]
 exact Xz2 h1 h4 h2 h3 hx hf
theorem Qt0 {s:St} {ty:TY} {a v:TV} (hp:Qin s.fs ty (evT c.gl s.fs a) (evT c.gl s.fs v)) :
  Kj P c (.sto ty a v) s.fs ⟨Xj [a,v],[Ul (evT c.gl s.fs a)],[],[Ul (evT c.gl s.fs a)]⟩ (s.putB (Ul (evT c.gl s.fs a)) (.cells (Qhv ty (Yo (s.fs.H (Ul (evT c.gl s.fs a)))) (Qj3 (evT c.gl s.fs a)) (evT c.gl s.fs v)))).fs:=by
 intro ops io he
 obtain ⟨h1,h2,t,xa,xv,h3,h4,rfl,rfl⟩:=Xss he
 rw[St.fs_putB]
 exact Xxd h1 h3 h2 h4 hp
theorem Xua {o:TOp} {r:List TOp} {K:St→Prop} {s:St} (h:XP P c (o::r) K s):(∃ F s',Kj P c o s.fs F s'.fs∧XP P c r K s')∨Qr6 P c o (XP P c r K) s:=by
 cases o with
 | q d q xs gd=>exact .inl ⟨_,_,Xjc h.1,h.2⟩
 | al d z=>exact .inl ⟨_,_,Qze h.1,h.2⟩
 | bx d x=>exact .inl ⟨_,_,Qyg h.1 h.2.1,h.2.2⟩
 | sto ty a v=>exact .inl ⟨_,_,Qt0 h.1,h.2⟩
 | pd d k xs gd=>exact h
theorem Xwo {anc:List Nat} {o:TOp} {r:List TOp} {fs:List Foot} {K:St→Prop} {s:St} (h:XD P c anc (o::r) fs K s):∃ F s',Kj P c o s.fs F s'.fs∧XD P c anc r (F::fs) K s':=by
 cases o with
 | q d q xs gd=>exact ⟨_,_,Xjc h.1,h.2⟩
 | al d z=>exact ⟨_,_,Qze h.1,h.2⟩
 | bx d x=>exact ⟨_,_,Qyg h.1 h.2.1,h.2.2⟩
 | sto ty a v=>exact ⟨_,_,Qt0 h.1,h.2⟩
 | pd d k xs gd=>exact h
def Qe9 (P:Program) (N:Nat) (ops:Array Oper):List Oper→Option (List TOp)
 | []=>some []
 | o::r=>match Wq P N ops o,Qe9 P N ops r with
  | some x,some l=>some (x::l)
  | _,_=>none
theorem Qm5 {ops:Array Oper} {Q:Exit→Act→World→Prop} {K:St→Prop} (hK:∀ s g a w,K s→R c g s.fs a w→Q .normal a w):∀ (os:List Oper) (l:List TOp) (s:St),Qe9 P c.N ops os=some l→XP P c l K s →
  ∀ g a w,R c g s.fs a w→wpList P ops Q os a w
 | [],l,s,he,h,g,a,w,hR=>by
  simp[Qe9]at he;subst he
  exact hK s g a w h hR
 | o::os,l,s,he,h,g,a,w,hR=>by
  unfold Qe9 at he
  split at he
  ·rename_i x l' hx hl
   simp at he;subst he
   have:Qan P ops o a w (wpList P ops Q os) Q:=by
    rcases Xua h with ⟨F,s',hA,hr⟩|hS
    ·have hA':=hA ops o hx
     exact hA'.step s.fs (fun _ _=>rfl) (fun _ _=>rfl) g a w hR (wpList P ops Q os) Q fun g' a' w' hR'=>by
      rw[Qfj hA'.outT hA'.outH]at hR'
      exact Qm5 hK os l' s' hl hr g' a' w' hR'
    ·exact hS ops o hx g a w hR (wpList P ops Q os) Q fun g' s' a' w' hk hR'=>Qm5 hK os l' s' hl hk g' a' w' hR'
   unfold Qan at this
   unfold wpList
   split
   ·rename_i hw;rw[if_pos hw]at this;exact .inl this
   ·rename_i hw;rw[if_neg hw]at this;exact this
  ·cases he
end
def Qdq (o:Oper):List Nat:=(o.after.toList.filter fun e=>Region.binds .any e).map (·.on)
def Qi1 (acc:List Nat):List Nat→Nat
 | []=>0
 | e::r=>(Qi1 acc r ||| (1 <<< e)) ||| acc.getD e 0
def Qk8:List Oper→List Nat→List Nat
 | [],acc=>acc
 | o::r,acc=>Qk8 r (acc++[Qi1 acc (Qdq o)])
theorem Qt6 (acc:List Nat) (i:Nat):∀ l:List Nat,(Qi1 acc l).testBit i=true→i ∈ l∨∃ e ∈ l,(acc.getD e 0).testBit i=true
 | [],h=>by simp[Qi1]at h
 | e::r,h=>by
  simp only[Qi1,Nat.testBit_or,Bool.or_eq_true]at h
  rcases h with (h|h)|h
  ·rcases Qt6 acc i r h with h|⟨x,hx,h⟩
   ·exact .inl (by simp[h])
   ·exact .inr ⟨x,by simp[hx],h⟩
  ·rw[Nat.one_shiftLeft,Nat.testBit_two_pow]at h
   exact .inl (by simp at h;simp[h])
  ·exact .inr ⟨e,by simp,h⟩
def Xel (ops:Array Oper):Bool:=(List.range ops.size).all fun j=>match ops[j]? with
 | some o=>(Qdq o).all (· < j)
 | none=>true
theorem Qsj {ops:Array Oper} {L:Nat→Prop} (hcl:∀ (j:Nat) o,ops[j]?=some o→L j→∀ e ∈ Qdq o,L e):∀ (l:List Oper) (acc:List Nat),(∀ i,l[i]?=ops[acc.length + i]?) →
  (∀ j,j < acc.length→L j→∀ i,(acc.getD j 0).testBit i=true→L i)→∀ j,L j→∀ i,((Qk8 l acc).getD j 0).testBit i=true→L i
 | [],acc,_,h,j,hj,i,hi=>by
  by_cases hlt:j < acc.length
  ·exact h j hlt hj i hi
  ·have:acc.getD j 0=0:=by simp[List.getD,Nat.le_of_not_lt hlt]
   rw[Qk8,this]at hi;simp at hi
 | o::r,acc,hl,h,j,hj,i,hi=>by
  refine Qsj hcl r (acc++[Qi1 acc (Qdq o)]) (fun k=>?_) (fun k hk hLk m hm=>?_) j hj i hi
  ·have:=hl (k + 1)
   simp only[List.getElem?_cons_succ]at this
   rw[this]
   congr 1
   simp;omega
  ·by_cases hlt:k < acc.length
   ·have:(acc++[Qi1 acc (Qdq o)]).getD k 0=acc.getD k 0:=by
     simp only[List.getD];rw[List.getElem?_append_left hlt]
    rw[this]at hm
    exact h k hlt hLk m hm
   ·have hk':k=acc.length:=by simp at hk;omega
    subst hk'
    have:(acc++[Qi1 acc (Qdq o)]).getD acc.length 0=Qi1 acc (Qdq o):=by
     simp[List.getD]
    rw[this]at hm
    have ho:ops[acc.length]?=some o:=by have:=hl 0;simpa using this.symm
    rcases Qt6 _ _ _ hm with hm|⟨e,he,hme⟩
    ·exact hcl _ o ho hLk m hm
    ·have hLe:=hcl _ o ho hLk e he
     by_cases hlt':e < acc.length
     ·exact h e hlt' hLe m hme
     ·have:acc.getD e 0=0:=by simp[List.getD,Nat.le_of_not_lt hlt']
      rw[this]at hme;simp at hme
theorem Ql5 {anc:Nat} {y:Foot}:∀ (l:List Foot) (k:Nat),Wo anc y k l=true→∀ i (hi:i < l.length),clash l[i] y=true→anc.testBit (k + i)=true
 | x::l,k,h,i,hi,hc=>by
  simp only[Wo,Bool.and_eq_true,Bool.or_eq_true,Bool.not_eq_true']at h
  cases i with
  | zero =>
   rcases h.1 with h1|h1
   ·simp at hc;rw[hc]at h1;cases h1
   ·simpa using h1
  | succ i =>
   have:=Ql5 l (k + 1) h.2 i (by simpa using hi) (by simpa using hc)
   rwa [show k + 1 + i=k + (i + 1) by omega]at this
 | [],_,_,i,hi,_=>absurd hi Zsi
theorem Qpx {anc:List Nat}:∀ (l pre:List Foot),Ue anc pre l=true→∀ j (hj:j < l.length) i (hi:i < (pre++l).length),i < pre.length + j→clash (pre++l)[i] l[j]=true→(anc.getD (pre.length + j) 0).testBit i=true
 | y::l,pre,h,j,hj,i,hi,hlt,hc=>by
  simp only[Ue,Bool.and_eq_true]at h
  cases j with
  | zero =>
   have hi':i < pre.length:=by omega
   have:=Ql5 pre 0 h.1 i hi' (by simpa [List.getElem_append_left hi'] using hc)
   simpa using this
  | succ j =>
   have:=Qpx l (pre++[y]) h.2 j (by simpa using hj) i (by simpa using hi) (by simp;omega) (by simpa using hc)
   simp only[List.length_append,List.length_singleton]at this
   rwa [show pre.length + 1 + j=pre.length + (j + 1) by omega]at this
 | [],_,_,j,hj,_,_,_,_=>absurd hj Zsi
section
variable {P:Program} {c:Cx} {ops:Array Oper}
theorem Qtx {anc:List Nat} {K:St→Prop}:∀ (os:List Oper) (l:List TOp) (fs:List Foot) (s:St),Qe9 P c.N ops os=some l→XD P c anc l fs K s →
  ∃ (S:Nat→FS) (F:Nat→Foot) (sn:St),S 0=s.fs∧(∀ j o,os[j]?=some o→AOk P c ops o (S j) (F j) (S (j + 1)))∧sn.fs=S os.length∧K sn∧Ue anc [] (fs.reverse++(List.range os.length).map F)=true
 | [],l,fs,s,he,h=>by
  simp[Qe9]at he;subst he
  exact ⟨fun _=>s.fs,fun _=>⟨[],[],[],[]⟩,s,rfl,fun j o h=>by simp at h,rfl,h.2,by simpa using h.1⟩
 | o::os,l,fs,s,he,h=>by
  unfold Qe9 at he
  split at he
  ·rename_i x l' hx hl
   simp at he;subst he
   obtain ⟨F0,s',hA,hr⟩:=Xwo h
   obtain ⟨S,F,sn,h1,h2,h3,h4,h5⟩:=Qtx os l' (F0::fs) s' hl hr
   refine ⟨fun j=>match j with|0=>s.fs|j + 1=>S j,fun j=>match j with|0=>F0|j + 1=>F j,sn,rfl,fun j o' ho=>?_,h3,h4,?_⟩
   ·cases j with
    | zero =>
     simp at ho;subst ho
     have:=hA ops o hx
     simpa [h1] using this
    | succ j=>exact h2 j o' (by simpa using ho)
   ·rw[List.length_cons,List.range_succ_eq_map]
    simp only[List.map_cons,List.map_map]
    simp only[List.reverse_cons,List.append_assoc,List.singleton_append]at h5
    exact h5
  ·cases he
def SL (L:Nat→Bool) (S:Nat→FS) (F:Nat→Foot):Nat→FS
 | 0=>S 0
 | m + 1=>if L m then ovr (SL L S F m) (S (m + 1)) (F m) else SL L S F m
def Xbe (x y:Foot):Prop:=(∃ i ∈ x.wt,i ∈ y.rt∨i ∈ y.wt)∨(∃ i ∈ y.wt,i ∈ x.rt)∨(∃ i ∈ x.wb,i ∈ y.rb∨i ∈ y.wb)∨(∃ i ∈ y.wb,i ∈ x.rb)
theorem Xsp {x y:Foot} (h:Xbe x y):clash x y=true:=by
 unfold clash
 simp only[Bool.or_eq_true,List.any_eq_true,List.contains_iff_mem]
 rcases h with h|h|h|h
 ·exact .inl (.inl (.inl h))
 ·exact .inl (.inl (.inr h))
 ·exact .inl (.inr h)
 ·exact .inr h
structure Ch (n:Nat) (S:Nat→FS) (F:Nat→Foot) (A:Nat→List Nat):Prop where
 outT:∀ j,j < n→∀ i,i ∉ (F j).wt→(S (j + 1)).T i=(S j).T i
 outH:∀ j,j < n→∀ i,i ∉ (F j).wb→(S (j + 1)).H i=(S j).H i
 clash:∀ i j,i < j→j < n→Xbe (F i) (F j)→i ∈ A j
variable {n:Nat} {S:Nat→FS} {F:Nat→Foot} {A:Nat→List Nat} {L:Nat→Bool}
theorem Ybh {m i:Nat}:(SL L S F (m + 1)).T i=if L m=true∧i ∈ (F m).wt then (S (m + 1)).T i else (SL L S F m).T i:=by
 have e:SL L S F (m + 1)=if L m then ovr (SL L S F m) (S (m + 1)) (F m) else SL L S F m:=rfl
 rw[e]
 split
 ·rename_i h;simp only[ovr,h,true_and]
 ·rename_i h;rw[if_neg (fun x=>h x.1)]
theorem Ybb {m i:Nat}:(SL L S F (m + 1)).H i=if L m=true∧i ∈ (F m).wb then (S (m + 1)).H i else (SL L S F m).H i:=by
 have e:SL L S F (m + 1)=if L m then ovr (SL L S F m) (S (m + 1)) (F m) else SL L S F m:=rfl
 rw[e]
 split
 ·rename_i h;simp only[ovr,h,true_and]
 ·rename_i h;rw[if_neg (fun x=>h x.1)]
theorem Quk (hc:Ch n S F A) {j:Nat} (hj:j < n) (hLj:L j=false) (hanc:∀ i ∈ A j,i < j→L i=true) (hcl:∀ m,m < n→L m=true→∀ i ∈ A m,L i=true) {t:Nat} (ht:t ∈ (F j).rt):∀ m,m≤n→(SL L S F m).T t=(S (min m j)).T t
 | 0,_=>by simp[SL]
 | m + 1,hm=>by
  have ih:=Quk hc hj hLj hanc hcl ht m Zom
  rw[Ybh,ih]
  by_cases hmj:m < j
  ·rw[show min (m + 1) j=m + 1 by omega,show min m j=m by omega]
   by_cases hw:t ∈ (F m).wt
   ·have:L m=true:=hanc m (hc.clash m j hmj hj (.inl ⟨t,hw,.inl ht⟩)) hmj
    rw[if_pos ⟨this,hw⟩]
   ·rw[if_neg (fun x=>hw x.2),hc.outT m Zom t hw]
  ·rw[show min (m + 1) j=j by omega,show min m j=j by omega]
   rw[if_neg]
   rintro ⟨h1,h2⟩
   by_cases he:m=j
   ·subst he;rw[hLj]at h1;cases h1
   ·have:=hcl m Zom h1 j (hc.clash j m Zom Zom (.inr (.inl ⟨t,h2,ht⟩)))
    rw[hLj]at this;cases this
theorem Qva (hc:Ch n S F A) {j:Nat} (hj:j < n) (hLj:L j=false) (hanc:∀ i ∈ A j,i < j→L i=true) (hcl:∀ m,m < n→L m=true→∀ i ∈ A m,L i=true) {t:Nat} (ht:t ∈ (F j).rb):∀ m,m≤n→(SL L S F m).H t=(S (min m j)).H t
 | 0,_=>by simp[SL]
 | m + 1,hm=>by
  have ih:=Qva hc hj hLj hanc hcl ht m Zom
  rw[Ybb,ih]
  by_cases hmj:m < j
  ·rw[show min (m + 1) j=m + 1 by omega,show min m j=m by omega]
   by_cases hw:t ∈ (F m).wb
   ·have:L m=true:=hanc m (hc.clash m j hmj hj (.inr (.inr (.inl ⟨t,hw,.inl ht⟩)))) hmj
    rw[if_pos ⟨this,hw⟩]
   ·rw[if_neg (fun x=>hw x.2),hc.outH m Zom t hw]
  ·rw[show min (m + 1) j=j by omega,show min m j=j by omega]
   rw[if_neg]
   rintro ⟨h1,h2⟩
   by_cases he:m=j
   ·subst he;rw[hLj]at h1;cases h1
   ·have:=hcl m Zom h1 j (hc.clash j m Zom Zom (.inr (.inr (.inr ⟨t,h2,ht⟩))))
    rw[hLj]at this;cases this
theorem Xo3 {s x y:FS} {X Y:Foot} (h1:∀ i ∈ X.wt,i ∉ Y.wt) (h2:∀ i ∈ X.wb,i ∉ Y.wb):ovr (ovr s x X) y Y=ovr (ovr s y Y) x X:=by
 unfold ovr
 congr 1
 ·funext i
  by_cases hy:i ∈ Y.wt<;>by_cases hx:i ∈ X.wt<;>simp only[hx,hy,if_true,if_false]
  exact absurd hy (h1 i hx)
 ·funext i
  by_cases hy:i ∈ Y.wb<;>by_cases hx:i ∈ X.wb<;>simp only[hx,hy,if_true,if_false]
  exact absurd hy (h2 i hx)
theorem Xhk (hc:Ch n S F A) {j:Nat} (hLj:L j=false) (hcl:∀ m,m < n→L m=true→∀ i ∈ A m,L i=true) {L':Nat→Bool} (hj':L' j=true) (ho:∀ i,i≠j→L' i=L i) :
  ∀ m,m≤n→SL L' S F m=if m≤j then SL L S F m else ovr (SL L S F m) (S (j + 1)) (F j)
 | 0,_=>by simp[SL]
 | m + 1,hm=>by
  have ih:=Xhk hc hLj hcl hj' ho m Zom
  have e:∀ L,SL L S F (m + 1)=if L m then ovr (SL L S F m) (S (m + 1)) (F m) else SL L S F m:=fun _=>rfl
  by_cases hmj:m < j
  ·rw[if_pos Zom]
   rw[if_pos Zom]at ih
   rw[e,e,ih,ho m Zom]
  ·rw[if_neg Zom]
   by_cases he:m=j
   ·subst he
    rw[if_pos (Nat.le_refl _)]at ih
    rw[e,e,ih,hj',hLj]
    simp
   ·rw[if_neg Zom]at ih
    rw[e,e,ih,ho m he]
    split
    ·rename_i hLm
     have hno:¬ Xbe (F j) (F m):=fun hcl'=>by
      have:=hcl m Zom hLm j (hc.clash j m Zom Zom hcl')
      rw[hLj]at this;cases this
     exact Xo3 (fun i hi hi'=>hno (.inl ⟨i,hi,.inr hi'⟩)) (fun i hi hi'=>hno (.inr (.inr (.inl ⟨i,hi,.inr hi'⟩))))
    ·rfl
theorem Xmm (hc:Ch n S F A) (h:∀ j,j < n→L j=true):∀ m,m≤n→SL L S F m=S m
 | 0,_=>rfl
 | m + 1,hm=>by
  have e:SL L S F (m + 1)=if L m then ovr (SL L S F m) (S (m + 1)) (F m) else SL L S F m:=rfl
  rw[e,h m Zom,Xmm hc h m Zom]
  exact Qfj (hc.outT m Zom) (hc.outH m Zom)
theorem Qzg:∀ m,(∀ j,j < m→L j=false)→SL L S F m=S 0
 | 0,_=>rfl
 | m + 1,h=>by
  have e:SL L S F (m + 1)=if L m then ovr (SL L S F m) (S (m + 1)) (F m) else SL L S F m:=rfl
  rw[e,h m Zom,Qzg m fun j hj=>h j Zom]
  simp
theorem Qo4 {listed:Array Bool}:∀ m,(∀ j,j < m→listed.getD j true=true)∨∃ i,i < m∧listed.getD i true=false∧∀ j,j < i→listed.getD j true=true
 | 0=>.inl fun j hj=>by omega
 | m + 1=>by
  rcases Qo4 (listed:=listed) m with h|⟨i,hi,hu,hl⟩
  ·cases hm:listed.getD m true with
   | true =>
    refine .inl fun j hj=>?_
    by_cases e:j=m
    ·rw[e];exact hm
    ·exact h j Zom
   | false=>exact .inr ⟨m,by omega,hm,h⟩
  ·exact .inr ⟨i,by omega,hu,hl⟩
def opn (listed:Array Bool) (n:Nat):Nat:=((List.range n).filter fun j=>listed.getD j true == false).length
theorem Qod {listed:Array Bool} {i:Nat} (hi:listed.getD i true=false):∀ n,i < n→opn listed n=opn (listed.setIfInBounds i true) n + 1
 | 0,h=>by omega
 | n + 1,h=>by
  have hsz:i < listed.size:=by
   rcases Nat.lt_or_ge i listed.size with h'|h'
   ·exact h'
   ·simp[Array.getElem?_eq_none h']at hi
  unfold opn
  rw[List.range_succ,List.filter_append,List.filter_append,List.length_append,List.length_append]
  by_cases hin:i=n
  ·subst hin
   have e:(List.range i).filter (fun j=>(listed.setIfInBounds i true).getD j true == false)=(List.range i).filter (fun j=>listed.getD j true == false):=by
    refine List.filter_congr fun j hj=>?_
    rw[getD_set_ne true (by have:=List.mem_range.1 hj;omega)]
   rw[e]
   simp[hsz]at hi
   simp[hsz,hi]
  ·have ih:=Qod hi n Zom
   unfold opn at ih
   rw[ih]
   have e:(listed.setIfInBounds i true).getD n true=listed.getD n true:=getD_set_ne true hin
   simp only[List.filter_cons,List.filter_nil,e]
   omega
theorem Xt2 {listed:Array Bool} {n:Nat} (h:∀ j,j < n→listed.getD j true=true):opn listed n=0:=by
 unfold opn
 rw[List.length_eq_zero_iff,List.filter_eq_nil_iff]
 intro j hj
 rw[h j (List.mem_range.1 hj)];simp
theorem Qmh {o:Oper} {e:Nat} (h:e ∈ Qdq o):∃ x ∈ o.after,Region.binds .any x=true∧x.on=e:=by
 unfold Qdq at h
 obtain ⟨x,hx,rfl⟩:=List.mem_map.1 h
 obtain ⟨h1,h2⟩:=List.mem_filter.1 hx
 exact ⟨x,by simpa using h1,h2,rfl⟩
theorem Xdn {o:Oper} {x:Edge} (h:x ∈ o.after) (hb:Region.binds .any x=true):x.on ∈ Qdq o:=by
 unfold Qdq
 exact List.mem_map.2 ⟨x,List.mem_filter.2 ⟨by simpa using h,hb⟩,rfl⟩
theorem Xjm {Q:Exit→Act→World→Prop} (hn:n=ops.size) (hback:Xel ops=true) (hc:Ch n S F A) (hanc:∀ L':Nat→Bool,(∀ (j:Nat) o,ops[j]?=some o→L' j=true→∀ e ∈ Qdq o,L' e=true)→∀ j,L' j=true→∀ i ∈ A j,L' i=true)
  (hA:∀ j o,ops[j]?=some o→AOk P c ops o (S j) (F j) (S (j + 1))) (hend:∀ g a w,R c g (S n) a w→Q .normal a w) :
  ∀ (f:Nat) (listed:Array Bool) (g:Nat→GM) (a:Act) (w:World),HeadInv .any ops n listed→R c g (SL (fun j=>listed.getD j false) S F n) a w→opn listed n=f→wpAny P .any ops Q f listed a w:=by
 intro f
 induction f with
 | zero =>
  intro listed g a w inv hR hf
  have hall:∀ j,j < n→listed.getD j true=true:=by
   rcases Qo4 (listed:=listed) n with h|⟨i,hi,hu,_⟩
   ·exact h
   ·have:=Qod hu n hi;omega
  refine ⟨?_,hend g a w ?_⟩
  ·rw[List.eq_nil_iff_forall_not_mem]
   intro j hj
   obtain ⟨h1,o,h2,_⟩:=mem_ready.1 hj
   have:j < n:=by rw[hn];exact (Array.getElem?_eq_some_iff.1 h2).1
   rw[hall j this]at h1;cases h1
  ·rw[Xmm hc (fun j hj=>?_) n (Nat.le_refl _)]at hR
   ·exact hR
   ·have:=hall j hj
    have hsz:j < listed.size:=by rw[inv.size,← hn];exact hj
    simpa [hsz] using this
 | succ f ih =>
  intro listed g a w inv hR hf
  rcases Qo4 (listed:=listed) n with h|⟨i,hi,hu,hl⟩
  ·have:=Xt2 h;omega
  ·have hosz:i < ops.size:=by omega
   have hrdy:i ∈ Region.ready .any ops listed:=mem_ready.2 ⟨hu,ops[i],Array.getElem?_eq_getElem hosz,fun e he hb=>by
    have h1:=List.all_eq_true.1 hback i (List.mem_range.2 hosz)
    rw[Array.getElem?_eq_getElem hosz]at h1
    have hlt:e.on < i:=by simpa using List.all_eq_true.1 h1 e.on (Xdn he hb)
    have:=hl e.on hlt
    have hsz:e.on < listed.size:=by rw[inv.size];omega
    simpa [hsz] using this⟩
   refine ⟨fun h0=>(by rw[h0]at hrdy;cases hrdy),fun j hj=>?_⟩
   obtain ⟨hjun,o,hoj,hall⟩:=mem_ready.1 hj
   have hjn:j < n:=by rw[hn];exact (Array.getElem?_eq_some_iff.1 hoj).1
   have hopen:=Qod hjun n hjn
   have hLj:listed.getD j false=false:=getD_both hjun
   have hclosed:∀ (j:Nat) o,ops[j]?=some o→listed.getD j false=true→∀ e ∈ Qdq o,listed.getD e false=true:=fun j o ho hL e he=>by
    obtain ⟨x,h1,h2,rfl⟩:=Qmh he
    exact inv.closed j o ho hL x h1 h2
   have hcl:=hanc _ hclosed
   have hancj:∀ i ∈ A j,i < j→listed.getD i false=true:=by
    have h1:=inv.set hj hjn
    intro i hi hij
    have hcl':=hanc (fun k=>(listed.setIfInBounds j true).getD k false) (fun k o' ho' hL e he=>by
     obtain ⟨x,h3,h4,rfl⟩:=Qmh he
     exact h1.closed k o' ho' hL x h3 h4) j (by
      have hsz:j < listed.size:=by rw[inv.size];omega
      simp[hsz]) i hi
    rw[getD_set_ne false Zom]at hcl';exact hcl'
   have hrT:∀ t ∈ (F j).rt,(SL (fun j=>listed.getD j false) S F n).T t=(S j).T t:=fun t ht=>by
    rw[Quk hc hjn hLj hancj (fun m _ hm=>hcl m hm) ht n (Nat.le_refl _),Nat.min_eq_right (Nat.le_of_lt hjn)]
   have hrH:∀ t ∈ (F j).rb,(SL (fun j=>listed.getD j false) S F n).H t=(S j).H t:=fun t ht=>by
    rw[Qva hc hjn hLj hancj (fun m _ hm=>hcl m hm) ht n (Nat.le_refl _),Nat.min_eq_right (Nat.le_of_lt hjn)]
   have hst:=(hA j o hoj).step _ hrT hrH g a w hR (wpAny P .any ops Q f (listed.setIfInBounds j true)) Q fun g' a' w' hR'=>by
    refine ih _ g' a' w' (inv.set hj hjn) ?_ Zom
    have hsz:j < listed.size:=by rw[inv.size];omega
    have:=Xhk (L:=fun j=>listed.getD j false) hc hLj (fun m _ hm=>hcl m hm) (L':=fun k=>(listed.setIfInBounds j true).getD k false) (by simp[hsz]) (fun i hi=>getD_set_ne false (fun e=>hi e.symm)) n (Nat.le_refl _)
    rw[if_neg Zom]at this
    rw[this];exact hR'
   unfold wpOp
   rw[hoj]
   unfold Qan at hst
   show if Region.wanted o (yielded ops a.tmps)=true then _ else _
   split
   ·rename_i hw;rw[if_pos hw]at hst;exact .inl hst
   ·rename_i hw;rw[if_neg hw]at hst;exact hst
end
end Go.Proofs.YtogckmommodmhaaGreatDoor
