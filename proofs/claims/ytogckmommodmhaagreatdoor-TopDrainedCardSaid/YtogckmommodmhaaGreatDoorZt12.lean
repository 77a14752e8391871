import Derived.Test.YtogckmommodmhaaGreatDoorZt3
import Derived.Test.YtogckmommodmhaaGreatDoorZt5
import Derived.Test.YtogckmommodmhaaGreatDoorZt1
import Derived.Test.YtogckmommodmhaaGreatDoorZt6
import Derived.Test.YtogckmommodmhaaGreatDoorZt7
import Derived.Test.YtogckmommodmhaaGreatDoorRows
import Derived.KernelRfl
import Derived.Shelf.Sort.Plain
import Derived.Shelf.Slices.In.SortNone
set_option maxHeartbeats 16000000
namespace Go.Proofs.YtogckmommodmhaaGreatDoor
open Go.RowKit
set_option linter.all false
set_option linter.unusedSimpArgs false
set_option maxRecDepth 100000
structure Tm where
 id:Int
 due:Nat
 deriving DecidableEq,Inhabited
def A9 (now due:Nat):Nat→Nat→Nat
 | 0,_=>64
 | f + 1,k=>if due / 16 ^ k < now / 16 ^ k + 16 then k * 16 + due / 16 ^ k % 16 else A9 now due f (k + 1)
def Yv (now due:Nat):Nat:=A9 now due 4 0
theorem TH (now due:Nat):Yv now due=if due < now + 16 then due % 16 else if due / 16 < now / 16 + 16 then 16 + due / 16 % 16 else if due / 256 < now / 256 + 16 then 32 + due / 256 % 16 else if due / 4096 < now / 4096 + 16 then 48 + due / 4096 % 16 else 64:=by
 simp[Yv,A9]
theorem vR (now due:Nat):Yv now due < 65:=by
 rw[TH];(repeat' split)<;>omega
def Pl (now i due:Nat):Prop :=
 if i < 16 then due % 16=i∧now≤due∧due < now + 16
 else if i < 32 then due / 16 % 16=i - 16∧now / 16 < due / 16∧due / 16 < now / 16 + 16
 else if i < 48 then due / 256 % 16=i - 32∧now / 256 < due / 256∧due / 256 < now / 256 + 16
 else if i < 64 then due / 4096 % 16=i - 48∧now / 4096 < due / 4096∧due / 4096 < now / 4096 + 16
 else now / 65536 < due / 65536
theorem MR {now due:Nat} (h:now≤due):Pl now (Yv now due) due:=by
 rw[TH]
 unfold Pl
 split
 ·rw[if_pos af];omega
 split
 ·rw[if_neg af,if_pos af];omega
 split
 ·rw[if_neg af,if_neg af,if_pos af];omega
 split
 ·rw[if_neg af,if_neg af,if_neg af,if_pos af];omega
 ·rw[if_neg af,if_neg af,if_neg af,if_neg af];omega
def pQ (now L i due:Nat):Prop :=
 if i < 16 then due % 16=i∧now≤due∧due < now + 16
 else if i < 32 then due / 16 % 16=i - 16∧(now - 1) / 16 < due / 16∧due / 16 < now / 16 + 16∧(1 < L→now / 16 < due / 16)
 else if i < 48 then due / 256 % 16=i - 32∧(now - 1) / 256 < due / 256∧due / 256 < now / 256 + 16∧(2 < L→now / 256 < due / 256)
 else if i < 64 then due / 4096 % 16=i - 48∧(now - 1) / 4096 < due / 4096∧due / 4096 < now / 4096 + 16∧(3 < L→now / 4096 < due / 4096)
 else (now - 1) / 65536 < due / 65536∧(4 < L→now / 65536 < due / 65536)
theorem Pl.g {now L i due:Nat} (h:Pl now i due):pQ now L i due:=by
 unfold Pl at h
 unfold pQ
 (repeat' split)<;>(first|(rw[if_pos (by omega)]at h;omega)|(rw[if_neg (by omega),if_pos (by omega)]at h;omega)|(rw[if_neg (by omega),if_neg (by omega),if_pos (by omega)]at h;omega)|(rw[if_neg (by omega),if_neg (by omega),if_neg (by omega),if_pos (by omega)]at h;omega)|(rw[if_neg (by omega),if_neg (by omega),if_neg (by omega),if_neg (by omega)]at h;omega))
theorem Pl.next {now i due:Nat} (h:Pl now i due) (hd:now < due):pQ (now + 1) 1 i due:=by
 unfold Pl at h
 unfold pQ
 (repeat' split)<;>(first|(rw[if_pos (by omega)]at h;omega)|(rw[if_neg (by omega),if_pos (by omega)]at h;omega)|(rw[if_neg (by omega),if_neg (by omega),if_pos (by omega)]at h;omega)|(rw[if_neg (by omega),if_neg (by omega),if_neg (by omega),if_pos (by omega)]at h;omega)|(rw[if_neg (by omega),if_neg (by omega),if_neg (by omega),if_neg (by omega)]at h;omega))
structure RI (P:Nat→Nat→Prop) (rows:List (List Tm)) (D:List Tm):Prop where
 len:rows.length=65
 perm:rows.flatten.Perm D
 pl:∀ i,i < 65→∀ t ∈ rows.getD i [],P i t.due
theorem Ba (rows:List (List Tm)) {i:Nat} (hi:i < rows.length) (l:List Tm) (j:Nat):(rows.set i l).getD j []=if j=i then l else rows.getD j []:=by
 simp only[List.getD,List.getElem?_set]
 by_cases e:i=j
 ·subst e;rw[if_pos rfl,if_pos hi,if_pos rfl];rfl
 ·rw[if_neg e,if_neg fun q=>e q.symm]
theorem MS:∀ (rows:List (List Tm)) (i:Nat),i < rows.length→∀ l,(rows.set i l).flatten.Perm (l++(rows.set i []).flatten)
 | r::rows,0,_,l=>by simp
 | r::rows,i + 1,h,l=>by
  simp only[List.set_cons_succ,List.flatten_cons]
  refine ((MS rows i (by simpa using h) l).append_left r).trans ?_
  rw[← List.append_assoc,← List.append_assoc]
  exact List.perm_append_comm.append_right _
theorem Hl {rows:List (List Tm)} {i:Nat} (h:i < rows.length):rows.getD i []=rows[i]:=by simp[List.getD,h]
theorem Xwv (rows:List (List Tm)) (i:Nat) (h:i < rows.length):rows.set i (rows.getD i [])=rows:=by
 rw[Hl h,List.set_getElem_self]
theorem yk (rows:List (List Tm)) (i:Nat) (h:i < rows.length):rows.flatten.Perm (rows.getD i []++(rows.set i []).flatten):=by
 have:=MS rows i h (rows.getD i [])
 rwa [Xwv rows i h]at this
def Xe (now:Nat) (rows:List (List Tm)) (t:Tm):List (List Tm):=rows.set (Yv now t.due) (rows.getD (Yv now t.due) []++[t])
theorem Xx7 (now:Nat) (rows:List (List Tm)) (t:Tm):(Xe now rows t).length=rows.length:=by simp[Xe]
theorem RI.lay {P:Nat→Nat→Prop} {rows:List (List Tm)} {D:List Tm} (h:RI P rows D) {now:Nat} {t:Tm} (ht:P (Yv now t.due) t.due):RI P (Xe now rows t) (t::D):=by
 have hl:=h.len
 have hs:=vR now t.due
 refine ⟨by rw[Xx7,hl],?_,fun i hi x hx=>?_⟩
 ·unfold Xe
  refine (MS rows _ af _).trans ?_
  refine (List.Perm.trans ?_ (List.Perm.cons t ((yk rows (Yv now t.due) af).symm.trans h.perm)))
  rw[List.append_assoc]
  exact List.perm_middle
 ·unfold Xe at hx
  rw[Ba _ af]at hx
  split at hx
  ·rename_i e
   rcases List.mem_append.1 hx with hx|hx
   ·exact h.pl i hi x (by rw[e];exact hx)
   ·obtain rfl:=List.mem_singleton.1 hx
    rw[e];exact ht
  ·exact h.pl i hi x hx
theorem RI.jG {P:Nat→Nat→Prop} {now:Nat}:∀ (l:List Tm) {rows:List (List Tm)} {D:List Tm},RI P rows D→(∀ t ∈ l,P (Yv now t.due) t.due)→RI P (l.foldl (Xe now) rows) (l.reverse++D)
 | [],_,_,h,_=>h
 | t::l,rows,D,h,hl=>by
  have:=RI.jG l (h.lay (hl t au)) fun x hx=>hl x (by simp[hx])
  simpa using this
theorem RI.iB {P:Nat→Nat→Prop} {rows:List (List Tm)} {D D':List Tm} (h:RI P rows D) (hp:D.Perm D'):RI P rows D':=⟨h.len,h.perm.trans hp,h.pl⟩
theorem RI.mono {P P':Nat→Nat→Prop} {rows:List (List Tm)} {D:List Tm} (h:RI P rows D) (hp:∀ i,i < 65→∀ t ∈ rows.getD i [],P i t.due→P' i t.due):RI P' rows D:=⟨h.len,h.perm,fun i hi t ht=>hp i hi t ht (h.pl i hi t ht)⟩
theorem MT {P:Nat→Nat→Prop} {rows:List (List Tm)} {D:List Tm} (h:RI P rows D) {i:Nat} (hi:i < 65) {t:Tm} (ht:t ∈ rows.getD i []):t ∈ D:=by
 have hl:=h.len
 exact h.perm.mem_iff.1 ((yk rows i af).mem_iff.2 (List.mem_append_left _ ht))
def cb (now:Nat) (rows:List (List Tm)) (i:Nat):List (List Tm):=(rows.getD i []).foldl (Xe now) (rows.set i [])
theorem RI.cb {P:Nat→Nat→Prop} {rows:List (List Tm)} {D:List Tm} (h:RI P rows D) {now i:Nat} (hi:i < 65) (hP:∀ t ∈ rows.getD i [],P (Yv now t.due) t.due):RI P (cb now rows i) D:=by
 have hl:=h.len
 have h0:RI P (rows.set i []) (rows.set i []).flatten:=⟨by simp[hl],List.Perm.refl _,fun j hj t ht=>by
  rw[Ba _ af]at ht
  split at ht
  ·cases ht
  ·exact h.pl j hj t ht⟩
 refine (RI.jG _ h0 hP).iB (List.Perm.trans ?_ ((yk rows i af).symm.trans h.perm))
 exact (List.reverse_perm _).append_right _
def nE (now L:Nat):Nat:=if L < 4 then L * 16 + now / 16 ^ L % 16 else 64
def Jl (now:Nat):Nat→Nat→List (List Tm)→List (List Tm)
 | 0,_,rows=>rows
 | f + 1,L,rows=>if now % 16 ^ L=0 then Jl now f (L + 1) (cb now rows (nE now L)) else rows
theorem RI.MU {rows:List (List Tm)} {D:List Tm} {now L:Nat} (h:RI (pQ now L) rows D) (hD:∀ t ∈ D,now≤t.due) (h0:0 < now) (h1:1≤L) (h4:L≤4) (hm:now % 16 ^ L=0):RI (pQ now (L + 1)) (Proofs.YtogckmommodmhaaGreatDoor.cb now rows (nE now L)) D:=by
 have hi:nE now L < 65:=by unfold nE;split<;>omega
 have hl:=h.len
 have key:∀ j,j < 65→∀ t ∈ (rows.set (nE now L) []).getD j [],pQ now (L + 1) j t.due:=fun j hj t ht=>by
  rw[Ba _ af]at ht
  split at ht
  ·cases ht
  ·rename_i bX
   have hp:=h.pl j hj t ht
   unfold nE at bX
   unfold pQ at hp ⊢
   obtain rfl|rfl|rfl|rfl:L=1∨L=2∨L=3∨L=4:=by omega
   all_goals simp only[Nat.reducePow,Nat.reduceLT,↓reduceIte,Nat.reduceMul,Nat.reduceAdd,Nat.reduceLeDiff]at hm bX hp ⊢
   all_goals (repeat' split)<;>(first|(rw[if_pos (by omega)]at hp;omega)|(rw[if_neg (by omega),if_pos (by omega)]at hp;omega)|(rw[if_neg (by omega),if_neg (by omega),if_pos (by omega)]at hp;omega)|(rw[if_neg (by omega),if_neg (by omega),if_neg (by omega),if_pos (by omega)]at hp;omega)|(rw[if_neg (by omega),if_neg (by omega),if_neg (by omega),if_neg (by omega)]at hp;omega))
 have hs:RI (pQ now (L + 1)) (rows.set (nE now L) []) (rows.set (nE now L) []).flatten:=⟨by simp[hl],List.Perm.refl _,key⟩
 have:=RI.jG (rows.getD (nE now L) []) hs (now:=now) fun t ht=>(MR (hD t (MT h hi ht))).g
 refine this.iB (List.Perm.trans ?_ ((yk rows (nE now L) af).symm.trans h.perm))
 exact (List.reverse_perm _).append_right _
theorem RI.done {rows:List (List Tm)} {D:List Tm} {now L:Nat} (h:RI (pQ now L) rows D) (h0:0 < now) (hL:1≤L) (hm:L≤4→now % 16 ^ L≠0):RI (Pl now) rows D:=by
 refine h.mono fun i hi t ht hp=>?_
 unfold pQ at hp
 unfold Pl
 obtain rfl|rfl|rfl|rfl|h5:L=1∨L=2∨L=3∨L=4∨5≤L:=by omega
 all_goals try simp only[Nat.reducePow,Nat.reduceLeDiff,ne_eq,forall_const]at hm
 all_goals (repeat' split)<;>(first|(rw[if_pos (by omega)]at hp;omega)|(rw[if_neg (by omega),if_pos (by omega)]at hp;omega)|(rw[if_neg (by omega),if_neg (by omega),if_pos (by omega)]at hp;omega)|(rw[if_neg (by omega),if_neg (by omega),if_neg (by omega),if_pos (by omega)]at hp;omega)|(rw[if_neg (by omega),if_neg (by omega),if_neg (by omega),if_neg (by omega)]at hp;omega))
theorem RI.step {rows:List (List Tm)} {D:List Tm} {now:Nat} (hD:∀ t ∈ D,now≤t.due) (h0:0 < now):∀ (f L:Nat) (rows:List (List Tm)),f + L=5→1≤L→RI (pQ now L) rows D→RI (Pl now) (Jl now f L rows) D
 | 0,L,rows,hf,hL,h=>h.done h0 hL af
 | f + 1,L,rows,hf,hL,h=>by
  unfold Jl
  split
  ·rename_i hm
   exact RI.step (rows:=rows) hD h0 f (L + 1) _ af af (h.MU hD h0 hL af hm)
  ·rename_i hm
   exact h.done h0 hL fun _=>hm
theorem RI.tick {rows:List (List Tm)} {D:List Tm} {now:Nat} (h:RI (Pl now) rows D) (hD:∀ t ∈ D,now < t.due):RI (Pl (now + 1)) (Jl (now + 1) 4 1 rows) D :=
 RI.step (rows:=rows) (fun t ht=>hD t ht) af 4 1 rows rfl af (h.mono fun i hi t ht hp=>hp.next (hD t (MT h hi ht)))
theorem RI.DY {D l:List Tm} {now:Nat} (hl:l.Perm D) (hD:∀ t ∈ D,now≤t.due):RI (Pl now) (l.foldl (Xe now) (List.replicate 65 [])) D:=by
 have h0:RI (Pl now) (List.replicate 65 []) []:=⟨by simp,by simp,fun i hi t ht=>by
  have:(List.replicate 65 ([]:List Tm)).getD i []=[]:=by rw[List.getD,List.getElem?_replicate,if_pos hi];rfl
  rw[this]at ht;cases ht⟩
 have:=RI.jG l h0 (now:=now) fun t ht=>MR (hD t (hl.mem_iff.1 ht))
 rw[List.append_nil]at this
 exact this.iB ((List.reverse_perm l).trans hl)
theorem RI.nF {rows:List (List Tm)} {D:List Tm} {now:Nat} (h:RI (Pl now) rows D):(rows.getD (now % 16) []).Perm (D.filter fun t=>t.due == now)∧RI (Pl now) (rows.set (now % 16) []) (D.filter fun t=>!(t.due == now)):=by
 have hl:=h.len
 have hi:now % 16 < 65:=by omega
 have e1:(rows.getD (now % 16) []).filter (fun t=>t.due == now)=rows.getD (now % 16) []:=List.filter_eq_self.2 fun t ht=>by
  have:=h.pl _ hi t ht
  unfold Pl at this
  rw[if_pos af]at this
  exact beq_iff_eq.2 af
 have off:∀ t ∈ (rows.set (now % 16) []).flatten,t.due≠now:=fun t ht e=>by
  obtain ⟨r,hr,ht⟩:=List.mem_flatten.1 ht
  obtain ⟨j,hj,rfl⟩:=List.mem_iff_getElem.1 hr
  rw[List.length_set]at hj
  have hg:t ∈ (rows.set (now % 16) []).getD j []:=by rw[Hl (by rw[List.length_set];exact hj)];exact ht
  rw[Ba _ af]at hg
  split at hg
  ·cases hg
  ·rename_i bX
   have:=h.pl j af t hg
   unfold Pl at this
   subst e
   (repeat' split at this)<;>omega
 have e2:(rows.set (now % 16) []).flatten.filter (fun t=>t.due == now)=[]:=List.filter_eq_nil_iff.2 fun t ht=>by simpa using off t ht
 have e3:(rows.set (now % 16) []).flatten.filter (fun t=>!(t.due == now))=(rows.set (now % 16) []).flatten:=List.filter_eq_self.2 fun t ht=>by simpa using off t ht
 have e4:(rows.getD (now % 16) []).filter (fun t=>!(t.due == now))=[]:=List.filter_eq_nil_iff.2 fun t ht=>by
  have:=(List.filter_eq_self.1 e1) t ht
  simpa using this
 have hp:=(yk rows (now % 16) af).symm.trans h.perm
 constructor
 ·have:=hp.filter fun t=>t.due == now
  rwa [List.filter_append,e1,e2,List.append_nil]at this
 ·refine ⟨by simp[hl],?_,fun j hj t ht=>?_⟩
  ·have:=hp.filter fun t=>!(t.due == now)
   rwa [List.filter_append,e3,e4,List.nil_append]at this
  ·rw[Ba _ af]at ht
   split at ht
   ·cases ht
   ·exact h.pl j hj t ht
theorem RI.filter {P:Nat→Nat→Prop} {rows:List (List Tm)} {D:List Tm} (h:RI P rows D) (p:Tm→Bool):RI P (rows.map (List.filter p)) (D.filter p):=by
 refine ⟨by simp[h.len],?_,fun i hi t ht=>?_⟩
 ·rw[← List.filter_flatten];exact h.perm.filter p
 ·have hl:=h.len
  rw[Hl (by simp;omega),List.getElem_map]at ht
  have:=(List.mem_filter.1 ht).1
  rw[← Hl af]at this
  exact h.pl i hi t this
theorem RI.ef {P:Nat→Nat→Prop} {rows:List (List Tm)} {D:List Tm} (h:RI P rows D) {i:Nat} (hi:i < 65):(rows.getD i []).length≤D.length:=by
 have hl:=h.len
 have:=((yk rows i af).symm.trans h.perm).length_eq
 rw[List.length_append]at this
 omega
def nG (a b:Tm):Bool:=decide (a.due < b.due) || (a.due == b.due && decide (a.id≤b.id))
theorem Bb {a b:Tm}:nG a b=true ↔ a.due < b.due∨a.due=b.due∧a.id≤b.id:=by simp[nG]
theorem Xjc (a b c:Tm) (h1:nG a b=true) (h2:nG b c=true):nG a c=true:=by
 rw[Bb]at *;omega
theorem Xp5 (a b:Tm):(nG a b || nG b a)=true:=by
 rw[Bool.or_eq_true,Bb,Bb];omega
theorem Xt2 {a b:Tm} (h1:nG a b=true) (h2:nG b a=true):a=b:=by
 rw[Bb]at *
 cases a;cases b
 simp only[Tm.mk.injEq]at *
 omega
def qW (l:List Tm):List Tm:=l.mergeSort nG
theorem Wq (l:List Tm):(qW l).Perm l:=List.mergeSort_perm l nG
theorem DZ (l:List Tm):(qW l).Pairwise fun a b=>nG a b=true:=List.pairwise_mergeSort Xjc Xp5 l
theorem TI {l m:List Tm} (hp:m.Perm l) (hm:m.Pairwise fun a b=>nG a b=true):qW l=m :=
 List.Perm.eq_of_pairwise (fun _ _ _ _ h1 h2=>Xt2 h1 h2) (DZ l) hm ((Wq l).trans hp.symm)
theorem Xad {l m:List Tm} (hp:m.Perm l):qW m=qW l:=(TI ((Wq m).trans hp) (DZ m)).symm
def bf (D:List Tm) (n:Nat):List Int:=(qW (D.filter fun t=>decide (t.due < n))).map (·.id)
def uq (l:List Int):List Int:=l.mergeSort fun x y=>decide (x≤y)
theorem Xey {l m:List Int} (hp:m.Perm l) (hm:m.Pairwise (·≤·)):uq l=m:=by
 refine List.Perm.eq_of_pairwise (le:=fun a b:Int=>a≤b) (fun _ _ _ _ h1 h2=>by omega) ?_ hm ((List.mergeSort_perm l _).trans hp.symm)
 have:=List.pairwise_mergeSort (le:=fun x y:Int=>decide (x≤y)) (fun a b c h1 h2=>by simp at *;omega) (fun a b=>by simp;omega) l
 exact this.imp fun h=>by simpa using h
theorem Qpg {l:List Tm} {n:Nat} (hn:∀ t ∈ l,t.due=n) (h:l.Pairwise fun a b=>nG a b=true):(l.map (·.id)).Pairwise (·≤·):=by
 rw[List.pairwise_map]
 refine h.imp_of_mem fun {a b} ha hb D4=>?_
 have:=hn a ha;have:=hn b hb
 rw[Bb]at D4;omega
theorem Xki (D:List Tm) (n:Nat) (l:List Tm) (hl:l.Perm (D.filter fun t=>t.due == n)):bf D (n + 1)=bf D n++uq (l.map (·.id)):=by
 have h1:qW (D.filter fun t=>decide (t.due < n + 1))=qW (D.filter fun t=>decide (t.due < n))++qW (D.filter fun t=>t.due == n):=by
  refine TI ?_ ?_
  ·refine ((Wq _).append (Wq _)).trans ?_
   have:=List.filter_append_perm (fun t:Tm=>decide (t.due < n)) (D.filter fun t=>decide (t.due < n + 1))
   rw[List.filter_filter,List.filter_filter]at this
   refine List.Perm.trans (List.Perm.of_eq ?_) this
   congr 1
   ·exact List.filter_congr fun t _=>by by_cases h:t.due < n<;>simp[h]<;>omega
   ·refine List.filter_congr fun t _=>?_
    by_cases h:t.due=n
    ·simp[h]
    ·have:(t.due == n)=false:=by simpa using h
     rw[this]
     by_cases h2:t.due < n
     ·simp[h2]
     ·have h3:¬ t.due < n + 1:=by omega
      simp[h3]
  ·refine List.pairwise_append.2 ⟨DZ _,DZ _,fun a ha b hb=>?_⟩
   have ha:=(List.mem_filter.1 ((Wq _).mem_iff.1 ha)).2
   have hb:=(List.mem_filter.1 ((Wq _).mem_iff.1 hb)).2
   rw[Bb]
   simp at ha hb;omega
 have h2:uq (l.map (·.id))=(qW (D.filter fun t=>t.due == n)).map (·.id) :=
  Xey (((Wq _).trans hl.symm).map _) (Qpg (n:=n) (fun t ht=>by
   have:=(List.mem_filter.1 ((Wq _).mem_iff.1 ht)).2
   simpa using this) (DZ _))
 unfold bf
 rw[h1,List.map_append,h2]
theorem Xk7 (D:List Tm) {n m:Nat} (eM:n≤m) (h:∀ t ∈ D,n≤t.due→m≤t.due):bf D m=bf D n:=by
 unfold bf
 rw[List.filter_congr fun t ht=>(by have:=h t ht;by_cases h1:t.due < n<;>by_cases h2:t.due < m<;>simp[h1,h2]<;>omega:decide (t.due < m)=decide (t.due < n))]
theorem Xls (D:List Tm) (n:Nat) (h:∀ t ∈ D,n≤t.due):bf D n=[]:=by
 unfold bf
 rw[List.filter_eq_nil_iff.2 fun t ht=>(by have:=h t ht;simp;omega)]
 simp[qW]
theorem Ybz:FT Tryz.prog 70 Tryz.f70 (aO Tryz.prog Tryz.f70) [.t 2,.t 3]:=.of Tryz.func70
theorem MV:FT Tryz.prog 131 Tryz.f131 (aO Tryz.prog Tryz.f131) [.t 6]:=.of Tryz.func131
theorem MW:FT Tryz.prog 98 Tryz.f98 (aO Tryz.prog Tryz.f98) [.t 4,.t 5]:=.of Tryz.func98
theorem Yay:FT Tryz.prog 63 Tryz.f63 (aO Tryz.prog Tryz.f63) [.t 2]:=.of Tryz.func63
theorem Hm:FT Tryz.prog 164 Tryz.f164 (aO Tryz.prog Tryz.f164) [.t 4]:=.of Tryz.func164
theorem TJ:FT Tryz.prog 165 Tryz.f165 (aO Tryz.prog Tryz.f165) []:=.of Tryz.func165
theorem TK:FT Tryz.prog 137 Tryz.f137 (aO Tryz.prog Tryz.f137) [.t 4]:=.of Tryz.func137
theorem MX:FT Tryz.prog 138 Tryz.f138 (aO Tryz.prog Tryz.f138) []:=.of Tryz.func138
theorem Bc:FT Tryz.prog 139 Tryz.f139 (aO Tryz.prog Tryz.f139) []:=.of Tryz.func139
theorem Xze:FT Tryz.prog 176 Tryz.f176 (aO Tryz.prog Tryz.f176) [.t 3]:=.of Tryz.func176
theorem TL:FT Tryz.prog 177 Tryz.f177 (aO Tryz.prog Tryz.f177) [.t 4]:=.of Tryz.func177
theorem TM:FT Tryz.prog 181 Tryz.f181 (aO Tryz.prog Tryz.f181) [.t 4]:=.of Tryz.func181
theorem Ydp (Q:AV × AV→Prop) (a:AV × AV) (l:List (AV × AV)):(∀ x,x ∈ a::l→Q x)=(Q a∧∀ x,x ∈ l→Q x):=propext List.forall_mem_cons
theorem Ycz (Q:AV × AV→Prop):(∀ x,x ∈ ([]:List (AV × AV))→Q x)=True:=by simp
theorem Xk2 (s:FS):ga s []=.aX []:=rfl
theorem Qzn (ρ:Nat→Nat) (kvs:List (AV × AV)) (dn:Bool):Xg ρ (.aE kvs dn)=.aE (kvs.map fun p=>(aD ρ p.1,aD ρ p.2)) dn:=rfl
attribute [go_sem] Ydp Ycz Xk2 Qzn
theorem ke:dG Tryz.prog 147 false [.int .i64] (.int .i64 0):=dG.mk' (by kernel_rfl)
def TN (n:Int):List AV:=[.int .i64 n,.nils,.nils,.nils,.nils,.nils,.nils,.nils,.nils,.nils,.nils,.nils,.nils,.nils,.nils,.nils,.nils,.nils,.nils,.nils,.nils,.nils,.nils,.nils,.nils,.nils,.nils,.nils,.nils,.nils,.nils,.nils,.nils,.nils,.nils,.nils,.nils,.nils,.nils,.nils,.nils,.nils,.nils,.nils,.nils,.nils,.nils,.nils,.nils,.nils,.nils,.nils,.nils,.nils,.nils,.nils,.nils,.nils,.nils,.nils,.nils,.nils,.nils,.nils,.nils,.nils,.mp 1]
theorem Yak (gl:Nat→AV) (n:Int) (h0:0≤n) (h1:n≤1099511627776):GS Tryz.prog gl 70 [.int .i64 n] [] 0 (.aX [.ptr 0 0,.int .i64 0]) [(0,.cells (TN n)),(1,.aE [] true)] 2:=by
 refine Ybz.gs (of_decide_eq_true rfl) (by simp[Bk.live]) fun c aY hg=>?_
 conv in aO _ _=>cbv
 refine Qf ?_
 (refine Qa (fun h2=>?_) (fun h2=>?_)<;>try exact h2.elim)
 ·omega
 refine Qf ?_
 (refine RV ke ?_;(refine XG ?_;((try (repeat' with_reducible refine And.intro ?_ ?_));(try any_goals (first|refine zm ?_|exact CL|fail)))))
 refine ⟨[(0,1),(1,0)],?_⟩
 exact Qr @TN.eq_1
def a6:List Tm→List AV
 | []=>[]
 | t::l=>.int .i64 t.id::.int .i64 t.due::a6 l
theorem Zp:∀ l,(a6 l).length=l.length * 2
 | []=>rfl
 | t::l=>by simp[a6,Zp l];omega
theorem ur:∀ l m,a6 (l++m)=a6 l++a6 m
 | [],m=>rfl
 | t::l,m=>by simp[a6,ur l m]
theorem pR (n:Nat):∀ l,ai n (a6 l)=True
 | []=>by simp[a6,ai]
 | t::l=>by simp[a6,ai,Qe,pR n l]
theorem uu (ρ:Nat→Nat):∀ l,ay ρ (a6 l)=a6 l
 | []=>by simp[a6,ay]
 | t::l=>by simp[a6,ay,aD,uu ρ l]
theorem TO (S:Nat→Prop):∀ l,cU S (a6 l)=True
 | []=>by simp[a6,cU]
 | t::l=>by simp[a6,cU,cQ,TO S l]
theorem vS:∀ (l:List Tm) (i:Nat) (h:i < l.length),((a6 l).drop (i * 2)).take 2=[.int .i64 l[i].id,.int .i64 l[i].due]
 | t::l,0,_=>rfl
 | t::l,i + 1,h=>by
  have:=vS l i (by simpa using h)
  rw[show (i + 1) * 2=i * 2 + 1 + 1 by omega]
  simpa [a6] using this
attribute [go_sem] pR uu
def oJ (l:List Tm):List (List AV):=l.map fun t=>[.int .i64 t.id,.int .i64 t.due]
theorem MY:∀ l,(oJ l).flatten=a6 l
 | []=>rfl
 | t::l=>by
  have:=MY l
  simp only[oJ]at this
  simp[oJ,a6,this]
theorem Ydb (l:List Tm):∀ x ∈ oJ l,ai 0 x:=fun x hx=>by
 obtain ⟨t,_,rfl⟩:=List.mem_map.1 hx
 simp[ai,Qe]
theorem Qxe {α β:Type} (f:α→β):∀ {l' l:List β},l'.Perm l→∀ l0:List α,l=l0.map f→∃ l1:List α,l1.Perm l0∧l'=l1.map f:=fun {l' l} h=>by
 induction h with
 | nil=>intro l0 e;exact ⟨[],by cases l0<;>simp_all,rfl⟩
 | cons x h ih =>
  intro l0 e
  cases l0 with
  | nil=>simp at e
  | cons a l0 =>
   simp only[List.map_cons,List.cons.injEq]at e
   obtain ⟨l1,h1,h2⟩:=ih l0 e.2
   exact ⟨a::l1,h1.cons a,by rw[h2,e.1];rfl⟩
 | swap x y l =>
  intro l0 e
  match l0,e with
  | a::b::l0,e =>
   simp only[List.map_cons,List.cons.injEq]at e
   exact ⟨b::a::l0,List.Perm.swap a b l0,by simp[e.1,e.2.1,e.2.2]⟩
 | trans h1 h2 MZ M0 =>
  intro l0 e
  obtain ⟨l1,h3,h4⟩:=M0 l0 e
  obtain ⟨l2,h5,h6⟩:=MZ l1 h4
  exact ⟨l2,h5.trans h3,h6⟩
theorem Yam {g:Nat→GM} {W:Nat→Prop} {w:World} {m:GM} {l:List Tm} (h:BR g W w m (.c7 (oJ l))):∃ l':List Tm,l'.Perm l∧BR g W w m (.cells (a6 l')):=by
 cases h with
 | c7 hp h =>
  obtain ⟨l',h1,h2⟩:=Qxe _ hp l rfl
  rw[h2]at h
  exact ⟨l',h1,by rw[← MY];exact h⟩
theorem TP {g:Nat→GM} {W:Nat→Prop} {w:World} {m:GM} {l l':List Tm} (h:BR g W w m (.cells (a6 l'))) (hp:l'.Perm l):BR g W w m (.c7 (oJ l)):=by
 rw[← MY]at h
 exact .c7 (hp.map _) h
def lM:List (List Tm)→Nat→List AV
 | [],_=>[]
 | r::l,k=>.sl 2 (2 + k) 0 r.length r.length::lM l (k + 1)
def Kd:List (List Tm)→Nat→List (Nat × Bk)
 | [],_=>[]
 | r::l,k=>(2 + k,.cells (a6 r))::Kd l (k + 1)
structure WT where
 now:Nat
 rows:List (List Tm)
 mb:Bk
def WT.row (T:WT) (i:Nat):List Tm:=T.rows.getD i []
def WT.cells (T:WT):List AV:=.int .i64 T.now::(lM T.rows 0++[.mp 1])
def WT.h (T:WT):List (Nat × Bk):=(0,.cells T.cells)::(1,T.mb)::Kd T.rows 0
def uv:List (List Tm)→Nat→List (Nat × Bk)
 | [],_=>[]
 | r::l,k=>(2 + k,.c7 (oJ r))::uv l (k + 1)
def WT.hb (T:WT):List (Nat × Bk):=(0,.cells T.cells)::(1,T.mb)::uv T.rows 0
structure WT.iC (T' T:WT):Prop where
 now:T'.now=T.now
 mb:T'.mb=T.mb
 len:T'.rows.length=T.rows.length
 row:∀ i,(T'.row i).Perm (T.row i)
theorem WT.qX (T:WT):T.iC T:=⟨rfl,rfl,rfl,fun _=>List.Perm.refl _⟩
theorem TQ:∀ (l l':List (List Tm)) (k:Nat),l.length=l'.length→(∀ i,(l.getD i []).Perm (l'.getD i []))→lM l k=lM l' k
 | [],[],_,_,_=>rfl
 | r::l,r'::l',k,hl,h=>by
  have h0:=(h 0).length_eq
  simp only[List.getD_cons_zero]at h0
  simp only[lM,h0]
  rw[TQ l l' (k + 1) (by simpa using hl) fun i=>by have:=h (i + 1);simpa only[List.getD_cons_succ] using this]
theorem WT.dk {T T':WT} (h:T'.iC T):T'.cells=T.cells:=by
 unfold WT.cells
 rw[h.now,TQ _ _ 0 h.len h.row]
def WT.put (T:WT) (i:Nat) (l:List Tm):WT:={ T with rows:=T.rows.set i l }
structure WT.wf (T:WT):Prop where
 len:T.rows.length=65
 mb:bG 2 T.mb
theorem WT.dc {T:WT} (h:T.wf) (i:Nat) (l:List Tm):(T.put i l).wf:=⟨by simp[WT.put,h.len],h.mb⟩
theorem WT.gw {T:WT} (h:T.wf) {i:Nat} (hi:i < 65) (l:List Tm) (j:Nat):(T.put i l).row j=if j=i then l else T.row j:=by
 have hl:=h.len
 unfold WT.row WT.put
 simp only[List.getD,List.getElem?_set]
 by_cases e:i=j
 ·subst e;rw[if_pos rfl,if_pos af,if_pos rfl];rfl
 ·rw[if_neg e,if_neg (fun q=>e q.symm)]
theorem Bd:∀ (l:List (List Tm)) (k:Nat),(lM l k).length=l.length
 | [],_=>rfl
 | r::l,k=>by simp[lM,Bd l (k + 1)]
theorem TR:∀ (l:List (List Tm)) (k i:Nat),i < l.length→(lM l k)[i]?=some (.sl 2 (2 + (k + i)) 0 (l.getD i []).length (l.getD i []).length)
 | r::l,k,0,_=>by simp[lM]
 | r::l,k,i + 1,h=>by
  have:=TR l (k + 1) i (by simpa using h)
  rw[show k + (i + 1)=k + 1 + i by omega]
  simpa [lM] using this
theorem TU:∀ (l:List (List Tm)) (k i:Nat) (r:List Tm),i < l.length→(lM l k).set i (.sl 2 (2 + (k + i)) 0 r.length r.length)=lM (l.set i r) k
 | q::l,k,0,r,_=>by simp[lM]
 | q::l,k,i + 1,r,h=>by
  have:=TU l (k + 1) i r (by simpa using h)
  rw[show k + (i + 1)=k + 1 + i by omega]
  simpa [lM] using this
theorem WT.len {T:WT} (h:T.wf):T.cells.length=67:=by simp[WT.cells,Bd,h.len]
theorem WT.ig (T:WT):T.cells.getD 0 .any=.int .i64 T.now:=rfl
theorem WT.eB {T:WT} (h:T.wf):T.cells.getD 66 .any=.mp 1:=by
 have hl:=h.len
 unfold WT.cells
 rw[List.getD_cons_succ,List.getD_eq_getElem?_getD,List.getElem?_append_right (by rw[Bd];omega),Bd,hl];rfl
theorem WT.fI {T:WT} (h:T.wf) {i:Nat} (hi:i < 65):T.cells.getD (i + 1) .any=.sl 2 (2 + i) 0 (T.row i).length (T.row i).length:=by
 have hl:=h.len
 unfold WT.cells WT.row
 rw[List.getD_cons_succ,List.getD_eq_getElem?_getD,List.getElem?_append_left (by rw[Bd];omega),TR _ _ _ af,Nat.zero_add];rfl
theorem WT.M1 {T:WT} (h:T.wf) {i:Nat} (hi:i < 65) (l:List Tm):T.cells.set (i + 1) (.sl 2 (2 + i) 0 l.length l.length)=(T.put i l).cells:=by
 have hl:=h.len
 unfold WT.cells WT.put
 rw[List.set_cons_succ,List.set_append_left _ _ (by rw[Bd];omega)]
 have:=TU T.rows 0 i l af
 rw[Nat.zero_add]at this
 rw[this]
theorem WT.M3 (T:WT) (n:Nat):T.cells.set 0 (.int .i64 n)={ T with now:=n }.cells:=rfl
theorem TW:∀ (l:List (List Tm)) (k n:Nat),2 + k + l.length≤n→ai n (lM l k)
 | [],_,_,_=>by simp[lM,ai]
 | r::l,k,n,h=>by
  simp only[lM,ai,Qe]
  simp only[List.length_cons]at h
  exact ⟨by omega,TW l (k + 1) n af⟩
theorem WT.nm {T:WT} (h:T.wf) {n:Nat} (hn:67≤n):ai n T.cells:=by
 have hl:=h.len
 rw[Xj]
 intro x hx
 unfold WT.cells at hx
 rcases List.mem_cons.1 hx with rfl|hx
 ·simp[Qe]
 ·rcases List.mem_append.1 hx with hx|hx
  ·exact Xj.1 (TW T.rows 0 n af) x hx
  ·simp only[List.mem_singleton]at hx;subst hx;simp only[Qe];omega
theorem yl:∀ (l:List (List Tm)) (k n b:Nat),Qc (Kd l k) n b=if 2 + k≤b∧b < 2 + k + l.length then .cells (a6 (l.getD (b - (2 + k)) [])) else if b < n then .dead else .free
 | [],k,n,b=>by
  rw[if_neg (by simp only[List.length_nil];omega)];rfl
 | r::l,k,n,b=>by
  unfold Kd
  rw[Qd,yl l (k + 1) n b]
  by_cases h1:2 + k=b
  ·subst h1
   rw[if_pos rfl,if_pos au];simp
  ·rw[if_neg h1]
   by_cases h2:2 + (k + 1)≤b∧b < 2 + (k + 1) + l.length
   ·rw[if_pos h2,if_pos (by simp;omega),show b - (2 + k)=(b - (2 + (k + 1))) + 1 by omega,List.getD_cons_succ]
   ·rw[if_neg h2,if_neg (show ¬ (2 + k≤b∧b < 2 + k + (r::l).length) by simp only[List.length_cons];omega)]
theorem WT.ij {T:WT} (h:T.wf) {i:Nat} (hi:i < 65) (n:Nat):Qc (Kd T.rows 0) n (2 + i)=.cells (a6 (T.row i)):=by
 have hl:=h.len
 rw[yl,if_pos af,show 2 + i - (2 + 0)=i by omega];rfl
theorem WT.gV {T:WT} (h:T.wf) (n:Nat) {b:Nat} (hb:67≤b):Qc (Kd T.rows 0) n b=if b < n then .dead else .free:=by
 have hl:=h.len
 rw[yl,if_neg af]
theorem nH {m n:Nat} (xk:m≤n) {x:Bk} (h:bG m x):bG n x:=by
 have up:∀ v,Qe m v→Qe n v:=fun v=>AV.rec (motive_1:=fun v=>Qe m v→Qe n v) (motive_2:=fun l=>ai m l→ai n l) (by simp[Qe]) (fun b v h=>by simpa [Qe] using h) (fun _ _=>by simp[Qe]) (fun _=>by simp[Qe]) (fun _=>by simp[Qe])
  (fun cs h=>by simpa [Qe] using h) (fun cs h=>by simpa [Qe] using h) (fun _ _=>by simp only[Qe];omega) (fun cs _ h=>by simpa [Qe] using h) (fun _ _ _ _ _=>by simp only[Qe];omega) (fun _ cs h=>by simpa [Qe] using h) (by simp[Qe])
  (fun _ cs h=>by simpa [Qe] using h) (fun _=>by simp only[Qe];omega) (fun _=>by simp[Qe]) (by simp[ai]) (fun x xs h1 h2=>by simp only[ai];exact fun ⟨a,b⟩=>⟨h1 a,h2 b⟩) v
 cases x with
 | free=>exact h
 | dead=>exact h
 | cells cs=>exact Xj.2 fun x hx=>up x (Xj.1 h x hx)
 | aE kvs dn=>exact fun p hp=>⟨up _ (h p hp).1,up _ (h p hp).2⟩
 | bl kvs bs ck=>exact fun p hp=>⟨up _ (h p hp).1,up _ (h p hp).2⟩
 | iter b ck seen=>exact Nat.lt_of_lt_of_le h xk
 | c7 ls=>exact h
theorem uw {ρ:Nat→Nat} {n:Nat} (h:∀ b,b < n→ρ b=b):∀ v,Qe n v→aD ρ v=v:=fun v=>AV.rec (motive_1:=fun v=>Qe n v→aD ρ v=v) (motive_2:=fun l=>ai n l→ay ρ l=l) (by simp[aD]) (fun b v h1 h2=>by simp only[Qe]at h2;simp only[aD,h1 h2]) (fun _ _=>by simp[aD]) (fun _=>by simp[aD]) (fun _=>by simp[aD])
  (fun cs h1 h2=>by simp only[Qe]at h2;simp only[aD,h1 h2]) (fun cs h1 h2=>by simp only[Qe]at h2;simp only[aD,h1 h2]) (fun b _ h2=>by simp only[Qe]at h2;simp only[aD,h b h2]) (fun cs _ h1 h2=>by simp only[Qe]at h2;simp only[aD,h1 h2]) (fun _ b _ _ _ h2=>by simp only[Qe]at h2;simp only[aD,h b h2]) (fun _ cs h1 h2=>by simp only[Qe]at h2;simp only[aD,h1 h2]) (by simp[aD])
  (fun _ cs h1 h2=>by simp only[Qe]at h2;simp only[aD,h1 h2]) (fun b h2=>by simp only[Qe]at h2;simp only[aD,h b h2]) (fun _=>by simp[aD]) (by simp[ay]) (fun x xs h1 h2=>by simp only[ai,ay];exact fun ⟨a,b⟩=>by rw[h1 a,h2 b]) v
theorem Be {ρ:Nat→Nat} {n:Nat} (h:∀ b,b < n→ρ b=b) {x:Bk} (hx:bG n x):Xg ρ x=x:=by
 cases x with
 | free=>rfl
 | dead=>rfl
 | cells cs =>
  simp only[Xg,Yf]
  congr 1
  exact (List.map_congr_left fun v hv=>uw h v (Xj.1 hx v hv)).trans (List.map_id cs)
 | aE kvs dn =>
  simp only[Xg]
  congr 1
  exact (List.map_congr_left fun q hq=>by rw[uw h _ (hx q hq).1,uw h _ (hx q hq).2];rfl).trans (List.map_id kvs)
 | bl kvs bs ck =>
  simp only[Xg]
  congr 1
  exact (List.map_congr_left fun q hq=>by rw[uw h _ (hx q hq).1,uw h _ (hx q hq).2];rfl).trans (List.map_id kvs)
 | iter b ck seen=>simp only[Xg];rw[h b hx]
 | c7 ls=>rfl
theorem ym:∀ (l:List (List Tm)) (k:Nat) (q:Nat × Bk),q ∈ Kd l k→2 + k≤q.1∧q.1 < 2 + k + l.length∧q.2=.cells (a6 (l.getD (q.1 - (2 + k)) []))
 | r::l,k,q,h=>by
  unfold Kd at h
  rcases List.mem_cons.1 h with rfl|h
  ·simp
  ·obtain ⟨h1,h2,h3⟩:=ym l (k + 1) q h
   refine ⟨by omega,by simp;omega,?_⟩
   rw[h3,show q.1 - (2 + k)=(q.1 - (2 + (k + 1))) + 1 by omega,List.getD_cons_succ]
theorem TX:∀ (l:List (List Tm)) (k b:Nat),2 + k≤b→b < 2 + k + l.length→∃ q ∈ Kd l k,q.1=b
 | [],k,b,h1,h2=>by simp at h2;omega
 | r::l,k,b,h1,h2=>by
  by_cases e:b=2 + k
  ·exact ⟨(2 + k,.cells (a6 r)),by simp[Kd],e.symm⟩
  ·obtain ⟨q,h3,h4⟩:=TX l (k + 1) b af (by simp at h2;omega)
   exact ⟨q,by simp[Kd,h3],h4⟩
theorem WT.look {T:WT} (h:T.wf) (n:Nat) {q:Nat × Bk} (hq:q ∈ T.h):Qc T.h n q.1=q.2:=by
 have hl:=h.len
 unfold WT.h at hq ⊢
 rcases List.mem_cons.1 hq with rfl|hq
 ·rw[Qd,if_pos rfl]
 rcases List.mem_cons.1 hq with rfl|hq
 ·rw[Qd,if_neg au,Qd,if_pos rfl]
 obtain ⟨h1,h2,h3⟩:=ym _ _ _ hq
 rw[Qd,if_neg af,Qd,if_neg af,yl,if_pos ⟨h1,h2⟩,h3]
theorem WT.HL {T:WT} (h:T.wf):Proofs.YtogckmommodmhaaGreatDoor.HL T.h 67:=by
 have hl:=h.len
 refine ⟨fun q hq=>?_,fun b hb=>?_,fun q hq=>WT.look h 67 hq⟩
 ·unfold WT.h at hq
  rcases List.mem_cons.1 hq with rfl|hq
  ·exact ⟨by show 0 < 67;decide,WT.nm h af⟩
  rcases List.mem_cons.1 hq with rfl|hq
  ·exact ⟨by show 1 < 67;decide,nH af h.mb⟩
  obtain ⟨h1,h2,h3⟩:=ym _ _ _ hq
  refine ⟨by omega,?_⟩
  rw[h3];simp[bG,pR]
 ·unfold WT.h
  by_cases h0:b=0
  ·exact ⟨(0,.cells T.cells),by simp,h0.symm⟩
  by_cases h1:b=1
  ·exact ⟨(1,T.mb),by simp,h1.symm⟩
  obtain ⟨q,h2,h3⟩:=TX T.rows 0 b af af
  exact ⟨q,by simp[h2],h3⟩
theorem WT.key {T:WT} (h:T.wf) {q:Nat × Bk} (hq:q ∈ T.h):q.1 < 67:=((WT.HL h).mem q hq).1
theorem To.wh {p:List Nat} {n':Nat} {s:St} {t':List (Nat × AV)} {ex:List (Nat × Bk)} {T':WT} (hT:T'.wf) (ρ:Nat→Nat) (hp:∀ b,b ∈ p→ρ b=b∧b < n') (hn:67≤n') (bT:∀ b b',b < n'→b' < n'→ρ b=ρ b'→b=b')
  (h0:Qc s.h s.n (ρ 0)=.cells (ay ρ T'.cells)) (h1:Qc s.h s.n (ρ 1)=Xg ρ T'.mb) (hr:∀ i,i < 65→Qc s.h s.n (ρ (2 + i))=.cells (a6 (T'.row i)))
  (ht:Qu ρ n' s.t t') (hx:oh ρ n' s ex) (hk:∀ q ∈ ex,67≤q.1):To p s ⟨t',ex++T'.h,n'⟩:=by
 have hl:=hT.len
 refine To.C4 (ρ:=ρ) hp ⟨ht,?_⟩
 have fact:∀ q ∈ T'.h,q.1 < n'∧bG n' q.2∧Qc s.h s.n (ρ q.1)=Xg ρ q.2:=fun q hq=>by
  have hq0:=hq
  obtain ⟨m1,m2⟩:=(WT.HL hT).mem q hq
  refine ⟨by omega,nH hn m2,?_⟩
  unfold WT.h at hq
  rcases List.mem_cons.1 hq with rfl|hq
  ·rw[h0];rfl
  rcases List.mem_cons.1 hq with rfl|hq
  ·exact h1
  obtain ⟨g1,g2,g3⟩:=ym _ _ _ hq
  have:=hr (q.1 - 2) af
  rw[show 2 + (q.1 - 2)=q.1 by omega]at this
  rw[this,g3]
  simp only[Xg,uu]
  rfl
 have not:∀ (b:Nat) (l:List (Nat × Bk)),b < n'→(∀ q ∈ l,q.1 < n'∧q.1≠b)→tC ρ b l:=fun b l hb=>by
  induction l with
  | nil=>intro _;trivial
  | cons q l ih =>
   intro hl
   obtain ⟨i,x⟩:=q
   obtain ⟨h1,h2⟩:=hl (i,x) au
   exact ⟨fun e=>h2 (bT _ _ h1 hb e),ih fun q hq=>hl q (by simp[hq])⟩
 have yn:∀ (l:List (List Tm)) (k:Nat),(∀ q ∈ Kd l k,q.1 < n'∧bG n' q.2∧Qc s.h s.n (ρ q.1)=Xg ρ q.2)→oh ρ n' s (Kd l k):=fun l=>by
  induction l with
  | nil=>intro k _;trivial
  | cons r l ih =>
   intro k hq
   obtain ⟨a1,a2,a3⟩:=hq (2 + k,.cells (a6 r)) (by simp[Kd])
   refine ⟨⟨a1,a2,a3,not _ _ a1 fun q cF=>?_⟩,ih (k + 1) fun q cF=>hq q (by simp[Kd,cF])⟩
   obtain ⟨b1,b2,_⟩:=ym _ _ _ cF
   exact ⟨(hq q (by simp[Kd,cF])).1,by omega⟩
 have base:oh ρ n' s T'.h:=by
  unfold WT.h
  obtain ⟨a1,a2,a3⟩:=fact (0,.cells T'.cells) (by simp[WT.h])
  obtain ⟨b1,b2,b3⟩:=fact (1,T'.mb) (by simp[WT.h])
  refine ⟨⟨a1,a2,a3,not _ _ a1 fun q hq=>?_⟩,⟨b1,b2,b3,not _ _ b1 fun q hq=>?_⟩,yn _ _ fun q hq=>fact q (by simp[WT.h,hq])⟩
  ·have:=(fact q (by simp only[WT.h];exact List.mem_cons_of_mem _ hq)).1
   rcases List.mem_cons.1 hq with rfl|hq
   ·exact ⟨this,by simp⟩
   ·obtain ⟨c1,c2,_⟩:=ym _ _ _ hq
    exact ⟨this,by omega⟩
  ·obtain ⟨c1,c2,_⟩:=ym _ _ _ hq
   exact ⟨by omega,by omega⟩
 have app:∀ l:List (Nat × Bk),(∀ q ∈ l,67≤q.1)→oh ρ n' s l→oh ρ n' s (l++T'.h):=fun l=>by
  induction l with
  | nil=>intro _ _;exact base
  | cons q l ih =>
   intro hk hs
   obtain ⟨i,x⟩:=q
   obtain ⟨⟨a1,a2,a3,a4⟩,a5⟩:=hs
   refine ⟨⟨a1,a2,a3,?_⟩,ih (fun q hq=>hk q (by simp[hq])) a5⟩
   have bI:=hk (i,x) au
   have M4:∀ (l1 l2:List (Nat × Bk)),tC ρ i l1→tC ρ i l2→tC ρ i (l1++l2):=fun l1 l2=>by
    induction l1 with
    | nil=>intro _ h;exact h
    | cons q l1 ih=>obtain ⟨j,y⟩:=q;intro h1 h2;exact ⟨h1.1,ih h1.2 h2⟩
   exact M4 _ _ a4 (not _ _ a1 fun q hq=>⟨(fact q hq).1,by have:=WT.key hT hq;dsimp only at bI;omega⟩)
 exact app ex hk hx
theorem M5:∀ (l:List (List Tm)) (k n b:Nat),Qc (uv l k) n b=if 2 + k≤b∧b < 2 + k + l.length then .c7 (oJ (l.getD (b - (2 + k)) [])) else if b < n then .dead else .free
 | [],k,n,b=>by
  rw[if_neg (by simp only[List.length_nil];omega)];rfl
 | r::l,k,n,b=>by
  unfold uv
  rw[Qd,M5 l (k + 1) n b]
  by_cases h1:2 + k=b
  ·subst h1
   rw[if_pos rfl,if_pos au];simp
  ·rw[if_neg h1]
   by_cases h2:2 + (k + 1)≤b∧b < 2 + (k + 1) + l.length
   ·rw[if_pos h2,if_pos (by simp;omega),show b - (2 + k)=(b - (2 + (k + 1))) + 1 by omega,List.getD_cons_succ]
   ·rw[if_neg h2,if_neg (show ¬ (2 + k≤b∧b < 2 + k + (r::l).length) by simp only[List.length_cons];omega)]
theorem M6:∀ (l:List (List Tm)) (k:Nat) (q:Nat × Bk),q ∈ uv l k→2 + k≤q.1∧q.1 < 2 + k + l.length∧q.2=.c7 (oJ (l.getD (q.1 - (2 + k)) []))
 | r::l,k,q,h=>by
  unfold uv at h
  rcases List.mem_cons.1 h with rfl|h
  ·simp
  ·obtain ⟨h1,h2,h3⟩:=M6 l (k + 1) q h
   refine ⟨by omega,by simp;omega,?_⟩
   rw[h3,show q.1 - (2 + k)=(q.1 - (2 + (k + 1))) + 1 by omega,List.getD_cons_succ]
theorem TZ:∀ (l:List (List Tm)) (k b:Nat),2 + k≤b→b < 2 + k + l.length→∃ q ∈ uv l k,q.1=b
 | [],k,b,h1,h2=>by simp at h2;omega
 | r::l,k,b,h1,h2=>by
  by_cases e:b=2 + k
  ·exact ⟨(2 + k,.c7 (oJ r)),by simp[uv],e.symm⟩
  ·obtain ⟨q,h3,h4⟩:=TZ l (k + 1) b af (by simp at h2;omega)
   exact ⟨q,by simp[uv,h3],h4⟩
theorem WT.gM {T:WT} (h:T.wf):Proofs.YtogckmommodmhaaGreatDoor.HL T.hb 67:=by
 have hl:=h.len
 refine ⟨fun q hq=>?_,fun b hb=>?_,fun q hq=>?_⟩
 ·unfold WT.hb at hq
  rcases List.mem_cons.1 hq with rfl|hq
  ·exact ⟨by show 0 < 67;decide,WT.nm h af⟩
  rcases List.mem_cons.1 hq with rfl|hq
  ·exact ⟨by show 1 < 67;decide,nH af h.mb⟩
  obtain ⟨h1,h2,h3⟩:=M6 _ _ _ hq
  refine ⟨by omega,?_⟩
  rw[h3];exact Ydb _
 ·unfold WT.hb
  by_cases h0:b=0
  ·exact ⟨(0,.cells T.cells),by simp,h0.symm⟩
  by_cases h1:b=1
  ·exact ⟨(1,T.mb),by simp,h1.symm⟩
  obtain ⟨q,h2,h3⟩:=TZ T.rows 0 b af af
  exact ⟨q,by simp[h2],h3⟩
 ·unfold WT.hb at hq ⊢
  rcases List.mem_cons.1 hq with rfl|hq
  ·rw[Qd,if_pos rfl]
  rcases List.mem_cons.1 hq with rfl|hq
  ·rw[Qd,if_neg au,Qd,if_pos rfl]
  obtain ⟨h1,h2,h3⟩:=M6 _ _ _ hq
  rw[Qd,if_neg af,Qd,if_neg af,M5,if_pos ⟨h1,h2⟩,h3]
theorem WT.bA (T:WT) (n b:Nat):Qc T.h n b=if 0=b then .cells T.cells else if 1=b then T.mb else if 2≤b∧b < 2 + T.rows.length then .cells (a6 (T.row (b - 2))) else if b < n then .dead else .free:=by
 unfold WT.h WT.row
 rw[Qd,Qd,yl]
theorem WT.dL (T:WT) (n b:Nat):Qc T.hb n b=if 0=b then .cells T.cells else if 1=b then T.mb else if 2≤b∧b < 2 + T.rows.length then .c7 (oJ (T.row (b - 2))) else if b < n then .dead else .free:=by
 unfold WT.hb WT.row
 rw[Qd,Qd,M5]
theorem T4 {Q:Nat→List Tm→Prop}:∀ (rows:List (List Tm)) (k:Nat),(∀ j,j < rows.length→∃ l':List Tm,l'.Perm (rows.getD j [])∧Q (k + j) l')→∃ iW:List (List Tm),iW.length=rows.length∧(∀ j,(iW.getD j []).Perm (rows.getD j []))∧∀ j,j < rows.length→Q (k + j) (iW.getD j [])
 | [],k,_=>⟨[],rfl,fun _=>List.Perm.refl _,fun j hj=>by simp at hj⟩
 | r::rows,k,h=>by
  obtain ⟨l',h1,h2⟩:=h 0 au
  obtain ⟨iW,g1,g2,g3⟩:=T4 (Q:=Q) rows (k + 1) fun j hj=>by
   have:=h (j + 1) (by simpa using hj)
   rw[show k + 1 + j=k + (j + 1) by omega]
   simpa only[List.getD_cons_succ] using this
  refine ⟨l'::iW,by simp[g1],fun j=>?_,fun j hj=>?_⟩
  ·cases j with
   | zero=>simpa using h1
   | succ j=>simpa only[List.getD_cons_succ] using g2 j
  ·cases j with
   | zero=>simpa using h2
   | succ j =>
    have:=g3 j (by simpa using hj)
    rw[show k + 1 + j=k + (j + 1) by omega]at this
    simpa only[List.getD_cons_succ] using this
theorem WT.cx {c:Cx} {g:Nat→GM} {a:Act} {w:World} {T:WT} (hR:R c g (cW T.hb 67) a w):∃ T':WT,T'.iC T∧R c g (cW T'.h 67) a w:=by
 have hk:∀ j,j < T.rows.length→∃ l':List Tm,l'.Perm (T.rows.getD j [])∧(fun i (l':List Tm)=>BR g (Qo c g (cW T.hb 67)) w (g (2 + i)) (.cells (a6 l'))) (0 + j) l':=fun j hj=>by
  have hb:=hR.h (2 + j)
  have e:(cW T.hb 67).H (2 + j)=.c7 (oJ (T.rows.getD j [])):=by
   show Qc T.hb 67 (2 + j)=_
   rw[WT.dL,if_neg af,if_neg af,if_pos af,show 2 + j - 2=j by omega];rfl
  rw[e]at hb
  rw[Nat.zero_add]
  exact Yam hb
 obtain ⟨iW,h1,h2,h3⟩:=T4 (Q:=fun i (l':List Tm)=>BR g (Qo c g (cW T.hb 67)) w (g (2 + i)) (.cells (a6 l'))) T.rows 0 hk
 have hs:WT.iC { T with rows:=iW } T:=⟨rfl,rfl,h1,h2⟩
 refine ⟨_,hs,hR.gj (fun _ _ h=>h) (fun b hb=>?_) fun b=>?_⟩
 ·show BR _ _ _ _ (Qc (WT.h _) 67 b)
  have e:(cW T.hb 67).H b=Qc T.hb 67 b:=rfl
  rw[e,WT.dL]at hb
  rw[WT.bA,WT.dk hs,h1]
  by_cases c0:0=b
  ·rw[if_pos c0]at hb ⊢;exact hb
  rw[if_neg c0]at hb ⊢
  by_cases c1:1=b
  ·rw[if_pos c1]at hb ⊢;exact hb
  rw[if_neg c1]at hb ⊢
  by_cases c2:2≤b∧b < 2 + T.rows.length
  ·rw[if_pos c2]
   have:=h3 (b - 2) af
   rw[Nat.zero_add,show 2 + (b - 2)=b by omega]at this
   exact this
  ·rw[if_neg c2]at hb ⊢;exact hb
 ·show (Qc _ 67 b).live ↔ (Qc T.hb 67 b).live
  rw[WT.bA,WT.dL,WT.dk hs,h1]
  (repeat' split)<;>first|exact Iff.rfl|exact ⟨fun _=>trivial,fun _=>trivial⟩
theorem WT.cls {c:Cx} {g:Nat→GM} {a:Act} {w:World} {T T':WT} (hs:T'.iC T) (hR:R c g (cW T'.h 67) a w):R c g (cW T.hb 67) a w:=by
 refine hR.gj (fun _ _ h=>h) (fun b hb=>?_) fun b=>?_
 ·show BR _ _ _ _ (Qc T.hb 67 b)
  have e:(cW T'.h 67).H b=Qc T'.h 67 b:=rfl
  rw[e,WT.bA,WT.dk hs,hs.mb,hs.len]at hb
  rw[WT.dL]
  by_cases h0:0=b
  ·rw[if_pos h0]at hb ⊢;exact hb
  rw[if_neg h0]at hb ⊢
  by_cases h1:1=b
  ·rw[if_pos h1]at hb ⊢;exact hb
  rw[if_neg h1]at hb ⊢
  by_cases h2:2≤b∧b < 2 + T.rows.length
  ·rw[if_pos h2]at hb ⊢;exact TP hb (hs.row _)
  ·rw[if_neg h2]at hb ⊢;exact hb
 ·show (Qc T.hb 67 b).live ↔ (Qc T'.h 67 b).live
  rw[WT.bA,WT.dL,WT.dk hs,hs.len,hs.mb]
  (repeat' split)<;>first|exact Iff.rfl|exact ⟨fun _=>trivial,fun _=>trivial⟩
theorem Bf {P:Program} {gl:Nat→AV} {f:FuncId} {args:List AV} {p:List Nat} {r:AV} {T T2:WT} (h:∀ T':WT,T'.iC T→GQ P gl f args T'.h 67 p (fun D5:WT=>D5.iC T2) (fun _=>r) WT.h):GD P gl f args T.hb 67 p r T2.hb:=by
 refine ⟨(h T T.qX).1,fun w vs G X g hR hv=>?_⟩
 obtain ⟨T',hs,bb⟩:=WT.cx hR
 have hW:Qo ⟨0,w,G,X,gl,[]⟩ g (cW T'.h 67)=Qo ⟨0,w,G,X,gl,[]⟩ g (cW T.hb 67):=by
  funext k
  have hl:∀ b,((cW T'.h 67).H b).live ↔ ((cW T.hb 67).H b).live:=fun b=>by
   show (Qc T'.h 67 b).live ↔ (Qc T.hb 67 b).live
   rw[WT.bA,WT.dL,WT.dk hs,hs.len,hs.mb]
   (repeat' split)<;>first|exact Iff.rfl|exact ⟨fun _=>trivial,fun _=>trivial⟩
  simp only[Qo,hl]
 refine ((h T' hs).2 w vs G X g bb (by rw[hW];exact hv)).mono fun e w' ⟨D5,v,g',q1,q2,q3,q4,q5⟩=>?_
 refine ⟨(),v,g',trivial,q2,WT.cls q1 q3,q4,?_⟩
 have lj:Qo ⟨0,w,G,X,gl,[]⟩ g' (cW D5.h 67)=Qo ⟨0,w,G,X,gl,[]⟩ g' (cW T2.hb 67):=by
  funext k
  have hl:∀ b,((cW D5.h 67).H b).live ↔ ((cW T2.hb 67).H b).live:=fun b=>by
   show (Qc D5.h 67 b).live ↔ (Qc T2.hb 67 b).live
   rw[WT.bA,WT.dL,WT.dk q1,q1.len,q1.mb]
   (repeat' split)<;>first|exact Iff.rfl|exact ⟨fun _=>trivial,fun _=>trivial⟩
  simp only[Qo,hl]
 rw[← lj];exact q5
theorem WT.fJ {T:WT} (h:T.wf) (j:Nat) (hj:j < 67):j=0∨j=66∨∃ i,i < 65∧j=i + 1:=by
 by_cases h0:j=0
 ·exact .inl h0
 by_cases h1:j=66
 ·exact .inr (.inl h1)
 ·exact .inr (.inr ⟨j - 1,by omega,by omega⟩)
theorem Hn {l l':List AV} (hl:l.length=l'.length) (h:∀ j,j < l.length→l.getD j .any=l'.getD j .any):l=l':=by
 refine List.ext_getElem hl fun j h1 h2=>?_
 have:=h j h1
 simpa [List.getD,h1,h2] using this
def Kr (i N b:Nat):Nat:=if b=2 + i then N else b
theorem Xsg {T:WT} (hT:T.wf) {i:Nat} (hi:i < 65) (l:List Tm) (N:Nat):ay (Kr i N) (T.put i l).cells=T.cells.set (i + 1) (.sl 2 N 0 l.length l.length):=by
 have hw:=WT.dc hT i l
 have T5:=WT.len hT
 have hl2:=WT.len hw
 refine Hn (by rw[Ys,List.length_set,T5,hl2]) fun j hj=>?_
 rw[Ys,hl2]at hj
 rw[Kq]
 have bu:∀ v,(T.cells.set (i + 1) v).getD j .any=if j=i + 1 then v else T.cells.getD j .any:=fun v=>by
  simp only[List.getD,List.getElem?_set]
  by_cases e:i + 1=j
  ·subst e;rw[if_pos rfl,if_pos af,if_pos rfl];rfl
  ·rw[if_neg e,if_neg fun q=>e q.symm]
 rw[bu]
 rcases WT.fJ hT j hj with rfl|rfl|⟨i',mr,rfl⟩
 ·rw[if_neg af];simp only[WT.ig,aD];rfl
 ·rw[if_neg af,WT.eB hw,WT.eB hT];simp only[aD,Kr];rw[if_neg af]
 ·rw[WT.fI hw mr,WT.fI hT mr,WT.gw hT hi]
  by_cases e:i'=i
  ·subst e;simp[aD,Kr]
  ·rw[if_neg e,if_neg af]
   simp only[aD,Kr];rw[if_neg af]
theorem To.put {p:List Nat} {n':Nat} {s:St} {t':List (Nat × AV)} {ex:List (Nat × Bk)} {T:WT} (hT:T.wf) {i N:Nat} (hi:i < 65) {l:List Tm} (hN:67≤N) (hn:67≤n') (hp:∀ b,b ∈ p→b < n'∧b≠2 + i) (hNn:n'≤N)
  (h0:Qc s.h s.n 0=.cells (T.cells.set (i + 1) (.sl 2 N 0 l.length l.length))) (h1:Qc s.h s.n 1=T.mb) (hl:Qc s.h s.n N=.cells (a6 l)) (hr:∀ j,j < 65→j≠i→Qc s.h s.n (2 + j)=.cells (a6 (T.row j)))
  (ht:Qu (Kr i N) n' s.t t') (hx:oh (Kr i N) n' s ex) (hk:∀ q ∈ ex,67≤q.1):To p s ⟨t',ex++(T.put i l).h,n'⟩:=by
 have hw:=WT.dc hT i l
 refine To.wh hw (Kr i N) (fun b hb=>⟨by unfold Kr;rw[if_neg (hp b hb).2],(hp b hb).1⟩) hn (fun b b' hb bJ e=>?_) ?_ ?_ (fun j hj=>?_) ht hx hk
 ·unfold Kr at e
  (repeat' split at e)<;>omega
 ·rw[Xsg hT hi,show Kr i N 0=0 by unfold Kr;rw[if_neg af]];exact h0
 ·rw[show Kr i N 1=1 by unfold Kr;rw[if_neg af],h1]
  show T.mb=Xg _ T.mb
  exact (Be (fun b hb=>by unfold Kr;rw[if_neg af]) hT.mb).symm
 ·rw[WT.gw hT hi]
  unfold Kr
  by_cases e:j=i
  ·subst e;rw[if_pos rfl,if_pos rfl];exact hl
  ·rw[if_neg af,if_neg e];exact hr j hj e
theorem To.dz {p:List Nat} {t t':List (Nat × AV)} {ex:List (Nat × Bk)} {T:WT} {n:Nat} (hT:T.wf) (hp:∀ b,b ∈ p→b < 67) (hex:∀ q ∈ ex,67≤q.1) (ht:Qu id 67 t t'):To p ⟨t,ex++T.h,n⟩ ⟨t',T.h,67⟩:=by
 have hl:=hT.len
 have hs:∀ b,b < 67→Qc (ex++T.h) n b=Qc T.h n b:=fun b hb=>Xm fun q hq e=>by have:=hex q hq;omega
 refine To.wh (ex:=[]) hT id (fun b hb=>⟨rfl,hp b hb⟩) af (fun b b' _ _ e=>e) ?_ ?_ (fun i hi=>?_) ht trivial (fun q hq=>by cases hq)
 ·show Qc (ex++T.h) n 0=_
  rw[hs 0 af,WT.bA,if_pos rfl,Jp]
 ·show Qc (ex++T.h) n 1=_
  rw[hs 1 af,WT.bA,if_neg af,if_pos rfl,Ws]
 ·show Qc (ex++T.h) n (2 + i)=_
  rw[hs _ af,WT.bA,if_neg af,if_neg af,if_pos af,show 2 + i - 2=i by omega]
theorem Yf1 {ρ:List (Nat × Nat)} (h:ρ.all (fun q=>decide (67≤q.1) && decide (67≤q.2))=true):∀ b,(b < 67→rl ρ b=b)∧(67≤b→67≤rl ρ b):=by
 induction ρ with
 | nil=>exact fun b=>⟨fun _=>rfl,fun h=>h⟩
 | cons q ρ ih =>
  obtain ⟨i,j⟩:=q
  simp only[List.all_cons,Bool.and_eq_true,decide_eq_true_eq]at h
  intro b
  have:=ih h.2 b
  show (b < 67→(bif i == b then j else rl ρ b)=b)∧(67≤b→67≤(bif i == b then j else rl ρ b))
  cases e:i == b with
  | true =>
   have:i=b:=by simpa using e
   exact ⟨fun h2=>by omega,fun _=>h.1.2⟩
  | false=>exact this
theorem To.M7 {p:List Nat} {n':Nat} {s:St} {t':List (Nat × AV)} {ex:List (Nat × Bk)} {T:WT} (ρ:List (Nat × Nat)) (hT:T.wf) (hp:∀ b,b ∈ p→b < 67) (hn:67≤n') (hρ:ρ.all (fun q=>decide (67≤q.1) && decide (67≤q.2))=true)
  (hd:Ah ((List.range (n' - 67)).map fun i=>rl ρ (67 + i))=true) (hs:∀ b,b < 67→Qc s.h s.n b=Qc T.h 67 b) (ht:Qu (rl ρ) n' s.t t') (hx:oh (rl ρ) n' s ex) (hk:∀ q ∈ ex,67≤q.1):To p s ⟨t',ex++T.h,n'⟩:=by
 have hl:=hT.len
 have fq:=Yf1 hρ
 refine To.wh hT (rl ρ) (fun b hb=>⟨(fq b).1 (hp b hb),by have:=hp b hb;omega⟩) hn (fun b b' hb bJ e=>?_) ?_ ?_ (fun i hi=>?_) ht hx hk
 ·by_cases h1:b < 67<;>by_cases h2:b' < 67
  ·rw[(fq b).1 h1,(fq b').1 h2]at e;exact e
  ·rw[(fq b).1 h1]at e;have:=(fq b').2 af;omega
  ·rw[(fq b').1 h2]at e;have:=(fq b).2 af;omega
  ·have:=KE hd (b - 67) (b' - 67) (by simp;omega) (by simp;omega) (by
    simp only[List.getD,List.getElem?_map,List.getElem?_range (show b - 67 < n' - 67 by omega),List.getElem?_range (show b' - 67 < n' - 67 by omega),Option.map_some,Option.getD_some]
    rw[show 67 + (b - 67)=b by omega,show 67 + (b' - 67)=b' by omega];exact e)
   omega
 ·rw[(fq 0).1 af,hs 0 af,WT.bA,if_pos rfl]
  congr 1
  refine (((Hn (by rw[Ys]) fun j hj=>?_):ay (rl ρ) T.cells=T.cells)).symm
  rw[Ys,WT.len hT]at hj
  rw[Kq]
  refine uw (fun b hb=>(fq b).1 hb) _ (Ja (WT.nm hT (Nat.le_refl 67)) j)
 ·rw[(fq 1).1 af,hs 1 af,WT.bA,if_neg af,if_pos rfl]
  exact (Be (fun b hb=>(fq b).1 af) hT.mb).symm
 ·rw[(fq (2 + i)).1 af,hs _ af,WT.bA,if_neg af,if_neg af,if_pos af,show 2 + i - 2=i by omega]
theorem Ycj (i N:Nat):Kr i N 0=0:=by unfold Kr;rw[if_neg (by omega)]
theorem Ydt (i N:Nat):Kr i N 1=1:=by unfold Kr;rw[if_neg (by omega)]
theorem To.off {p:List Nat} {s:St} {T:WT} {i k:Nat} {l:List Tm} {t':List (Nat × AV)} (hT:T.wf) (hi:i < 65) (hl:T.row i=l) (h0:Qc s.h s.n 0=.cells (T.cells.set (i + 1) .nils)) (hs:∀ b,b≠0→b < 67→Qc s.h s.n b=Qc T.h 67 b)
  (hf:s.fs.H s.n=.free) (hn:67≤s.n) (hk:look s.t k=.sl 2 (2 + i) 0 l.length l.length) (hp:∀ b,b ∈ p→b < 2) (ht:Qu (Kr i s.n) 67 ((k,.isl l.length (a6 l))::s.t) t'):To p s ⟨t',(T.put i []).h,67⟩:=by
 have ft:=hT.len
 have aV:=WT.len hT
 refine To.trans (To.kU (b:=0) (j:=i + 1) (es:=2) h0 (by rw[List.getElem?_set_self af]) hf) ?_
 rw[List.set_set]
 have cn:Qc s.h (s.n + 1) (2 + i)=.cells (a6 l):=by
  rw[Kz _ _ _ af,hs _ af af,WT.bA,if_neg af,if_neg af,if_pos af,show 2 + i - 2=i by omega,hl]
 refine To.trans (To.fC (b:=2 + i) (i:=k) (cs:=a6 l) (es:=2) (off:=0) (n:=l.length) (k:=l.length) ?_ hk) ?_
 ·show Qc ((0,_)::(s.n,_)::s.h) (s.n + 1) (2 + i)=_
  rw[Qd,if_neg af,Qd,if_neg af];exact cn
 have eW:((a6 l).drop 0).take (l.length * 2)=a6 l:=by rw[List.drop_zero,List.take_of_length_le (by rw[Zp];omega)]
 rw[eW]
 refine To.put (ex:=[]) hT hi (N:=s.n) hn af (fun b hb=>by have:=hp b hb;omega) hn ?_ ?_ ?_ (fun j hj bX=>?_) ht trivial (fun q hq=>by cases hq)
 ·show Qc ((2 + i,_)::(0,_)::(s.n,_)::s.h) (s.n + 1) 0=_
  rw[Qd,if_neg af,Qd,if_pos rfl];rfl
 ·show Qc ((2 + i,_)::(0,_)::(s.n,_)::s.h) (s.n + 1) 1=_
  rw[Qd,if_neg af,Qd,if_neg af,Qd,if_neg af,Kz _ _ _ af,hs 1 af af,WT.bA,if_neg af,if_pos rfl]
 ·show Qc ((2 + i,_)::(0,_)::(s.n,_)::s.h) (s.n + 1) s.n=_
  rw[Qd,if_neg af,Qd,if_neg af,Qd,if_pos rfl];rfl
 ·show Qc ((2 + i,_)::(0,_)::(s.n,_)::s.h) (s.n + 1) (2 + j)=_
  rw[Qd,if_neg af,Qd,if_neg af,Qd,if_neg af,Kz _ _ _ af,hs _ af af,WT.bA,if_neg af,if_neg af,if_pos af,show 2 + j - 2=j by omega]
def ik (b:Nat):Prop:=b < 2∨67≤b
theorem qY {P:Program} {c:Cx} {r0:List bF} {K:St→Prop} {s:St} {d:Option Nat} {f:FuncId} {xs:List TV} {args:List AV} {T:WT} {ι:Type} {Q:ι→Prop} {r:ι→AV} {W:ι→WT} {pc:List Nat} (hq:GQ P c.gl f args T.h 67 [0,1] Q r (fun x=>(W x).h)) (hT:T.wf) (hW:∀ x,Q x→(W x).wf)
  (aY:∀ q ∈ c.gh,q.1 ∈ pc) (hpc:∀ b ∈ pc,ik b) (t:List (Nat × AV)) (ex:List (Nat × Bk)) (n:Nat) (il:To pc s ⟨t,ex++T.h,n⟩) (hex:∀ q ∈ ex,67≤q.1∧nk ik q.2)
  (hc:Qv none (aG c.gl (⟨t,ex++T.h,n⟩:St).fs xs)∧(aG c.gl (⟨t,ex++T.h,n⟩:St).fs xs).map Qk=args∧ai 67 args∧xG ik t) (hr:∀ x,Q x→Qe 67 (r x)) (hk:∀ x,Q x→XP P c r0 K (St.bQ ⟨t,ex++(W x).h,n⟩ d (r x))):Yl P c (.pd d (.call f) xs none) r0 K s:=by
 have hS:ik=tS id [0,1] 67:=by
  funext b
  refine propext ⟨fun h b' bJ e=>?_,fun h=>?_⟩
  ·show b' ∈ [0,1]
   have e:b'=b:=e
   rcases h with h|h
   ·have:b'=0∨b'=1:=by omega
    simpa using this
   ·omega
  ·by_cases hb:b < 67
   ·have:=h b hb rfl
    simp at this
    exact .inl af
   ·exact .inr af
 refine Yf5 (σ:=id) hq aY t ex ⟨by rw[Kj];exact il,fun b b' _ _ e=>e,WT.HL hT,fun b hb=>?_,fun q hq=>⟨fun b hb e=>?_,?_⟩,?_,by rw[Kj];exact hc.1,?_,hc.2.2.1⟩ (fun x hx=>WT.HL (hW x hx)) hr fun x hx=>?_
 ·rw[← hS];exact hpc b hb
 ·have:=(hex q hq).1
  have e:b=q.1:=e
  omega
 ·rw[← hS];exact (hex q hq).2
 ·rw[← hS];exact hc.2.2.2
 ·show some (f,_)=some (f,_)
  rw[Kj,Jp,hc.2.1]
 ·rw[Kj,qk id (fun _=>rfl)];exact hk x hx
theorem Xq3 (S:Nat→Prop):xG S []=True:=rfl
theorem Xh2 (S:Nat→Prop) (i:Nat) (v:AV) (l:List (Nat × AV)):xG S ((i,v)::l)=(cQ S v∧xG S l):=rfl
theorem Xjq (S:Nat→Prop) (k:IntKind) (n:Int):cQ S (.int k n)=True:=by simp only[cQ]
theorem Xhy (S:Nat→Prop) (b:Bool):cQ S (.bool b)=True:=by simp only[cQ]
theorem Xnq (S:Nat→Prop) (b:List UInt8):cQ S (.str b)=True:=by simp only[cQ]
theorem Xdw (S:Nat→Prop):cQ S .nils=True:=by simp only[cQ]
theorem Xra (S:Nat→Prop) (b o:Nat):cQ S (.ptr b o)=S b:=by simp only[cQ]
theorem Xvg (S:Nat→Prop) (b:Nat):cQ S (.mp b)=S b:=by simp only[cQ]
theorem Xsh (S:Nat→Prop) (es b o n c:Nat):cQ S (.sl es b o n c)=S b:=by simp only[cQ]
theorem Xo3 (S:Nat→Prop) (n:Nat) (l:List AV):cQ S (.isl n l)=cU S l:=by simp only[cQ]
theorem Xoo (S:Nat→Prop) (l:List AV):cQ S (.agg l)=cU S l:=by simp only[cQ]
theorem Xjp (S:Nat→Prop) (l:List AV):cQ S (.aX l)=cU S l:=by simp only[cQ]
theorem Xwm (S:Nat→Prop) (f:FuncId) (l:List AV):cQ S (.cl f l)=cU S l:=by simp only[cQ]
theorem Xms (S:Nat→Prop) (v:Value):cQ S (.lit v)=True:=by simp only[cQ]
theorem Xgm (S:Nat→Prop):cU S []=True:=by simp only[cU]
theorem Xa1 (S:Nat→Prop) (v:AV) (l:List AV):cU S (v::l)=(cQ S v∧cU S l):=by simp only[cU]
theorem Ycy:ik 0=True:=by simp[ik]
theorem Ydc:ik 1=True:=by simp[ik]
theorem Yez (b:Nat) (h:67≤b):ik b=True:=by simp[ik,h]
attribute [go_sem] Xq3 Xh2 Xjq Xhy Xnq Xdw Xra Xvg Xsh Xo3 Xoo Xjp Xwm Xms Xgm Xa1 Ycy Ydc Yez Ycj Ydt TO
theorem WT.aH {T:WT} (h:T.wf) (n b:Nat) (hb:67≤b):Qc T.h n b=if b < n then .dead else .free:=by
 have hl:=h.len
 rw[WT.bA,if_neg af,if_neg af,if_neg af]
theorem WT.oK {T:WT} (h:T.wf) (n b:Nat) (hb:67≤b):Qc T.hb n b=if b < n then .dead else .free:=by
 have hl:=h.len
 rw[WT.dL,if_neg af,if_neg af,if_neg af]
theorem T6 (gl:Nat→AV) (t:Tm) (x:Int):GS Tryz.prog gl 176 [.agg [.int .i64 t.id,.int .i64 t.due],.ptr 0 0] [(0,.cells [.int .i64 x])] 1 (.bool (t.id == x)) [(0,.cells [.int .i64 x])] 1:=by
 refine Xze.gs (of_decide_eq_true rfl) (by simp[Bk.live]) fun c hN hg=>?_
 conv in aO _ _=>cbv
 obtain ⟨id,due⟩:=t
 refine Qf ?_
 refine ⟨[],?_⟩
 exact Qs
def pS (x:Int):List Tm→Nat→Int
 | [],_=>-1
 | t::l,k=>if t.id=x then k else pS x l (k + 1)
theorem Yds (gl:Nat→AV) (l:List Tm) (hl:l.length≤1000000) (x:Int):GS Tryz.prog gl 181 [.sl 2 0 0 l.length l.length,.cl 176 [.ptr 1 0]]
  [(0,.cells (a6 l)),(1,.cells [.int .i64 x])] 2 (.int .i64 (pS x l 0)) [(0,.cells (a6 l)),(1,.cells [.int .i64 x])] 2:=by
 refine TM.gs (of_decide_eq_true rfl) (by simp[Bk.live]) fun c hN hg=>?_
 conv in aO _ _=>cbv
 have dD:=Zp l
 refine Qf ?_
 refine vd (fun k:Nat=>k≤l.length∧pS x (l.drop k) k=pS x l 0) (fun k=>⟨[(0,.sl 2 0 0 l.length l.length),(1,.cl 176 [.ptr 1 0]),(6,.sl 2 0 0 l.length l.length),(7,.int .i64 l.length),(8,.int .i64 k)],[(0,.cells (a6 l)),(1,.cells [.int .i64 x])],2⟩) (fun k=>l.length - k) TM.mixed 2 hN
  ⟨0,⟨by omega,rfl⟩,[],by exact Qs⟩ fun k hk=>?_
 obtain ⟨hk,cJ⟩:=hk
 refine Qf ?_
 (refine Qa (fun h1=>?_) (fun h1=>?_)<;>try exact h1.elim)
 ·have bB:k < l.length:=by omega
  have bg:=vS l k bB
  have gU:l.drop k=l[k]::l.drop (k + 1):=List.drop_eq_getElem_cons bB
  rw[gU]at cJ
  rw[pS]at cJ
  generalize l[k]=t at *
  have hc:=T6 c.gl t x
  refine Qh (An @dD @bg) ?_
  refine tO (ip [1]) hc (An @dD @bg) ?_
  (refine Qa (fun h2=>?_) (fun h2=>?_)<;>try exact h2.elim)
  ·rw[if_pos (by simpa using h2)]at cJ
   refine Qf ?_
   refine ⟨[],?_⟩
   exact Qr @cJ
  ·rw[if_neg (by simpa using h2)]at cJ
   refine Qf ?_
   refine ⟨k + 1,⟨by omega,cJ⟩,⟨[],?_⟩,by omega⟩
   exact Qs
 ·have:k=l.length:=by omega
  subst this
  rw[List.drop_length]at cJ
  have cJ:(-1:Int)=pS x l 0:=cJ
  refine Qf ?_
  refine ⟨[],?_⟩
  exact Qr @cJ
theorem Xty (l:List Tm) (k:Nat) (h:k≤l.length):(a6 l).drop (k * 2)=a6 (l.drop k):=by
 have e:a6 l=a6 (l.take k)++a6 (l.drop k):=by rw[← ur,List.take_append_drop]
 rw[e,List.drop_append_of_le_length (by rw[Zp,List.length_take];omega),List.drop_of_length_le (by rw[Zp,List.length_take];omega),List.nil_append]
theorem T7 (l:List Tm) (k:Nat) (h:k≤l.length):(a6 l).take (k * 2)=a6 (l.take k):=by
 have e:a6 l=a6 (l.take k)++a6 (l.drop k):=by rw[← ur,List.take_append_drop]
 rw[e,List.take_append_of_le_length (by rw[Zp,List.length_take];omega),List.take_of_length_le (by rw[Zp,List.length_take];omega)]
theorem Yb4 (l:List Tm) (k:Nat) (h:k < l.length) (t:Tm):(a6 l).take (k * 2)++[.int .i64 t.id,.int .i64 t.due]++(a6 l).drop (k * 2 + 2)=a6 (l.set k t):=by
 rw[show k * 2 + 2=(k + 1) * 2 by omega,T7 l k af,Xty l (k + 1) af,List.set_eq_take_append_cons_drop,if_pos h,ur]
 simp[a6]
theorem T8 {x:Int}:∀ (l:List Tm) (k:Nat),pS x l k=-1→∀ t ∈ l,t.id≠x
 | [],_,_,t,ht=>by cases ht
 | a::l,k,h,t,ht=>by
  unfold pS at h
  split at h
  ·omega
  ·rcases List.mem_cons.1 ht with rfl|ht
   ·assumption
   ·exact T8 l (k + 1) h t ht
theorem T9 {x:Int}:∀ (l:List Tm) (k:Nat),pS x l k≠-1→∃ i,i < l.length∧pS x l k=((k + i:Nat):Int)∧(∀ t ∈ l.take i,t.id≠x)∧∃ t,l[i]?=some t∧t.id=x
 | [],_,h=>absurd rfl h
 | a::l,k,h=>by
  unfold pS at h ⊢
  split at h
  ·rename_i e
   rw[if_pos e]
   exact ⟨0,by simp,by simp,by simp,a,rfl,e⟩
  ·rename_i e
   rw[if_neg e]
   obtain ⟨i,h1,h2,h3,t,h4,h5⟩:=T9 l (k + 1) h
   refine ⟨i + 1,by simpa using h1,by rw[h2];omega,fun y hy=>?_,t,by simpa using h4,h5⟩
   rw[List.take_succ_cons]at hy
   rcases List.mem_cons.1 hy with rfl|hy
   ·exact e
   ·exact h3 y hy
theorem Ybq:Am Tryz.prog 144 2:=KS (by kernel_rfl)
def Yd (x:Int) (l:List Tm):List Tm:=l.filter fun t=>!(t.id == x)
theorem UA (gl:Nat→AV) (l:List Tm) (hl:l.length≤1000000) (x:Int):GS Tryz.prog gl 177 [.sl 2 0 0 l.length l.length,.cl 176 [.ptr 1 0]]
  [(0,.cells (a6 l)),(1,.cells [.int .i64 x])] 2 (.sl 2 0 0 (Yd x l).length l.length) [(0,.cells (a6 (Yd x l))),(1,.cells [.int .i64 x])] 2:=by
 refine TL.gs (of_decide_eq_true rfl) (by simp[Bk.live]) fun c hN hg=>?_
 conv in aO _ _=>cbv
 have dD:=Zp l
 have hi:=Yds c.gl l hl x
 refine Qf ?_
 ((first|refine Xa (ins:=[0,1]) hi ?_ ?_|refine Qw (ins:=[0,1]) hi ?_ ?_|refine Qx (ins:=[0,1]) hi ?_ ?_|refine Qt (ins:=[0,1]) hi ?_ ?_)<;>(have aB:=@dD;refine XG ?_;clear aB;(try first|exact rfl|exact True.intro);((try (repeat' with_reducible refine And.intro ?_ ?_));(try any_goals (first|refine zm ?_|exact CL|fail)))))
 ·decide
 by_cases b9:pS x l 0=-1
 ·have dY:Yd x l=l:=List.filter_eq_self.2 fun t ht=>by simpa using T8 l 0 b9 t ht
  rw[dY]
  (refine Qa (fun h1=>?_) (fun h1=>?_)<;>try exact h1.elim)
  ·refine Qf ?_
   refine ⟨[],?_⟩
   exact Qs
  ·exact absurd b9 (by simpa using h1)
 ·obtain ⟨i0,q1,q2,q3,t0,q4,q5⟩:=T9 l 0 b9
  rw[Nat.zero_add]at q2
  rw[q2]
  (refine Qa (fun h1=>?_) (fun h1=>?_)<;>try exact h1.elim)
  ·omega
  refine Qf ?_
  refine vd (fun y:Nat × Nat × List Tm=>y.1 < y.2.1∧y.2.1≤l.length∧y.2.2.length=l.length∧y.2.2.take y.1=Yd x (l.take y.2.1)∧y.2.2.drop y.2.1=l.drop y.2.1)
   (fun y=>⟨[(0,.sl 2 0 0 l.length l.length),(1,.cl 176 [.ptr 1 0]),(5,.int .i64 y.1),(6,.int .i64 y.2.1)],[(0,.cells (a6 y.2.2)),(1,.cells [.int .i64 x])],2⟩) (fun y=>l.length - y.2.1) TL.mixed 2 hN
   ⟨(i0,i0 + 1,l),⟨by simp,by show i0 + 1≤l.length;omega,rfl,?_,rfl⟩,[],by exact Qs⟩ fun y hy=>?_
  ·have:l.take (i0 + 1)=l.take i0++[t0]:=by rw[List.take_succ,q4];rfl
   show l.take i0=Yd x (l.take (i0 + 1))
   rw[this]
   unfold Yd
   rw[List.filter_append,List.filter_eq_self.2 fun t ht=>by simpa using q3 t ht]
   simp[q5]
  obtain ⟨i,j,M⟩:=y
  obtain ⟨iJ,my,hM,bY,mT⟩:=hy
  dsimp only at iJ my hM bY mT ⊢
  have uz:=Zp M
  refine Qf ?_
  (refine Qa (fun h2=>?_) (fun h2=>?_)<;>try exact h2.elim)
  ·have mI:j < l.length:=by omega
   have D6:j < M.length:=by omega
   have bg:=vS M j D6
   have M8:M[j]=l[j]:=by
    have e1:(M.drop j)[0]?=M[j]?:=by simp
    have e2:(l.drop j)[0]?=l[j]?:=by simp
    rw[mT,e2]at e1
    simpa [mI,D6] using e1.symm
   have eW:Yd x (l.take (j + 1))=if M[j].id=x then Yd x (l.take j) else Yd x (l.take j)++[M[j]]:=by
    have:l.take (j + 1)=l.take j++[M[j]]:=by rw[List.take_succ,M8];simp[mI]
    rw[this]
    unfold Yd
    rw[List.filter_append]
    split<;>simp_all
   have gU:M.drop (j + 1)=l.drop (j + 1):=by
    have:=congrArg (List.drop 1) mT
    simpa [List.drop_drop,Nat.add_comm] using this
   have bu:Yu (a6 M) (i * 2) [.int .i64 M[j].id,.int .i64 M[j].due]=a6 (M.set i M[j]):=Yb4 M i af M[j]
   have gW:((M.set i M[j]).take (i + 1))=M.take i++[M[j]]:=by
    rw[List.take_succ,List.take_set_of_le (Nat.le_refl i)]
    simp[show i < M.length by omega]
   have yo:(M.set i M[j]).drop (j + 1)=M.drop (j + 1):=by rw[List.drop_set_of_lt af]
   have jD:(M.set i M[j]).length=l.length:=by simp[hM]
   have htS:=Zp (M.set i M[j])
   generalize M[j]=t at *
   have hc:=T6 c.gl t x
   refine Qh (An @uz @bg) ?_
   refine tO (ip [1]) hc (An @uz @bg) ?_
   (refine Qa (fun h3=>?_) (fun h3=>?_)<;>try exact h3.elim)
   ·rw[if_neg h3]at eW
    refine Qh (An @uz @bu) ?_
    refine ⟨(i + 1,j + 1,M.set i t),⟨by dsimp only;omega,by dsimp only;omega,jD,by rw[gW,bY,eW],by rw[yo,gU]⟩,⟨[],?_⟩,by dsimp only;omega⟩
    exact Qs
   ·rw[if_pos (by simpa using h3)]at eW
    refine Qh @uz ?_
    refine ⟨(i,j + 1,M),⟨by dsimp only;omega,by dsimp only;omega,hM,by rw[bY,eW],gU⟩,⟨[],?_⟩,by dsimp only;omega⟩
    exact Qs
  ·obtain rfl:j=l.length:=by omega
   rw[List.take_length]at bY
   have fq:(Yd x l).length=i:=by rw[← bY,List.length_take];omega
   have il:=T7 M i af
   rw[bY]at il
   refine Qf ?_
   (refine Gn Ybq ?_;(have aB:=@il;refine XG ?_;clear aB;((try (repeat' with_reducible refine And.intro ?_ ?_));(try any_goals (first|refine zm ?_|exact CL|fail)))))
   refine Qf ?_
   refine ⟨[],?_⟩
   exact Qr @fq
def WT.lay (T:WT) (t:Tm):WT:=T.put (Yv T.now t.due) (T.row (Yv T.now t.due)++[t])
theorem WT.eg {T:WT} (h:T.wf) (t:Tm):(T.lay t).wf:=WT.dc h _ _
theorem Uq {now due k:Nat} (h:Yv now due=A9 now due (4 - k) k) (hk:k < 4):Yv now due=if due / 16 ^ k < now / 16 ^ k + 16 then k * 16 + due / 16 ^ k % 16 else A9 now due (4 - (k + 1)) (k + 1):=by
 rw[h,show 4 - k=(4 - (k + 1)) + 1 by omega];rfl
theorem pT (a b:Nat):Int.tdiv (a:Int) (b:Int)=((a / b:Nat):Int):=by rw[Int.tdiv_eq_ediv_of_nonneg (by omega)];rfl
theorem oL (a b:Nat):Int.tmod (a:Int) (b:Int)=((a % b:Nat):Int):=by rw[Int.tmod_eq_emod_of_nonneg (by omega)];rfl
set_option maxRecDepth 20000 in
theorem yq (gl:Nat→AV) (T:WT) (hT:T.wf) (t:Tm) (hn:T.now≤1099511627776) (hd:t.due≤1099511627776) (hlen:(T.row (Yv T.now t.due)).length≤1000000) :
  GQ Tryz.prog gl 165 [.ptr 0 0,.agg [.int .i64 t.id,.int .i64 t.due]] T.h 67 [0,1] (fun _:Unit=>True) (fun _=>.aX []) (fun _=>(T.lay t).h):=by
 refine TJ.gq (of_decide_eq_true rfl) (fun q hq=>Xf (((WT.HL hT).mem q hq).2)) au fun c aY hg=>?_
 conv in aO _ _=>cbv
 have aH:=fun n b hb=>WT.gV hT n (b:=b) hb
 have h0:=WT.ig T
 have hl:=WT.len hT
 obtain ⟨id,due⟩:=t
 dsimp only at hd hlen ⊢
 have nI:T.h=(0,.cells T.cells)::(1,T.mb)::Kd T.rows 0:=rfl
 rw[nI]
 refine Qh @aH ?_
 refine Yi (fun k:Nat=>k≤4∧Yv T.now due=A9 T.now due (4 - k) k) (fun k=>⟨[(0,.ptr 0 0),(3,.ptr 67 0),(4,.int .i64 ((16 ^ k:Nat):Int)),(7,.int .i64 k)],(67,.cells [.int .i64 id,.int .i64 due])::T.h,68⟩) (fun k=>4 - k) TJ.mixed [0,1] aY
  ⟨0,⟨by omega,rfl⟩,To.c6 (by exact Qs) fun _=>rfl⟩ fun k hk=>?_
 obtain ⟨hk4,jD⟩:=hk
 obtain rfl|rfl|rfl|rfl|rfl:k=0∨k=1∨k=2∨k=3∨k=4:=by omega
 ·have mg:Int.tdiv (due:Int) 1=((due / 1:Nat):Int):=pT due 1
  have kv:Int.tdiv (T.now:Int) 1=((T.now / 1:Nat):Int):=pT T.now 1
  have hp:((16 ^ 0:Nat):Int)=1:=rfl
  have fb:((16 ^ 1:Nat):Int)=16:=rfl
  have hm:Int.tmod ((due / 1:Nat):Int) 16=((due / 1 % 16:Nat):Int):=oL _ 16
  rw[nI,hp]
  refine Qh (An @aH @h0) ?_
  (refine Qa (fun h1=>?_) (fun h1=>?_)<;>try exact h1.elim)
  refine Qh (An @aH (An @h0 (An @mg @kv))) ?_
  (refine Qa (fun h2=>?_) (fun h2=>?_)<;>try exact h2.elim)
  ·refine Qh (An @aH (An @h0 (An @mg @hm))) ?_
   have iA:Yv T.now due=due / 1 % 16:=by rw[Uq jD af,if_pos (by simp only[Nat.reducePow];omega)];simp only[Nat.zero_mul,Nat.zero_add,Nat.reducePow]
   have oM:due / 1 % 16 < 16:=Nat.mod_lt _ af
   rw[iA]at hlen
   have ei:T.lay ⟨id,due⟩=T.put (due / 1 % 16) (T.row (due / 1 % 16)++[⟨id,due⟩]):=by unfold WT.lay;rw[iA]
   rw[ei]
   generalize due / 1 % 16=sp at *
   have aW:=WT.fI hT (i:=sp) af
   have cn:=fun n=>WT.ij hT (i:=sp) af n
   rw[show sp + 1=1 + sp by omega]at aW
   have dD:=Zp (T.row (sp))
   have fO:((68:Nat) == 2 + sp)=false:=beq_eq_false_iff_ne.2 af
   have dE:((67:Nat) == 2 + sp)=false:=beq_eq_false_iff_ne.2 af
   have kM:((0:Nat) == 2 + sp)=false:=beq_eq_false_iff_ne.2 af
   have nJ:((1:Nat) == 2 + sp)=false:=beq_eq_false_iff_ne.2 af
   have nK:((2 + sp:Nat) == 0)=false:=beq_eq_false_iff_ne.2 af
   refine Zm (An @aH @aW) ?_
   ((first|apply z7|apply z8|apply Aa|apply Ab|apply Ad|apply Ae);(have aB:=@aH;have aQ:=@aW;have a8:=@fO;have bU:=@dE;have cI:=@kM;have dC:=@nJ;have fc:=@cn;have jk:=@dD;have sv:=@nK;refine XG ?_;clear aB aQ a8 bU cI dC fc jk sv;((try (repeat' with_reducible refine And.intro ?_ ?_));(try any_goals (first|refine zm ?_|exact CL|fail)))))
   ·simp[Uw,Ue,cM,fO,dE,kM,nJ,nK]
    (repeat' refine And.intro ?_ ?_)<;>first|decide|(left;omega)
   ·refine Qf ?_
    refine ⟨(),To.put (ex:=[]) hT (i:=sp) (N:=69) af af af (fun b hb=>?_) af ?_ ?_ ?_ (fun j hj bX=>?_) ?_ trivial (fun q hq=>by cases hq)⟩
    ·simp at hb;omega
    ·rw[Qd,if_pos rfl,show sp + 1=1 + sp by omega];simp
    ·(repeat rw[Qd,if_neg af]);rw[Qd,if_pos rfl]
    ·rw[Qd,if_neg af,Qd,if_pos rfl,ur];rfl
    ·(repeat rw[Qd,if_neg af]);exact WT.ij hT hj 70
    ·simp[Qu,Qe,ai,look,aD,ay]
  ·refine Zy (An @aH @h0) ?_
   refine ⟨1,⟨by omega,?_⟩,To.c6 (by exact Qr @fb) fun _=>rfl,by omega⟩
   rw[Uq jD af,if_neg (by simp only[Nat.reducePow];omega)]
 ·have mg:Int.tdiv (due:Int) 16=((due / 16:Nat):Int):=pT due 16
  have kv:Int.tdiv (T.now:Int) 16=((T.now / 16:Nat):Int):=pT T.now 16
  have hp:((16 ^ 1:Nat):Int)=16:=rfl
  have fb:((16 ^ 2:Nat):Int)=256:=rfl
  have hm:Int.tmod ((due / 16:Nat):Int) 16=((due / 16 % 16:Nat):Int):=oL _ 16
  rw[nI,hp]
  refine Qh (An @aH @h0) ?_
  (refine Qa (fun h1=>?_) (fun h1=>?_)<;>try exact h1.elim)
  refine Qh (An @aH (An @h0 (An @mg @kv))) ?_
  (refine Qa (fun h2=>?_) (fun h2=>?_)<;>try exact h2.elim)
  ·refine Qh (An @aH (An @h0 (An @mg @hm))) ?_
   have iA:Yv T.now due=16 + due / 16 % 16:=by rw[Uq jD af,if_pos (by simp only[Nat.reducePow];omega)]
   have oM:due / 16 % 16 < 16:=Nat.mod_lt _ af
   rw[iA]at hlen
   have ei:T.lay ⟨id,due⟩=T.put (16 + due / 16 % 16) (T.row (16 + due / 16 % 16)++[⟨id,due⟩]):=by unfold WT.lay;rw[iA]
   rw[ei]
   generalize due / 16 % 16=sp at *
   have aW:=WT.fI hT (i:=16 + sp) af
   have cn:=fun n=>WT.ij hT (i:=16 + sp) af n
   rw[show 16 + sp + 1=17 + sp by omega,show 2 + (16 + sp)=18 + sp by omega]at aW
   simp only[show 2 + (16 + sp)=18 + sp by omega]at cn
   have dD:=Zp (T.row (16 + sp))
   have fO:((68:Nat) == 18 + sp)=false:=beq_eq_false_iff_ne.2 af
   have dE:((67:Nat) == 18 + sp)=false:=beq_eq_false_iff_ne.2 af
   have kM:((0:Nat) == 18 + sp)=false:=beq_eq_false_iff_ne.2 af
   have nJ:((1:Nat) == 18 + sp)=false:=beq_eq_false_iff_ne.2 af
   have nK:((18 + sp:Nat) == 0)=false:=beq_eq_false_iff_ne.2 af
   refine Zm (An @aH @aW) ?_
   ((first|apply z7|apply z8|apply Aa|apply Ab|apply Ad|apply Ae);(have aB:=@aH;have aQ:=@aW;have a8:=@fO;have bU:=@dE;have cI:=@kM;have dC:=@nJ;have fc:=@cn;have jk:=@dD;have sv:=@nK;refine XG ?_;clear aB aQ a8 bU cI dC fc jk sv;((try (repeat' with_reducible refine And.intro ?_ ?_));(try any_goals (first|refine zm ?_|exact CL|fail)))))
   ·simp[Uw,Ue,cM,fO,dE,kM,nJ,nK]
    (repeat' refine And.intro ?_ ?_)<;>first|decide|(left;omega)
   ·refine Qf ?_
    refine ⟨(),To.put (ex:=[]) hT (i:=16 + sp) (N:=69) af af af (fun b hb=>?_) af ?_ ?_ ?_ (fun j hj bX=>?_) ?_ trivial (fun q hq=>by cases hq)⟩
    ·simp at hb;omega
    ·rw[Qd,if_pos rfl,show 16 + sp + 1=17 + sp by omega];simp
    ·(repeat rw[Qd,if_neg af]);rw[Qd,if_pos rfl]
    ·rw[Qd,if_neg af,Qd,if_pos rfl,ur];rfl
    ·(repeat rw[Qd,if_neg af]);exact WT.ij hT hj 70
    ·simp[Qu,Qe,ai,look,aD,ay]
  ·refine Zy (An @aH @h0) ?_
   refine ⟨2,⟨by omega,?_⟩,To.c6 (by exact Qr @fb) fun _=>rfl,by omega⟩
   rw[Uq jD af,if_neg (by simp only[Nat.reducePow];omega)]
 ·have mg:Int.tdiv (due:Int) 256=((due / 256:Nat):Int):=pT due 256
  have kv:Int.tdiv (T.now:Int) 256=((T.now / 256:Nat):Int):=pT T.now 256
  have hp:((16 ^ 2:Nat):Int)=256:=rfl
  have fb:((16 ^ 3:Nat):Int)=4096:=rfl
  have hm:Int.tmod ((due / 256:Nat):Int) 16=((due / 256 % 16:Nat):Int):=oL _ 16
  rw[nI,hp]
  refine Qh (An @aH @h0) ?_
  (refine Qa (fun h1=>?_) (fun h1=>?_)<;>try exact h1.elim)
  refine Qh (An @aH (An @h0 (An @mg @kv))) ?_
  (refine Qa (fun h2=>?_) (fun h2=>?_)<;>try exact h2.elim)
  ·refine Qh (An @aH (An @h0 (An @mg @hm))) ?_
   have iA:Yv T.now due=32 + due / 256 % 16:=by rw[Uq jD af,if_pos (by simp only[Nat.reducePow];omega)]
   have oM:due / 256 % 16 < 16:=Nat.mod_lt _ af
   rw[iA]at hlen
   have ei:T.lay ⟨id,due⟩=T.put (32 + due / 256 % 16) (T.row (32 + due / 256 % 16)++[⟨id,due⟩]):=by unfold WT.lay;rw[iA]
   rw[ei]
   generalize due / 256 % 16=sp at *
   have aW:=WT.fI hT (i:=32 + sp) af
   have cn:=fun n=>WT.ij hT (i:=32 + sp) af n
   rw[show 32 + sp + 1=33 + sp by omega,show 2 + (32 + sp)=34 + sp by omega]at aW
   simp only[show 2 + (32 + sp)=34 + sp by omega]at cn
   have dD:=Zp (T.row (32 + sp))
   have fO:((68:Nat) == 34 + sp)=false:=beq_eq_false_iff_ne.2 af
   have dE:((67:Nat) == 34 + sp)=false:=beq_eq_false_iff_ne.2 af
   have kM:((0:Nat) == 34 + sp)=false:=beq_eq_false_iff_ne.2 af
   have nJ:((1:Nat) == 34 + sp)=false:=beq_eq_false_iff_ne.2 af
   have nK:((34 + sp:Nat) == 0)=false:=beq_eq_false_iff_ne.2 af
   refine Zm (An @aH @aW) ?_
   ((first|apply z7|apply z8|apply Aa|apply Ab|apply Ad|apply Ae);(have aB:=@aH;have aQ:=@aW;have a8:=@fO;have bU:=@dE;have cI:=@kM;have dC:=@nJ;have fc:=@cn;have jk:=@dD;have sv:=@nK;refine XG ?_;clear aB aQ a8 bU cI dC fc jk sv;((try (repeat' with_reducible refine And.intro ?_ ?_));(try any_goals (first|refine zm ?_|exact CL|fail)))))
   ·simp[Uw,Ue,cM,fO,dE,kM,nJ,nK]
    (repeat' refine And.intro ?_ ?_)<;>first|decide|(left;omega)
   ·refine Qf ?_
    refine ⟨(),To.put (ex:=[]) hT (i:=32 + sp) (N:=69) af af af (fun b hb=>?_) af ?_ ?_ ?_ (fun j hj bX=>?_) ?_ trivial (fun q hq=>by cases hq)⟩
    ·simp at hb;omega
    ·rw[Qd,if_pos rfl,show 32 + sp + 1=33 + sp by omega];simp
    ·(repeat rw[Qd,if_neg af]);rw[Qd,if_pos rfl]
    ·rw[Qd,if_neg af,Qd,if_pos rfl,ur];rfl
    ·(repeat rw[Qd,if_neg af]);exact WT.ij hT hj 70
    ·simp[Qu,Qe,ai,look,aD,ay]
  ·refine Zy (An @aH @h0) ?_
   refine ⟨3,⟨by omega,?_⟩,To.c6 (by exact Qr @fb) fun _=>rfl,by omega⟩
   rw[Uq jD af,if_neg (by simp only[Nat.reducePow];omega)]
 ·have mg:Int.tdiv (due:Int) 4096=((due / 4096:Nat):Int):=pT due 4096
  have kv:Int.tdiv (T.now:Int) 4096=((T.now / 4096:Nat):Int):=pT T.now 4096
  have hp:((16 ^ 3:Nat):Int)=4096:=rfl
  have fb:((16 ^ 4:Nat):Int)=65536:=rfl
  have hm:Int.tmod ((due / 4096:Nat):Int) 16=((due / 4096 % 16:Nat):Int):=oL _ 16
  rw[nI,hp]
  refine Qh (An @aH @h0) ?_
  (refine Qa (fun h1=>?_) (fun h1=>?_)<;>try exact h1.elim)
  refine Qh (An @aH (An @h0 (An @mg @kv))) ?_
  (refine Qa (fun h2=>?_) (fun h2=>?_)<;>try exact h2.elim)
  ·refine Qh (An @aH (An @h0 (An @mg @hm))) ?_
   have iA:Yv T.now due=48 + due / 4096 % 16:=by rw[Uq jD af,if_pos (by simp only[Nat.reducePow];omega)]
   have oM:due / 4096 % 16 < 16:=Nat.mod_lt _ af
   rw[iA]at hlen
   have ei:T.lay ⟨id,due⟩=T.put (48 + due / 4096 % 16) (T.row (48 + due / 4096 % 16)++[⟨id,due⟩]):=by unfold WT.lay;rw[iA]
   rw[ei]
   generalize due / 4096 % 16=sp at *
   have aW:=WT.fI hT (i:=48 + sp) af
   have cn:=fun n=>WT.ij hT (i:=48 + sp) af n
   rw[show 48 + sp + 1=49 + sp by omega,show 2 + (48 + sp)=50 + sp by omega]at aW
   simp only[show 2 + (48 + sp)=50 + sp by omega]at cn
   have dD:=Zp (T.row (48 + sp))
   have fO:((68:Nat) == 50 + sp)=false:=beq_eq_false_iff_ne.2 af
   have dE:((67:Nat) == 50 + sp)=false:=beq_eq_false_iff_ne.2 af
   have kM:((0:Nat) == 50 + sp)=false:=beq_eq_false_iff_ne.2 af
   have nJ:((1:Nat) == 50 + sp)=false:=beq_eq_false_iff_ne.2 af
   have nK:((50 + sp:Nat) == 0)=false:=beq_eq_false_iff_ne.2 af
   refine Zm (An @aH @aW) ?_
   ((first|apply z7|apply z8|apply Aa|apply Ab|apply Ad|apply Ae);(have aB:=@aH;have aQ:=@aW;have a8:=@fO;have bU:=@dE;have cI:=@kM;have dC:=@nJ;have fc:=@cn;have jk:=@dD;have sv:=@nK;refine XG ?_;clear aB aQ a8 bU cI dC fc jk sv;((try (repeat' with_reducible refine And.intro ?_ ?_));(try any_goals (first|refine zm ?_|exact CL|fail)))))
   ·simp[Uw,Ue,cM,fO,dE,kM,nJ,nK]
    (repeat' refine And.intro ?_ ?_)<;>first|decide|(left;omega)
   ·refine Qf ?_
    refine ⟨(),To.put (ex:=[]) hT (i:=48 + sp) (N:=69) af af af (fun b hb=>?_) af ?_ ?_ ?_ (fun j hj bX=>?_) ?_ trivial (fun q hq=>by cases hq)⟩
    ·simp at hb;omega
    ·rw[Qd,if_pos rfl,show 48 + sp + 1=49 + sp by omega];simp
    ·(repeat rw[Qd,if_neg af]);rw[Qd,if_pos rfl]
    ·rw[Qd,if_neg af,Qd,if_pos rfl,ur];rfl
    ·(repeat rw[Qd,if_neg af]);exact WT.ij hT hj 70
    ·simp[Qu,Qe,ai,look,aD,ay]
  ·refine Zy (An @aH @h0) ?_
   refine ⟨4,⟨by omega,?_⟩,To.c6 (by exact Qr @fb) fun _=>rfl,by omega⟩
   rw[Uq jD af,if_neg (by simp only[Nat.reducePow];omega)]
 ·rw[nI]
  refine Qh (An @aH @h0) ?_
  (refine Qa (fun h1=>?_) (fun h1=>?_)<;>try exact h1.elim)
  have iA:Yv T.now due=64:=by rw[jD];rfl
  rw[iA]at hlen
  have ei:T.lay ⟨id,due⟩=T.put 64 (T.row 64++[⟨id,due⟩]):=by unfold WT.lay;rw[iA]
  rw[ei]
  have aW:=WT.fI hT (i:=64) af
  have cn:=fun n=>WT.ij hT (i:=64) af n
  simp only[Nat.reduceAdd]at aW cn
  have dD:=Zp (T.row 64)
  refine Qh (An @aH @aW) ?_
  refine Zm (An @aH @aW) ?_
  refine Zm (An @aH (An @aW (An @cn @dD))) ?_
  refine ⟨(),To.put (ex:=[]) hT (i:=64) (N:=69) af af af (fun b hb=>?_) af ?_ ?_ ?_ (fun j hj bX=>?_) ?_ trivial (fun q hq=>by cases hq)⟩
  ·simp at hb;omega
  ·rw[Qd,if_pos rfl];simp
  ·(repeat rw[Qd,if_neg af]);rw[Qd,if_pos rfl]
  ·rw[Qd,if_neg af,Qd,if_pos rfl,ur];rfl
  ·(repeat rw[Qd,if_neg af]);exact WT.ij hT hj 70
  ·simp[Qu,Qe,ai,look,aD,ay]
def br (D:List Tm):List (AV × AV):=D.map fun t=>(.int .i64 t.id,.int .i64 t.due)
theorem qZ (D:List Tm):(br D).length=D.length:=by simp[br]
theorem Bg (D:List Tm):Aq false [.int .i64] (br D):=fun q hq=>by
 obtain ⟨t,_,rfl⟩:=List.mem_map.1 hq
 rfl
theorem pU (x:Int):Kv false [.int .i64] (.int .i64 x):=rfl
theorem Ho (D:List Tm) (x:Int):jm (br D) (.int .i64 x)=D.findIdx? fun t=>t.id == x:=by
 unfold jm br
 induction D with
 | nil=>rfl
 | cons t D ih =>
  simp only[List.map_cons,List.findIdx?_cons]
  rw[ih]
  by_cases h:t.id=x
  ·simp[h]
  ·simp[h]
def jV (D:List Tm) (x:Int):Bool:=D.any fun t=>t.id == x
def UB (D:List Tm) (x:Int):Nat:=match D.find? (fun t=>t.id == x) with
 | some t=>t.due
 | none=>0
theorem Hp (D:List Tm) (x:Int):Ap (br D) (.int .i64 x)=jV D x:=by
 unfold Ap jV
 rw[Ho]
 induction D with
 | nil=>rfl
 | cons t D ih =>
  rw[List.findIdx?_cons,List.any_cons]
  cases h:t.id == x with
  | true=>simp
  | false=>simpa using ih
theorem Hq (D:List Tm) (x:Int):pG (br D) (.int .i64 x) (.int .i64 0)=.int .i64 (UB D x):=by
 unfold pG UB
 rw[Ho]
 induction D with
 | nil=>rfl
 | cons t D ih =>
  rw[List.findIdx?_cons,List.find?_cons]
  cases h:t.id == x with
  | true=>simp[br]
  | false =>
   simp only[cond_false,Bool.false_eq_true,if_false]
   rw[← ih]
   cases D.findIdx? fun t=>t.id == x with
   | none=>rfl
   | some i=>simp[br]
theorem Hr {D:List Tm} {x:Int} (h:∀ t ∈ D,t.id≠x):Yd x D=D:=List.filter_eq_self.2 fun t ht=>by simpa using h t ht
theorem UC:∀ (D:List Tm) (x:Int),D.Pairwise (fun a b=>a.id≠b.id)→xE (br D) (.int .i64 x)=br (Yd x D):=fun D x hd=>by
 have key:∀ D:List Tm,D.Pairwise (fun a b=>a.id≠b.id)→(match D.findIdx? (fun t=>t.id == x) with|some i=>D.eraseIdx i|none=>D)=Yd x D:=fun D=>by
  induction D with
  | nil=>intro _;rfl
  | cons t D ih =>
   intro hd
   have h2:=ih (List.Pairwise.of_cons hd)
   rw[List.findIdx?_cons]
   unfold Yd
   rw[List.filter_cons]
   cases h:t.id == x with
   | true =>
    have hx:t.id=x:=by simpa using h
    have:=Hr (x:=x) fun y hy e=>List.rel_of_pairwise_cons hd hy (hx.trans e.symm)
    unfold Yd at this
    simp[this]
   | false =>
    unfold Yd at h2
    simp only[Bool.not_false,if_true,Bool.false_eq_true,if_false]
    rw[← h2]
    cases D.findIdx? fun t=>t.id == x<;>simp
 rw[← key D hd]
 unfold xE
 rw[Ho]
 cases D.findIdx? fun t=>t.id == x with
 | none=>rfl
 | some i =>
  have em:∀ (l:List Tm) (i:Nat),(br l).eraseIdx i=br (l.eraseIdx i):=fun l=>by
   induction l with
   | nil=>intro i;rfl
   | cons t l ih =>
    intro i
    cases i with
    | zero=>rfl
    | succ i =>
     have:=ih i
     simp only[br,List.map_cons,List.eraseIdx_cons_succ]at this ⊢
     rw[this]
  exact em D i
theorem Xuq {D:List Tm} {x:Int} (h:∀ t ∈ D,t.id≠x) (n:Nat):pH (br D) (.int .i64 x) (.int .i64 n)=br (D++[⟨x,n⟩]):=by
 unfold pH
 rw[Ho,List.findIdx?_eq_none_iff.2 fun t ht=>by simpa using h t ht]
 simp[br]
theorem Uv (n:Nat) (D:List Tm):∀ q ∈ br D,Qe n q.1∧Qe n q.2:=fun q hq=>by
 obtain ⟨t,_,rfl⟩:=List.mem_map.1 hq
 simp[Qe]
theorem uA {T:WT} {D:List Tm} {dn:Bool} (hl:T.rows.length=65) (h:T.mb=.aE (br D) dn):T.wf:=⟨hl,by rw[h];exact Uv 2 D⟩
def WT.upto (T:WT) (x:Int) (n:Nat):WT:={ T with rows:=(T.rows.take n).map (Yd x)++T.rows.drop n }
theorem WT.kf {T:WT} (h:T.wf) (x:Int) (n:Nat):(T.upto x n).wf:=⟨by
 have:=h.len
 simp[WT.upto];omega,h.mb⟩
theorem WT.gA {T:WT} (x:Int) (n i:Nat):(T.upto x n).row i=if i < n then Yd x (T.row i) else T.row i:=by
 unfold WT.row WT.upto
 simp only[List.getD,List.getElem?_append,List.length_map,List.length_take]
 by_cases h1:i < n
 ·rw[if_pos h1]
  by_cases h2:i < T.rows.length
  ·rw[if_pos af,List.getElem?_map,List.getElem?_take_of_lt h1,List.getElem?_eq_getElem h2];rfl
  ·rw[if_neg af,List.getElem?_drop,List.getElem?_eq_none af,List.getElem?_eq_none af];rfl
 ·rw[if_neg h1]
  by_cases h2:i < T.rows.length
  ·rw[if_neg af,List.getElem?_drop];congr 2;omega
  ·rw[if_neg af,List.getElem?_drop,List.getElem?_eq_none af,List.getElem?_eq_none af]
theorem Xx1 {l l':List (List Tm)} (hl:l.length=l'.length) (h:∀ j,l.getD j []=l'.getD j []):l=l':=by
 refine List.ext_getElem hl fun j h1 h2=>?_
 have:=h j
 simpa [List.getD,h1,h2] using this
theorem WT.jW {T:WT} (h:T.wf) (x:Int) {n:Nat} (hn:n < 65):T.upto x (n + 1)=(T.upto x n).put n (Yd x (T.row n)):=by
 have hl:=h.len
 have e:(T.upto x (n + 1)).rows=((T.upto x n).put n (Yd x (T.row n))).rows:=by
  refine Xx1 (by simp[WT.upto,WT.put];omega) fun j=>?_
  have h1:=WT.gA (T:=T) x (n + 1) j
  have h2:=WT.gw (WT.kf h x n) hn (Yd x (T.row n)) j
  rw[WT.gA]at h2
  unfold WT.row at h1 h2 ⊢
  rw[h1,h2]
  by_cases e:j=n
  ·subst e;rw[if_pos af,if_pos rfl]
  ·rw[if_neg e]
   by_cases e2:j < n
   ·rw[if_pos e2,if_pos af]
   ·rw[if_neg e2,if_neg af]
 show ({ T with rows:=(T.upto x (n + 1)).rows }:WT)={ T with rows:=((T.upto x n).put n (Yd x (T.row n))).rows }
 rw[e]
theorem WT.q8 {T:WT} (h:T.wf) (x:Int):T.upto x 65={ T with rows:=T.rows.map (Yd x) }:=by
 have hl:=h.len
 unfold WT.upto
 rw[List.take_of_length_le af,List.drop_of_length_le af,List.append_nil]
theorem WT.lN {T:WT} (h:T.wf) {i:Nat} (hi:i < 65) (l:List Tm) (n b:Nat):Qc (T.put i l).h n b=if 0=b then .cells (T.cells.set (i + 1) (.sl 2 (2 + i) 0 l.length l.length)) else if 2 + i=b then .cells (a6 l) else Qc T.h n b:=by
 have hl:=h.len
 rw[WT.bA,WT.bA,WT.M1 h hi]
 by_cases h0:0=b
 ·rw[if_pos h0,if_pos h0]
 rw[if_neg h0,if_neg h0]
 by_cases h1:1=b
 ·rw[if_pos h1,if_neg af,if_neg h0,if_pos h1];rfl
 rw[if_neg h1]
 have hlen:(T.put i l).rows.length=T.rows.length:=by simp[WT.put]
 rw[hlen]
 by_cases h2:2 + i=b
 ·rw[if_pos h2,if_pos af,WT.gw h hi,if_pos af]
 ·rw[if_neg h2,if_neg h0,if_neg h1]
  by_cases h3:2≤b∧b < 2 + T.rows.length
  ·rw[if_pos h3,if_pos h3,WT.gw h hi,if_neg af]
  ·rw[if_neg h3,if_neg h3]
set_option maxRecDepth 20000 in
theorem Xde (gl:Nat→AV) (T:WT) (D:List Tm) (dn:Bool) (hlen:T.rows.length=65) (eJ:T.mb=.aE (br D) dn) (hd:D.Pairwise fun a b=>a.id≠b.id) (ft:∀ i,(T.row i).length≤1000000) (x:Int) (hx:jV D x=true) :
  GQ Tryz.prog gl 164 [.ptr 0 0,.int .i64 x] T.h 67 [0,1] (fun _:Unit=>True) (fun _=>.int .i64 0) (fun _=>{ T with rows:=T.rows.map (Yd x),mb:=.aE (br (Yd x D)) false }.h):=by
 have hT:=uA hlen eJ
 refine Hm.gq (of_decide_eq_true rfl) (fun q hq=>Xf (((WT.HL hT).mem q hq).2)) au fun c aY hg=>?_
 conv in aO _ _=>cbv
 have aH:=fun n b hb=>WT.gV hT n (b:=b) hb
 have h0:=WT.ig T
 have kK:=WT.eB hT
 have hl:=WT.len hT
 have nI:T.h=(0,.cells T.cells)::(1,.aE (br D) dn)::Kd T.rows 0:=by rw[← eJ];rfl
 have dZ:=Bg D
 have dW:=pU x
 have yr:=Hp D x
 have eK:=Hq D x
 have yt:=UC D x hd
 rw[nI]
 refine Qh @aH ?_
 (refine Qa (fun h1=>?_) (fun h1=>?_)<;>try exact h1.elim)
 refine Qh (An @aH @kK) ?_
 ((first|refine oz ke ?_|refine Ut ke ?_);(have aB:=@aH;have aQ:=@dZ;have a8:=@dW;have bU:=@eK;have cI:=@yr;have dC:=@hx;refine XG ?_;clear aB aQ a8 bU cI dC;((try (repeat' with_reducible refine And.intro ?_ ?_));(try any_goals (first|refine zm ?_|exact CL|fail)))))
 (refine Qa (fun h2=>?_) (fun h2=>?_)<;>try exact h2.elim)
 refine Qh (An @aH @kK) ?_
 ((first|refine Lj ke ?_|refine Lk ke ?_);(have aB:=@aH;have aQ:=@dZ;have a8:=@dW;have bU:=@yt;refine XG ?_;clear aB aQ a8 bU;((try (repeat' with_reducible refine And.intro ?_ ?_));(try any_goals (first|refine zm ?_|exact CL|fail)))))
 refine Qf ?_
 have bj:WT.wf { T with mb:=.aE (br (Yd x D)) false }:=⟨hlen,Uv 2 _⟩
 have oN:∀ i,(WT.row { T with mb:=.aE (br (Yd x D)) false } i).length≤1000000:=ft
 generalize D7:({ T with mb:=.aE (br (Yd x D)) false }:WT)=T1 at bj oN
 refine Yi (fun i:Nat=>i≤4) (fun i=>⟨[(0,.ptr 0 0),(7,.cl 176 [.ptr 67 0]),(29,.int .i64 i)],(67,.cells [.int .i64 x])::(T1.upto x (16 * i)).h,68⟩) (fun i=>4 - i) Hm.mixed [0,1] aY
  ⟨0,by omega,To.c6 (by exact Qs) fun b=>?_⟩ fun i hi=>?_
 ·have e:T1.upto x (16 * 0)=T1:=by simp[WT.upto]
  show Qc ((67,.cells [.int .i64 x])::(T1.upto x (16 * 0)).h) 68 b=_
  rw[e,← D7]
  show Qc ((67,.cells [.int .i64 x])::(0,.cells T.cells)::(1,.aE (br (Yd x D)) false)::Kd T.rows 0) 68 b=_
  simp only[Qd]
  (repeat' split)<;>first|rfl|omega
 refine Qf ?_
 (refine Qa (fun h3=>?_) (fun h3=>?_)<;>try exact h3.elim)
 ·refine Qf ?_
  refine Yi (fun k:Nat=>k≤16) (fun k=>⟨[(0,.ptr 0 0),(7,.cl 176 [.ptr 67 0]),(8,.int .i64 i),(29,.int .i64 i),(32,.int .i64 k)],(67,.cells [.int .i64 x])::(T1.upto x (16 * i + k)).h,68⟩) (fun k=>16 - k) Hm.mixed [0,1] aY
   ⟨0,by omega,To.c6 (by exact Qs) fun b=>rfl⟩ fun k hk=>?_
  refine Qf ?_
  (refine Qa (fun h4=>?_) (fun h4=>?_)<;>try exact h4.elim)
  ·have cD:16 * i + k < 65:=by omega
   have nL:=WT.kf bj x (16 * i + k)
   have dN:=WT.jW bj x cD
   have lO:=WT.gA (T:=T1) x (16 * i + k) (16 * i + k)
   rw[if_neg af]at lO
   have eG:=(UA c.gl (T1.row (16 * i + k)) (oN _) x).wk (Wk.cap _ _ _ _ _)
   have dD:=Zp (T1.row (16 * i + k))
   generalize hTe:T1.upto x (16 * i + k)=Tn at *
   have aW:=WT.fI nL cD
   have cn:=fun n=>WT.ij nL cD n
   rw[lO]at aW cn
   have tQ:=fun n b hb=>WT.gV nL n (b:=b) hb
   have hl2:=WT.len nL
   have q9:Tn.h=(0,.cells Tn.cells)::(1,Tn.mb)::Kd Tn.rows 0:=rfl
   generalize BP:T1.row (16 * i + k)=r at *
   rw[q9]
   rw[show 16 * i + k + 1=1 + i * 16 + k by omega]at aW
   generalize eM:2 + (16 * i + k)=nm at aW cn
   have fO:(67 == nm)=false:=beq_eq_false_iff_ne.2 af
   have dE:(0 == nm)=false:=beq_eq_false_iff_ne.2 af
   have kM:(1 == nm)=false:=beq_eq_false_iff_ne.2 af
   have nJ:(nm == 67)=false:=beq_eq_false_iff_ne.2 af
   have nK:(nm == 0)=false:=beq_eq_false_iff_ne.2 af
   refine Qh (An @tQ @aW) ?_
   ((first|refine Xa (ins:=[nm,67]) eG ?_ ?_|refine Qw (ins:=[nm,67]) eG ?_ ?_|refine Qx (ins:=[nm,67]) eG ?_ ?_|refine Qt (ins:=[nm,67]) eG ?_ ?_)<;>(have aB:=@tQ;have aQ:=@cn;have a8:=@fO;have bU:=@dE;have cI:=@kM;have dC:=@nJ;have fc:=@nK;refine XG ?_;clear aB aQ a8 bU cI dC fc;(try first|exact rfl|exact True.intro);((try (repeat' with_reducible refine And.intro ?_ ?_));(try any_goals (first|refine zm ?_|exact CL|fail)))))
   ·have:Nat.beq nm 67=false:=by
     cases h:Nat.beq nm 67 with
     | false=>rfl
     | true=>exact absurd (Nat.eq_of_beq_eq_true h) af
    rw[this];rfl
   ·simp[Uw,Ue,cM,fO,dE,kM,nJ,nK]
    (repeat' refine And.intro ?_ ?_)<;>first|decide|(left;omega)|omega
   ·refine ⟨k + 1,by omega,To.c6 (by exact Qs) fun b=>?_,by omega⟩
    rw[show 16 * i + (k + 1)=16 * i + k + 1 by omega,dN,← q9]
    simp only[Qd,WT.lN nL cD,eM,show 16 * i + k + 1=1 + i * 16 + k by omega]
    (repeat' split)<;>first|rfl|omega
  ·obtain rfl:k=16:=by omega
   refine Qf ?_
   refine ⟨i + 1,by omega,To.c6 (by exact Qs) fun b=>?_,by omega⟩
   rw[show 16 * (i + 1)=16 * i + 16 by omega]
 ·obtain rfl:i=4:=by omega
  have nL:=WT.kf bj x (16 * 4)
  have dN:=WT.jW bj x (n:=64) af
  have bO:=WT.q8 bj x
  have lO:=WT.gA (T:=T1) x (16 * 4) 64
  rw[if_neg af]at lO
  have eG:=(UA c.gl (T1.row 64) (oN _) x).wk (Wk.cap _ _ _ _ _)
  have dD:=Zp (T1.row 64)
  have bE:({ T with rows:=T.rows.map (Yd x),mb:=.aE (br (Yd x D)) false }:WT)=T1.upto x 65:=by rw[bO,← D7]
  rw[bE,dN]
  generalize hTe:T1.upto x (16 * 4)=Tn at *
  have aW:=WT.fI nL (i:=64) af
  have cn:=fun n=>WT.ij nL (i:=64) af n
  rw[lO]at aW cn
  have tQ:=fun n b hb=>WT.gV nL n (b:=b) hb
  have hl2:=WT.len nL
  have q9:Tn.h=(0,.cells Tn.cells)::(1,Tn.mb)::Kd Tn.rows 0:=rfl
  generalize BP:T1.row 64=r at *
  simp only[Nat.reduceAdd]at aW cn
  rw[q9]
  refine Qh (An @tQ @aW) ?_
  ((first|refine Xa (ins:=[66,67]) eG ?_ ?_|refine Qw (ins:=[66,67]) eG ?_ ?_|refine Qx (ins:=[66,67]) eG ?_ ?_|refine Qt (ins:=[66,67]) eG ?_ ?_)<;>(have aB:=@tQ;have aQ:=@cn;refine XG ?_;clear aB aQ;(try first|exact rfl|exact True.intro);((try (repeat' with_reducible refine And.intro ?_ ?_));(try any_goals (first|refine zm ?_|exact CL|fail)))))
  ·decide
  refine ⟨(),To.trans (To.c6 (t':=[(0,.int .i64 0)]) (h':=(67,.cells [.int .i64 x])::(Tn.put 64 (Yd x r)).h) (n':=68) (by exact Qs) fun b=>?_) ?_⟩
  ·rw[← q9]
   simp only[Qd,WT.lN nL (i:=64) af]
   (repeat' split)<;>first|rfl|omega
  ·exact To.dz (ex:=[(67,.cells [.int .i64 x])]) (WT.dc nL _ _) au au (by simp[Qu,Qe,look,aD])
def Yap:Go.Shelf.Ren:=⟨fun|125=>180|128=>191|129=>192|189=>167|215=>198|216=>188|257=>179|294=>182|295=>183|296=>184|297=>185|298=>186|299=>187|300=>189|301=>190|328=>193|329=>194|330=>195|331=>196|332=>197|343=>199|n=>n,fun|0=>0|3=>3|4=>4|5=>5|9=>9|28=>52|46=>110|51=>108|53=>214|131=>182|182=>206|183=>207|218=>215|222=>126|228=>220|229=>104|n=>n,fun n=>n⟩
theorem UD:Lays.n189 Tryz.prog Yap:={
 mixed:=by kernel_rfl,
 f125:=Tryz.func180.trans (congrArg some (by kernel_rfl)),
 f128:=Tryz.func191.trans (congrArg some (by kernel_rfl)),
 f129:=Tryz.func192.trans (congrArg some (by kernel_rfl)),
 f189:=Tryz.func167.trans (congrArg some (by kernel_rfl)),
 f215:=Tryz.func198.trans (congrArg some (by kernel_rfl)),
 f216:=Tryz.func188.trans (congrArg some (by kernel_rfl)),
 f257:=Tryz.func179.trans (congrArg some (by kernel_rfl)),
 f294:=Tryz.func182.trans (congrArg some (by kernel_rfl)),
 f295:=Tryz.func183.trans (congrArg some (by kernel_rfl)),
 f296:=Tryz.func184.trans (congrArg some (by kernel_rfl)),
 f297:=Tryz.func185.trans (congrArg some (by kernel_rfl)),
 f298:=Tryz.func186.trans (congrArg some (by kernel_rfl)),
 f299:=Tryz.func187.trans (congrArg some (by kernel_rfl)),
 f300:=Tryz.func189.trans (congrArg some (by kernel_rfl)),
 f301:=Tryz.func190.trans (congrArg some (by kernel_rfl)),
 f328:=Tryz.func193.trans (congrArg some (by kernel_rfl)),
 f329:=Tryz.func194.trans (congrArg some (by kernel_rfl)),
 f330:=Tryz.func195.trans (congrArg some (by kernel_rfl)),
 f331:=Tryz.func196.trans (congrArg some (by kernel_rfl)),
 f332:=Tryz.func197.trans (congrArg some (by kernel_rfl)),
 f343:=Tryz.func199.trans (congrArg some (by kernel_rfl)),
 t0:=Tryz.underlying0,
 a0:=Tryz.isAgg0,
 z0:=Tryz.sizeOf0,
 v0:=Tryz.zeroValue0,
 t3:=Tryz.underlying3,
 a3:=Tryz.isAgg3,
 z3:=Tryz.sizeOf3,
 v3:=Tryz.zeroValue3,
 t4:=Tryz.underlying4,
 a4:=Tryz.isAgg4,
 z4:=Tryz.sizeOf4,
 v4:=Tryz.zeroValue4,
 t5:=Tryz.underlying5,
 a5:=Tryz.isAgg5,
 z5:=Tryz.sizeOf5,
 v5:=Tryz.zeroValue5,
 t9:=Tryz.underlying9,
 a9:=Tryz.isAgg9,
 z9:=Tryz.sizeOf9,
 v9:=Tryz.zeroValue9,
 t28:=Tryz.underlying52,
 a28:=Tryz.isAgg52,
 z28:=Tryz.sizeOf52,
 v28:=Tryz.zeroValue52,
 t46:=Tryz.underlying110,
 a46:=Tryz.isAgg110,
 z46:=Tryz.sizeOf110,
 v46:=Tryz.zeroValue110,
 t51:=Tryz.underlying108,
 a51:=Tryz.isAgg108,
 z51:=Tryz.sizeOf108,
 v51:=Tryz.zeroValue108,
 t53:=Tryz.underlying214,
 a53:=Tryz.isAgg214,
 z53:=Tryz.sizeOf214,
 v53:=Tryz.zeroValue214,
 t131:=Tryz.underlying182,
 a131:=Tryz.isAgg182,
 z131:=Tryz.sizeOf182,
 v131:=Tryz.zeroValue182,
 t182:=Tryz.underlying206,
 a182:=Tryz.isAgg206,
 z182:=Tryz.sizeOf206,
 v182:=Tryz.zeroValue206,
 t183:=Tryz.underlying207,
 a183:=Tryz.isAgg207,
 z183:=Tryz.sizeOf207,
 v183:=Tryz.zeroValue207,
 t218:=Tryz.underlying215,
 a218:=Tryz.isAgg215,
 z218:=Tryz.sizeOf215,
 v218:=Tryz.zeroValue215,
 t222:=Tryz.underlying126,
 a222:=Tryz.isAgg126,
 z222:=Tryz.sizeOf126,
 v222:=Tryz.zeroValue126,
 t228:=Tryz.underlying220,
 a228:=Tryz.isAgg220,
 z228:=Tryz.sizeOf220,
 v228:=Tryz.zeroValue220,
 t229:=Tryz.underlying104,
 a229:=Tryz.isAgg104,
 z229:=Tryz.sizeOf104,
 v229:=Tryz.zeroValue104 }
theorem UE {w:World} {k n:Nat} {os:Array Obj} {cur:Array Value} {e:TypeId} {fr:Nat × Nat} (d:Array Int) (hb:w.heap[k]?=some (.cells cur e fr)) :
  (Sort.grow (Sort.putRow (Value.int .i64) (Sort.ahead w n) k 0 d) os).heap[k]?=some (.cells (Sort.putCells (Value.int .i64) 0 d cur) e fr):=by
 have hg:k < w.heap.size:=(Array.getElem?_eq_some_iff.1 hb).1
 rw[Sort.heap_grow_old _ _ (by simpa [Sort.putRow,Sort.mapBlock,Sort.ahead] using hg)]
 simp[Sort.putRow,Sort.mapBlock,Sort.ahead,Array.getElem?_modify,hb,Sort.onCells]
theorem Yck {w:World} {k n:Nat} {os:Array Obj} {cur:Array Value} {e:TypeId} {fr:Nat × Nat} (d:Array Int) (hb:w.heap[k]?=some (.cells cur e fr)) :
  Fr w (Sort.grow (Sort.putRow (Value.int .i64) (Sort.ahead w n) k 0 d) os) (fun i=>i=k):=by
 have hs:(Sort.grow (Sort.putRow (Value.int .i64) (Sort.ahead w n) k 0 d) os).heap.size=w.heap.size + os.size:=by simp[Sort.grow,Sort.putRow,Sort.mapBlock,Sort.ahead]
 refine ⟨rfl,rfl,rfl,by omega,fun j hj bX=>?_,fun j eD e' Q0 h=>?_⟩
 ·rw[Sort.heap_grow_old _ _ (by simpa [Sort.putRow,Sort.mapBlock,Sort.ahead] using hj)]
  have:k≠j:=fun e=>bX e.symm
  simp[Sort.putRow,Sort.mapBlock,Sort.ahead,Array.getElem?_modify,this]
 ·by_cases Ha:j=k
  ·subst Ha
   rw[hb]at h;cases h
   exact ⟨_,UE d hb,by simp[Sort.putCells]⟩
  ·refine ⟨eD,?_,rfl⟩
   rw[Sort.heap_grow_old _ _ (by simpa [Sort.putRow,Sort.mapBlock,Sort.ahead] using Ua h)]
   have:k≠j:=fun e=>Ha e.symm
   simp[Sort.putRow,Sort.mapBlock,Sort.ahead,Array.getElem?_modify,this,h]
theorem Bh (l:List Int) (j:Nat) (h:j < l.length):(Qp l).getD j .any=.int .i64 l[j]:=by simp[Qp,List.getD,h]
theorem Xza (gl:Nat→AV) (l:List Int) (hl:l.length≤1000000):GS Tryz.prog gl 167 [.sl 1 0 0 l.length l.length] [(0,.cells (Qp l))] 1 (.aX []) [(0,.cells (Qp (l.mergeSort fun x y=>decide (x≤y))))] 1:=by
 refine ⟨⟨Tryz.f167,Tryz.func167,by kernel_rfl,by kernel_rfl⟩,fun w vs G X g hR hv=>?_⟩
 have hlen:(l.mergeSort fun x y=>decide (x≤y)).length=l.length:=List.length_mergeSort _
 obtain ⟨v,vs,rfl,h1,h2⟩:=hv.cons_inv
 obtain rfl:=h2.m6
 have hH:(cW [(0,.cells (Qp l))] 1).H 0=.cells (Qp l):=rfl
 have dP:=hR.h 0
 rw[hH]at dP
 have hHo:∀ x y:List AV,((cW [(0,.cells x)] 1).aK 0 (.cells y))=cW [(0,.cells y)] 1:=fun x y=>pA (fun _=>rfl) fun j=>by
  show (if 0=j then _ else Qc [(0,.cells x)] 1 j)=Qc [(0,.cells y)] 1 j
  rw[Qd,Qd]
  split<;>rfl
 rcases po h1 with ⟨k,cap,e,cur,fz,rfl,hg,h3,h4,h5,h6,h7⟩|⟨ad,rfl,hg,h3,h4⟩
 ·rw[hg]at dP
  cases dP with
  | cells hb AT iH tz hz =>
   rw[h6]at hb;cases hb
   rw[Ye]at AT iH tz
   have M9:∀ j (hj:j < l.length),cur[j]?=some (.int .i64 l[j]):=fun j hj=>by
    have:=tz j hj
    rw[Bh l j hj]at this
    have Hs:j < cur.size:=by omega
    have e:cur.getD j undef=cur[j]:=by simp[Array.getD,Hs]
    rw[e]at this
    generalize hcv:cur[j]=cv at this
    cases this
    rw[← hcv];simp[Hs]
   have yu:Sort.Holds (Value.int .i64) w k 0 l.toArray:=fun j hj=>by
    have cV:j < l.length:=by simpa using hj
    refine ⟨?_,?_⟩
    ·simp only[World.cell?,h6,Nat.zero_add,Option.isSome_none,Bool.false_eq_true,if_false]
     rw[M9 j cV]
     simp[cV]
    ·simp only[World.frozen?,h6,Nat.zero_add]
     rcases hz with rfl|hz
     ·simp
     ·have:¬ fz.1≤j:=by omega
      simp[this]
   have hc:=Any.slices_Sort_int UD k 0 cap l w yu (Ua h6) af
   refine Calls.mono hc ?_
   rintro e w' ⟨rfl,n,os,rfl⟩
   have bu:=hR.setBlock (x:=.cells (Qp (l.mergeSort fun x y=>decide (x≤y)))) hg (by rw[hH];trivial) trivial (Yck (n:=n) (os:=os) (l.mergeSort fun x y=>decide (x≤y)).toArray h6) (by
    have aW:∀ j (hj:j < l.length),(Sort.putCells (Value.int .i64) 0 (l.mergeSort fun x y=>decide (x≤y)).toArray cur).getD j undef=.int .i64 ((l.mergeSort fun x y=>decide (x≤y))[j]'af):=fun j hj=>by
     have Hs:j < cur.size:=by omega
     have mI:j < (l.mergeSort fun x y=>decide (x≤y)).length:=by omega
     simp[Sort.putCells,Array.getD,Hs,hj]
    refine .cells (UE _ h6) (by rw[Ye,hlen];simpa [Sort.putCells] using AT) (fun j hj=>?_) (fun j hj=>?_) (by simpa [Sort.putCells] using hz)
    ·rw[Ye,hlen]at hj
     rw[aW j hj];rfl
    ·rw[Ye,hlen]at hj
     rw[aW j hj,Bh _ j af]
     exact .int _ _)
   rw[hHo]at bu
   exact ⟨_,g,rfl,bu,fun _ _=>rfl,.aX rfl fun j hj=>by simp at hj⟩
 ·have h0:l=[]:=List.eq_nil_of_length_eq_zero h3
  subst h0
  refine Calls.mono (Any.slices_Sort_int_none UD ad 0 w) ?_
  rintro e w' ⟨rfl,rfl⟩
  rw[show (([]:List Int).mergeSort fun x y=>decide (x≤y))=[] by simp]
  exact ⟨_,g,rfl,hR,fun _ _=>rfl,.aX rfl fun j hj=>by simp at hj⟩
theorem To.gf {p:List Nat} {s:St} {b:Nat} {kvs:List (AV × AV)} {dn:Bool} (hb:s.fs.H b=.aE kvs dn):To p s (s.aK b (.aE kvs false)):=fun c g a w _ hR=>⟨g,by rw[St.cK];exact hR.gf hb⟩
def kg (l D:List Tm):List Tm:=l.foldl (fun D t=>Yd t.id D) D
theorem Xp6 (l:List Tm) (t:Tm) (D:List Tm):kg (l++[t]) D=Yd t.id (kg l D):=by simp[kg]
theorem Ht {x:Int} {D:List Tm}:(Yd x D).Sublist D:=List.filter_sublist
theorem UF:∀ {l D:List Tm},(kg l D).Sublist D
 | [],D=>List.Sublist.refl _
 | t::l,D=>(UF (l:=l) (D:=Yd t.id D)).trans Ht
theorem Xj9 {l D:List Tm} (h:D.Pairwise fun a b=>a.id≠b.id):(kg l D).Pairwise fun a b=>a.id≠b.id:=h.sublist UF
def ids (l:List Tm):List Int:=l.map (·.id)
set_option maxRecDepth 20000 in
theorem Xxh (gl:Nat→AV) (T:WT) (D l:List Tm) (dn:Bool) (hlen:T.rows.length=65) (eJ:T.mb=.aE (br D) dn) (hd:D.Pairwise fun a b=>a.id≠b.id) (hl:l.length≤1000000) :
  GQ Tryz.prog gl 137 [.ptr 0 0,.isl l.length (a6 l)] T.h 67 [0,1] (fun _:Unit=>True) (fun _=>.isl l.length (Qp (uq (ids l)))) (fun _=>{ T with mb:=.aE (br (kg l D)) false }.h):=by
 have hT:=uA hlen eJ
 refine TK.gq (of_decide_eq_true rfl) (fun q hq=>Xf (((WT.HL hT).mem q hq).2)) au fun c aY hg=>?_
 conv in aO _ _=>cbv
 have aH:=fun n b hb=>WT.gV hT n (b:=b) hb
 have kK:=WT.eB hT
 have aV:=WT.len hT
 have dD:=Zp l
 have nI:T.h=(0,.cells T.cells)::(1,.aE (br D) dn)::Kd T.rows 0:=by rw[← eJ];rfl
 have jn:∀ k,WT.wf { T with mb:=.aE (br (kg (l.take k) D)) false }:=fun k=>⟨hlen,Uv 2 _⟩
 rw[nI]
 refine Qf ?_
 refine xA 5 1 rfl (by exact Qr @aH) ?_
 unfold St.named
 refine Yi (fun k:Nat=>k≤l.length) (fun k=>⟨[(0,.ptr 0 0),(5,.sl 1 67 0 k k),(8,.isl l.length (a6 l)),(9,.int .i64 l.length),(10,.int .i64 k)],(67,.cells (Qp (ids (l.take k))))::{ T with mb:=.aE (br (kg (l.take k) D)) false }.h,68⟩) (fun k=>l.length - k) TK.mixed [0,1] aY
  ⟨0,by omega,?_⟩ fun k hk=>?_
 ·refine To.trans (To.gf (b:=1) (kvs:=br D) (dn:=dn) rfl) (To.c6 (by exact Qs) fun b=>?_)
  show Qc ((67,.cells [])::(0,.cells T.cells)::(1,.aE (br D) false)::Kd T.rows 0) 68 b=Qc ((1,.aE (br D) false)::(67,.cells [])::(0,.cells T.cells)::(1,.aE (br D) dn)::Kd T.rows 0) 68 b
  simp only[Qd]
  (repeat' split)<;>first|rfl|omega
 have lP:=fun n b hb=>WT.gV (jn k) n (b:=b) hb
 have Gj:WT.cells { T with mb:=.aE (br (kg (l.take k) D)) false }=T.cells:=rfl
 have jH:WT.h { T with mb:=.aE (br (kg (l.take k) D)) false }=(0,.cells T.cells)::(1,.aE (br (kg (l.take k) D)) false)::Kd T.rows 0:=rfl
 rw[jH]
 refine Qf ?_
 (refine Qa (fun h1=>?_) (fun h1=>?_)<;>try exact h1.elim)
 ·have bB:k < l.length:=by omega
  have bg:=vS l k bB
  have eW:l.take (k + 1)=l.take k++[l[k]]:=by rw[List.take_succ];simp[bB]
  have dZ:=Bg (kg (l.take k) D)
  have dW:=pU l[k].id
  have yt:=UC (kg (l.take k) D) l[k].id (Xj9 hd)
  rw[← Xp6,← eW]at yt
  have Na:Qp (ids (l.take k))++[.int .i64 l[k].id]=Qp (ids (l.take (k + 1))):=by unfold Qp ids;rw[eW,List.map_append,List.map_append];rfl
  have mS:(Qp (ids (l.take k))).length=k:=by simp[Qp,ids];omega
  generalize l[k]=t at *
  refine Qh (An @dD (An @bg @aH)) ?_
  refine Zm @aH ?_
  refine Zm (An @aH (An @mS @Na)) ?_
  refine Qh (An @aH @kK) ?_
  ((first|refine Lj ke ?_|refine Lk ke ?_);(have aB:=@aH;have aQ:=@dZ;have a8:=@dW;have bU:=@yt;refine XG ?_;clear aB aQ a8 bU;((try (repeat' with_reducible refine And.intro ?_ ?_));(try any_goals (first|refine zm ?_|exact CL|fail)))))
  refine ⟨k + 1,by omega,To.M7 (ex:=[(67,.cells (Qp (ids (l.take (k + 1)))))]) [(67,70)] (jn (k + 1)) au af rfl rfl (fun b hb=>?_) ?_ ?_ au,by omega⟩
  ·show _=Qc ((0,.cells T.cells)::(1,.aE (br (kg (l.take (k + 1)) D)) false)::Kd T.rows 0) 67 b
   simp only[Qd]
   (repeat' split)<;>first|rfl|omega|(rw[yl,yl,hlen];(repeat' split)<;>first|rfl|omega)
  ·have:=uu (rl [(67,70)]) l
   exact Qs
  ·have:∀ n q,ai n (Qp q)=True:=fun n q=>by simp[Xj,Qp,Qe]
   exact Qr @this
 ·obtain rfl:k=l.length:=by omega
  have mS:ids (l.take l.length)=ids l:=by rw[List.take_length]
  have gW:(ids l).length=l.length:=by simp[ids]
  have DV:=Xza c.gl (ids l) (by simpa [ids] using hl)
  rw[gW]at DV
  rw[mS]
  refine Qh @aH ?_
  refine tO (ip [67]) DV @aH ?_
  refine ⟨(),(To.fC (b:=67) (i:=0) rfl rfl).trans (To.dz (T:={ T with mb:=.aE (br (kg l D)) false }) (ex:=[(67,.dead),(67,_),(67,_)]) ⟨hlen,Uv 2 _⟩ au au ?_)⟩
  have bg:((Qp ((ids l).mergeSort fun x y=>decide (x≤y))).drop 0).take (l.length * 1)=Qp (uq (ids l)):=by
   rw[List.drop_zero,List.take_of_length_le (by rw[Nat.mul_one];simp[Qp,ids])];rfl
  rw[bg]
  have h1:∀ n q,ai n (Qp q)=True:=fun n q=>by simp[Xj,Qp,Qe]
  have h2:∀ q,ay id (Qp q)=Qp q:=fun q=>Jp _
  exact Qr (An @h1 @h2)
end Go.Proofs.YtogckmommodmhaaGreatDoor
