import Derived.Test.YtogckmommodmhaaGreatDoorZv3
import Derived.Test.YtogckmommodmhaaGreatDoorZv5
import Derived.Test.YtogckmommodmhaaGreatDoorZv1
import Derived.Test.YtogckmommodmhaaGreatDoorZv6
import Derived.Test.YtogckmommodmhaaGreatDoorZv7
import Derived.Test.YtogckmommodmhaaGreatDoorRows
import Derived.KernelRfl
import Derived.Shelf.Sort.Plain
import Derived.Shelf.Slices.In.SortNone
namespace Go.Proofs.YtogckmommodmhaaGreatDoor
open Go.RowKit
set_option linter.all false
set_option linter.unusedSimpArgs false
set_option maxRecDepth 100000
structure Tm where
 id:Int
 due:Nat
 deriving DecidableEq,Inhabited
def AQ (now due:Nat):Nat→Nat→Nat
 | 0,_=>64
 | f + 1,k=>if due / 16 ^ k < now / 16 ^ k + 16 then k * 16 + due / 16 ^ k % 16 else AQ now due f (k + 1)
def Yy (now due:Nat):Nat:=AQ now due 4 0
theorem TG (now due:Nat):Yy now due=if due < now + 16 then due % 16 else if due / 16 < now / 16 + 16 then 16 + due / 16 % 16 else if due / 256 < now / 256 + 16 then 32 + due / 256 % 16 else if due / 4096 < now / 4096 + 16 then 48 + due / 4096 % 16 else 64:=by
 simp[Yy,AQ]
theorem vV (now due:Nat):Yy now due < 65:=by
 rw[TG];(repeat' split)<;>omega
def Pl (now i due:Nat):Prop :=
 if i < 16 then due % 16=i∧now≤due∧due < now + 16
 else if i < 32 then due / 16 % 16=i - 16∧now / 16 < due / 16∧due / 16 < now / 16 + 16
 else if i < 48 then due / 256 % 16=i - 32∧now / 256 < due / 256∧due / 256 < now / 256 + 16
 else if i < 64 then due / 4096 % 16=i - 48∧now / 4096 < due / 4096∧due / 4096 < now / 4096 + 16
 else now / 65536 < due / 65536
theorem MA {now due:Nat} (h:now≤due):Pl now (Yy now due) due:=by
 rw[TG]
 unfold Pl
 split
 ·rw[if_pos af];omega
 split
 ·rw[if_neg af,if_pos af];omega
 split
 ·rw[if_neg af,if_neg af,if_pos af];omega
 split
 ·rw[if_neg af,if_neg af,if_neg af,if_pos af];omega
 ·rw[if_neg af,if_neg af,if_neg af,if_neg af];omega
def pQ (now L i due:Nat):Prop :=
 if i < 16 then due % 16=i∧now≤due∧due < now + 16
 else if i < 32 then due / 16 % 16=i - 16∧(now - 1) / 16 < due / 16∧due / 16 < now / 16 + 16∧(1 < L→now / 16 < due / 16)
 else if i < 48 then due / 256 % 16=i - 32∧(now - 1) / 256 < due / 256∧due / 256 < now / 256 + 16∧(2 < L→now / 256 < due / 256)
 else if i < 64 then due / 4096 % 16=i - 48∧(now - 1) / 4096 < due / 4096∧due / 4096 < now / 4096 + 16∧(3 < L→now / 4096 < due / 4096)
 else (now - 1) / 65536 < due / 65536∧(4 < L→now / 65536 < due / 65536)
theorem Pl.g {now L i due:Nat} (h:Pl now i due):pQ now L i due:=by
 unfold Pl at h
 unfold pQ
 (repeat' split)<;>(first|(rw[if_pos (by omega)]at h;omega)|(rw[if_neg (by omega),if_pos (by omega)]at h;omega)|(rw[if_neg (by omega),if_neg (by omega),if_pos (by omega)]at h;omega)|(rw[if_neg (by omega),if_neg (by omega),if_neg (by omega),if_pos (by omega)]at h;omega)|(rw[if_neg (by omega),if_neg (by omega),if_neg (by omega),if_neg (by omega)]at h;omega))
theorem Pl.next {now i due:Nat} (h:Pl now i due) (hd:now < due):pQ (now + 1) 1 i due:=by
 unfold Pl at h
 unfold pQ
 (repeat' split)<;>(first|(rw[if_pos (by omega)]at h;omega)|(rw[if_neg (by omega),if_pos (by omega)]at h;omega)|(rw[if_neg (by omega),if_neg (by omega),if_pos (by omega)]at h;omega)|(rw[if_neg (by omega),if_neg (by omega),if_neg (by omega),if_pos (by omega)]at h;omega)|(rw[if_neg (by omega),if_neg (by omega),if_neg (by omega),if_neg (by omega)]at h;omega))
structure RI (P:Nat→Nat→Prop) (rows:List (List Tm)) (D:List Tm):Prop where
 len:rows.length=65
 perm:rows.flatten.Perm D
 pl:∀ i,i < 65→∀ t ∈ rows.getD i [],P i t.due
theorem AR (rows:List (List Tm)) {i:Nat} (hi:i < rows.length) (l:List Tm) (j:Nat):(rows.set i l).getD j []=if j=i then l else rows.getD j []:=by
 simp only[List.getD,List.getElem?_set]
 by_cases e:i=j
 ·subst e;rw[if_pos rfl,if_pos hi,if_pos rfl];rfl
 ·rw[if_neg e,if_neg fun q=>e q.symm]
theorem MC:∀ (rows:List (List Tm)) (i:Nat),i < rows.length→∀ l,(rows.set i l).flatten.Perm (l++(rows.set i []).flatten)
 | r::rows,0,_,l=>by simp
 | r::rows,i + 1,h,l=>by
  simp only[List.set_cons_succ,List.flatten_cons]
  refine ((MC rows i (by simpa using h) l).append_left r).trans ?_
  rw[← List.append_assoc,← List.append_assoc]
  exact List.perm_append_comm.append_right _
theorem GL {rows:List (List Tm)} {i:Nat} (h:i < rows.length):rows.getD i []=rows[i]:=by simp[List.getD,h]
theorem Xwp (rows:List (List Tm)) (i:Nat) (h:i < rows.length):rows.set i (rows.getD i [])=rows:=by
 rw[GL h,List.set_getElem_self]
theorem xW (rows:List (List Tm)) (i:Nat) (h:i < rows.length):rows.flatten.Perm (rows.getD i []++(rows.set i []).flatten):=by
 have:=MC rows i h (rows.getD i [])
 rwa [Xwp rows i h]at this
def Xh (now:Nat) (rows:List (List Tm)) (t:Tm):List (List Tm):=rows.set (Yy now t.due) (rows.getD (Yy now t.due) []++[t])
theorem Xri (now:Nat) (rows:List (List Tm)) (t:Tm):(Xh now rows t).length=rows.length:=by simp[Xh]
theorem RI.lay {P:Nat→Nat→Prop} {rows:List (List Tm)} {D:List Tm} (h:RI P rows D) {now:Nat} {t:Tm} (ht:P (Yy now t.due) t.due):RI P (Xh now rows t) (t::D):=by
 have hl:=h.len
 have hs:=vV now t.due
 refine ⟨by rw[Xri,hl],?_,fun i hi x hx=>?_⟩
 ·unfold Xh
  refine (MC rows _ af _).trans ?_
  refine (List.Perm.trans ?_ (List.Perm.cons t ((xW rows (Yy now t.due) af).symm.trans h.perm)))
  rw[List.append_assoc]
  exact List.perm_middle
 ·unfold Xh at hx
  rw[AR _ af]at hx
  split at hx
  ·rename_i e
   rcases List.mem_append.1 hx with hx|hx
   ·exact h.pl i hi x (by rw[e];exact hx)
   ·obtain rfl:=List.mem_singleton.1 hx
    rw[e];exact ht
  ·exact h.pl i hi x hx
theorem RI.jz {P:Nat→Nat→Prop} {now:Nat}:∀ (l:List Tm) {rows:List (List Tm)} {D:List Tm},RI P rows D→(∀ t ∈ l,P (Yy now t.due) t.due)→RI P (l.foldl (Xh now) rows) (l.reverse++D)
 | [],_,_,h,_=>h
 | t::l,rows,D,h,hl=>by
  have:=RI.jz l (h.lay (hl t av)) fun x hx=>hl x (by simp[hx])
  simpa using this
theorem RI.iB {P:Nat→Nat→Prop} {rows:List (List Tm)} {D D':List Tm} (h:RI P rows D) (hp:D.Perm D'):RI P rows D':=⟨h.len,h.perm.trans hp,h.pl⟩
theorem RI.mono {P P':Nat→Nat→Prop} {rows:List (List Tm)} {D:List Tm} (h:RI P rows D) (hp:∀ i,i < 65→∀ t ∈ rows.getD i [],P i t.due→P' i t.due):RI P' rows D:=⟨h.len,h.perm,fun i hi t ht=>hp i hi t ht (h.pl i hi t ht)⟩
theorem MD {P:Nat→Nat→Prop} {rows:List (List Tm)} {D:List Tm} (h:RI P rows D) {i:Nat} (hi:i < 65) {t:Tm} (ht:t ∈ rows.getD i []):t ∈ D:=by
 have hl:=h.len
 exact h.perm.mem_iff.1 ((xW rows i af).mem_iff.2 (List.mem_append_left _ ht))
def cb (now:Nat) (rows:List (List Tm)) (i:Nat):List (List Tm):=(rows.getD i []).foldl (Xh now) (rows.set i [])
theorem RI.cb {P:Nat→Nat→Prop} {rows:List (List Tm)} {D:List Tm} (h:RI P rows D) {now i:Nat} (hi:i < 65) (hP:∀ t ∈ rows.getD i [],P (Yy now t.due) t.due):RI P (cb now rows i) D:=by
 have hl:=h.len
 have h0:RI P (rows.set i []) (rows.set i []).flatten:=⟨by simp[hl],List.Perm.refl _,fun j hj t ht=>by
  rw[AR _ af]at ht
  split at ht
  ·cases ht
  ·exact h.pl j hj t ht⟩
 refine (RI.jz _ h0 hP).iB (List.Perm.trans ?_ ((xW rows i af).symm.trans h.perm))
 exact (List.reverse_perm _).append_right _
def nJ (now L:Nat):Nat:=if L < 4 then L * 16 + now / 16 ^ L % 16 else 64
def Jl (now:Nat):Nat→Nat→List (List Tm)→List (List Tm)
 | 0,_,rows=>rows
 | f + 1,L,rows=>if now % 16 ^ L=0 then Jl now f (L + 1) (cb now rows (nJ now L)) else rows
theorem RI.ME {rows:List (List Tm)} {D:List Tm} {now L:Nat} (h:RI (pQ now L) rows D) (hD:∀ t ∈ D,now≤t.due) (h0:0 < now) (h1:1≤L) (h4:L≤4) (hm:now % 16 ^ L=0):RI (pQ now (L + 1)) (Proofs.YtogckmommodmhaaGreatDoor.cb now rows (nJ now L)) D:=by
 have hi:nJ now L < 65:=by unfold nJ;split<;>omega
 have hl:=h.len
 have key:∀ j,j < 65→∀ t ∈ (rows.set (nJ now L) []).getD j [],pQ now (L + 1) j t.due:=fun j hj t ht=>by
  rw[AR _ af]at ht
  split at ht
  ·cases ht
  ·rename_i bN
   have hp:=h.pl j hj t ht
   unfold nJ at bN
   unfold pQ at hp ⊢
   obtain rfl|rfl|rfl|rfl:L=1∨L=2∨L=3∨L=4:=by omega
   all_goals simp only[Nat.reducePow,Nat.reduceLT,↓reduceIte,Nat.reduceMul,Nat.reduceAdd,Nat.reduceLeDiff]at hm bN hp ⊢
   all_goals (repeat' split)<;>(first|(rw[if_pos (by omega)]at hp;omega)|(rw[if_neg (by omega),if_pos (by omega)]at hp;omega)|(rw[if_neg (by omega),if_neg (by omega),if_pos (by omega)]at hp;omega)|(rw[if_neg (by omega),if_neg (by omega),if_neg (by omega),if_pos (by omega)]at hp;omega)|(rw[if_neg (by omega),if_neg (by omega),if_neg (by omega),if_neg (by omega)]at hp;omega))
 have hs:RI (pQ now (L + 1)) (rows.set (nJ now L) []) (rows.set (nJ now L) []).flatten:=⟨by simp[hl],List.Perm.refl _,key⟩
 have:=RI.jz (rows.getD (nJ now L) []) hs (now:=now) fun t ht=>(MA (hD t (MD h hi ht))).g
 refine this.iB (List.Perm.trans ?_ ((xW rows (nJ now L) af).symm.trans h.perm))
 exact (List.reverse_perm _).append_right _
theorem RI.done {rows:List (List Tm)} {D:List Tm} {now L:Nat} (h:RI (pQ now L) rows D) (h0:0 < now) (hL:1≤L) (hm:L≤4→now % 16 ^ L≠0):RI (Pl now) rows D:=by
 refine h.mono fun i hi t ht hp=>?_
 unfold pQ at hp
 unfold Pl
 obtain rfl|rfl|rfl|rfl|h5:L=1∨L=2∨L=3∨L=4∨5≤L:=by omega
 all_goals try simp only[Nat.reducePow,Nat.reduceLeDiff,ne_eq,forall_const]at hm
 all_goals (repeat' split)<;>(first|(rw[if_pos (by omega)]at hp;omega)|(rw[if_neg (by omega),if_pos (by omega)]at hp;omega)|(rw[if_neg (by omega),if_neg (by omega),if_pos (by omega)]at hp;omega)|(rw[if_neg (by omega),if_neg (by omega),if_neg (by omega),if_pos (by omega)]at hp;omega)|(rw[if_neg (by omega),if_neg (by omega),if_neg (by omega),if_neg (by omega)]at hp;omega))
theorem RI.step {rows:List (List Tm)} {D:List Tm} {now:Nat} (hD:∀ t ∈ D,now≤t.due) (h0:0 < now):∀ (f L:Nat) (rows:List (List Tm)),f + L=5→1≤L→RI (pQ now L) rows D→RI (Pl now) (Jl now f L rows) D
 | 0,L,rows,hf,hL,h=>h.done h0 hL af
 | f + 1,L,rows,hf,hL,h=>by
  unfold Jl
  split
  ·rename_i hm
   exact RI.step (rows:=rows) hD h0 f (L + 1) _ af af (h.ME hD h0 hL af hm)
  ·rename_i hm
   exact h.done h0 hL fun _=>hm
theorem RI.tick {rows:List (List Tm)} {D:List Tm} {now:Nat} (h:RI (Pl now) rows D) (hD:∀ t ∈ D,now < t.due):RI (Pl (now + 1)) (Jl (now + 1) 4 1 rows) D :=
 RI.step (rows:=rows) (fun t ht=>hD t ht) af 4 1 rows rfl af (h.mono fun i hi t ht hp=>hp.next (hD t (MD h hi ht)))
theorem RI.Dt {D l:List Tm} {now:Nat} (hl:l.Perm D) (hD:∀ t ∈ D,now≤t.due):RI (Pl now) (l.foldl (Xh now) (List.replicate 65 [])) D:=by
 have h0:RI (Pl now) (List.replicate 65 []) []:=⟨by simp,by simp,fun i hi t ht=>by
  have:(List.replicate 65 ([]:List Tm)).getD i []=[]:=by rw[List.getD,List.getElem?_replicate,if_pos hi];rfl
  rw[this]at ht;cases ht⟩
 have:=RI.jz l h0 (now:=now) fun t ht=>MA (hD t (hl.mem_iff.1 ht))
 rw[List.append_nil]at this
 exact this.iB ((List.reverse_perm l).trans hl)
theorem RI.nK {rows:List (List Tm)} {D:List Tm} {now:Nat} (h:RI (Pl now) rows D):(rows.getD (now % 16) []).Perm (D.filter fun t=>t.due == now)∧RI (Pl now) (rows.set (now % 16) []) (D.filter fun t=>!(t.due == now)):=by
 have hl:=h.len
 have hi:now % 16 < 65:=by omega
 have e1:(rows.getD (now % 16) []).filter (fun t=>t.due == now)=rows.getD (now % 16) []:=List.filter_eq_self.2 fun t ht=>by
  have:=h.pl _ hi t ht
  unfold Pl at this
  rw[if_pos af]at this
  exact beq_iff_eq.2 af
 have off:∀ t ∈ (rows.set (now % 16) []).flatten,t.due≠now:=fun t ht e=>by
  obtain ⟨r,hr,ht⟩:=List.mem_flatten.1 ht
  obtain ⟨j,hj,rfl⟩:=List.mem_iff_getElem.1 hr
  rw[List.length_set]at hj
  have hg:t ∈ (rows.set (now % 16) []).getD j []:=by rw[GL (by rw[List.length_set];exact hj)];exact ht
  rw[AR _ af]at hg
  split at hg
  ·cases hg
  ·rename_i bN
   have:=h.pl j af t hg
   unfold Pl at this
   subst e
   (repeat' split at this)<;>omega
 have e2:(rows.set (now % 16) []).flatten.filter (fun t=>t.due == now)=[]:=List.filter_eq_nil_iff.2 fun t ht=>by simpa using off t ht
 have e3:(rows.set (now % 16) []).flatten.filter (fun t=>!(t.due == now))=(rows.set (now % 16) []).flatten:=List.filter_eq_self.2 fun t ht=>by simpa using off t ht
 have e4:(rows.getD (now % 16) []).filter (fun t=>!(t.due == now))=[]:=List.filter_eq_nil_iff.2 fun t ht=>by
  have:=(List.filter_eq_self.1 e1) t ht
  simpa using this
 have hp:=(xW rows (now % 16) af).symm.trans h.perm
 constructor
 ·have:=hp.filter fun t=>t.due == now
  rwa [List.filter_append,e1,e2,List.append_nil]at this
 ·refine ⟨by simp[hl],?_,fun j hj t ht=>?_⟩
  ·have:=hp.filter fun t=>!(t.due == now)
   rwa [List.filter_append,e3,e4,List.nil_append]at this
  ·rw[AR _ af]at ht
   split at ht
   ·cases ht
   ·exact h.pl j hj t ht
theorem RI.filter {P:Nat→Nat→Prop} {rows:List (List Tm)} {D:List Tm} (h:RI P rows D) (p:Tm→Bool):RI P (rows.map (List.filter p)) (D.filter p):=by
 refine ⟨by simp[h.len],?_,fun i hi t ht=>?_⟩
 ·rw[← List.filter_flatten];exact h.perm.filter p
 ·have hl:=h.len
  rw[GL (by simp;omega),List.getElem_map]at ht
  have:=(List.mem_filter.1 ht).1
  rw[← GL af]at this
  exact h.pl i hi t this
theorem RI.eA {P:Nat→Nat→Prop} {rows:List (List Tm)} {D:List Tm} (h:RI P rows D) {i:Nat} (hi:i < 65):(rows.getD i []).length≤D.length:=by
 have hl:=h.len
 have:=((xW rows i af).symm.trans h.perm).length_eq
 rw[List.length_append]at this
 omega
def nL (a b:Tm):Bool:=decide (a.due < b.due) || (a.due == b.due && decide (a.id≤b.id))
theorem AS {a b:Tm}:nL a b=true ↔ a.due < b.due∨a.due=b.due∧a.id≤b.id:=by simp[nL]
theorem Xjb (a b c:Tm) (h1:nL a b=true) (h2:nL b c=true):nL a c=true:=by
 rw[AS]at *;omega
theorem Xof (a b:Tm):(nL a b || nL b a)=true:=by
 rw[Bool.or_eq_true,AS,AS];omega
theorem Xss {a b:Tm} (h1:nL a b=true) (h2:nL b a=true):a=b:=by
 rw[AS]at *
 cases a;cases b
 simp only[Tm.mk.injEq]at *
 omega
def rn (l:List Tm):List Tm:=l.mergeSort nL
theorem Wq (l:List Tm):(rn l).Perm l:=List.mergeSort_perm l nL
theorem Du (l:List Tm):(rn l).Pairwise fun a b=>nL a b=true:=List.pairwise_mergeSort Xjb Xof l
theorem TH {l m:List Tm} (hp:m.Perm l) (hm:m.Pairwise fun a b=>nL a b=true):rn l=m :=
 List.Perm.eq_of_pairwise (fun _ _ _ _ h1 h2=>Xss h1 h2) (Du l) hm ((Wq l).trans hp.symm)
theorem Xah {l m:List Tm} (hp:m.Perm l):rn m=rn l:=(TH ((Wq m).trans hp) (Du m)).symm
def bj (D:List Tm) (n:Nat):List Int:=(rn (D.filter fun t=>decide (t.due < n))).map (·.id)
def uE (l:List Int):List Int:=l.mergeSort fun x y=>decide (x≤y)
theorem Xgc {l m:List Int} (hp:m.Perm l) (hm:m.Pairwise (·≤·)):uE l=m:=by
 refine List.Perm.eq_of_pairwise (le:=fun a b:Int=>a≤b) (fun _ _ _ _ h1 h2=>by omega) ?_ hm ((List.mergeSort_perm l _).trans hp.symm)
 have:=List.pairwise_mergeSort (le:=fun x y:Int=>decide (x≤y)) (fun a b c h1 h2=>by simp at *;omega) (fun a b=>by simp;omega) l
 exact this.imp fun h=>by simpa using h
theorem Qor {l:List Tm} {n:Nat} (hn:∀ t ∈ l,t.due=n) (h:l.Pairwise fun a b=>nL a b=true):(l.map (·.id)).Pairwise (·≤·):=by
 rw[List.pairwise_map]
 refine h.imp_of_mem fun {a b} ha hb Dv=>?_
 have:=hn a ha;have:=hn b hb
 rw[AS]at Dv;omega
theorem Xl9 (D:List Tm) (n:Nat) (l:List Tm) (hl:l.Perm (D.filter fun t=>t.due == n)):bj D (n + 1)=bj D n++uE (l.map (·.id)):=by
 have h1:rn (D.filter fun t=>decide (t.due < n + 1))=rn (D.filter fun t=>decide (t.due < n))++rn (D.filter fun t=>t.due == n):=by
  refine TH ?_ ?_
  ·refine ((Wq _).append (Wq _)).trans ?_
   have:=List.filter_append_perm (fun t:Tm=>decide (t.due < n)) (D.filter fun t=>decide (t.due < n + 1))
   rw[List.filter_filter,List.filter_filter]at this
   refine List.Perm.trans (List.Perm.of_eq ?_) this
   congr 1
   ·exact List.filter_congr fun t _=>by by_cases h:t.due < n<;>simp[h]<;>omega
   ·refine List.filter_congr fun t _=>?_
    by_cases h:t.due=n
    ·simp[h]
    ·have:(t.due == n)=false:=by simpa using h
     rw[this]
     by_cases h2:t.due < n
     ·simp[h2]
     ·have h3:¬ t.due < n + 1:=by omega
      simp[h3]
  ·refine List.pairwise_append.2 ⟨Du _,Du _,fun a ha b hb=>?_⟩
   have ha:=(List.mem_filter.1 ((Wq _).mem_iff.1 ha)).2
   have hb:=(List.mem_filter.1 ((Wq _).mem_iff.1 hb)).2
   rw[AS]
   simp at ha hb;omega
 have h2:uE (l.map (·.id))=(rn (D.filter fun t=>t.due == n)).map (·.id) :=
  Xgc (((Wq _).trans hl.symm).map _) (Qor (n:=n) (fun t ht=>by
   have:=(List.mem_filter.1 ((Wq _).mem_iff.1 ht)).2
   simpa using this) (Du _))
 unfold bj
 rw[h1,List.map_append,h2]
theorem Xo2 (D:List Tm) {n m:Nat} (fc:n≤m) (h:∀ t ∈ D,n≤t.due→m≤t.due):bj D m=bj D n:=by
 unfold bj
 rw[List.filter_congr fun t ht=>(by have:=h t ht;by_cases h1:t.due < n<;>by_cases h2:t.due < m<;>simp[h1,h2]<;>omega:decide (t.due < m)=decide (t.due < n))]
theorem Xo1 (D:List Tm) (n:Nat) (h:∀ t ∈ D,n≤t.due):bj D n=[]:=by
 unfold bj
 rw[List.filter_eq_nil_iff.2 fun t ht=>(by have:=h t ht;simp;omega)]
 simp[rn]
theorem Yb5:FT Tryz.prog 70 Tryz.f70 (aQ Tryz.prog Tryz.f70) [.t 2,.t 3]:=.of Tryz.func70
theorem MF:FT Tryz.prog 131 Tryz.f131 (aQ Tryz.prog Tryz.f131) [.t 6]:=.of Tryz.func131
theorem MG:FT Tryz.prog 98 Tryz.f98 (aQ Tryz.prog Tryz.f98) [.t 4,.t 5]:=.of Tryz.func98
theorem Xyw:FT Tryz.prog 63 Tryz.f63 (aQ Tryz.prog Tryz.f63) [.t 2]:=.of Tryz.func63
theorem GN:FT Tryz.prog 164 Tryz.f164 (aQ Tryz.prog Tryz.f164) [.t 4]:=.of Tryz.func164
theorem TI:FT Tryz.prog 165 Tryz.f165 (aQ Tryz.prog Tryz.f165) []:=.of Tryz.func165
theorem TJ:FT Tryz.prog 137 Tryz.f137 (aQ Tryz.prog Tryz.f137) [.t 4]:=.of Tryz.func137
theorem MH:FT Tryz.prog 138 Tryz.f138 (aQ Tryz.prog Tryz.f138) []:=.of Tryz.func138
theorem AT:FT Tryz.prog 139 Tryz.f139 (aQ Tryz.prog Tryz.f139) []:=.of Tryz.func139
theorem Ybd:FT Tryz.prog 176 Tryz.f176 (aQ Tryz.prog Tryz.f176) [.t 3]:=.of Tryz.func176
theorem TK:FT Tryz.prog 177 Tryz.f177 (aQ Tryz.prog Tryz.f177) [.t 4]:=.of Tryz.func177
theorem TL:FT Tryz.prog 181 Tryz.f181 (aQ Tryz.prog Tryz.f181) [.t 4]:=.of Tryz.func181
theorem Ydb (Q:AV × AV→Prop) (a:AV × AV) (l:List (AV × AV)):(∀ x,x ∈ a::l→Q x)=(Q a∧∀ x,x ∈ l→Q x):=propext List.forall_mem_cons
theorem Yd4 (Q:AV × AV→Prop):(∀ x,x ∈ ([]:List (AV × AV))→Q x)=True:=by simp
theorem Xoj (s:FS):fY s []=.aU []:=rfl
theorem Xau (ρ:Nat→Nat) (kvs:List (AV × AV)) (dn:Bool):Xg ρ (.aC kvs dn)=.aC (kvs.map fun p=>(aE ρ p.1,aE ρ p.2)) dn:=rfl
attribute [go_sem] Ydb Yd4 Xoj Xau
theorem ke:dk Tryz.prog 147 false [.int .i64] (.int .i64 0):=dk.mk' (by kernel_rfl)
def TM (n:Int):List AV:=[.int .i64 n,.nils,.nils,.nils,.nils,.nils,.nils,.nils,.nils,.nils,.nils,.nils,.nils,.nils,.nils,.nils,.nils,.nils,.nils,.nils,.nils,.nils,.nils,.nils,.nils,.nils,.nils,.nils,.nils,.nils,.nils,.nils,.nils,.nils,.nils,.nils,.nils,.nils,.nils,.nils,.nils,.nils,.nils,.nils,.nils,.nils,.nils,.nils,.nils,.nils,.nils,.nils,.nils,.nils,.nils,.nils,.nils,.nils,.nils,.nils,.nils,.nils,.nils,.nils,.nils,.nils,.mp 1]
theorem Yag (gl:Nat→AV) (n:Int) (h0:0≤n) (h1:n≤1099511627776):GS Tryz.prog gl 70 [.int .i64 n] [] 0 (.aU [.ptr 0 0,.int .i64 0]) [(0,.cells (TM n)),(1,.aC [] true)] 2:=by
 refine Yb5.gs (of_decide_eq_true rfl) (by simp[Bk.live]) fun c a7 hg=>?_
 conv in aQ _ _=>cbv
 refine Qg ?_
 (refine Qa (fun h2=>?_) (fun h2=>?_)<;>try exact h2.elim)
 ·omega
 refine Qg ?_
 (refine KR ke ?_;(refine XG ?_;((try (repeat' with_reducible refine And.intro ?_ ?_));(try any_goals (first|refine zm ?_|exact CL|fail)))))
 refine ⟨[(0,1),(1,0)],?_⟩
 exact Qu @TM.eq_1
def bb:List Tm→List AV
 | []=>[]
 | t::l=>.int .i64 t.id::.int .i64 t.due::bb l
theorem Zq:∀ l,(bb l).length=l.length * 2
 | []=>rfl
 | t::l=>by simp[bb,Zq l];omega
theorem uF:∀ l m,bb (l++m)=bb l++bb m
 | [],m=>rfl
 | t::l,m=>by simp[bb,uF l m]
theorem pR (n:Nat):∀ l,ai n (bb l)=True
 | []=>by simp[bb,ai]
 | t::l=>by simp[bb,ai,Qe,pR n l]
theorem uG (ρ:Nat→Nat):∀ l,az ρ (bb l)=bb l
 | []=>by simp[bb,az]
 | t::l=>by simp[bb,az,aE,uG ρ l]
theorem TN (S:Nat→Prop):∀ l,cT S (bb l)=True
 | []=>by simp[bb,cT]
 | t::l=>by simp[bb,cT,cP,TN S l]
theorem vW:∀ (l:List Tm) (i:Nat) (h:i < l.length),((bb l).drop (i * 2)).take 2=[.int .i64 l[i].id,.int .i64 l[i].due]
 | t::l,0,_=>rfl
 | t::l,i + 1,h=>by
  have:=vW l i (by simpa using h)
  rw[show (i + 1) * 2=i * 2 + 1 + 1 by omega]
  simpa [bb] using this
attribute [go_sem] pR uG
def oS (l:List Tm):List (List AV):=l.map fun t=>[.int .i64 t.id,.int .i64 t.due]
theorem MI:∀ l,(oS l).flatten=bb l
 | []=>rfl
 | t::l=>by
  have:=MI l
  simp only[oS]at this
  simp[oS,bb,this]
theorem Ycx (l:List Tm):∀ x ∈ oS l,ai 0 x:=fun x hx=>by
 obtain ⟨t,_,rfl⟩:=List.mem_map.1 hx
 simp[ai,Qe]
theorem Qxc {α β:Type} (f:α→β):∀ {l' l:List β},l'.Perm l→∀ l0:List α,l=l0.map f→∃ l1:List α,l1.Perm l0∧l'=l1.map f:=fun {l' l} h=>by
 induction h with
 | nil=>intro l0 e;exact ⟨[],by cases l0<;>simp_all,rfl⟩
 | cons x h ih =>
  intro l0 e
  cases l0 with
  | nil=>simp at e
  | cons a l0 =>
   simp only[List.map_cons,List.cons.injEq]at e
   obtain ⟨l1,h1,h2⟩:=ih l0 e.2
   exact ⟨a::l1,h1.cons a,by rw[h2,e.1];rfl⟩
 | swap x y l =>
  intro l0 e
  match l0,e with
  | a::b::l0,e =>
   simp only[List.map_cons,List.cons.injEq]at e
   exact ⟨b::a::l0,List.Perm.swap a b l0,by simp[e.1,e.2.1,e.2.2]⟩
 | trans h1 h2 MJ MK =>
  intro l0 e
  obtain ⟨l1,h3,h4⟩:=MK l0 e
  obtain ⟨l2,h5,h6⟩:=MJ l1 h4
  exact ⟨l2,h5.trans h3,h6⟩
theorem Xyl {g:Nat→GM} {W:Nat→Prop} {w:World} {m:GM} {l:List Tm} (h:BR g W w m (.db (oS l))):∃ l':List Tm,l'.Perm l∧BR g W w m (.cells (bb l')):=by
 cases h with
 | db hp h =>
  obtain ⟨l',h1,h2⟩:=Qxc _ hp l rfl
  rw[h2]at h
  exact ⟨l',h1,by rw[← MI];exact h⟩
theorem TO {g:Nat→GM} {W:Nat→Prop} {w:World} {m:GM} {l l':List Tm} (h:BR g W w m (.cells (bb l'))) (hp:l'.Perm l):BR g W w m (.db (oS l)):=by
 rw[← MI]at h
 exact .db (hp.map _) h
def lE:List (List Tm)→Nat→List AV
 | [],_=>[]
 | r::l,k=>.sl 2 (2 + k) 0 r.length r.length::lE l (k + 1)
def Kg:List (List Tm)→Nat→List (Nat × Bk)
 | [],_=>[]
 | r::l,k=>(2 + k,.cells (bb r))::Kg l (k + 1)
structure WT where
 now:Nat
 rows:List (List Tm)
 mb:Bk
def WT.row (T:WT) (i:Nat):List Tm:=T.rows.getD i []
def WT.cells (T:WT):List AV:=.int .i64 T.now::(lE T.rows 0++[.mp 1])
def WT.h (T:WT):List (Nat × Bk):=(0,.cells T.cells)::(1,T.mb)::Kg T.rows 0
def uH:List (List Tm)→Nat→List (Nat × Bk)
 | [],_=>[]
 | r::l,k=>(2 + k,.db (oS r))::uH l (k + 1)
def WT.hb (T:WT):List (Nat × Bk):=(0,.cells T.cells)::(1,T.mb)::uH T.rows 0
structure WT.iC (T' T:WT):Prop where
 now:T'.now=T.now
 mb:T'.mb=T.mb
 len:T'.rows.length=T.rows.length
 row:∀ i,(T'.row i).Perm (T.row i)
theorem WT.rq (T:WT):T.iC T:=⟨rfl,rfl,rfl,fun _=>List.Perm.refl _⟩
theorem TP:∀ (l l':List (List Tm)) (k:Nat),l.length=l'.length→(∀ i,(l.getD i []).Perm (l'.getD i []))→lE l k=lE l' k
 | [],[],_,_,_=>rfl
 | r::l,r'::l',k,hl,h=>by
  have h0:=(h 0).length_eq
  simp only[List.getD_cons_zero]at h0
  simp only[lE,h0]
  rw[TP l l' (k + 1) (by simpa using hl) fun i=>by have:=h (i + 1);simpa only[List.getD_cons_succ] using this]
theorem WT.dq {T T':WT} (h:T'.iC T):T'.cells=T.cells:=by
 unfold WT.cells
 rw[h.now,TP _ _ 0 h.len h.row]
def WT.put (T:WT) (i:Nat) (l:List Tm):WT:={ T with rows:=T.rows.set i l }
structure WT.wf (T:WT):Prop where
 len:T.rows.length=65
 mb:bJ 2 T.mb
theorem WT.de {T:WT} (h:T.wf) (i:Nat) (l:List Tm):(T.put i l).wf:=⟨by simp[WT.put,h.len],h.mb⟩
theorem WT.gw {T:WT} (h:T.wf) {i:Nat} (hi:i < 65) (l:List Tm) (j:Nat):(T.put i l).row j=if j=i then l else T.row j:=by
 have hl:=h.len
 unfold WT.row WT.put
 simp only[List.getD,List.getElem?_set]
 by_cases e:i=j
 ·subst e;rw[if_pos rfl,if_pos af,if_pos rfl];rfl
 ·rw[if_neg e,if_neg (fun q=>e q.symm)]
theorem AU:∀ (l:List (List Tm)) (k:Nat),(lE l k).length=l.length
 | [],_=>rfl
 | r::l,k=>by simp[lE,AU l (k + 1)]
theorem TQ:∀ (l:List (List Tm)) (k i:Nat),i < l.length→(lE l k)[i]?=some (.sl 2 (2 + (k + i)) 0 (l.getD i []).length (l.getD i []).length)
 | r::l,k,0,_=>by simp[lE]
 | r::l,k,i + 1,h=>by
  have:=TQ l (k + 1) i (by simpa using h)
  rw[show k + (i + 1)=k + 1 + i by omega]
  simpa [lE] using this
theorem TR:∀ (l:List (List Tm)) (k i:Nat) (r:List Tm),i < l.length→(lE l k).set i (.sl 2 (2 + (k + i)) 0 r.length r.length)=lE (l.set i r) k
 | q::l,k,0,r,_=>by simp[lE]
 | q::l,k,i + 1,r,h=>by
  have:=TR l (k + 1) i r (by simpa using h)
  rw[show k + (i + 1)=k + 1 + i by omega]
  simpa [lE] using this
theorem WT.len {T:WT} (h:T.wf):T.cells.length=67:=by simp[WT.cells,AU,h.len]
theorem WT.il (T:WT):T.cells.getD 0 .any=.int .i64 T.now:=rfl
theorem WT.eJ {T:WT} (h:T.wf):T.cells.getD 66 .any=.mp 1:=by
 have hl:=h.len
 unfold WT.cells
 rw[List.getD_cons_succ,List.getD_eq_getElem?_getD,List.getElem?_append_right (by rw[AU];omega),AU,hl];rfl
theorem WT.fH {T:WT} (h:T.wf) {i:Nat} (hi:i < 65):T.cells.getD (i + 1) .any=.sl 2 (2 + i) 0 (T.row i).length (T.row i).length:=by
 have hl:=h.len
 unfold WT.cells WT.row
 rw[List.getD_cons_succ,List.getD_eq_getElem?_getD,List.getElem?_append_left (by rw[AU];omega),TQ _ _ _ af,Nat.zero_add];rfl
theorem WT.ML {T:WT} (h:T.wf) {i:Nat} (hi:i < 65) (l:List Tm):T.cells.set (i + 1) (.sl 2 (2 + i) 0 l.length l.length)=(T.put i l).cells:=by
 have hl:=h.len
 unfold WT.cells WT.put
 rw[List.set_cons_succ,List.set_append_left _ _ (by rw[AU];omega)]
 have:=TR T.rows 0 i l af
 rw[Nat.zero_add]at this
 rw[this]
theorem WT.MM (T:WT) (n:Nat):T.cells.set 0 (.int .i64 n)={ T with now:=n }.cells:=rfl
theorem TU:∀ (l:List (List Tm)) (k n:Nat),2 + k + l.length≤n→ai n (lE l k)
 | [],_,_,_=>by simp[lE,ai]
 | r::l,k,n,h=>by
  simp only[lE,ai,Qe]
  simp only[List.length_cons]at h
  exact ⟨by omega,TU l (k + 1) n af⟩
theorem WT.nm {T:WT} (h:T.wf) {n:Nat} (hn:67≤n):ai n T.cells:=by
 have hl:=h.len
 rw[Xv]
 intro x hx
 unfold WT.cells at hx
 rcases List.mem_cons.1 hx with rfl|hx
 ·simp[Qe]
 ·rcases List.mem_append.1 hx with hx|hx
  ·exact Xv.1 (TU T.rows 0 n af) x hx
  ·simp only[List.mem_singleton]at hx;subst hx;simp only[Qe];omega
theorem xX:∀ (l:List (List Tm)) (k n b:Nat),Qc (Kg l k) n b=if 2 + k≤b∧b < 2 + k + l.length then .cells (bb (l.getD (b - (2 + k)) [])) else if b < n then .dead else .free
 | [],k,n,b=>by
  rw[if_neg (by simp only[List.length_nil];omega)];rfl
 | r::l,k,n,b=>by
  unfold Kg
  rw[Qd,xX l (k + 1) n b]
  by_cases h1:2 + k=b
  ·subst h1
   rw[if_pos rfl,if_pos av];simp
  ·rw[if_neg h1]
   by_cases h2:2 + (k + 1)≤b∧b < 2 + (k + 1) + l.length
   ·rw[if_pos h2,if_pos (by simp;omega),show b - (2 + k)=(b - (2 + (k + 1))) + 1 by omega,List.getD_cons_succ]
   ·rw[if_neg h2,if_neg (show ¬ (2 + k≤b∧b < 2 + k + (r::l).length) by simp only[List.length_cons];omega)]
theorem WT.im {T:WT} (h:T.wf) {i:Nat} (hi:i < 65) (n:Nat):Qc (Kg T.rows 0) n (2 + i)=.cells (bb (T.row i)):=by
 have hl:=h.len
 rw[xX,if_pos af,show 2 + i - (2 + 0)=i by omega];rfl
theorem WT.gX {T:WT} (h:T.wf) (n:Nat) {b:Nat} (hb:67≤b):Qc (Kg T.rows 0) n b=if b < n then .dead else .free:=by
 have hl:=h.len
 rw[xX,if_neg af]
theorem oT {m n:Nat} (sA:m≤n) {x:Bk} (h:bJ m x):bJ n x:=by
 have up:∀ v,Qe m v→Qe n v:=fun v=>AV.rec (motive_1:=fun v=>Qe m v→Qe n v) (motive_2:=fun l=>ai m l→ai n l) (by simp[Qe]) (fun b v h=>by simpa [Qe] using h) (fun _ _=>by simp[Qe]) (fun _=>by simp[Qe]) (fun _=>by simp[Qe])
  (fun cs h=>by simpa [Qe] using h) (fun cs h=>by simpa [Qe] using h) (fun _ _=>by simp only[Qe];omega) (fun cs _ h=>by simpa [Qe] using h) (fun _ _ _ _ _=>by simp only[Qe];omega) (fun _ cs h=>by simpa [Qe] using h) (by simp[Qe])
  (fun _ cs h=>by simpa [Qe] using h) (fun _=>by simp only[Qe];omega) (fun _=>by simp[Qe]) (by simp[ai]) (fun x xs h1 h2=>by simp only[ai];exact fun ⟨a,b⟩=>⟨h1 a,h2 b⟩) v
 cases x with
 | free=>exact h
 | dead=>exact h
 | cells cs=>exact Xv.2 fun x hx=>up x (Xv.1 h x hx)
 | aC kvs dn=>exact fun p hp=>⟨up _ (h p hp).1,up _ (h p hp).2⟩
 | bm kvs bs ck=>exact fun p hp=>⟨up _ (h p hp).1,up _ (h p hp).2⟩
 | iter b ck seen=>exact Nat.lt_of_lt_of_le h sA
 | db ls=>exact h
theorem uI {ρ:Nat→Nat} {n:Nat} (h:∀ b,b < n→ρ b=b):∀ v,Qe n v→aE ρ v=v:=fun v=>AV.rec (motive_1:=fun v=>Qe n v→aE ρ v=v) (motive_2:=fun l=>ai n l→az ρ l=l) (by simp[aE]) (fun b v h1 h2=>by simp only[Qe]at h2;simp only[aE,h1 h2]) (fun _ _=>by simp[aE]) (fun _=>by simp[aE]) (fun _=>by simp[aE])
  (fun cs h1 h2=>by simp only[Qe]at h2;simp only[aE,h1 h2]) (fun cs h1 h2=>by simp only[Qe]at h2;simp only[aE,h1 h2]) (fun b _ h2=>by simp only[Qe]at h2;simp only[aE,h b h2]) (fun cs _ h1 h2=>by simp only[Qe]at h2;simp only[aE,h1 h2]) (fun _ b _ _ _ h2=>by simp only[Qe]at h2;simp only[aE,h b h2]) (fun _ cs h1 h2=>by simp only[Qe]at h2;simp only[aE,h1 h2]) (by simp[aE])
  (fun _ cs h1 h2=>by simp only[Qe]at h2;simp only[aE,h1 h2]) (fun b h2=>by simp only[Qe]at h2;simp only[aE,h b h2]) (fun _=>by simp[aE]) (by simp[az]) (fun x xs h1 h2=>by simp only[ai,az];exact fun ⟨a,b⟩=>by rw[h1 a,h2 b]) v
theorem Dw {ρ:Nat→Nat} {n:Nat} (h:∀ b,b < n→ρ b=b) {x:Bk} (hx:bJ n x):Xg ρ x=x:=by
 cases x with
 | free=>rfl
 | dead=>rfl
 | cells cs =>
  simp only[Xg,Yu]
  congr 1
  exact (List.map_congr_left fun v hv=>uI h v (Xv.1 hx v hv)).trans (List.map_id cs)
 | aC kvs dn =>
  simp only[Xg]
  congr 1
  exact (List.map_congr_left fun q hq=>by rw[uI h _ (hx q hq).1,uI h _ (hx q hq).2];rfl).trans (List.map_id kvs)
 | bm kvs bs ck =>
  simp only[Xg]
  congr 1
  exact (List.map_congr_left fun q hq=>by rw[uI h _ (hx q hq).1,uI h _ (hx q hq).2];rfl).trans (List.map_id kvs)
 | iter b ck seen=>simp only[Xg];rw[h b hx]
 | db ls=>rfl
theorem xY:∀ (l:List (List Tm)) (k:Nat) (q:Nat × Bk),q ∈ Kg l k→2 + k≤q.1∧q.1 < 2 + k + l.length∧q.2=.cells (bb (l.getD (q.1 - (2 + k)) []))
 | r::l,k,q,h=>by
  unfold Kg at h
  rcases List.mem_cons.1 h with rfl|h
  ·simp
  ·obtain ⟨h1,h2,h3⟩:=xY l (k + 1) q h
   refine ⟨by omega,by simp;omega,?_⟩
   rw[h3,show q.1 - (2 + k)=(q.1 - (2 + (k + 1))) + 1 by omega,List.getD_cons_succ]
theorem TW:∀ (l:List (List Tm)) (k b:Nat),2 + k≤b→b < 2 + k + l.length→∃ q ∈ Kg l k,q.1=b
 | [],k,b,h1,h2=>by simp at h2;omega
 | r::l,k,b,h1,h2=>by
  by_cases e:b=2 + k
  ·exact ⟨(2 + k,.cells (bb r)),by simp[Kg],e.symm⟩
  ·obtain ⟨q,h3,h4⟩:=TW l (k + 1) b af (by simp at h2;omega)
   exact ⟨q,by simp[Kg,h3],h4⟩
theorem WT.look {T:WT} (h:T.wf) (n:Nat) {q:Nat × Bk} (hq:q ∈ T.h):Qc T.h n q.1=q.2:=by
 have hl:=h.len
 unfold WT.h at hq ⊢
 rcases List.mem_cons.1 hq with rfl|hq
 ·rw[Qd,if_pos rfl]
 rcases List.mem_cons.1 hq with rfl|hq
 ·rw[Qd,if_neg av,Qd,if_pos rfl]
 obtain ⟨h1,h2,h3⟩:=xY _ _ _ hq
 rw[Qd,if_neg af,Qd,if_neg af,xX,if_pos ⟨h1,h2⟩,h3]
theorem WT.HL {T:WT} (h:T.wf):Proofs.YtogckmommodmhaaGreatDoor.HL T.h 67:=by
 have hl:=h.len
 refine ⟨fun q hq=>?_,fun b hb=>?_,fun q hq=>WT.look h 67 hq⟩
 ·unfold WT.h at hq
  rcases List.mem_cons.1 hq with rfl|hq
  ·exact ⟨by show 0 < 67;decide,WT.nm h af⟩
  rcases List.mem_cons.1 hq with rfl|hq
  ·exact ⟨by show 1 < 67;decide,oT af h.mb⟩
  obtain ⟨h1,h2,h3⟩:=xY _ _ _ hq
  refine ⟨by omega,?_⟩
  rw[h3];simp[bJ,pR]
 ·unfold WT.h
  by_cases h0:b=0
  ·exact ⟨(0,.cells T.cells),by simp,h0.symm⟩
  by_cases h1:b=1
  ·exact ⟨(1,T.mb),by simp,h1.symm⟩
  obtain ⟨q,h2,h3⟩:=TW T.rows 0 b af af
  exact ⟨q,by simp[h2],h3⟩
theorem WT.key {T:WT} (h:T.wf) {q:Nat × Bk} (hq:q ∈ T.h):q.1 < 67:=((WT.HL h).mem q hq).1
theorem To.wh {p:List Nat} {n':Nat} {s:St} {t':List (Nat × AV)} {ex:List (Nat × Bk)} {T':WT} (hT:T'.wf) (ρ:Nat→Nat) (hp:∀ b,b ∈ p→ρ b=b∧b < n') (hn:67≤n') (bU:∀ b b',b < n'→b' < n'→ρ b=ρ b'→b=b')
  (h0:Qc s.h s.n (ρ 0)=.cells (az ρ T'.cells)) (h1:Qc s.h s.n (ρ 1)=Xg ρ T'.mb) (hr:∀ i,i < 65→Qc s.h s.n (ρ (2 + i))=.cells (bb (T'.row i)))
  (ht:Qy ρ n' s.t t') (hx:oD ρ n' s ex) (hk:∀ q ∈ ex,67≤q.1):To p s ⟨t',ex++T'.h,n'⟩:=by
 have hl:=hT.len
 refine To.CA (ρ:=ρ) hp ⟨ht,?_⟩
 have fact:∀ q ∈ T'.h,q.1 < n'∧bJ n' q.2∧Qc s.h s.n (ρ q.1)=Xg ρ q.2:=fun q hq=>by
  have hq0:=hq
  obtain ⟨m1,m2⟩:=(WT.HL hT).mem q hq
  refine ⟨by omega,oT hn m2,?_⟩
  unfold WT.h at hq
  rcases List.mem_cons.1 hq with rfl|hq
  ·rw[h0];rfl
  rcases List.mem_cons.1 hq with rfl|hq
  ·exact h1
  obtain ⟨g1,g2,g3⟩:=xY _ _ _ hq
  have:=hr (q.1 - 2) af
  rw[show 2 + (q.1 - 2)=q.1 by omega]at this
  rw[this,g3]
  simp only[Xg,uG]
  rfl
 have not:∀ (b:Nat) (l:List (Nat × Bk)),b < n'→(∀ q ∈ l,q.1 < n'∧q.1≠b)→tM ρ b l:=fun b l hb=>by
  induction l with
  | nil=>intro _;trivial
  | cons q l ih =>
   intro hl
   obtain ⟨i,x⟩:=q
   obtain ⟨h1,h2⟩:=hl (i,x) av
   exact ⟨fun e=>h2 (bU _ _ h1 hb e),ih fun q hq=>hl q (by simp[hq])⟩
 have xZ:∀ (l:List (List Tm)) (k:Nat),(∀ q ∈ Kg l k,q.1 < n'∧bJ n' q.2∧Qc s.h s.n (ρ q.1)=Xg ρ q.2)→oD ρ n' s (Kg l k):=fun l=>by
  induction l with
  | nil=>intro k _;trivial
  | cons r l ih =>
   intro k hq
   obtain ⟨a1,a2,a3⟩:=hq (2 + k,.cells (bb r)) (by simp[Kg])
   refine ⟨⟨a1,a2,a3,not _ _ a1 fun q cF=>?_⟩,ih (k + 1) fun q cF=>hq q (by simp[Kg,cF])⟩
   obtain ⟨b1,b2,_⟩:=xY _ _ _ cF
   exact ⟨(hq q (by simp[Kg,cF])).1,by omega⟩
 have base:oD ρ n' s T'.h:=by
  unfold WT.h
  obtain ⟨a1,a2,a3⟩:=fact (0,.cells T'.cells) (by simp[WT.h])
  obtain ⟨b1,b2,b3⟩:=fact (1,T'.mb) (by simp[WT.h])
  refine ⟨⟨a1,a2,a3,not _ _ a1 fun q hq=>?_⟩,⟨b1,b2,b3,not _ _ b1 fun q hq=>?_⟩,xZ _ _ fun q hq=>fact q (by simp[WT.h,hq])⟩
  ·have:=(fact q (by simp only[WT.h];exact List.mem_cons_of_mem _ hq)).1
   rcases List.mem_cons.1 hq with rfl|hq
   ·exact ⟨this,by simp⟩
   ·obtain ⟨c1,c2,_⟩:=xY _ _ _ hq
    exact ⟨this,by omega⟩
  ·obtain ⟨c1,c2,_⟩:=xY _ _ _ hq
   exact ⟨by omega,by omega⟩
 have app:∀ l:List (Nat × Bk),(∀ q ∈ l,67≤q.1)→oD ρ n' s l→oD ρ n' s (l++T'.h):=fun l=>by
  induction l with
  | nil=>intro _ _;exact base
  | cons q l ih =>
   intro hk hs
   obtain ⟨i,x⟩:=q
   obtain ⟨⟨a1,a2,a3,a4⟩,a5⟩:=hs
   refine ⟨⟨a1,a2,a3,?_⟩,ih (fun q hq=>hk q (by simp[hq])) a5⟩
   have bH:=hk (i,x) av
   have MN:∀ (l1 l2:List (Nat × Bk)),tM ρ i l1→tM ρ i l2→tM ρ i (l1++l2):=fun l1 l2=>by
    induction l1 with
    | nil=>intro _ h;exact h
    | cons q l1 ih=>obtain ⟨j,y⟩:=q;intro h1 h2;exact ⟨h1.1,ih h1.2 h2⟩
   exact MN _ _ a4 (not _ _ a1 fun q hq=>⟨(fact q hq).1,by have:=WT.key hT hq;dsimp only at bH;omega⟩)
 exact app ex hk hx
theorem MO:∀ (l:List (List Tm)) (k n b:Nat),Qc (uH l k) n b=if 2 + k≤b∧b < 2 + k + l.length then .db (oS (l.getD (b - (2 + k)) [])) else if b < n then .dead else .free
 | [],k,n,b=>by
  rw[if_neg (by simp only[List.length_nil];omega)];rfl
 | r::l,k,n,b=>by
  unfold uH
  rw[Qd,MO l (k + 1) n b]
  by_cases h1:2 + k=b
  ·subst h1
   rw[if_pos rfl,if_pos av];simp
  ·rw[if_neg h1]
   by_cases h2:2 + (k + 1)≤b∧b < 2 + (k + 1) + l.length
   ·rw[if_pos h2,if_pos (by simp;omega),show b - (2 + k)=(b - (2 + (k + 1))) + 1 by omega,List.getD_cons_succ]
   ·rw[if_neg h2,if_neg (show ¬ (2 + k≤b∧b < 2 + k + (r::l).length) by simp only[List.length_cons];omega)]
theorem MP:∀ (l:List (List Tm)) (k:Nat) (q:Nat × Bk),q ∈ uH l k→2 + k≤q.1∧q.1 < 2 + k + l.length∧q.2=.db (oS (l.getD (q.1 - (2 + k)) []))
 | r::l,k,q,h=>by
  unfold uH at h
  rcases List.mem_cons.1 h with rfl|h
  ·simp
  ·obtain ⟨h1,h2,h3⟩:=MP l (k + 1) q h
   refine ⟨by omega,by simp;omega,?_⟩
   rw[h3,show q.1 - (2 + k)=(q.1 - (2 + (k + 1))) + 1 by omega,List.getD_cons_succ]
theorem TX:∀ (l:List (List Tm)) (k b:Nat),2 + k≤b→b < 2 + k + l.length→∃ q ∈ uH l k,q.1=b
 | [],k,b,h1,h2=>by simp at h2;omega
 | r::l,k,b,h1,h2=>by
  by_cases e:b=2 + k
  ·exact ⟨(2 + k,.db (oS r)),by simp[uH],e.symm⟩
  ·obtain ⟨q,h3,h4⟩:=TX l (k + 1) b af (by simp at h2;omega)
   exact ⟨q,by simp[uH,h3],h4⟩
theorem WT.gR {T:WT} (h:T.wf):Proofs.YtogckmommodmhaaGreatDoor.HL T.hb 67:=by
 have hl:=h.len
 refine ⟨fun q hq=>?_,fun b hb=>?_,fun q hq=>?_⟩
 ·unfold WT.hb at hq
  rcases List.mem_cons.1 hq with rfl|hq
  ·exact ⟨by show 0 < 67;decide,WT.nm h af⟩
  rcases List.mem_cons.1 hq with rfl|hq
  ·exact ⟨by show 1 < 67;decide,oT af h.mb⟩
  obtain ⟨h1,h2,h3⟩:=MP _ _ _ hq
  refine ⟨by omega,?_⟩
  rw[h3];exact Ycx _
 ·unfold WT.hb
  by_cases h0:b=0
  ·exact ⟨(0,.cells T.cells),by simp,h0.symm⟩
  by_cases h1:b=1
  ·exact ⟨(1,T.mb),by simp,h1.symm⟩
  obtain ⟨q,h2,h3⟩:=TX T.rows 0 b af af
  exact ⟨q,by simp[h2],h3⟩
 ·unfold WT.hb at hq ⊢
  rcases List.mem_cons.1 hq with rfl|hq
  ·rw[Qd,if_pos rfl]
  rcases List.mem_cons.1 hq with rfl|hq
  ·rw[Qd,if_neg av,Qd,if_pos rfl]
  obtain ⟨h1,h2,h3⟩:=MP _ _ _ hq
  rw[Qd,if_neg af,Qd,if_neg af,MO,if_pos ⟨h1,h2⟩,h3]
theorem WT.bA (T:WT) (n b:Nat):Qc T.h n b=if 0=b then .cells T.cells else if 1=b then T.mb else if 2≤b∧b < 2 + T.rows.length then .cells (bb (T.row (b - 2))) else if b < n then .dead else .free:=by
 unfold WT.h WT.row
 rw[Qd,Qd,xX]
theorem WT.dN (T:WT) (n b:Nat):Qc T.hb n b=if 0=b then .cells T.cells else if 1=b then T.mb else if 2≤b∧b < 2 + T.rows.length then .db (oS (T.row (b - 2))) else if b < n then .dead else .free:=by
 unfold WT.hb WT.row
 rw[Qd,Qd,MO]
theorem TZ {Q:Nat→List Tm→Prop}:∀ (rows:List (List Tm)) (k:Nat),(∀ j,j < rows.length→∃ l':List Tm,l'.Perm (rows.getD j [])∧Q (k + j) l')→∃ iU:List (List Tm),iU.length=rows.length∧(∀ j,(iU.getD j []).Perm (rows.getD j []))∧∀ j,j < rows.length→Q (k + j) (iU.getD j [])
 | [],k,_=>⟨[],rfl,fun _=>List.Perm.refl _,fun j hj=>by simp at hj⟩
 | r::rows,k,h=>by
  obtain ⟨l',h1,h2⟩:=h 0 av
  obtain ⟨iU,g1,g2,g3⟩:=TZ (Q:=Q) rows (k + 1) fun j hj=>by
   have:=h (j + 1) (by simpa using hj)
   rw[show k + 1 + j=k + (j + 1) by omega]
   simpa only[List.getD_cons_succ] using this
  refine ⟨l'::iU,by simp[g1],fun j=>?_,fun j hj=>?_⟩
  ·cases j with
   | zero=>simpa using h1
   | succ j=>simpa only[List.getD_cons_succ] using g2 j
  ·cases j with
   | zero=>simpa using h2
   | succ j =>
    have:=g3 j (by simpa using hj)
    rw[show k + 1 + j=k + (j + 1) by omega]at this
    simpa only[List.getD_cons_succ] using this
theorem WT.cz {c:Cx} {g:Nat→GM} {a:Act} {w:World} {T:WT} (hR:R c g (cV T.hb 67) a w):∃ T':WT,T'.iC T∧R c g (cV T'.h 67) a w:=by
 have hk:∀ j,j < T.rows.length→∃ l':List Tm,l'.Perm (T.rows.getD j [])∧(fun i (l':List Tm)=>BR g (Qo c g (cV T.hb 67)) w (g (2 + i)) (.cells (bb l'))) (0 + j) l':=fun j hj=>by
  have hb:=hR.h (2 + j)
  have e:(cV T.hb 67).H (2 + j)=.db (oS (T.rows.getD j [])):=by
   show Qc T.hb 67 (2 + j)=_
   rw[WT.dN,if_neg af,if_neg af,if_pos af,show 2 + j - 2=j by omega];rfl
  rw[e]at hb
  rw[Nat.zero_add]
  exact Xyl hb
 obtain ⟨iU,h1,h2,h3⟩:=TZ (Q:=fun i (l':List Tm)=>BR g (Qo c g (cV T.hb 67)) w (g (2 + i)) (.cells (bb l'))) T.rows 0 hk
 have hs:WT.iC { T with rows:=iU } T:=⟨rfl,rfl,h1,h2⟩
 refine ⟨_,hs,hR.gg (fun _ _ h=>h) (fun b hb=>?_) fun b=>?_⟩
 ·show BR _ _ _ _ (Qc (WT.h _) 67 b)
  have e:(cV T.hb 67).H b=Qc T.hb 67 b:=rfl
  rw[e,WT.dN]at hb
  rw[WT.bA,WT.dq hs,h1]
  by_cases c0:0=b
  ·rw[if_pos c0]at hb ⊢;exact hb
  rw[if_neg c0]at hb ⊢
  by_cases c1:1=b
  ·rw[if_pos c1]at hb ⊢;exact hb
  rw[if_neg c1]at hb ⊢
  by_cases c2:2≤b∧b < 2 + T.rows.length
  ·rw[if_pos c2]
   have:=h3 (b - 2) af
   rw[Nat.zero_add,show 2 + (b - 2)=b by omega]at this
   exact this
  ·rw[if_neg c2]at hb ⊢;exact hb
 ·show (Qc _ 67 b).live ↔ (Qc T.hb 67 b).live
  rw[WT.bA,WT.dN,WT.dq hs,h1]
  (repeat' split)<;>first|exact Iff.rfl|exact ⟨fun _=>trivial,fun _=>trivial⟩
theorem WT.cls {c:Cx} {g:Nat→GM} {a:Act} {w:World} {T T':WT} (hs:T'.iC T) (hR:R c g (cV T'.h 67) a w):R c g (cV T.hb 67) a w:=by
 refine hR.gg (fun _ _ h=>h) (fun b hb=>?_) fun b=>?_
 ·show BR _ _ _ _ (Qc T.hb 67 b)
  have e:(cV T'.h 67).H b=Qc T'.h 67 b:=rfl
  rw[e,WT.bA,WT.dq hs,hs.mb,hs.len]at hb
  rw[WT.dN]
  by_cases h0:0=b
  ·rw[if_pos h0]at hb ⊢;exact hb
  rw[if_neg h0]at hb ⊢
  by_cases h1:1=b
  ·rw[if_pos h1]at hb ⊢;exact hb
  rw[if_neg h1]at hb ⊢
  by_cases h2:2≤b∧b < 2 + T.rows.length
  ·rw[if_pos h2]at hb ⊢;exact TO hb (hs.row _)
  ·rw[if_neg h2]at hb ⊢;exact hb
 ·show (Qc T.hb 67 b).live ↔ (Qc T'.h 67 b).live
  rw[WT.bA,WT.dN,WT.dq hs,hs.len,hs.mb]
  (repeat' split)<;>first|exact Iff.rfl|exact ⟨fun _=>trivial,fun _=>trivial⟩
theorem AX {P:Program} {gl:Nat→AV} {f:FuncId} {args:List AV} {p:List Nat} {r:AV} {T T2:WT} (h:∀ T':WT,T'.iC T→GQ P gl f args T'.h 67 p (fun Dx:WT=>Dx.iC T2) (fun _=>r) WT.h):GD P gl f args T.hb 67 p r T2.hb:=by
 refine ⟨(h T T.rq).1,fun w vs G X g hR hv=>?_⟩
 obtain ⟨T',hs,bg⟩:=WT.cz hR
 have hW:Qo ⟨0,w,G,X,gl,[]⟩ g (cV T'.h 67)=Qo ⟨0,w,G,X,gl,[]⟩ g (cV T.hb 67):=by
  funext k
  have hl:∀ b,((cV T'.h 67).H b).live ↔ ((cV T.hb 67).H b).live:=fun b=>by
   show (Qc T'.h 67 b).live ↔ (Qc T.hb 67 b).live
   rw[WT.bA,WT.dN,WT.dq hs,hs.len,hs.mb]
   (repeat' split)<;>first|exact Iff.rfl|exact ⟨fun _=>trivial,fun _=>trivial⟩
  simp only[Qo,hl]
 refine ((h T' hs).2 w vs G X g bg (by rw[hW];exact hv)).mono fun e w' ⟨Dx,v,g',q1,q2,q3,q4,q5⟩=>?_
 refine ⟨(),v,g',trivial,q2,WT.cls q1 q3,q4,?_⟩
 have mA:Qo ⟨0,w,G,X,gl,[]⟩ g' (cV Dx.h 67)=Qo ⟨0,w,G,X,gl,[]⟩ g' (cV T2.hb 67):=by
  funext k
  have hl:∀ b,((cV Dx.h 67).H b).live ↔ ((cV T2.hb 67).H b).live:=fun b=>by
   show (Qc Dx.h 67 b).live ↔ (Qc T2.hb 67 b).live
   rw[WT.bA,WT.dN,WT.dq q1,q1.len,q1.mb]
   (repeat' split)<;>first|exact Iff.rfl|exact ⟨fun _=>trivial,fun _=>trivial⟩
  simp only[Qo,hl]
 rw[← mA];exact q5
theorem WT.fI {T:WT} (h:T.wf) (j:Nat) (hj:j < 67):j=0∨j=66∨∃ i,i < 65∧j=i + 1:=by
 by_cases h0:j=0
 ·exact .inl h0
 by_cases h1:j=66
 ·exact .inr (.inl h1)
 ·exact .inr (.inr ⟨j - 1,by omega,by omega⟩)
theorem GR {l l':List AV} (hl:l.length=l'.length) (h:∀ j,j < l.length→l.getD j .any=l'.getD j .any):l=l':=by
 refine List.ext_getElem hl fun j h1 h2=>?_
 have:=h j h1
 simpa [List.getD,h1,h2] using this
def Kt (i N b:Nat):Nat:=if b=2 + i then N else b
theorem Xuw {T:WT} (hT:T.wf) {i:Nat} (hi:i < 65) (l:List Tm) (N:Nat):az (Kt i N) (T.put i l).cells=T.cells.set (i + 1) (.sl 2 N 0 l.length l.length):=by
 have hw:=WT.de hT i l
 have T4:=WT.len hT
 have hl2:=WT.len hw
 refine GR (by rw[Ys,List.length_set,T4,hl2]) fun j hj=>?_
 rw[Ys,hl2]at hj
 rw[Ku]
 have bw:∀ v,(T.cells.set (i + 1) v).getD j .any=if j=i + 1 then v else T.cells.getD j .any:=fun v=>by
  simp only[List.getD,List.getElem?_set]
  by_cases e:i + 1=j
  ·subst e;rw[if_pos rfl,if_pos af,if_pos rfl];rfl
  ·rw[if_neg e,if_neg fun q=>e q.symm]
 rw[bw]
 rcases WT.fI hT j hj with rfl|rfl|⟨i',mj,rfl⟩
 ·rw[if_neg af];simp only[WT.il,aE];rfl
 ·rw[if_neg af,WT.eJ hw,WT.eJ hT];simp only[aE,Kt];rw[if_neg af]
 ·rw[WT.fH hw mj,WT.fH hT mj,WT.gw hT hi]
  by_cases e:i'=i
  ·subst e;simp[aE,Kt]
  ·rw[if_neg e,if_neg af]
   simp only[aE,Kt];rw[if_neg af]
theorem To.put {p:List Nat} {n':Nat} {s:St} {t':List (Nat × AV)} {ex:List (Nat × Bk)} {T:WT} (hT:T.wf) {i N:Nat} (hi:i < 65) {l:List Tm} (hN:67≤N) (hn:67≤n') (hp:∀ b,b ∈ p→b < n'∧b≠2 + i) (hNn:n'≤N)
  (h0:Qc s.h s.n 0=.cells (T.cells.set (i + 1) (.sl 2 N 0 l.length l.length))) (h1:Qc s.h s.n 1=T.mb) (hl:Qc s.h s.n N=.cells (bb l)) (hr:∀ j,j < 65→j≠i→Qc s.h s.n (2 + j)=.cells (bb (T.row j)))
  (ht:Qy (Kt i N) n' s.t t') (hx:oD (Kt i N) n' s ex) (hk:∀ q ∈ ex,67≤q.1):To p s ⟨t',ex++(T.put i l).h,n'⟩:=by
 have hw:=WT.de hT i l
 refine To.wh hw (Kt i N) (fun b hb=>⟨by unfold Kt;rw[if_neg (hp b hb).2],(hp b hb).1⟩) hn (fun b b' hb bL e=>?_) ?_ ?_ (fun j hj=>?_) ht hx hk
 ·unfold Kt at e
  (repeat' split at e)<;>omega
 ·rw[Xuw hT hi,show Kt i N 0=0 by unfold Kt;rw[if_neg af]];exact h0
 ·rw[show Kt i N 1=1 by unfold Kt;rw[if_neg af],h1]
  show T.mb=Xg _ T.mb
  exact (Dw (fun b hb=>by unfold Kt;rw[if_neg af]) hT.mb).symm
 ·rw[WT.gw hT hi]
  unfold Kt
  by_cases e:j=i
  ·subst e;rw[if_pos rfl,if_pos rfl];exact hl
  ·rw[if_neg af,if_neg e];exact hr j hj e
theorem To.dC {p:List Nat} {t t':List (Nat × AV)} {ex:List (Nat × Bk)} {T:WT} {n:Nat} (hT:T.wf) (hp:∀ b,b ∈ p→b < 67) (hex:∀ q ∈ ex,67≤q.1) (ht:Qy id 67 t t'):To p ⟨t,ex++T.h,n⟩ ⟨t',T.h,67⟩:=by
 have hl:=hT.len
 have hs:∀ b,b < 67→Qc (ex++T.h) n b=Qc T.h n b:=fun b hb=>Xn fun q hq e=>by have:=hex q hq;omega
 refine To.wh (ex:=[]) hT id (fun b hb=>⟨rfl,hp b hb⟩) af (fun b b' _ _ e=>e) ?_ ?_ (fun i hi=>?_) ht trivial (fun q hq=>by cases hq)
 ·show Qc (ex++T.h) n 0=_
  rw[hs 0 af,WT.bA,if_pos rfl,Jy]
 ·show Qc (ex++T.h) n 1=_
  rw[hs 1 af,WT.bA,if_neg af,if_pos rfl,Wg]
 ·show Qc (ex++T.h) n (2 + i)=_
  rw[hs _ af,WT.bA,if_neg af,if_neg af,if_pos af,show 2 + i - 2=i by omega]
theorem Ye9 {ρ:List (Nat × Nat)} (h:ρ.all (fun q=>decide (67≤q.1) && decide (67≤q.2))=true):∀ b,(b < 67→rl ρ b=b)∧(67≤b→67≤rl ρ b):=by
 induction ρ with
 | nil=>exact fun b=>⟨fun _=>rfl,fun h=>h⟩
 | cons q ρ ih =>
  obtain ⟨i,j⟩:=q
  simp only[List.all_cons,Bool.and_eq_true,decide_eq_true_eq]at h
  intro b
  have:=ih h.2 b
  show (b < 67→(bif i == b then j else rl ρ b)=b)∧(67≤b→67≤(bif i == b then j else rl ρ b))
  cases e:i == b with
  | true =>
   have:i=b:=by simpa using e
   exact ⟨fun h2=>by omega,fun _=>h.1.2⟩
  | false=>exact this
theorem To.MQ {p:List Nat} {n':Nat} {s:St} {t':List (Nat × AV)} {ex:List (Nat × Bk)} {T:WT} (ρ:List (Nat × Nat)) (hT:T.wf) (hp:∀ b,b ∈ p→b < 67) (hn:67≤n') (hρ:ρ.all (fun q=>decide (67≤q.1) && decide (67≤q.2))=true)
  (hd:zO ((List.range (n' - 67)).map fun i=>rl ρ (67 + i))=true) (hs:∀ b,b < 67→Qc s.h s.n b=Qc T.h 67 b) (ht:Qy (rl ρ) n' s.t t') (hx:oD (rl ρ) n' s ex) (hk:∀ q ∈ ex,67≤q.1):To p s ⟨t',ex++T.h,n'⟩:=by
 have hl:=hT.len
 have fw:=Ye9 hρ
 refine To.wh hT (rl ρ) (fun b hb=>⟨(fw b).1 (hp b hb),by have:=hp b hb;omega⟩) hn (fun b b' hb bL e=>?_) ?_ ?_ (fun i hi=>?_) ht hx hk
 ·by_cases h1:b < 67<;>by_cases h2:b' < 67
  ·rw[(fw b).1 h1,(fw b').1 h2]at e;exact e
  ·rw[(fw b).1 h1]at e;have:=(fw b').2 af;omega
  ·rw[(fw b').1 h2]at e;have:=(fw b).2 af;omega
  ·have:=JY hd (b - 67) (b' - 67) (by simp;omega) (by simp;omega) (by
    simp only[List.getD,List.getElem?_map,List.getElem?_range (show b - 67 < n' - 67 by omega),List.getElem?_range (show b' - 67 < n' - 67 by omega),Option.map_some,Option.getD_some]
    rw[show 67 + (b - 67)=b by omega,show 67 + (b' - 67)=b' by omega];exact e)
   omega
 ·rw[(fw 0).1 af,hs 0 af,WT.bA,if_pos rfl]
  congr 1
  refine (((GR (by rw[Ys]) fun j hj=>?_):az (rl ρ) T.cells=T.cells)).symm
  rw[Ys,WT.len hT]at hj
  rw[Ku]
  refine uI (fun b hb=>(fw b).1 hb) _ (Zv (WT.nm hT (Nat.le_refl 67)) j)
 ·rw[(fw 1).1 af,hs 1 af,WT.bA,if_neg af,if_pos rfl]
  exact (Dw (fun b hb=>(fw b).1 af) hT.mb).symm
 ·rw[(fw (2 + i)).1 af,hs _ af,WT.bA,if_neg af,if_neg af,if_pos af,show 2 + i - 2=i by omega]
theorem Ydq (i N:Nat):Kt i N 0=0:=by unfold Kt;rw[if_neg (by omega)]
theorem Ydw (i N:Nat):Kt i N 1=1:=by unfold Kt;rw[if_neg (by omega)]
theorem To.off {p:List Nat} {s:St} {T:WT} {i k:Nat} {l:List Tm} {t':List (Nat × AV)} (hT:T.wf) (hi:i < 65) (hl:T.row i=l) (h0:Qc s.h s.n 0=.cells (T.cells.set (i + 1) .nils)) (hs:∀ b,b≠0→b < 67→Qc s.h s.n b=Qc T.h 67 b)
  (hf:s.fs.H s.n=.free) (hn:67≤s.n) (hk:look s.t k=.sl 2 (2 + i) 0 l.length l.length) (hp:∀ b,b ∈ p→b < 2) (ht:Qy (Kt i s.n) 67 ((k,.isl l.length (bb l))::s.t) t'):To p s ⟨t',(T.put i []).h,67⟩:=by
 have fM:=hT.len
 have aX:=WT.len hT
 refine To.trans (To.kP (b:=0) (j:=i + 1) (es:=2) h0 (by rw[List.getElem?_set_self af]) hf) ?_
 rw[List.set_set]
 have cr:Qc s.h (s.n + 1) (2 + i)=.cells (bb l):=by
  rw[We _ _ _ af,hs _ af af,WT.bA,if_neg af,if_neg af,if_pos af,show 2 + i - 2=i by omega,hl]
 refine To.trans (To.fZ (b:=2 + i) (i:=k) (cs:=bb l) (es:=2) (off:=0) (n:=l.length) (k:=l.length) ?_ hk) ?_
 ·show Qc ((0,_)::(s.n,_)::s.h) (s.n + 1) (2 + i)=_
  rw[Qd,if_neg af,Qd,if_neg af];exact cr
 have eQ:((bb l).drop 0).take (l.length * 2)=bb l:=by rw[List.drop_zero,List.take_of_length_le (by rw[Zq];omega)]
 rw[eQ]
 refine To.put (ex:=[]) hT hi (N:=s.n) hn af (fun b hb=>by have:=hp b hb;omega) hn ?_ ?_ ?_ (fun j hj bN=>?_) ht trivial (fun q hq=>by cases hq)
 ·show Qc ((2 + i,_)::(0,_)::(s.n,_)::s.h) (s.n + 1) 0=_
  rw[Qd,if_neg af,Qd,if_pos rfl];rfl
 ·show Qc ((2 + i,_)::(0,_)::(s.n,_)::s.h) (s.n + 1) 1=_
  rw[Qd,if_neg af,Qd,if_neg af,Qd,if_neg af,We _ _ _ af,hs 1 af af,WT.bA,if_neg af,if_pos rfl]
 ·show Qc ((2 + i,_)::(0,_)::(s.n,_)::s.h) (s.n + 1) s.n=_
  rw[Qd,if_neg af,Qd,if_neg af,Qd,if_pos rfl];rfl
 ·show Qc ((2 + i,_)::(0,_)::(s.n,_)::s.h) (s.n + 1) (2 + j)=_
  rw[Qd,if_neg af,Qd,if_neg af,Qd,if_neg af,We _ _ _ af,hs _ af af,WT.bA,if_neg af,if_neg af,if_pos af,show 2 + j - 2=j by omega]
def iq (b:Nat):Prop:=b < 2∨67≤b
theorem ru {P:Program} {c:Cx} {r0:List bG} {K:St→Prop} {s:St} {d:Option Nat} {f:FuncId} {xs:List TV} {args:List AV} {T:WT} {ι:Type} {Q:ι→Prop} {r:ι→AV} {W:ι→WT} {pc:List Nat} (hq:GQ P c.gl f args T.h 67 [0,1] Q r (fun x=>(W x).h)) (hT:T.wf) (hW:∀ x,Q x→(W x).wf)
  (a7:∀ q ∈ c.gh,q.1 ∈ pc) (hpc:∀ b ∈ pc,iq b) (t:List (Nat × AV)) (ex:List (Nat × Bk)) (n:Nat) (gT:To pc s ⟨t,ex++T.h,n⟩) (hex:∀ q ∈ ex,67≤q.1∧ny iq q.2)
  (hc:Qv none (aG c.gl (⟨t,ex++T.h,n⟩:St).fs xs)∧(aG c.gl (⟨t,ex++T.h,n⟩:St).fs xs).map Qk=args∧ai 67 args∧xm iq t) (hr:∀ x,Q x→Qe 67 (r x)) (hk:∀ x,Q x→XP P c r0 K (St.bQ ⟨t,ex++(W x).h,n⟩ d (r x))):Yh P c (.pd d (.call f) xs none) r0 K s:=by
 have hS:iq=uf id [0,1] 67:=by
  funext b
  refine propext ⟨fun h b' bL e=>?_,fun h=>?_⟩
  ·show b' ∈ [0,1]
   have e:b'=b:=e
   rcases h with h|h
   ·have:b'=0∨b'=1:=by omega
    simpa using this
   ·omega
  ·by_cases hb:b < 67
   ·have:=h b hb rfl
    simp at this
    exact .inl af
   ·exact .inr af
 refine Yef (σ:=id) hq a7 t ex ⟨by rw[Jz];exact gT,fun b b' _ _ e=>e,WT.HL hT,fun b hb=>?_,fun q hq=>⟨fun b hb e=>?_,?_⟩,?_,by rw[Jz];exact hc.1,?_,hc.2.2.1⟩ (fun x hx=>WT.HL (hW x hx)) hr fun x hx=>?_
 ·rw[← hS];exact hpc b hb
 ·have:=(hex q hq).1
  have e:b=q.1:=e
  omega
 ·rw[← hS];exact (hex q hq).2
 ·rw[← hS];exact hc.2.2.2
 ·show some (f,_)=some (f,_)
  rw[Jz,Jy,hc.2.1]
 ·rw[Jz,ql id (fun _=>rfl)];exact hk x hx
theorem Xjh (S:Nat→Prop):xm S []=True:=rfl
theorem Xep (S:Nat→Prop) (i:Nat) (v:AV) (l:List (Nat × AV)):xm S ((i,v)::l)=(cP S v∧xm S l):=rfl
theorem Xna (S:Nat→Prop) (k:IntKind) (n:Int):cP S (.int k n)=True:=by simp only[cP]
theorem Xdl (S:Nat→Prop) (b:Bool):cP S (.bool b)=True:=by simp only[cP]
theorem Xmc (S:Nat→Prop) (b:List UInt8):cP S (.str b)=True:=by simp only[cP]
theorem Xim (S:Nat→Prop):cP S .nils=True:=by simp only[cP]
theorem Xkd (S:Nat→Prop) (b o:Nat):cP S (.ptr b o)=S b:=by simp only[cP]
theorem Xve (S:Nat→Prop) (b:Nat):cP S (.mp b)=S b:=by simp only[cP]
theorem Xsx (S:Nat→Prop) (es b o n c:Nat):cP S (.sl es b o n c)=S b:=by simp only[cP]
theorem Xra (S:Nat→Prop) (n:Nat) (l:List AV):cP S (.isl n l)=cT S l:=by simp only[cP]
theorem Xln (S:Nat→Prop) (l:List AV):cP S (.agg l)=cT S l:=by simp only[cP]
theorem Xqn (S:Nat→Prop) (l:List AV):cP S (.aU l)=cT S l:=by simp only[cP]
theorem Xvc (S:Nat→Prop) (f:FuncId) (l:List AV):cP S (.cl f l)=cT S l:=by simp only[cP]
theorem Xn4 (S:Nat→Prop) (v:Value):cP S (.lit v)=True:=by simp only[cP]
theorem Xhe (S:Nat→Prop):cT S []=True:=by simp only[cT]
theorem Qyz (S:Nat→Prop) (v:AV) (l:List AV):cT S (v::l)=(cP S v∧cT S l):=by simp only[cT]
theorem Ycj:iq 0=True:=by simp[iq]
theorem Ye5:iq 1=True:=by simp[iq]
theorem Yer (b:Nat) (h:67≤b):iq b=True:=by simp[iq,h]
attribute [go_sem] Xjh Xep Xna Xdl Xmc Xim Xkd Xve Xsx Xra Xln Xqn Xvc Xn4 Xhe Qyz Ycj Ye5 Yer Ydq Ydw TN
theorem WT.aM {T:WT} (h:T.wf) (n b:Nat) (hb:67≤b):Qc T.h n b=if b < n then .dead else .free:=by
 have hl:=h.len
 rw[WT.bA,if_neg af,if_neg af,if_neg af]
theorem WT.oU {T:WT} (h:T.wf) (n b:Nat) (hb:67≤b):Qc T.hb n b=if b < n then .dead else .free:=by
 have hl:=h.len
 rw[WT.dN,if_neg af,if_neg af,if_neg af]
theorem T5 (gl:Nat→AV) (t:Tm) (x:Int):GS Tryz.prog gl 176 [.agg [.int .i64 t.id,.int .i64 t.due],.ptr 0 0] [(0,.cells [.int .i64 x])] 1 (.bool (t.id == x)) [(0,.cells [.int .i64 x])] 1:=by
 refine Ybd.gs (of_decide_eq_true rfl) (by simp[Bk.live]) fun c hN hg=>?_
 conv in aQ _ _=>cbv
 obtain ⟨id,due⟩:=t
 refine Qg ?_
 refine ⟨[],?_⟩
 exact Qw
def pS (x:Int):List Tm→Nat→Int
 | [],_=>-1
 | t::l,k=>if t.id=x then k else pS x l (k + 1)
set_option maxHeartbeats 1000000 in
theorem Yda (gl:Nat→AV) (l:List Tm) (hl:l.length≤1000000) (x:Int):GS Tryz.prog gl 181 [.sl 2 0 0 l.length l.length,.cl 176 [.ptr 1 0]]
  [(0,.cells (bb l)),(1,.cells [.int .i64 x])] 2 (.int .i64 (pS x l 0)) [(0,.cells (bb l)),(1,.cells [.int .i64 x])] 2:=by
 refine TL.gs (of_decide_eq_true rfl) (by simp[Bk.live]) fun c hN hg=>?_
 conv in aQ _ _=>cbv
 have dz:=Zq l
 refine Qg ?_
 refine Um (fun k:Nat=>k≤l.length∧pS x (l.drop k) k=pS x l 0) (fun k=>⟨[(0,.sl 2 0 0 l.length l.length),(1,.cl 176 [.ptr 1 0]),(6,.sl 2 0 0 l.length l.length),(7,.int .i64 l.length),(8,.int .i64 k)],[(0,.cells (bb l)),(1,.cells [.int .i64 x])],2⟩) (fun k=>l.length - k) TL.mixed 2 hN
  ⟨0,⟨by omega,rfl⟩,[],by exact Qw⟩ fun k hk=>?_
 obtain ⟨hk,cJ⟩:=hk
 refine Qg ?_
 (refine Qa (fun h1=>?_) (fun h1=>?_)<;>try exact h1.elim)
 ·have bF:k < l.length:=by omega
  have a8:=vW l k bF
  have gJ:l.drop k=l[k]::l.drop (k + 1):=List.drop_eq_getElem_cons bF
  rw[gJ]at cJ
  rw[pS]at cJ
  generalize l[k]=t at *
  have hc:=T5 c.gl t x
  refine Qh (An @dz @a8) ?_
  refine xc (ip [1]) hc (An @dz @a8) ?_
  (refine Qa (fun h2=>?_) (fun h2=>?_)<;>try exact h2.elim)
  ·rw[if_pos (by simpa using h2)]at cJ
   refine Qg ?_
   refine ⟨[],?_⟩
   exact Qu @cJ
  ·rw[if_neg (by simpa using h2)]at cJ
   refine Qg ?_
   refine ⟨k + 1,⟨by omega,cJ⟩,⟨[],?_⟩,by omega⟩
   exact Qw
 ·have:k=l.length:=by omega
  subst this
  rw[List.drop_length]at cJ
  have cJ:(-1:Int)=pS x l 0:=cJ
  refine Qg ?_
  refine ⟨[],?_⟩
  exact Qu @cJ
theorem Xu4 (l:List Tm) (k:Nat) (h:k≤l.length):(bb l).drop (k * 2)=bb (l.drop k):=by
 have e:bb l=bb (l.take k)++bb (l.drop k):=by rw[← uF,List.take_append_drop]
 rw[e,List.drop_append_of_le_length (by rw[Zq,List.length_take];omega),List.drop_of_length_le (by rw[Zq,List.length_take];omega),List.nil_append]
theorem T6 (l:List Tm) (k:Nat) (h:k≤l.length):(bb l).take (k * 2)=bb (l.take k):=by
 have e:bb l=bb (l.take k)++bb (l.drop k):=by rw[← uF,List.take_append_drop]
 rw[e,List.take_append_of_le_length (by rw[Zq,List.length_take];omega),List.take_of_length_le (by rw[Zq,List.length_take];omega)]
theorem Ybj (l:List Tm) (k:Nat) (h:k < l.length) (t:Tm):(bb l).take (k * 2)++[.int .i64 t.id,.int .i64 t.due]++(bb l).drop (k * 2 + 2)=bb (l.set k t):=by
 rw[show k * 2 + 2=(k + 1) * 2 by omega,T6 l k af,Xu4 l (k + 1) af,List.set_eq_take_append_cons_drop,if_pos h,uF]
 simp[bb]
theorem T7 {x:Int}:∀ (l:List Tm) (k:Nat),pS x l k=-1→∀ t ∈ l,t.id≠x
 | [],_,_,t,ht=>by cases ht
 | a::l,k,h,t,ht=>by
  unfold pS at h
  split at h
  ·omega
  ·rcases List.mem_cons.1 ht with rfl|ht
   ·assumption
   ·exact T7 l (k + 1) h t ht
theorem T8 {x:Int}:∀ (l:List Tm) (k:Nat),pS x l k≠-1→∃ i,i < l.length∧pS x l k=((k + i:Nat):Int)∧(∀ t ∈ l.take i,t.id≠x)∧∃ t,l[i]?=some t∧t.id=x
 | [],_,h=>absurd rfl h
 | a::l,k,h=>by
  unfold pS at h ⊢
  split at h
  ·rename_i e
   rw[if_pos e]
   exact ⟨0,by simp,by simp,by simp,a,rfl,e⟩
  ·rename_i e
   rw[if_neg e]
   obtain ⟨i,h1,h2,h3,t,h4,h5⟩:=T8 l (k + 1) h
   refine ⟨i + 1,by simpa using h1,by rw[h2];omega,fun y hy=>?_,t,by simpa using h4,h5⟩
   rw[List.take_succ_cons]at hy
   rcases List.mem_cons.1 hy with rfl|hy
   ·exact e
   ·exact h3 y hy
theorem Xzx:zU Tryz.prog 144 2:=KE (by kernel_rfl)
def Yc (x:Int) (l:List Tm):List Tm:=l.filter fun t=>!(t.id == x)
set_option maxHeartbeats 2000000 in
theorem T9 (gl:Nat→AV) (l:List Tm) (hl:l.length≤1000000) (x:Int):GS Tryz.prog gl 177 [.sl 2 0 0 l.length l.length,.cl 176 [.ptr 1 0]]
  [(0,.cells (bb l)),(1,.cells [.int .i64 x])] 2 (.sl 2 0 0 (Yc x l).length l.length) [(0,.cells (bb (Yc x l))),(1,.cells [.int .i64 x])] 2:=by
 refine TK.gs (of_decide_eq_true rfl) (by simp[Bk.live]) fun c hN hg=>?_
 conv in aQ _ _=>cbv
 have dz:=Zq l
 have hi:=Yda c.gl l hl x
 refine Qg ?_
 ((first|refine Qx (ins:=[0,1]) hi ?_ ?_|refine Qt (ins:=[0,1]) hi ?_ ?_|refine Qs (ins:=[0,1]) hi ?_ ?_|refine Qq (ins:=[0,1]) hi ?_ ?_)<;>(have au:=@dz;refine XG ?_;clear au;(try first|exact rfl|exact True.intro);((try (repeat' with_reducible refine And.intro ?_ ?_));(try any_goals (first|refine zm ?_|exact CL|fail)))))
 ·decide
 by_cases cd:pS x l 0=-1
 ·have ew:Yc x l=l:=List.filter_eq_self.2 fun t ht=>by simpa using T7 l 0 cd t ht
  rw[ew]
  (refine Qa (fun h1=>?_) (fun h1=>?_)<;>try exact h1.elim)
  ·refine Qg ?_
   refine ⟨[],?_⟩
   exact Qw
  ·exact absurd cd (by simpa using h1)
 ·obtain ⟨i0,q1,q2,q3,t0,q4,q5⟩:=T8 l 0 cd
  rw[Nat.zero_add]at q2
  rw[q2]
  (refine Qa (fun h1=>?_) (fun h1=>?_)<;>try exact h1.elim)
  ·omega
  refine Qg ?_
  refine Um (fun y:Nat × Nat × List Tm=>y.1 < y.2.1∧y.2.1≤l.length∧y.2.2.length=l.length∧y.2.2.take y.1=Yc x (l.take y.2.1)∧y.2.2.drop y.2.1=l.drop y.2.1)
   (fun y=>⟨[(0,.sl 2 0 0 l.length l.length),(1,.cl 176 [.ptr 1 0]),(5,.int .i64 y.1),(6,.int .i64 y.2.1)],[(0,.cells (bb y.2.2)),(1,.cells [.int .i64 x])],2⟩) (fun y=>l.length - y.2.1) TK.mixed 2 hN
   ⟨(i0,i0 + 1,l),⟨by simp,by show i0 + 1≤l.length;omega,rfl,?_,rfl⟩,[],by exact Qw⟩ fun y hy=>?_
  ·have:l.take (i0 + 1)=l.take i0++[t0]:=by rw[List.take_succ,q4];rfl
   show l.take i0=Yc x (l.take (i0 + 1))
   rw[this]
   unfold Yc
   rw[List.filter_append,List.filter_eq_self.2 fun t ht=>by simpa using q3 t ht]
   simp[q5]
  obtain ⟨i,j,M⟩:=y
  obtain ⟨iG,mo,hM,bW,mP⟩:=hy
  dsimp only at iG mo hM bW mP ⊢
  have uJ:=Zq M
  refine Qg ?_
  (refine Qa (fun h2=>?_) (fun h2=>?_)<;>try exact h2.elim)
  ·have ln:j < l.length:=by omega
   have Dy:j < M.length:=by omega
   have a8:=vW M j Dy
   have MR:M[j]=l[j]:=by
    have e1:(M.drop j)[0]?=M[j]?:=by simp
    have e2:(l.drop j)[0]?=l[j]?:=by simp
    rw[mP,e2]at e1
    simpa [ln,Dy] using e1.symm
   have eQ:Yc x (l.take (j + 1))=if M[j].id=x then Yc x (l.take j) else Yc x (l.take j)++[M[j]]:=by
    have:l.take (j + 1)=l.take j++[M[j]]:=by rw[List.take_succ,MR];simp[ln]
    rw[this]
    unfold Yc
    rw[List.filter_append]
    split<;>simp_all
   have gJ:M.drop (j + 1)=l.drop (j + 1):=by
    have:=congrArg (List.drop 1) mP
    simpa [List.drop_drop,Nat.add_comm] using this
   have bw:Yx (bb M) (i * 2) [.int .i64 M[j].id,.int .i64 M[j].due]=bb (M.set i M[j]):=Ybj M i af M[j]
   have gY:((M.set i M[j]).take (i + 1))=M.take i++[M[j]]:=by
    rw[List.take_succ,List.take_set_of_le (Nat.le_refl i)]
    simp[show i < M.length by omega]
   have ya:(M.set i M[j]).drop (j + 1)=M.drop (j + 1):=by rw[List.drop_set_of_lt af]
   have jk:(M.set i M[j]).length=l.length:=by simp[hM]
   have htS:=Zq (M.set i M[j])
   generalize M[j]=t at *
   have hc:=T5 c.gl t x
   refine Qh (An @uJ @a8) ?_
   refine xc (ip [1]) hc (An @uJ @a8) ?_
   (refine Qa (fun h3=>?_) (fun h3=>?_)<;>try exact h3.elim)
   ·rw[if_neg h3]at eQ
    refine Qh (An @uJ @bw) ?_
    refine ⟨(i + 1,j + 1,M.set i t),⟨by dsimp only;omega,by dsimp only;omega,jk,by rw[gY,bW,eQ],by rw[ya,gJ]⟩,⟨[],?_⟩,by dsimp only;omega⟩
    exact Qw
   ·rw[if_pos (by simpa using h3)]at eQ
    refine Qh @uJ ?_
    refine ⟨(i,j + 1,M),⟨by dsimp only;omega,by dsimp only;omega,hM,by rw[bW,eQ],gJ⟩,⟨[],?_⟩,by dsimp only;omega⟩
    exact Qw
  ·obtain rfl:j=l.length:=by omega
   rw[List.take_length]at bW
   have fw:(Yc x l).length=i:=by rw[← bW,List.length_take];omega
   have gT:=T6 M i af
   rw[bW]at gT
   refine Qg ?_
   (refine FV Xzx ?_;(have au:=@gT;refine XG ?_;clear au;((try (repeat' with_reducible refine And.intro ?_ ?_));(try any_goals (first|refine zm ?_|exact CL|fail)))))
   refine Qg ?_
   refine ⟨[],?_⟩
   exact Qu @fw
def WT.lay (T:WT) (t:Tm):WT:=T.put (Yy T.now t.due) (T.row (Yy T.now t.due)++[t])
theorem WT.eB {T:WT} (h:T.wf) (t:Tm):(T.lay t).wf:=WT.de h _ _
theorem Uo {now due k:Nat} (h:Yy now due=AQ now due (4 - k) k) (hk:k < 4):Yy now due=if due / 16 ^ k < now / 16 ^ k + 16 then k * 16 + due / 16 ^ k % 16 else AQ now due (4 - (k + 1)) (k + 1):=by
 rw[h,show 4 - k=(4 - (k + 1)) + 1 by omega];rfl
theorem pT (a b:Nat):Int.tdiv (a:Int) (b:Int)=((a / b:Nat):Int):=by rw[Int.tdiv_eq_ediv_of_nonneg (by omega)];rfl
theorem oV (a b:Nat):Int.tmod (a:Int) (b:Int)=((a % b:Nat):Int):=by rw[Int.tmod_eq_emod_of_nonneg (by omega)];rfl
set_option maxHeartbeats 4000000 in
set_option maxRecDepth 20000 in
theorem yb (gl:Nat→AV) (T:WT) (hT:T.wf) (t:Tm) (hn:T.now≤1099511627776) (hd:t.due≤1099511627776) (hlen:(T.row (Yy T.now t.due)).length≤1000000) :
  GQ Tryz.prog gl 165 [.ptr 0 0,.agg [.int .i64 t.id,.int .i64 t.due]] T.h 67 [0,1] (fun _:Unit=>True) (fun _=>.aU []) (fun _=>(T.lay t).h):=by
 refine TI.gq (of_decide_eq_true rfl) (fun q hq=>Xj (((WT.HL hT).mem q hq).2)) av fun c a7 hg=>?_
 conv in aQ _ _=>cbv
 have aM:=fun n b hb=>WT.gX hT n (b:=b) hb
 have h0:=WT.il T
 have hl:=WT.len hT
 obtain ⟨id,due⟩:=t
 dsimp only at hd hlen ⊢
 have nM:T.h=(0,.cells T.cells)::(1,T.mb)::Kg T.rows 0:=rfl
 rw[nM]
 refine Qh @aM ?_
 refine Yk (fun k:Nat=>k≤4∧Yy T.now due=AQ T.now due (4 - k) k) (fun k=>⟨[(0,.ptr 0 0),(3,.ptr 67 0),(4,.int .i64 ((16 ^ k:Nat):Int)),(7,.int .i64 k)],(67,.cells [.int .i64 id,.int .i64 due])::T.h,68⟩) (fun k=>4 - k) TI.mixed [0,1] a7
  ⟨0,⟨by omega,rfl⟩,To.dH (by exact Qw) fun _=>rfl⟩ fun k hk=>?_
 obtain ⟨hk4,jk⟩:=hk
 obtain rfl|rfl|rfl|rfl|rfl:k=0∨k=1∨k=2∨k=3∨k=4:=by omega
 ·have nN:Int.tdiv (due:Int) 1=((due / 1:Nat):Int):=pT due 1
  have lQ:Int.tdiv (T.now:Int) 1=((T.now / 1:Nat):Int):=pT T.now 1
  have hp:((16 ^ 0:Nat):Int)=1:=rfl
  have fb:((16 ^ 1:Nat):Int)=16:=rfl
  have hm:Int.tmod ((due / 1:Nat):Int) 16=((due / 1 % 16:Nat):Int):=oV _ 16
  rw[nM,hp]
  refine Qh (An @aM @h0) ?_
  (refine Qa (fun h1=>?_) (fun h1=>?_)<;>try exact h1.elim)
  refine Qh (An @aM (An @h0 (An @nN @lQ))) ?_
  (refine Qa (fun h2=>?_) (fun h2=>?_)<;>try exact h2.elim)
  ·refine Qh (An @aM (An @h0 (An @nN @hm))) ?_
   have iA:Yy T.now due=due / 1 % 16:=by rw[Uo jk af,if_pos (by simp only[Nat.reducePow];omega)];simp only[Nat.zero_mul,Nat.zero_add,Nat.reducePow]
   have nO:due / 1 % 16 < 16:=Nat.mod_lt _ af
   rw[iA]at hlen
   have eC:T.lay ⟨id,due⟩=T.put (due / 1 % 16) (T.row (due / 1 % 16)++[⟨id,due⟩]):=by unfold WT.lay;rw[iA]
   rw[eC]
   generalize due / 1 % 16=sp at *
   have aW:=WT.fH hT (i:=sp) af
   have cr:=fun n=>WT.im hT (i:=sp) af n
   rw[show sp + 1=1 + sp by omega]at aW
   have dz:=Zq (T.row (sp))
   have fO:((68:Nat) == 2 + sp)=false:=beq_eq_false_iff_ne.2 af
   have dF:((67:Nat) == 2 + sp)=false:=beq_eq_false_iff_ne.2 af
   have jT:((0:Nat) == 2 + sp)=false:=beq_eq_false_iff_ne.2 af
   have nP:((1:Nat) == 2 + sp)=false:=beq_eq_false_iff_ne.2 af
   have lW:((2 + sp:Nat) == 0)=false:=beq_eq_false_iff_ne.2 af
   refine Jd (An @aM @aW) ?_
   ((first|apply qs|apply qt|apply qu|apply qw|apply qx|apply qy);(have au:=@aM;have aH:=@aW;have aV:=@fO;have bD:=@dF;have cC:=@jT;have dE:=@nP;have fe:=@cr;have jh:=@dz;have sE:=@lW;refine XG ?_;clear au aH aV bD cC dE fe jh sE;((try (repeat' with_reducible refine And.intro ?_ ?_));(try any_goals (first|refine zm ?_|exact CL|fail)))))
   ·simp[Uv,Ug,cM,fO,dF,jT,nP,lW]
    (repeat' refine And.intro ?_ ?_)<;>first|decide|(left;omega)
   ·refine Qg ?_
    refine ⟨(),To.put (ex:=[]) hT (i:=sp) (N:=69) af af af (fun b hb=>?_) af ?_ ?_ ?_ (fun j hj bN=>?_) ?_ trivial (fun q hq=>by cases hq)⟩
    ·simp at hb;omega
    ·rw[Qd,if_pos rfl,show sp + 1=1 + sp by omega];simp
    ·(repeat rw[Qd,if_neg af]);rw[Qd,if_pos rfl]
    ·rw[Qd,if_neg af,Qd,if_pos rfl,uF];rfl
    ·(repeat rw[Qd,if_neg af]);exact WT.im hT hj 70
    ·simp[Qy,Qe,ai,look,aE,az]
  ·refine Zu (An @aM @h0) ?_
   refine ⟨1,⟨by omega,?_⟩,To.dH (by exact Qu @fb) fun _=>rfl,by omega⟩
   rw[Uo jk af,if_neg (by simp only[Nat.reducePow];omega)]
 ·have nN:Int.tdiv (due:Int) 16=((due / 16:Nat):Int):=pT due 16
  have lQ:Int.tdiv (T.now:Int) 16=((T.now / 16:Nat):Int):=pT T.now 16
  have hp:((16 ^ 1:Nat):Int)=16:=rfl
  have fb:((16 ^ 2:Nat):Int)=256:=rfl
  have hm:Int.tmod ((due / 16:Nat):Int) 16=((due / 16 % 16:Nat):Int):=oV _ 16
  rw[nM,hp]
  refine Qh (An @aM @h0) ?_
  (refine Qa (fun h1=>?_) (fun h1=>?_)<;>try exact h1.elim)
  refine Qh (An @aM (An @h0 (An @nN @lQ))) ?_
  (refine Qa (fun h2=>?_) (fun h2=>?_)<;>try exact h2.elim)
  ·refine Qh (An @aM (An @h0 (An @nN @hm))) ?_
   have iA:Yy T.now due=16 + due / 16 % 16:=by rw[Uo jk af,if_pos (by simp only[Nat.reducePow];omega)]
   have nO:due / 16 % 16 < 16:=Nat.mod_lt _ af
   rw[iA]at hlen
   have eC:T.lay ⟨id,due⟩=T.put (16 + due / 16 % 16) (T.row (16 + due / 16 % 16)++[⟨id,due⟩]):=by unfold WT.lay;rw[iA]
   rw[eC]
   generalize due / 16 % 16=sp at *
   have aW:=WT.fH hT (i:=16 + sp) af
   have cr:=fun n=>WT.im hT (i:=16 + sp) af n
   rw[show 16 + sp + 1=17 + sp by omega,show 2 + (16 + sp)=18 + sp by omega]at aW
   simp only[show 2 + (16 + sp)=18 + sp by omega]at cr
   have dz:=Zq (T.row (16 + sp))
   have fO:((68:Nat) == 18 + sp)=false:=beq_eq_false_iff_ne.2 af
   have dF:((67:Nat) == 18 + sp)=false:=beq_eq_false_iff_ne.2 af
   have jT:((0:Nat) == 18 + sp)=false:=beq_eq_false_iff_ne.2 af
   have nP:((1:Nat) == 18 + sp)=false:=beq_eq_false_iff_ne.2 af
   have lW:((18 + sp:Nat) == 0)=false:=beq_eq_false_iff_ne.2 af
   refine Jd (An @aM @aW) ?_
   ((first|apply qs|apply qt|apply qu|apply qw|apply qx|apply qy);(have au:=@aM;have aH:=@aW;have aV:=@fO;have bD:=@dF;have cC:=@jT;have dE:=@nP;have fe:=@cr;have jh:=@dz;have sE:=@lW;refine XG ?_;clear au aH aV bD cC dE fe jh sE;((try (repeat' with_reducible refine And.intro ?_ ?_));(try any_goals (first|refine zm ?_|exact CL|fail)))))
   ·simp[Uv,Ug,cM,fO,dF,jT,nP,lW]
    (repeat' refine And.intro ?_ ?_)<;>first|decide|(left;omega)
   ·refine Qg ?_
    refine ⟨(),To.put (ex:=[]) hT (i:=16 + sp) (N:=69) af af af (fun b hb=>?_) af ?_ ?_ ?_ (fun j hj bN=>?_) ?_ trivial (fun q hq=>by cases hq)⟩
    ·simp at hb;omega
    ·rw[Qd,if_pos rfl,show 16 + sp + 1=17 + sp by omega];simp
    ·(repeat rw[Qd,if_neg af]);rw[Qd,if_pos rfl]
    ·rw[Qd,if_neg af,Qd,if_pos rfl,uF];rfl
    ·(repeat rw[Qd,if_neg af]);exact WT.im hT hj 70
    ·simp[Qy,Qe,ai,look,aE,az]
  ·refine Zu (An @aM @h0) ?_
   refine ⟨2,⟨by omega,?_⟩,To.dH (by exact Qu @fb) fun _=>rfl,by omega⟩
   rw[Uo jk af,if_neg (by simp only[Nat.reducePow];omega)]
 ·have nN:Int.tdiv (due:Int) 256=((due / 256:Nat):Int):=pT due 256
  have lQ:Int.tdiv (T.now:Int) 256=((T.now / 256:Nat):Int):=pT T.now 256
  have hp:((16 ^ 2:Nat):Int)=256:=rfl
  have fb:((16 ^ 3:Nat):Int)=4096:=rfl
  have hm:Int.tmod ((due / 256:Nat):Int) 16=((due / 256 % 16:Nat):Int):=oV _ 16
  rw[nM,hp]
  refine Qh (An @aM @h0) ?_
  (refine Qa (fun h1=>?_) (fun h1=>?_)<;>try exact h1.elim)
  refine Qh (An @aM (An @h0 (An @nN @lQ))) ?_
  (refine Qa (fun h2=>?_) (fun h2=>?_)<;>try exact h2.elim)
  ·refine Qh (An @aM (An @h0 (An @nN @hm))) ?_
   have iA:Yy T.now due=32 + due / 256 % 16:=by rw[Uo jk af,if_pos (by simp only[Nat.reducePow];omega)]
   have nO:due / 256 % 16 < 16:=Nat.mod_lt _ af
   rw[iA]at hlen
   have eC:T.lay ⟨id,due⟩=T.put (32 + due / 256 % 16) (T.row (32 + due / 256 % 16)++[⟨id,due⟩]):=by unfold WT.lay;rw[iA]
   rw[eC]
   generalize due / 256 % 16=sp at *
   have aW:=WT.fH hT (i:=32 + sp) af
   have cr:=fun n=>WT.im hT (i:=32 + sp) af n
   rw[show 32 + sp + 1=33 + sp by omega,show 2 + (32 + sp)=34 + sp by omega]at aW
   simp only[show 2 + (32 + sp)=34 + sp by omega]at cr
   have dz:=Zq (T.row (32 + sp))
   have fO:((68:Nat) == 34 + sp)=false:=beq_eq_false_iff_ne.2 af
   have dF:((67:Nat) == 34 + sp)=false:=beq_eq_false_iff_ne.2 af
   have jT:((0:Nat) == 34 + sp)=false:=beq_eq_false_iff_ne.2 af
   have nP:((1:Nat) == 34 + sp)=false:=beq_eq_false_iff_ne.2 af
   have lW:((34 + sp:Nat) == 0)=false:=beq_eq_false_iff_ne.2 af
   refine Jd (An @aM @aW) ?_
   ((first|apply qs|apply qt|apply qu|apply qw|apply qx|apply qy);(have au:=@aM;have aH:=@aW;have aV:=@fO;have bD:=@dF;have cC:=@jT;have dE:=@nP;have fe:=@cr;have jh:=@dz;have sE:=@lW;refine XG ?_;clear au aH aV bD cC dE fe jh sE;((try (repeat' with_reducible refine And.intro ?_ ?_));(try any_goals (first|refine zm ?_|exact CL|fail)))))
   ·simp[Uv,Ug,cM,fO,dF,jT,nP,lW]
    (repeat' refine And.intro ?_ ?_)<;>first|decide|(left;omega)
   ·refine Qg ?_
    refine ⟨(),To.put (ex:=[]) hT (i:=32 + sp) (N:=69) af af af (fun b hb=>?_) af ?_ ?_ ?_ (fun j hj bN=>?_) ?_ trivial (fun q hq=>by cases hq)⟩
    ·simp at hb;omega
    ·rw[Qd,if_pos rfl,show 32 + sp + 1=33 + sp by omega];simp
    ·(repeat rw[Qd,if_neg af]);rw[Qd,if_pos rfl]
    ·rw[Qd,if_neg af,Qd,if_pos rfl,uF];rfl
    ·(repeat rw[Qd,if_neg af]);exact WT.im hT hj 70
    ·simp[Qy,Qe,ai,look,aE,az]
  ·refine Zu (An @aM @h0) ?_
   refine ⟨3,⟨by omega,?_⟩,To.dH (by exact Qu @fb) fun _=>rfl,by omega⟩
   rw[Uo jk af,if_neg (by simp only[Nat.reducePow];omega)]
 ·have nN:Int.tdiv (due:Int) 4096=((due / 4096:Nat):Int):=pT due 4096
  have lQ:Int.tdiv (T.now:Int) 4096=((T.now / 4096:Nat):Int):=pT T.now 4096
  have hp:((16 ^ 3:Nat):Int)=4096:=rfl
  have fb:((16 ^ 4:Nat):Int)=65536:=rfl
  have hm:Int.tmod ((due / 4096:Nat):Int) 16=((due / 4096 % 16:Nat):Int):=oV _ 16
  rw[nM,hp]
  refine Qh (An @aM @h0) ?_
  (refine Qa (fun h1=>?_) (fun h1=>?_)<;>try exact h1.elim)
  refine Qh (An @aM (An @h0 (An @nN @lQ))) ?_
  (refine Qa (fun h2=>?_) (fun h2=>?_)<;>try exact h2.elim)
  ·refine Qh (An @aM (An @h0 (An @nN @hm))) ?_
   have iA:Yy T.now due=48 + due / 4096 % 16:=by rw[Uo jk af,if_pos (by simp only[Nat.reducePow];omega)]
   have nO:due / 4096 % 16 < 16:=Nat.mod_lt _ af
   rw[iA]at hlen
   have eC:T.lay ⟨id,due⟩=T.put (48 + due / 4096 % 16) (T.row (48 + due / 4096 % 16)++[⟨id,due⟩]):=by unfold WT.lay;rw[iA]
   rw[eC]
   generalize due / 4096 % 16=sp at *
   have aW:=WT.fH hT (i:=48 + sp) af
   have cr:=fun n=>WT.im hT (i:=48 + sp) af n
   rw[show 48 + sp + 1=49 + sp by omega,show 2 + (48 + sp)=50 + sp by omega]at aW
   simp only[show 2 + (48 + sp)=50 + sp by omega]at cr
   have dz:=Zq (T.row (48 + sp))
   have fO:((68:Nat) == 50 + sp)=false:=beq_eq_false_iff_ne.2 af
   have dF:((67:Nat) == 50 + sp)=false:=beq_eq_false_iff_ne.2 af
   have jT:((0:Nat) == 50 + sp)=false:=beq_eq_false_iff_ne.2 af
   have nP:((1:Nat) == 50 + sp)=false:=beq_eq_false_iff_ne.2 af
   have lW:((50 + sp:Nat) == 0)=false:=beq_eq_false_iff_ne.2 af
   refine Jd (An @aM @aW) ?_
   ((first|apply qs|apply qt|apply qu|apply qw|apply qx|apply qy);(have au:=@aM;have aH:=@aW;have aV:=@fO;have bD:=@dF;have cC:=@jT;have dE:=@nP;have fe:=@cr;have jh:=@dz;have sE:=@lW;refine XG ?_;clear au aH aV bD cC dE fe jh sE;((try (repeat' with_reducible refine And.intro ?_ ?_));(try any_goals (first|refine zm ?_|exact CL|fail)))))
   ·simp[Uv,Ug,cM,fO,dF,jT,nP,lW]
    (repeat' refine And.intro ?_ ?_)<;>first|decide|(left;omega)
   ·refine Qg ?_
    refine ⟨(),To.put (ex:=[]) hT (i:=48 + sp) (N:=69) af af af (fun b hb=>?_) af ?_ ?_ ?_ (fun j hj bN=>?_) ?_ trivial (fun q hq=>by cases hq)⟩
    ·simp at hb;omega
    ·rw[Qd,if_pos rfl,show 48 + sp + 1=49 + sp by omega];simp
    ·(repeat rw[Qd,if_neg af]);rw[Qd,if_pos rfl]
    ·rw[Qd,if_neg af,Qd,if_pos rfl,uF];rfl
    ·(repeat rw[Qd,if_neg af]);exact WT.im hT hj 70
    ·simp[Qy,Qe,ai,look,aE,az]
  ·refine Zu (An @aM @h0) ?_
   refine ⟨4,⟨by omega,?_⟩,To.dH (by exact Qu @fb) fun _=>rfl,by omega⟩
   rw[Uo jk af,if_neg (by simp only[Nat.reducePow];omega)]
 ·rw[nM]
  refine Qh (An @aM @h0) ?_
  (refine Qa (fun h1=>?_) (fun h1=>?_)<;>try exact h1.elim)
  have iA:Yy T.now due=64:=by rw[jk];rfl
  rw[iA]at hlen
  have eC:T.lay ⟨id,due⟩=T.put 64 (T.row 64++[⟨id,due⟩]):=by unfold WT.lay;rw[iA]
  rw[eC]
  have aW:=WT.fH hT (i:=64) af
  have cr:=fun n=>WT.im hT (i:=64) af n
  simp only[Nat.reduceAdd]at aW cr
  have dz:=Zq (T.row 64)
  refine Qh (An @aM @aW) ?_
  refine Jd (An @aM @aW) ?_
  refine Jd (An @aM (An @aW (An @cr @dz))) ?_
  refine ⟨(),To.put (ex:=[]) hT (i:=64) (N:=69) af af af (fun b hb=>?_) af ?_ ?_ ?_ (fun j hj bN=>?_) ?_ trivial (fun q hq=>by cases hq)⟩
  ·simp at hb;omega
  ·rw[Qd,if_pos rfl];simp
  ·(repeat rw[Qd,if_neg af]);rw[Qd,if_pos rfl]
  ·rw[Qd,if_neg af,Qd,if_pos rfl,uF];rfl
  ·(repeat rw[Qd,if_neg af]);exact WT.im hT hj 70
  ·simp[Qy,Qe,ai,look,aE,az]
def br (D:List Tm):List (AV × AV):=D.map fun t=>(.int .i64 t.id,.int .i64 t.due)
theorem ry (D:List Tm):(br D).length=D.length:=by simp[br]
theorem AY (D:List Tm):xj false [.int .i64] (br D):=fun q hq=>by
 obtain ⟨t,_,rfl⟩:=List.mem_map.1 hq
 rfl
theorem pU (x:Int):Kj false [.int .i64] (.int .i64 x):=rfl
theorem GU (D:List Tm) (x:Int):iy (br D) (.int .i64 x)=D.findIdx? fun t=>t.id == x:=by
 unfold iy br
 induction D with
 | nil=>rfl
 | cons t D ih =>
  simp only[List.map_cons,List.findIdx?_cons]
  rw[ih]
  by_cases h:t.id=x
  ·simp[h]
  ·simp[h]
def jU (D:List Tm) (x:Int):Bool:=D.any fun t=>t.id == x
def UA (D:List Tm) (x:Int):Nat:=match D.find? (fun t=>t.id == x) with
 | some t=>t.due
 | none=>0
theorem GV (D:List Tm) (x:Int):zW (br D) (.int .i64 x)=jU D x:=by
 unfold zW jU
 rw[GU]
 induction D with
 | nil=>rfl
 | cons t D ih =>
  rw[List.findIdx?_cons,List.any_cons]
  cases h:t.id == x with
  | true=>simp
  | false=>simpa using ih
theorem GX (D:List Tm) (x:Int):nt (br D) (.int .i64 x) (.int .i64 0)=.int .i64 (UA D x):=by
 unfold nt UA
 rw[GU]
 induction D with
 | nil=>rfl
 | cons t D ih =>
  rw[List.findIdx?_cons,List.find?_cons]
  cases h:t.id == x with
  | true=>simp[br]
  | false =>
   simp only[cond_false,Bool.false_eq_true,if_false]
   rw[← ih]
   cases D.findIdx? fun t=>t.id == x with
   | none=>rfl
   | some i=>simp[br]
theorem GY {D:List Tm} {x:Int} (h:∀ t ∈ D,t.id≠x):Yc x D=D:=List.filter_eq_self.2 fun t ht=>by simpa using h t ht
theorem UB:∀ (D:List Tm) (x:Int),D.Pairwise (fun a b=>a.id≠b.id)→ud (br D) (.int .i64 x)=br (Yc x D):=fun D x hd=>by
 have key:∀ D:List Tm,D.Pairwise (fun a b=>a.id≠b.id)→(match D.findIdx? (fun t=>t.id == x) with|some i=>D.eraseIdx i|none=>D)=Yc x D:=fun D=>by
  induction D with
  | nil=>intro _;rfl
  | cons t D ih =>
   intro hd
   have h2:=ih (List.Pairwise.of_cons hd)
   rw[List.findIdx?_cons]
   unfold Yc
   rw[List.filter_cons]
   cases h:t.id == x with
   | true =>
    have hx:t.id=x:=by simpa using h
    have:=GY (x:=x) fun y hy e=>List.rel_of_pairwise_cons hd hy (hx.trans e.symm)
    unfold Yc at this
    simp[this]
   | false =>
    unfold Yc at h2
    simp only[Bool.not_false,if_true,Bool.false_eq_true,if_false]
    rw[← h2]
    cases D.findIdx? fun t=>t.id == x<;>simp
 rw[← key D hd]
 unfold ud
 rw[GU]
 cases D.findIdx? fun t=>t.id == x with
 | none=>rfl
 | some i =>
  have em:∀ (l:List Tm) (i:Nat),(br l).eraseIdx i=br (l.eraseIdx i):=fun l=>by
   induction l with
   | nil=>intro i;rfl
   | cons t l ih =>
    intro i
    cases i with
    | zero=>rfl
    | succ i =>
     have:=ih i
     simp only[br,List.map_cons,List.eraseIdx_cons_succ]at this ⊢
     rw[this]
  exact em D i
theorem Xtv {D:List Tm} {x:Int} (h:∀ t ∈ D,t.id≠x) (n:Nat):nu (br D) (.int .i64 x) (.int .i64 n)=br (D++[⟨x,n⟩]):=by
 unfold nu
 rw[GU,List.findIdx?_eq_none_iff.2 fun t ht=>by simpa using h t ht]
 simp[br]
theorem Uw (n:Nat) (D:List Tm):∀ q ∈ br D,Qe n q.1∧Qe n q.2:=fun q hq=>by
 obtain ⟨t,_,rfl⟩:=List.mem_map.1 hq
 simp[Qe]
theorem uK {T:WT} {D:List Tm} {dn:Bool} (hl:T.rows.length=65) (h:T.mb=.aC (br D) dn):T.wf:=⟨hl,by rw[h];exact Uw 2 D⟩
def WT.upto (T:WT) (x:Int) (n:Nat):WT:={ T with rows:=(T.rows.take n).map (Yc x)++T.rows.drop n }
theorem WT.kf {T:WT} (h:T.wf) (x:Int) (n:Nat):(T.upto x n).wf:=⟨by
 have:=h.len
 simp[WT.upto];omega,h.mb⟩
theorem WT.gA {T:WT} (x:Int) (n i:Nat):(T.upto x n).row i=if i < n then Yc x (T.row i) else T.row i:=by
 unfold WT.row WT.upto
 simp only[List.getD,List.getElem?_append,List.length_map,List.length_take]
 by_cases h1:i < n
 ·rw[if_pos h1]
  by_cases h2:i < T.rows.length
  ·rw[if_pos af,List.getElem?_map,List.getElem?_take_of_lt h1,List.getElem?_eq_getElem h2];rfl
  ·rw[if_neg af,List.getElem?_drop,List.getElem?_eq_none af,List.getElem?_eq_none af];rfl
 ·rw[if_neg h1]
  by_cases h2:i < T.rows.length
  ·rw[if_neg af,List.getElem?_drop];congr 2;omega
  ·rw[if_neg af,List.getElem?_drop,List.getElem?_eq_none af,List.getElem?_eq_none af]
theorem Xv3 {l l':List (List Tm)} (hl:l.length=l'.length) (h:∀ j,l.getD j []=l'.getD j []):l=l':=by
 refine List.ext_getElem hl fun j h1 h2=>?_
 have:=h j
 simpa [List.getD,h1,h2] using this
theorem WT.jV {T:WT} (h:T.wf) (x:Int) {n:Nat} (hn:n < 65):T.upto x (n + 1)=(T.upto x n).put n (Yc x (T.row n)):=by
 have hl:=h.len
 have e:(T.upto x (n + 1)).rows=((T.upto x n).put n (Yc x (T.row n))).rows:=by
  refine Xv3 (by simp[WT.upto,WT.put];omega) fun j=>?_
  have h1:=WT.gA (T:=T) x (n + 1) j
  have h2:=WT.gw (WT.kf h x n) hn (Yc x (T.row n)) j
  rw[WT.gA]at h2
  unfold WT.row at h1 h2 ⊢
  rw[h1,h2]
  by_cases e:j=n
  ·subst e;rw[if_pos af,if_pos rfl]
  ·rw[if_neg e]
   by_cases e2:j < n
   ·rw[if_pos e2,if_pos af]
   ·rw[if_neg e2,if_neg af]
 show ({ T with rows:=(T.upto x (n + 1)).rows }:WT)={ T with rows:=((T.upto x n).put n (Yc x (T.row n))).rows }
 rw[e]
theorem WT.rz {T:WT} (h:T.wf) (x:Int):T.upto x 65={ T with rows:=T.rows.map (Yc x) }:=by
 have hl:=h.len
 unfold WT.upto
 rw[List.take_of_length_le af,List.drop_of_length_le af,List.append_nil]
theorem WT.lF {T:WT} (h:T.wf) {i:Nat} (hi:i < 65) (l:List Tm) (n b:Nat):Qc (T.put i l).h n b=if 0=b then .cells (T.cells.set (i + 1) (.sl 2 (2 + i) 0 l.length l.length)) else if 2 + i=b then .cells (bb l) else Qc T.h n b:=by
 have hl:=h.len
 rw[WT.bA,WT.bA,WT.ML h hi]
 by_cases h0:0=b
 ·rw[if_pos h0,if_pos h0]
 rw[if_neg h0,if_neg h0]
 by_cases h1:1=b
 ·rw[if_pos h1,if_neg af,if_neg h0,if_pos h1];rfl
 rw[if_neg h1]
 have hlen:(T.put i l).rows.length=T.rows.length:=by simp[WT.put]
 rw[hlen]
 by_cases h2:2 + i=b
 ·rw[if_pos h2,if_pos af,WT.gw h hi,if_pos af]
 ·rw[if_neg h2,if_neg h0,if_neg h1]
  by_cases h3:2≤b∧b < 2 + T.rows.length
  ·rw[if_pos h3,if_pos h3,WT.gw h hi,if_neg af]
  ·rw[if_neg h3,if_neg h3]
set_option maxHeartbeats 4000000 in
set_option maxRecDepth 20000 in
theorem Xeg (gl:Nat→AV) (T:WT) (D:List Tm) (dn:Bool) (hlen:T.rows.length=65) (eR:T.mb=.aC (br D) dn) (hd:D.Pairwise fun a b=>a.id≠b.id) (fM:∀ i,(T.row i).length≤1000000) (x:Int) (hx:jU D x=true) :
  GQ Tryz.prog gl 164 [.ptr 0 0,.int .i64 x] T.h 67 [0,1] (fun _:Unit=>True) (fun _=>.int .i64 0) (fun _=>{ T with rows:=T.rows.map (Yc x),mb:=.aC (br (Yc x D)) false }.h):=by
 have hT:=uK hlen eR
 refine GN.gq (of_decide_eq_true rfl) (fun q hq=>Xj (((WT.HL hT).mem q hq).2)) av fun c a7 hg=>?_
 conv in aQ _ _=>cbv
 have aM:=fun n b hb=>WT.gX hT n (b:=b) hb
 have h0:=WT.il T
 have kJ:=WT.eJ hT
 have hl:=WT.len hT
 have nM:T.h=(0,.cells T.cells)::(1,.aC (br D) dn)::Kg T.rows 0:=by rw[← eR];rfl
 have dK:=AY D
 have dI:=pU x
 have yc:=GV D x
 have dT:=GX D x
 have yd:=UB D x hd
 rw[nM]
 refine Qh @aM ?_
 (refine Qa (fun h1=>?_) (fun h1=>?_)<;>try exact h1.elim)
 refine Qh (An @aM @kJ) ?_
 ((first|refine nv ke ?_|refine Ud ke ?_);(have au:=@aM;have aH:=@dK;have aV:=@dI;have bD:=@dT;have cC:=@yc;have dE:=@hx;refine XG ?_;clear au aH aV bD cC dE;((try (repeat' with_reducible refine And.intro ?_ ?_));(try any_goals (first|refine zm ?_|exact CL|fail)))))
 (refine Qa (fun h2=>?_) (fun h2=>?_)<;>try exact h2.elim)
 refine Qh (An @aM @kJ) ?_
 ((first|refine F2 ke ?_|refine F3 ke ?_);(have au:=@aM;have aH:=@dK;have aV:=@dI;have bD:=@yd;refine XG ?_;clear au aH aV bD;((try (repeat' with_reducible refine And.intro ?_ ?_));(try any_goals (first|refine zm ?_|exact CL|fail)))))
 refine Qg ?_
 have bu:WT.wf { T with mb:=.aC (br (Yc x D)) false }:=⟨hlen,Uw 2 _⟩
 have oW:∀ i,(WT.row { T with mb:=.aC (br (Yc x D)) false } i).length≤1000000:=fM
 generalize Dz:({ T with mb:=.aC (br (Yc x D)) false }:WT)=T1 at bu oW
 refine Yk (fun i:Nat=>i≤4) (fun i=>⟨[(0,.ptr 0 0),(7,.cl 176 [.ptr 67 0]),(29,.int .i64 i)],(67,.cells [.int .i64 x])::(T1.upto x (16 * i)).h,68⟩) (fun i=>4 - i) GN.mixed [0,1] a7
  ⟨0,by omega,To.dH (by exact Qw) fun b=>?_⟩ fun i hi=>?_
 ·have e:T1.upto x (16 * 0)=T1:=by simp[WT.upto]
  show Qc ((67,.cells [.int .i64 x])::(T1.upto x (16 * 0)).h) 68 b=_
  rw[e,← Dz]
  show Qc ((67,.cells [.int .i64 x])::(0,.cells T.cells)::(1,.aC (br (Yc x D)) false)::Kg T.rows 0) 68 b=_
  simp only[Qd]
  (repeat' split)<;>first|rfl|omega
 refine Qg ?_
 (refine Qa (fun h3=>?_) (fun h3=>?_)<;>try exact h3.elim)
 ·refine Qg ?_
  refine Yk (fun k:Nat=>k≤16) (fun k=>⟨[(0,.ptr 0 0),(7,.cl 176 [.ptr 67 0]),(8,.int .i64 i),(29,.int .i64 i),(32,.int .i64 k)],(67,.cells [.int .i64 x])::(T1.upto x (16 * i + k)).h,68⟩) (fun k=>16 - k) GN.mixed [0,1] a7
   ⟨0,by omega,To.dH (by exact Qw) fun b=>rfl⟩ fun k hk=>?_
  refine Qg ?_
  (refine Qa (fun h4=>?_) (fun h4=>?_)<;>try exact h4.elim)
  ·have cy:16 * i + k < 65:=by omega
   have nQ:=WT.kf bu x (16 * i + k)
   have ep:=WT.jV bu x cy
   have lG:=WT.gA (T:=T1) x (16 * i + k) (16 * i + k)
   rw[if_neg af]at lG
   have eM:=(T9 c.gl (T1.row (16 * i + k)) (oW _) x).wk (Wk.cap _ _ _ _ _)
   have dz:=Zq (T1.row (16 * i + k))
   generalize hTe:T1.upto x (16 * i + k)=Tn at *
   have aW:=WT.fH nQ cy
   have cr:=fun n=>WT.im nQ cy n
   rw[lG]at aW cr
   have uc:=fun n b hb=>WT.gX nQ n (b:=b) hb
   have hl2:=WT.len nQ
   have rA:Tn.h=(0,.cells Tn.cells)::(1,Tn.mb)::Kg Tn.rows 0:=rfl
   generalize Bp:T1.row (16 * i + k)=r at *
   rw[rA]
   rw[show 16 * i + k + 1=1 + i * 16 + k by omega]at aW
   generalize fc:2 + (16 * i + k)=nm at aW cr
   have fO:(67 == nm)=false:=beq_eq_false_iff_ne.2 af
   have dF:(0 == nm)=false:=beq_eq_false_iff_ne.2 af
   have jT:(1 == nm)=false:=beq_eq_false_iff_ne.2 af
   have nP:(nm == 67)=false:=beq_eq_false_iff_ne.2 af
   have lW:(nm == 0)=false:=beq_eq_false_iff_ne.2 af
   refine Qh (An @uc @aW) ?_
   ((first|refine Qx (ins:=[nm,67]) eM ?_ ?_|refine Qt (ins:=[nm,67]) eM ?_ ?_|refine Qs (ins:=[nm,67]) eM ?_ ?_|refine Qq (ins:=[nm,67]) eM ?_ ?_)<;>(have au:=@uc;have aH:=@cr;have aV:=@fO;have bD:=@dF;have cC:=@jT;have dE:=@nP;have fe:=@lW;refine XG ?_;clear au aH aV bD cC dE fe;(try first|exact rfl|exact True.intro);((try (repeat' with_reducible refine And.intro ?_ ?_));(try any_goals (first|refine zm ?_|exact CL|fail)))))
   ·have:Nat.beq nm 67=false:=by
     cases h:Nat.beq nm 67 with
     | false=>rfl
     | true=>exact absurd (Nat.eq_of_beq_eq_true h) af
    rw[this];rfl
   ·simp[Uv,Ug,cM,fO,dF,jT,nP,lW]
    (repeat' refine And.intro ?_ ?_)<;>first|decide|(left;omega)|omega
   ·refine ⟨k + 1,by omega,To.dH (by exact Qw) fun b=>?_,by omega⟩
    rw[show 16 * i + (k + 1)=16 * i + k + 1 by omega,ep,← rA]
    simp only[Qd,WT.lF nQ cy,fc,show 16 * i + k + 1=1 + i * 16 + k by omega]
    (repeat' split)<;>first|rfl|omega
  ·obtain rfl:k=16:=by omega
   refine Qg ?_
   refine ⟨i + 1,by omega,To.dH (by exact Qw) fun b=>?_,by omega⟩
   rw[show 16 * (i + 1)=16 * i + 16 by omega]
 ·obtain rfl:i=4:=by omega
  have nQ:=WT.kf bu x (16 * 4)
  have ep:=WT.jV bu x (n:=64) af
  have b8:=WT.rz bu x
  have lG:=WT.gA (T:=T1) x (16 * 4) 64
  rw[if_neg af]at lG
  have eM:=(T9 c.gl (T1.row 64) (oW _) x).wk (Wk.cap _ _ _ _ _)
  have dz:=Zq (T1.row 64)
  have bE:({ T with rows:=T.rows.map (Yc x),mb:=.aC (br (Yc x D)) false }:WT)=T1.upto x 65:=by rw[b8,← Dz]
  rw[bE,ep]
  generalize hTe:T1.upto x (16 * 4)=Tn at *
  have aW:=WT.fH nQ (i:=64) af
  have cr:=fun n=>WT.im nQ (i:=64) af n
  rw[lG]at aW cr
  have uc:=fun n b hb=>WT.gX nQ n (b:=b) hb
  have hl2:=WT.len nQ
  have rA:Tn.h=(0,.cells Tn.cells)::(1,Tn.mb)::Kg Tn.rows 0:=rfl
  generalize Bp:T1.row 64=r at *
  simp only[Nat.reduceAdd]at aW cr
  rw[rA]
  refine Qh (An @uc @aW) ?_
  ((first|refine Qx (ins:=[66,67]) eM ?_ ?_|refine Qt (ins:=[66,67]) eM ?_ ?_|refine Qs (ins:=[66,67]) eM ?_ ?_|refine Qq (ins:=[66,67]) eM ?_ ?_)<;>(have au:=@uc;have aH:=@cr;refine XG ?_;clear au aH;(try first|exact rfl|exact True.intro);((try (repeat' with_reducible refine And.intro ?_ ?_));(try any_goals (first|refine zm ?_|exact CL|fail)))))
  ·decide
  refine ⟨(),To.trans (To.dH (t':=[(0,.int .i64 0)]) (h':=(67,.cells [.int .i64 x])::(Tn.put 64 (Yc x r)).h) (n':=68) (by exact Qw) fun b=>?_) ?_⟩
  ·rw[← rA]
   simp only[Qd,WT.lF nQ (i:=64) af]
   (repeat' split)<;>first|rfl|omega
  ·exact To.dC (ex:=[(67,.cells [.int .i64 x])]) (WT.de nQ _ _) av av (by simp[Qy,Qe,look,aE])
def Xzs:Go.Shelf.Ren:=⟨fun|125=>180|128=>191|129=>192|189=>167|215=>198|216=>188|257=>179|294=>182|295=>183|296=>184|297=>185|298=>186|299=>187|300=>189|301=>190|328=>193|329=>194|330=>195|331=>196|332=>197|343=>199|n=>n,fun|0=>0|3=>3|4=>4|5=>5|9=>9|28=>52|46=>110|51=>108|53=>214|131=>182|182=>206|183=>207|218=>215|222=>126|228=>220|229=>104|n=>n,fun n=>n⟩
theorem UC:Lays.n189 Tryz.prog Xzs:={
 mixed:=by kernel_rfl,
 f125:=Tryz.func180.trans (congrArg some (by kernel_rfl)),
 f128:=Tryz.func191.trans (congrArg some (by kernel_rfl)),
 f129:=Tryz.func192.trans (congrArg some (by kernel_rfl)),
 f189:=Tryz.func167.trans (congrArg some (by kernel_rfl)),
 f215:=Tryz.func198.trans (congrArg some (by kernel_rfl)),
 f216:=Tryz.func188.trans (congrArg some (by kernel_rfl)),
 f257:=Tryz.func179.trans (congrArg some (by kernel_rfl)),
 f294:=Tryz.func182.trans (congrArg some (by kernel_rfl)),
 f295:=Tryz.func183.trans (congrArg some (by kernel_rfl)),
 f296:=Tryz.func184.trans (congrArg some (by kernel_rfl)),
 f297:=Tryz.func185.trans (congrArg some (by kernel_rfl)),
 f298:=Tryz.func186.trans (congrArg some (by kernel_rfl)),
 f299:=Tryz.func187.trans (congrArg some (by kernel_rfl)),
 f300:=Tryz.func189.trans (congrArg some (by kernel_rfl)),
 f301:=Tryz.func190.trans (congrArg some (by kernel_rfl)),
 f328:=Tryz.func193.trans (congrArg some (by kernel_rfl)),
 f329:=Tryz.func194.trans (congrArg some (by kernel_rfl)),
 f330:=Tryz.func195.trans (congrArg some (by kernel_rfl)),
 f331:=Tryz.func196.trans (congrArg some (by kernel_rfl)),
 f332:=Tryz.func197.trans (congrArg some (by kernel_rfl)),
 f343:=Tryz.func199.trans (congrArg some (by kernel_rfl)),
 t0:=Tryz.underlying0,
 a0:=Tryz.isAgg0,
 z0:=Tryz.sizeOf0,
 v0:=Tryz.zeroValue0,
 t3:=Tryz.underlying3,
 a3:=Tryz.isAgg3,
 z3:=Tryz.sizeOf3,
 v3:=Tryz.zeroValue3,
 t4:=Tryz.underlying4,
 a4:=Tryz.isAgg4,
 z4:=Tryz.sizeOf4,
 v4:=Tryz.zeroValue4,
 t5:=Tryz.underlying5,
 a5:=Tryz.isAgg5,
 z5:=Tryz.sizeOf5,
 v5:=Tryz.zeroValue5,
 t9:=Tryz.underlying9,
 a9:=Tryz.isAgg9,
 z9:=Tryz.sizeOf9,
 v9:=Tryz.zeroValue9,
 t28:=Tryz.underlying52,
 a28:=Tryz.isAgg52,
 z28:=Tryz.sizeOf52,
 v28:=Tryz.zeroValue52,
 t46:=Tryz.underlying110,
 a46:=Tryz.isAgg110,
 z46:=Tryz.sizeOf110,
 v46:=Tryz.zeroValue110,
 t51:=Tryz.underlying108,
 a51:=Tryz.isAgg108,
 z51:=Tryz.sizeOf108,
 v51:=Tryz.zeroValue108,
 t53:=Tryz.underlying214,
 a53:=Tryz.isAgg214,
 z53:=Tryz.sizeOf214,
 v53:=Tryz.zeroValue214,
 t131:=Tryz.underlying182,
 a131:=Tryz.isAgg182,
 z131:=Tryz.sizeOf182,
 v131:=Tryz.zeroValue182,
 t182:=Tryz.underlying206,
 a182:=Tryz.isAgg206,
 z182:=Tryz.sizeOf206,
 v182:=Tryz.zeroValue206,
 t183:=Tryz.underlying207,
 a183:=Tryz.isAgg207,
 z183:=Tryz.sizeOf207,
 v183:=Tryz.zeroValue207,
 t218:=Tryz.underlying215,
 a218:=Tryz.isAgg215,
 z218:=Tryz.sizeOf215,
 v218:=Tryz.zeroValue215,
 t222:=Tryz.underlying126,
 a222:=Tryz.isAgg126,
 z222:=Tryz.sizeOf126,
 v222:=Tryz.zeroValue126,
 t228:=Tryz.underlying220,
 a228:=Tryz.isAgg220,
 z228:=Tryz.sizeOf220,
 v228:=Tryz.zeroValue220,
 t229:=Tryz.underlying104,
 a229:=Tryz.isAgg104,
 z229:=Tryz.sizeOf104,
 v229:=Tryz.zeroValue104 }
theorem UD {w:World} {k n:Nat} {os:Array Obj} {cur:Array Value} {e:TypeId} {fr:Nat × Nat} (d:Array Int) (hb:w.heap[k]?=some (.cells cur e fr)) :
  (Sort.grow (Sort.putRow (Value.int .i64) (Sort.ahead w n) k 0 d) os).heap[k]?=some (.cells (Sort.putCells (Value.int .i64) 0 d cur) e fr):=by
 have hg:k < w.heap.size:=(Array.getElem?_eq_some_iff.1 hb).1
 rw[Sort.heap_grow_old _ _ (by simpa [Sort.putRow,Sort.mapBlock,Sort.ahead] using hg)]
 simp[Sort.putRow,Sort.mapBlock,Sort.ahead,Array.getElem?_modify,hb,Sort.onCells]
theorem Ydk {w:World} {k n:Nat} {os:Array Obj} {cur:Array Value} {e:TypeId} {fr:Nat × Nat} (d:Array Int) (hb:w.heap[k]?=some (.cells cur e fr)) :
  Fr w (Sort.grow (Sort.putRow (Value.int .i64) (Sort.ahead w n) k 0 d) os) (fun i=>i=k):=by
 have hs:(Sort.grow (Sort.putRow (Value.int .i64) (Sort.ahead w n) k 0 d) os).heap.size=w.heap.size + os.size:=by simp[Sort.grow,Sort.putRow,Sort.mapBlock,Sort.ahead]
 refine ⟨rfl,rfl,rfl,by omega,fun j hj bN=>?_,fun j eK e' QU h=>?_⟩
 ·rw[Sort.heap_grow_old _ _ (by simpa [Sort.putRow,Sort.mapBlock,Sort.ahead] using hj)]
  have:k≠j:=fun e=>bN e.symm
  simp[Sort.putRow,Sort.mapBlock,Sort.ahead,Array.getElem?_modify,this]
 ·by_cases Gv:j=k
  ·subst Gv
   rw[hb]at h;cases h
   exact ⟨_,UD d hb,by simp[Sort.putCells]⟩
  ·refine ⟨eK,?_,rfl⟩
   rw[Sort.heap_grow_old _ _ (by simpa [Sort.putRow,Sort.mapBlock,Sort.ahead] using Uc h)]
   have:k≠j:=fun e=>Gv e.symm
   simp[Sort.putRow,Sort.mapBlock,Sort.ahead,Array.getElem?_modify,this,h]
theorem AZ (l:List Int) (j:Nat) (h:j < l.length):(Qp l).getD j .any=.int .i64 l[j]:=by simp[Qp,List.getD,h]
theorem Xz4 (gl:Nat→AV) (l:List Int) (hl:l.length≤1000000):GS Tryz.prog gl 167 [.sl 1 0 0 l.length l.length] [(0,.cells (Qp l))] 1 (.aU []) [(0,.cells (Qp (l.mergeSort fun x y=>decide (x≤y))))] 1:=by
 refine ⟨⟨Tryz.f167,Tryz.func167,by kernel_rfl,by kernel_rfl⟩,fun w vs G X g hR hv=>?_⟩
 have hlen:(l.mergeSort fun x y=>decide (x≤y)).length=l.length:=List.length_mergeSort _
 obtain ⟨v,vs,rfl,h1,h2⟩:=hv.cons_inv
 obtain rfl:=h2.m6
 have hH:(cV [(0,.cells (Qp l))] 1).H 0=.cells (Qp l):=rfl
 have dV:=hR.h 0
 rw[hH]at dV
 have hHo:∀ x y:List AV,((cV [(0,.cells x)] 1).aK 0 (.cells y))=cV [(0,.cells y)] 1:=fun x y=>pG (fun _=>rfl) fun j=>by
  show (if 0=j then _ else Qc [(0,.cells x)] 1 j)=Qc [(0,.cells y)] 1 j
  rw[Qd,Qd]
  split<;>rfl
 rcases px h1 with ⟨k,cap,e,cur,fz,rfl,hg,h3,h4,h5,h6,h7⟩|⟨ad,rfl,hg,h3,h4⟩
 ·rw[hg]at dV
  cases dV with
  | cells hb q8 jI tJ hz =>
   rw[h6]at hb;cases hb
   rw[Yj]at q8 jI tJ
   have MS:∀ j (hj:j < l.length),cur[j]?=some (.int .i64 l[j]):=fun j hj=>by
    have:=tJ j hj
    rw[AZ l j hj]at this
    have GZ:j < cur.size:=by omega
    have e:cur.getD j undef=cur[j]:=by simp[Array.getD,GZ]
    rw[e]at this
    generalize hcv:cur[j]=cv at this
    cases this
    rw[← hcv];simp[GZ]
   have yf:Sort.Holds (Value.int .i64) w k 0 l.toArray:=fun j hj=>by
    have cU:j < l.length:=by simpa using hj
    refine ⟨?_,?_⟩
    ·simp only[World.cell?,h6,Nat.zero_add,Option.isSome_none,Bool.false_eq_true,if_false]
     rw[MS j cU]
     simp[cU]
    ·simp only[World.frozen?,h6,Nat.zero_add]
     rcases hz with rfl|hz
     ·simp
     ·have:¬ fz.1≤j:=by omega
      simp[this]
   have hc:=Any.slices_Sort_int UC k 0 cap l w yf (Uc h6) af
   refine Calls.mono hc ?_
   rintro e w' ⟨rfl,n,os,rfl⟩
   have bw:=hR.setBlock (x:=.cells (Qp (l.mergeSort fun x y=>decide (x≤y)))) hg (by rw[hH];trivial) trivial (Ydk (n:=n) (os:=os) (l.mergeSort fun x y=>decide (x≤y)).toArray h6) (by
    have aW:∀ j (hj:j < l.length),(Sort.putCells (Value.int .i64) 0 (l.mergeSort fun x y=>decide (x≤y)).toArray cur).getD j undef=.int .i64 ((l.mergeSort fun x y=>decide (x≤y))[j]'af):=fun j hj=>by
     have GZ:j < cur.size:=by omega
     have ln:j < (l.mergeSort fun x y=>decide (x≤y)).length:=by omega
     simp[Sort.putCells,Array.getD,GZ,hj]
    refine .cells (UD _ h6) (by rw[Yj,hlen];simpa [Sort.putCells] using q8) (fun j hj=>?_) (fun j hj=>?_) (by simpa [Sort.putCells] using hz)
    ·rw[Yj,hlen]at hj
     rw[aW j hj];rfl
    ·rw[Yj,hlen]at hj
     rw[aW j hj,AZ _ j af]
     exact .int _ _)
   rw[hHo]at bw
   exact ⟨_,g,rfl,bw,fun _ _=>rfl,.aU rfl fun j hj=>by simp at hj⟩
 ·have h0:l=[]:=List.eq_nil_of_length_eq_zero h3
  subst h0
  refine Calls.mono (Any.slices_Sort_int_none UC ad 0 w) ?_
  rintro e w' ⟨rfl,rfl⟩
  rw[show (([]:List Int).mergeSort fun x y=>decide (x≤y))=[] by simp]
  exact ⟨_,g,rfl,hR,fun _ _=>rfl,.aU rfl fun j hj=>by simp at hj⟩
theorem To.gb {p:List Nat} {s:St} {b:Nat} {kvs:List (AV × AV)} {dn:Bool} (hb:s.fs.H b=.aC kvs dn):To p s (s.aK b (.aC kvs false)):=fun c g a w _ hR=>⟨g,by rw[St.cK];exact hR.gb hb⟩
def kg (l D:List Tm):List Tm:=l.foldl (fun D t=>Yc t.id D) D
theorem Xq2 (l:List Tm) (t:Tm) (D:List Tm):kg (l++[t]) D=Yc t.id (kg l D):=by simp[kg]
theorem G0 {x:Int} {D:List Tm}:(Yc x D).Sublist D:=List.filter_sublist
theorem UE:∀ {l D:List Tm},(kg l D).Sublist D
 | [],D=>List.Sublist.refl _
 | t::l,D=>(UE (l:=l) (D:=Yc t.id D)).trans G0
theorem Xnv {l D:List Tm} (h:D.Pairwise fun a b=>a.id≠b.id):(kg l D).Pairwise fun a b=>a.id≠b.id:=h.sublist UE
def ids (l:List Tm):List Int:=l.map (·.id)
set_option maxHeartbeats 4000000 in
set_option maxRecDepth 20000 in
theorem Xwj (gl:Nat→AV) (T:WT) (D l:List Tm) (dn:Bool) (hlen:T.rows.length=65) (eR:T.mb=.aC (br D) dn) (hd:D.Pairwise fun a b=>a.id≠b.id) (hl:l.length≤1000000) :
  GQ Tryz.prog gl 137 [.ptr 0 0,.isl l.length (bb l)] T.h 67 [0,1] (fun _:Unit=>True) (fun _=>.isl l.length (Qp (uE (ids l)))) (fun _=>{ T with mb:=.aC (br (kg l D)) false }.h):=by
 have hT:=uK hlen eR
 refine TJ.gq (of_decide_eq_true rfl) (fun q hq=>Xj (((WT.HL hT).mem q hq).2)) av fun c a7 hg=>?_
 conv in aQ _ _=>cbv
 have aM:=fun n b hb=>WT.gX hT n (b:=b) hb
 have kJ:=WT.eJ hT
 have aX:=WT.len hT
 have dz:=Zq l
 have nM:T.h=(0,.cells T.cells)::(1,.aC (br D) dn)::Kg T.rows 0:=by rw[← eR];rfl
 have mG:∀ k,WT.wf { T with mb:=.aC (br (kg (l.take k) D)) false }:=fun k=>⟨hlen,Uw 2 _⟩
 rw[nM]
 refine Qg ?_
 refine xe 5 1 rfl (by exact Qu @aM) ?_
 unfold St.named
 refine Yk (fun k:Nat=>k≤l.length) (fun k=>⟨[(0,.ptr 0 0),(5,.sl 1 67 0 k k),(8,.isl l.length (bb l)),(9,.int .i64 l.length),(10,.int .i64 k)],(67,.cells (Qp (ids (l.take k))))::{ T with mb:=.aC (br (kg (l.take k) D)) false }.h,68⟩) (fun k=>l.length - k) TJ.mixed [0,1] a7
  ⟨0,by omega,?_⟩ fun k hk=>?_
 ·refine To.trans (To.gb (b:=1) (kvs:=br D) (dn:=dn) rfl) (To.dH (by exact Qw) fun b=>?_)
  show Qc ((67,.cells [])::(0,.cells T.cells)::(1,.aC (br D) false)::Kg T.rows 0) 68 b=Qc ((1,.aC (br D) false)::(67,.cells [])::(0,.cells T.cells)::(1,.aC (br D) dn)::Kg T.rows 0) 68 b
  simp only[Qd]
  (repeat' split)<;>first|rfl|omega
 have tc:=fun n b hb=>WT.gX (mG k) n (b:=b) hb
 have RA:WT.cells { T with mb:=.aC (br (kg (l.take k) D)) false }=T.cells:=rfl
 have jA:WT.h { T with mb:=.aC (br (kg (l.take k) D)) false }=(0,.cells T.cells)::(1,.aC (br (kg (l.take k) D)) false)::Kg T.rows 0:=rfl
 rw[jA]
 refine Qg ?_
 (refine Qa (fun h1=>?_) (fun h1=>?_)<;>try exact h1.elim)
 ·have bF:k < l.length:=by omega
  have a8:=vW l k bF
  have eQ:l.take (k + 1)=l.take k++[l[k]]:=by rw[List.take_succ];simp[bF]
  have dK:=AY (kg (l.take k) D)
  have dI:=pU l[k].id
  have yd:=UB (kg (l.take k) D) l[k].id (Xnv hd)
  rw[← Xq2,← eQ]at yd
  have MT:Qp (ids (l.take k))++[.int .i64 l[k].id]=Qp (ids (l.take (k + 1))):=by unfold Qp ids;rw[eQ,List.map_append,List.map_append];rfl
  have rm:(Qp (ids (l.take k))).length=k:=by simp[Qp,ids];omega
  generalize l[k]=t at *
  refine Qh (An @dz (An @a8 @aM)) ?_
  refine Jd @aM ?_
  refine Jd (An @aM (An @rm @MT)) ?_
  refine Qh (An @aM @kJ) ?_
  ((first|refine F2 ke ?_|refine F3 ke ?_);(have au:=@aM;have aH:=@dK;have aV:=@dI;have bD:=@yd;refine XG ?_;clear au aH aV bD;((try (repeat' with_reducible refine And.intro ?_ ?_));(try any_goals (first|refine zm ?_|exact CL|fail)))))
  refine ⟨k + 1,by omega,To.MQ (ex:=[(67,.cells (Qp (ids (l.take (k + 1)))))]) [(67,70)] (mG (k + 1)) av af rfl rfl (fun b hb=>?_) ?_ ?_ av,by omega⟩
  ·show _=Qc ((0,.cells T.cells)::(1,.aC (br (kg (l.take (k + 1)) D)) false)::Kg T.rows 0) 67 b
   simp only[Qd]
   (repeat' split)<;>first|rfl|omega|(rw[xX,xX,hlen];(repeat' split)<;>first|rfl|omega)
  ·have:=uG (rl [(67,70)]) l
   exact Qw
  ·have:∀ n q,ai n (Qp q)=True:=fun n q=>by simp[Xv,Qp,Qe]
   exact Qu @this
 ·obtain rfl:k=l.length:=by omega
  have rm:ids (l.take l.length)=ids l:=by rw[List.take_length]
  have gY:(ids l).length=l.length:=by simp[ids]
  have Dq:=Xz4 c.gl (ids l) (by simpa [ids] using hl)
  rw[gY]at Dq
  rw[rm]
  refine Qh @aM ?_
  refine xc (ip [67]) Dq @aM ?_
  refine ⟨(),(To.fZ (b:=67) (i:=0) rfl rfl).trans (To.dC (T:={ T with mb:=.aC (br (kg l D)) false }) (ex:=[(67,.dead),(67,_),(67,_)]) ⟨hlen,Uw 2 _⟩ av av ?_)⟩
  have a8:((Qp ((ids l).mergeSort fun x y=>decide (x≤y))).drop 0).take (l.length * 1)=Qp (uE (ids l)):=by
   rw[List.drop_zero,List.take_of_length_le (by rw[Nat.mul_one];simp[Qp,ids])];rfl
  rw[a8]
  have h1:∀ n q,ai n (Qp q)=True:=fun n q=>by simp[Xv,Qp,Qe]
  have h2:∀ q,az id (Qp q)=Qp q:=fun q=>Jy _
  exact Qu (An @h1 @h2)
end Go.Proofs.YtogckmommodmhaaGreatDoor
