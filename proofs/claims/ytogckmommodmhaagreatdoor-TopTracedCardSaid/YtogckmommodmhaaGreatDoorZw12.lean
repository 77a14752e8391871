import Derived.Test.YtogckmommodmhaaGreatDoorZw3
import Derived.Test.YtogckmommodmhaaGreatDoorZw5
import Derived.Test.YtogckmommodmhaaGreatDoorZw1
import Derived.Test.YtogckmommodmhaaGreatDoorZw6
import Derived.Test.YtogckmommodmhaaGreatDoorZw7
import Derived.Test.YtogckmommodmhaaGreatDoorRows
import Derived.KernelRfl
import Derived.Shelf.Sort.Plain
import Derived.Shelf.Slices.In.SortNone
namespace Go.Proofs.YtogckmommodmhaaGreatDoor
open Go.RowKit
set_option linter.all false
set_option linter.unusedSimpArgs false
set_option maxRecDepth 100000
structure Tm where
 id:Int
 due:Nat
 deriving DecidableEq,Inhabited
def AZ (now due:Nat):Nat→Nat→Nat
 | 0,_=>64
 | f + 1,k=>if due / 16 ^ k < now / 16 ^ k + 16 then k * 16 + due / 16 ^ k % 16 else AZ now due f (k + 1)
def Yr (now due:Nat):Nat:=AZ now due 4 0
theorem TO (now due:Nat):Yr now due=if due < now + 16 then due % 16 else if due / 16 < now / 16 + 16 then 16 + due / 16 % 16 else if due / 256 < now / 256 + 16 then 32 + due / 256 % 16 else if due / 4096 < now / 4096 + 16 then 48 + due / 4096 % 16 else 64:=by
 simp[Yr,AZ]
theorem wa (now due:Nat):Yr now due < 65:=by
 rw[TO];(repeat' split)<;>omega
def Pl (now i due:Nat):Prop :=
 if i < 16 then due % 16=i∧now≤due∧due < now + 16
 else if i < 32 then due / 16 % 16=i - 16∧now / 16 < due / 16∧due / 16 < now / 16 + 16
 else if i < 48 then due / 256 % 16=i - 32∧now / 256 < due / 256∧due / 256 < now / 256 + 16
 else if i < 64 then due / 4096 % 16=i - 48∧now / 4096 < due / 4096∧due / 4096 < now / 4096 + 16
 else now / 65536 < due / 65536
theorem MO {now due:Nat} (h:now≤due):Pl now (Yr now due) due:=by
 rw[TO]
 unfold Pl
 split
 ·rw[if_pos ae];omega
 split
 ·rw[if_neg ae,if_pos ae];omega
 split
 ·rw[if_neg ae,if_neg ae,if_pos ae];omega
 split
 ·rw[if_neg ae,if_neg ae,if_neg ae,if_pos ae];omega
 ·rw[if_neg ae,if_neg ae,if_neg ae,if_neg ae];omega
def pN (now L i due:Nat):Prop :=
 if i < 16 then due % 16=i∧now≤due∧due < now + 16
 else if i < 32 then due / 16 % 16=i - 16∧(now - 1) / 16 < due / 16∧due / 16 < now / 16 + 16∧(1 < L→now / 16 < due / 16)
 else if i < 48 then due / 256 % 16=i - 32∧(now - 1) / 256 < due / 256∧due / 256 < now / 256 + 16∧(2 < L→now / 256 < due / 256)
 else if i < 64 then due / 4096 % 16=i - 48∧(now - 1) / 4096 < due / 4096∧due / 4096 < now / 4096 + 16∧(3 < L→now / 4096 < due / 4096)
 else (now - 1) / 65536 < due / 65536∧(4 < L→now / 65536 < due / 65536)
theorem Pl.g {now L i due:Nat} (h:Pl now i due):pN now L i due:=by
 unfold Pl at h
 unfold pN
 (repeat' split)<;>(first|(rw[if_pos (by omega)]at h;omega)|(rw[if_neg (by omega),if_pos (by omega)]at h;omega)|(rw[if_neg (by omega),if_neg (by omega),if_pos (by omega)]at h;omega)|(rw[if_neg (by omega),if_neg (by omega),if_neg (by omega),if_pos (by omega)]at h;omega)|(rw[if_neg (by omega),if_neg (by omega),if_neg (by omega),if_neg (by omega)]at h;omega))
theorem Pl.next {now i due:Nat} (h:Pl now i due) (hd:now < due):pN (now + 1) 1 i due:=by
 unfold Pl at h
 unfold pN
 (repeat' split)<;>(first|(rw[if_pos (by omega)]at h;omega)|(rw[if_neg (by omega),if_pos (by omega)]at h;omega)|(rw[if_neg (by omega),if_neg (by omega),if_pos (by omega)]at h;omega)|(rw[if_neg (by omega),if_neg (by omega),if_neg (by omega),if_pos (by omega)]at h;omega)|(rw[if_neg (by omega),if_neg (by omega),if_neg (by omega),if_neg (by omega)]at h;omega))
structure RI (P:Nat→Nat→Prop) (rows:List (List Tm)) (D:List Tm):Prop where
 len:rows.length=65
 perm:rows.flatten.Perm D
 pl:∀ i,i < 65→∀ t ∈ rows.getD i [],P i t.due
theorem A0 (rows:List (List Tm)) {i:Nat} (hi:i < rows.length) (l:List Tm) (j:Nat):(rows.set i l).getD j []=if j=i then l else rows.getD j []:=by
 simp only[List.getD,List.getElem?_set]
 by_cases e:i=j
 ·subst e;rw[if_pos rfl,if_pos hi,if_pos rfl];rfl
 ·rw[if_neg e,if_neg fun q=>e q.symm]
theorem MP:∀ (rows:List (List Tm)) (i:Nat),i < rows.length→∀ l,(rows.set i l).flatten.Perm (l++(rows.set i []).flatten)
 | r::rows,0,_,l=>by simp
 | r::rows,i + 1,h,l=>by
  simp only[List.set_cons_succ,List.flatten_cons]
  refine ((MP rows i (by simpa using h) l).append_left r).trans ?_
  rw[← List.append_assoc,← List.append_assoc]
  exact List.perm_append_comm.append_right _
theorem GZ {rows:List (List Tm)} {i:Nat} (h:i < rows.length):rows.getD i []=rows[i]:=by simp[List.getD,h]
theorem Xv9 (rows:List (List Tm)) (i:Nat) (h:i < rows.length):rows.set i (rows.getD i [])=rows:=by
 rw[GZ h,List.set_getElem_self]
theorem ya (rows:List (List Tm)) (i:Nat) (h:i < rows.length):rows.flatten.Perm (rows.getD i []++(rows.set i []).flatten):=by
 have:=MP rows i h (rows.getD i [])
 rwa [Xv9 rows i h]at this
def Xa (now:Nat) (rows:List (List Tm)) (t:Tm):List (List Tm):=rows.set (Yr now t.due) (rows.getD (Yr now t.due) []++[t])
theorem Xt9 (now:Nat) (rows:List (List Tm)) (t:Tm):(Xa now rows t).length=rows.length:=by simp[Xa]
theorem RI.lay {P:Nat→Nat→Prop} {rows:List (List Tm)} {D:List Tm} (h:RI P rows D) {now:Nat} {t:Tm} (ht:P (Yr now t.due) t.due):RI P (Xa now rows t) (t::D):=by
 have hl:=h.len
 have hs:=wa now t.due
 refine ⟨by rw[Xt9,hl],?_,fun i hi x hx=>?_⟩
 ·unfold Xa
  refine (MP rows _ ae _).trans ?_
  refine (List.Perm.trans ?_ (List.Perm.cons t ((ya rows (Yr now t.due) ae).symm.trans h.perm)))
  rw[List.append_assoc]
  exact List.perm_middle
 ·unfold Xa at hx
  rw[A0 _ ae]at hx
  split at hx
  ·rename_i e
   rcases List.mem_append.1 hx with hx|hx
   ·exact h.pl i hi x (by rw[e];exact hx)
   ·obtain rfl:=List.mem_singleton.1 hx
    rw[e];exact ht
  ·exact h.pl i hi x hx
theorem RI.jG {P:Nat→Nat→Prop} {now:Nat}:∀ (l:List Tm) {rows:List (List Tm)} {D:List Tm},RI P rows D→(∀ t ∈ l,P (Yr now t.due) t.due)→RI P (l.foldl (Xa now) rows) (l.reverse++D)
 | [],_,_,h,_=>h
 | t::l,rows,D,h,hl=>by
  have:=RI.jG l (h.lay (hl t au)) fun x hx=>hl x (by simp[hx])
  simpa using this
theorem RI.iE {P:Nat→Nat→Prop} {rows:List (List Tm)} {D D':List Tm} (h:RI P rows D) (hp:D.Perm D'):RI P rows D':=⟨h.len,h.perm.trans hp,h.pl⟩
theorem RI.mono {P P':Nat→Nat→Prop} {rows:List (List Tm)} {D:List Tm} (h:RI P rows D) (hp:∀ i,i < 65→∀ t ∈ rows.getD i [],P i t.due→P' i t.due):RI P' rows D:=⟨h.len,h.perm,fun i hi t ht=>hp i hi t ht (h.pl i hi t ht)⟩
theorem MQ {P:Nat→Nat→Prop} {rows:List (List Tm)} {D:List Tm} (h:RI P rows D) {i:Nat} (hi:i < 65) {t:Tm} (ht:t ∈ rows.getD i []):t ∈ D:=by
 have hl:=h.len
 exact h.perm.mem_iff.1 ((ya rows i ae).mem_iff.2 (List.mem_append_left _ ht))
def cb (now:Nat) (rows:List (List Tm)) (i:Nat):List (List Tm):=(rows.getD i []).foldl (Xa now) (rows.set i [])
theorem RI.cb {P:Nat→Nat→Prop} {rows:List (List Tm)} {D:List Tm} (h:RI P rows D) {now i:Nat} (hi:i < 65) (hP:∀ t ∈ rows.getD i [],P (Yr now t.due) t.due):RI P (cb now rows i) D:=by
 have hl:=h.len
 have h0:RI P (rows.set i []) (rows.set i []).flatten:=⟨by simp[hl],List.Perm.refl _,fun j hj t ht=>by
  rw[A0 _ ae]at ht
  split at ht
  ·cases ht
  ·exact h.pl j hj t ht⟩
 refine (RI.jG _ h0 hP).iE (List.Perm.trans ?_ ((ya rows i ae).symm.trans h.perm))
 exact (List.reverse_perm _).append_right _
def nH (now L:Nat):Nat:=if L < 4 then L * 16 + now / 16 ^ L % 16 else 64
def Jj (now:Nat):Nat→Nat→List (List Tm)→List (List Tm)
 | 0,_,rows=>rows
 | f + 1,L,rows=>if now % 16 ^ L=0 then Jj now f (L + 1) (cb now rows (nH now L)) else rows
theorem RI.MR {rows:List (List Tm)} {D:List Tm} {now L:Nat} (h:RI (pN now L) rows D) (hD:∀ t ∈ D,now≤t.due) (h0:0 < now) (h1:1≤L) (h4:L≤4) (hm:now % 16 ^ L=0):RI (pN now (L + 1)) (Proofs.YtogckmommodmhaaGreatDoor.cb now rows (nH now L)) D:=by
 have hi:nH now L < 65:=by unfold nH;split<;>omega
 have hl:=h.len
 have key:∀ j,j < 65→∀ t ∈ (rows.set (nH now L) []).getD j [],pN now (L + 1) j t.due:=fun j hj t ht=>by
  rw[A0 _ ae]at ht
  split at ht
  ·cases ht
  ·rename_i bY
   have hp:=h.pl j hj t ht
   unfold nH at bY
   unfold pN at hp ⊢
   obtain rfl|rfl|rfl|rfl:L=1∨L=2∨L=3∨L=4:=by omega
   all_goals simp only[Nat.reducePow,Nat.reduceLT,↓reduceIte,Nat.reduceMul,Nat.reduceAdd,Nat.reduceLeDiff]at hm bY hp ⊢
   all_goals (repeat' split)<;>(first|(rw[if_pos (by omega)]at hp;omega)|(rw[if_neg (by omega),if_pos (by omega)]at hp;omega)|(rw[if_neg (by omega),if_neg (by omega),if_pos (by omega)]at hp;omega)|(rw[if_neg (by omega),if_neg (by omega),if_neg (by omega),if_pos (by omega)]at hp;omega)|(rw[if_neg (by omega),if_neg (by omega),if_neg (by omega),if_neg (by omega)]at hp;omega))
 have hs:RI (pN now (L + 1)) (rows.set (nH now L) []) (rows.set (nH now L) []).flatten:=⟨by simp[hl],List.Perm.refl _,key⟩
 have:=RI.jG (rows.getD (nH now L) []) hs (now:=now) fun t ht=>(MO (hD t (MQ h hi ht))).g
 refine this.iE (List.Perm.trans ?_ ((ya rows (nH now L) ae).symm.trans h.perm))
 exact (List.reverse_perm _).append_right _
theorem RI.done {rows:List (List Tm)} {D:List Tm} {now L:Nat} (h:RI (pN now L) rows D) (h0:0 < now) (hL:1≤L) (hm:L≤4→now % 16 ^ L≠0):RI (Pl now) rows D:=by
 refine h.mono fun i hi t ht hp=>?_
 unfold pN at hp
 unfold Pl
 obtain rfl|rfl|rfl|rfl|h5:L=1∨L=2∨L=3∨L=4∨5≤L:=by omega
 all_goals try simp only[Nat.reducePow,Nat.reduceLeDiff,ne_eq,forall_const]at hm
 all_goals (repeat' split)<;>(first|(rw[if_pos (by omega)]at hp;omega)|(rw[if_neg (by omega),if_pos (by omega)]at hp;omega)|(rw[if_neg (by omega),if_neg (by omega),if_pos (by omega)]at hp;omega)|(rw[if_neg (by omega),if_neg (by omega),if_neg (by omega),if_pos (by omega)]at hp;omega)|(rw[if_neg (by omega),if_neg (by omega),if_neg (by omega),if_neg (by omega)]at hp;omega))
theorem RI.step {rows:List (List Tm)} {D:List Tm} {now:Nat} (hD:∀ t ∈ D,now≤t.due) (h0:0 < now):∀ (f L:Nat) (rows:List (List Tm)),f + L=5→1≤L→RI (pN now L) rows D→RI (Pl now) (Jj now f L rows) D
 | 0,L,rows,hf,hL,h=>h.done h0 hL ae
 | f + 1,L,rows,hf,hL,h=>by
  unfold Jj
  split
  ·rename_i hm
   exact RI.step (rows:=rows) hD h0 f (L + 1) _ ae ae (h.MR hD h0 hL ae hm)
  ·rename_i hm
   exact h.done h0 hL fun _=>hm
theorem RI.tick {rows:List (List Tm)} {D:List Tm} {now:Nat} (h:RI (Pl now) rows D) (hD:∀ t ∈ D,now < t.due):RI (Pl (now + 1)) (Jj (now + 1) 4 1 rows) D :=
 RI.step (rows:=rows) (fun t ht=>hD t ht) ae 4 1 rows rfl ae (h.mono fun i hi t ht hp=>hp.next (hD t (MQ h hi ht)))
theorem RI.DL {D l:List Tm} {now:Nat} (hl:l.Perm D) (hD:∀ t ∈ D,now≤t.due):RI (Pl now) (l.foldl (Xa now) (List.replicate 65 [])) D:=by
 have h0:RI (Pl now) (List.replicate 65 []) []:=⟨by simp,by simp,fun i hi t ht=>by
  have:(List.replicate 65 ([]:List Tm)).getD i []=[]:=by rw[List.getD,List.getElem?_replicate,if_pos hi];rfl
  rw[this]at ht;cases ht⟩
 have:=RI.jG l h0 (now:=now) fun t ht=>MO (hD t (hl.mem_iff.1 ht))
 rw[List.append_nil]at this
 exact this.iE ((List.reverse_perm l).trans hl)
theorem RI.nI {rows:List (List Tm)} {D:List Tm} {now:Nat} (h:RI (Pl now) rows D):(rows.getD (now % 16) []).Perm (D.filter fun t=>t.due == now)∧RI (Pl now) (rows.set (now % 16) []) (D.filter fun t=>!(t.due == now)):=by
 have hl:=h.len
 have hi:now % 16 < 65:=by omega
 have e1:(rows.getD (now % 16) []).filter (fun t=>t.due == now)=rows.getD (now % 16) []:=List.filter_eq_self.2 fun t ht=>by
  have:=h.pl _ hi t ht
  unfold Pl at this
  rw[if_pos ae]at this
  exact beq_iff_eq.2 ae
 have off:∀ t ∈ (rows.set (now % 16) []).flatten,t.due≠now:=fun t ht e=>by
  obtain ⟨r,hr,ht⟩:=List.mem_flatten.1 ht
  obtain ⟨j,hj,rfl⟩:=List.mem_iff_getElem.1 hr
  rw[List.length_set]at hj
  have hg:t ∈ (rows.set (now % 16) []).getD j []:=by rw[GZ (by rw[List.length_set];exact hj)];exact ht
  rw[A0 _ ae]at hg
  split at hg
  ·cases hg
  ·rename_i bY
   have:=h.pl j ae t hg
   unfold Pl at this
   subst e
   (repeat' split at this)<;>omega
 have e2:(rows.set (now % 16) []).flatten.filter (fun t=>t.due == now)=[]:=List.filter_eq_nil_iff.2 fun t ht=>by simpa using off t ht
 have e3:(rows.set (now % 16) []).flatten.filter (fun t=>!(t.due == now))=(rows.set (now % 16) []).flatten:=List.filter_eq_self.2 fun t ht=>by simpa using off t ht
 have e4:(rows.getD (now % 16) []).filter (fun t=>!(t.due == now))=[]:=List.filter_eq_nil_iff.2 fun t ht=>by
  have:=(List.filter_eq_self.1 e1) t ht
  simpa using this
 have hp:=(ya rows (now % 16) ae).symm.trans h.perm
 constructor
 ·have:=hp.filter fun t=>t.due == now
  rwa [List.filter_append,e1,e2,List.append_nil]at this
 ·refine ⟨by simp[hl],?_,fun j hj t ht=>?_⟩
  ·have:=hp.filter fun t=>!(t.due == now)
   rwa [List.filter_append,e3,e4,List.nil_append]at this
  ·rw[A0 _ ae]at ht
   split at ht
   ·cases ht
   ·exact h.pl j hj t ht
theorem RI.filter {P:Nat→Nat→Prop} {rows:List (List Tm)} {D:List Tm} (h:RI P rows D) (p:Tm→Bool):RI P (rows.map (List.filter p)) (D.filter p):=by
 refine ⟨by simp[h.len],?_,fun i hi t ht=>?_⟩
 ·rw[← List.filter_flatten];exact h.perm.filter p
 ·have hl:=h.len
  rw[GZ (by simp;omega),List.getElem_map]at ht
  have:=(List.mem_filter.1 ht).1
  rw[← GZ ae]at this
  exact h.pl i hi t this
theorem RI.eA {P:Nat→Nat→Prop} {rows:List (List Tm)} {D:List Tm} (h:RI P rows D) {i:Nat} (hi:i < 65):(rows.getD i []).length≤D.length:=by
 have hl:=h.len
 have:=((ya rows i ae).symm.trans h.perm).length_eq
 rw[List.length_append]at this
 omega
def nJ (a b:Tm):Bool:=decide (a.due < b.due) || (a.due == b.due && decide (a.id≤b.id))
theorem A1 {a b:Tm}:nJ a b=true ↔ a.due < b.due∨a.due=b.due∧a.id≤b.id:=by simp[nJ]
theorem Xpw (a b c:Tm) (h1:nJ a b=true) (h2:nJ b c=true):nJ a c=true:=by
 rw[A1]at *;omega
theorem Xok (a b:Tm):(nJ a b || nJ b a)=true:=by
 rw[Bool.or_eq_true,A1,A1];omega
theorem Xt4 {a b:Tm} (h1:nJ a b=true) (h2:nJ b a=true):a=b:=by
 rw[A1]at *
 cases a;cases b
 simp only[Tm.mk.injEq]at *
 omega
def qU (l:List Tm):List Tm:=l.mergeSort nJ
theorem Wp (l:List Tm):(qU l).Perm l:=List.mergeSort_perm l nJ
theorem DM (l:List Tm):(qU l).Pairwise fun a b=>nJ a b=true:=List.pairwise_mergeSort Xpw Xok l
theorem TP {l m:List Tm} (hp:m.Perm l) (hm:m.Pairwise fun a b=>nJ a b=true):qU l=m :=
 List.Perm.eq_of_pairwise (fun _ _ _ _ h1 h2=>Xt4 h1 h2) (DM l) hm ((Wp l).trans hp.symm)
theorem Qzo {l m:List Tm} (hp:m.Perm l):qU m=qU l:=(TP ((Wp m).trans hp) (DM m)).symm
def bh (D:List Tm) (n:Nat):List Int:=(qU (D.filter fun t=>decide (t.due < n))).map (·.id)
def uC (l:List Int):List Int:=l.mergeSort fun x y=>decide (x≤y)
theorem Xic {l m:List Int} (hp:m.Perm l) (hm:m.Pairwise (·≤·)):uC l=m:=by
 refine List.Perm.eq_of_pairwise (le:=fun a b:Int=>a≤b) (fun _ _ _ _ h1 h2=>by omega) ?_ hm ((List.mergeSort_perm l _).trans hp.symm)
 have:=List.pairwise_mergeSort (le:=fun x y:Int=>decide (x≤y)) (fun a b c h1 h2=>by simp at *;omega) (fun a b=>by simp;omega) l
 exact this.imp fun h=>by simpa using h
theorem Qpe {l:List Tm} {n:Nat} (hn:∀ t ∈ l,t.due=n) (h:l.Pairwise fun a b=>nJ a b=true):(l.map (·.id)).Pairwise (·≤·):=by
 rw[List.pairwise_map]
 refine h.imp_of_mem fun {a b} ha hb DN=>?_
 have:=hn a ha;have:=hn b hb
 rw[A1]at DN;omega
theorem Xmu (D:List Tm) (n:Nat) (l:List Tm) (hl:l.Perm (D.filter fun t=>t.due == n)):bh D (n + 1)=bh D n++uC (l.map (·.id)):=by
 have h1:qU (D.filter fun t=>decide (t.due < n + 1))=qU (D.filter fun t=>decide (t.due < n))++qU (D.filter fun t=>t.due == n):=by
  refine TP ?_ ?_
  ·refine ((Wp _).append (Wp _)).trans ?_
   have:=List.filter_append_perm (fun t:Tm=>decide (t.due < n)) (D.filter fun t=>decide (t.due < n + 1))
   rw[List.filter_filter,List.filter_filter]at this
   refine List.Perm.trans (List.Perm.of_eq ?_) this
   congr 1
   ·exact List.filter_congr fun t _=>by by_cases h:t.due < n<;>simp[h]<;>omega
   ·refine List.filter_congr fun t _=>?_
    by_cases h:t.due=n
    ·simp[h]
    ·have:(t.due == n)=false:=by simpa using h
     rw[this]
     by_cases h2:t.due < n
     ·simp[h2]
     ·have h3:¬ t.due < n + 1:=by omega
      simp[h3]
  ·refine List.pairwise_append.2 ⟨DM _,DM _,fun a ha b hb=>?_⟩
   have ha:=(List.mem_filter.1 ((Wp _).mem_iff.1 ha)).2
   have hb:=(List.mem_filter.1 ((Wp _).mem_iff.1 hb)).2
   rw[A1]
   simp at ha hb;omega
 have h2:uC (l.map (·.id))=(qU (D.filter fun t=>t.due == n)).map (·.id) :=
  Xic (((Wp _).trans hl.symm).map _) (Qpe (n:=n) (fun t ht=>by
   have:=(List.mem_filter.1 ((Wp _).mem_iff.1 ht)).2
   simpa using this) (DM _))
 unfold bh
 rw[h1,List.map_append,h2]
theorem Xiz (D:List Tm) {n m:Nat} (eE:n≤m) (h:∀ t ∈ D,n≤t.due→m≤t.due):bh D m=bh D n:=by
 unfold bh
 rw[List.filter_congr fun t ht=>(by have:=h t ht;by_cases h1:t.due < n<;>by_cases h2:t.due < m<;>simp[h1,h2]<;>omega:decide (t.due < m)=decide (t.due < n))]
theorem Xj8 (D:List Tm) (n:Nat) (h:∀ t ∈ D,n≤t.due):bh D n=[]:=by
 unfold bh
 rw[List.filter_eq_nil_iff.2 fun t ht=>(by have:=h t ht;simp;omega)]
 simp[qU]
theorem Xxz:FT Tryz.prog 70 Tryz.f70 (aQ Tryz.prog Tryz.f70) [.t 2,.t 3]:=.of Tryz.func70
theorem MS:FT Tryz.prog 131 Tryz.f131 (aQ Tryz.prog Tryz.f131) [.t 6]:=.of Tryz.func131
theorem MT:FT Tryz.prog 98 Tryz.f98 (aQ Tryz.prog Tryz.f98) [.t 4,.t 5]:=.of Tryz.func98
theorem Xys:FT Tryz.prog 63 Tryz.f63 (aQ Tryz.prog Tryz.f63) [.t 2]:=.of Tryz.func63
theorem G0:FT Tryz.prog 164 Tryz.f164 (aQ Tryz.prog Tryz.f164) [.t 4]:=.of Tryz.func164
theorem TQ:FT Tryz.prog 165 Tryz.f165 (aQ Tryz.prog Tryz.f165) []:=.of Tryz.func165
theorem TR:FT Tryz.prog 137 Tryz.f137 (aQ Tryz.prog Tryz.f137) [.t 4]:=.of Tryz.func137
theorem MU:FT Tryz.prog 138 Tryz.f138 (aQ Tryz.prog Tryz.f138) []:=.of Tryz.func138
theorem A2:FT Tryz.prog 139 Tryz.f139 (aQ Tryz.prog Tryz.f139) []:=.of Tryz.func139
theorem Xyu:FT Tryz.prog 176 Tryz.f176 (aQ Tryz.prog Tryz.f176) [.t 3]:=.of Tryz.func176
theorem TU:FT Tryz.prog 177 Tryz.f177 (aQ Tryz.prog Tryz.f177) [.t 4]:=.of Tryz.func177
theorem TW:FT Tryz.prog 181 Tryz.f181 (aQ Tryz.prog Tryz.f181) [.t 4]:=.of Tryz.func181
theorem Yde (Q:AV × AV→Prop) (a:AV × AV) (l:List (AV × AV)):(∀ x,x ∈ a::l→Q x)=(Q a∧∀ x,x ∈ l→Q x):=propext List.forall_mem_cons
theorem Ycu (Q:AV × AV→Prop):(∀ x,x ∈ ([]:List (AV × AV))→Q x)=True:=by simp
theorem Xre (s:FS):ga s []=.aU []:=rfl
theorem Qzg (ρ:Nat→Nat) (kvs:List (AV × AV)) (dn:Bool):Qx ρ (.aC kvs dn)=.aC (kvs.map fun p=>(aD ρ p.1,aD ρ p.2)) dn:=rfl
attribute [go_sem] Yde Ycu Xre Qzg
theorem kg:dG Tryz.prog 147 false [.int .i64] (.int .i64 0):=dG.mk' (by kernel_rfl)
def TX (n:Int):List AV:=[.int .i64 n,.nils,.nils,.nils,.nils,.nils,.nils,.nils,.nils,.nils,.nils,.nils,.nils,.nils,.nils,.nils,.nils,.nils,.nils,.nils,.nils,.nils,.nils,.nils,.nils,.nils,.nils,.nils,.nils,.nils,.nils,.nils,.nils,.nils,.nils,.nils,.nils,.nils,.nils,.nils,.nils,.nils,.nils,.nils,.nils,.nils,.nils,.nils,.nils,.nils,.nils,.nils,.nils,.nils,.nils,.nils,.nils,.nils,.nils,.nils,.nils,.nils,.nils,.nils,.nils,.nils,.mp 1]
theorem Xzl (gl:Nat→AV) (n:Int) (h0:0≤n) (h1:n≤1099511627776):GS Tryz.prog gl 70 [.int .i64 n] [] 0 (.aU [.ptr 0 0,.int .i64 0]) [(0,.cells (TX n)),(1,.aC [] true)] 2:=by
 refine Xxz.gs (of_decide_eq_true rfl) (by simp[Bk.live]) fun c aY hg=>?_
 conv in aQ _ _=>cbv
 refine Qe ?_
 (refine Qa (fun h2=>?_) (fun h2=>?_)<;>try exact h2.elim)
 ·omega
 refine Qe ?_
 (refine R2 kg ?_;(refine XG ?_;((try (repeat' with_reducible refine And.intro ?_ ?_));(try any_goals (first|refine zm ?_|exact CL|fail)))))
 refine ⟨[(0,1),(1,0)],?_⟩
 exact Qq @TX.eq_1
def a8:List Tm→List AV
 | []=>[]
 | t::l=>.int .i64 t.id::.int .i64 t.due::a8 l
theorem Zm:∀ l,(a8 l).length=l.length * 2
 | []=>rfl
 | t::l=>by simp[a8,Zm l];omega
theorem uD:∀ l m,a8 (l++m)=a8 l++a8 m
 | [],m=>rfl
 | t::l,m=>by simp[a8,uD l m]
theorem pO (n:Nat):∀ l,ah n (a8 l)=True
 | []=>by simp[a8,ah]
 | t::l=>by simp[a8,ah,Qf,pO n l]
theorem uE (ρ:Nat→Nat):∀ l,ay ρ (a8 l)=a8 l
 | []=>by simp[a8,ay]
 | t::l=>by simp[a8,ay,aD,uE ρ l]
theorem TZ (S:Nat→Prop):∀ l,cT S (a8 l)=True
 | []=>by simp[a8,cT]
 | t::l=>by simp[a8,cT,cP,TZ S l]
theorem wc:∀ (l:List Tm) (i:Nat) (h:i < l.length),((a8 l).drop (i * 2)).take 2=[.int .i64 l[i].id,.int .i64 l[i].due]
 | t::l,0,_=>rfl
 | t::l,i + 1,h=>by
  have:=wc l i (by simpa using h)
  rw[show (i + 1) * 2=i * 2 + 1 + 1 by omega]
  simpa [a8] using this
attribute [go_sem] pO uE
def oN (l:List Tm):List (List AV):=l.map fun t=>[.int .i64 t.id,.int .i64 t.due]
theorem MV:∀ l,(oN l).flatten=a8 l
 | []=>rfl
 | t::l=>by
  have:=MV l
  simp only[oN]at this
  simp[oN,a8,this]
theorem Ych (l:List Tm):∀ x ∈ oN l,ah 0 x:=fun x hx=>by
 obtain ⟨t,_,rfl⟩:=List.mem_map.1 hx
 simp[ah,Qf]
theorem Qu6 {α β:Type} (f:α→β):∀ {l' l:List β},l'.Perm l→∀ l0:List α,l=l0.map f→∃ l1:List α,l1.Perm l0∧l'=l1.map f:=fun {l' l} h=>by
 induction h with
 | nil=>intro l0 e;exact ⟨[],by cases l0<;>simp_all,rfl⟩
 | cons x h ih =>
  intro l0 e
  cases l0 with
  | nil=>simp at e
  | cons a l0 =>
   simp only[List.map_cons,List.cons.injEq]at e
   obtain ⟨l1,h1,h2⟩:=ih l0 e.2
   exact ⟨a::l1,h1.cons a,by rw[h2,e.1];rfl⟩
 | swap x y l =>
  intro l0 e
  match l0,e with
  | a::b::l0,e =>
   simp only[List.map_cons,List.cons.injEq]at e
   exact ⟨b::a::l0,List.Perm.swap a b l0,by simp[e.1,e.2.1,e.2.2]⟩
 | trans h1 h2 MW MX =>
  intro l0 e
  obtain ⟨l1,h3,h4⟩:=MX l0 e
  obtain ⟨l2,h5,h6⟩:=MW l1 h4
  exact ⟨l2,h5.trans h3,h6⟩
theorem Xyd {g:Nat→GM} {W:Nat→Prop} {w:World} {m:GM} {l:List Tm} (h:BR g W w m (.dd (oN l))):∃ l':List Tm,l'.Perm l∧BR g W w m (.cells (a8 l')):=by
 cases h with
 | dd hp h =>
  obtain ⟨l',h1,h2⟩:=Qu6 _ hp l rfl
  rw[h2]at h
  exact ⟨l',h1,by rw[← MV];exact h⟩
theorem T4 {g:Nat→GM} {W:Nat→Prop} {w:World} {m:GM} {l l':List Tm} (h:BR g W w m (.cells (a8 l'))) (hp:l'.Perm l):BR g W w m (.dd (oN l)):=by
 rw[← MV]at h
 exact .dd (hp.map _) h
def lB:List (List Tm)→Nat→List AV
 | [],_=>[]
 | r::l,k=>.sl 2 (2 + k) 0 r.length r.length::lB l (k + 1)
def Ke:List (List Tm)→Nat→List (Nat × Bk)
 | [],_=>[]
 | r::l,k=>(2 + k,.cells (a8 r))::Ke l (k + 1)
structure WT where
 now:Nat
 rows:List (List Tm)
 mb:Bk
def WT.row (T:WT) (i:Nat):List Tm:=T.rows.getD i []
def WT.cells (T:WT):List AV:=.int .i64 T.now::(lB T.rows 0++[.mp 1])
def WT.h (T:WT):List (Nat × Bk):=(0,.cells T.cells)::(1,T.mb)::Ke T.rows 0
def uF:List (List Tm)→Nat→List (Nat × Bk)
 | [],_=>[]
 | r::l,k=>(2 + k,.dd (oN r))::uF l (k + 1)
def WT.hb (T:WT):List (Nat × Bk):=(0,.cells T.cells)::(1,T.mb)::uF T.rows 0
structure WT.iF (T' T:WT):Prop where
 now:T'.now=T.now
 mb:T'.mb=T.mb
 len:T'.rows.length=T.rows.length
 row:∀ i,(T'.row i).Perm (T.row i)
theorem WT.qV (T:WT):T.iF T:=⟨rfl,rfl,rfl,fun _=>List.Perm.refl _⟩
theorem T5:∀ (l l':List (List Tm)) (k:Nat),l.length=l'.length→(∀ i,(l.getD i []).Perm (l'.getD i []))→lB l k=lB l' k
 | [],[],_,_,_=>rfl
 | r::l,r'::l',k,hl,h=>by
  have h0:=(h 0).length_eq
  simp only[List.getD_cons_zero]at h0
  simp only[lB,h0]
  rw[T5 l l' (k + 1) (by simpa using hl) fun i=>by have:=h (i + 1);simpa only[List.getD_cons_succ] using this]
theorem WT.dt {T T':WT} (h:T'.iF T):T'.cells=T.cells:=by
 unfold WT.cells
 rw[h.now,T5 _ _ 0 h.len h.row]
def WT.put (T:WT) (i:Nat) (l:List Tm):WT:={ T with rows:=T.rows.set i l }
structure WT.wf (T:WT):Prop where
 len:T.rows.length=65
 mb:bP 2 T.mb
theorem WT.df {T:WT} (h:T.wf) (i:Nat) (l:List Tm):(T.put i l).wf:=⟨by simp[WT.put,h.len],h.mb⟩
theorem WT.gA {T:WT} (h:T.wf) {i:Nat} (hi:i < 65) (l:List Tm) (j:Nat):(T.put i l).row j=if j=i then l else T.row j:=by
 have hl:=h.len
 unfold WT.row WT.put
 simp only[List.getD,List.getElem?_set]
 by_cases e:i=j
 ·subst e;rw[if_pos rfl,if_pos ae,if_pos rfl];rfl
 ·rw[if_neg e,if_neg (fun q=>e q.symm)]
theorem A3:∀ (l:List (List Tm)) (k:Nat),(lB l k).length=l.length
 | [],_=>rfl
 | r::l,k=>by simp[lB,A3 l (k + 1)]
theorem T6:∀ (l:List (List Tm)) (k i:Nat),i < l.length→(lB l k)[i]?=some (.sl 2 (2 + (k + i)) 0 (l.getD i []).length (l.getD i []).length)
 | r::l,k,0,_=>by simp[lB]
 | r::l,k,i + 1,h=>by
  have:=T6 l (k + 1) i (by simpa using h)
  rw[show k + (i + 1)=k + 1 + i by omega]
  simpa [lB] using this
theorem T7:∀ (l:List (List Tm)) (k i:Nat) (r:List Tm),i < l.length→(lB l k).set i (.sl 2 (2 + (k + i)) 0 r.length r.length)=lB (l.set i r) k
 | q::l,k,0,r,_=>by simp[lB]
 | q::l,k,i + 1,r,h=>by
  have:=T7 l (k + 1) i r (by simpa using h)
  rw[show k + (i + 1)=k + 1 + i by omega]
  simpa [lB] using this
theorem WT.len {T:WT} (h:T.wf):T.cells.length=67:=by simp[WT.cells,A3,h.len]
theorem WT.ij (T:WT):T.cells.getD 0 .any=.int .i64 T.now:=rfl
theorem WT.eI {T:WT} (h:T.wf):T.cells.getD 66 .any=.mp 1:=by
 have hl:=h.len
 unfold WT.cells
 rw[List.getD_cons_succ,List.getD_eq_getElem?_getD,List.getElem?_append_right (by rw[A3];omega),A3,hl];rfl
theorem WT.fK {T:WT} (h:T.wf) {i:Nat} (hi:i < 65):T.cells.getD (i + 1) .any=.sl 2 (2 + i) 0 (T.row i).length (T.row i).length:=by
 have hl:=h.len
 unfold WT.cells WT.row
 rw[List.getD_cons_succ,List.getD_eq_getElem?_getD,List.getElem?_append_left (by rw[A3];omega),T6 _ _ _ ae,Nat.zero_add];rfl
theorem WT.MY {T:WT} (h:T.wf) {i:Nat} (hi:i < 65) (l:List Tm):T.cells.set (i + 1) (.sl 2 (2 + i) 0 l.length l.length)=(T.put i l).cells:=by
 have hl:=h.len
 unfold WT.cells WT.put
 rw[List.set_cons_succ,List.set_append_left _ _ (by rw[A3];omega)]
 have:=T7 T.rows 0 i l ae
 rw[Nat.zero_add]at this
 rw[this]
theorem WT.MZ (T:WT) (n:Nat):T.cells.set 0 (.int .i64 n)={ T with now:=n }.cells:=rfl
theorem T8:∀ (l:List (List Tm)) (k n:Nat),2 + k + l.length≤n→ah n (lB l k)
 | [],_,_,_=>by simp[lB,ah]
 | r::l,k,n,h=>by
  simp only[lB,ah,Qf]
  simp only[List.length_cons]at h
  exact ⟨by omega,T8 l (k + 1) n ae⟩
theorem WT.nm {T:WT} (h:T.wf) {n:Nat} (hn:67≤n):ah n T.cells:=by
 have hl:=h.len
 rw[Xi]
 intro x hx
 unfold WT.cells at hx
 rcases List.mem_cons.1 hx with rfl|hx
 ·simp[Qf]
 ·rcases List.mem_append.1 hx with hx|hx
  ·exact Xi.1 (T8 T.rows 0 n ae) x hx
  ·simp only[List.mem_singleton]at hx;subst hx;simp only[Qf];omega
theorem yb:∀ (l:List (List Tm)) (k n b:Nat),Qc (Ke l k) n b=if 2 + k≤b∧b < 2 + k + l.length then .cells (a8 (l.getD (b - (2 + k)) [])) else if b < n then .dead else .free
 | [],k,n,b=>by
  rw[if_neg (by simp only[List.length_nil];omega)];rfl
 | r::l,k,n,b=>by
  unfold Ke
  rw[Qd,yb l (k + 1) n b]
  by_cases h1:2 + k=b
  ·subst h1
   rw[if_pos rfl,if_pos au];simp
  ·rw[if_neg h1]
   by_cases h2:2 + (k + 1)≤b∧b < 2 + (k + 1) + l.length
   ·rw[if_pos h2,if_pos (by simp;omega),show b - (2 + k)=(b - (2 + (k + 1))) + 1 by omega,List.getD_cons_succ]
   ·rw[if_neg h2,if_neg (show ¬ (2 + k≤b∧b < 2 + k + (r::l).length) by simp only[List.length_cons];omega)]
theorem WT.ik {T:WT} (h:T.wf) {i:Nat} (hi:i < 65) (n:Nat):Qc (Ke T.rows 0) n (2 + i)=.cells (a8 (T.row i)):=by
 have hl:=h.len
 rw[yb,if_pos ae,show 2 + i - (2 + 0)=i by omega];rfl
theorem WT.gY {T:WT} (h:T.wf) (n:Nat) {b:Nat} (hb:67≤b):Qc (Ke T.rows 0) n b=if b < n then .dead else .free:=by
 have hl:=h.len
 rw[yb,if_neg ae]
theorem Un {m n:Nat} (vw:m≤n) {x:Bk} (h:bP m x):bP n x:=by
 have up:∀ v,Qf m v→Qf n v:=fun v=>AV.rec (motive_1:=fun v=>Qf m v→Qf n v) (motive_2:=fun l=>ah m l→ah n l) (by simp[Qf]) (fun b v h=>by simpa [Qf] using h) (fun _ _=>by simp[Qf]) (fun _=>by simp[Qf]) (fun _=>by simp[Qf])
  (fun cs h=>by simpa [Qf] using h) (fun cs h=>by simpa [Qf] using h) (fun _ _=>by simp only[Qf];omega) (fun cs _ h=>by simpa [Qf] using h) (fun _ _ _ _ _=>by simp only[Qf];omega) (fun _ cs h=>by simpa [Qf] using h) (by simp[Qf])
  (fun _ cs h=>by simpa [Qf] using h) (fun _=>by simp only[Qf];omega) (fun _=>by simp[Qf]) (by simp[ah]) (fun x xs h1 h2=>by simp only[ah];exact fun ⟨a,b⟩=>⟨h1 a,h2 b⟩) v
 cases x with
 | free=>exact h
 | dead=>exact h
 | cells cs=>exact Xi.2 fun x hx=>up x (Xi.1 h x hx)
 | aC kvs dn=>exact fun p hp=>⟨up _ (h p hp).1,up _ (h p hp).2⟩
 | bn kvs bs ck=>exact fun p hp=>⟨up _ (h p hp).1,up _ (h p hp).2⟩
 | iter b ck seen=>exact Nat.lt_of_lt_of_le h vw
 | dd ls=>exact h
theorem uG {ρ:Nat→Nat} {n:Nat} (h:∀ b,b < n→ρ b=b):∀ v,Qf n v→aD ρ v=v:=fun v=>AV.rec (motive_1:=fun v=>Qf n v→aD ρ v=v) (motive_2:=fun l=>ah n l→ay ρ l=l) (by simp[aD]) (fun b v h1 h2=>by simp only[Qf]at h2;simp only[aD,h1 h2]) (fun _ _=>by simp[aD]) (fun _=>by simp[aD]) (fun _=>by simp[aD])
  (fun cs h1 h2=>by simp only[Qf]at h2;simp only[aD,h1 h2]) (fun cs h1 h2=>by simp only[Qf]at h2;simp only[aD,h1 h2]) (fun b _ h2=>by simp only[Qf]at h2;simp only[aD,h b h2]) (fun cs _ h1 h2=>by simp only[Qf]at h2;simp only[aD,h1 h2]) (fun _ b _ _ _ h2=>by simp only[Qf]at h2;simp only[aD,h b h2]) (fun _ cs h1 h2=>by simp only[Qf]at h2;simp only[aD,h1 h2]) (by simp[aD])
  (fun _ cs h1 h2=>by simp only[Qf]at h2;simp only[aD,h1 h2]) (fun b h2=>by simp only[Qf]at h2;simp only[aD,h b h2]) (fun _=>by simp[aD]) (by simp[ay]) (fun x xs h1 h2=>by simp only[ah,ay];exact fun ⟨a,b⟩=>by rw[h1 a,h2 b]) v
theorem DO {ρ:Nat→Nat} {n:Nat} (h:∀ b,b < n→ρ b=b) {x:Bk} (hx:bP n x):Qx ρ x=x:=by
 cases x with
 | free=>rfl
 | dead=>rfl
 | cells cs =>
  simp only[Qx,Yk]
  congr 1
  exact (List.map_congr_left fun v hv=>uG h v (Xi.1 hx v hv)).trans (List.map_id cs)
 | aC kvs dn =>
  simp only[Qx]
  congr 1
  exact (List.map_congr_left fun q hq=>by rw[uG h _ (hx q hq).1,uG h _ (hx q hq).2];rfl).trans (List.map_id kvs)
 | bn kvs bs ck =>
  simp only[Qx]
  congr 1
  exact (List.map_congr_left fun q hq=>by rw[uG h _ (hx q hq).1,uG h _ (hx q hq).2];rfl).trans (List.map_id kvs)
 | iter b ck seen=>simp only[Qx];rw[h b hx]
 | dd ls=>rfl
theorem yc:∀ (l:List (List Tm)) (k:Nat) (q:Nat × Bk),q ∈ Ke l k→2 + k≤q.1∧q.1 < 2 + k + l.length∧q.2=.cells (a8 (l.getD (q.1 - (2 + k)) []))
 | r::l,k,q,h=>by
  unfold Ke at h
  rcases List.mem_cons.1 h with rfl|h
  ·simp
  ·obtain ⟨h1,h2,h3⟩:=yc l (k + 1) q h
   refine ⟨by omega,by simp;omega,?_⟩
   rw[h3,show q.1 - (2 + k)=(q.1 - (2 + (k + 1))) + 1 by omega,List.getD_cons_succ]
theorem T9:∀ (l:List (List Tm)) (k b:Nat),2 + k≤b→b < 2 + k + l.length→∃ q ∈ Ke l k,q.1=b
 | [],k,b,h1,h2=>by simp at h2;omega
 | r::l,k,b,h1,h2=>by
  by_cases e:b=2 + k
  ·exact ⟨(2 + k,.cells (a8 r)),by simp[Ke],e.symm⟩
  ·obtain ⟨q,h3,h4⟩:=T9 l (k + 1) b ae (by simp at h2;omega)
   exact ⟨q,by simp[Ke,h3],h4⟩
theorem WT.look {T:WT} (h:T.wf) (n:Nat) {q:Nat × Bk} (hq:q ∈ T.h):Qc T.h n q.1=q.2:=by
 have hl:=h.len
 unfold WT.h at hq ⊢
 rcases List.mem_cons.1 hq with rfl|hq
 ·rw[Qd,if_pos rfl]
 rcases List.mem_cons.1 hq with rfl|hq
 ·rw[Qd,if_neg au,Qd,if_pos rfl]
 obtain ⟨h1,h2,h3⟩:=yc _ _ _ hq
 rw[Qd,if_neg ae,Qd,if_neg ae,yb,if_pos ⟨h1,h2⟩,h3]
theorem WT.HL {T:WT} (h:T.wf):Proofs.YtogckmommodmhaaGreatDoor.HL T.h 67:=by
 have hl:=h.len
 refine ⟨fun q hq=>?_,fun b hb=>?_,fun q hq=>WT.look h 67 hq⟩
 ·unfold WT.h at hq
  rcases List.mem_cons.1 hq with rfl|hq
  ·exact ⟨by show 0 < 67;decide,WT.nm h ae⟩
  rcases List.mem_cons.1 hq with rfl|hq
  ·exact ⟨by show 1 < 67;decide,Un ae h.mb⟩
  obtain ⟨h1,h2,h3⟩:=yc _ _ _ hq
  refine ⟨by omega,?_⟩
  rw[h3];simp[bP,pO]
 ·unfold WT.h
  by_cases h0:b=0
  ·exact ⟨(0,.cells T.cells),by simp,h0.symm⟩
  by_cases h1:b=1
  ·exact ⟨(1,T.mb),by simp,h1.symm⟩
  obtain ⟨q,h2,h3⟩:=T9 T.rows 0 b ae ae
  exact ⟨q,by simp[h2],h3⟩
theorem WT.key {T:WT} (h:T.wf) {q:Nat × Bk} (hq:q ∈ T.h):q.1 < 67:=((WT.HL h).mem q hq).1
theorem To.wh {p:List Nat} {n':Nat} {s:St} {t':List (Nat × AV)} {ex:List (Nat × Bk)} {T':WT} (hT:T'.wf) (ρ:Nat→Nat) (hp:∀ b,b ∈ p→ρ b=b∧b < n') (hn:67≤n') (bN:∀ b b',b < n'→b' < n'→ρ b=ρ b'→b=b')
  (h0:Qc s.h s.n (ρ 0)=.cells (ay ρ T'.cells)) (h1:Qc s.h s.n (ρ 1)=Qx ρ T'.mb) (hr:∀ i,i < 65→Qc s.h s.n (ρ (2 + i))=.cells (a8 (T'.row i)))
  (ht:Qu ρ n' s.t t') (hx:oz ρ n' s ex) (hk:∀ q ∈ ex,67≤q.1):To p s ⟨t',ex++T'.h,n'⟩:=by
 have hl:=hT.len
 refine To.CO (ρ:=ρ) hp ⟨ht,?_⟩
 have fact:∀ q ∈ T'.h,q.1 < n'∧bP n' q.2∧Qc s.h s.n (ρ q.1)=Qx ρ q.2:=fun q hq=>by
  have UA:=hq
  obtain ⟨m1,m2⟩:=(WT.HL hT).mem q hq
  refine ⟨by omega,Un hn m2,?_⟩
  unfold WT.h at hq
  rcases List.mem_cons.1 hq with rfl|hq
  ·rw[h0];rfl
  rcases List.mem_cons.1 hq with rfl|hq
  ·exact h1
  obtain ⟨g1,g2,g3⟩:=yc _ _ _ hq
  have:=hr (q.1 - 2) ae
  rw[show 2 + (q.1 - 2)=q.1 by omega]at this
  rw[this,g3]
  simp only[Qx,uE]
  rfl
 have not:∀ (b:Nat) (l:List (Nat × Bk)),b < n'→(∀ q ∈ l,q.1 < n'∧q.1≠b)→tB ρ b l:=fun b l hb=>by
  induction l with
  | nil=>intro _;trivial
  | cons q l ih =>
   intro hl
   obtain ⟨i,x⟩:=q
   obtain ⟨h1,h2⟩:=hl (i,x) au
   exact ⟨fun e=>h2 (bN _ _ h1 hb e),ih fun q hq=>hl q (by simp[hq])⟩
 have yd:∀ (l:List (List Tm)) (k:Nat),(∀ q ∈ Ke l k,q.1 < n'∧bP n' q.2∧Qc s.h s.n (ρ q.1)=Qx ρ q.2)→oz ρ n' s (Ke l k):=fun l=>by
  induction l with
  | nil=>intro k _;trivial
  | cons r l ih =>
   intro k hq
   obtain ⟨a1,a2,a3⟩:=hq (2 + k,.cells (a8 r)) (by simp[Ke])
   refine ⟨⟨a1,a2,a3,not _ _ a1 fun q cD=>?_⟩,ih (k + 1) fun q cD=>hq q (by simp[Ke,cD])⟩
   obtain ⟨b1,b2,_⟩:=yc _ _ _ cD
   exact ⟨(hq q (by simp[Ke,cD])).1,by omega⟩
 have base:oz ρ n' s T'.h:=by
  unfold WT.h
  obtain ⟨a1,a2,a3⟩:=fact (0,.cells T'.cells) (by simp[WT.h])
  obtain ⟨b1,b2,b3⟩:=fact (1,T'.mb) (by simp[WT.h])
  refine ⟨⟨a1,a2,a3,not _ _ a1 fun q hq=>?_⟩,⟨b1,b2,b3,not _ _ b1 fun q hq=>?_⟩,yd _ _ fun q hq=>fact q (by simp[WT.h,hq])⟩
  ·have:=(fact q (by simp only[WT.h];exact List.mem_cons_of_mem _ hq)).1
   rcases List.mem_cons.1 hq with rfl|hq
   ·exact ⟨this,by simp⟩
   ·obtain ⟨c1,c2,_⟩:=yc _ _ _ hq
    exact ⟨this,by omega⟩
  ·obtain ⟨c1,c2,_⟩:=yc _ _ _ hq
   exact ⟨by omega,by omega⟩
 have app:∀ l:List (Nat × Bk),(∀ q ∈ l,67≤q.1)→oz ρ n' s l→oz ρ n' s (l++T'.h):=fun l=>by
  induction l with
  | nil=>intro _ _;exact base
  | cons q l ih =>
   intro hk hs
   obtain ⟨i,x⟩:=q
   obtain ⟨⟨a1,a2,a3,a4⟩,a5⟩:=hs
   refine ⟨⟨a1,a2,a3,?_⟩,ih (fun q hq=>hk q (by simp[hq])) a5⟩
   have bE:=hk (i,x) au
   have M0:∀ (l1 l2:List (Nat × Bk)),tB ρ i l1→tB ρ i l2→tB ρ i (l1++l2):=fun l1 l2=>by
    induction l1 with
    | nil=>intro _ h;exact h
    | cons q l1 ih=>obtain ⟨j,y⟩:=q;intro h1 h2;exact ⟨h1.1,ih h1.2 h2⟩
   exact M0 _ _ a4 (not _ _ a1 fun q hq=>⟨(fact q hq).1,by have:=WT.key hT hq;dsimp only at bE;omega⟩)
 exact app ex hk hx
theorem M1:∀ (l:List (List Tm)) (k n b:Nat),Qc (uF l k) n b=if 2 + k≤b∧b < 2 + k + l.length then .dd (oN (l.getD (b - (2 + k)) [])) else if b < n then .dead else .free
 | [],k,n,b=>by
  rw[if_neg (by simp only[List.length_nil];omega)];rfl
 | r::l,k,n,b=>by
  unfold uF
  rw[Qd,M1 l (k + 1) n b]
  by_cases h1:2 + k=b
  ·subst h1
   rw[if_pos rfl,if_pos au];simp
  ·rw[if_neg h1]
   by_cases h2:2 + (k + 1)≤b∧b < 2 + (k + 1) + l.length
   ·rw[if_pos h2,if_pos (by simp;omega),show b - (2 + k)=(b - (2 + (k + 1))) + 1 by omega,List.getD_cons_succ]
   ·rw[if_neg h2,if_neg (show ¬ (2 + k≤b∧b < 2 + k + (r::l).length) by simp only[List.length_cons];omega)]
theorem M3:∀ (l:List (List Tm)) (k:Nat) (q:Nat × Bk),q ∈ uF l k→2 + k≤q.1∧q.1 < 2 + k + l.length∧q.2=.dd (oN (l.getD (q.1 - (2 + k)) []))
 | r::l,k,q,h=>by
  unfold uF at h
  rcases List.mem_cons.1 h with rfl|h
  ·simp
  ·obtain ⟨h1,h2,h3⟩:=M3 l (k + 1) q h
   refine ⟨by omega,by simp;omega,?_⟩
   rw[h3,show q.1 - (2 + k)=(q.1 - (2 + (k + 1))) + 1 by omega,List.getD_cons_succ]
theorem UB:∀ (l:List (List Tm)) (k b:Nat),2 + k≤b→b < 2 + k + l.length→∃ q ∈ uF l k,q.1=b
 | [],k,b,h1,h2=>by simp at h2;omega
 | r::l,k,b,h1,h2=>by
  by_cases e:b=2 + k
  ·exact ⟨(2 + k,.dd (oN r)),by simp[uF],e.symm⟩
  ·obtain ⟨q,h3,h4⟩:=UB l (k + 1) b ae (by simp at h2;omega)
   exact ⟨q,by simp[uF,h3],h4⟩
theorem WT.gT {T:WT} (h:T.wf):Proofs.YtogckmommodmhaaGreatDoor.HL T.hb 67:=by
 have hl:=h.len
 refine ⟨fun q hq=>?_,fun b hb=>?_,fun q hq=>?_⟩
 ·unfold WT.hb at hq
  rcases List.mem_cons.1 hq with rfl|hq
  ·exact ⟨by show 0 < 67;decide,WT.nm h ae⟩
  rcases List.mem_cons.1 hq with rfl|hq
  ·exact ⟨by show 1 < 67;decide,Un ae h.mb⟩
  obtain ⟨h1,h2,h3⟩:=M3 _ _ _ hq
  refine ⟨by omega,?_⟩
  rw[h3];exact Ych _
 ·unfold WT.hb
  by_cases h0:b=0
  ·exact ⟨(0,.cells T.cells),by simp,h0.symm⟩
  by_cases h1:b=1
  ·exact ⟨(1,T.mb),by simp,h1.symm⟩
  obtain ⟨q,h2,h3⟩:=UB T.rows 0 b ae ae
  exact ⟨q,by simp[h2],h3⟩
 ·unfold WT.hb at hq ⊢
  rcases List.mem_cons.1 hq with rfl|hq
  ·rw[Qd,if_pos rfl]
  rcases List.mem_cons.1 hq with rfl|hq
  ·rw[Qd,if_neg au,Qd,if_pos rfl]
  obtain ⟨h1,h2,h3⟩:=M3 _ _ _ hq
  rw[Qd,if_neg ae,Qd,if_neg ae,M1,if_pos ⟨h1,h2⟩,h3]
theorem WT.bA (T:WT) (n b:Nat):Qc T.h n b=if 0=b then .cells T.cells else if 1=b then T.mb else if 2≤b∧b < 2 + T.rows.length then .cells (a8 (T.row (b - 2))) else if b < n then .dead else .free:=by
 unfold WT.h WT.row
 rw[Qd,Qd,yb]
theorem WT.dN (T:WT) (n b:Nat):Qc T.hb n b=if 0=b then .cells T.cells else if 1=b then T.mb else if 2≤b∧b < 2 + T.rows.length then .dd (oN (T.row (b - 2))) else if b < n then .dead else .free:=by
 unfold WT.hb WT.row
 rw[Qd,Qd,M1]
theorem UC {Q:Nat→List Tm→Prop}:∀ (rows:List (List Tm)) (k:Nat),(∀ j,j < rows.length→∃ l':List Tm,l'.Perm (rows.getD j [])∧Q (k + j) l')→∃ iY:List (List Tm),iY.length=rows.length∧(∀ j,(iY.getD j []).Perm (rows.getD j []))∧∀ j,j < rows.length→Q (k + j) (iY.getD j [])
 | [],k,_=>⟨[],rfl,fun _=>List.Perm.refl _,fun j hj=>by simp at hj⟩
 | r::rows,k,h=>by
  obtain ⟨l',h1,h2⟩:=h 0 au
  obtain ⟨iY,g1,g2,g3⟩:=UC (Q:=Q) rows (k + 1) fun j hj=>by
   have:=h (j + 1) (by simpa using hj)
   rw[show k + 1 + j=k + (j + 1) by omega]
   simpa only[List.getD_cons_succ] using this
  refine ⟨l'::iY,by simp[g1],fun j=>?_,fun j hj=>?_⟩
  ·cases j with
   | zero=>simpa using h1
   | succ j=>simpa only[List.getD_cons_succ] using g2 j
  ·cases j with
   | zero=>simpa using h2
   | succ j =>
    have:=g3 j (by simpa using hj)
    rw[show k + 1 + j=k + (j + 1) by omega]at this
    simpa only[List.getD_cons_succ] using this
theorem WT.cE {c:Cx} {g:Nat→GM} {a:Act} {w:World} {T:WT} (hR:R c g (cW T.hb 67) a w):∃ T':WT,T'.iF T∧R c g (cW T'.h 67) a w:=by
 have hk:∀ j,j < T.rows.length→∃ l':List Tm,l'.Perm (T.rows.getD j [])∧(fun i (l':List Tm)=>BR g (Qn c g (cW T.hb 67)) w (g (2 + i)) (.cells (a8 l'))) (0 + j) l':=fun j hj=>by
  have hb:=hR.h (2 + j)
  have e:(cW T.hb 67).H (2 + j)=.dd (oN (T.rows.getD j [])):=by
   show Qc T.hb 67 (2 + j)=_
   rw[WT.dN,if_neg ae,if_neg ae,if_pos ae,show 2 + j - 2=j by omega];rfl
  rw[e]at hb
  rw[Nat.zero_add]
  exact Xyd hb
 obtain ⟨iY,h1,h2,h3⟩:=UC (Q:=fun i (l':List Tm)=>BR g (Qn c g (cW T.hb 67)) w (g (2 + i)) (.cells (a8 l'))) T.rows 0 hk
 have hs:WT.iF { T with rows:=iY } T:=⟨rfl,rfl,h1,h2⟩
 refine ⟨_,hs,hR.gn (fun _ _ h=>h) (fun b hb=>?_) fun b=>?_⟩
 ·show BR _ _ _ _ (Qc (WT.h _) 67 b)
  have e:(cW T.hb 67).H b=Qc T.hb 67 b:=rfl
  rw[e,WT.dN]at hb
  rw[WT.bA,WT.dt hs,h1]
  by_cases c0:0=b
  ·rw[if_pos c0]at hb ⊢;exact hb
  rw[if_neg c0]at hb ⊢
  by_cases c1:1=b
  ·rw[if_pos c1]at hb ⊢;exact hb
  rw[if_neg c1]at hb ⊢
  by_cases c2:2≤b∧b < 2 + T.rows.length
  ·rw[if_pos c2]
   have:=h3 (b - 2) ae
   rw[Nat.zero_add,show 2 + (b - 2)=b by omega]at this
   exact this
  ·rw[if_neg c2]at hb ⊢;exact hb
 ·show (Qc _ 67 b).live ↔ (Qc T.hb 67 b).live
  rw[WT.bA,WT.dN,WT.dt hs,h1]
  (repeat' split)<;>first|exact Iff.rfl|exact ⟨fun _=>trivial,fun _=>trivial⟩
theorem WT.cls {c:Cx} {g:Nat→GM} {a:Act} {w:World} {T T':WT} (hs:T'.iF T) (hR:R c g (cW T'.h 67) a w):R c g (cW T.hb 67) a w:=by
 refine hR.gn (fun _ _ h=>h) (fun b hb=>?_) fun b=>?_
 ·show BR _ _ _ _ (Qc T.hb 67 b)
  have e:(cW T'.h 67).H b=Qc T'.h 67 b:=rfl
  rw[e,WT.bA,WT.dt hs,hs.mb,hs.len]at hb
  rw[WT.dN]
  by_cases h0:0=b
  ·rw[if_pos h0]at hb ⊢;exact hb
  rw[if_neg h0]at hb ⊢
  by_cases h1:1=b
  ·rw[if_pos h1]at hb ⊢;exact hb
  rw[if_neg h1]at hb ⊢
  by_cases h2:2≤b∧b < 2 + T.rows.length
  ·rw[if_pos h2]at hb ⊢;exact T4 hb (hs.row _)
  ·rw[if_neg h2]at hb ⊢;exact hb
 ·show (Qc T.hb 67 b).live ↔ (Qc T'.h 67 b).live
  rw[WT.bA,WT.dN,WT.dt hs,hs.len,hs.mb]
  (repeat' split)<;>first|exact Iff.rfl|exact ⟨fun _=>trivial,fun _=>trivial⟩
theorem A4 {P:Program} {gl:Nat→AV} {f:FuncId} {args:List AV} {p:List Nat} {r:AV} {T T2:WT} (h:∀ T':WT,T'.iF T→GQ P gl f args T'.h 67 p (fun DP:WT=>DP.iF T2) (fun _=>r) WT.h):GD P gl f args T.hb 67 p r T2.hb:=by
 refine ⟨(h T T.qV).1,fun w vs G X g hR hv=>?_⟩
 obtain ⟨T',hs,bf⟩:=WT.cE hR
 have hW:Qn ⟨0,w,G,X,gl,[]⟩ g (cW T'.h 67)=Qn ⟨0,w,G,X,gl,[]⟩ g (cW T.hb 67):=by
  funext k
  have hl:∀ b,((cW T'.h 67).H b).live ↔ ((cW T.hb 67).H b).live:=fun b=>by
   show (Qc T'.h 67 b).live ↔ (Qc T.hb 67 b).live
   rw[WT.bA,WT.dN,WT.dt hs,hs.len,hs.mb]
   (repeat' split)<;>first|exact Iff.rfl|exact ⟨fun _=>trivial,fun _=>trivial⟩
  simp only[Qn,hl]
 refine ((h T' hs).2 w vs G X g bf (by rw[hW];exact hv)).mono fun e w' ⟨DP,v,g',q1,q2,q3,q4,q5⟩=>?_
 refine ⟨(),v,g',trivial,q2,WT.cls q1 q3,q4,?_⟩
 have mz:Qn ⟨0,w,G,X,gl,[]⟩ g' (cW DP.h 67)=Qn ⟨0,w,G,X,gl,[]⟩ g' (cW T2.hb 67):=by
  funext k
  have hl:∀ b,((cW DP.h 67).H b).live ↔ ((cW T2.hb 67).H b).live:=fun b=>by
   show (Qc DP.h 67 b).live ↔ (Qc T2.hb 67 b).live
   rw[WT.bA,WT.dN,WT.dt q1,q1.len,q1.mb]
   (repeat' split)<;>first|exact Iff.rfl|exact ⟨fun _=>trivial,fun _=>trivial⟩
  simp only[Qn,hl]
 rw[← mz];exact q5
theorem WT.fL {T:WT} (h:T.wf) (j:Nat) (hj:j < 67):j=0∨j=66∨∃ i,i < 65∧j=i + 1:=by
 by_cases h0:j=0
 ·exact .inl h0
 by_cases h1:j=66
 ·exact .inr (.inl h1)
 ·exact .inr (.inr ⟨j - 1,by omega,by omega⟩)
theorem Ha {l l':List AV} (hl:l.length=l'.length) (h:∀ j,j < l.length→l.getD j .any=l'.getD j .any):l=l':=by
 refine List.ext_getElem hl fun j h1 h2=>?_
 have:=h j h1
 simpa [List.getD,h1,h2] using this
def Kp (i N b:Nat):Nat:=if b=2 + i then N else b
theorem Xto {T:WT} (hT:T.wf) {i:Nat} (hi:i < 65) (l:List Tm) (N:Nat):ay (Kp i N) (T.put i l).cells=T.cells.set (i + 1) (.sl 2 N 0 l.length l.length):=by
 have hw:=WT.df hT i l
 have UD:=WT.len hT
 have hl2:=WT.len hw
 refine Ha (by rw[Yg,List.length_set,UD,hl2]) fun j hj=>?_
 rw[Yg,hl2]at hj
 rw[Ko]
 have br:∀ v,(T.cells.set (i + 1) v).getD j .any=if j=i + 1 then v else T.cells.getD j .any:=fun v=>by
  simp only[List.getD,List.getElem?_set]
  by_cases e:i + 1=j
  ·subst e;rw[if_pos rfl,if_pos ae,if_pos rfl];rfl
  ·rw[if_neg e,if_neg fun q=>e q.symm]
 rw[br]
 rcases WT.fL hT j hj with rfl|rfl|⟨i',mh,rfl⟩
 ·rw[if_neg ae];simp only[WT.ij,aD];rfl
 ·rw[if_neg ae,WT.eI hw,WT.eI hT];simp only[aD,Kp];rw[if_neg ae]
 ·rw[WT.fK hw mh,WT.fK hT mh,WT.gA hT hi]
  by_cases e:i'=i
  ·subst e;simp[aD,Kp]
  ·rw[if_neg e,if_neg ae]
   simp only[aD,Kp];rw[if_neg ae]
theorem To.put {p:List Nat} {n':Nat} {s:St} {t':List (Nat × AV)} {ex:List (Nat × Bk)} {T:WT} (hT:T.wf) {i N:Nat} (hi:i < 65) {l:List Tm} (hN:67≤N) (hn:67≤n') (hp:∀ b,b ∈ p→b < n'∧b≠2 + i) (hNn:n'≤N)
  (h0:Qc s.h s.n 0=.cells (T.cells.set (i + 1) (.sl 2 N 0 l.length l.length))) (h1:Qc s.h s.n 1=T.mb) (hl:Qc s.h s.n N=.cells (a8 l)) (hr:∀ j,j < 65→j≠i→Qc s.h s.n (2 + j)=.cells (a8 (T.row j)))
  (ht:Qu (Kp i N) n' s.t t') (hx:oz (Kp i N) n' s ex) (hk:∀ q ∈ ex,67≤q.1):To p s ⟨t',ex++(T.put i l).h,n'⟩:=by
 have hw:=WT.df hT i l
 refine To.wh hw (Kp i N) (fun b hb=>⟨by unfold Kp;rw[if_neg (hp b hb).2],(hp b hb).1⟩) hn (fun b b' hb bH e=>?_) ?_ ?_ (fun j hj=>?_) ht hx hk
 ·unfold Kp at e
  (repeat' split at e)<;>omega
 ·rw[Xto hT hi,show Kp i N 0=0 by unfold Kp;rw[if_neg ae]];exact h0
 ·rw[show Kp i N 1=1 by unfold Kp;rw[if_neg ae],h1]
  show T.mb=Qx _ T.mb
  exact (DO (fun b hb=>by unfold Kp;rw[if_neg ae]) hT.mb).symm
 ·rw[WT.gA hT hi]
  unfold Kp
  by_cases e:j=i
  ·subst e;rw[if_pos rfl,if_pos rfl];exact hl
  ·rw[if_neg ae,if_neg e];exact hr j hj e
theorem To.dC {p:List Nat} {t t':List (Nat × AV)} {ex:List (Nat × Bk)} {T:WT} {n:Nat} (hT:T.wf) (hp:∀ b,b ∈ p→b < 67) (hex:∀ q ∈ ex,67≤q.1) (ht:Qu id 67 t t'):To p ⟨t,ex++T.h,n⟩ ⟨t',T.h,67⟩:=by
 have hl:=hT.len
 have hs:∀ b,b < 67→Qc (ex++T.h) n b=Qc T.h n b:=fun b hb=>Qw fun q hq e=>by have:=hex q hq;omega
 refine To.wh (ex:=[]) hT id (fun b hb=>⟨rfl,hp b hb⟩) ae (fun b b' _ _ e=>e) ?_ ?_ (fun i hi=>?_) ht trivial (fun q hq=>by cases hq)
 ·show Qc (ex++T.h) n 0=_
  rw[hs 0 ae,WT.bA,if_pos rfl,Jf]
 ·show Qc (ex++T.h) n 1=_
  rw[hs 1 ae,WT.bA,if_neg ae,if_pos rfl,Kb]
 ·show Qc (ex++T.h) n (2 + i)=_
  rw[hs _ ae,WT.bA,if_neg ae,if_neg ae,if_pos ae,show 2 + i - 2=i by omega]
theorem Yeq {ρ:List (Nat × Nat)} (h:ρ.all (fun q=>decide (67≤q.1) && decide (67≤q.2))=true):∀ b,(b < 67→rl ρ b=b)∧(67≤b→67≤rl ρ b):=by
 induction ρ with
 | nil=>exact fun b=>⟨fun _=>rfl,fun h=>h⟩
 | cons q ρ ih =>
  obtain ⟨i,j⟩:=q
  simp only[List.all_cons,Bool.and_eq_true,decide_eq_true_eq]at h
  intro b
  have:=ih h.2 b
  show (b < 67→(bif i == b then j else rl ρ b)=b)∧(67≤b→67≤(bif i == b then j else rl ρ b))
  cases e:i == b with
  | true =>
   have:i=b:=by simpa using e
   exact ⟨fun h2=>by omega,fun _=>h.1.2⟩
  | false=>exact this
theorem To.M4 {p:List Nat} {n':Nat} {s:St} {t':List (Nat × AV)} {ex:List (Nat × Bk)} {T:WT} (ρ:List (Nat × Nat)) (hT:T.wf) (hp:∀ b,b ∈ p→b < 67) (hn:67≤n') (hρ:ρ.all (fun q=>decide (67≤q.1) && decide (67≤q.2))=true)
  (hd:z7 ((List.range (n' - 67)).map fun i=>rl ρ (67 + i))=true) (hs:∀ b,b < 67→Qc s.h s.n b=Qc T.h 67 b) (ht:Qu (rl ρ) n' s.t t') (hx:oz (rl ρ) n' s ex) (hk:∀ q ∈ ex,67≤q.1):To p s ⟨t',ex++T.h,n'⟩:=by
 have hl:=hT.len
 have fw:=Yeq hρ
 refine To.wh hT (rl ρ) (fun b hb=>⟨(fw b).1 (hp b hb),by have:=hp b hb;omega⟩) hn (fun b b' hb bH e=>?_) ?_ ?_ (fun i hi=>?_) ht hx hk
 ·by_cases h1:b < 67<;>by_cases h2:b' < 67
  ·rw[(fw b).1 h1,(fw b').1 h2]at e;exact e
  ·rw[(fw b).1 h1]at e;have:=(fw b').2 ae;omega
  ·rw[(fw b').1 h2]at e;have:=(fw b).2 ae;omega
  ·have:=J9 hd (b - 67) (b' - 67) (by simp;omega) (by simp;omega) (by
    simp only[List.getD,List.getElem?_map,List.getElem?_range (show b - 67 < n' - 67 by omega),List.getElem?_range (show b' - 67 < n' - 67 by omega),Option.map_some,Option.getD_some]
    rw[show 67 + (b - 67)=b by omega,show 67 + (b' - 67)=b' by omega];exact e)
   omega
 ·rw[(fw 0).1 ae,hs 0 ae,WT.bA,if_pos rfl]
  congr 1
  refine (((Ha (by rw[Yg]) fun j hj=>?_):ay (rl ρ) T.cells=T.cells)).symm
  rw[Yg,WT.len hT]at hj
  rw[Ko]
  refine uG (fun b hb=>(fw b).1 hb) _ (Zs (WT.nm hT (Nat.le_refl 67)) j)
 ·rw[(fw 1).1 ae,hs 1 ae,WT.bA,if_neg ae,if_pos rfl]
  exact (DO (fun b hb=>(fw b).1 ae) hT.mb).symm
 ·rw[(fw (2 + i)).1 ae,hs _ ae,WT.bA,if_neg ae,if_neg ae,if_pos ae,show 2 + i - 2=i by omega]
theorem Ybx (i N:Nat):Kp i N 0=0:=by unfold Kp;rw[if_neg (by omega)]
theorem Ye7 (i N:Nat):Kp i N 1=1:=by unfold Kp;rw[if_neg (by omega)]
theorem To.off {p:List Nat} {s:St} {T:WT} {i k:Nat} {l:List Tm} {t':List (Nat × AV)} (hT:T.wf) (hi:i < 65) (hl:T.row i=l) (h0:Qc s.h s.n 0=.cells (T.cells.set (i + 1) .nils)) (hs:∀ b,b≠0→b < 67→Qc s.h s.n b=Qc T.h 67 b)
  (hf:s.fs.H s.n=.free) (hn:67≤s.n) (hk:look s.t k=.sl 2 (2 + i) 0 l.length l.length) (hp:∀ b,b ∈ p→b < 2) (ht:Qu (Kp i s.n) 67 ((k,.isl l.length (a8 l))::s.t) t'):To p s ⟨t',(T.put i []).h,67⟩:=by
 have fO:=hT.len
 have aW:=WT.len hT
 refine To.trans (To.kN (b:=0) (j:=i + 1) (es:=2) h0 (by rw[List.getElem?_set_self ae]) hf) ?_
 rw[List.set_set]
 have cr:Qc s.h (s.n + 1) (2 + i)=.cells (a8 l):=by
  rw[Wd _ _ _ ae,hs _ ae ae,WT.bA,if_neg ae,if_neg ae,if_pos ae,show 2 + i - 2=i by omega,hl]
 refine To.trans (To.gb (b:=2 + i) (i:=k) (cs:=a8 l) (es:=2) (off:=0) (n:=l.length) (k:=l.length) ?_ hk) ?_
 ·show Qc ((0,_)::(s.n,_)::s.h) (s.n + 1) (2 + i)=_
  rw[Qd,if_neg ae,Qd,if_neg ae];exact cr
 have eQ:((a8 l).drop 0).take (l.length * 2)=a8 l:=by rw[List.drop_zero,List.take_of_length_le (by rw[Zm];omega)]
 rw[eQ]
 refine To.put (ex:=[]) hT hi (N:=s.n) hn ae (fun b hb=>by have:=hp b hb;omega) hn ?_ ?_ ?_ (fun j hj bY=>?_) ht trivial (fun q hq=>by cases hq)
 ·show Qc ((2 + i,_)::(0,_)::(s.n,_)::s.h) (s.n + 1) 0=_
  rw[Qd,if_neg ae,Qd,if_pos rfl];rfl
 ·show Qc ((2 + i,_)::(0,_)::(s.n,_)::s.h) (s.n + 1) 1=_
  rw[Qd,if_neg ae,Qd,if_neg ae,Qd,if_neg ae,Wd _ _ _ ae,hs 1 ae ae,WT.bA,if_neg ae,if_pos rfl]
 ·show Qc ((2 + i,_)::(0,_)::(s.n,_)::s.h) (s.n + 1) s.n=_
  rw[Qd,if_neg ae,Qd,if_neg ae,Qd,if_pos rfl];rfl
 ·show Qc ((2 + i,_)::(0,_)::(s.n,_)::s.h) (s.n + 1) (2 + j)=_
  rw[Qd,if_neg ae,Qd,if_neg ae,Qd,if_neg ae,Wd _ _ _ ae,hs _ ae ae,WT.bA,if_neg ae,if_neg ae,if_pos ae,show 2 + j - 2=j by omega]
def il (b:Nat):Prop:=b < 2∨67≤b
theorem qW {P:Program} {c:Cx} {r0:List bG} {K:St→Prop} {s:St} {d:Option Nat} {f:FuncId} {xs:List TV} {args:List AV} {T:WT} {ι:Type} {Q:ι→Prop} {r:ι→AV} {W:ι→WT} {pc:List Nat} (hq:GQ P c.gl f args T.h 67 [0,1] Q r (fun x=>(W x).h)) (hT:T.wf) (hW:∀ x,Q x→(W x).wf)
  (aY:∀ q ∈ c.gh,q.1 ∈ pc) (hpc:∀ b ∈ pc,il b) (t:List (Nat × AV)) (ex:List (Nat × Bk)) (n:Nat) (gC:To pc s ⟨t,ex++T.h,n⟩) (hex:∀ q ∈ ex,67≤q.1∧nu il q.2)
  (hc:Qt none (aF c.gl (⟨t,ex++T.h,n⟩:St).fs xs)∧(aF c.gl (⟨t,ex++T.h,n⟩:St).fs xs).map Qj=args∧ah 67 args∧xt il t) (hr:∀ x,Q x→Qf 67 (r x)) (hk:∀ x,Q x→XP P c r0 K (St.bD ⟨t,ex++(W x).h,n⟩ d (r x))):Xw P c (.pd d (.call f) xs none) r0 K s:=by
 have hS:il=tY id [0,1] 67:=by
  funext b
  refine propext ⟨fun h b' bH e=>?_,fun h=>?_⟩
  ·show b' ∈ [0,1]
   have e:b'=b:=e
   rcases h with h|h
   ·have:b'=0∨b'=1:=by omega
    simpa using this
   ·omega
  ·by_cases hb:b < 67
   ·have:=h b hb rfl
    simp at this
    exact .inl ae
   ·exact .inr ae
 refine Yew (σ:=id) hq aY t ex ⟨by rw[Jw];exact gC,fun b b' _ _ e=>e,WT.HL hT,fun b hb=>?_,fun q hq=>⟨fun b hb e=>?_,?_⟩,?_,by rw[Jw];exact hc.1,?_,hc.2.2.1⟩ (fun x hx=>WT.HL (hW x hx)) hr fun x hx=>?_
 ·rw[← hS];exact hpc b hb
 ·have:=(hex q hq).1
  have e:b=q.1:=e
  omega
 ·rw[← hS];exact (hex q hq).2
 ·rw[← hS];exact hc.2.2.2
 ·show some (f,_)=some (f,_)
  rw[Jw,Jf,hc.2.1]
 ·rw[Jw,py id (fun _=>rfl)];exact hk x hx
theorem Xr6 (S:Nat→Prop):xt S []=True:=rfl
theorem Xh7 (S:Nat→Prop) (i:Nat) (v:AV) (l:List (Nat × AV)):xt S ((i,v)::l)=(cP S v∧xt S l):=rfl
theorem Xk5 (S:Nat→Prop) (k:IntKind) (n:Int):cP S (.int k n)=True:=by simp only[cP]
theorem Xey (S:Nat→Prop) (b:Bool):cP S (.bool b)=True:=by simp only[cP]
theorem Xno (S:Nat→Prop) (b:List UInt8):cP S (.str b)=True:=by simp only[cP]
theorem Xfh (S:Nat→Prop):cP S .nils=True:=by simp only[cP]
theorem Xlq (S:Nat→Prop) (b o:Nat):cP S (.ptr b o)=S b:=by simp only[cP]
theorem Xus (S:Nat→Prop) (b:Nat):cP S (.mp b)=S b:=by simp only[cP]
theorem Xtb (S:Nat→Prop) (es b o n c:Nat):cP S (.sl es b o n c)=S b:=by simp only[cP]
theorem Xkg (S:Nat→Prop) (n:Nat) (l:List AV):cP S (.isl n l)=cT S l:=by simp only[cP]
theorem Xmk (S:Nat→Prop) (l:List AV):cP S (.agg l)=cT S l:=by simp only[cP]
theorem Xmj (S:Nat→Prop) (l:List AV):cP S (.aU l)=cT S l:=by simp only[cP]
theorem Xrk (S:Nat→Prop) (f:FuncId) (l:List AV):cP S (.cl f l)=cT S l:=by simp only[cP]
theorem Xj9 (S:Nat→Prop) (v:Value):cP S (.lit v)=True:=by simp only[cP]
theorem Xih (S:Nat→Prop):cT S []=True:=by simp only[cT]
theorem Qzb (S:Nat→Prop) (v:AV) (l:List AV):cT S (v::l)=(cP S v∧cT S l):=by simp only[cT]
theorem Ycr:il 0=True:=by simp[il]
theorem Yd2:il 1=True:=by simp[il]
theorem Yf9 (b:Nat) (h:67≤b):il b=True:=by simp[il,h]
attribute [go_sem] Xr6 Xh7 Xk5 Xey Xno Xfh Xlq Xus Xtb Xkg Xmk Xmj Xrk Xj9 Xih Qzb Ycr Yd2 Yf9 Ybx Ye7 TZ
theorem WT.aM {T:WT} (h:T.wf) (n b:Nat) (hb:67≤b):Qc T.h n b=if b < n then .dead else .free:=by
 have hl:=h.len
 rw[WT.bA,if_neg ae,if_neg ae,if_neg ae]
theorem WT.oO {T:WT} (h:T.wf) (n b:Nat) (hb:67≤b):Qc T.hb n b=if b < n then .dead else .free:=by
 have hl:=h.len
 rw[WT.dN,if_neg ae,if_neg ae,if_neg ae]
theorem UE (gl:Nat→AV) (t:Tm) (x:Int):GS Tryz.prog gl 176 [.agg [.int .i64 t.id,.int .i64 t.due],.ptr 0 0] [(0,.cells [.int .i64 x])] 1 (.bool (t.id == x)) [(0,.cells [.int .i64 x])] 1:=by
 refine Xyu.gs (of_decide_eq_true rfl) (by simp[Bk.live]) fun c hN hg=>?_
 conv in aQ _ _=>cbv
 obtain ⟨id,due⟩:=t
 refine Qe ?_
 refine ⟨[],?_⟩
 exact Qr
def pP (x:Int):List Tm→Nat→Int
 | [],_=>-1
 | t::l,k=>if t.id=x then k else pP x l (k + 1)
set_option maxHeartbeats 1000000 in
theorem Ydh (gl:Nat→AV) (l:List Tm) (hl:l.length≤1000000) (x:Int):GS Tryz.prog gl 181 [.sl 2 0 0 l.length l.length,.cl 176 [.ptr 1 0]]
  [(0,.cells (a8 l)),(1,.cells [.int .i64 x])] 2 (.int .i64 (pP x l 0)) [(0,.cells (a8 l)),(1,.cells [.int .i64 x])] 2:=by
 refine TW.gs (of_decide_eq_true rfl) (by simp[Bk.live]) fun c hN hg=>?_
 conv in aQ _ _=>cbv
 have dq:=Zm l
 refine Qe ?_
 refine Ui (fun k:Nat=>k≤l.length∧pP x (l.drop k) k=pP x l 0) (fun k=>⟨[(0,.sl 2 0 0 l.length l.length),(1,.cl 176 [.ptr 1 0]),(6,.sl 2 0 0 l.length l.length),(7,.int .i64 l.length),(8,.int .i64 k)],[(0,.cells (a8 l)),(1,.cells [.int .i64 x])],2⟩) (fun k=>l.length - k) TW.mixed 2 hN
  ⟨0,⟨by omega,rfl⟩,[],by exact Qr⟩ fun k hk=>?_
 obtain ⟨hk,cK⟩:=hk
 refine Qe ?_
 (refine Qa (fun h1=>?_) (fun h1=>?_)<;>try exact h1.elim)
 ·have bw:k < l.length:=by omega
  have a7:=wc l k bw
  have iD:l.drop k=l[k]::l.drop (k + 1):=List.drop_eq_getElem_cons bw
  rw[iD]at cK
  rw[pP]at cK
  generalize l[k]=t at *
  have hc:=UE c.gl t x
  refine Qh (An @dq @a7) ?_
  refine Xm (ip [1]) hc (An @dq @a7) ?_
  (refine Qa (fun h2=>?_) (fun h2=>?_)<;>try exact h2.elim)
  ·rw[if_pos (by simpa using h2)]at cK
   refine Qe ?_
   refine ⟨[],?_⟩
   exact Qq @cK
  ·rw[if_neg (by simpa using h2)]at cK
   refine Qe ?_
   refine ⟨k + 1,⟨by omega,cK⟩,⟨[],?_⟩,by omega⟩
   exact Qr
 ·have:k=l.length:=by omega
  subst this
  rw[List.drop_length]at cK
  have cK:(-1:Int)=pP x l 0:=cK
  refine Qe ?_
  refine ⟨[],?_⟩
  exact Qq @cK
theorem Xsy (l:List Tm) (k:Nat) (h:k≤l.length):(a8 l).drop (k * 2)=a8 (l.drop k):=by
 have e:a8 l=a8 (l.take k)++a8 (l.drop k):=by rw[← uD,List.take_append_drop]
 rw[e,List.drop_append_of_le_length (by rw[Zm,List.length_take];omega),List.drop_of_length_le (by rw[Zm,List.length_take];omega),List.nil_append]
theorem UF (l:List Tm) (k:Nat) (h:k≤l.length):(a8 l).take (k * 2)=a8 (l.take k):=by
 have e:a8 l=a8 (l.take k)++a8 (l.drop k):=by rw[← uD,List.take_append_drop]
 rw[e,List.take_append_of_le_length (by rw[Zm,List.length_take];omega),List.take_of_length_le (by rw[Zm,List.length_take];omega)]
theorem Ya4 (l:List Tm) (k:Nat) (h:k < l.length) (t:Tm):(a8 l).take (k * 2)++[.int .i64 t.id,.int .i64 t.due]++(a8 l).drop (k * 2 + 2)=a8 (l.set k t):=by
 rw[show k * 2 + 2=(k + 1) * 2 by omega,UF l k ae,Xsy l (k + 1) ae,List.set_eq_take_append_cons_drop,if_pos h,uD]
 simp[a8]
theorem UG {x:Int}:∀ (l:List Tm) (k:Nat),pP x l k=-1→∀ t ∈ l,t.id≠x
 | [],_,_,t,ht=>by cases ht
 | a::l,k,h,t,ht=>by
  unfold pP at h
  split at h
  ·omega
  ·rcases List.mem_cons.1 ht with rfl|ht
   ·assumption
   ·exact UG l (k + 1) h t ht
theorem UH {x:Int}:∀ (l:List Tm) (k:Nat),pP x l k≠-1→∃ i,i < l.length∧pP x l k=((k + i:Nat):Int)∧(∀ t ∈ l.take i,t.id≠x)∧∃ t,l[i]?=some t∧t.id=x
 | [],_,h=>absurd rfl h
 | a::l,k,h=>by
  unfold pP at h ⊢
  split at h
  ·rename_i e
   rw[if_pos e]
   exact ⟨0,by simp,by simp,by simp,a,rfl,e⟩
  ·rename_i e
   rw[if_neg e]
   obtain ⟨i,h1,h2,h3,t,h4,h5⟩:=UH l (k + 1) h
   refine ⟨i + 1,by simpa using h1,by rw[h2];omega,fun y hy=>?_,t,by simpa using h4,h5⟩
   rw[List.take_succ_cons]at hy
   rcases List.mem_cons.1 hy with rfl|hy
   ·exact e
   ·exact h3 y hy
theorem Xy2:Ae Tryz.prog 144 2:=KL (by kernel_rfl)
def Xt (x:Int) (l:List Tm):List Tm:=l.filter fun t=>!(t.id == x)
set_option maxHeartbeats 2000000 in
theorem UI (gl:Nat→AV) (l:List Tm) (hl:l.length≤1000000) (x:Int):GS Tryz.prog gl 177 [.sl 2 0 0 l.length l.length,.cl 176 [.ptr 1 0]]
  [(0,.cells (a8 l)),(1,.cells [.int .i64 x])] 2 (.sl 2 0 0 (Xt x l).length l.length) [(0,.cells (a8 (Xt x l))),(1,.cells [.int .i64 x])] 2:=by
 refine TU.gs (of_decide_eq_true rfl) (by simp[Bk.live]) fun c hN hg=>?_
 conv in aQ _ _=>cbv
 have dq:=Zm l
 have hi:=Ydh c.gl l hl x
 refine Qe ?_
 ((first|refine tM (ins:=[0,1]) hi ?_ ?_|refine tN (ins:=[0,1]) hi ?_ ?_|refine tQ (ins:=[0,1]) hi ?_ ?_|refine tS (ins:=[0,1]) hi ?_ ?_)<;>(have aJ:=@dq;refine XG ?_;clear aJ;(try first|exact rfl|exact True.intro);((try (repeat' with_reducible refine And.intro ?_ ?_));(try any_goals (first|refine zm ?_|exact CL|fail)))))
 ·decide
 by_cases cd:pP x l 0=-1
 ·have ew:Xt x l=l:=List.filter_eq_self.2 fun t ht=>by simpa using UG l 0 cd t ht
  rw[ew]
  (refine Qa (fun h1=>?_) (fun h1=>?_)<;>try exact h1.elim)
  ·refine Qe ?_
   refine ⟨[],?_⟩
   exact Qr
  ·exact absurd cd (by simpa using h1)
 ·obtain ⟨i0,q1,q2,q3,t0,q4,q5⟩:=UH l 0 cd
  rw[Nat.zero_add]at q2
  rw[q2]
  (refine Qa (fun h1=>?_) (fun h1=>?_)<;>try exact h1.elim)
  ·omega
  refine Qe ?_
  refine Ui (fun y:Nat × Nat × List Tm=>y.1 < y.2.1∧y.2.1≤l.length∧y.2.2.length=l.length∧y.2.2.take y.1=Xt x (l.take y.2.1)∧y.2.2.drop y.2.1=l.drop y.2.1)
   (fun y=>⟨[(0,.sl 2 0 0 l.length l.length),(1,.cl 176 [.ptr 1 0]),(5,.int .i64 y.1),(6,.int .i64 y.2.1)],[(0,.cells (a8 y.2.2)),(1,.cells [.int .i64 x])],2⟩) (fun y=>l.length - y.2.1) TU.mixed 2 hN
   ⟨(i0,i0 + 1,l),⟨by simp,by show i0 + 1≤l.length;omega,rfl,?_,rfl⟩,[],by exact Qr⟩ fun y hy=>?_
  ·have:l.take (i0 + 1)=l.take i0++[t0]:=by rw[List.take_succ,q4];rfl
   show l.take i0=Xt x (l.take (i0 + 1))
   rw[this]
   unfold Xt
   rw[List.filter_append,List.filter_eq_self.2 fun t ht=>by simpa using q3 t ht]
   simp[q5]
  obtain ⟨i,j,M⟩:=y
  obtain ⟨iM,kV,hM,bW,mR⟩:=hy
  dsimp only at iM kV hM bW mR ⊢
  have uH:=Zm M
  refine Qe ?_
  (refine Qa (fun h2=>?_) (fun h2=>?_)<;>try exact h2.elim)
  ·have mE:j < l.length:=by omega
   have DQ:j < M.length:=by omega
   have a7:=wc M j DQ
   have M5:M[j]=l[j]:=by
    have e1:(M.drop j)[0]?=M[j]?:=by simp
    have e2:(l.drop j)[0]?=l[j]?:=by simp
    rw[mR,e2]at e1
    simpa [mE,DQ] using e1.symm
   have eQ:Xt x (l.take (j + 1))=if M[j].id=x then Xt x (l.take j) else Xt x (l.take j)++[M[j]]:=by
    have:l.take (j + 1)=l.take j++[M[j]]:=by rw[List.take_succ,M5];simp[mE]
    rw[this]
    unfold Xt
    rw[List.filter_append]
    split<;>simp_all
   have iD:M.drop (j + 1)=l.drop (j + 1):=by
    have:=congrArg (List.drop 1) mR
    simpa [List.drop_drop,Nat.add_comm] using this
   have br:Yp (a8 M) (i * 2) [.int .i64 M[j].id,.int .i64 M[j].due]=a8 (M.set i M[j]):=Ya4 M i ae M[j]
   have gZ:((M.set i M[j]).take (i + 1))=M.take i++[M[j]]:=by
    rw[List.take_succ,List.take_set_of_le (Nat.le_refl i)]
    simp[show i < M.length by omega]
   have yf:(M.set i M[j]).drop (j + 1)=M.drop (j + 1):=by rw[List.drop_set_of_lt ae]
   have ie:(M.set i M[j]).length=l.length:=by simp[hM]
   have htS:=Zm (M.set i M[j])
   generalize M[j]=t at *
   have hc:=UE c.gl t x
   refine Qh (An @uH @a7) ?_
   refine Xm (ip [1]) hc (An @uH @a7) ?_
   (refine Qa (fun h3=>?_) (fun h3=>?_)<;>try exact h3.elim)
   ·rw[if_neg h3]at eQ
    refine Qh (An @uH @br) ?_
    refine ⟨(i + 1,j + 1,M.set i t),⟨by dsimp only;omega,by dsimp only;omega,ie,by rw[gZ,bW,eQ],by rw[yf,iD]⟩,⟨[],?_⟩,by dsimp only;omega⟩
    exact Qr
   ·rw[if_pos (by simpa using h3)]at eQ
    refine Qh @uH ?_
    refine ⟨(i,j + 1,M),⟨by dsimp only;omega,by dsimp only;omega,hM,by rw[bW,eQ],iD⟩,⟨[],?_⟩,by dsimp only;omega⟩
    exact Qr
  ·obtain rfl:j=l.length:=by omega
   rw[List.take_length]at bW
   have fw:(Xt x l).length=i:=by rw[← bW,List.length_take];omega
   have gC:=UF M i ae
   rw[bW]at gC
   refine Qe ?_
   (refine F9 Xy2 ?_;(have aJ:=@gC;refine XG ?_;clear aJ;((try (repeat' with_reducible refine And.intro ?_ ?_));(try any_goals (first|refine zm ?_|exact CL|fail)))))
   refine Qe ?_
   refine ⟨[],?_⟩
   exact Qq @fw
def WT.lay (T:WT) (t:Tm):WT:=T.put (Yr T.now t.due) (T.row (Yr T.now t.due)++[t])
theorem WT.eB {T:WT} (h:T.wf) (t:Tm):(T.lay t).wf:=WT.df h _ _
theorem Uj {now due k:Nat} (h:Yr now due=AZ now due (4 - k) k) (hk:k < 4):Yr now due=if due / 16 ^ k < now / 16 ^ k + 16 then k * 16 + due / 16 ^ k % 16 else AZ now due (4 - (k + 1)) (k + 1):=by
 rw[h,show 4 - k=(4 - (k + 1)) + 1 by omega];rfl
theorem pQ (a b:Nat):Int.tdiv (a:Int) (b:Int)=((a / b:Nat):Int):=by rw[Int.tdiv_eq_ediv_of_nonneg (by omega)];rfl
theorem oP (a b:Nat):Int.tmod (a:Int) (b:Int)=((a % b:Nat):Int):=by rw[Int.tmod_eq_emod_of_nonneg (by omega)];rfl
set_option maxHeartbeats 4000000 in
set_option maxRecDepth 20000 in
theorem yg (gl:Nat→AV) (T:WT) (hT:T.wf) (t:Tm) (hn:T.now≤1099511627776) (hd:t.due≤1099511627776) (hlen:(T.row (Yr T.now t.due)).length≤1000000) :
  GQ Tryz.prog gl 165 [.ptr 0 0,.agg [.int .i64 t.id,.int .i64 t.due]] T.h 67 [0,1] (fun _:Unit=>True) (fun _=>.aU []) (fun _=>(T.lay t).h):=by
 refine TQ.gq (of_decide_eq_true rfl) (fun q hq=>Xc (((WT.HL hT).mem q hq).2)) au fun c aY hg=>?_
 conv in aQ _ _=>cbv
 have aM:=fun n b hb=>WT.gY hT n (b:=b) hb
 have h0:=WT.ij T
 have hl:=WT.len hT
 obtain ⟨id,due⟩:=t
 dsimp only at hd hlen ⊢
 have nK:T.h=(0,.cells T.cells)::(1,T.mb)::Ke T.rows 0:=rfl
 rw[nK]
 refine Qh @aM ?_
 refine Yf (fun k:Nat=>k≤4∧Yr T.now due=AZ T.now due (4 - k) k) (fun k=>⟨[(0,.ptr 0 0),(3,.ptr 67 0),(4,.int .i64 ((16 ^ k:Nat):Int)),(7,.int .i64 k)],(67,.cells [.int .i64 id,.int .i64 due])::T.h,68⟩) (fun k=>4 - k) TQ.mixed [0,1] aY
  ⟨0,⟨by omega,rfl⟩,To.dk (by exact Qr) fun _=>rfl⟩ fun k hk=>?_
 obtain ⟨hk4,ie⟩:=hk
 obtain rfl|rfl|rfl|rfl|rfl:k=0∨k=1∨k=2∨k=3∨k=4:=by omega
 ·have nL:Int.tdiv (due:Int) 1=((due / 1:Nat):Int):=pQ due 1
  have lP:Int.tdiv (T.now:Int) 1=((T.now / 1:Nat):Int):=pQ T.now 1
  have hp:((16 ^ 0:Nat):Int)=1:=rfl
  have fb:((16 ^ 1:Nat):Int)=16:=rfl
  have hm:Int.tmod ((due / 1:Nat):Int) 16=((due / 1 % 16:Nat):Int):=oP _ 16
  rw[nK,hp]
  refine Qh (An @aM @h0) ?_
  (refine Qa (fun h1=>?_) (fun h1=>?_)<;>try exact h1.elim)
  refine Qh (An @aM (An @h0 (An @nL @lP))) ?_
  (refine Qa (fun h2=>?_) (fun h2=>?_)<;>try exact h2.elim)
  ·refine Qh (An @aM (An @h0 (An @nL @hm))) ?_
   have iC:Yr T.now due=due / 1 % 16:=by rw[Uj ie ae,if_pos (by simp only[Nat.reducePow];omega)];simp only[Nat.zero_mul,Nat.zero_add,Nat.reducePow]
   have nM:due / 1 % 16 < 16:=Nat.mod_lt _ ae
   rw[iC]at hlen
   have eC:T.lay ⟨id,due⟩=T.put (due / 1 % 16) (T.row (due / 1 % 16)++[⟨id,due⟩]):=by unfold WT.lay;rw[iC]
   rw[eC]
   generalize due / 1 % 16=sp at *
   have aV:=WT.fK hT (i:=sp) ae
   have cr:=fun n=>WT.ik hT (i:=sp) ae n
   rw[show sp + 1=1 + sp by omega]at aV
   have dq:=Zm (T.row (sp))
   have fP:((68:Nat) == 2 + sp)=false:=beq_eq_false_iff_ne.2 ae
   have dE:((67:Nat) == 2 + sp)=false:=beq_eq_false_iff_ne.2 ae
   have jU:((0:Nat) == 2 + sp)=false:=beq_eq_false_iff_ne.2 ae
   have nN:((1:Nat) == 2 + sp)=false:=beq_eq_false_iff_ne.2 ae
   have lV:((2 + sp:Nat) == 0)=false:=beq_eq_false_iff_ne.2 ae
   refine Zj (An @aM @aV) ?_
   ((first|apply zU|apply zV|apply zW|apply zX|apply zY|apply zZ);(have aJ:=@aM;have bm:=@aV;have bL:=@fP;have cf:=@dE;have cF:=@jU;have dp:=@nN;have fc:=@cr;have jn:=@dq;have sm:=@lV;refine XG ?_;clear aJ bm bL cf cF dp fc jn sm;((try (repeat' with_reducible refine And.intro ?_ ?_));(try any_goals (first|refine zm ?_|exact CL|fail)))))
   ·simp[Us,Ub,cN,fP,dE,jU,nN,lV]
    (repeat' refine And.intro ?_ ?_)<;>first|decide|(left;omega)
   ·refine Qe ?_
    refine ⟨(),To.put (ex:=[]) hT (i:=sp) (N:=69) ae ae ae (fun b hb=>?_) ae ?_ ?_ ?_ (fun j hj bY=>?_) ?_ trivial (fun q hq=>by cases hq)⟩
    ·simp at hb;omega
    ·rw[Qd,if_pos rfl,show sp + 1=1 + sp by omega];simp
    ·(repeat rw[Qd,if_neg ae]);rw[Qd,if_pos rfl]
    ·rw[Qd,if_neg ae,Qd,if_pos rfl,uD];rfl
    ·(repeat rw[Qd,if_neg ae]);exact WT.ik hT hj 70
    ·simp[Qu,Qf,ah,look,aD,ay]
  ·refine Zp (An @aM @h0) ?_
   refine ⟨1,⟨by omega,?_⟩,To.dk (by exact Qq @fb) fun _=>rfl,by omega⟩
   rw[Uj ie ae,if_neg (by simp only[Nat.reducePow];omega)]
 ·have nL:Int.tdiv (due:Int) 16=((due / 16:Nat):Int):=pQ due 16
  have lP:Int.tdiv (T.now:Int) 16=((T.now / 16:Nat):Int):=pQ T.now 16
  have hp:((16 ^ 1:Nat):Int)=16:=rfl
  have fb:((16 ^ 2:Nat):Int)=256:=rfl
  have hm:Int.tmod ((due / 16:Nat):Int) 16=((due / 16 % 16:Nat):Int):=oP _ 16
  rw[nK,hp]
  refine Qh (An @aM @h0) ?_
  (refine Qa (fun h1=>?_) (fun h1=>?_)<;>try exact h1.elim)
  refine Qh (An @aM (An @h0 (An @nL @lP))) ?_
  (refine Qa (fun h2=>?_) (fun h2=>?_)<;>try exact h2.elim)
  ·refine Qh (An @aM (An @h0 (An @nL @hm))) ?_
   have iC:Yr T.now due=16 + due / 16 % 16:=by rw[Uj ie ae,if_pos (by simp only[Nat.reducePow];omega)]
   have nM:due / 16 % 16 < 16:=Nat.mod_lt _ ae
   rw[iC]at hlen
   have eC:T.lay ⟨id,due⟩=T.put (16 + due / 16 % 16) (T.row (16 + due / 16 % 16)++[⟨id,due⟩]):=by unfold WT.lay;rw[iC]
   rw[eC]
   generalize due / 16 % 16=sp at *
   have aV:=WT.fK hT (i:=16 + sp) ae
   have cr:=fun n=>WT.ik hT (i:=16 + sp) ae n
   rw[show 16 + sp + 1=17 + sp by omega,show 2 + (16 + sp)=18 + sp by omega]at aV
   simp only[show 2 + (16 + sp)=18 + sp by omega]at cr
   have dq:=Zm (T.row (16 + sp))
   have fP:((68:Nat) == 18 + sp)=false:=beq_eq_false_iff_ne.2 ae
   have dE:((67:Nat) == 18 + sp)=false:=beq_eq_false_iff_ne.2 ae
   have jU:((0:Nat) == 18 + sp)=false:=beq_eq_false_iff_ne.2 ae
   have nN:((1:Nat) == 18 + sp)=false:=beq_eq_false_iff_ne.2 ae
   have lV:((18 + sp:Nat) == 0)=false:=beq_eq_false_iff_ne.2 ae
   refine Zj (An @aM @aV) ?_
   ((first|apply zU|apply zV|apply zW|apply zX|apply zY|apply zZ);(have aJ:=@aM;have bm:=@aV;have bL:=@fP;have cf:=@dE;have cF:=@jU;have dp:=@nN;have fc:=@cr;have jn:=@dq;have sm:=@lV;refine XG ?_;clear aJ bm bL cf cF dp fc jn sm;((try (repeat' with_reducible refine And.intro ?_ ?_));(try any_goals (first|refine zm ?_|exact CL|fail)))))
   ·simp[Us,Ub,cN,fP,dE,jU,nN,lV]
    (repeat' refine And.intro ?_ ?_)<;>first|decide|(left;omega)
   ·refine Qe ?_
    refine ⟨(),To.put (ex:=[]) hT (i:=16 + sp) (N:=69) ae ae ae (fun b hb=>?_) ae ?_ ?_ ?_ (fun j hj bY=>?_) ?_ trivial (fun q hq=>by cases hq)⟩
    ·simp at hb;omega
    ·rw[Qd,if_pos rfl,show 16 + sp + 1=17 + sp by omega];simp
    ·(repeat rw[Qd,if_neg ae]);rw[Qd,if_pos rfl]
    ·rw[Qd,if_neg ae,Qd,if_pos rfl,uD];rfl
    ·(repeat rw[Qd,if_neg ae]);exact WT.ik hT hj 70
    ·simp[Qu,Qf,ah,look,aD,ay]
  ·refine Zp (An @aM @h0) ?_
   refine ⟨2,⟨by omega,?_⟩,To.dk (by exact Qq @fb) fun _=>rfl,by omega⟩
   rw[Uj ie ae,if_neg (by simp only[Nat.reducePow];omega)]
 ·have nL:Int.tdiv (due:Int) 256=((due / 256:Nat):Int):=pQ due 256
  have lP:Int.tdiv (T.now:Int) 256=((T.now / 256:Nat):Int):=pQ T.now 256
  have hp:((16 ^ 2:Nat):Int)=256:=rfl
  have fb:((16 ^ 3:Nat):Int)=4096:=rfl
  have hm:Int.tmod ((due / 256:Nat):Int) 16=((due / 256 % 16:Nat):Int):=oP _ 16
  rw[nK,hp]
  refine Qh (An @aM @h0) ?_
  (refine Qa (fun h1=>?_) (fun h1=>?_)<;>try exact h1.elim)
  refine Qh (An @aM (An @h0 (An @nL @lP))) ?_
  (refine Qa (fun h2=>?_) (fun h2=>?_)<;>try exact h2.elim)
  ·refine Qh (An @aM (An @h0 (An @nL @hm))) ?_
   have iC:Yr T.now due=32 + due / 256 % 16:=by rw[Uj ie ae,if_pos (by simp only[Nat.reducePow];omega)]
   have nM:due / 256 % 16 < 16:=Nat.mod_lt _ ae
   rw[iC]at hlen
   have eC:T.lay ⟨id,due⟩=T.put (32 + due / 256 % 16) (T.row (32 + due / 256 % 16)++[⟨id,due⟩]):=by unfold WT.lay;rw[iC]
   rw[eC]
   generalize due / 256 % 16=sp at *
   have aV:=WT.fK hT (i:=32 + sp) ae
   have cr:=fun n=>WT.ik hT (i:=32 + sp) ae n
   rw[show 32 + sp + 1=33 + sp by omega,show 2 + (32 + sp)=34 + sp by omega]at aV
   simp only[show 2 + (32 + sp)=34 + sp by omega]at cr
   have dq:=Zm (T.row (32 + sp))
   have fP:((68:Nat) == 34 + sp)=false:=beq_eq_false_iff_ne.2 ae
   have dE:((67:Nat) == 34 + sp)=false:=beq_eq_false_iff_ne.2 ae
   have jU:((0:Nat) == 34 + sp)=false:=beq_eq_false_iff_ne.2 ae
   have nN:((1:Nat) == 34 + sp)=false:=beq_eq_false_iff_ne.2 ae
   have lV:((34 + sp:Nat) == 0)=false:=beq_eq_false_iff_ne.2 ae
   refine Zj (An @aM @aV) ?_
   ((first|apply zU|apply zV|apply zW|apply zX|apply zY|apply zZ);(have aJ:=@aM;have bm:=@aV;have bL:=@fP;have cf:=@dE;have cF:=@jU;have dp:=@nN;have fc:=@cr;have jn:=@dq;have sm:=@lV;refine XG ?_;clear aJ bm bL cf cF dp fc jn sm;((try (repeat' with_reducible refine And.intro ?_ ?_));(try any_goals (first|refine zm ?_|exact CL|fail)))))
   ·simp[Us,Ub,cN,fP,dE,jU,nN,lV]
    (repeat' refine And.intro ?_ ?_)<;>first|decide|(left;omega)
   ·refine Qe ?_
    refine ⟨(),To.put (ex:=[]) hT (i:=32 + sp) (N:=69) ae ae ae (fun b hb=>?_) ae ?_ ?_ ?_ (fun j hj bY=>?_) ?_ trivial (fun q hq=>by cases hq)⟩
    ·simp at hb;omega
    ·rw[Qd,if_pos rfl,show 32 + sp + 1=33 + sp by omega];simp
    ·(repeat rw[Qd,if_neg ae]);rw[Qd,if_pos rfl]
    ·rw[Qd,if_neg ae,Qd,if_pos rfl,uD];rfl
    ·(repeat rw[Qd,if_neg ae]);exact WT.ik hT hj 70
    ·simp[Qu,Qf,ah,look,aD,ay]
  ·refine Zp (An @aM @h0) ?_
   refine ⟨3,⟨by omega,?_⟩,To.dk (by exact Qq @fb) fun _=>rfl,by omega⟩
   rw[Uj ie ae,if_neg (by simp only[Nat.reducePow];omega)]
 ·have nL:Int.tdiv (due:Int) 4096=((due / 4096:Nat):Int):=pQ due 4096
  have lP:Int.tdiv (T.now:Int) 4096=((T.now / 4096:Nat):Int):=pQ T.now 4096
  have hp:((16 ^ 3:Nat):Int)=4096:=rfl
  have fb:((16 ^ 4:Nat):Int)=65536:=rfl
  have hm:Int.tmod ((due / 4096:Nat):Int) 16=((due / 4096 % 16:Nat):Int):=oP _ 16
  rw[nK,hp]
  refine Qh (An @aM @h0) ?_
  (refine Qa (fun h1=>?_) (fun h1=>?_)<;>try exact h1.elim)
  refine Qh (An @aM (An @h0 (An @nL @lP))) ?_
  (refine Qa (fun h2=>?_) (fun h2=>?_)<;>try exact h2.elim)
  ·refine Qh (An @aM (An @h0 (An @nL @hm))) ?_
   have iC:Yr T.now due=48 + due / 4096 % 16:=by rw[Uj ie ae,if_pos (by simp only[Nat.reducePow];omega)]
   have nM:due / 4096 % 16 < 16:=Nat.mod_lt _ ae
   rw[iC]at hlen
   have eC:T.lay ⟨id,due⟩=T.put (48 + due / 4096 % 16) (T.row (48 + due / 4096 % 16)++[⟨id,due⟩]):=by unfold WT.lay;rw[iC]
   rw[eC]
   generalize due / 4096 % 16=sp at *
   have aV:=WT.fK hT (i:=48 + sp) ae
   have cr:=fun n=>WT.ik hT (i:=48 + sp) ae n
   rw[show 48 + sp + 1=49 + sp by omega,show 2 + (48 + sp)=50 + sp by omega]at aV
   simp only[show 2 + (48 + sp)=50 + sp by omega]at cr
   have dq:=Zm (T.row (48 + sp))
   have fP:((68:Nat) == 50 + sp)=false:=beq_eq_false_iff_ne.2 ae
   have dE:((67:Nat) == 50 + sp)=false:=beq_eq_false_iff_ne.2 ae
   have jU:((0:Nat) == 50 + sp)=false:=beq_eq_false_iff_ne.2 ae
   have nN:((1:Nat) == 50 + sp)=false:=beq_eq_false_iff_ne.2 ae
   have lV:((50 + sp:Nat) == 0)=false:=beq_eq_false_iff_ne.2 ae
   refine Zj (An @aM @aV) ?_
   ((first|apply zU|apply zV|apply zW|apply zX|apply zY|apply zZ);(have aJ:=@aM;have bm:=@aV;have bL:=@fP;have cf:=@dE;have cF:=@jU;have dp:=@nN;have fc:=@cr;have jn:=@dq;have sm:=@lV;refine XG ?_;clear aJ bm bL cf cF dp fc jn sm;((try (repeat' with_reducible refine And.intro ?_ ?_));(try any_goals (first|refine zm ?_|exact CL|fail)))))
   ·simp[Us,Ub,cN,fP,dE,jU,nN,lV]
    (repeat' refine And.intro ?_ ?_)<;>first|decide|(left;omega)
   ·refine Qe ?_
    refine ⟨(),To.put (ex:=[]) hT (i:=48 + sp) (N:=69) ae ae ae (fun b hb=>?_) ae ?_ ?_ ?_ (fun j hj bY=>?_) ?_ trivial (fun q hq=>by cases hq)⟩
    ·simp at hb;omega
    ·rw[Qd,if_pos rfl,show 48 + sp + 1=49 + sp by omega];simp
    ·(repeat rw[Qd,if_neg ae]);rw[Qd,if_pos rfl]
    ·rw[Qd,if_neg ae,Qd,if_pos rfl,uD];rfl
    ·(repeat rw[Qd,if_neg ae]);exact WT.ik hT hj 70
    ·simp[Qu,Qf,ah,look,aD,ay]
  ·refine Zp (An @aM @h0) ?_
   refine ⟨4,⟨by omega,?_⟩,To.dk (by exact Qq @fb) fun _=>rfl,by omega⟩
   rw[Uj ie ae,if_neg (by simp only[Nat.reducePow];omega)]
 ·rw[nK]
  refine Qh (An @aM @h0) ?_
  (refine Qa (fun h1=>?_) (fun h1=>?_)<;>try exact h1.elim)
  have iC:Yr T.now due=64:=by rw[ie];rfl
  rw[iC]at hlen
  have eC:T.lay ⟨id,due⟩=T.put 64 (T.row 64++[⟨id,due⟩]):=by unfold WT.lay;rw[iC]
  rw[eC]
  have aV:=WT.fK hT (i:=64) ae
  have cr:=fun n=>WT.ik hT (i:=64) ae n
  simp only[Nat.reduceAdd]at aV cr
  have dq:=Zm (T.row 64)
  refine Qh (An @aM @aV) ?_
  refine Zj (An @aM @aV) ?_
  refine Zj (An @aM (An @aV (An @cr @dq))) ?_
  refine ⟨(),To.put (ex:=[]) hT (i:=64) (N:=69) ae ae ae (fun b hb=>?_) ae ?_ ?_ ?_ (fun j hj bY=>?_) ?_ trivial (fun q hq=>by cases hq)⟩
  ·simp at hb;omega
  ·rw[Qd,if_pos rfl];simp
  ·(repeat rw[Qd,if_neg ae]);rw[Qd,if_pos rfl]
  ·rw[Qd,if_neg ae,Qd,if_pos rfl,uD];rfl
  ·(repeat rw[Qd,if_neg ae]);exact WT.ik hT hj 70
  ·simp[Qu,Qf,ah,look,aD,ay]
def bu (D:List Tm):List (AV × AV):=D.map fun t=>(.int .i64 t.id,.int .i64 t.due)
theorem qX (D:List Tm):(bu D).length=D.length:=by simp[bu]
theorem A5 (D:List Tm):Ah false [.int .i64] (bu D):=fun q hq=>by
 obtain ⟨t,_,rfl⟩:=List.mem_map.1 hq
 rfl
theorem Um (x:Int):Ks false [.int .i64] (.int .i64 x):=rfl
theorem Hb (D:List Tm) (x:Int):jq (bu D) (.int .i64 x)=D.findIdx? fun t=>t.id == x:=by
 unfold jq bu
 induction D with
 | nil=>rfl
 | cons t D ih =>
  simp only[List.map_cons,List.findIdx?_cons]
  rw[ih]
  by_cases h:t.id=x
  ·simp[h]
  ·simp[h]
def jV (D:List Tm) (x:Int):Bool:=D.any fun t=>t.id == x
def UJ (D:List Tm) (x:Int):Nat:=match D.find? (fun t=>t.id == x) with
 | some t=>t.due
 | none=>0
theorem Hc (D:List Tm) (x:Int):Ag (bu D) (.int .i64 x)=jV D x:=by
 unfold Ag jV
 rw[Hb]
 induction D with
 | nil=>rfl
 | cons t D ih =>
  rw[List.findIdx?_cons,List.any_cons]
  cases h:t.id == x with
  | true=>simp
  | false=>simpa using ih
theorem Hd (D:List Tm) (x:Int):pG (bu D) (.int .i64 x) (.int .i64 0)=.int .i64 (UJ D x):=by
 unfold pG UJ
 rw[Hb]
 induction D with
 | nil=>rfl
 | cons t D ih =>
  rw[List.findIdx?_cons,List.find?_cons]
  cases h:t.id == x with
  | true=>simp[bu]
  | false =>
   simp only[cond_false,Bool.false_eq_true,if_false]
   rw[← ih]
   cases D.findIdx? fun t=>t.id == x with
   | none=>rfl
   | some i=>simp[bu]
theorem He {D:List Tm} {x:Int} (h:∀ t ∈ D,t.id≠x):Xt x D=D:=List.filter_eq_self.2 fun t ht=>by simpa using h t ht
theorem UK:∀ (D:List Tm) (x:Int),D.Pairwise (fun a b=>a.id≠b.id)→xo (bu D) (.int .i64 x)=bu (Xt x D):=fun D x hd=>by
 have key:∀ D:List Tm,D.Pairwise (fun a b=>a.id≠b.id)→(match D.findIdx? (fun t=>t.id == x) with|some i=>D.eraseIdx i|none=>D)=Xt x D:=fun D=>by
  induction D with
  | nil=>intro _;rfl
  | cons t D ih =>
   intro hd
   have h2:=ih (List.Pairwise.of_cons hd)
   rw[List.findIdx?_cons]
   unfold Xt
   rw[List.filter_cons]
   cases h:t.id == x with
   | true =>
    have hx:t.id=x:=by simpa using h
    have:=He (x:=x) fun y hy e=>List.rel_of_pairwise_cons hd hy (hx.trans e.symm)
    unfold Xt at this
    simp[this]
   | false =>
    unfold Xt at h2
    simp only[Bool.not_false,if_true,Bool.false_eq_true,if_false]
    rw[← h2]
    cases D.findIdx? fun t=>t.id == x<;>simp
 rw[← key D hd]
 unfold xo
 rw[Hb]
 cases D.findIdx? fun t=>t.id == x with
 | none=>rfl
 | some i =>
  have em:∀ (l:List Tm) (i:Nat),(bu l).eraseIdx i=bu (l.eraseIdx i):=fun l=>by
   induction l with
   | nil=>intro i;rfl
   | cons t l ih =>
    intro i
    cases i with
    | zero=>rfl
    | succ i =>
     have:=ih i
     simp only[bu,List.map_cons,List.eraseIdx_cons_succ]at this ⊢
     rw[this]
  exact em D i
theorem Xv3 {D:List Tm} {x:Int} (h:∀ t ∈ D,t.id≠x) (n:Nat):pH (bu D) (.int .i64 x) (.int .i64 n)=bu (D++[⟨x,n⟩]):=by
 unfold pH
 rw[Hb,List.findIdx?_eq_none_iff.2 fun t ht=>by simpa using h t ht]
 simp[bu]
theorem Ur (n:Nat) (D:List Tm):∀ q ∈ bu D,Qf n q.1∧Qf n q.2:=fun q hq=>by
 obtain ⟨t,_,rfl⟩:=List.mem_map.1 hq
 simp[Qf]
theorem uI {T:WT} {D:List Tm} {dn:Bool} (hl:T.rows.length=65) (h:T.mb=.aC (bu D) dn):T.wf:=⟨hl,by rw[h];exact Ur 2 D⟩
def WT.upto (T:WT) (x:Int) (n:Nat):WT:={ T with rows:=(T.rows.take n).map (Xt x)++T.rows.drop n }
theorem WT.kh {T:WT} (h:T.wf) (x:Int) (n:Nat):(T.upto x n).wf:=⟨by
 have:=h.len
 simp[WT.upto];omega,h.mb⟩
theorem WT.gD {T:WT} (x:Int) (n i:Nat):(T.upto x n).row i=if i < n then Xt x (T.row i) else T.row i:=by
 unfold WT.row WT.upto
 simp only[List.getD,List.getElem?_append,List.length_map,List.length_take]
 by_cases h1:i < n
 ·rw[if_pos h1]
  by_cases h2:i < T.rows.length
  ·rw[if_pos ae,List.getElem?_map,List.getElem?_take_of_lt h1,List.getElem?_eq_getElem h2];rfl
  ·rw[if_neg ae,List.getElem?_drop,List.getElem?_eq_none ae,List.getElem?_eq_none ae];rfl
 ·rw[if_neg h1]
  by_cases h2:i < T.rows.length
  ·rw[if_neg ae,List.getElem?_drop];congr 2;omega
  ·rw[if_neg ae,List.getElem?_drop,List.getElem?_eq_none ae,List.getElem?_eq_none ae]
theorem Xv4 {l l':List (List Tm)} (hl:l.length=l'.length) (h:∀ j,l.getD j []=l'.getD j []):l=l':=by
 refine List.ext_getElem hl fun j h1 h2=>?_
 have:=h j
 simpa [List.getD,h1,h2] using this
theorem WT.jW {T:WT} (h:T.wf) (x:Int) {n:Nat} (hn:n < 65):T.upto x (n + 1)=(T.upto x n).put n (Xt x (T.row n)):=by
 have hl:=h.len
 have e:(T.upto x (n + 1)).rows=((T.upto x n).put n (Xt x (T.row n))).rows:=by
  refine Xv4 (by simp[WT.upto,WT.put];omega) fun j=>?_
  have h1:=WT.gD (T:=T) x (n + 1) j
  have h2:=WT.gA (WT.kh h x n) hn (Xt x (T.row n)) j
  rw[WT.gD]at h2
  unfold WT.row at h1 h2 ⊢
  rw[h1,h2]
  by_cases e:j=n
  ·subst e;rw[if_pos ae,if_pos rfl]
  ·rw[if_neg e]
   by_cases e2:j < n
   ·rw[if_pos e2,if_pos ae]
   ·rw[if_neg e2,if_neg ae]
 show ({ T with rows:=(T.upto x (n + 1)).rows }:WT)={ T with rows:=((T.upto x n).put n (Xt x (T.row n))).rows }
 rw[e]
theorem WT.qY {T:WT} (h:T.wf) (x:Int):T.upto x 65={ T with rows:=T.rows.map (Xt x) }:=by
 have hl:=h.len
 unfold WT.upto
 rw[List.take_of_length_le ae,List.drop_of_length_le ae,List.append_nil]
theorem WT.lC {T:WT} (h:T.wf) {i:Nat} (hi:i < 65) (l:List Tm) (n b:Nat):Qc (T.put i l).h n b=if 0=b then .cells (T.cells.set (i + 1) (.sl 2 (2 + i) 0 l.length l.length)) else if 2 + i=b then .cells (a8 l) else Qc T.h n b:=by
 have hl:=h.len
 rw[WT.bA,WT.bA,WT.MY h hi]
 by_cases h0:0=b
 ·rw[if_pos h0,if_pos h0]
 rw[if_neg h0,if_neg h0]
 by_cases h1:1=b
 ·rw[if_pos h1,if_neg ae,if_neg h0,if_pos h1];rfl
 rw[if_neg h1]
 have hlen:(T.put i l).rows.length=T.rows.length:=by simp[WT.put]
 rw[hlen]
 by_cases h2:2 + i=b
 ·rw[if_pos h2,if_pos ae,WT.gA h hi,if_pos ae]
 ·rw[if_neg h2,if_neg h0,if_neg h1]
  by_cases h3:2≤b∧b < 2 + T.rows.length
  ·rw[if_pos h3,if_pos h3,WT.gA h hi,if_neg ae]
  ·rw[if_neg h3,if_neg h3]
set_option maxHeartbeats 4000000 in
set_option maxRecDepth 20000 in
theorem Xe6 (gl:Nat→AV) (T:WT) (D:List Tm) (dn:Bool) (hlen:T.rows.length=65) (eS:T.mb=.aC (bu D) dn) (hd:D.Pairwise fun a b=>a.id≠b.id) (fO:∀ i,(T.row i).length≤1000000) (x:Int) (hx:jV D x=true) :
  GQ Tryz.prog gl 164 [.ptr 0 0,.int .i64 x] T.h 67 [0,1] (fun _:Unit=>True) (fun _=>.int .i64 0) (fun _=>{ T with rows:=T.rows.map (Xt x),mb:=.aC (bu (Xt x D)) false }.h):=by
 have hT:=uI hlen eS
 refine G0.gq (of_decide_eq_true rfl) (fun q hq=>Xc (((WT.HL hT).mem q hq).2)) au fun c aY hg=>?_
 conv in aQ _ _=>cbv
 have aM:=fun n b hb=>WT.gY hT n (b:=b) hb
 have h0:=WT.ij T
 have kE:=WT.eI hT
 have hl:=WT.len hT
 have nK:T.h=(0,.cells T.cells)::(1,.aC (bu D) dn)::Ke T.rows 0:=by rw[← eS];rfl
 have dX:=A5 D
 have dO:=Um x
 have yh:=Hc D x
 have ed:=Hd D x
 have yi:=UK D x hd
 rw[nK]
 refine Qh @aM ?_
 (refine Qa (fun h1=>?_) (fun h1=>?_)<;>try exact h1.elim)
 refine Qh (An @aM @kE) ?_
 ((first|refine nt kg ?_|refine Ww kg ?_);(have aJ:=@aM;have bm:=@dX;have bL:=@dO;have cf:=@ed;have cF:=@yh;have dp:=@hx;refine XG ?_;clear aJ bm bL cf cF dp;((try (repeat' with_reducible refine And.intro ?_ ?_));(try any_goals (first|refine zm ?_|exact CL|fail)))))
 (refine Qa (fun h2=>?_) (fun h2=>?_)<;>try exact h2.elim)
 refine Qh (An @aM @kE) ?_
 ((first|refine Lc kg ?_|refine Ld kg ?_);(have aJ:=@aM;have bm:=@dX;have bL:=@dO;have cf:=@yi;refine XG ?_;clear aJ bm bL cf;((try (repeat' with_reducible refine And.intro ?_ ?_));(try any_goals (first|refine zm ?_|exact CL|fail)))))
 refine Qe ?_
 have bI:WT.wf { T with mb:=.aC (bu (Xt x D)) false }:=⟨hlen,Ur 2 _⟩
 have oQ:∀ i,(WT.row { T with mb:=.aC (bu (Xt x D)) false } i).length≤1000000:=fO
 generalize DR:({ T with mb:=.aC (bu (Xt x D)) false }:WT)=T1 at bI oQ
 refine Yf (fun i:Nat=>i≤4) (fun i=>⟨[(0,.ptr 0 0),(7,.cl 176 [.ptr 67 0]),(29,.int .i64 i)],(67,.cells [.int .i64 x])::(T1.upto x (16 * i)).h,68⟩) (fun i=>4 - i) G0.mixed [0,1] aY
  ⟨0,by omega,To.dk (by exact Qr) fun b=>?_⟩ fun i hi=>?_
 ·have e:T1.upto x (16 * 0)=T1:=by simp[WT.upto]
  show Qc ((67,.cells [.int .i64 x])::(T1.upto x (16 * 0)).h) 68 b=_
  rw[e,← DR]
  show Qc ((67,.cells [.int .i64 x])::(0,.cells T.cells)::(1,.aC (bu (Xt x D)) false)::Ke T.rows 0) 68 b=_
  simp only[Qd]
  (repeat' split)<;>first|rfl|omega
 refine Qe ?_
 (refine Qa (fun h3=>?_) (fun h3=>?_)<;>try exact h3.elim)
 ·refine Qe ?_
  refine Yf (fun k:Nat=>k≤16) (fun k=>⟨[(0,.ptr 0 0),(7,.cl 176 [.ptr 67 0]),(8,.int .i64 i),(29,.int .i64 i),(32,.int .i64 k)],(67,.cells [.int .i64 x])::(T1.upto x (16 * i + k)).h,68⟩) (fun k=>16 - k) G0.mixed [0,1] aY
   ⟨0,by omega,To.dk (by exact Qr) fun b=>rfl⟩ fun k hk=>?_
  refine Qe ?_
  (refine Qa (fun h4=>?_) (fun h4=>?_)<;>try exact h4.elim)
  ·have cC:16 * i + k < 65:=by omega
   have nO:=WT.kh bI x (16 * i + k)
   have ep:=WT.jW bI x cC
   have lD:=WT.gD (T:=T1) x (16 * i + k) (16 * i + k)
   rw[if_neg ae]at lD
   have dM:=(UI c.gl (T1.row (16 * i + k)) (oQ _) x).wk (Wk.cap _ _ _ _ _)
   have dq:=Zm (T1.row (16 * i + k))
   generalize hTe:T1.upto x (16 * i + k)=Tn at *
   have aV:=WT.fK nO cC
   have cr:=fun n=>WT.ik nO cC n
   rw[lD]at aV cr
   have tX:=fun n b hb=>WT.gY nO n (b:=b) hb
   have hl2:=WT.len nO
   have qZ:Tn.h=(0,.cells Tn.cells)::(1,Tn.mb)::Ke Tn.rows 0:=rfl
   generalize BB:T1.row (16 * i + k)=r at *
   rw[qZ]
   rw[show 16 * i + k + 1=1 + i * 16 + k by omega]at aV
   generalize eE:2 + (16 * i + k)=nm at aV cr
   have fP:(67 == nm)=false:=beq_eq_false_iff_ne.2 ae
   have dE:(0 == nm)=false:=beq_eq_false_iff_ne.2 ae
   have jU:(1 == nm)=false:=beq_eq_false_iff_ne.2 ae
   have nN:(nm == 67)=false:=beq_eq_false_iff_ne.2 ae
   have lV:(nm == 0)=false:=beq_eq_false_iff_ne.2 ae
   refine Qh (An @tX @aV) ?_
   ((first|refine tM (ins:=[nm,67]) dM ?_ ?_|refine tN (ins:=[nm,67]) dM ?_ ?_|refine tQ (ins:=[nm,67]) dM ?_ ?_|refine tS (ins:=[nm,67]) dM ?_ ?_)<;>(have aJ:=@tX;have bm:=@cr;have bL:=@fP;have cf:=@dE;have cF:=@jU;have dp:=@nN;have fc:=@lV;refine XG ?_;clear aJ bm bL cf cF dp fc;(try first|exact rfl|exact True.intro);((try (repeat' with_reducible refine And.intro ?_ ?_));(try any_goals (first|refine zm ?_|exact CL|fail)))))
   ·have:Nat.beq nm 67=false:=by
     cases h:Nat.beq nm 67 with
     | false=>rfl
     | true=>exact absurd (Nat.eq_of_beq_eq_true h) ae
    rw[this];rfl
   ·simp[Us,Ub,cN,fP,dE,jU,nN,lV]
    (repeat' refine And.intro ?_ ?_)<;>first|decide|(left;omega)|omega
   ·refine ⟨k + 1,by omega,To.dk (by exact Qr) fun b=>?_,by omega⟩
    rw[show 16 * i + (k + 1)=16 * i + k + 1 by omega,ep,← qZ]
    simp only[Qd,WT.lC nO cC,eE,show 16 * i + k + 1=1 + i * 16 + k by omega]
    (repeat' split)<;>first|rfl|omega
  ·obtain rfl:k=16:=by omega
   refine Qe ?_
   refine ⟨i + 1,by omega,To.dk (by exact Qr) fun b=>?_,by omega⟩
   rw[show 16 * (i + 1)=16 * i + 16 by omega]
 ·obtain rfl:i=4:=by omega
  have nO:=WT.kh bI x (16 * 4)
  have ep:=WT.jW bI x (n:=64) ae
  have cg:=WT.qY bI x
  have lD:=WT.gD (T:=T1) x (16 * 4) 64
  rw[if_neg ae]at lD
  have dM:=(UI c.gl (T1.row 64) (oQ _) x).wk (Wk.cap _ _ _ _ _)
  have dq:=Zm (T1.row 64)
  have bF:({ T with rows:=T.rows.map (Xt x),mb:=.aC (bu (Xt x D)) false }:WT)=T1.upto x 65:=by rw[cg,← DR]
  rw[bF,ep]
  generalize hTe:T1.upto x (16 * 4)=Tn at *
  have aV:=WT.fK nO (i:=64) ae
  have cr:=fun n=>WT.ik nO (i:=64) ae n
  rw[lD]at aV cr
  have tX:=fun n b hb=>WT.gY nO n (b:=b) hb
  have hl2:=WT.len nO
  have qZ:Tn.h=(0,.cells Tn.cells)::(1,Tn.mb)::Ke Tn.rows 0:=rfl
  generalize BB:T1.row 64=r at *
  simp only[Nat.reduceAdd]at aV cr
  rw[qZ]
  refine Qh (An @tX @aV) ?_
  ((first|refine tM (ins:=[66,67]) dM ?_ ?_|refine tN (ins:=[66,67]) dM ?_ ?_|refine tQ (ins:=[66,67]) dM ?_ ?_|refine tS (ins:=[66,67]) dM ?_ ?_)<;>(have aJ:=@tX;have bm:=@cr;refine XG ?_;clear aJ bm;(try first|exact rfl|exact True.intro);((try (repeat' with_reducible refine And.intro ?_ ?_));(try any_goals (first|refine zm ?_|exact CL|fail)))))
  ·decide
  refine ⟨(),To.trans (To.dk (t':=[(0,.int .i64 0)]) (h':=(67,.cells [.int .i64 x])::(Tn.put 64 (Xt x r)).h) (n':=68) (by exact Qr) fun b=>?_) ?_⟩
  ·rw[← qZ]
   simp only[Qd,WT.lC nO (i:=64) ae]
   (repeat' split)<;>first|rfl|omega
  ·exact To.dC (ex:=[(67,.cells [.int .i64 x])]) (WT.df nO _ _) au au (by simp[Qu,Qf,look,aD])
def Xzu:Go.Shelf.Ren:=⟨fun|125=>180|128=>191|129=>192|189=>167|215=>198|216=>188|257=>179|294=>182|295=>183|296=>184|297=>185|298=>186|299=>187|300=>189|301=>190|328=>193|329=>194|330=>195|331=>196|332=>197|343=>199|n=>n,fun|0=>0|3=>3|4=>4|5=>5|9=>9|28=>52|46=>110|51=>108|53=>214|131=>182|182=>206|183=>207|218=>215|222=>126|228=>220|229=>104|n=>n,fun n=>n⟩
theorem UL:Lays.n189 Tryz.prog Xzu:={
 mixed:=by kernel_rfl,
 f125:=Tryz.func180.trans (congrArg some (by kernel_rfl)),
 f128:=Tryz.func191.trans (congrArg some (by kernel_rfl)),
 f129:=Tryz.func192.trans (congrArg some (by kernel_rfl)),
 f189:=Tryz.func167.trans (congrArg some (by kernel_rfl)),
 f215:=Tryz.func198.trans (congrArg some (by kernel_rfl)),
 f216:=Tryz.func188.trans (congrArg some (by kernel_rfl)),
 f257:=Tryz.func179.trans (congrArg some (by kernel_rfl)),
 f294:=Tryz.func182.trans (congrArg some (by kernel_rfl)),
 f295:=Tryz.func183.trans (congrArg some (by kernel_rfl)),
 f296:=Tryz.func184.trans (congrArg some (by kernel_rfl)),
 f297:=Tryz.func185.trans (congrArg some (by kernel_rfl)),
 f298:=Tryz.func186.trans (congrArg some (by kernel_rfl)),
 f299:=Tryz.func187.trans (congrArg some (by kernel_rfl)),
 f300:=Tryz.func189.trans (congrArg some (by kernel_rfl)),
 f301:=Tryz.func190.trans (congrArg some (by kernel_rfl)),
 f328:=Tryz.func193.trans (congrArg some (by kernel_rfl)),
 f329:=Tryz.func194.trans (congrArg some (by kernel_rfl)),
 f330:=Tryz.func195.trans (congrArg some (by kernel_rfl)),
 f331:=Tryz.func196.trans (congrArg some (by kernel_rfl)),
 f332:=Tryz.func197.trans (congrArg some (by kernel_rfl)),
 f343:=Tryz.func199.trans (congrArg some (by kernel_rfl)),
 t0:=Tryz.underlying0,
 a0:=Tryz.isAgg0,
 z0:=Tryz.sizeOf0,
 v0:=Tryz.zeroValue0,
 t3:=Tryz.underlying3,
 a3:=Tryz.isAgg3,
 z3:=Tryz.sizeOf3,
 v3:=Tryz.zeroValue3,
 t4:=Tryz.underlying4,
 a4:=Tryz.isAgg4,
 z4:=Tryz.sizeOf4,
 v4:=Tryz.zeroValue4,
 t5:=Tryz.underlying5,
 a5:=Tryz.isAgg5,
 z5:=Tryz.sizeOf5,
 v5:=Tryz.zeroValue5,
 t9:=Tryz.underlying9,
 a9:=Tryz.isAgg9,
 z9:=Tryz.sizeOf9,
 v9:=Tryz.zeroValue9,
 t28:=Tryz.underlying52,
 a28:=Tryz.isAgg52,
 z28:=Tryz.sizeOf52,
 v28:=Tryz.zeroValue52,
 t46:=Tryz.underlying110,
 a46:=Tryz.isAgg110,
 z46:=Tryz.sizeOf110,
 v46:=Tryz.zeroValue110,
 t51:=Tryz.underlying108,
 a51:=Tryz.isAgg108,
 z51:=Tryz.sizeOf108,
 v51:=Tryz.zeroValue108,
 t53:=Tryz.underlying214,
 a53:=Tryz.isAgg214,
 z53:=Tryz.sizeOf214,
 v53:=Tryz.zeroValue214,
 t131:=Tryz.underlying182,
 a131:=Tryz.isAgg182,
 z131:=Tryz.sizeOf182,
 v131:=Tryz.zeroValue182,
 t182:=Tryz.underlying206,
 a182:=Tryz.isAgg206,
 z182:=Tryz.sizeOf206,
 v182:=Tryz.zeroValue206,
 t183:=Tryz.underlying207,
 a183:=Tryz.isAgg207,
 z183:=Tryz.sizeOf207,
 v183:=Tryz.zeroValue207,
 t218:=Tryz.underlying215,
 a218:=Tryz.isAgg215,
 z218:=Tryz.sizeOf215,
 v218:=Tryz.zeroValue215,
 t222:=Tryz.underlying126,
 a222:=Tryz.isAgg126,
 z222:=Tryz.sizeOf126,
 v222:=Tryz.zeroValue126,
 t228:=Tryz.underlying220,
 a228:=Tryz.isAgg220,
 z228:=Tryz.sizeOf220,
 v228:=Tryz.zeroValue220,
 t229:=Tryz.underlying104,
 a229:=Tryz.isAgg104,
 z229:=Tryz.sizeOf104,
 v229:=Tryz.zeroValue104 }
theorem UM {w:World} {k n:Nat} {os:Array Obj} {cur:Array Value} {e:TypeId} {fr:Nat × Nat} (d:Array Int) (hb:w.heap[k]?=some (.cells cur e fr)) :
  (Sort.grow (Sort.putRow (Value.int .i64) (Sort.ahead w n) k 0 d) os).heap[k]?=some (.cells (Sort.putCells (Value.int .i64) 0 d cur) e fr):=by
 have hg:k < w.heap.size:=(Array.getElem?_eq_some_iff.1 hb).1
 rw[Sort.heap_grow_old _ _ (by simpa [Sort.putRow,Sort.mapBlock,Sort.ahead] using hg)]
 simp[Sort.putRow,Sort.mapBlock,Sort.ahead,Array.getElem?_modify,hb,Sort.onCells]
theorem Ydy {w:World} {k n:Nat} {os:Array Obj} {cur:Array Value} {e:TypeId} {fr:Nat × Nat} (d:Array Int) (hb:w.heap[k]?=some (.cells cur e fr)) :
  Fr w (Sort.grow (Sort.putRow (Value.int .i64) (Sort.ahead w n) k 0 d) os) (fun i=>i=k):=by
 have hs:(Sort.grow (Sort.putRow (Value.int .i64) (Sort.ahead w n) k 0 d) os).heap.size=w.heap.size + os.size:=by simp[Sort.grow,Sort.putRow,Sort.mapBlock,Sort.ahead]
 refine ⟨rfl,rfl,rfl,by omega,fun j hj bY=>?_,fun j eM e' QZ h=>?_⟩
 ·rw[Sort.heap_grow_old _ _ (by simpa [Sort.putRow,Sort.mapBlock,Sort.ahead] using hj)]
  have:k≠j:=fun e=>bY e.symm
  simp[Sort.putRow,Sort.mapBlock,Sort.ahead,Array.getElem?_modify,this]
 ·by_cases GH:j=k
  ·subst GH
   rw[hb]at h;cases h
   exact ⟨_,UM d hb,by simp[Sort.putCells]⟩
  ·refine ⟨eM,?_,rfl⟩
   rw[Sort.heap_grow_old _ _ (by simpa [Sort.putRow,Sort.mapBlock,Sort.ahead] using Wx h)]
   have:k≠j:=fun e=>GH e.symm
   simp[Sort.putRow,Sort.mapBlock,Sort.ahead,Array.getElem?_modify,this,h]
theorem A6 (l:List Int) (j:Nat) (h:j < l.length):(Qo l).getD j .any=.int .i64 l[j]:=by simp[Qo,List.getD,h]
theorem Yap (gl:Nat→AV) (l:List Int) (hl:l.length≤1000000):GS Tryz.prog gl 167 [.sl 1 0 0 l.length l.length] [(0,.cells (Qo l))] 1 (.aU []) [(0,.cells (Qo (l.mergeSort fun x y=>decide (x≤y))))] 1:=by
 refine ⟨⟨Tryz.f167,Tryz.func167,by kernel_rfl,by kernel_rfl⟩,fun w vs G X g hR hv=>?_⟩
 have hlen:(l.mergeSort fun x y=>decide (x≤y)).length=l.length:=List.length_mergeSort _
 obtain ⟨v,vs,rfl,h1,h2⟩:=hv.cons_inv
 obtain rfl:=h2.m6
 have hH:(cW [(0,.cells (Qo l))] 1).H 0=.cells (Qo l):=rfl
 have dT:=hR.h 0
 rw[hH]at dT
 have hHo:∀ x y:List AV,((cW [(0,.cells x)] 1).aK 0 (.cells y))=cW [(0,.cells y)] 1:=fun x y=>pD (fun _=>rfl) fun j=>by
  show (if 0=j then _ else Qc [(0,.cells x)] 1 j)=Qc [(0,.cells y)] 1 j
  rw[Qd,Qd]
  split<;>rfl
 rcases po h1 with ⟨k,cap,e,cur,fz,rfl,hg,h3,h4,h5,h6,h7⟩|⟨ad,rfl,hg,h3,h4⟩
 ·rw[hg]at dT
  cases dT with
  | cells hb sI jL tw hz =>
   rw[h6]at hb;cases hb
   rw[Xv]at sI jL tw
   have M6:∀ j (hj:j < l.length),cur[j]?=some (.int .i64 l[j]):=fun j hj=>by
    have:=tw j hj
    rw[A6 l j hj]at this
    have Hf:j < cur.size:=by omega
    have e:cur.getD j undef=cur[j]:=by simp[Array.getD,Hf]
    rw[e]at this
    generalize hcv:cur[j]=cv at this
    cases this
    rw[← hcv];simp[Hf]
   have yj:Sort.Holds (Value.int .i64) w k 0 l.toArray:=fun j hj=>by
    have cV:j < l.length:=by simpa using hj
    refine ⟨?_,?_⟩
    ·simp only[World.cell?,h6,Nat.zero_add,Option.isSome_none,Bool.false_eq_true,if_false]
     rw[M6 j cV]
     simp[cV]
    ·simp only[World.frozen?,h6,Nat.zero_add]
     rcases hz with rfl|hz
     ·simp
     ·have:¬ fz.1≤j:=by omega
      simp[this]
   have hc:=Any.slices_Sort_int UL k 0 cap l w yj (Wx h6) ae
   refine Calls.mono hc ?_
   rintro e w' ⟨rfl,n,os,rfl⟩
   have br:=hR.setBlock (x:=.cells (Qo (l.mergeSort fun x y=>decide (x≤y)))) hg (by rw[hH];trivial) trivial (Ydy (n:=n) (os:=os) (l.mergeSort fun x y=>decide (x≤y)).toArray h6) (by
    have aV:∀ j (hj:j < l.length),(Sort.putCells (Value.int .i64) 0 (l.mergeSort fun x y=>decide (x≤y)).toArray cur).getD j undef=.int .i64 ((l.mergeSort fun x y=>decide (x≤y))[j]'ae):=fun j hj=>by
     have Hf:j < cur.size:=by omega
     have mE:j < (l.mergeSort fun x y=>decide (x≤y)).length:=by omega
     simp[Sort.putCells,Array.getD,Hf,hj]
    refine .cells (UM _ h6) (by rw[Xv,hlen];simpa [Sort.putCells] using sI) (fun j hj=>?_) (fun j hj=>?_) (by simpa [Sort.putCells] using hz)
    ·rw[Xv,hlen]at hj
     rw[aV j hj];rfl
    ·rw[Xv,hlen]at hj
     rw[aV j hj,A6 _ j ae]
     exact .int _ _)
   rw[hHo]at br
   exact ⟨_,g,rfl,br,fun _ _=>rfl,.aU rfl fun j hj=>by simp at hj⟩
 ·have h0:l=[]:=List.eq_nil_of_length_eq_zero h3
  subst h0
  refine Calls.mono (Any.slices_Sort_int_none UL ad 0 w) ?_
  rintro e w' ⟨rfl,rfl⟩
  rw[show (([]:List Int).mergeSort fun x y=>decide (x≤y))=[] by simp]
  exact ⟨_,g,rfl,hR,fun _ _=>rfl,.aU rfl fun j hj=>by simp at hj⟩
theorem To.gg {p:List Nat} {s:St} {b:Nat} {kvs:List (AV × AV)} {dn:Bool} (hb:s.fs.H b=.aC kvs dn):To p s (s.aK b (.aC kvs false)):=fun c g a w _ hR=>⟨g,by rw[St.cL];exact hR.gg hb⟩
def ki (l D:List Tm):List Tm:=l.foldl (fun D t=>Xt t.id D) D
theorem Xjq (l:List Tm) (t:Tm) (D:List Tm):ki (l++[t]) D=Xt t.id (ki l D):=by simp[ki]
theorem Hg {x:Int} {D:List Tm}:(Xt x D).Sublist D:=List.filter_sublist
theorem UN:∀ {l D:List Tm},(ki l D).Sublist D
 | [],D=>List.Sublist.refl _
 | t::l,D=>(UN (l:=l) (D:=Xt t.id D)).trans Hg
theorem Xnm {l D:List Tm} (h:D.Pairwise fun a b=>a.id≠b.id):(ki l D).Pairwise fun a b=>a.id≠b.id:=h.sublist UN
def ids (l:List Tm):List Int:=l.map (·.id)
set_option maxHeartbeats 4000000 in
set_option maxRecDepth 20000 in
theorem Xwz (gl:Nat→AV) (T:WT) (D l:List Tm) (dn:Bool) (hlen:T.rows.length=65) (eS:T.mb=.aC (bu D) dn) (hd:D.Pairwise fun a b=>a.id≠b.id) (hl:l.length≤1000000) :
  GQ Tryz.prog gl 137 [.ptr 0 0,.isl l.length (a8 l)] T.h 67 [0,1] (fun _:Unit=>True) (fun _=>.isl l.length (Qo (uC (ids l)))) (fun _=>{ T with mb:=.aC (bu (ki l D)) false }.h):=by
 have hT:=uI hlen eS
 refine TR.gq (of_decide_eq_true rfl) (fun q hq=>Xc (((WT.HL hT).mem q hq).2)) au fun c aY hg=>?_
 conv in aQ _ _=>cbv
 have aM:=fun n b hb=>WT.gY hT n (b:=b) hb
 have kE:=WT.eI hT
 have aW:=WT.len hT
 have dq:=Zm l
 have nK:T.h=(0,.cells T.cells)::(1,.aC (bu D) dn)::Ke T.rows 0:=by rw[← eS];rfl
 have fA:∀ k,WT.wf { T with mb:=.aC (bu (ki (l.take k) D)) false }:=fun k=>⟨hlen,Ur 2 _⟩
 rw[nK]
 refine Qe ?_
 refine vF 5 1 rfl (by exact Qq @aM) ?_
 unfold St.named
 refine Yf (fun k:Nat=>k≤l.length) (fun k=>⟨[(0,.ptr 0 0),(5,.sl 1 67 0 k k),(8,.isl l.length (a8 l)),(9,.int .i64 l.length),(10,.int .i64 k)],(67,.cells (Qo (ids (l.take k))))::{ T with mb:=.aC (bu (ki (l.take k) D)) false }.h,68⟩) (fun k=>l.length - k) TR.mixed [0,1] aY
  ⟨0,by omega,?_⟩ fun k hk=>?_
 ·refine To.trans (To.gg (b:=1) (kvs:=bu D) (dn:=dn) rfl) (To.dk (by exact Qr) fun b=>?_)
  show Qc ((67,.cells [])::(0,.cells T.cells)::(1,.aC (bu D) false)::Ke T.rows 0) 68 b=Qc ((1,.aC (bu D) false)::(67,.cells [])::(0,.cells T.cells)::(1,.aC (bu D) dn)::Ke T.rows 0) 68 b
  simp only[Qd]
  (repeat' split)<;>first|rfl|omega
 have sM:=fun n b hb=>WT.gY (fA k) n (b:=b) hb
 have RK:WT.cells { T with mb:=.aC (bu (ki (l.take k) D)) false }=T.cells:=rfl
 have jH:WT.h { T with mb:=.aC (bu (ki (l.take k) D)) false }=(0,.cells T.cells)::(1,.aC (bu (ki (l.take k) D)) false)::Ke T.rows 0:=rfl
 rw[jH]
 refine Qe ?_
 (refine Qa (fun h1=>?_) (fun h1=>?_)<;>try exact h1.elim)
 ·have bw:k < l.length:=by omega
  have a7:=wc l k bw
  have eQ:l.take (k + 1)=l.take k++[l[k]]:=by rw[List.take_succ];simp[bw]
  have dX:=A5 (ki (l.take k) D)
  have dO:=Um l[k].id
  have yi:=UK (ki (l.take k) D) l[k].id (Xnm hd)
  rw[← Xjq,← eQ]at yi
  have M7:Qo (ids (l.take k))++[.int .i64 l[k].id]=Qo (ids (l.take (k + 1))):=by unfold Qo ids;rw[eQ,List.map_append,List.map_append];rfl
  have qT:(Qo (ids (l.take k))).length=k:=by simp[Qo,ids];omega
  generalize l[k]=t at *
  refine Qh (An @dq (An @a7 @aM)) ?_
  refine Zj @aM ?_
  refine Zj (An @aM (An @qT @M7)) ?_
  refine Qh (An @aM @kE) ?_
  ((first|refine Lc kg ?_|refine Ld kg ?_);(have aJ:=@aM;have bm:=@dX;have bL:=@dO;have cf:=@yi;refine XG ?_;clear aJ bm bL cf;((try (repeat' with_reducible refine And.intro ?_ ?_));(try any_goals (first|refine zm ?_|exact CL|fail)))))
  refine ⟨k + 1,by omega,To.M4 (ex:=[(67,.cells (Qo (ids (l.take (k + 1)))))]) [(67,70)] (fA (k + 1)) au ae rfl rfl (fun b hb=>?_) ?_ ?_ au,by omega⟩
  ·show _=Qc ((0,.cells T.cells)::(1,.aC (bu (ki (l.take (k + 1)) D)) false)::Ke T.rows 0) 67 b
   simp only[Qd]
   (repeat' split)<;>first|rfl|omega|(rw[yb,yb,hlen];(repeat' split)<;>first|rfl|omega)
  ·have:=uE (rl [(67,70)]) l
   exact Qr
  ·have:∀ n q,ah n (Qo q)=True:=fun n q=>by simp[Xi,Qo,Qf]
   exact Qq @this
 ·obtain rfl:k=l.length:=by omega
  have qT:ids (l.take l.length)=ids l:=by rw[List.take_length]
  have gZ:(ids l).length=l.length:=by simp[ids]
  have DI:=Yap c.gl (ids l) (by simpa [ids] using hl)
  rw[gZ]at DI
  rw[qT]
  refine Qh @aM ?_
  refine Xm (ip [67]) DI @aM ?_
  refine ⟨(),(To.gb (b:=67) (i:=0) rfl rfl).trans (To.dC (T:={ T with mb:=.aC (bu (ki l D)) false }) (ex:=[(67,.dead),(67,_),(67,_)]) ⟨hlen,Ur 2 _⟩ au au ?_)⟩
  have a7:((Qo ((ids l).mergeSort fun x y=>decide (x≤y))).drop 0).take (l.length * 1)=Qo (uC (ids l)):=by
   rw[List.drop_zero,List.take_of_length_le (by rw[Nat.mul_one];simp[Qo,ids])];rfl
  rw[a7]
  have h1:∀ n q,ah n (Qo q)=True:=fun n q=>by simp[Xi,Qo,Qf]
  have h2:∀ q,ay id (Qo q)=Qo q:=fun q=>Jf _
  exact Qq (An @h1 @h2)
end Go.Proofs.YtogckmommodmhaaGreatDoor
