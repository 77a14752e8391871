import Derived.Test.YtogckmommodmhaaGreatDoorZy7
import Derived.Shelf.Sort.Plain
import Derived.Shelf.Slices.In.SortNone
namespace Go.Proofs.YtogckmommodmhaaGreatDoor
open List (getElem?_set append_assoc reverse_perm append_nil filter_eq_self length_set filter_append nil_append mem_filter filter_congr map_append mem_map map_cons getD_cons_succ length_cons mem_cons map_id take_of_length_le length_take take_succ take_length findIdx?_cons getElem?_drop getElem?_eq_none)
open Go.RowKit
set_option linter.all false
set_option maxHeartbeats 4000000
set_option maxRecDepth 100000
structure Tm where
 id:Int
 due:Nat
 deriving DecidableEq,Inhabited
def CX (now due:Nat):Nat->Nat->Nat
 | 0,_=>64
 | f+1,k=>if due/16 ^ k<now/16 ^ k+16 then k*16+due/16 ^ k%16 else CX now due f (k+1)
def Zt (now due:Nat):Nat:=CX now due 4 0
variable {P:Nat->Nat->Prop}{c:Cx}{due:Nat}{rows:List (List Tm)}{W:Nat->Prop}{D:List Tm}{L:Nat}{p:List Nat}{now:Nat}{w:World}{a:Act}{i:Nat}{os:Array Obj}{q:Nat×Bk}{cur:Array Value}{e:TypeId}(Q:AV×AV->Prop)(S:Nat->Prop)(gl:Nat->AV)(b:Nat)(l:List Tm)(k:Nat)(t:Tm)(n:Nat)(x:Int)(d:Array Int)
def Qst (now due:Nat):Zt now due=if due<now+16 then due%16 else if due/16<now/16+16 then 16+due/16%16 else if due/256<now/256+16 then 32+due/256%16 else if due/4096<now/4096+16 then 48+due/4096%16 else 64:=by
 simp[Zt,CX]
def FY (now due:Nat):Zt now due<65:=by
 rw[Qst];(repeat' split)<;>omega
def Pl (now i due:Nat):Prop :=
 if i<16 then due%16=i/\now<=due/\due<now+16
 else if i<32 then due/16%16=i-16/\now/16<due/16/\due/16<now/16+16
 else if i<48 then due/256%16=i-32/\now/256<due/256/\due/256<now/256+16
 else if i<64 then due/4096%16=i-48/\now/4096<due/4096/\due/4096<now/4096+16
 else now/65536<due/65536
def Q4 (h:now<=due):Pl now (Zt now due) due:=by
 rw[Qst];unfold Pl;split
 ·rw[am af];omega
 split
 ·rw[aa af,am af];omega
 split
 ·rw[aa af,aa af,am af];omega
 split
 ·rw[aa af,aa af,aa af,am af];omega
 ·rw[aa af,aa af,aa af,aa af];omega
def rk (now L i due:Nat):Prop :=
 if i<16 then due%16=i/\now<=due/\due<now+16
 else if i<32 then due/16%16=i-16/\(now-1)/16<due/16/\due/16<now/16+16/\(1<L->now/16<due/16)
 else if i<48 then due/256%16=i-32/\(now-1)/256<due/256/\due/256<now/256+16/\(2<L->now/256<due/256)
 else if i<64 then due/4096%16=i-48/\(now-1)/4096<due/4096/\due/4096<now/4096+16/\(3<L->now/4096<due/4096)
 else (now-1)/65536<due/65536/\(4<L->now/65536<due/65536)
def Pl.g (h:Pl now i due):rk now L i due:=by
 unfold Pl at h;unfold rk
 (repeat' split)<;>(first|(rw[am (by omega)]at h;omega)|(rw[aa (by omega),am (by omega)]at h;omega)|(rw[aa (by omega),aa (by omega),am (by omega)]at h;omega)|(rw[aa (by omega),aa (by omega),aa (by omega),am (by omega)]at h;omega)|(rw[aa (by omega),aa (by omega),aa (by omega),aa (by omega)]at h;omega))
def Pl.next (h:Pl now i due)(hd:now<due):rk (now+1) 1 i due:=by
 unfold Pl at h;unfold rk
 (repeat' split)<;>(first|(rw[am (by omega)]at h;omega)|(rw[aa (by omega),am (by omega)]at h;omega)|(rw[aa (by omega),aa (by omega),am (by omega)]at h;omega)|(rw[aa (by omega),aa (by omega),aa (by omega),am (by omega)]at h;omega)|(rw[aa (by omega),aa (by omega),aa (by omega),aa (by omega)]at h;omega))
structure RI (P:Nat->Nat->Prop)(rows:List (List Tm))(D:List Tm):Prop where
 len:rows.length=65
 perm:rows.flatten.Perm D
 pl:∀ i,i<65->∀ t ∈ rows.getD i [],P i t.due
def CY (rows:List (List Tm))  (hi:i<rows.length)(l:List Tm)(j:Nat):(rows.set i l).getD j []=if j=i then l else rows.getD j []:=by
 simp only[List.getD,getElem?_set];by_cases e:i=j
 ·subst e;rw[am rfl,am hi,am rfl];rfl
 ·rw[aa e,aa fun q=>e q.symm]
def Q5:∀ (rows:List (List Tm)) (i:Nat),i<rows.length->∀ l,(rows.set i l).flatten.Perm (l++(rows.set i []).flatten)
 | r::rows,0,_,l=>by simp
 | r::rows,i+1,h,l=>by
  simp only[List.set_cons_succ,List.flatten_cons];refine ((Q5 rows i (by simpa using h) l).append_left r).trans ?_;rw[<- append_assoc,<- append_assoc];exact List.perm_append_comm.append_right _
def Lh (h:i<rows.length):rows.getD i []=rows[i]:=by simp[List.getD,h]
def Xxn (rows:List (List Tm))(i:Nat)(h:i<rows.length):rows.set i (rows.getD i [])=rows:=by
 rw[Lh h,List.set_getElem_self]
def Aw (rows:List (List Tm))(i:Nat)(h:i<rows.length):rows.flatten.Perm (rows.getD i []++(rows.set i []).flatten):=by
 have:=Q5 rows i h (rows.getD i [])
 rwa [Xxn rows i h]at this
def Xu (now:Nat)(rows:List (List Tm))(t:Tm):List (List Tm):=rows.set (Zt now t.due) (rows.getD (Zt now t.due) []++[t])
def Xyv (now:Nat)(rows:List (List Tm))(t:Tm):(Xu now rows t).length=rows.length:=by simp[Xu]
def RI.lay (h:RI P rows D)  {t:Tm}(ht:P (Zt now t.due) t.due):RI P (Xu now rows t) (t::D):=by
 have hl:=h.len;have hs:=FY now t.due;refine ⟨by rw[Xyv,hl],?_,fun i hi x hx=>?_⟩
 ·unfold Xu;refine (Q5 rows _ af _).trans ?_;refine (List.Perm.trans ?_ (List.Perm.cons t ((Aw rows (Zt now t.due) af).symm.trans h.perm)));rw[append_assoc];exact List.perm_middle
 ·unfold Xu at hx;rw[CY _ af]at hx;split at hx
  ·rename_i e;rcases List.mem_append.1 hx with hx|hx
   ·exact h.pl i hi x (by rw[e];exact hx)
   ·obtain rfl:=List.mem_singleton.1 hx;rw[e];exact ht
  ·exact h.pl i hi x hx
def RI.j4 {P:Nat->Nat->Prop}{now:Nat}:∀ (l:List Tm) {rows:List (List Tm)} {D:List Tm},RI P rows D->(∀ t ∈ l,P (Zt now t.due) t.due)->RI P (l.foldl (Xu now) rows) (l.reverse++D)
 | [],_,_,h,_=>h
 | t::l,rows,D,h,hl=>by
  have:=RI.j4 l (h.lay (hl t aw)) fun x hx=>hl x (by simp[hx]);simpa using this
def RI.jd {D D':List Tm}(h:RI P rows D)(hp:D.Perm D'):RI P rows D':=⟨h.len,h.perm.trans hp,h.pl⟩
def RI.mono {P P':Nat->Nat->Prop}   (h:RI P rows D)(hp:∀ i,i<65->∀ t ∈ rows.getD i [],P i t.due->P' i t.due):RI P' rows D:=⟨h.len,h.perm,fun i hi t ht=>hp i hi t ht (h.pl i hi t ht)⟩
def Q6 (h:RI P rows D)  (hi:i<65){t:Tm}(ht:t ∈ rows.getD i []):t ∈ D:=by
 have hl:=h.len;exact h.perm.mem_iff.1 ((Aw rows i af).mem_iff.2 (List.mem_append_left _ ht))
def eH (now:Nat)(rows:List (List Tm))(i:Nat):List (List Tm):=(rows.getD i []).foldl (Xu now) (rows.set i [])
def RI.d5 (h:RI P rows D)  (hi:i<65)(hP:∀ t ∈ rows.getD i [],P (Zt now t.due) t.due):RI P (eH now rows i) D:=by
 have hl:=h.len;have h0:RI P (rows.set i []) (rows.set i []).flatten:=⟨by simp[hl],List.Perm.refl _,fun j hj t ht=>by
  rw[CY _ af]at ht;split at ht
  ·cases ht
  ·exact h.pl j hj t ht⟩
 refine (RI.j4 _ h0 hP).jd (List.Perm.trans ?_ ((Aw rows i af).symm.trans h.perm));exact (reverse_perm _).append_right _
def oE (now L:Nat):Nat:=if L<4 then L*16+now/16 ^ L%16 else 64
def Uw (now:Nat):Nat->Nat->List (List Tm)->List (List Tm)
 | 0,_,rows=>rows
 | f+1,L,rows=>if now%16 ^ L=0 then Uw now f (L+1) (eH now rows (oE now L)) else rows
def RI.Q7 (h:RI (rk now L) rows D)(hD:∀ t ∈ D,now<=t.due)(h0:0<now)(h1:1<=L)(h4:L<=4)(hm:now%16 ^ L=0):RI (rk now (L+1)) (eH now rows (oE now L)) D:=by
 have hi:oE now L<65:=by unfold oE;split<;>omega
 have hl:=h.len;have key:∀ j,j<65->∀ t ∈ (rows.set (oE now L) []).getD j [],rk now (L+1) j t.due:=fun j hj t ht=>by
  rw[CY _ af]at ht;split at ht
  ·cases ht
  ·rename_i cb;have hp:=h.pl j hj t ht;unfold oE at cb;unfold rk at hp ⊢;obtain rfl|rfl|rfl|rfl:L=1∨L=2∨L=3∨L=4:=by omega
   all_goals simp only[Nat.reducePow,Nat.reduceLT,↓reduceIte,Nat.reduceMul,Nat.reduceAdd,Nat.reduceLeDiff]at hm cb hp ⊢
   all_goals (repeat' split)<;>(first|(rw[am (by omega)]at hp;omega)|(rw[aa (by omega),am (by omega)]at hp;omega)|(rw[aa (by omega),aa (by omega),am (by omega)]at hp;omega)|(rw[aa (by omega),aa (by omega),aa (by omega),am (by omega)]at hp;omega)|(rw[aa (by omega),aa (by omega),aa (by omega),aa (by omega)]at hp;omega))
 have hs:RI (rk now (L+1)) (rows.set (oE now L) []) (rows.set (oE now L) []).flatten:=⟨by simp[hl],List.Perm.refl _,key⟩
 have:=RI.j4 (rows.getD (oE now L) []) hs (now:=now) fun t ht=>(Q4 (hD t (Q6 h hi ht))).g;refine this.jd (List.Perm.trans ?_ ((Aw rows (oE now L) af).symm.trans h.perm));exact (reverse_perm _).append_right _
def RI.done (h:RI (rk now L) rows D)(h0:0<now)(hL:1<=L)(hm:L<=4->now%16 ^ L≠0):RI (Pl now) rows D:=by
 refine h.mono fun i hi t ht hp=>?_;unfold rk at hp;unfold Pl;obtain rfl|rfl|rfl|rfl|h5:L=1\/L=2\/L=3\/L=4\/5<=L:=by omega
 all_goals try simp only[Nat.reducePow,Nat.reduceLeDiff,ne_eq,forall_const]at hm
 all_goals (repeat' split)<;>(first|(rw[am (by omega)]at hp;omega)|(rw[aa (by omega),am (by omega)]at hp;omega)|(rw[aa (by omega),aa (by omega),am (by omega)]at hp;omega)|(rw[aa (by omega),aa (by omega),aa (by omega),am (by omega)]at hp;omega)|(rw[aa (by omega),aa (by omega),aa (by omega),aa (by omega)]at hp;omega))
def RI.step {rows:List (List Tm)}{D:List Tm}{now:Nat}(hD:∀ t ∈ D,now<=t.due)(h0:0<now):∀ (f L:Nat) (rows:List (List Tm)),f+L=5->1<=L->RI (rk now L) rows D->RI (Pl now) (Uw now f L rows) D
 | 0,L,rows,hf,hL,h=>h.done h0 hL af
 | f+1,L,rows,hf,hL,h=>by
  unfold Uw;split
  ·rename_i hm;exact RI.step (rows:=rows) hD h0 f (L+1) _ af af (h.Q7 hD h0 hL af hm)
  ·rename_i hm;exact h.done h0 hL fun _=>hm
def RI.tick (h:RI (Pl now) rows D)(hD:∀ t ∈ D,now<t.due):RI (Pl (now+1)) (Uw (now+1) 4 1 rows) D :=
 RI.step (rows:=rows) (fun t ht=>hD t ht) af 4 1 rows rfl af (h.mono fun i hi t ht hp=>hp.next (hD t (Q6 h hi ht)))
def RI.FZ {D l:List Tm}  (hl:l.Perm D)(hD:∀ t ∈ D,now<=t.due):RI (Pl now) (l.foldl (Xu now) (List.replicate 65 [])) D:=by
 have h0:RI (Pl now) (List.replicate 65 []) []:=⟨by simp,by simp,fun i hi t ht=>by
  have:(List.replicate 65 ([]:List Tm)).getD i []=[]:=by rw[List.getD,List.getElem?_replicate,am hi];rfl
  rw[this]at ht;cases ht⟩
 have:=RI.j4 l h0 (now:=now) fun t ht=>Q4 (hD t (hl.mem_iff.1 ht));rw[append_nil]at this;exact this.jd ((reverse_perm l).trans hl)
def RI.pB (h:RI (Pl now) rows D):(rows.getD (now%16) []).Perm (D.filter fun t=>t.due==now)/\RI (Pl now) (rows.set (now%16) []) (D.filter fun t=>!(t.due==now)):=by
 have hl:=h.len;have hi:now%16<65:=by omega
 have e1:(rows.getD (now%16) []).filter (fun t=>t.due==now)=rows.getD (now%16) []:=filter_eq_self.2 fun t ht=>by
  have:=h.pl _ hi t ht;unfold Pl at this;rw[am af]at this;exact beq_iff_eq.2 af
 have off:∀ t ∈ (rows.set (now%16) []).flatten,t.due≠now:=fun t ht e=>by
  obtain ⟨r,hr,ht⟩:=List.mem_flatten.1 ht;obtain ⟨j,hj,rfl⟩:=List.mem_iff_getElem.1 hr;rw[length_set]at hj;have hg:t ∈ (rows.set (now%16) []).getD j []:=by rw[Lh (by rw[length_set];exact hj)];exact ht
  rw[CY _ af]at hg;split at hg
  ·cases hg
  ·rename_i cb;have:=h.pl j af t hg;unfold Pl at this;subst e
   (repeat' split at this)<;>omega
 have e2:(rows.set (now%16) []).flatten.filter (fun t=>t.due==now)=[]:=List.filter_eq_nil_iff.2 fun t ht=>by simpa using off t ht
 have e3:(rows.set (now%16) []).flatten.filter (fun t=>!(t.due==now))=(rows.set (now%16) []).flatten:=filter_eq_self.2 fun t ht=>by simpa using off t ht
 have e4:(rows.getD (now%16) []).filter (fun t=>!(t.due==now))=[]:=List.filter_eq_nil_iff.2 fun t ht=>by
  have:=(filter_eq_self.1 e1) t ht;simpa using this
 have hp:=(Aw rows (now%16) af).symm.trans h.perm;constructor
 ·have:=hp.filter fun t=>t.due == now
  rwa [filter_append,e1,e2,append_nil]at this
 ·refine ⟨by simp[hl],?_,fun j hj t ht=>?_⟩
  ·have:=hp.filter fun t=>!(t.due == now)
   rwa [filter_append,e3,e4,nil_append]at this
  ·rw[CY _ af]at ht;split at ht
   ·cases ht
   ·exact h.pl j hj t ht
def RI.filter (h:RI P rows D)(p:Tm->Bool):RI P (rows.map (List.filter p)) (D.filter p):=by
 refine ⟨by simp[h.len],?_,fun i hi t ht=>?_⟩
 ·rw[<- List.filter_flatten];exact h.perm.filter p
 ·have hl:=h.len;rw[Lh (by simp;omega),List.getElem_map]at ht;have:=(mem_filter.1 ht).1;rw[<- Lh af]at this;exact h.pl i hi t this
def RI.im (h:RI P rows D)  (hi:i<65):(rows.getD i []).length<=D.length:=by
 have hl:=h.len;have:=((Aw rows i af).symm.trans h.perm).length_eq;rw[List.length_append]at this;omega
def j5 (a b:Tm):Bool:=decide (a.due<b.due)||(a.due==b.due&&decide (a.id<=b.id))
def rm {a b:Tm}:j5 a b=true ↔ a.due<b.due\/a.due=b.due/\a.id<=b.id:=by simp[j5]
def Qtp (a b c:Tm)(h1:j5 a b=true)(h2:j5 b c=true):j5 a c=true:=by
 rw[rm]at *;omega
def Xsd (a b:Tm):(j5 a b||j5 b a)=true:=by
 rw[Bool.or_eq_true,rm,rm];omega
def Xxp {a b:Tm}(h1:j5 a b=true)(h2:j5 b a=true):a=b:=by
 rw[rm]at *
 cases a;cases b;simp only[Tm.mk.injEq]at *
 omega
def rn (l:List Tm):List Tm:=l.mergeSort j5
def Ks:(rn l).Perm l:=List.mergeSort_perm l j5
def CZ:(rn l).Pairwise fun a b=>j5 a b=true:=List.pairwise_mergeSort Qtp Xsd l
def Q8 {l m:List Tm}(hp:m.Perm l)(hm:m.Pairwise fun a b=>j5 a b=true):rn l=m :=
 List.Perm.eq_of_pairwise (fun _ _ _ _ h1 h2=>Xxp h1 h2) (CZ l) hm ((Ks l).trans hp.symm)
def Xd5 {l m:List Tm}(hp:m.Perm l):rn m=rn l:=(Q8 ((Ks m).trans hp) (CZ m)).symm
def a6 (D:List Tm)(n:Nat):List Int:=(rn (D.filter fun t=>decide (t.due<n))).map (·.id)
def vR (l:List Int):List Int:=l.mergeSort fun x y=>decide (x<=y)
def Xkg {l m:List Int}(hp:m.Perm l)(hm:m.Pairwise (·<=·)):vR l=m:=by
 refine List.Perm.eq_of_pairwise (le:=fun a b:Int=>a<=b) (fun _ _ _ _ h1 h2=>by omega) ?_ hm ((List.mergeSort_perm l _).trans hp.symm);have:=List.pairwise_mergeSort (le:=fun x y:Int=>decide (x<=y)) (fun a b c h1 h2=>by simp at *;omega) (fun a b=>by simp;omega) l;exact this.imp fun h=>by simpa using h
def Qpm {l:List Tm}{n:Nat}(hn:∀ t ∈ l,t.due=n)(h:l.Pairwise fun a b=>j5 a b=true):(l.map (·.id)).Pairwise (·<=·):=by
 rw[List.pairwise_map];refine h.imp_of_mem fun {a b} ha hb As=>?_;have:=hn a ha;have:=hn b hb;rw[rm]at As;omega
def Xsj (D:List Tm)(n:Nat)(l:List Tm)(hl:l.Perm (D.filter fun t=>t.due==n)):a6 D (n+1)=a6 D n++vR (l.map (·.id)):=by
 have h1:rn (D.filter fun t=>decide (t.due<n+1))=rn (D.filter fun t=>decide (t.due<n))++rn (D.filter fun t=>t.due==n):=by
  refine Q8 ?_ ?_
  ·refine ((Ks _).append (Ks _)).trans ?_;have:=List.filter_append_perm (fun t:Tm=>decide (t.due < n)) (D.filter fun t=>decide (t.due < n + 1));rw[List.filter_filter,List.filter_filter]at this;refine List.Perm.trans (List.Perm.of_eq ?_) this;congr 1
   ·exact filter_congr fun t _=>by by_cases h:t.due<n<;>simp[h]<;>omega
   ·refine filter_congr fun t _=>?_;by_cases h:t.due=n
    ·simp[h]
    ·have:(t.due == n)=false:=by simpa using h
     rw[this];by_cases h2:t.due<n
     ·simp[h2]
     ·have h3:¬ t.due < n + 1:=by omega
      simp[h3]
  ·refine List.pairwise_append.2 ⟨CZ _,CZ _,fun a ha b hb=>?_⟩;have ha:=(mem_filter.1 ((Ks _).mem_iff.1 ha)).2;have hb:=(mem_filter.1 ((Ks _).mem_iff.1 hb)).2;rw[rm];simp at ha hb;omega
 have h2:vR (l.map (·.id))=(rn (D.filter fun t=>t.due == n)).map (·.id) :=
  Xkg (((Ks _).trans hl.symm).map _) (Qpm (n:=n) (fun t ht=>by
   have:=(mem_filter.1 ((Ks _).mem_iff.1 ht)).2;simpa using this) (CZ _))
 unfold a6;rw[h1,map_append,h2]
def Xmm (D:List Tm){n m:Nat}(ik:n<=m)(h:∀ t ∈ D,n<=t.due->m<=t.due):a6 D m=a6 D n:=by
 unfold a6;rw[filter_congr fun t ht=>(by have:=h t ht;by_cases h1:t.due<n<;>by_cases h2:t.due<m<;>simp[h1,h2]<;>omega:decide (t.due<m)=decide (t.due<n))]
def Xto (D:List Tm)(n:Nat)(h:∀ t ∈ D,n<=t.due):a6 D n=[]:=by
 unfold a6;rw[List.filter_eq_nil_iff.2 fun t ht=>(by have:=h t ht;simp;omega)];simp[rn]
def Ycj:FT Tryz.prog 70 Tryz.f70 (aG Tryz.prog Tryz.f70) [.t 2,.t 3]:=.of Tryz.func70
def Q9:FT Tryz.prog 131 Tryz.f131 (aG Tryz.prog Tryz.f131) [.t 6]:=.of Tryz.func131
def Ra:FT Tryz.prog 98 Tryz.f98 (aG Tryz.prog Tryz.f98) [.t 4,.t 5]:=.of Tryz.func98
def Ydd:FT Tryz.prog 63 Tryz.f63 (aG Tryz.prog Tryz.f63) [.t 2]:=.of Tryz.func63
def Li:FT Tryz.prog 164 Tryz.f164 (aG Tryz.prog Tryz.f164) [.t 4]:=.of Tryz.func164
def Xf1:FT Tryz.prog 165 Tryz.f165 (aG Tryz.prog Tryz.f165) []:=.of Tryz.func165
def Xaq:FT Tryz.prog 137 Tryz.f137 (aG Tryz.prog Tryz.f137) [.t 4]:=.of Tryz.func137
def Rb:FT Tryz.prog 138 Tryz.f138 (aG Tryz.prog Tryz.f138) []:=.of Tryz.func138
def Rc:FT Tryz.prog 139 Tryz.f139 (aG Tryz.prog Tryz.f139) []:=.of Tryz.func139
def Ybw:FT Tryz.prog 176 Tryz.f176 (aG Tryz.prog Tryz.f176) [.t 3]:=.of Tryz.func176
def Xf4:FT Tryz.prog 177 Tryz.f177 (aG Tryz.prog Tryz.f177) [.t 4]:=.of Tryz.func177
def Xet:FT Tryz.prog 181 Tryz.f181 (aG Tryz.prog Tryz.f181) [.t 4]:=.of Tryz.func181
theorem Yf3 (a:AV×AV)(l:List (AV×AV)):(∀ x,x ∈ a::l->Q x)=(Q a/\∀ x,x ∈ l->Q x):=propext List.forall_mem_cons
def Yfn:(∀ x,x ∈ ([]:List (AV×AV))->Q x)=True:=by simp
theorem Xmy (s:FS):iy s []=.aR []:=rfl
theorem Xav (ρ:Nat->Nat)(kvs:List (AV×AV))(dn:Bool):Qw ρ (.az kvs dn)=.az (kvs.map fun p=>(aA ρ p.1,aA ρ p.2)) dn:=rfl
attribute [go_sem] Yf3 Yfn Xmy Xav
def sL:cu Tryz.prog 147 false [.int .i64] (.int .i64 0):=cu.mk' (by kernel_rfl)
def whN (n:Int):List AV:=[.int .i64 n,.nils,.nils,.nils,.nils,.nils,.nils,.nils,.nils,.nils,.nils,.nils,.nils,.nils,.nils,.nils,.nils,.nils,.nils,.nils,.nils,.nils,.nils,.nils,.nils,.nils,.nils,.nils,.nils,.nils,.nils,.nils,.nils,.nils,.nils,.nils,.nils,.nils,.nils,.nils,.nils,.nils,.nils,.nils,.nils,.nils,.nils,.nils,.nils,.nils,.nils,.nils,.nils,.nils,.nils,.nils,.nils,.nils,.nils,.nils,.nils,.nils,.nils,.nils,.nils,.nils,.mp 1]
def Yb5 (n:Int)(h0:0<=n)(h1:n<=1099511627776):GS Tryz.prog gl 70 [.int .i64 n] [] 0 (.aR [.ptr 0 0,.int .i64 0]) [(0,.cells (whN n)),(1,.az [] true)] 2:=by
 refine Ycj.gs (ap rfl) (by simp[Bk.live]) fun c bf hg=>?_
 conv in aG _ _=>cbv
 refine Qa ?_;refine Qb ?_ ?_<;>intro h2
 ·omega
 refine Qa ?_
 (refine zK sL ?_;(refine XG ?_;((try with_reducible and_intros);all_goals try first|refine zm ?_|exact CL)))
 refine ⟨[(0,1),(1,0)],?_⟩;exact Qi @whN.eq_1
def aX:List Tm->List AV
 | []=>[]
 | t::l=>.int .i64 t.id::.int .i64 t.due::aX l
def Jt:∀ l,(aX l).length=l.length*2
 | []=>rfl
 | t::l=>by simp[aX,Jt l];omega
def vS:∀ l m,aX (l++m)=aX l++aX m
 | [],m=>rfl
 | t::l,m=>by simp[aX,vS l m]
theorem C0 (n:Nat):∀ l,ah n (aX l)=True
 | []=>by simp[aX,ah]
 | t::l=>by simp[aX,ah,Qe,C0 n l]
theorem C2 (ρ:Nat->Nat):∀ l,ay ρ (aX l)=aX l
 | []=>by simp[aX,ay]
 | t::l=>by simp[aX,ay,aA,C2 ρ l]
theorem Qwh (S:Nat->Prop):∀ l,dI S (aX l)=True
 | []=>by simp[aX,dI]
 | t::l=>by simp[aX,dI,dj,Qwh S l]
def F3:∀ (l:List Tm) (i:Nat) (h:i<l.length),((aX l).drop (i*2)).take 2=[.int .i64 l[i].id,.int .i64 l[i].due]
 | t::l,0,_=>rfl
 | t::l,i+1,h=>by
  have:=F3 l i (by simpa using h);rw[show (i+1)*2=i*2+1+1 by omega];simpa [aX] using this
attribute [go_sem] C0 C2
def qB (l:List Tm):List (List AV):=l.map fun t=>[.int .i64 t.id,.int .i64 t.due]
def Re:∀ l,(qB l).flatten=aX l
 | []=>rfl
 | t::l=>by
  have:=Re l;simp only[qB]at this;simp[qB,aX,this]
def Yf7:∀ x ∈ qB l,ah 0 x:=fun x hx=>by
 obtain ⟨t,_,rfl⟩:=mem_map.1 hx;simp[ah,Qe]
def Qx5 {α β:Type}(f:α->β):∀ {l' l:List β},l'.Perm l->∀ l0:List α,l=l0.map f->∃ l1:List α,l1.Perm l0/\l'=l1.map f:=fun {l' l} h=>by
 induction h with
 | nil=>intro l0 e;exact ⟨[],by cases l0<;>simp_all,rfl⟩
 | cons x h ih =>
  intro l0 e;cases l0 with
  | nil=>simp at e
  | cons a l0 =>
   simp only[map_cons,List.cons.injEq]at e;obtain ⟨l1,h1,h2⟩:=ih l0 e.2;exact ⟨a::l1,h1.cons a,by rw[h2,e.1];rfl⟩
 | swap x y l =>
  intro l0 e
  match l0,e with
  | a::b::l0,e =>
   simp only[map_cons,List.cons.injEq]at e;exact ⟨b::a::l0,List.Perm.swap a b l0,by simp[e.1,e.2.1,e.2.2]⟩
 | trans h1 h2 Rf Rg =>
  intro l0 e;obtain ⟨l1,h3,h4⟩:=Rg l0 e;obtain ⟨l2,h5,h6⟩:=Rf l1 h4;exact ⟨l2,h5.trans h3,h6⟩
def Xzv {g:Nat->GM}   {m:GM}{l:List Tm}(h:BR g W w m (.dK (qB l))):∃ l':List Tm,l'.Perm l/\BR g W w m (.cells (aX l')):=by
 cases h with
 | dK hp h =>
  obtain ⟨l',h1,h2⟩:=Qx5 _ hp l rfl;rw[h2]at h;exact ⟨l',h1,by rw[<- Re];exact h⟩
def Xeq {g:Nat->GM}   {m:GM}{l l':List Tm}(h:BR g W w m (.cells (aX l')))(hp:l'.Perm l):BR g W w m (.dK (qB l)):=by
 rw[<- Re]at h;exact .dK (hp.map _) h
def mN:List (List Tm)->Nat->List AV
 | [],_=>[]
 | r::l,k=>.sl 2 (2+k) 0 r.length r.length::mN l (k+1)
def Kf:List (List Tm)->Nat->List (Nat×Bk)
 | [],_=>[]
 | r::l,k=>(2+k,.cells (aX r))::Kf l (k+1)
structure WT where
 now:Nat
 rows:List (List Tm)
 mb:Bk
def WT.row (T:WT)(i:Nat):List Tm:=T.rows.getD i []
def WT.cells (T:WT):List AV:=.int .i64 T.now::(mN T.rows 0++[.mp 1])
def WT.h (T:WT):List (Nat×Bk):=(0,.cells T.cells)::(1,T.mb)::Kf T.rows 0
def vT:List (List Tm)->Nat->List (Nat×Bk)
 | [],_=>[]
 | r::l,k=>(2+k,.dK (qB r))::vT l (k+1)
def WT.hb (T:WT):List (Nat×Bk):=(0,.cells T.cells)::(1,T.mb)::vT T.rows 0
structure WT.je (T' T:WT):Prop where
 now:T'.now=T.now
 mb:T'.mb=T.mb
 len:T'.rows.length=T.rows.length
 row:∀ i,(T'.row i).Perm (T.row i)
def WT.sM (T:WT):T.je T:=⟨rfl,rfl,rfl,fun _=>List.Perm.refl _⟩
def Qya:∀ (l l':List (List Tm)) (k:Nat),l.length=l'.length->(∀ i,(l.getD i []).Perm (l'.getD i []))->mN l k=mN l' k
 | [],[],_,_,_=>rfl
 | r::l,r'::l',k,hl,h=>by
  have h0:=(h 0).length_eq;simp only[List.getD_cons_zero]at h0;simp only[mN,h0];rw[Qya l l' (k+1) (by simpa using hl) fun i=>by have:=h (i+1);simpa only[getD_cons_succ] using this]
def WT.dP {T T':WT}(h:T'.je T):T'.cells=T.cells:=by
 unfold WT.cells;rw[h.now,Qya _ _ 0 h.len h.row]
def WT.put (T:WT)(i:Nat)(l:List Tm):WT:={ T with rows:=T.rows.set i l }
structure WT.wf (T:WT):Prop where
 len:T.rows.length=65
 mb:bV 2 T.mb
def WT.cI {T:WT}(h:T.wf)(i:Nat)(l:List Tm):(T.put i l).wf:=⟨by simp[WT.put,h.len],h.mb⟩
def WT.gQ {T:WT}(h:T.wf)  (hi:i<65)(l:List Tm)(j:Nat):(T.put i l).row j=if j=i then l else T.row j:=by
 have hl:=h.len;unfold WT.row WT.put;simp only[List.getD,getElem?_set];by_cases e:i=j
 ·subst e;rw[am rfl,am af,am rfl];rfl
 ·rw[aa e,aa (fun q=>e q.symm)]
def C3:∀ (l:List (List Tm)) (k:Nat),(mN l k).length=l.length
 | [],_=>rfl
 | r::l,k=>by simp[mN,C3 l (k+1)]
def Qy8:∀ (l:List (List Tm)) (k i:Nat),i<l.length->(mN l k)[i]?=some (.sl 2 (2+(k+i)) 0 (l.getD i []).length (l.getD i []).length)
 | r::l,k,0,_=>by simp[mN]
 | r::l,k,i+1,h=>by
  have:=Qy8 l (k+1) i (by simpa using h);rw[show k+(i+1)=k+1+i by omega];simpa [mN] using this
def Qwo:∀ (l:List (List Tm)) (k i:Nat) (r:List Tm),i<l.length->(mN l k).set i (.sl 2 (2+(k+i)) 0 r.length r.length)=mN (l.set i r) k
 | q::l,k,0,r,_=>by simp[mN]
 | q::l,k,i+1,r,h=>by
  have:=Qwo l (k+1) i r (by simpa using h);rw[show k+(i+1)=k+1+i by omega];simpa [mN] using this
def WT.len {T:WT}(h:T.wf):T.cells.length=67:=by simp[WT.cells,C3,h.len]
theorem WT.iI (T:WT):T.cells.getD 0 .any=.int .i64 T.now:=rfl
def WT.eR {T:WT}(h:T.wf):T.cells.getD 66 .any=.mp 1:=by
 have hl:=h.len;unfold WT.cells;rw[getD_cons_succ,List.getD_eq_getElem?_getD,List.getElem?_append_right (by rw[C3];omega),C3,hl];rfl
def WT.iJ {T:WT}(h:T.wf)  (hi:i<65):T.cells.getD (i+1) .any=.sl 2 (2+i) 0 (T.row i).length (T.row i).length:=by
 have hl:=h.len;unfold WT.cells WT.row;rw[getD_cons_succ,List.getD_eq_getElem?_getD,List.getElem?_append_left (by rw[C3];omega),Qy8 _ _ _ af,Nat.zero_add];rfl
def WT.Rh {T:WT}(h:T.wf)  (hi:i<65)(l:List Tm):T.cells.set (i+1) (.sl 2 (2+i) 0 l.length l.length)=(T.put i l).cells:=by
 have hl:=h.len;unfold WT.cells WT.put;rw[List.set_cons_succ,List.set_append_left _ _ (by rw[C3];omega)];have:=Qwo T.rows 0 i l af;rw[Nat.zero_add]at this;rw[this]
theorem WT.Ri (T:WT)(n:Nat):T.cells.set 0 (.int .i64 n)={ T with now:=n }.cells:=rfl
def Xdn:∀ (l:List (List Tm)) (k n:Nat),2+k+l.length<=n->ah n (mN l k)
 | [],_,_,_=>by simp[mN,ah]
 | r::l,k,n,h=>by
  simp only[mN,ah,Qe];simp only[length_cons]at h;exact ⟨by omega,Xdn l (k+1) n af⟩
def WT.nm {T:WT}(h:T.wf){n:Nat}(hn:67<=n):ah n T.cells:=by
 have hl:=h.len;rw[Xh];intro x hx;unfold WT.cells at hx;rcases mem_cons.1 hx with rfl|hx
 ·simp[Qe]
 ·rcases List.mem_append.1 hx with hx|hx
  ·exact Xh.1 (Xdn T.rows 0 n af) x hx
  ·simp only[List.mem_singleton]at hx;subst hx;simp only[Qe];omega
def Ax:∀ (l:List (List Tm)) (k n b:Nat),Qc (Kf l k) n b=if 2+k<=b/\b<2+k+l.length then .cells (aX (l.getD (b-(2+k)) [])) else if b<n then .dead else .free
 | [],k,n,b=>by
  rw[aa (by simp only[List.length_nil];omega)];rfl
 | r::l,k,n,b=>by
  unfold Kf;rw[Qf,Ax l (k+1) n b];by_cases h1:2+k=b
  ·subst h1;rw[am rfl,am aw];simp
  ·rw[aa h1];by_cases h2:2 + (k + 1)≤b∧b < 2 + (k + 1) + l.length
   ·rw[am h2,am (by simp;omega),show b-(2+k)=(b-(2+(k+1)))+1 by omega,getD_cons_succ]
   ·rw[aa h2,aa (show ¬ (2+k<=b/\b<2+k+(r::l).length) by simp only[length_cons];omega)]
def WT.iK {T:WT}(h:T.wf)  (hi:i<65)(n:Nat):Qc (Kf T.rows 0) n (2+i)=.cells (aX (T.row i)):=by
 have hl:=h.len;rw[Ax,am af,show 2+i-(2+0)=i by omega];rfl
def WT.iB {T:WT}(h:T.wf)(n:Nat){b:Nat}(hb:67<=b):Qc (Kf T.rows 0) n b=if b<n then .dead else .free:=by
 have hl:=h.len;rw[Ax,aa af]
def rq {m n:Nat}(zf:m<=n){x:Bk}(h:bV m x):bV n x:=by
 have up:∀ v,Qe m v→Qe n v:=fun v=>AV.rec (motive_1:=fun v=>Qe m v→Qe n v) (motive_2:=fun l=>ah m l→ah n l) (by simp[Qe]) (fun b v h=>by simpa [Qe] using h) (fun _ _=>by simp[Qe]) (fun _=>by simp[Qe]) (fun _=>by simp[Qe])
  (fun cs h=>by simpa [Qe] using h) (fun cs h=>by simpa [Qe] using h) (fun _ _=>by simp only[Qe];omega) (fun cs _ h=>by simpa [Qe] using h) (fun _ _ _ _ _=>by simp only[Qe];omega) (fun _ cs h=>by simpa [Qe] using h) (by simp[Qe])
  (fun _ cs h=>by simpa [Qe] using h) (fun _=>by simp only[Qe];omega) (fun _=>by simp[Qe]) (by simp[ah]) (fun x xs h1 h2=>by simp only[ah];exact fun ⟨a,b⟩=>⟨h1 a,h2 b⟩) v
 cases x with
 | free=>exact h
 | dead=>exact h
 | cells cs=>exact Xh.2 fun x hx=>up x (Xh.1 h x hx)
 | az kvs dn=>exact fun p hp=>⟨up _ (h p hp).1,up _ (h p hp).2⟩
 | bp kvs bs ck=>exact fun p hp=>⟨up _ (h p hp).1,up _ (h p hp).2⟩
 | iter b ck seen=>exact Nat.lt_of_lt_of_le h zf
 | dK ls=>exact h
def vU {ρ:Nat->Nat}{n:Nat}(h:∀ b,b<n->ρ b=b):∀ v,Qe n v->aA ρ v=v:=fun v=>AV.rec (motive_1:=fun v=>Qe n v->aA ρ v=v) (motive_2:=fun l=>ah n l->ay ρ l=l) (by simp[aA]) (fun b v h1 h2=>by simp only[Qe]at h2;simp only[aA,h1 h2]) (fun _ _=>by simp[aA]) (fun _=>by simp[aA]) (fun _=>by simp[aA])
  (fun cs h1 h2=>by simp only[Qe]at h2;simp only[aA,h1 h2]) (fun cs h1 h2=>by simp only[Qe]at h2;simp only[aA,h1 h2]) (fun b _ h2=>by simp only[Qe]at h2;simp only[aA,h b h2]) (fun cs _ h1 h2=>by simp only[Qe]at h2;simp only[aA,h1 h2]) (fun _ b _ _ _ h2=>by simp only[Qe]at h2;simp only[aA,h b h2]) (fun _ cs h1 h2=>by simp only[Qe]at h2;simp only[aA,h1 h2]) (by simp[aA])
  (fun _ cs h1 h2=>by simp only[Qe]at h2;simp only[aA,h1 h2]) (fun b h2=>by simp only[Qe]at h2;simp only[aA,h b h2]) (fun _=>by simp[aA]) (by simp[ay]) (fun x xs h1 h2=>by simp only[ah,ay];exact fun ⟨a,b⟩=>by rw[h1 a,h2 b]) v
theorem Lj {ρ:Nat->Nat}{n:Nat}(h:∀ b,b<n->ρ b=b){x:Bk}(hx:bV n x):Qw ρ x=x:=by
 cases x with
 | free=>rfl
 | dead=>rfl
 | cells cs =>
  simp only[Qw,Zd];congr 1;exact (List.map_congr_left fun v hv=>vU h v (Xh.1 hx v hv)).trans (map_id cs)
 | az kvs dn =>
  simp only[Qw];congr 1;exact (List.map_congr_left fun q hq=>by rw[vU h _ (hx q hq).1,vU h _ (hx q hq).2];rfl).trans (map_id kvs)
 | bp kvs bs ck =>
  simp only[Qw];congr 1;exact (List.map_congr_left fun q hq=>by rw[vU h _ (hx q hq).1,vU h _ (hx q hq).2];rfl).trans (map_id kvs)
 | iter b ck seen=>simp only[Qw];rw[h b hx]
 | dK ls=>rfl
def Ay:∀ (l:List (List Tm)) (k:Nat) (q:Nat×Bk),q ∈ Kf l k->2+k<=q.1/\q.1<2+k+l.length/\q.2=.cells (aX (l.getD (q.1-(2+k)) []))
 | r::l,k,q,h=>by
  unfold Kf at h;rcases mem_cons.1 h with rfl|h
  ·simp
  ·obtain ⟨h1,h2,h3⟩:=Ay l (k+1) q h;refine ⟨by omega,by simp;omega,?_⟩;rw[h3,show q.1-(2+k)=(q.1-(2+(k+1)))+1 by omega,getD_cons_succ]
def Xa4:∀ (l:List (List Tm)) (k b:Nat),2+k<=b->b<2+k+l.length->∃ q ∈ Kf l k,q.1=b
 | [],k,b,h1,h2=>by simp at h2;omega
 | r::l,k,b,h1,h2=>by
  by_cases e:b=2+k
  ·exact ⟨(2+k,.cells (aX r)),by simp[Kf],e.symm⟩
  ·obtain ⟨q,h3,h4⟩:=Xa4 l (k+1) b af (by simp at h2;omega);exact ⟨q,by simp[Kf,h3],h4⟩
def WT.look {T:WT}(h:T.wf)(n:Nat)  (hq:q ∈ T.h):Qc T.h n q.1=q.2:=by
 have hl:=h.len;unfold WT.h at hq ⊢;rcases mem_cons.1 hq with rfl|hq
 ·rw[Qf,am rfl]
 rcases mem_cons.1 hq with rfl|hq
 ·rw[Qf,aa aw,Qf,am rfl]
 obtain ⟨h1,h2,h3⟩:=Ay _ _ _ hq;rw[Qf,aa af,Qf,aa af,Ax,am ⟨h1,h2⟩,h3]
def WT.as {T:WT}(h:T.wf):HL T.h 67:=by
 have hl:=h.len;refine ⟨fun q hq=>?_,fun b hb=>?_,fun q hq=>WT.look h 67 hq⟩
 ·unfold WT.h at hq;rcases mem_cons.1 hq with rfl|hq
  ·exact ⟨by show 0<67;decide,WT.nm h af⟩
  rcases mem_cons.1 hq with rfl|hq
  ·exact ⟨by show 1<67;decide,rq af h.mb⟩
  obtain ⟨h1,h2,h3⟩:=Ay _ _ _ hq;refine ⟨by omega,?_⟩;rw[h3];simp[bV,C0]
 ·unfold WT.h;by_cases h0:b=0
  ·exact ⟨(0,.cells T.cells),by simp,h0.symm⟩
  by_cases h1:b=1
  ·exact ⟨(1,T.mb),by simp,h1.symm⟩
  obtain ⟨q,h2,h3⟩:=Xa4 T.rows 0 b af af;exact ⟨q,by simp[h2],h3⟩
def WT.key {T:WT}(h:T.wf)  (hq:q ∈ T.h):q.1<67:=((WT.as h).mem q hq).1
def To.wh {p:List Nat}{n':Nat}{s:St}{t':List (Nat×AV)}{ex:List (Nat×Bk)}{T':WT}(hT:T'.wf)(ρ:Nat->Nat)(hp:∀ b,b ∈ p->ρ b=b/\b<n')(hn:67<=n')(ct:∀ b b',b<n'->b'<n'->ρ b=ρ b'->b=b')
  (h0:Qc s.h s.n (ρ 0)=.cells (ay ρ T'.cells)) (h1:Qc s.h s.n (ρ 1)=Qw ρ T'.mb) (hr:∀ i,i<65->Qc s.h s.n (ρ (2+i))=.cells (aX (T'.row i)))
  (ht:Qr ρ n' s.t t') (hx:qa ρ n' s ex) (hk:∀ q ∈ ex,67<=q.1):To p s ⟨t',ex++T'.h,n'⟩:=by
 have hl:=hT.len;refine To.EE (ρ:=ρ) hp ⟨ht,?_⟩;have fact:∀ q ∈ T'.h,q.1<n'/\bV n' q.2/\Qc s.h s.n (ρ q.1)=Qw ρ q.2:=fun q hq=>by
  have BL:=hq;obtain ⟨m1,m2⟩:=(WT.as hT).mem q hq;refine ⟨by omega,rq hn m2,?_⟩;unfold WT.h at hq;rcases mem_cons.1 hq with rfl|hq
  ·rw[h0];rfl
  rcases mem_cons.1 hq with rfl|hq
  ·exact h1
  obtain ⟨g1,g2,g3⟩:=Ay _ _ _ hq;have:=hr (q.1-2) af;rw[show 2+(q.1-2)=q.1 by omega]at this;rw[this,g3];simp only[Qw,C2];rfl
 have not:∀ (b:Nat) (l:List (Nat×Bk)),b<n'->(∀ q ∈ l,q.1<n'/\q.1≠b)->uV ρ b l:=fun b l hb=>by
  induction l with
  | nil=>intro _;trivial
  | cons q l ih =>
   intro hl;obtain ⟨i,x⟩:=q;obtain ⟨h1,h2⟩:=hl (i,x) aw;exact ⟨fun e=>h2 (ct _ _ h1 hb e),ih fun q hq=>hl q (by simp[hq])⟩
 have Az:∀ (l:List (List Tm)) (k:Nat),(∀ q ∈ Kf l k,q.1<n'/\bV n' q.2/\Qc s.h s.n (ρ q.1)=Qw ρ q.2)->qa ρ n' s (Kf l k):=fun l=>by
  induction l with
  | nil=>intro k _;trivial
  | cons r l ih =>
   intro k hq;obtain ⟨a1,a2,a3⟩:=hq (2+k,.cells (aX r)) (by simp[Kf]);refine ⟨⟨a1,a2,a3,not _ _ a1 fun q dd=>?_⟩,ih (k+1) fun q dd=>hq q (by simp[Kf,dd])⟩;obtain ⟨b1,b2,_⟩:=Ay _ _ _ dd;exact ⟨(hq q (by simp[Kf,dd])).1,by omega⟩
 have base:qa ρ n' s T'.h:=by
  unfold WT.h;obtain ⟨a1,a2,a3⟩:=fact (0,.cells T'.cells) (by simp[WT.h]);obtain ⟨b1,b2,b3⟩:=fact (1,T'.mb) (by simp[WT.h]);refine ⟨⟨a1,a2,a3,not _ _ a1 fun q hq=>?_⟩,⟨b1,b2,b3,not _ _ b1 fun q hq=>?_⟩,Az _ _ fun q hq=>fact q (by simp[WT.h,hq])⟩
  ·have:=(fact q (by simp only[WT.h];exact List.mem_cons_of_mem _ hq)).1;rcases mem_cons.1 hq with rfl|hq
   ·exact ⟨this,by simp⟩
   ·obtain ⟨c1,c2,_⟩:=Ay _ _ _ hq;exact ⟨this,by omega⟩
  ·obtain ⟨c1,c2,_⟩:=Ay _ _ _ hq;exact ⟨by omega,by omega⟩
 have app:∀ l:List (Nat×Bk),(∀ q ∈ l,67<=q.1)->qa ρ n' s l->qa ρ n' s (l++T'.h):=fun l=>by
  induction l with
  | nil=>intro _ _;exact base
  | cons q l ih =>
   intro hk hs;obtain ⟨i,x⟩:=q;obtain ⟨⟨a1,a2,a3,a4⟩,a5⟩:=hs;refine ⟨⟨a1,a2,a3,?_⟩,ih (fun q hq=>hk q (by simp[hq])) a5⟩;have cG:=hk (i,x) aw;have Rj:∀ (l1 l2:List (Nat×Bk)),uV ρ i l1->uV ρ i l2->uV ρ i (l1++l2):=fun l1 l2=>by
    induction l1 with
    | nil=>intro _ h;exact h
    | cons q l1 ih=>obtain ⟨j,y⟩:=q;intro h1 h2;exact ⟨h1.1,ih h1.2 h2⟩
   exact Rj _ _ a4 (not _ _ a1 fun q hq=>⟨(fact q hq).1,by have:=WT.key hT hq;dsimp only at cG;omega⟩)
 exact app ex hk hx
def Rk:∀ (l:List (List Tm)) (k n b:Nat),Qc (vT l k) n b=if 2+k<=b/\b<2+k+l.length then .dK (qB (l.getD (b-(2+k)) [])) else if b<n then .dead else .free
 | [],k,n,b=>by
  rw[aa (by simp only[List.length_nil];omega)];rfl
 | r::l,k,n,b=>by
  unfold vT;rw[Qf,Rk l (k+1) n b];by_cases h1:2+k=b
  ·subst h1;rw[am rfl,am aw];simp
  ·rw[aa h1];by_cases h2:2 + (k + 1)≤b∧b < 2 + (k + 1) + l.length
   ·rw[am h2,am (by simp;omega),show b-(2+k)=(b-(2+(k+1)))+1 by omega,getD_cons_succ]
   ·rw[aa h2,aa (show ¬ (2+k<=b/\b<2+k+(r::l).length) by simp only[length_cons];omega)]
def Rl:∀ (l:List (List Tm)) (k:Nat) (q:Nat×Bk),q ∈ vT l k->2+k<=q.1/\q.1<2+k+l.length/\q.2=.dK (qB (l.getD (q.1-(2+k)) []))
 | r::l,k,q,h=>by
  unfold vT at h;rcases mem_cons.1 h with rfl|h
  ·simp
  ·obtain ⟨h1,h2,h3⟩:=Rl l (k+1) q h;refine ⟨by omega,by simp;omega,?_⟩;rw[h3,show q.1-(2+k)=(q.1-(2+(k+1)))+1 by omega,getD_cons_succ]
def Qsr:∀ (l:List (List Tm)) (k b:Nat),2+k<=b->b<2+k+l.length->∃ q ∈ vT l k,q.1=b
 | [],k,b,h1,h2=>by simp at h2;omega
 | r::l,k,b,h1,h2=>by
  by_cases e:b=2+k
  ·exact ⟨(2+k,.dK (qB r)),by simp[vT],e.symm⟩
  ·obtain ⟨q,h3,h4⟩:=Qsr l (k+1) b af (by simp at h2;omega);exact ⟨q,by simp[vT,h3],h4⟩
def WT.iq {T:WT}(h:T.wf):HL T.hb 67:=by
 have hl:=h.len;refine ⟨fun q hq=>?_,fun b hb=>?_,fun q hq=>?_⟩
 ·unfold WT.hb at hq;rcases mem_cons.1 hq with rfl|hq
  ·exact ⟨by show 0<67;decide,WT.nm h af⟩
  rcases mem_cons.1 hq with rfl|hq
  ·exact ⟨by show 1<67;decide,rq af h.mb⟩
  obtain ⟨h1,h2,h3⟩:=Rl _ _ _ hq;refine ⟨by omega,?_⟩;rw[h3];exact Yf7 _
 ·unfold WT.hb;by_cases h0:b=0
  ·exact ⟨(0,.cells T.cells),by simp,h0.symm⟩
  by_cases h1:b=1
  ·exact ⟨(1,T.mb),by simp,h1.symm⟩
  obtain ⟨q,h2,h3⟩:=Qsr T.rows 0 b af af;exact ⟨q,by simp[h2],h3⟩
 ·unfold WT.hb at hq ⊢;rcases mem_cons.1 hq with rfl|hq
  ·rw[Qf,am rfl]
  rcases mem_cons.1 hq with rfl|hq
  ·rw[Qf,aa aw,Qf,am rfl]
  obtain ⟨h1,h2,h3⟩:=Rl _ _ _ hq;rw[Qf,aa af,Qf,aa af,Rk,am ⟨h1,h2⟩,h3]
def WT.bE (T:WT)(n b:Nat):Qc T.h n b=if 0=b then .cells T.cells else if 1=b then T.mb else if 2<=b/\b<2+T.rows.length then .cells (aX (T.row (b-2))) else if b<n then .dead else .free:=by
 unfold WT.h WT.row;rw[Qf,Qf,Ax]
def WT.ed (T:WT)(n b:Nat):Qc T.hb n b=if 0=b then .cells T.cells else if 1=b then T.mb else if 2<=b/\b<2+T.rows.length then .dK (qB (T.row (b-2))) else if b<n then .dead else .free:=by
 unfold WT.hb WT.row;rw[Qf,Qf,Rk]
def Qnx {Q:Nat->List Tm->Prop}:∀ (rows:List (List Tm)) (k:Nat),(∀ j,j<rows.length->∃ l':List Tm,l'.Perm (rows.getD j [])/\Q (k+j) l')->∃ jH:List (List Tm),jH.length=rows.length/\(∀ j,(jH.getD j []).Perm (rows.getD j []))/\∀ j,j<rows.length->Q (k+j) (jH.getD j [])
 | [],k,_=>⟨[],rfl,fun _=>List.Perm.refl _,fun j hj=>by simp at hj⟩
 | r::rows,k,h=>by
  obtain ⟨l',h1,h2⟩:=h 0 aw;obtain ⟨jH,g1,g2,g3⟩:=Qnx (Q:=Q) rows (k+1) fun j hj=>by
   have:=h (j+1) (by simpa using hj);rw[show k+1+j=k+(j+1) by omega];simpa only[getD_cons_succ] using this
  refine ⟨l'::jH,by simp[g1],fun j=>?_,fun j hj=>?_⟩
  ·cases j with
   | zero=>simpa using h1
   | succ j=>simpa only[getD_cons_succ] using g2 j
  ·cases j with
   | zero=>simpa using h2
   | succ j =>
    have:=g3 j (by simpa using hj);rw[show k+1+j=k+(j+1) by omega]at this;simpa only[getD_cons_succ] using this
def WT.ca {g:Nat->GM}   {T:WT}(hR:R c g (dC T.hb 67) a w):∃ T':WT,T'.je T/\R c g (dC T'.h 67) a w:=by
 have hk:∀ j,j<T.rows.length->∃ l':List Tm,l'.Perm (T.rows.getD j [])/\(fun i (l':List Tm)=>BR g (Qm c g (dC T.hb 67)) w (g (2+i)) (.cells (aX l'))) (0+j) l':=fun j hj=>by
  have hb:=hR.h (2+j);have e:(dC T.hb 67).H (2+j)=.dK (qB (T.rows.getD j [])):=by
   show Qc T.hb 67 (2+j)=_;rw[WT.ed,aa af,aa af,am af,show 2+j-2=j by omega];rfl
  rw[e]at hb;rw[Nat.zero_add];exact Xzv hb
 obtain ⟨jH,h1,h2,h3⟩:=Qnx (Q:=fun i (l':List Tm)=>BR g (Qm c g (dC T.hb 67)) w (g (2+i)) (.cells (aX l'))) T.rows 0 hk;have hs:WT.je { T with rows:=jH } T:=⟨rfl,rfl,h1,h2⟩
 refine ⟨_,hs,hR.gK (fun _ _ h=>h) (fun b hb=>?_) fun b=>?_⟩
 ·show BR _ _ _ _ (Qc (WT.h _) 67 b);have e:(dC T.hb 67).H b=Qc T.hb 67 b:=rfl;rw[e,WT.ed]at hb;rw[WT.bE,WT.dP hs,h1];by_cases c0:0=b
  ·rw[am c0]at hb ⊢;exact hb
  rw[aa c0]at hb ⊢;by_cases c1:1=b
  ·rw[am c1]at hb ⊢;exact hb
  rw[aa c1]at hb ⊢;by_cases c2:2<=b/\b<2+T.rows.length
  ·rw[am c2];have:=h3 (b-2) af;rw[Nat.zero_add,show 2+(b-2)=b by omega]at this;exact this
  ·rw[aa c2]at hb ⊢;exact hb
 ·show (Qc _ 67 b).live ↔ (Qc T.hb 67 b).live;rw[WT.bE,WT.ed,WT.dP hs,h1]
  (repeat' split)<;>first|exact Iff.rfl|exact ⟨fun _=>trivial,fun _=>trivial⟩
def WT.cls {g:Nat->GM}   {T T':WT}(hs:T'.je T)(hR:R c g (dC T'.h 67) a w):R c g (dC T.hb 67) a w:=by
 refine hR.gK (fun _ _ h=>h) (fun b hb=>?_) fun b=>?_
 ·show BR _ _ _ _ (Qc T.hb 67 b);have e:(dC T'.h 67).H b=Qc T'.h 67 b:=rfl;rw[e,WT.bE,WT.dP hs,hs.mb,hs.len]at hb;rw[WT.ed];by_cases h0:0=b
  ·rw[am h0]at hb ⊢;exact hb
  rw[aa h0]at hb ⊢;by_cases h1:1=b
  ·rw[am h1]at hb ⊢;exact hb
  rw[aa h1]at hb ⊢;by_cases h2:2<=b/\b<2+T.rows.length
  ·rw[am h2]at hb ⊢;exact Xeq hb (hs.row _)
  ·rw[aa h2]at hb ⊢;exact hb
 ·show (Qc T.hb 67 b).live ↔ (Qc T'.h 67 b).live;rw[WT.bE,WT.ed,WT.dP hs,hs.len,hs.mb]
  (repeat' split)<;>first|exact Iff.rfl|exact ⟨fun _=>trivial,fun _=>trivial⟩
def C4 {P:Program}{gl:Nat->AV}{f:FuncId}{args:List AV}  {r:AV}{T T2:WT}(h:∀ T':WT,T'.je T->GQ P gl f args T'.h 67 p (fun F4:WT=>F4.je T2) (fun _=>r) WT.h):GD P gl f args T.hb 67 p r T2.hb:=by
 refine ⟨(h T T.sM).1,fun w vs G X g hR hv=>?_⟩;obtain ⟨T',hs,bc⟩:=WT.ca hR;have hW:Qm ⟨0,w,G,X,gl,[]⟩ g (dC T'.h 67)=Qm ⟨0,w,G,X,gl,[]⟩ g (dC T.hb 67):=by
  funext k;have hl:∀ b,((dC T'.h 67).H b).live ↔ ((dC T.hb 67).H b).live:=fun b=>by
   show (Qc T'.h 67 b).live ↔ (Qc T.hb 67 b).live;rw[WT.bE,WT.ed,WT.dP hs,hs.len,hs.mb]
   (repeat' split)<;>first|exact Iff.rfl|exact ⟨fun _=>trivial,fun _=>trivial⟩
  simp only[Qm,hl]
 refine ((h T' hs).2 w vs G X g bc (by rw[hW];exact hv)).mono fun e w' ⟨F4,v,g',q1,q2,q3,q4,q5⟩=>?_;refine ⟨(),v,g',trivial,q2,WT.cls q1 q3,q4,?_⟩;have qe:Qm ⟨0,w,G,X,gl,[]⟩ g' (dC F4.h 67)=Qm ⟨0,w,G,X,gl,[]⟩ g' (dC T2.hb 67):=by
  funext k;have hl:∀ b,((dC F4.h 67).H b).live ↔ ((dC T2.hb 67).H b).live:=fun b=>by
   show (Qc F4.h 67 b).live ↔ (Qc T2.hb 67 b).live;rw[WT.bE,WT.ed,WT.dP q1,q1.len,q1.mb]
   (repeat' split)<;>first|exact Iff.rfl|exact ⟨fun _=>trivial,fun _=>trivial⟩
  simp only[Qm,hl]
 rw[<- qe];exact q5
def WT.gf {T:WT}(h:T.wf)(j:Nat)(hj:j<67):j=0\/j=66\/∃ i,i<65/\j=i+1:=by
 by_cases h0:j=0
 ·exact .inl h0
 by_cases h1:j=66
 ·exact .inr (.inl h1)
 ·exact .inr (.inr ⟨j-1,by omega,by omega⟩)
def Lk {l l':List AV}(hl:l.length=l'.length)(h:∀ j,j<l.length->l.getD j .any=l'.getD j .any):l=l':=by
 refine List.ext_getElem hl fun j h1 h2=>?_;have:=h j h1;simpa [List.getD,h1,h2] using this
def Wp (i N b:Nat):Nat:=if b=2+i then N else b
def Xu6 {T:WT}(hT:T.wf)  (hi:i<65)(l:List Tm)(N:Nat):ay (Wp i N) (T.put i l).cells=T.cells.set (i+1) (.sl 2 N 0 l.length l.length):=by
 have hw:=WT.cI hT i l;have oD:=WT.len hT;have hl2:=WT.len hw;refine Lk (by rw[Yp,length_set,oD,hl2]) fun j hj=>?_;rw[Yp,hl2]at hj;rw[Kt];have bA:∀ v,(T.cells.set (i+1) v).getD j .any=if j=i+1 then v else T.cells.getD j .any:=fun v=>by
  simp only[List.getD,getElem?_set];by_cases e:i+1=j
  ·subst e;rw[am rfl,am af,am rfl];rfl
  ·rw[aa e,aa fun q=>e q.symm]
 rw[bA];rcases WT.gf hT j hj with rfl|rfl|⟨i',nV,rfl⟩
 ·rw[aa af];simp only[WT.iI,aA];rfl
 ·rw[aa af,WT.eR hw,WT.eR hT];simp only[aA,Wp];rw[aa af]
 ·rw[WT.iJ hw nV,WT.iJ hT nV,WT.gQ hT hi];by_cases e:i'=i
  ·subst e;simp[aA,Wp]
  ·rw[aa e,aa af];simp only[aA,Wp];rw[aa af]
def To.put {p:List Nat}{n':Nat}{s:St}{t':List (Nat×AV)}{ex:List (Nat×Bk)}{T:WT}(hT:T.wf){i N:Nat}(hi:i<65){l:List Tm}(hN:67<=N)(hn:67<=n')(hp:∀ b,b ∈ p->b<n'/\b≠2+i)(hNn:n'<=N)
  (h0:Qc s.h s.n 0=.cells (T.cells.set (i+1) (.sl 2 N 0 l.length l.length))) (h1:Qc s.h s.n 1=T.mb) (hl:Qc s.h s.n N=.cells (aX l)) (hr:∀ j,j<65->j≠i->Qc s.h s.n (2+j)=.cells (aX (T.row j)))
  (ht:Qr (Wp i N) n' s.t t') (hx:qa (Wp i N) n' s ex) (hk:∀ q ∈ ex,67<=q.1):To p s ⟨t',ex++(T.put i l).h,n'⟩:=by
 have hw:=WT.cI hT i l;refine To.wh hw (Wp i N) (fun b hb=>⟨by unfold Wp;rw[aa (hp b hb).2],(hp b hb).1⟩) hn (fun b b' hb bL e=>?_) ?_ ?_ (fun j hj=>?_) ht hx hk
 ·unfold Wp at e
  (repeat' split at e)<;>omega
 ·rw[Xu6 hT hi,show Wp i N 0=0 by unfold Wp;rw[aa af]];exact h0
 ·rw[show Wp i N 1=1 by unfold Wp;rw[aa af],h1];show T.mb=Qw _ T.mb;exact (Lj (fun b hb=>by unfold Wp;rw[aa af]) hT.mb).symm
 ·rw[WT.gQ hT hi];unfold Wp;by_cases e:j=i
  ·subst e;rw[am rfl,am rfl];exact hl
  ·rw[aa af,aa e];exact hr j hj e
def To.eS {t t':List (Nat×AV)}{ex:List (Nat×Bk)}{T:WT}{n:Nat}(hT:T.wf)(hp:∀ b,b ∈ p->b<67)(hex:∀ q ∈ ex,67<=q.1)(ht:Qr id 67 t t'):To p ⟨t,ex++T.h,n⟩ ⟨t',T.h,67⟩:=by
 have hl:=hT.len;have hs:∀ b,b<67->Qc (ex++T.h) n b=Qc T.h n b:=fun b hb=>Xo fun q hq e=>by have:=hex q hq;omega
 refine To.wh (ex:=[]) hT id (fun b hb=>⟨rfl,hp b hb⟩) af (fun b b' _ _ e=>e) ?_ ?_ (fun i hi=>?_) ht trivial (fun q hq=>by cases hq)
 ·show Qc (ex++T.h) n 0=_;rw[hs 0 af,WT.bE,am rfl,sm]
 ·show Qc (ex++T.h) n 1=_;rw[hs 1 af,WT.bE,aa af,am rfl,qZ]
 ·show Qc (ex++T.h) n (2+i)=_;rw[hs _ af,WT.bE,aa af,aa af,am af,show 2+i-2=i by omega]
def Yi5 {ρ:List (Nat×Nat)}(h:ρ.all (fun q=>decide (67<=q.1)&&decide (67<=q.2))=true):∀ b,(b<67->rl ρ b=b)/\(67<=b->67<=rl ρ b):=by
 induction ρ with
 | nil=>exact fun b=>⟨fun _=>rfl,fun h=>h⟩
 | cons q ρ ih =>
  obtain ⟨i,j⟩:=q;simp only[List.all_cons,Bool.and_eq_true,decide_eq_true_eq]at h;intro b;have:=ih h.2 b;show (b<67->(bif i==b then j else rl ρ b)=b)/\(67<=b->67<=(bif i==b then j else rl ρ b))
  cases e:i==b with
  | true =>
   have:i=b:=by simpa using e
   exact ⟨fun h2=>by omega,fun _=>h.1.2⟩
  | false=>exact this
def To.Rm {p:List Nat}{n':Nat}{s:St}{t':List (Nat×AV)}{ex:List (Nat×Bk)}{T:WT}(ρ:List (Nat×Nat))(hT:T.wf)(hp:∀ b,b ∈ p->b<67)(hn:67<=n')(hρ:ρ.all (fun q=>decide (67<=q.1)&&decide (67<=q.2))=true)
  (hd:Cb ((List.range (n'-67)).map fun i=>rl ρ (67+i))=true) (hs:∀ b,b<67->Qc s.h s.n b=Qc T.h 67 b) (ht:Qr (rl ρ) n' s.t t') (hx:qa (rl ρ) n' s ex) (hk:∀ q ∈ ex,67<=q.1):To p s ⟨t',ex++T.h,n'⟩:=by
 have hl:=hT.len;have fA:=Yi5 hρ;refine To.wh hT (rl ρ) (fun b hb=>⟨(fA b).1 (hp b hb),by have:=hp b hb;omega⟩) hn (fun b b' hb bL e=>?_) ?_ ?_ (fun i hi=>?_) ht hx hk
 ·by_cases h1:b < 67<;>by_cases h2:b' < 67
  ·rw[(fA b).1 h1,(fA b').1 h2]at e;exact e
  ·rw[(fA b).1 h1]at e;have:=(fA b').2 af;omega
  ·rw[(fA b').1 h2]at e;have:=(fA b).2 af;omega
  ·have:=NT hd (b-67) (b'-67) (by simp;omega) (by simp;omega) (by
    simp only[List.getD,List.getElem?_map,List.getElem?_range (show b-67<n'-67 by omega),List.getElem?_range (show b'-67<n'-67 by omega),Option.map_some,Option.getD_some];rw[show 67+(b-67)=b by omega,show 67+(b'-67)=b' by omega];exact e)
   omega
 ·rw[(fA 0).1 af,hs 0 af,WT.bE,am rfl];congr 1;refine (((Lk (by rw[Yp]) fun j hj=>?_):ay (rl ρ) T.cells=T.cells)).symm;rw[Yp,WT.len hT]at hj;rw[Kt];refine vU (fun b hb=>(fA b).1 hb) _ (Zz (WT.nm hT (Nat.le_refl 67)) j)
 ·rw[(fA 1).1 af,hs 1 af,WT.bE,aa af,am rfl];exact (Lj (fun b hb=>(fA b).1 af) hT.mb).symm
 ·rw[(fA (2+i)).1 af,hs _ af,WT.bE,aa af,aa af,am af,show 2+i-2=i by omega]
theorem Yfr (i N:Nat):Wp i N 0=0:=by unfold Wp;rw[aa (by omega)]
theorem Ygm (i N:Nat):Wp i N 1=1:=by unfold Wp;rw[aa (by omega)]
def To.off {p:List Nat}{s:St}{T:WT}{i k:Nat}{l:List Tm}{t':List (Nat×AV)}(hT:T.wf)(hi:i<65)(hl:T.row i=l)(h0:Qc s.h s.n 0=.cells (T.cells.set (i+1) .nils))(hs:∀ b,b≠0->b<67->Qc s.h s.n b=Qc T.h 67 b)
  (hf:s.fs.H s.n=.free) (hn:67<=s.n) (hk:look s.t k=.sl 2 (2+i) 0 l.length l.length) (hp:∀ b,b ∈ p->b<2) (ht:Qr (Wp i s.n) 67 ((k,.isl l.length (aX l))::s.t) t'):To p s ⟨t',(T.put i []).h,67⟩:=by
 have fH:=hT.len;have aW:=WT.len hT;refine To.trans (To.jS (b:=0) (j:=i+1) (es:=2) h0 (by rw[List.getElem?_set_self af]) hf) ?_;rw[List.set_set];have da:Qc s.h (s.n+1) (2+i)=.cells (aX l):=by
  rw[Ku _ _ _ af,hs _ af af,WT.bE,aa af,aa af,am af,show 2+i-2=i by omega,hl]
 refine To.trans (To.fZ (b:=2+i) (i:=k) (cs:=aX l) (es:=2) (off:=0) (n:=l.length) (k:=l.length) ?_ hk) ?_
 ·show Qc ((0,_)::(s.n,_)::s.h) (s.n+1) (2+i)=_;rw[Qf,aa af,Qf,aa af];exact da
 have ec:((aX l).drop 0).take (l.length*2)=aX l:=by rw[List.drop_zero,take_of_length_le (by rw[Jt];omega)]
 rw[ec];refine To.put (ex:=[]) hT hi (N:=s.n) hn af (fun b hb=>by have:=hp b hb;omega) hn ?_ ?_ ?_ (fun j hj cb=>?_) ht trivial (fun q hq=>by cases hq)
 ·show Qc ((2+i,_)::(0,_)::(s.n,_)::s.h) (s.n+1) 0=_;rw[Qf,aa af,Qf,am rfl];rfl
 ·show Qc ((2+i,_)::(0,_)::(s.n,_)::s.h) (s.n+1) 1=_;rw[Qf,aa af,Qf,aa af,Qf,aa af,Ku _ _ _ af,hs 1 af af,WT.bE,aa af,am rfl]
 ·show Qc ((2+i,_)::(0,_)::(s.n,_)::s.h) (s.n+1) s.n=_;rw[Qf,aa af,Qf,aa af,Qf,am rfl];rfl
 ·show Qc ((2+i,_)::(0,_)::(s.n,_)::s.h) (s.n+1) (2+j)=_;rw[Qf,aa af,Qf,aa af,Qf,aa af,Ku _ _ _ af,hs _ af af,WT.bE,aa af,aa af,am af,show 2+j-2=j by omega]
def jR (b:Nat):Prop:=b<2\/67<=b
def xQ {P:Program}{c:Cx}{r0:List bD}{K:St->Prop}{s:St}{d:Option Nat}{f:FuncId}{xs:List TV}{args:List AV}{T:WT}{ι:Type}{Q:ι->Prop}{r:ι->AV}{W:ι->WT}{pc:List Nat}(hq:GQ P c.gl f args T.h 67 [0,1] Q r (fun x=>(W x).h))(hT:T.wf)(hW:∀ x,Q x->(W x).wf)
  (bf:∀ q ∈ c.gh,q.1 ∈ pc) (Ll:∀ b ∈ pc,jR b) (t:List (Nat×AV)) (ex:List (Nat×Bk)) (n:Nat) (jf:To pc s ⟨t,ex++T.h,n⟩) (hex:∀ q ∈ ex,67<=q.1/\sk jR q.2)
  (hc:Qq none (aC c.gl (⟨t,ex++T.h,n⟩:St).fs xs)/\(aC c.gl (⟨t,ex++T.h,n⟩:St).fs xs).map Qh=args/\ah 67 args/\zM jR t) (hr:∀ x,Q x->Qe 67 (r x)) (hk:∀ x,Q x->XP P c r0 K (St.cd ⟨t,ex++(W x).h,n⟩ d (r x))):Yn P c (.pd d (.call f) xs none) r0 K s:=by
 have hS:jR=vo id [0,1] 67:=by
  funext b;refine propext ⟨fun h b' bL e=>?_,fun h=>?_⟩
  ·show b' ∈ [0,1];have e:b'=b:=e;rcases h with h|h
   ·have:b'=0∨b'=1:=by omega
    simpa using this
   ·omega
  ·by_cases hb:b < 67
   ·have:=h b hb rfl;simp at this;exact .inl af
   ·exact .inr af
 refine Yij (σ:=id) hq bf t ex ⟨by rw[Wo];exact jf,fun b b' _ _ e=>e,WT.as hT,fun b hb=>?_,fun q hq=>⟨fun b hb e=>?_,?_⟩,?_,by rw[Wo];exact hc.1,?_,hc.2.2.1⟩ (fun x hx=>WT.as (hW x hx)) hr fun x hx=>?_
 ·rw[<- hS];exact Ll b hb
 ·have:=(hex q hq).1;have e:b=q.1:=e;omega
 ·rw[<- hS];exact (hex q hq).2
 ·rw[<- hS];exact hc.2.2.2
 ·show some (f,_)=some (f,_);rw[Wo,sm,hc.2.1]
 ·rw[Wo,tH id (fun _=>rfl)];exact hk x hx
theorem Xq5:zM S []=True:=rfl
theorem Xjh (i:Nat)(v:AV)(l:List (Nat×AV)):zM S ((i,v)::l)=(dj S v/\zM S l):=rfl
theorem Xr4 (k:IntKind)(n:Int):dj S (.int k n)=True:=by simp only[dj]
theorem Xkm (b:Bool):dj S (.bool b)=True:=by simp only[dj]
theorem Xp2 (b:List UInt8):dj S (.str b)=True:=by simp only[dj]
def Xi8:dj S .nils=True:=by simp only[dj]
theorem Xpx (b o:Nat):dj S (.ptr b o)=S b:=by simp only[dj]
def Xuq:dj S (.mp b)=S b:=by simp only[dj]
theorem Xuh (es b o n c:Nat):dj S (.sl es b o n c)=S b:=by simp only[dj]
theorem Xt7 (l:List AV):dj S (.isl n l)=dI S l:=by simp only[dj]
theorem Xo5 (l:List AV):dj S (.agg l)=dI S l:=by simp only[dj]
theorem Xq8 (l:List AV):dj S (.aR l)=dI S l:=by simp only[dj]
theorem Xu7 (f:FuncId)(l:List AV):dj S (.cl f l)=dI S l:=by simp only[dj]
theorem Xqq (v:Value):dj S (.lit v)=True:=by simp only[dj]
def Xiz:dI S []=True:=by simp only[dI]
theorem Xb0 (v:AV)(l:List AV):dI S (v::l)=(dj S v/\dI S l):=by simp only[dI]
def Yh0:jR 0=True:=by simp[jR]
def Yfa:jR 1=True:=by simp[jR]
theorem Yhk (h:67<=b):jR b=True:=by simp[jR,h]
attribute [go_sem] Xq5 Xjh Xr4 Xkm Xp2 Xi8 Xpx Xuq Xuh Xt7 Xo5 Xq8 Xu7 Xqq Xiz Xb0 Yh0 Yfa Yhk Yfr Ygm Qwh
def WT.aZ {T:WT}(h:T.wf)(n b:Nat)(hb:67<=b):Qc T.h n b=if b<n then .dead else .free:=by
 have hl:=h.len;rw[WT.bE,aa af,aa af,aa af]
def WT.qC {T:WT}(h:T.wf)(n b:Nat)(hb:67<=b):Qc T.hb n b=if b<n then .dead else .free:=by
 have hl:=h.len;rw[WT.ed,aa af,aa af,aa af]
def Xdf:GS Tryz.prog gl 176 [.agg [.int .i64 t.id,.int .i64 t.due],.ptr 0 0] [(0,.cells [.int .i64 x])] 1 (.bool (t.id==x)) [(0,.cells [.int .i64 x])] 1:=by
 refine Ybw.gs (ap rfl) (by simp[Bk.live]) fun c hN hg=>?_
 conv in aG _ _=>cbv
 obtain ⟨id,due⟩:=t;refine Qa ?_;refine ⟨[],?_⟩;exact Qp
def ru (x:Int):List Tm->Nat->Int
 | [],_=>-1
 | t::l,k=>if t.id=x then k else ru x l (k+1)
def Yfh (hl:l.length<=1000000)(x:Int):GS Tryz.prog gl 181 [.sl 2 0 0 l.length l.length,.cl 176 [.ptr 1 0]]
  [(0,.cells (aX l)),(1,.cells [.int .i64 x])] 2 (.int .i64 (ru x l 0)) [(0,.cells (aX l)),(1,.cells [.int .i64 x])] 2:=by
 refine Xet.gs (ap rfl) (by simp[Bk.live]) fun c hN hg=>?_
 conv in aG _ _=>cbv
 have dN:=Jt l;refine Qa ?_
 refine wT (fun k:Nat=>k≤l.length∧ru x (l.drop k) k=ru x l 0) (fun k=>⟨[(0,.sl 2 0 0 l.length l.length),(1,.cl 176 [.ptr 1 0]),(6,.sl 2 0 0 l.length l.length),(7,.int .i64 l.length),(8,.int .i64 k)],[(0,.cells (aX l)),(1,.cells [.int .i64 x])],2⟩) (fun k=>l.length - k) Xet.mixed 2 hN
  ⟨0,⟨by omega,rfl⟩,[],by exact Qp⟩ fun k hk=>?_
 obtain ⟨hk,cO⟩:=hk;refine Qa ?_;refine Qb ?_ ?_<;>intro h1
 ·have bh:k < l.length:=by omega
  have aL:=F3 l k bh;have ja:l.drop k=l[k]::l.drop (k+1):=List.drop_eq_getElem_cons bh;rw[ja]at cO;rw[ru]at cO;generalize l[k]=t at *
  have hc:=Xdf c.gl t x;refine Qd (An @dN @aL) ?_;refine Zv (ip [1]) hc (An @dN @aL) ?_;refine Qb ?_ ?_<;>intro h2
  ·rw[am (by simpa using h2)]at cO;refine Qa ?_;refine ⟨[],?_⟩;exact Qi @cO
  ·rw[aa (by simpa using h2)]at cO;refine Qa ?_;refine ⟨k+1,⟨by omega,cO⟩,⟨[],?_⟩,by omega⟩;exact Qp
 ·have:k=l.length:=by omega
  subst this;rw[List.drop_length]at cO;have cO:(-1:Int)=ru x l 0:=cO;refine Qa ?_;refine ⟨[],?_⟩;exact Qi @cO
def Xuw (h:k<=l.length):(aX l).drop (k*2)=aX (l.drop k):=by
 have e:aX l=aX (l.take k)++aX (l.drop k):=by rw[<- vS,List.take_append_drop]
 rw[e,List.drop_append_of_le_length (by rw[Jt,length_take];omega),List.drop_of_length_le (by rw[Jt,length_take];omega),nil_append]
def Qwr (h:k<=l.length):(aX l).take (k*2)=aX (l.take k):=by
 have e:aX l=aX (l.take k)++aX (l.drop k):=by rw[<- vS,List.take_append_drop]
 rw[e,List.take_append_of_le_length (by rw[Jt,length_take];omega),take_of_length_le (by rw[Jt,length_take];omega)]
def Yat (h:k<l.length)(t:Tm):(aX l).take (k*2)++[.int .i64 t.id,.int .i64 t.due]++(aX l).drop (k*2+2)=aX (l.set k t):=by
 rw[show k*2+2=(k+1)*2 by omega,Qwr l k af,Xuw l (k+1) af,List.set_eq_take_append_cons_drop,am h,vS];simp[aX]
def Xa3 {x:Int}:∀ (l:List Tm) (k:Nat),ru x l k=-1->∀ t ∈ l,t.id≠x
 | [],_,_,t,ht=>by cases ht
 | a::l,k,h,t,ht=>by
  unfold ru at h;split at h
  ·omega
  ·rcases mem_cons.1 ht with rfl|ht
   ·assumption
   ·exact Xa3 l (k+1) h t ht
def Qxe {x:Int}:∀ (l:List Tm) (k:Nat),ru x l k≠-1->∃ i,i<l.length/\ru x l k=((k+i:Nat):Int)/\(∀ t ∈ l.take i,t.id≠x)/\∃ t,l[i]?=some t/\t.id=x
 | [],_,h=>absurd rfl h
 | a::l,k,h=>by
  unfold ru at h ⊢;split at h
  ·rename_i e;rw[am e];exact ⟨0,by simp,by simp,by simp,a,rfl,e⟩
  ·rename_i e;rw[aa e];obtain ⟨i,h1,h2,h3,t,h4,h5⟩:=Qxe l (k + 1) h;refine ⟨i + 1,by simpa using h1,by rw[h2];omega,fun y hy=>?_,t,by simpa using h4,h5⟩;rw[List.take_succ_cons]at hy;rcases mem_cons.1 hy with rfl|hy
   ·exact e
   ·exact h3 y hy
def Yax:Ce Tryz.prog 144 2:=Oe (by kernel_rfl)
def Xx (x:Int)(l:List Tm):List Tm:=l.filter fun t=>!(t.id==x)
def Xeg (hl:l.length<=1000000)(x:Int):GS Tryz.prog gl 177 [.sl 2 0 0 l.length l.length,.cl 176 [.ptr 1 0]]
  [(0,.cells (aX l)),(1,.cells [.int .i64 x])] 2 (.sl 2 0 0 (Xx x l).length l.length) [(0,.cells (aX (Xx x l))),(1,.cells [.int .i64 x])] 2:=by
 refine Xf4.gs (ap rfl) (by simp[Bk.live]) fun c hN hg=>?_
 conv in aG _ _=>cbv
 have dN:=Jt l;have hi:=Yfh c.gl l hl x;refine Qa ?_
 ((first|refine Kk (ins:=[0,1]) hi ?_ ?_|refine Jc (ins:=[0,1]) hi ?_ ?_|refine Jb (ins:=[0,1]) hi ?_ ?_|refine Zc (ins:=[0,1]) hi ?_ ?_)<;>(have aQ:=@dN;refine XG ?_;clear aQ;(try first|exact rfl|exact True.intro);((try with_reducible and_intros);all_goals try first|refine zm ?_|exact CL)))
 ·decide
 by_cases br:ru x l 0=-1
 ·have ft:Xx x l=l:=filter_eq_self.2 fun t ht=>by simpa using Xa3 l 0 br t ht
  rw[ft];refine Qb ?_ ?_<;>intro h1
  ·refine Qa ?_;refine ⟨[],?_⟩;exact Qp
  ·exact absurd br (by simpa using h1)
 ·obtain ⟨i0,q1,q2,q3,t0,q4,q5⟩:=Qxe l 0 br;rw[Nat.zero_add]at q2;rw[q2];refine Qb ?_ ?_<;>intro h1
  ·omega
  refine Qa ?_
  refine wT (fun y:Nat × Nat × List Tm=>y.1 < y.2.1∧y.2.1≤l.length∧y.2.2.length=l.length∧y.2.2.take y.1=Xx x (l.take y.2.1)∧y.2.2.drop y.2.1=l.drop y.2.1)
   (fun y=>⟨[(0,.sl 2 0 0 l.length l.length),(1,.cl 176 [.ptr 1 0]),(5,.int .i64 y.1),(6,.int .i64 y.2.1)],[(0,.cells (aX y.2.2)),(1,.cells [.int .i64 x])],2⟩) (fun y=>l.length-y.2.1) Xf4.mixed 2 hN
   ⟨(i0,i0+1,l),⟨by simp,by show i0+1<=l.length;omega,rfl,?_,rfl⟩,[],by exact Qp⟩ fun y hy=>?_
  ·have:l.take (i0 + 1)=l.take i0++[t0]:=by rw[take_succ,q4];rfl
   show l.take i0=Xx x (l.take (i0+1));rw[this];unfold Xx;rw[filter_append,filter_eq_self.2 fun t ht=>by simpa using q3 t ht];simp[q5]
  obtain ⟨i,j,M⟩:=y;obtain ⟨fX,ij,hM,bX,oF⟩:=hy;dsimp only at fX ij hM bX oF ⊢;have vV:=Jt M;refine Qa ?_;refine Qb ?_ ?_<;>intro h2
  ·have oc:j < l.length:=by omega
   have F5:j<M.length:=by omega
   have aL:=F3 M j F5;have Rn:M[j]=l[j]:=by
    have e1:(M.drop j)[0]?=M[j]?:=by simp
    have e2:(l.drop j)[0]?=l[j]?:=by simp
    rw[oF,e2]at e1;simpa [oc,F5] using e1.symm
   have ec:Xx x (l.take (j+1))=if M[j].id=x then Xx x (l.take j) else Xx x (l.take j)++[M[j]]:=by
    have:l.take (j+1)=l.take j++[M[j]]:=by rw[take_succ,Rn];simp[oc]
    rw[this];unfold Xx;rw[filter_append];split<;>simp_all
   have ja:M.drop (j+1)=l.drop (j+1):=by
    have:=congrArg (List.drop 1) oF;simpa [List.drop_drop,Nat.add_comm] using this
   have bA:Yj (aX M) (i*2) [.int .i64 M[j].id,.int .i64 M[j].due]=aX (M.set i M[j]):=Yat M i af M[j];have fx:((M.set i M[j]).take (i+1))=M.take i++[M[j]]:=by
    rw[take_succ,List.take_set_of_le (Nat.le_refl i)];simp[show i<M.length by omega]
   have AA:(M.set i M[j]).drop (j+1)=M.drop (j+1):=by rw[List.drop_set_of_lt af]
   have iW:(M.set i M[j]).length=l.length:=by simp[hM]
   have htS:=Jt (M.set i M[j]);generalize M[j]=t at *
   have hc:=Xdf c.gl t x;refine Qd (An @vV @aL) ?_;refine Zv (ip [1]) hc (An @vV @aL) ?_;refine Qb ?_ ?_<;>intro h3
   ·rw[aa h3]at ec;refine Qd (An @vV @bA) ?_;refine ⟨(i+1,j+1,M.set i t),⟨by dsimp only;omega,by dsimp only;omega,iW,by rw[fx,bX,ec],by rw[AA,ja]⟩,⟨[],?_⟩,by dsimp only;omega⟩;exact Qp
   ·rw[am (by simpa using h3)]at ec;refine Qd @vV ?_;refine ⟨(i,j+1,M),⟨by dsimp only;omega,by dsimp only;omega,hM,by rw[bX,ec],ja⟩,⟨[],?_⟩,by dsimp only;omega⟩;exact Qp
  ·obtain rfl:j=l.length:=by omega
   rw[take_length]at bX;have fA:(Xx x l).length=i:=by rw[<- bX,length_take];omega
   have jf:=Qwr M i af;rw[bX]at jf;refine Qa ?_
   (refine IS Yax ?_;(have aQ:=@jf;refine XG ?_;clear aQ;((try with_reducible and_intros);all_goals try first|refine zm ?_|exact CL)))
   refine Qa ?_;refine ⟨[],?_⟩;exact Qi @fA
def WT.lay (T:WT)(t:Tm):WT:=T.put (Zt T.now t.due) (T.row (Zt T.now t.due)++[t])
def WT.oG {T:WT}(h:T.wf)(t:Tm):(T.lay t).wf:=WT.cI h _ _
def Ux {now due k:Nat}(h:Zt now due=CX now due (4-k) k)(hk:k<4):Zt now due=if due/16 ^ k<now/16 ^ k+16 then k*16+due/16 ^ k%16 else CX now due (4-(k+1)) (k+1):=by
 rw[h,show 4-k=(4-(k+1))+1 by omega];rfl
def vW (a b:Nat):Int.tdiv (a:Int) (b:Int)=((a/b:Nat):Int):=by rw[Int.tdiv_eq_ediv_of_nonneg (by omega)];rfl
def AB (a b:Nat):Int.tmod (a:Int) (b:Int)=((a%b:Nat):Int):=by rw[Int.tmod_eq_emod_of_nonneg (by omega)];rfl
set_option maxRecDepth 20000 in
def Lm (T:WT)(hT:T.wf)(t:Tm)(hn:T.now<=1099511627776)(hd:t.due<=1099511627776)(hlen:(T.row (Zt T.now t.due)).length<=1000000) :
  GQ Tryz.prog gl 165 [.ptr 0 0,.agg [.int .i64 t.id,.int .i64 t.due]] T.h 67 [0,1] (fun _:Unit=>True) (fun _=>.aR []) (fun _=>(T.lay t).h):=by
 refine Xf1.gq (ap rfl) (fun q hq=>Xb (((WT.as hT).mem q hq).2)) aw fun c bf hg=>?_
 conv in aG _ _=>cbv
 have aZ:=fun n b hb=>WT.iB hT n (b:=b) hb;have h0:=WT.iI T;have hl:=WT.len hT;obtain ⟨id,due⟩:=t;dsimp only at hd hlen ⊢;have pC:T.h=(0,.cells T.cells)::(1,T.mb)::Kf T.rows 0:=rfl;rw[pC];refine Qd @aZ ?_
 refine Yk (fun k:Nat=>k≤4∧Zt T.now due=CX T.now due (4 - k) k) (fun k=>⟨[(0,.ptr 0 0),(3,.ptr 67 0),(4,.int .i64 ((16 ^ k:Nat):Int)),(7,.int .i64 k)],(67,.cells [.int .i64 id,.int .i64 due])::T.h,68⟩) (fun k=>4 - k) Xf1.mixed [0,1] bf
  ⟨0,⟨by omega,rfl⟩,To.fN (by exact Qp) fun _=>rfl⟩ fun k hk=>?_
 obtain ⟨hk4,iW⟩:=hk;obtain rfl|rfl|rfl|rfl|rfl:k=0\/k=1\/k=2\/k=3\/k=4:=by omega
 ·have pD:Int.tdiv (due:Int) 1=((due / 1:Nat):Int):=vW due 1;have ng:Int.tdiv (T.now:Int) 1=((T.now / 1:Nat):Int):=vW T.now 1;have hp:((16 ^ 0:Nat):Int)=1:=rfl;have fe:((16 ^ 1:Nat):Int)=16:=rfl;have hm:Int.tmod ((due / 1:Nat):Int) 16=((due / 1 % 16:Nat):Int):=AB _ 16;rw[pC,hp];refine Qd (An @aZ @h0) ?_;refine Yc ?_;refine Qd (An @aZ (An @h0 (An @pD @ng))) ?_;refine Qb ?_ ?_<;>intro h2
  ·refine Qd (An @aZ (An @h0 (An @pD @hm))) ?_;have iZ:Zt T.now due=due / 1 % 16:=by rw[Ux iW af,am (by simp only[Nat.reducePow];omega)];simp only[Nat.zero_mul,Nat.zero_add,Nat.reducePow]
   have sN:due/1%16<16:=Nat.mod_lt _ af;rw[iZ]at hlen;have eO:T.lay ⟨id,due⟩=T.put (due/1%16) (T.row (due/1%16)++[⟨id,due⟩]):=by unfold WT.lay;rw[iZ]
   rw[eO];generalize due/1%16=sp at *
   have aY:=WT.iJ hT (i:=sp) af;have da:=fun n=>WT.iK hT (i:=sp) af n;rw[show sp+1=1+sp by omega]at aY;have dN:=Jt (T.row (sp));have eM:((68:Nat)==2+sp)=false:=beq_eq_false_iff_ne.2 af;have hb2:((67:Nat)==2+sp)=false:=beq_eq_false_iff_ne.2 af;have j3:((0:Nat)==2+sp)=false:=beq_eq_false_iff_ne.2 af;have pE:((1:Nat)==2+sp)=false:=beq_eq_false_iff_ne.2 af;have pF:((2+sp:Nat)==0)=false:=beq_eq_false_iff_ne.2 af;refine Ym (An @aZ @aY) ?_
   ((first|apply wY|apply wZ|apply w3|apply w5|apply w7|apply w8);(have aQ:=@aZ;have bw:=@aY;have bQ:=@eM;have cy:=@hb2;have dh:=@j3;have ff:=@pE;have gu:=@da;have nk:=@dN;have qX:=@pF;refine XG ?_;clear aQ bw bQ cy dh ff gu nk qX;((try with_reducible and_intros);all_goals try first|refine zm ?_|exact CL)))
   ·simp[Ud,Uo,cU,eM,hb2,j3,pE,pF]
    (repeat' refine And.intro ?_ ?_)<;>first|decide|(left;omega)
   ·refine Qa ?_;refine ⟨(),To.put (ex:=[]) hT (i:=sp) (N:=69) af af af (fun b hb=>?_) af ?_ ?_ ?_ (fun j hj cb=>?_) ?_ trivial (fun q hq=>by cases hq)⟩
    ·simp at hb;omega
    ·rw[Qf,am rfl,show sp+1=1+sp by omega];simp
    ·(repeat rw[Qf,aa af]);rw[Qf,am rfl]
    ·rw[Qf,aa af,Qf,am rfl,vS];rfl
    ·(repeat rw[Qf,aa af]);exact WT.iK hT hj 70
    ·simp[Qr,Qe,ah,look,aA,ay]
  ·refine tO (An @aZ @h0) ?_;refine ⟨1,⟨by omega,?_⟩,To.fN (by exact Qi @fe) fun _=>rfl,by omega⟩;rw[Ux iW af,aa (by simp only[Nat.reducePow];omega)]
 ·have pD:Int.tdiv (due:Int) 16=((due / 16:Nat):Int):=vW due 16;have ng:Int.tdiv (T.now:Int) 16=((T.now / 16:Nat):Int):=vW T.now 16;have hp:((16 ^ 1:Nat):Int)=16:=rfl;have fe:((16 ^ 2:Nat):Int)=256:=rfl;have hm:Int.tmod ((due / 16:Nat):Int) 16=((due / 16 % 16:Nat):Int):=AB _ 16;rw[pC,hp];refine Qd (An @aZ @h0) ?_;refine Yc ?_;refine Qd (An @aZ (An @h0 (An @pD @ng))) ?_;refine Qb ?_ ?_<;>intro h2
  ·refine Qd (An @aZ (An @h0 (An @pD @hm))) ?_;have iZ:Zt T.now due=16 + due / 16 % 16:=by rw[Ux iW af,am (by simp only[Nat.reducePow];omega)]
   have sN:due/16%16<16:=Nat.mod_lt _ af;rw[iZ]at hlen;have eO:T.lay ⟨id,due⟩=T.put (16+due/16%16) (T.row (16+due/16%16)++[⟨id,due⟩]):=by unfold WT.lay;rw[iZ]
   rw[eO];generalize due/16%16=sp at *
   have aY:=WT.iJ hT (i:=16+sp) af;have da:=fun n=>WT.iK hT (i:=16+sp) af n;rw[show 16+sp+1=17+sp by omega,show 2+(16+sp)=18+sp by omega]at aY;simp only[show 2+(16+sp)=18+sp by omega]at da;have dN:=Jt (T.row (16+sp));have eM:((68:Nat)==18+sp)=false:=beq_eq_false_iff_ne.2 af;have hb2:((67:Nat)==18+sp)=false:=beq_eq_false_iff_ne.2 af;have j3:((0:Nat)==18+sp)=false:=beq_eq_false_iff_ne.2 af;have pE:((1:Nat)==18+sp)=false:=beq_eq_false_iff_ne.2 af;have pF:((18+sp:Nat)==0)=false:=beq_eq_false_iff_ne.2 af;refine Ym (An @aZ @aY) ?_
   ((first|apply wY|apply wZ|apply w3|apply w5|apply w7|apply w8);(have aQ:=@aZ;have bw:=@aY;have bQ:=@eM;have cy:=@hb2;have dh:=@j3;have ff:=@pE;have gu:=@da;have nk:=@dN;have qX:=@pF;refine XG ?_;clear aQ bw bQ cy dh ff gu nk qX;((try with_reducible and_intros);all_goals try first|refine zm ?_|exact CL)))
   ·simp[Ud,Uo,cU,eM,hb2,j3,pE,pF]
    (repeat' refine And.intro ?_ ?_)<;>first|decide|(left;omega)
   ·refine Qa ?_;refine ⟨(),To.put (ex:=[]) hT (i:=16 + sp) (N:=69) af af af (fun b hb=>?_) af ?_ ?_ ?_ (fun j hj cb=>?_) ?_ trivial (fun q hq=>by cases hq)⟩
    ·simp at hb;omega
    ·rw[Qf,am rfl,show 16+sp+1=17+sp by omega];simp
    ·(repeat rw[Qf,aa af]);rw[Qf,am rfl]
    ·rw[Qf,aa af,Qf,am rfl,vS];rfl
    ·(repeat rw[Qf,aa af]);exact WT.iK hT hj 70
    ·simp[Qr,Qe,ah,look,aA,ay]
  ·refine tO (An @aZ @h0) ?_;refine ⟨2,⟨by omega,?_⟩,To.fN (by exact Qi @fe) fun _=>rfl,by omega⟩;rw[Ux iW af,aa (by simp only[Nat.reducePow];omega)]
 ·have pD:Int.tdiv (due:Int) 256=((due / 256:Nat):Int):=vW due 256;have ng:Int.tdiv (T.now:Int) 256=((T.now / 256:Nat):Int):=vW T.now 256;have hp:((16 ^ 2:Nat):Int)=256:=rfl;have fe:((16 ^ 3:Nat):Int)=4096:=rfl;have hm:Int.tmod ((due / 256:Nat):Int) 16=((due / 256 % 16:Nat):Int):=AB _ 16;rw[pC,hp];refine Qd (An @aZ @h0) ?_;refine Yc ?_;refine Qd (An @aZ (An @h0 (An @pD @ng))) ?_;refine Qb ?_ ?_<;>intro h2
  ·refine Qd (An @aZ (An @h0 (An @pD @hm))) ?_;have iZ:Zt T.now due=32 + due / 256 % 16:=by rw[Ux iW af,am (by simp only[Nat.reducePow];omega)]
   have sN:due/256%16<16:=Nat.mod_lt _ af;rw[iZ]at hlen;have eO:T.lay ⟨id,due⟩=T.put (32+due/256%16) (T.row (32+due/256%16)++[⟨id,due⟩]):=by unfold WT.lay;rw[iZ]
   rw[eO];generalize due/256%16=sp at *
   have aY:=WT.iJ hT (i:=32+sp) af;have da:=fun n=>WT.iK hT (i:=32+sp) af n;rw[show 32+sp+1=33+sp by omega,show 2+(32+sp)=34+sp by omega]at aY;simp only[show 2+(32+sp)=34+sp by omega]at da;have dN:=Jt (T.row (32+sp));have eM:((68:Nat)==34+sp)=false:=beq_eq_false_iff_ne.2 af;have hb2:((67:Nat)==34+sp)=false:=beq_eq_false_iff_ne.2 af;have j3:((0:Nat)==34+sp)=false:=beq_eq_false_iff_ne.2 af;have pE:((1:Nat)==34+sp)=false:=beq_eq_false_iff_ne.2 af;have pF:((34+sp:Nat)==0)=false:=beq_eq_false_iff_ne.2 af;refine Ym (An @aZ @aY) ?_
   ((first|apply wY|apply wZ|apply w3|apply w5|apply w7|apply w8);(have aQ:=@aZ;have bw:=@aY;have bQ:=@eM;have cy:=@hb2;have dh:=@j3;have ff:=@pE;have gu:=@da;have nk:=@dN;have qX:=@pF;refine XG ?_;clear aQ bw bQ cy dh ff gu nk qX;((try with_reducible and_intros);all_goals try first|refine zm ?_|exact CL)))
   ·simp[Ud,Uo,cU,eM,hb2,j3,pE,pF]
    (repeat' refine And.intro ?_ ?_)<;>first|decide|(left;omega)
   ·refine Qa ?_;refine ⟨(),To.put (ex:=[]) hT (i:=32 + sp) (N:=69) af af af (fun b hb=>?_) af ?_ ?_ ?_ (fun j hj cb=>?_) ?_ trivial (fun q hq=>by cases hq)⟩
    ·simp at hb;omega
    ·rw[Qf,am rfl,show 32+sp+1=33+sp by omega];simp
    ·(repeat rw[Qf,aa af]);rw[Qf,am rfl]
    ·rw[Qf,aa af,Qf,am rfl,vS];rfl
    ·(repeat rw[Qf,aa af]);exact WT.iK hT hj 70
    ·simp[Qr,Qe,ah,look,aA,ay]
  ·refine tO (An @aZ @h0) ?_;refine ⟨3,⟨by omega,?_⟩,To.fN (by exact Qi @fe) fun _=>rfl,by omega⟩;rw[Ux iW af,aa (by simp only[Nat.reducePow];omega)]
 ·have pD:Int.tdiv (due:Int) 4096=((due / 4096:Nat):Int):=vW due 4096;have ng:Int.tdiv (T.now:Int) 4096=((T.now / 4096:Nat):Int):=vW T.now 4096;have hp:((16 ^ 3:Nat):Int)=4096:=rfl;have fe:((16 ^ 4:Nat):Int)=65536:=rfl;have hm:Int.tmod ((due / 4096:Nat):Int) 16=((due / 4096 % 16:Nat):Int):=AB _ 16;rw[pC,hp];refine Qd (An @aZ @h0) ?_;refine Yc ?_;refine Qd (An @aZ (An @h0 (An @pD @ng))) ?_;refine Qb ?_ ?_<;>intro h2
  ·refine Qd (An @aZ (An @h0 (An @pD @hm))) ?_;have iZ:Zt T.now due=48 + due / 4096 % 16:=by rw[Ux iW af,am (by simp only[Nat.reducePow];omega)]
   have sN:due/4096%16<16:=Nat.mod_lt _ af;rw[iZ]at hlen;have eO:T.lay ⟨id,due⟩=T.put (48+due/4096%16) (T.row (48+due/4096%16)++[⟨id,due⟩]):=by unfold WT.lay;rw[iZ]
   rw[eO];generalize due/4096%16=sp at *
   have aY:=WT.iJ hT (i:=48+sp) af;have da:=fun n=>WT.iK hT (i:=48+sp) af n;rw[show 48+sp+1=49+sp by omega,show 2+(48+sp)=50+sp by omega]at aY;simp only[show 2+(48+sp)=50+sp by omega]at da;have dN:=Jt (T.row (48+sp));have eM:((68:Nat)==50+sp)=false:=beq_eq_false_iff_ne.2 af;have hb2:((67:Nat)==50+sp)=false:=beq_eq_false_iff_ne.2 af;have j3:((0:Nat)==50+sp)=false:=beq_eq_false_iff_ne.2 af;have pE:((1:Nat)==50+sp)=false:=beq_eq_false_iff_ne.2 af;have pF:((50+sp:Nat)==0)=false:=beq_eq_false_iff_ne.2 af;refine Ym (An @aZ @aY) ?_
   ((first|apply wY|apply wZ|apply w3|apply w5|apply w7|apply w8);(have aQ:=@aZ;have bw:=@aY;have bQ:=@eM;have cy:=@hb2;have dh:=@j3;have ff:=@pE;have gu:=@da;have nk:=@dN;have qX:=@pF;refine XG ?_;clear aQ bw bQ cy dh ff gu nk qX;((try with_reducible and_intros);all_goals try first|refine zm ?_|exact CL)))
   ·simp[Ud,Uo,cU,eM,hb2,j3,pE,pF]
    (repeat' refine And.intro ?_ ?_)<;>first|decide|(left;omega)
   ·refine Qa ?_;refine ⟨(),To.put (ex:=[]) hT (i:=48 + sp) (N:=69) af af af (fun b hb=>?_) af ?_ ?_ ?_ (fun j hj cb=>?_) ?_ trivial (fun q hq=>by cases hq)⟩
    ·simp at hb;omega
    ·rw[Qf,am rfl,show 48+sp+1=49+sp by omega];simp
    ·(repeat rw[Qf,aa af]);rw[Qf,am rfl]
    ·rw[Qf,aa af,Qf,am rfl,vS];rfl
    ·(repeat rw[Qf,aa af]);exact WT.iK hT hj 70
    ·simp[Qr,Qe,ah,look,aA,ay]
  ·refine tO (An @aZ @h0) ?_;refine ⟨4,⟨by omega,?_⟩,To.fN (by exact Qi @fe) fun _=>rfl,by omega⟩;rw[Ux iW af,aa (by simp only[Nat.reducePow];omega)]
 ·rw[pC];refine Qd (An @aZ @h0) ?_;refine Yc ?_;have iZ:Zt T.now due=64:=by rw[iW];rfl
  rw[iZ]at hlen;have eO:T.lay ⟨id,due⟩=T.put 64 (T.row 64++[⟨id,due⟩]):=by unfold WT.lay;rw[iZ]
  rw[eO];have aY:=WT.iJ hT (i:=64) af;have da:=fun n=>WT.iK hT (i:=64) af n;simp only[Nat.reduceAdd]at aY da;have dN:=Jt (T.row 64);refine Qd (An @aZ @aY) ?_;refine Ym (An @aZ @aY) ?_;refine Ym (An @aZ (An @aY (An @da @dN))) ?_;refine ⟨(),To.put (ex:=[]) hT (i:=64) (N:=69) af af af (fun b hb=>?_) af ?_ ?_ ?_ (fun j hj cb=>?_) ?_ trivial (fun q hq=>by cases hq)⟩
  ·simp at hb;omega
  ·rw[Qf,am rfl];simp
  ·(repeat rw[Qf,aa af]);rw[Qf,am rfl]
  ·rw[Qf,aa af,Qf,am rfl,vS];rfl
  ·(repeat rw[Qf,aa af]);exact WT.iK hT hj 70
  ·simp[Qr,Qe,ah,look,aA,ay]
def bu (D:List Tm):List (AV×AV):=D.map fun t=>(.int .i64 t.id,.int .i64 t.due)
def sO (D:List Tm):(bu D).length=D.length:=by simp[bu]
def C5 (D:List Tm):Wt false [.int .i64] (bu D):=fun q hq=>by
 obtain ⟨t,_,rfl⟩:=mem_map.1 hq;rfl
theorem sP:Zo false [.int .i64] (.int .i64 x):=rfl
def Ln (D:List Tm)(x:Int):fu (bu D) (.int .i64 x)=D.findIdx? fun t=>t.id==x:=by
 unfold fu bu
 induction D with
 | nil=>rfl
 | cons t D ih =>
  simp only[map_cons,findIdx?_cons];rw[ih];by_cases h:t.id=x
  ·simp[h]
  ·simp[h]
def km (D:List Tm)(x:Int):Bool:=D.any fun t=>t.id==x
def Yev (D:List Tm)(x:Int):Nat:=match D.find? (fun t=>t.id==x) with
 | some t=>t.due
 | none=>0
def Lp (D:List Tm)(x:Int):Cg (bu D) (.int .i64 x)=km D x:=by
 unfold Cg km;rw[Ln]
 induction D with
 | nil=>rfl
 | cons t D ih =>
  rw[findIdx?_cons,List.any_cons];cases h:t.id==x with
  | true=>simp
  | false=>simpa using ih
def Lq (D:List Tm)(x:Int):Kg (bu D) (.int .i64 x) (.int .i64 0)=.int .i64 (Yev D x):=by
 unfold Kg Yev;rw[Ln]
 induction D with
 | nil=>rfl
 | cons t D ih =>
  rw[findIdx?_cons,List.find?_cons];cases h:t.id==x with
  | true=>simp[bu]
  | false =>
   simp only[cond_false,Bool.false_eq_true,if_false];rw[<- ih];cases D.findIdx? fun t=>t.id==x with
   | none=>rfl
   | some i=>simp[bu]
def Lr {x:Int}(h:∀ t ∈ D,t.id≠x):Xx x D=D:=filter_eq_self.2 fun t ht=>by simpa using h t ht
def Xal:∀ (D:List Tm) (x:Int),D.Pairwise (fun a b=>a.id≠b.id)->zB (bu D) (.int .i64 x)=bu (Xx x D):=fun D x hd=>by
 have key:∀ D:List Tm,D.Pairwise (fun a b=>a.id≠b.id)->(match D.findIdx? (fun t=>t.id==x) with|some i=>D.eraseIdx i|none=>D)=Xx x D:=fun D=>by
  induction D with
  | nil=>intro _;rfl
  | cons t D ih =>
   intro hd;have h2:=ih (List.Pairwise.of_cons hd);rw[findIdx?_cons];unfold Xx;rw[List.filter_cons];cases h:t.id==x with
   | true =>
    have hx:t.id=x:=by simpa using h
    have:=Lr (x:=x) fun y hy e=>List.rel_of_pairwise_cons hd hy (hx.trans e.symm);unfold Xx at this;simp[this]
   | false =>
    unfold Xx at h2;simp only[Bool.not_false,if_true,Bool.false_eq_true,if_false];rw[<- h2];cases D.findIdx? fun t=>t.id==x<;>simp
 rw[<- key D hd];unfold zB;rw[Ln];cases D.findIdx? fun t=>t.id==x with
 | none=>rfl
 | some i =>
  have em:∀ (l:List Tm) (i:Nat),(bu l).eraseIdx i=bu (l.eraseIdx i):=fun l=>by
   induction l with
   | nil=>intro i;rfl
   | cons t l ih =>
    intro i;cases i with
    | zero=>rfl
    | succ i =>
     have:=ih i;simp only[bu,map_cons,List.eraseIdx_cons_succ]at this ⊢;rw[this]
  exact em D i
def Xve {x:Int}(h:∀ t ∈ D,t.id≠x)(n:Nat):Jy (bu D) (.int .i64 x) (.int .i64 n)=bu (D++[⟨x,n⟩]):=by
 unfold Jy;rw[Ln,List.findIdx?_eq_none_iff.2 fun t ht=>by simpa using h t ht];simp[bu]
def oH (D:List Tm):∀ q ∈ bu D,Qe n q.1/\Qe n q.2:=fun q hq=>by
 obtain ⟨t,_,rfl⟩:=mem_map.1 hq;simp[Qe]
def vX {T:WT}  {dn:Bool}(hl:T.rows.length=65)(h:T.mb=.az (bu D) dn):T.wf:=⟨hl,by rw[h];exact oH 2 D⟩
def WT.upto (T:WT)(x:Int)(n:Nat):WT:={ T with rows:=(T.rows.take n).map (Xx x)++T.rows.drop n }
def WT.lb {T:WT}(h:T.wf)(x:Int)(n:Nat):(T.upto x n).wf:=⟨by
 have:=h.len;simp[WT.upto];omega,h.mb⟩
def WT.gR {T:WT}  (n i:Nat):(T.upto x n).row i=if i<n then Xx x (T.row i) else T.row i:=by
 unfold WT.row WT.upto;simp only[List.getD,List.getElem?_append,List.length_map,length_take];by_cases h1:i<n
 ·rw[am h1];by_cases h2:i < T.rows.length
  ·rw[am af,List.getElem?_map,List.getElem?_take_of_lt h1,List.getElem?_eq_getElem h2];rfl
  ·rw[aa af,getElem?_drop,getElem?_eq_none af,getElem?_eq_none af];rfl
 ·rw[aa h1];by_cases h2:i < T.rows.length
  ·rw[aa af,getElem?_drop];congr 2;omega
  ·rw[aa af,getElem?_drop,getElem?_eq_none af,getElem?_eq_none af]
def Xvh {l l':List (List Tm)}(hl:l.length=l'.length)(h:∀ j,l.getD j []=l'.getD j []):l=l':=by
 refine List.ext_getElem hl fun j h1 h2=>?_;have:=h j;simpa [List.getD,h1,h2] using this
def WT.kn {T:WT}(h:T.wf)(x:Int){n:Nat}(hn:n<65):T.upto x (n+1)=(T.upto x n).put n (Xx x (T.row n)):=by
 have hl:=h.len;have e:(T.upto x (n+1)).rows=((T.upto x n).put n (Xx x (T.row n))).rows:=by
  refine Xvh (by simp[WT.upto,WT.put];omega) fun j=>?_;have h1:=WT.gR (T:=T) x (n+1) j;have h2:=WT.gQ (WT.lb h x n) hn (Xx x (T.row n)) j;rw[WT.gR]at h2;unfold WT.row at h1 h2 ⊢;rw[h1,h2];by_cases e:j=n
  ·subst e;rw[am af,am rfl]
  ·rw[aa e];by_cases e2:j < n
   ·rw[am e2,am af]
   ·rw[aa e2,aa af]
 show ({ T with rows:=(T.upto x (n+1)).rows }:WT)={ T with rows:=((T.upto x n).put n (Xx x (T.row n))).rows }
 rw[e]
def WT.sQ {T:WT}(h:T.wf)(x:Int):T.upto x 65={ T with rows:=T.rows.map (Xx x) }:=by
 have hl:=h.len;unfold WT.upto;rw[take_of_length_le af,List.drop_of_length_le af,append_nil]
def WT.mO {T:WT}(h:T.wf)  (hi:i<65)(l:List Tm)(n b:Nat):Qc (T.put i l).h n b=if 0=b then .cells (T.cells.set (i+1) (.sl 2 (2+i) 0 l.length l.length)) else if 2+i=b then .cells (aX l) else Qc T.h n b:=by
 have hl:=h.len;rw[WT.bE,WT.bE,WT.Rh h hi];by_cases h0:0=b
 ·rw[am h0,am h0]
 rw[aa h0,aa h0];by_cases h1:1=b
 ·rw[am h1,aa af,aa h0,am h1];rfl
 rw[aa h1];have hlen:(T.put i l).rows.length=T.rows.length:=by simp[WT.put]
 rw[hlen];by_cases h2:2+i=b
 ·rw[am h2,am af,WT.gQ h hi,am af]
 ·rw[aa h2,aa h0,aa h1];by_cases h3:2≤b∧b < 2 + T.rows.length
  ·rw[am h3,am h3,WT.gQ h hi,aa af]
  ·rw[aa h3,aa h3]
set_option maxRecDepth 20000 in
def Xid (T:WT)(D:List Tm)(dn:Bool)(hlen:T.rows.length=65)(eG:T.mb=.az (bu D) dn)(hd:D.Pairwise fun a b=>a.id≠b.id)(fH:∀ i,(T.row i).length<=1000000)(x:Int)(hx:km D x=true) :
  GQ Tryz.prog gl 164 [.ptr 0 0,.int .i64 x] T.h 67 [0,1] (fun _:Unit=>True) (fun _=>.int .i64 0) (fun _=>{ T with rows:=T.rows.map (Xx x),mb:=.az (bu (Xx x D)) false }.h):=by
 have hT:=vX hlen eG;refine Li.gq (ap rfl) (fun q hq=>Xb (((WT.as hT).mem q hq).2)) aw fun c bf hg=>?_
 conv in aG _ _=>cbv
 have aZ:=fun n b hb=>WT.iB hT n (b:=b) hb;have h0:=WT.iI T;have lN:=WT.eR hT;have hl:=WT.len hT;have pC:T.h=(0,.cells T.cells)::(1,.az (bu D) dn)::Kf T.rows 0:=by rw[<- eG];rfl
 have ei:=C5 D;have eY:=sP x;have AD:=Lp D x;have fJ:=Lq D x;have AE:=Xal D x hd;rw[pC];refine Qd @aZ ?_;refine Yc ?_;refine Qd (An @aZ @lN) ?_;refine Up sL (An @aZ (An @ei (An @eY (An @fJ (An @AD @hx))))) ?_;refine Yc ?_;refine Qd (An @aZ @lN) ?_;refine OD sL (An @aZ (An @ei (An @eY @AE))) ?_;refine Qa ?_;have cQ:WT.wf { T with mb:=.az (bu (Xx x D)) false }:=⟨hlen,oH 2 _⟩
 have qD:∀ i,(WT.row { T with mb:=.az (bu (Xx x D)) false } i).length<=1000000:=fH;generalize F6:({ T with mb:=.az (bu (Xx x D)) false }:WT)=T1 at cQ qD
 refine Yk (fun i:Nat=>i≤4) (fun i=>⟨[(0,.ptr 0 0),(7,.cl 176 [.ptr 67 0]),(29,.int .i64 i)],(67,.cells [.int .i64 x])::(T1.upto x (16 * i)).h,68⟩) (fun i=>4 - i) Li.mixed [0,1] bf
  ⟨0,by omega,To.fN (by exact Qp) fun b=>?_⟩ fun i hi=>?_
 ·have e:T1.upto x (16 * 0)=T1:=by simp[WT.upto]
  show Qc ((67,.cells [.int .i64 x])::(T1.upto x (16*0)).h) 68 b=_;rw[e,<- F6];show Qc ((67,.cells [.int .i64 x])::(0,.cells T.cells)::(1,.az (bu (Xx x D)) false)::Kf T.rows 0) 68 b=_;simp only[Qf]
  (repeat' split)<;>first|rfl|omega
 refine Qa ?_;refine Qb ?_ ?_<;>intro h3
 ·refine Qa ?_
  refine Yk (fun k:Nat=>k≤16) (fun k=>⟨[(0,.ptr 0 0),(7,.cl 176 [.ptr 67 0]),(8,.int .i64 i),(29,.int .i64 i),(32,.int .i64 k)],(67,.cells [.int .i64 x])::(T1.upto x (16 * i + k)).h,68⟩) (fun k=>16 - k) Li.mixed [0,1] bf
   ⟨0,by omega,To.fN (by exact Qp) fun b=>rfl⟩ fun k hk=>?_
  refine Qa ?_;refine Qb ?_ ?_<;>intro h4
  ·have iL:16 * i + k < 65:=by omega
   have pG:=WT.lb cQ x (16*i+k);have dW:=WT.kn cQ x iL;have mP:=WT.gR (T:=T1) x (16*i+k) (16*i+k);rw[aa af]at mP;have fC:=(Xeg c.gl (T1.row (16*i+k)) (qD _) x).wk (Wk.cap _ _ _ _ _);have dN:=Jt (T1.row (16*i+k));generalize hTe:T1.upto x (16*i+k)=Tn at *
   have aY:=WT.iJ pG iL;have da:=fun n=>WT.iK pG iL n;rw[mP]at aY da;have vl:=fun n b hb=>WT.iB pG n (b:=b) hb;have hl2:=WT.len pG;have sR:Tn.h=(0,.cells Tn.cells)::(1,Tn.mb)::Kf Tn.rows 0:=rfl;generalize Du:T1.row (16*i+k)=r at *
   rw[sR];rw[show 16*i+k+1=1+i*16+k by omega]at aY;generalize ik:2+(16*i+k)=nm at aY da;have eM:(67==nm)=false:=beq_eq_false_iff_ne.2 af;have hb2:(0==nm)=false:=beq_eq_false_iff_ne.2 af;have j3:(1==nm)=false:=beq_eq_false_iff_ne.2 af;have pE:(nm==67)=false:=beq_eq_false_iff_ne.2 af;have pF:(nm==0)=false:=beq_eq_false_iff_ne.2 af;refine Qd (An @vl @aY) ?_
   ((first|refine Kk (ins:=[nm,67]) fC ?_ ?_|refine Jc (ins:=[nm,67]) fC ?_ ?_|refine Jb (ins:=[nm,67]) fC ?_ ?_|refine Zc (ins:=[nm,67]) fC ?_ ?_)<;>(have aQ:=@vl;have bw:=@da;have bQ:=@eM;have cy:=@hb2;have dh:=@j3;have ff:=@pE;have gu:=@pF;refine XG ?_;clear aQ bw bQ cy dh ff gu;(try first|exact rfl|exact True.intro);((try with_reducible and_intros);all_goals try first|refine zm ?_|exact CL)))
   ·have:Nat.beq nm 67=false:=by
     cases h:Nat.beq nm 67 with
     | false=>rfl
     | true=>exact absurd (Nat.eq_of_beq_eq_true h) af
    rw[this];rfl
   ·simp[Ud,Uo,cU,eM,hb2,j3,pE,pF]
    (repeat' refine And.intro ?_ ?_)<;>first|decide|(left;omega)|omega
   ·refine ⟨k + 1,by omega,To.fN (by exact Qp) fun b=>?_,by omega⟩;rw[show 16 * i + (k + 1)=16 * i + k + 1 by omega,dW,← sR];simp only[Qf,WT.mO pG iL,ik,show 16 * i + k + 1=1 + i * 16 + k by omega]
    (repeat' split)<;>first|rfl|omega
  ·obtain rfl:k=16:=by omega
   refine Qa ?_;refine ⟨i+1,by omega,To.fN (by exact Qp) fun b=>?_,by omega⟩;rw[show 16*(i+1)=16*i+16 by omega]
 ·obtain rfl:i=4:=by omega
  have pG:=WT.lb cQ x (16*4);have dW:=WT.kn cQ x (n:=64) af;have bl:=WT.sQ cQ x;have mP:=WT.gR (T:=T1) x (16*4) 64;rw[aa af]at mP;have fC:=(Xeg c.gl (T1.row 64) (qD _) x).wk (Wk.cap _ _ _ _ _);have dN:=Jt (T1.row 64);have bY:({ T with rows:=T.rows.map (Xx x),mb:=.az (bu (Xx x D)) false }:WT)=T1.upto x 65:=by rw[bl,<- F6]
  rw[bY,dW];generalize hTe:T1.upto x (16*4)=Tn at *
  have aY:=WT.iJ pG (i:=64) af;have da:=fun n=>WT.iK pG (i:=64) af n;rw[mP]at aY da;have vl:=fun n b hb=>WT.iB pG n (b:=b) hb;have hl2:=WT.len pG;have sR:Tn.h=(0,.cells Tn.cells)::(1,Tn.mb)::Kf Tn.rows 0:=rfl;generalize Du:T1.row 64=r at *
  simp only[Nat.reduceAdd]at aY da;rw[sR];refine Qd (An @vl @aY) ?_
  ((first|refine Kk (ins:=[66,67]) fC ?_ ?_|refine Jc (ins:=[66,67]) fC ?_ ?_|refine Jb (ins:=[66,67]) fC ?_ ?_|refine Zc (ins:=[66,67]) fC ?_ ?_)<;>(have aQ:=@vl;have bw:=@da;refine XG ?_;clear aQ bw;(try first|exact rfl|exact True.intro);((try with_reducible and_intros);all_goals try first|refine zm ?_|exact CL)))
  ·decide
  refine ⟨(),To.trans (To.fN (t':=[(0,.int .i64 0)]) (h':=(67,.cells [.int .i64 x])::(Tn.put 64 (Xx x r)).h) (n':=68) (by exact Qp) fun b=>?_) ?_⟩
  ·rw[← sR];simp only[Qf,WT.mO pG (i:=64) af]
   (repeat' split)<;>first|rfl|omega
  ·exact To.eS (ex:=[(67,.cells [.int .i64 x])]) (WT.cI pG _ _) aw aw (by simp[Qr,Qe,look,aA])
def Ycu:Go.Shelf.Ren:=⟨fun|125=>180|128=>191|129=>192|189=>167|215=>198|216=>188|257=>179|294=>182|295=>183|296=>184|297=>185|298=>186|299=>187|300=>189|301=>190|328=>193|329=>194|330=>195|331=>196|332=>197|343=>199|n=>n,fun|0=>0|3=>3|4=>4|5=>5|9=>9|28=>52|46=>110|51=>108|53=>214|131=>182|182=>206|183=>207|218=>215|222=>126|228=>220|229=>104|n=>n,fun n=>n⟩
def Qw5:Lays.n189 Tryz.prog Ycu:={
 mixed:=by kernel_rfl,
 f125:=Tryz.func180.trans (congrArg some (by kernel_rfl)),
 f128:=Tryz.func191.trans (congrArg some (by kernel_rfl)),
 f129:=Tryz.func192.trans (congrArg some (by kernel_rfl)),
 f189:=Tryz.func167.trans (congrArg some (by kernel_rfl)),
 f215:=Tryz.func198.trans (congrArg some (by kernel_rfl)),
 f216:=Tryz.func188.trans (congrArg some (by kernel_rfl)),
 f257:=Tryz.func179.trans (congrArg some (by kernel_rfl)),
 f294:=Tryz.func182.trans (congrArg some (by kernel_rfl)),
 f295:=Tryz.func183.trans (congrArg some (by kernel_rfl)),
 f296:=Tryz.func184.trans (congrArg some (by kernel_rfl)),
 f297:=Tryz.func185.trans (congrArg some (by kernel_rfl)),
 f298:=Tryz.func186.trans (congrArg some (by kernel_rfl)),
 f299:=Tryz.func187.trans (congrArg some (by kernel_rfl)),
 f300:=Tryz.func189.trans (congrArg some (by kernel_rfl)),
 f301:=Tryz.func190.trans (congrArg some (by kernel_rfl)),
 f328:=Tryz.func193.trans (congrArg some (by kernel_rfl)),
 f329:=Tryz.func194.trans (congrArg some (by kernel_rfl)),
 f330:=Tryz.func195.trans (congrArg some (by kernel_rfl)),
 f331:=Tryz.func196.trans (congrArg some (by kernel_rfl)),
 f332:=Tryz.func197.trans (congrArg some (by kernel_rfl)),
 f343:=Tryz.func199.trans (congrArg some (by kernel_rfl)),
 t0:=Tryz.underlying0,
 a0:=Tryz.isAgg0,
 z0:=Tryz.sizeOf0,
 v0:=Tryz.zeroValue0,
 t3:=Tryz.underlying3,
 a3:=Tryz.isAgg3,
 z3:=Tryz.sizeOf3,
 v3:=Tryz.zeroValue3,
 t4:=Tryz.underlying4,
 a4:=Tryz.isAgg4,
 z4:=Tryz.sizeOf4,
 v4:=Tryz.zeroValue4,
 t5:=Tryz.underlying5,
 a5:=Tryz.isAgg5,
 z5:=Tryz.sizeOf5,
 v5:=Tryz.zeroValue5,
 t9:=Tryz.underlying9,
 a9:=Tryz.isAgg9,
 z9:=Tryz.sizeOf9,
 v9:=Tryz.zeroValue9,
 t28:=Tryz.underlying52,
 a28:=Tryz.isAgg52,
 z28:=Tryz.sizeOf52,
 v28:=Tryz.zeroValue52,
 t46:=Tryz.underlying110,
 a46:=Tryz.isAgg110,
 z46:=Tryz.sizeOf110,
 v46:=Tryz.zeroValue110,
 t51:=Tryz.underlying108,
 a51:=Tryz.isAgg108,
 z51:=Tryz.sizeOf108,
 v51:=Tryz.zeroValue108,
 t53:=Tryz.underlying214,
 a53:=Tryz.isAgg214,
 z53:=Tryz.sizeOf214,
 v53:=Tryz.zeroValue214,
 t131:=Tryz.underlying182,
 a131:=Tryz.isAgg182,
 z131:=Tryz.sizeOf182,
 v131:=Tryz.zeroValue182,
 t182:=Tryz.underlying206,
 a182:=Tryz.isAgg206,
 z182:=Tryz.sizeOf206,
 v182:=Tryz.zeroValue206,
 t183:=Tryz.underlying207,
 a183:=Tryz.isAgg207,
 z183:=Tryz.sizeOf207,
 v183:=Tryz.zeroValue207,
 t218:=Tryz.underlying215,
 a218:=Tryz.isAgg215,
 z218:=Tryz.sizeOf215,
 v218:=Tryz.zeroValue215,
 t222:=Tryz.underlying126,
 a222:=Tryz.isAgg126,
 z222:=Tryz.sizeOf126,
 v222:=Tryz.zeroValue126,
 t228:=Tryz.underlying220,
 a228:=Tryz.isAgg220,
 z228:=Tryz.sizeOf220,
 v228:=Tryz.zeroValue220,
 t229:=Tryz.underlying104,
 a229:=Tryz.isAgg104,
 z229:=Tryz.sizeOf104,
 v229:=Tryz.zeroValue104 }
def Qzw {k n:Nat}    {fr:Nat×Nat}  (hb:w.heap[k]?=some (.cells cur e fr)) :
  (Sort.grow (Sort.putRow (Value.int .i64) (Sort.ahead w n) k 0 d) os).heap[k]?=some (.cells (Sort.putCells (Value.int .i64) 0 d cur) e fr):=by
 have hg:k<w.heap.size:=(Array.getElem?_eq_some_iff.1 hb).1;rw[Sort.heap_grow_old _ _ (by simpa [Sort.putRow,Sort.mapBlock,Sort.ahead] using hg)];simp[Sort.putRow,Sort.mapBlock,Sort.ahead,Array.getElem?_modify,hb,Sort.onCells]
def Ygu {k n:Nat}    {fr:Nat×Nat}  (hb:w.heap[k]?=some (.cells cur e fr)) :
  Fr w (Sort.grow (Sort.putRow (Value.int .i64) (Sort.ahead w n) k 0 d) os) (fun i=>i=k):=by
 have hs:(Sort.grow (Sort.putRow (Value.int .i64) (Sort.ahead w n) k 0 d) os).heap.size=w.heap.size+os.size:=by simp[Sort.grow,Sort.putRow,Sort.mapBlock,Sort.ahead]
 refine ⟨rfl,rfl,rfl,by omega,fun j hj cb=>?_,fun j eT e' Vx h=>?_⟩
 ·rw[Sort.heap_grow_old _ _ (by simpa [Sort.putRow,Sort.mapBlock,Sort.ahead] using hj)];have:k≠j:=fun e=>cb e.symm;simp[Sort.putRow,Sort.mapBlock,Sort.ahead,Array.getElem?_modify,this]
 ·by_cases tG:j=k
  ·subst tG;rw[hb]at h;cases h;exact ⟨_,Qzw d hb,by simp[Sort.putCells]⟩
  ·refine ⟨eT,?_,rfl⟩;rw[Sort.heap_grow_old _ _ (by simpa [Sort.putRow,Sort.mapBlock,Sort.ahead] using Wn h)];have:k≠j:=fun e=>tG e.symm;simp[Sort.putRow,Sort.mapBlock,Sort.ahead,Array.getElem?_modify,this,h]
def C6 (l:List Int)(j:Nat)(h:j<l.length):(Ql l).getD j .any=.int .i64 l[j]:=by simp[Ql,List.getD,h]
def Yc6 (l:List Int)(hl:l.length<=1000000):GS Tryz.prog gl 167 [.sl 1 0 0 l.length l.length] [(0,.cells (Ql l))] 1 (.aR []) [(0,.cells (Ql (l.mergeSort fun x y=>decide (x<=y))))] 1:=by
 refine ⟨⟨Tryz.f167,Tryz.func167,by kernel_rfl,by kernel_rfl⟩,fun w vs G X g hR hv=>?_⟩;have hlen:(l.mergeSort fun x y=>decide (x<=y)).length=l.length:=List.length_mergeSort _;obtain ⟨v,vs,rfl,h1,h2⟩:=hv.cons_inv;obtain rfl:=h2.oS;have hH:(dC [(0,.cells (Ql l))] 1).H 0=.cells (Ql l):=rfl;have ez:=hR.h 0;rw[hH]at ez;have hHo:∀ x y:List AV,((dC [(0,.cells x)] 1).aH 0 (.cells y))=dC [(0,.cells y)] 1:=fun x y=>qc (fun _=>rfl) fun j=>by
  show (if 0=j then _ else Qc [(0,.cells x)] 1 j)=Qc [(0,.cells y)] 1 j;rw[Qf,Qf];split<;>rfl
 rcases qM h1 with ⟨k,cap,e,cur,fz,rfl,hg,h3,h4,h5,h6,h7⟩|⟨ad,rfl,hg,h3,h4⟩
 ·rw[hg]at ez;cases ez with
  | cells hb qq iD qR hz =>
   rw[h6]at hb;cases hb;rw[Xw]at qq iD qR;have Ro:∀ j (hj:j<l.length),cur[j]?=some (.int .i64 l[j]):=fun j hj=>by
    have:=qR j hj;rw[C6 l j hj]at this;have Ls:j<cur.size:=by omega
    have e:cur.getD j undef=cur[j]:=by simp[Array.getD,Ls]
    rw[e]at this;generalize hcv:cur[j]=cv at this;cases this;rw[<- hcv];simp[Ls]
   have AF:Sort.Holds (Value.int .i64) w k 0 l.toArray:=fun j hj=>by
    have c4:j<l.length:=by simpa using hj
    refine ⟨?_,?_⟩
    ·simp only[World.cell?,h6,Nat.zero_add,Option.isSome_none,Bool.false_eq_true,if_false];rw[Ro j c4];simp[c4]
    ·simp only[World.frozen?,h6,Nat.zero_add];rcases hz with rfl|hz
     ·simp
     ·have:¬ fz.1≤j:=by omega
      simp[this]
   have hc:=Any.slices_Sort_int Qw5 k 0 cap l w AF (Wn h6) af;refine Calls.mono hc ?_;rintro e w' ⟨rfl,n,os,rfl⟩;have bA:=hR.setBlock (x:=.cells (Ql (l.mergeSort fun x y=>decide (x<=y)))) hg (by rw[hH];trivial) trivial (Ygu (n:=n) (os:=os) (l.mergeSort fun x y=>decide (x<=y)).toArray h6) (by
    have aY:∀ j (hj:j<l.length),(Sort.putCells (Value.int .i64) 0 (l.mergeSort fun x y=>decide (x<=y)).toArray cur).getD j undef=.int .i64 ((l.mergeSort fun x y=>decide (x<=y))[j]'af):=fun j hj=>by
     have Ls:j<cur.size:=by omega
     have oc:j<(l.mergeSort fun x y=>decide (x<=y)).length:=by omega
     simp[Sort.putCells,Array.getD,Ls,hj]
    refine .cells (Qzw _ h6) (by rw[Xw,hlen];simpa [Sort.putCells] using qq) (fun j hj=>?_) (fun j hj=>?_) (by simpa [Sort.putCells] using hz)
    ·rw[Xw,hlen]at hj;rw[aY j hj];rfl
    ·rw[Xw,hlen]at hj;rw[aY j hj,C6 _ j af];exact .int _ _)
   rw[hHo]at bA;exact ⟨_,g,rfl,bA,fun _ _=>rfl,.aR rfl fun j hj=>by simp at hj⟩
 ·have h0:l=[]:=List.eq_nil_of_length_eq_zero h3;subst h0;refine Calls.mono (Any.slices_Sort_int_none Qw5 ad 0 w) ?_;rintro e w' ⟨rfl,rfl⟩;rw[show (([]:List Int).mergeSort fun x y=>decide (x<=y))=[] by simp];exact ⟨_,g,rfl,hR,fun _ _=>rfl,.aR rfl fun j hj=>by simp at hj⟩
def To.gI {s:St}{b:Nat}{kvs:List (AV×AV)}{dn:Bool}(hb:s.fs.H b=.az kvs dn):To p s (s.aH b (.az kvs false)):=fun c g a w _ hR=>⟨g,by rw[St.cj];exact hR.gI hb⟩
def lf (l D:List Tm):List Tm:=l.foldl (fun D t=>Xx t.id D) D
def Xt8 (D:List Tm):lf (l++[t]) D=Xx t.id (lf l D):=by simp[lf]
def Lt {x:Int} :(Xx x D).Sublist D:=List.filter_sublist
def Qvx:∀ {l D:List Tm},(lf l D).Sublist D
 | [],D=>List.Sublist.refl _
 | t::l,D=>(Qvx (l:=l) (D:=Xx t.id D)).trans Lt
def Xru {l D:List Tm}(h:D.Pairwise fun a b=>a.id≠b.id):(lf l D).Pairwise fun a b=>a.id≠b.id:=h.sublist Qvx
def ids (l:List Tm):List Int:=l.map (·.id)
set_option maxRecDepth 20000 in
def Xwa (T:WT)(D l:List Tm)(dn:Bool)(hlen:T.rows.length=65)(eG:T.mb=.az (bu D) dn)(hd:D.Pairwise fun a b=>a.id≠b.id)(hl:l.length<=1000000) :
  GQ Tryz.prog gl 137 [.ptr 0 0,.isl l.length (aX l)] T.h 67 [0,1] (fun _:Unit=>True) (fun _=>.isl l.length (Ql (vR (ids l)))) (fun _=>{ T with mb:=.az (bu (lf l D)) false }.h):=by
 have hT:=vX hlen eG;refine Xaq.gq (ap rfl) (fun q hq=>Xb (((WT.as hT).mem q hq).2)) aw fun c bf hg=>?_
 conv in aG _ _=>cbv
 have aZ:=fun n b hb=>WT.iB hT n (b:=b) hb;have lN:=WT.eR hT;have aW:=WT.len hT;have dN:=Jt l;have pC:T.h=(0,.cells T.cells)::(1,.az (bu D) dn)::Kf T.rows 0:=by rw[<- eG];rfl
 have kS:∀ k,WT.wf { T with mb:=.az (bu (lf (l.take k) D)) false }:=fun k=>⟨hlen,oH 2 _⟩
 rw[pC];refine Qa ?_;refine vn 5 1 rfl (by exact Qi @aZ) ?_;unfold St.named
 refine Yk (fun k:Nat=>k≤l.length) (fun k=>⟨[(0,.ptr 0 0),(5,.sl 1 67 0 k k),(8,.isl l.length (aX l)),(9,.int .i64 l.length),(10,.int .i64 k)],(67,.cells (Ql (ids (l.take k))))::{ T with mb:=.az (bu (lf (l.take k) D)) false }.h,68⟩) (fun k=>l.length - k) Xaq.mixed [0,1] bf
  ⟨0,by omega,?_⟩ fun k hk=>?_
 ·refine To.trans (To.gI (b:=1) (kvs:=bu D) (dn:=dn) rfl) (To.fN (by exact Qp) fun b=>?_);show Qc ((67,.cells [])::(0,.cells T.cells)::(1,.az (bu D) false)::Kf T.rows 0) 68 b=Qc ((1,.az (bu D) false)::(67,.cells [])::(0,.cells T.cells)::(1,.az (bu D) dn)::Kf T.rows 0) 68 b;simp only[Qf]
  (repeat' split)<;>first|rfl|omega
 have Lu:=fun n b hb=>WT.iB (kS k) n (b:=b) hb;have nf:WT.cells { T with mb:=.az (bu (lf (l.take k) D)) false }=T.cells:=rfl;have C7:WT.h { T with mb:=.az (bu (lf (l.take k) D)) false }=(0,.cells T.cells)::(1,.az (bu (lf (l.take k) D)) false)::Kf T.rows 0:=rfl;rw[C7];refine Qa ?_;refine Qb ?_ ?_<;>intro h1
 ·have bh:k < l.length:=by omega
  have aL:=F3 l k bh;have ec:l.take (k+1)=l.take k++[l[k]]:=by rw[take_succ];simp[bh]
  have ei:=C5 (lf (l.take k) D);have eY:=sP l[k].id;have AE:=Xal (lf (l.take k) D) l[k].id (Xru hd);rw[<- Xt8,<- ec]at AE;have Rq:Ql (ids (l.take k))++[.int .i64 l[k].id]=Ql (ids (l.take (k+1))):=by unfold Ql ids;rw[ec,map_append,map_append];rfl
  have kf:(Ql (ids (l.take k))).length=k:=by simp[Ql,ids];omega
  generalize l[k]=t at *
  refine Qd (An @dN (An @aL @aZ)) ?_;refine Ym @aZ ?_;refine Ym (An @aZ (An @kf @Rq)) ?_;refine Qd (An @aZ @lN) ?_;refine OD sL (An @aZ (An @ei (An @eY @AE))) ?_;refine ⟨k+1,by omega,To.Rm (ex:=[(67,.cells (Ql (ids (l.take (k+1)))))]) [(67,70)] (kS (k+1)) aw af rfl rfl (fun b hb=>?_) ?_ ?_ aw,by omega⟩
  ·show _=Qc ((0,.cells T.cells)::(1,.az (bu (lf (l.take (k + 1)) D)) false)::Kf T.rows 0) 67 b;simp only[Qf]
   (repeat' split)<;>first|rfl|omega|(rw[Ax,Ax,hlen];(repeat' split)<;>first|rfl|omega)
  ·have:=C2 (rl [(67,70)]) l;exact Qp
  ·have:∀ n q,ah n (Ql q)=True:=fun n q=>by simp[Xh,Ql,Qe]
   exact Qi @this
 ·obtain rfl:k=l.length:=by omega
  have kf:ids (l.take l.length)=ids l:=by rw[take_length]
  have fx:(ids l).length=l.length:=by simp[ids]
  have FC:=Yc6 c.gl (ids l) (by simpa [ids] using hl);rw[fx]at FC;rw[kf];refine Qd @aZ ?_;refine Zv (ip [67]) FC @aZ ?_;refine ⟨(),(To.fZ (b:=67) (i:=0) rfl rfl).trans (To.eS (T:={ T with mb:=.az (bu (lf l D)) false }) (ex:=[(67,.dead),(67,_),(67,_)]) ⟨hlen,oH 2 _⟩ aw aw ?_)⟩;have aL:((Ql ((ids l).mergeSort fun x y=>decide (x<=y))).drop 0).take (l.length*1)=Ql (vR (ids l)):=by
   rw[List.drop_zero,take_of_length_le (by rw[Nat.mul_one];simp[Ql,ids])];rfl
  rw[aL];have h1:∀ n q,ah n (Ql q)=True:=fun n q=>by simp[Xh,Ql,Qe]
  have h2:∀ q,ay id (Ql q)=Ql q:=fun q=>sm _;exact Qi (An @h1 @h2)
def RI.T (hl:rows.length=65)(hp:rows.flatten.Perm D):RI (fun _ _=>True) rows D:=⟨hl,hp,fun _ _ _ _=>trivial⟩
def WT.vY (T:WT):WT:={ T with now:=T.now+1,rows:=Uw (T.now+1) 4 1 T.rows }
def Xob {D l:List Tm}(h:RI (fun _ _=>True) rows D)(k:Nat):RI (fun _ _=>True) ((l.take k).foldl (Xu now) rows) ((l.take k).reverse++D):=RI.j4 _ h fun _ _=>trivial
theorem WT.vZ (T:WT)(t:Tm):(T.lay t)={ T with rows:=Xu T.now T.rows t }:=rfl
set_option maxRecDepth 20000 in
theorem Xxg (T:WT)(D:List Tm)(hT:T.wf)(hp:T.rows.flatten.Perm D)(hD:D.length<=100000)(iM:∀ t ∈ D,t.due<=1099511627776)(hn:T.now<1099511627776) :
  GQ Tryz.prog gl 139 [.ptr 0 0] T.h 67 [0,1] (fun _:Unit=>True) (fun _=>.aR []) (fun _=>T.vY.h):=by
 refine Rc.gq (ap rfl) (fun q hq=>Xb (((WT.as hT).mem q hq).2)) aw fun c bf hg=>?_
 conv in aG _ _=>cbv
 have h0:=WT.iI T;have aW:=WT.len hT;have pC:T.h=(0,.cells T.cells)::(1,T.mb)::Kf T.rows 0:=rfl;have dW:T.cells.set 0 (.int .i64 ((T.now:Int)+1))=WT.cells { T with now:=T.now+1 }:=WT.Ri T (T.now+1);have kS:WT.wf { T with now:=T.now+1 }:=⟨hT.len,hT.mb⟩
 rw[pC];refine Qd (An @h0 @dW) ?_
 refine Yk (fun y:Nat × List (List Tm)=>1≤y.1∧y.1≤5∧RI (fun _ _=>True) y.2 D∧Uw (T.now + 1) (5 - y.1) y.1 y.2=Uw (T.now + 1) 4 1 T.rows) (fun y=>⟨[(0,.ptr 0 0),(2,.int .i64 ((16 ^ y.1:Nat):Int)),(3,.int .i64 y.1)],WT.h { T with now:=T.now + 1,rows:=y.2 },67⟩) (fun y=>5 - y.1) Rc.mixed [0,1] bf
  ⟨(1,T.rows),⟨by simp,by simp,RI.T hT.len hp,rfl⟩,To.fN (by exact Qp) fun b=>?_⟩ fun y hy=>?_
 ·show Qc ((0,.cells (WT.cells { T with now:=T.now + 1 }))::(1,T.mb)::Kf T.rows 0) 67 b=Qc ((0,.cells (WT.cells { T with now:=T.now + 1 }))::(0,.cells T.cells)::(1,T.mb)::Kf T.rows 0) 67 b;simp only[Qf]
  (repeat' split)<;>first|rfl|omega
 obtain ⟨L,rows⟩:=y;obtain ⟨mG,hL5,ry,bY⟩:=hy;dsimp only at mG hL5 ry bY ⊢;have uw:WT.wf { T with now:=T.now+1,rows:=rows }:=⟨ry.len,hT.mb⟩
 have gT:WT.now { T with now:=T.now+1,rows:=rows }=T.now+1:=rfl;have sB:WT.rows { T with now:=T.now+1,rows:=rows }=rows:=rfl;have vHa:WT.mb { T with now:=T.now+1,rows:=rows }=T.mb:=rfl;have F7:T.vY={ T with now:=T.now+1,rows:=Uw (T.now+1) (5-L) L rows }:=by unfold WT.vY;rw[bY]
 have F8:∀ i,i<65->(WT.row { T with now:=T.now+1,rows:=rows } i).length<=D.length:=fun i hi=>ry.im hi;have hrel:=fun i (hi:i<65)=>RI.d5 ry (now:=T.now+1) hi fun _ _=>trivial;have F9:∀ i,i<65->RI (fun _ _=>True) (rows.set i []) (rows.set i []).flatten:=fun i hi=>⟨by simp[ry.len],List.Perm.refl _,fun _ _ _ _=>trivial⟩
 have AG:=fun i (hi:i<65)=>((Aw rows i (by have:=ry.len;omega)).symm.trans ry.perm)
 have bN:∀ i,i<65->∀ t ∈ rows.getD i [],t.due<=1099511627776:=fun i hi t ht=>iM t (Q6 ry hi ht);rw[F7];generalize cQ:({ T with now:=T.now+1,rows:=rows }:WT)=T1 at *
 have Rr:T1.now=T.now+1:=by rw[<- cQ]
 have vIa:T1.mb=T.mb:=by rw[<- cQ]
 have g0:=WT.iI T1;rw[Rr]at g0;have iF:=WT.len uw;have sS:T1.h=(0,.cells T1.cells)::(1,T1.mb)::Kf T1.rows 0:=rfl;have aZ:=fun n b hb=>WT.iB uw n (b:=b) hb;obtain ⟨P,hP⟩:∃ p:Nat,p=16 ^ L:=⟨_,rfl⟩
 obtain ⟨PI,C8⟩:∃ p:Int,p=P:=⟨_,rfl⟩
 obtain ⟨LI,hLI⟩:∃ p:Int,p=L:=⟨_,rfl⟩
 have hm:Int.tmod ((T.now+1:Nat):Int) PI=(((T.now+1)%P:Nat):Int):=by rw[C8];exact AB _ _
 have hq:Int.tdiv ((T.now+1:Nat):Int) PI=(((T.now+1)/P:Nat):Int):=by rw[C8];exact vW _ _
 have lH:Int.tmod (((T.now+1)/P:Nat):Int) 16=(((T.now+1)/P%16:Nat):Int):=AB _ 16;have sN:(T.now+1)/P%16<16:=Nat.mod_lt _ af;have hti:L=1/\oE (T.now+1) L=16+(T.now+1)/P%16\/L=2/\oE (T.now+1) L=32+(T.now+1)/P%16\/L=3/\oE (T.now+1) L=48+(T.now+1)/P%16\/L=4/\oE (T.now+1) L=64\/L=5:=by
  rw[hP];rcases (by omega:L=1\/L=2\/L=3\/L=4\/L=5) with rfl|rfl|rfl|rfl|rfl
  ·exact .inl ⟨rfl,rfl⟩
  ·exact .inr (.inl ⟨rfl,rfl⟩)
  ·exact .inr (.inr (.inl ⟨rfl,rfl⟩))
  ·exact .inr (.inr (.inr (.inl ⟨rfl,rfl⟩)))
  ·exact .inr (.inr (.inr (.inr rfl)))
 generalize vKa:(T.now+1)/P%16=sp at *
 obtain ⟨I,hI⟩:∃ i,i=oE (T.now+1) L:=⟨_,rfl⟩
 rw[<- hI]at hti;have qE:L<=4->Uw (T.now+1) (5-L) L rows=if (T.now+1)%P=0 then Uw (T.now+1) (5-(L+1)) (L+1) (eH (T.now+1) rows I) else rows:=fun h=>by
  rw[hI,hP,show 5-L=5-(L+1)+1 by omega];rfl
 obtain ⟨X,hX⟩:∃ x,x=I+1:=⟨_,rfl⟩
 obtain ⟨Y,hY⟩:∃ x,x=2+I:=⟨_,rfl⟩
 by_cases h5:L=5
 ·subst h5;have BZ:Uw (T.now+1) (5-5) 5 rows=rows:=rfl;rw[BZ,cQ,sS];refine Qa ?_;refine Yc ?_;refine Qa ?_;refine ⟨(),?_⟩;rw[<- sS];exact To.fN (by exact Qp) fun b=>rfl
 have qE:=qE af;have iL:I<65:=by omega
 have aY:=WT.iJ uw iL;rw[<- hX,<- hY]at aY;have hl:T1.row I=rows.getD I []:=by rw[<- cQ];rfl
 have hlD:=F8 I iL;generalize Rs:T1.row I=l at *
 obtain ⟨c5,zZ⟩:∃ e:Nat->St,e=fun k=>⟨[(0,.ptr 0 0),(2,.int .i64 PI),(3,.int .i64 LI),(55,.isl l.length (aX l)),(56,.int .i64 l.length),(57,.int .i64 k)],WT.h { T with now:=T.now+1,rows:=(l.take k).foldl (Xu (T.now+1)) (rows.set I []) },67⟩:=⟨_,rfl⟩
 obtain ⟨sl,iW⟩:∃ e:Nat->Tm->List (Nat×AV),e=fun k x=>[(0,.ptr 0 0),(2,.int .i64 PI),(3,.int .i64 LI),(55,.isl l.length (aX l)),(56,.int .i64 l.length),(57,.int .i64 k),(61,.ptr 0 0),(62,.agg [.int .i64 x.id,.int .i64 x.due])]:=⟨_,rfl⟩
 rw[sS];have ju:T1.put I []={ T with now:=T.now+1,rows:=rows.set I [] }:=by rw[<- cQ];rfl
 have fH:(l.foldl (Xu (T.now+1)) (rows.set I []))=eH (T.now+1) rows I:=by unfold eH;rw[<- hl]
 obtain ⟨y1,hy1⟩:∃ y:Nat×List (List Tm),y=(L+1,eH (T.now+1) rows I):=⟨_,rfl⟩
 have iA:((16 ^ 1:Nat):Int)=16/\((16 ^ 2:Nat):Int)=256/\((16 ^ 3:Nat):Int)=4096/\((16 ^ 4:Nat):Int)=65536/\((16 ^ 5:Nat):Int)=1048576:=⟨rfl,rfl,rfl,rfl,rfl⟩
 clear hI;rcases hti with ⟨hv,ea⟩|⟨hv,ea⟩|⟨hv,ea⟩|⟨hv,ea⟩|hv
 rotate_right
 ·exact absurd hv h5
 all_goals
  subst hv;first|(have e:P=16:=hP;subst e)|(have e:P=256:=hP;subst e)|(have e:P=4096:=hP;subst e)|(have e:P=65536:=hP;subst e)
  first|(have e:PI=16:=C8;subst e)|(have e:PI=256:=C8;subst e)|(have e:PI=4096:=C8;subst e)|(have e:PI=65536:=C8;subst e)
  have e:LI=_:=hLI;subst e;first|(have e:X=17+sp:=(by omega);subst e)|(have e:X=33+sp:=(by omega);subst e)|(have e:X=49+sp:=(by omega);subst e)|(have e:X=65:=(by omega);subst e)
  first|(have e:Y=18+sp:=(by omega);subst e)|(have e:Y=34+sp:=(by omega);subst e)|(have e:Y=50+sp:=(by omega);subst e)|(have e:Y=66:=(by omega);subst e)
  have hY2:=hY.symm;refine Qd (An @iA (An @aZ (An @g0 @hm))) ?_;refine Qb ?_ ?_<;>intro h1
  ·refine Qa ?_;refine Yc ?_;refine Qd (An @aZ (An @g0 (An @hq (An @lH @aY)))) ?_;refine Yk (fun k:Nat=>k≤l.length) c5 (fun k=>l.length - k) Rc.mixed [0,1] bf ⟨0,by omega,?_⟩ fun k hk=>?_<;>subst zZ<;>dsimp only
   ·show To _ _ ⟨_,WT.h { T with now:=T.now + 1,rows:=rows.set I [] },67⟩;rw[← ju];refine To.off (k:=55) uw iL Rs ?_ (fun b h1 h2=>?_) ?_ (by dsimp only;omega) ?_ aw ?_
    ·show Qc ((0,_)::_) 67 0=_;rw[Qf,am rfl,<- hX]
    ·show Qc ((0,_)::(0,_)::(1,_)::_) 67 b=_;rw[sS,Qf,aa af]
    ·exact Qi @aZ
    ·exact Qi @hY2
    ·have h1:=C2 (Wp I 67) l;have kE:=C0 67 l;exact Qi (An @h1 @kE)
   have Ea:=Xob (now:=T.now+1) (l:=l) (F9 I iL) k;have Ga:∀ j,j<65->((l.take k).foldl (Xu (T.now+1)) (rows.set I []) |>.getD j []).length<=1000000:=fun j hj=>by
    have h1:=Ea.im hj;have h2:=(AG I iL).length_eq;rw[List.length_append]at h1 h2;rw[<- hl]at h2;simp only[List.length_reverse,length_take]at h1;omega
   have Gb:WT.wf { T with now:=T.now+1,rows:=(l.take k).foldl (Xu (T.now+1)) (rows.set I []) }:=⟨Ea.len,hT.mb⟩
   have mQ:k<l.length->∀ x,l[k]?=some x->(l.take (k+1)).foldl (Xu (T.now+1)) (rows.set I [])=Xu (T.now+1) ((l.take k).foldl (Xu (T.now+1)) (rows.set I [])) x:=fun _ x hx=>by
    rw[take_succ,hx];simp
   have da:∀ x:Tm,(WT.row { T with now:=T.now+1,rows:=(l.take k).foldl (Xu (T.now+1)) (rows.set I []) } (Zt (T.now+1) x.due)).length<=1000000:=fun x=>Ga _ (FY _ _);have BM:WT.now { T with now:=T.now+1,rows:=(l.take k).foldl (Xu (T.now+1)) (rows.set I []) }=T.now+1:=rfl;generalize C7:({ T with now:=T.now+1,rows:=(l.take k).foldl (Xu (T.now+1)) (rows.set I []) }:WT)=Tk at *
   have Lu:=WT.aZ Gb;have dN:=Jt l;refine Qa ?_;refine Qb ?_ ?_<;>intro h3
   ·have bh:k < l.length:=by omega
    have aL:=F3 l k bh;have dW:=mQ bh l[k] (by simp[bh]);have vD:l[k].due<=1099511627776:=bN I iL l[k] (by rw[<- hl];exact List.getElem_mem _);generalize l[k]=x at *
    have eB:=Lm c.gl Tk Gb x (by rw[BM];omega) vD (by rw[BM];exact da x);refine Qd (An @dN (An @aL @Lu)) ?_;refine xQ eB Gb (fun _ _=>WT.oG Gb x) bf (by simp[jR]) (sl k x) [(67,.cells [.int .i64 x.id,.int .i64 x.due])] 68 (To.fN ?_ fun b=>?_) ?_ ?_ (by simp[Qe,ah]) fun _ _=>?_<;>subst iW<;>try dsimp only
    ·exact Qp
    ·simp only[List.cons_append,nil_append,Qf];(repeat' split)<;>rfl
    ·simp[sk,dI,dj]
    ·exact Qp
    ·refine Qa ?_;refine ⟨k + 1,by omega,?_,by omega⟩;have hT3:Tk.lay x={ T with now:=T.now + 1,rows:=(l.take (k + 1)).foldl (Xu (T.now + 1)) (rows.set I []) }:=by rw[WT.vZ,dW,← C7]
     rw[<- hT3];refine To.eS (ex:=[(67,.cells [.int .i64 x.id,.int .i64 x.due])]) (WT.oG Gb x) aw aw ?_;have h1:=C0 67 l;have h2:ay id (aX l)=aX l:=sm _;have h3:id 0=0:=rfl;exact Qi (An @h1 (An @h2 @h3))
   ·obtain rfl:k=l.length:=by omega
    rw[take_length]at C7;rw[am af]at qE;refine El ?_;refine ⟨y1,⟨?_,?_,?_,?_⟩,?_,?_⟩<;>subst hy1
    ·simp
    ·simp
    ·exact hrel _ iL
    ·dsimp only;rw[<- qE];exact bY
    rotate_left
    ·dsimp only;omega
    rw[fH]at C7;dsimp only;rw[C7];refine To.fN ?_ fun b=>rfl;exact Qi @iA
  ·rw[aa af]at qE;rw[qE,cQ];refine Qa ?_;refine ⟨(),?_⟩;rw[<- sS];exact To.fN (by exact Qp) fun b=>rfl
end Go.Proofs.YtogckmommodmhaaGreatDoor
