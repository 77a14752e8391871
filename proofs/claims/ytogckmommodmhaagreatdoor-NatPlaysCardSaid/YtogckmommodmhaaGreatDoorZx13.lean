import Derived.Test.YtogckmommodmhaaGreatDoorZx7
import Derived.Shelf.Sort.Plain
import Derived.Shelf.Slices.In.SortNone
namespace Go.Proofs.YtogckmommodmhaaGreatDoor
open List (getElem?_set append_assoc reverse_perm append_nil filter_eq_self length_set filter_append nil_append mem_filter filter_congr map_append mem_map map_cons getD_cons_succ length_cons mem_cons map_id take_of_length_le length_take take_succ take_length findIdx?_cons getElem?_drop getElem?_eq_none)
open Go.RowKit
set_option linter.all false
set_option maxHeartbeats 4000000
set_option maxRecDepth 100000
structure Tm where
 id:Int
 due:Nat
 deriving DecidableEq,Inhabited
def C9 (now due:Nat):Nat->Nat->Nat
 | 0,_=>64
 | f+1,k=>if due/16 ^ k<now/16 ^ k+16 then k*16+due/16 ^ k%16 else C9 now due f (k+1)
def Zv (now due:Nat):Nat:=C9 now due 4 0
variable {P:Nat->Nat->Prop}{c:Cx}{due:Nat}{rows:List (List Tm)}{W:Nat->Prop}{D:List Tm}{L:Nat}{p:List Nat}{now:Nat}{w:World}{a:Act}{i:Nat}{os:Array Obj}{q:Nat×Bk}{cur:Array Value}{e:TypeId}(Q:AV×AV->Prop)(S:Nat->Prop)(gl:Nat->AV)(b:Nat)(l:List Tm)(k:Nat)(t:Tm)(n:Nat)(x:Int)(d:Array Int)
def Qub (now due:Nat):Zv now due=if due<now+16 then due%16 else if due/16<now/16+16 then 16+due/16%16 else if due/256<now/256+16 then 32+due/256%16 else if due/4096<now/4096+16 then 48+due/4096%16 else 64:=by
 simp[Zv,C9]
def Ge (now due:Nat):Zv now due<65:=by
 rw[Qub];(repeat' split)<;>omega
def Pl (now i due:Nat):Prop :=
 if i<16 then due%16=i/\now<=due/\due<now+16
 else if i<32 then due/16%16=i-16/\now/16<due/16/\due/16<now/16+16
 else if i<48 then due/256%16=i-32/\now/256<due/256/\due/256<now/256+16
 else if i<64 then due/4096%16=i-48/\now/4096<due/4096/\due/4096<now/4096+16
 else now/65536<due/65536
def Re (h:now<=due):Pl now (Zv now due) due:=by
 rw[Qub];unfold Pl;split
 ·rw[am af];omega
 split
 ·rw[aa af,am af];omega
 split
 ·rw[aa af,aa af,am af];omega
 split
 ·rw[aa af,aa af,aa af,am af];omega
 ·rw[aa af,aa af,aa af,aa af];omega
def rB (now L i due:Nat):Prop :=
 if i<16 then due%16=i/\now<=due/\due<now+16
 else if i<32 then due/16%16=i-16/\(now-1)/16<due/16/\due/16<now/16+16/\(1<L->now/16<due/16)
 else if i<48 then due/256%16=i-32/\(now-1)/256<due/256/\due/256<now/256+16/\(2<L->now/256<due/256)
 else if i<64 then due/4096%16=i-48/\(now-1)/4096<due/4096/\due/4096<now/4096+16/\(3<L->now/4096<due/4096)
 else (now-1)/65536<due/65536/\(4<L->now/65536<due/65536)
def Pl.g (h:Pl now i due):rB now L i due:=by
 unfold Pl at h;unfold rB
 (repeat' split)<;>(first|(rw[am (by omega)]at h;omega)|(rw[aa (by omega),am (by omega)]at h;omega)|(rw[aa (by omega),aa (by omega),am (by omega)]at h;omega)|(rw[aa (by omega),aa (by omega),aa (by omega),am (by omega)]at h;omega)|(rw[aa (by omega),aa (by omega),aa (by omega),aa (by omega)]at h;omega))
def Pl.next (h:Pl now i due)(hd:now<due):rB (now+1) 1 i due:=by
 unfold Pl at h;unfold rB
 (repeat' split)<;>(first|(rw[am (by omega)]at h;omega)|(rw[aa (by omega),am (by omega)]at h;omega)|(rw[aa (by omega),aa (by omega),am (by omega)]at h;omega)|(rw[aa (by omega),aa (by omega),aa (by omega),am (by omega)]at h;omega)|(rw[aa (by omega),aa (by omega),aa (by omega),aa (by omega)]at h;omega))
structure RI (P:Nat->Nat->Prop)(rows:List (List Tm))(D:List Tm):Prop where
 len:rows.length=65
 perm:rows.flatten.Perm D
 pl:∀ i,i<65->∀ t ∈ rows.getD i [],P i t.due
def Da (rows:List (List Tm))  (hi:i<rows.length)(l:List Tm)(j:Nat):(rows.set i l).getD j []=if j=i then l else rows.getD j []:=by
 simp only[List.getD,getElem?_set];by_cases e:i=j
 ·subst e;rw[am rfl,am hi,am rfl];rfl
 ·rw[aa e,aa fun q=>e q.symm]
def Rf:∀ (rows:List (List Tm)) (i:Nat),i<rows.length->∀ l,(rows.set i l).flatten.Perm (l++(rows.set i []).flatten)
 | r::rows,0,_,l=>by simp
 | r::rows,i+1,h,l=>by
  simp only[List.set_cons_succ,List.flatten_cons];refine ((Rf rows i (by simpa using h) l).append_left r).trans ?_;rw[<- append_assoc,<- append_assoc];exact List.perm_append_comm.append_right _
def Lv (h:i<rows.length):rows.getD i []=rows[i]:=by simp[List.getD,h]
def Xxg (rows:List (List Tm))(i:Nat)(h:i<rows.length):rows.set i (rows.getD i [])=rows:=by
 rw[Lv h,List.set_getElem_self]
def AI (rows:List (List Tm))(i:Nat)(h:i<rows.length):rows.flatten.Perm (rows.getD i []++(rows.set i []).flatten):=by
 have:=Rf rows i h (rows.getD i [])
 rwa [Xxg rows i h]at this
def Xv (now:Nat)(rows:List (List Tm))(t:Tm):List (List Tm):=rows.set (Zv now t.due) (rows.getD (Zv now t.due) []++[t])
def Xxw (now:Nat)(rows:List (List Tm))(t:Tm):(Xv now rows t).length=rows.length:=by simp[Xv]
def RI.lay (h:RI P rows D)  {t:Tm}(ht:P (Zv now t.due) t.due):RI P (Xv now rows t) (t::D):=by
 have hl:=h.len;have hs:=Ge now t.due;refine ⟨by rw[Xxw,hl],?_,fun i hi x hx=>?_⟩
 ·unfold Xv;refine (Rf rows _ af _).trans ?_;refine (List.Perm.trans ?_ (List.Perm.cons t ((AI rows (Zv now t.due) af).symm.trans h.perm)));rw[append_assoc];exact List.perm_middle
 ·unfold Xv at hx;rw[Da _ af]at hx;split at hx
  ·rename_i e;rcases List.mem_append.1 hx with hx|hx
   ·exact h.pl i hi x (by rw[e];exact hx)
   ·obtain rfl:=List.mem_singleton.1 hx;rw[e];exact ht
  ·exact h.pl i hi x hx
def RI.ka {P:Nat->Nat->Prop}{now:Nat}:∀ (l:List Tm) {rows:List (List Tm)} {D:List Tm},RI P rows D->(∀ t ∈ l,P (Zv now t.due) t.due)->RI P (l.foldl (Xv now) rows) (l.reverse++D)
 | [],_,_,h,_=>h
 | t::l,rows,D,h,hl=>by
  have:=RI.ka l (h.lay (hl t av)) fun x hx=>hl x (by simp[hx]);simpa using this
def RI.jh {D D':List Tm}(h:RI P rows D)(hp:D.Perm D'):RI P rows D':=⟨h.len,h.perm.trans hp,h.pl⟩
def RI.mono {P P':Nat->Nat->Prop}   (h:RI P rows D)(hp:∀ i,i<65->∀ t ∈ rows.getD i [],P i t.due->P' i t.due):RI P' rows D:=⟨h.len,h.perm,fun i hi t ht=>hp i hi t ht (h.pl i hi t ht)⟩
def Rg (h:RI P rows D)  (hi:i<65){t:Tm}(ht:t ∈ rows.getD i []):t ∈ D:=by
 have hl:=h.len;exact h.perm.mem_iff.1 ((AI rows i af).mem_iff.2 (List.mem_append_left _ ht))
def eH (now:Nat)(rows:List (List Tm))(i:Nat):List (List Tm):=(rows.getD i []).foldl (Xv now) (rows.set i [])
def RI.d5 (h:RI P rows D)  (hi:i<65)(hP:∀ t ∈ rows.getD i [],P (Zv now t.due) t.due):RI P (eH now rows i) D:=by
 have hl:=h.len;have h0:RI P (rows.set i []) (rows.set i []).flatten:=⟨by simp[hl],List.Perm.refl _,fun j hj t ht=>by
  rw[Da _ af]at ht;split at ht
  ·cases ht
  ·exact h.pl j hj t ht⟩
 refine (RI.ka _ h0 hP).jh (List.Perm.trans ?_ ((AI rows i af).symm.trans h.perm));exact (reverse_perm _).append_right _
def oK (now L:Nat):Nat:=if L<4 then L*16+now/16 ^ L%16 else 64
def Uz (now:Nat):Nat->Nat->List (List Tm)->List (List Tm)
 | 0,_,rows=>rows
 | f+1,L,rows=>if now%16 ^ L=0 then Uz now f (L+1) (eH now rows (oK now L)) else rows
def RI.Rh (h:RI (rB now L) rows D)(hD:∀ t ∈ D,now<=t.due)(h0:0<now)(h1:1<=L)(h4:L<=4)(hm:now%16 ^ L=0):RI (rB now (L+1)) (eH now rows (oK now L)) D:=by
 have hi:oK now L<65:=by unfold oK;split<;>omega
 have hl:=h.len;have key:∀ j,j<65->∀ t ∈ (rows.set (oK now L) []).getD j [],rB now (L+1) j t.due:=fun j hj t ht=>by
  rw[Da _ af]at ht;split at ht
  ·cases ht
  ·rename_i cf;have hp:=h.pl j hj t ht;unfold oK at cf;unfold rB at hp ⊢;obtain rfl|rfl|rfl|rfl:L=1∨L=2∨L=3∨L=4:=by omega
   all_goals simp only[Nat.reducePow,Nat.reduceLT,↓reduceIte,Nat.reduceMul,Nat.reduceAdd,Nat.reduceLeDiff]at hm cf hp ⊢
   all_goals (repeat' split)<;>(first|(rw[am (by omega)]at hp;omega)|(rw[aa (by omega),am (by omega)]at hp;omega)|(rw[aa (by omega),aa (by omega),am (by omega)]at hp;omega)|(rw[aa (by omega),aa (by omega),aa (by omega),am (by omega)]at hp;omega)|(rw[aa (by omega),aa (by omega),aa (by omega),aa (by omega)]at hp;omega))
 have hs:RI (rB now (L+1)) (rows.set (oK now L) []) (rows.set (oK now L) []).flatten:=⟨by simp[hl],List.Perm.refl _,key⟩
 have:=RI.ka (rows.getD (oK now L) []) hs (now:=now) fun t ht=>(Re (hD t (Rg h hi ht))).g;refine this.jh (List.Perm.trans ?_ ((AI rows (oK now L) af).symm.trans h.perm));exact (reverse_perm _).append_right _
def RI.done (h:RI (rB now L) rows D)(h0:0<now)(hL:1<=L)(hm:L<=4->now%16 ^ L≠0):RI (Pl now) rows D:=by
 refine h.mono fun i hi t ht hp=>?_;unfold rB at hp;unfold Pl;obtain rfl|rfl|rfl|rfl|h5:L=1\/L=2\/L=3\/L=4\/5<=L:=by omega
 all_goals try simp only[Nat.reducePow,Nat.reduceLeDiff,ne_eq,forall_const]at hm
 all_goals (repeat' split)<;>(first|(rw[am (by omega)]at hp;omega)|(rw[aa (by omega),am (by omega)]at hp;omega)|(rw[aa (by omega),aa (by omega),am (by omega)]at hp;omega)|(rw[aa (by omega),aa (by omega),aa (by omega),am (by omega)]at hp;omega)|(rw[aa (by omega),aa (by omega),aa (by omega),aa (by omega)]at hp;omega))
def RI.step {rows:List (List Tm)}{D:List Tm}{now:Nat}(hD:∀ t ∈ D,now<=t.due)(h0:0<now):∀ (f L:Nat) (rows:List (List Tm)),f+L=5->1<=L->RI (rB now L) rows D->RI (Pl now) (Uz now f L rows) D
 | 0,L,rows,hf,hL,h=>h.done h0 hL af
 | f+1,L,rows,hf,hL,h=>by
  unfold Uz;split
  ·rename_i hm;exact RI.step (rows:=rows) hD h0 f (L+1) _ af af (h.Rh hD h0 hL af hm)
  ·rename_i hm;exact h.done h0 hL fun _=>hm
def RI.tick (h:RI (Pl now) rows D)(hD:∀ t ∈ D,now<t.due):RI (Pl (now+1)) (Uz (now+1) 4 1 rows) D :=
 RI.step (rows:=rows) (fun t ht=>hD t ht) af 4 1 rows rfl af (h.mono fun i hi t ht hp=>hp.next (hD t (Rg h hi ht)))
def RI.Gf {D l:List Tm}  (hl:l.Perm D)(hD:∀ t ∈ D,now<=t.due):RI (Pl now) (l.foldl (Xv now) (List.replicate 65 [])) D:=by
 have h0:RI (Pl now) (List.replicate 65 []) []:=⟨by simp,by simp,fun i hi t ht=>by
  have:(List.replicate 65 ([]:List Tm)).getD i []=[]:=by rw[List.getD,List.getElem?_replicate,am hi];rfl
  rw[this]at ht;cases ht⟩
 have:=RI.ka l h0 (now:=now) fun t ht=>Re (hD t (hl.mem_iff.1 ht));rw[append_nil]at this;exact this.jh ((reverse_perm l).trans hl)
def RI.pG (h:RI (Pl now) rows D):(rows.getD (now%16) []).Perm (D.filter fun t=>t.due==now)/\RI (Pl now) (rows.set (now%16) []) (D.filter fun t=>!(t.due==now)):=by
 have hl:=h.len;have hi:now%16<65:=by omega
 have e1:(rows.getD (now%16) []).filter (fun t=>t.due==now)=rows.getD (now%16) []:=filter_eq_self.2 fun t ht=>by
  have:=h.pl _ hi t ht;unfold Pl at this;rw[am af]at this;exact beq_iff_eq.2 af
 have off:∀ t ∈ (rows.set (now%16) []).flatten,t.due≠now:=fun t ht e=>by
  obtain ⟨r,hr,ht⟩:=List.mem_flatten.1 ht;obtain ⟨j,hj,rfl⟩:=List.mem_iff_getElem.1 hr;rw[length_set]at hj;have hg:t ∈ (rows.set (now%16) []).getD j []:=by rw[Lv (by rw[length_set];exact hj)];exact ht
  rw[Da _ af]at hg;split at hg
  ·cases hg
  ·rename_i cf;have:=h.pl j af t hg;unfold Pl at this;subst e
   (repeat' split at this)<;>omega
 have e2:(rows.set (now%16) []).flatten.filter (fun t=>t.due==now)=[]:=List.filter_eq_nil_iff.2 fun t ht=>by simpa using off t ht
 have e3:(rows.set (now%16) []).flatten.filter (fun t=>!(t.due==now))=(rows.set (now%16) []).flatten:=filter_eq_self.2 fun t ht=>by simpa using off t ht
 have e4:(rows.getD (now%16) []).filter (fun t=>!(t.due==now))=[]:=List.filter_eq_nil_iff.2 fun t ht=>by
  have:=(filter_eq_self.1 e1) t ht;simpa using this
 have hp:=(AI rows (now%16) af).symm.trans h.perm;constructor
 ·have:=hp.filter fun t=>t.due == now
  rwa [filter_append,e1,e2,append_nil]at this
 ·refine ⟨by simp[hl],?_,fun j hj t ht=>?_⟩
  ·have:=hp.filter fun t=>!(t.due == now)
   rwa [filter_append,e3,e4,nil_append]at this
  ·rw[Da _ af]at ht;split at ht
   ·cases ht
   ·exact h.pl j hj t ht
def RI.filter (h:RI P rows D)(p:Tm->Bool):RI P (rows.map (List.filter p)) (D.filter p):=by
 refine ⟨by simp[h.len],?_,fun i hi t ht=>?_⟩
 ·rw[<- List.filter_flatten];exact h.perm.filter p
 ·have hl:=h.len;rw[Lv (by simp;omega),List.getElem_map]at ht;have:=(mem_filter.1 ht).1;rw[<- Lv af]at this;exact h.pl i hi t this
def RI.iz (h:RI P rows D)  (hi:i<65):(rows.getD i []).length<=D.length:=by
 have hl:=h.len;have:=((AI rows i af).symm.trans h.perm).length_eq;rw[List.length_append]at this;omega
def kc (a b:Tm):Bool:=decide (a.due<b.due)||(a.due==b.due&&decide (a.id<=b.id))
def rC {a b:Tm}:kc a b=true ↔ a.due<b.due\/a.due=b.due/\a.id<=b.id:=by simp[kc]
def Qtw (a b c:Tm)(h1:kc a b=true)(h2:kc b c=true):kc a c=true:=by
 rw[rC]at *;omega
def Xph (a b:Tm):(kc a b||kc b a)=true:=by
 rw[Bool.or_eq_true,rC,rC];omega
def Xwt {a b:Tm}(h1:kc a b=true)(h2:kc b a=true):a=b:=by
 rw[rC]at *
 cases a;cases b;simp only[Tm.mk.injEq]at *
 omega
def rD (l:List Tm):List Tm:=l.mergeSort kc
def Kz:(rD l).Perm l:=List.mergeSort_perm l kc
def Db:(rD l).Pairwise fun a b=>kc a b=true:=List.pairwise_mergeSort Qtw Xph l
def Ri {l m:List Tm}(hp:m.Perm l)(hm:m.Pairwise fun a b=>kc a b=true):rD l=m :=
 List.Perm.eq_of_pairwise (fun _ _ _ _ h1 h2=>Xwt h1 h2) (Db l) hm ((Kz l).trans hp.symm)
def Xcd {l m:List Tm}(hp:m.Perm l):rD m=rD l:=(Ri ((Kz m).trans hp) (Db m)).symm
def a7 (D:List Tm)(n:Nat):List Int:=(rD (D.filter fun t=>decide (t.due<n))).map (·.id)
def v7 (l:List Int):List Int:=l.mergeSort fun x y=>decide (x<=y)
def Xg8 {l m:List Int}(hp:m.Perm l)(hm:m.Pairwise (·<=·)):v7 l=m:=by
 refine List.Perm.eq_of_pairwise (le:=fun a b:Int=>a<=b) (fun _ _ _ _ h1 h2=>by omega) ?_ hm ((List.mergeSort_perm l _).trans hp.symm);have:=List.pairwise_mergeSort (le:=fun x y:Int=>decide (x<=y)) (fun a b c h1 h2=>by simp at *;omega) (fun a b=>by simp;omega) l;exact this.imp fun h=>by simpa using h
def Qpr {l:List Tm}{n:Nat}(hn:∀ t ∈ l,t.due=n)(h:l.Pairwise fun a b=>kc a b=true):(l.map (·.id)).Pairwise (·<=·):=by
 rw[List.pairwise_map];refine h.imp_of_mem fun {a b} ha hb AF=>?_;have:=hn a ha;have:=hn b hb;rw[rC]at AF;omega
def Xsh (D:List Tm)(n:Nat)(l:List Tm)(hl:l.Perm (D.filter fun t=>t.due==n)):a7 D (n+1)=a7 D n++v7 (l.map (·.id)):=by
 have h1:rD (D.filter fun t=>decide (t.due<n+1))=rD (D.filter fun t=>decide (t.due<n))++rD (D.filter fun t=>t.due==n):=by
  refine Ri ?_ ?_
  ·refine ((Kz _).append (Kz _)).trans ?_;have:=List.filter_append_perm (fun t:Tm=>decide (t.due < n)) (D.filter fun t=>decide (t.due < n + 1));rw[List.filter_filter,List.filter_filter]at this;refine List.Perm.trans (List.Perm.of_eq ?_) this;congr 1
   ·exact filter_congr fun t _=>by by_cases h:t.due<n<;>simp[h]<;>omega
   ·refine filter_congr fun t _=>?_;by_cases h:t.due=n
    ·simp[h]
    ·have:(t.due == n)=false:=by simpa using h
     rw[this];by_cases h2:t.due<n
     ·simp[h2]
     ·have h3:¬ t.due < n + 1:=by omega
      simp[h3]
  ·refine List.pairwise_append.2 ⟨Db _,Db _,fun a ha b hb=>?_⟩;have ha:=(mem_filter.1 ((Kz _).mem_iff.1 ha)).2;have hb:=(mem_filter.1 ((Kz _).mem_iff.1 hb)).2;rw[rC];simp at ha hb;omega
 have h2:v7 (l.map (·.id))=(rD (D.filter fun t=>t.due == n)).map (·.id) :=
  Xg8 (((Kz _).trans hl.symm).map _) (Qpr (n:=n) (fun t ht=>by
   have:=(mem_filter.1 ((Kz _).mem_iff.1 ht)).2;simpa using this) (Db _))
 unfold a7;rw[h1,map_append,h2]
def Xm3 (D:List Tm){n m:Nat}(fU:n<=m)(h:∀ t ∈ D,n<=t.due->m<=t.due):a7 D m=a7 D n:=by
 unfold a7;rw[filter_congr fun t ht=>(by have:=h t ht;by_cases h1:t.due<n<;>by_cases h2:t.due<m<;>simp[h1,h2]<;>omega:decide (t.due<m)=decide (t.due<n))]
def Xpu (D:List Tm)(n:Nat)(h:∀ t ∈ D,n<=t.due):a7 D n=[]:=by
 unfold a7;rw[List.filter_eq_nil_iff.2 fun t ht=>(by have:=h t ht;simp;omega)];simp[rD]
def Yd1:FT Tryz.prog 70 Tryz.f70 (aG Tryz.prog Tryz.f70) [.t 2,.t 3]:=.of Tryz.func70
def Rj:FT Tryz.prog 131 Tryz.f131 (aG Tryz.prog Tryz.f131) [.t 6]:=.of Tryz.func131
def Rk:FT Tryz.prog 98 Tryz.f98 (aG Tryz.prog Tryz.f98) [.t 4,.t 5]:=.of Tryz.func98
def Ybf:FT Tryz.prog 63 Tryz.f63 (aG Tryz.prog Tryz.f63) [.t 2]:=.of Tryz.func63
def Lw:FT Tryz.prog 164 Tryz.f164 (aG Tryz.prog Tryz.f164) [.t 4]:=.of Tryz.func164
def Xdp:FT Tryz.prog 165 Tryz.f165 (aG Tryz.prog Tryz.f165) []:=.of Tryz.func165
def Qy8:FT Tryz.prog 137 Tryz.f137 (aG Tryz.prog Tryz.f137) [.t 4]:=.of Tryz.func137
def Rl:FT Tryz.prog 138 Tryz.f138 (aG Tryz.prog Tryz.f138) []:=.of Tryz.func138
def Rm:FT Tryz.prog 139 Tryz.f139 (aG Tryz.prog Tryz.f139) []:=.of Tryz.func139
def Yeg:FT Tryz.prog 176 Tryz.f176 (aG Tryz.prog Tryz.f176) [.t 3]:=.of Tryz.func176
def Xff:FT Tryz.prog 177 Tryz.f177 (aG Tryz.prog Tryz.f177) [.t 4]:=.of Tryz.func177
def Xfc:FT Tryz.prog 181 Tryz.f181 (aG Tryz.prog Tryz.f181) [.t 4]:=.of Tryz.func181
theorem Yfb (a:AV×AV)(l:List (AV×AV)):(∀ x,x ∈ a::l->Q x)=(Q a/\∀ x,x ∈ l->Q x):=propext List.forall_mem_cons
def Yfr:(∀ x,x ∈ ([]:List (AV×AV))->Q x)=True:=by simp
theorem Xlu (s:FS):iE s []=.aR []:=rfl
theorem Xck (ρ:Nat->Nat)(kvs:List (AV×AV))(dn:Bool):Qw ρ (.az kvs dn)=.az (kvs.map fun p=>(aB ρ p.1,aB ρ p.2)) dn:=rfl
attribute [go_sem] Yfb Yfr Xlu Xck
def sR:cu Tryz.prog 147 false [.int .i64] (.int .i64 0):=cu.mk' (by kernel_rfl)
def whN (n:Int):List AV:=[.int .i64 n,.nils,.nils,.nils,.nils,.nils,.nils,.nils,.nils,.nils,.nils,.nils,.nils,.nils,.nils,.nils,.nils,.nils,.nils,.nils,.nils,.nils,.nils,.nils,.nils,.nils,.nils,.nils,.nils,.nils,.nils,.nils,.nils,.nils,.nils,.nils,.nils,.nils,.nils,.nils,.nils,.nils,.nils,.nils,.nils,.nils,.nils,.nils,.nils,.nils,.nils,.nils,.nils,.nils,.nils,.nils,.nils,.nils,.nils,.nils,.nils,.nils,.nils,.nils,.nils,.nils,.mp 1]
def Yay (n:Int)(h0:0<=n)(h1:n<=1099511627776):GS Tryz.prog gl 70 [.int .i64 n] [] 0 (.aR [.ptr 0 0,.int .i64 0]) [(0,.cells (whN n)),(1,.az [] true)] 2:=by
 refine Yd1.gs (ap rfl) (by simp[Bk.live]) fun c bf hg=>?_
 conv in aG _ _=>cbv
 refine Qa ?_;refine Qc ?_ ?_<;>intro h2
 ·omega
 refine Qa ?_
 (refine zW sR ?_;(refine XG ?_;((try with_reducible and_intros);all_goals try first|refine zm ?_|exact CL)))
 refine ⟨[(0,1),(1,0)],?_⟩;exact Qi @whN.eq_1
def aZ:List Tm->List AV
 | []=>[]
 | t::l=>.int .i64 t.id::.int .i64 t.due::aZ l
def Jv:∀ l,(aZ l).length=l.length*2
 | []=>rfl
 | t::l=>by simp[aZ,Jv l];omega
def v8:∀ l m,aZ (l++m)=aZ l++aZ m
 | [],m=>rfl
 | t::l,m=>by simp[aZ,v8 l m]
theorem Dc (n:Nat):∀ l,ah n (aZ l)=True
 | []=>by simp[aZ,ah]
 | t::l=>by simp[aZ,ah,Qe,Dc n l]
theorem Dd (ρ:Nat->Nat):∀ l,ay ρ (aZ l)=aZ l
 | []=>by simp[aZ,ay]
 | t::l=>by simp[aZ,ay,aB,Dd ρ l]
theorem Qxm (S:Nat->Prop):∀ l,dL S (aZ l)=True
 | []=>by simp[aZ,dL]
 | t::l=>by simp[aZ,dL,dm,Qxm S l]
def Gg:∀ (l:List Tm) (i:Nat) (h:i<l.length),((aZ l).drop (i*2)).take 2=[.int .i64 l[i].id,.int .i64 l[i].due]
 | t::l,0,_=>rfl
 | t::l,i+1,h=>by
  have:=Gg l i (by simpa using h);rw[show (i+1)*2=i*2+1+1 by omega];simpa [aZ] using this
attribute [go_sem] Dc Dd
def qH (l:List Tm):List (List AV):=l.map fun t=>[.int .i64 t.id,.int .i64 t.due]
def Rn:∀ l,(qH l).flatten=aZ l
 | []=>rfl
 | t::l=>by
  have:=Rn l;simp only[qH]at this;simp[qH,aZ,this]
def Ygt:∀ x ∈ qH l,ah 0 x:=fun x hx=>by
 obtain ⟨t,_,rfl⟩:=mem_map.1 hx;simp[ah,Qe]
def Qzk {α β:Type}(f:α->β):∀ {l' l:List β},l'.Perm l->∀ l0:List α,l=l0.map f->∃ l1:List α,l1.Perm l0/\l'=l1.map f:=fun {l' l} h=>by
 induction h with
 | nil=>intro l0 e;exact ⟨[],by cases l0<;>simp_all,rfl⟩
 | cons x h ih =>
  intro l0 e;cases l0 with
  | nil=>simp at e
  | cons a l0 =>
   simp only[map_cons,List.cons.injEq]at e;obtain ⟨l1,h1,h2⟩:=ih l0 e.2;exact ⟨a::l1,h1.cons a,by rw[h2,e.1];rfl⟩
 | swap x y l =>
  intro l0 e
  match l0,e with
  | a::b::l0,e =>
   simp only[map_cons,List.cons.injEq]at e;exact ⟨b::a::l0,List.Perm.swap a b l0,by simp[e.1,e.2.1,e.2.2]⟩
 | trans h1 h2 Ro Rq =>
  intro l0 e;obtain ⟨l1,h3,h4⟩:=Rq l0 e;obtain ⟨l2,h5,h6⟩:=Ro l1 h4;exact ⟨l2,h5.trans h3,h6⟩
def Ycc {g:Nat->GM}   {m:GM}{l:List Tm}(h:BR g W w m (.dM (qH l))):∃ l':List Tm,l'.Perm l/\BR g W w m (.cells (aZ l')):=by
 cases h with
 | dM hp h =>
  obtain ⟨l',h1,h2⟩:=Qzk _ hp l rfl;rw[h2]at h;exact ⟨l',h1,by rw[<- Rn];exact h⟩
def Xdk {g:Nat->GM}   {m:GM}{l l':List Tm}(h:BR g W w m (.cells (aZ l')))(hp:l'.Perm l):BR g W w m (.dM (qH l)):=by
 rw[<- Rn]at h;exact .dM (hp.map _) h
def mV:List (List Tm)->Nat->List AV
 | [],_=>[]
 | r::l,k=>.sl 2 (2+k) 0 r.length r.length::mV l (k+1)
def Kj:List (List Tm)->Nat->List (Nat×Bk)
 | [],_=>[]
 | r::l,k=>(2+k,.cells (aZ r))::Kj l (k+1)
structure WT where
 now:Nat
 rows:List (List Tm)
 mb:Bk
def WT.row (T:WT)(i:Nat):List Tm:=T.rows.getD i []
def WT.cells (T:WT):List AV:=.int .i64 T.now::(mV T.rows 0++[.mp 1])
def WT.h (T:WT):List (Nat×Bk):=(0,.cells T.cells)::(1,T.mb)::Kj T.rows 0
def wa:List (List Tm)->Nat->List (Nat×Bk)
 | [],_=>[]
 | r::l,k=>(2+k,.dM (qH r))::wa l (k+1)
def WT.hb (T:WT):List (Nat×Bk):=(0,.cells T.cells)::(1,T.mb)::wa T.rows 0
structure WT.ji (T' T:WT):Prop where
 now:T'.now=T.now
 mb:T'.mb=T.mb
 len:T'.rows.length=T.rows.length
 row:∀ i,(T'.row i).Perm (T.row i)
def WT.sS (T:WT):T.ji T:=⟨rfl,rfl,rfl,fun _=>List.Perm.refl _⟩
def Qxo:∀ (l l':List (List Tm)) (k:Nat),l.length=l'.length->(∀ i,(l.getD i []).Perm (l'.getD i []))->mV l k=mV l' k
 | [],[],_,_,_=>rfl
 | r::l,r'::l',k,hl,h=>by
  have h0:=(h 0).length_eq;simp only[List.getD_cons_zero]at h0;simp only[mV,h0];rw[Qxo l l' (k+1) (by simpa using hl) fun i=>by have:=h (i+1);simpa only[getD_cons_succ] using this]
def WT.dQ {T T':WT}(h:T'.ji T):T'.cells=T.cells:=by
 unfold WT.cells;rw[h.now,Qxo _ _ 0 h.len h.row]
def WT.put (T:WT)(i:Nat)(l:List Tm):WT:={ T with rows:=T.rows.set i l }
structure WT.wf (T:WT):Prop where
 len:T.rows.length=65
 mb:bX 2 T.mb
def WT.cL {T:WT}(h:T.wf)(i:Nat)(l:List Tm):(T.put i l).wf:=⟨by simp[WT.put,h.len],h.mb⟩
def WT.gX {T:WT}(h:T.wf)  (hi:i<65)(l:List Tm)(j:Nat):(T.put i l).row j=if j=i then l else T.row j:=by
 have hl:=h.len;unfold WT.row WT.put;simp only[List.getD,getElem?_set];by_cases e:i=j
 ·subst e;rw[am rfl,am af,am rfl];rfl
 ·rw[aa e,aa (fun q=>e q.symm)]
def De:∀ (l:List (List Tm)) (k:Nat),(mV l k).length=l.length
 | [],_=>rfl
 | r::l,k=>by simp[mV,De l (k+1)]
def Qxv:∀ (l:List (List Tm)) (k i:Nat),i<l.length->(mV l k)[i]?=some (.sl 2 (2+(k+i)) 0 (l.getD i []).length (l.getD i []).length)
 | r::l,k,0,_=>by simp[mV]
 | r::l,k,i+1,h=>by
  have:=Qxv l (k+1) i (by simpa using h);rw[show k+(i+1)=k+1+i by omega];simpa [mV] using this
def Xa9:∀ (l:List (List Tm)) (k i:Nat) (r:List Tm),i<l.length->(mV l k).set i (.sl 2 (2+(k+i)) 0 r.length r.length)=mV (l.set i r) k
 | q::l,k,0,r,_=>by simp[mV]
 | q::l,k,i+1,r,h=>by
  have:=Xa9 l (k+1) i r (by simpa using h);rw[show k+(i+1)=k+1+i by omega];simpa [mV] using this
def WT.len {T:WT}(h:T.wf):T.cells.length=67:=by simp[WT.cells,De,h.len]
theorem WT.iO (T:WT):T.cells.getD 0 .any=.int .i64 T.now:=rfl
def WT.eV {T:WT}(h:T.wf):T.cells.getD 66 .any=.mp 1:=by
 have hl:=h.len;unfold WT.cells;rw[getD_cons_succ,List.getD_eq_getElem?_getD,List.getElem?_append_right (by rw[De];omega),De,hl];rfl
def WT.iP {T:WT}(h:T.wf)  (hi:i<65):T.cells.getD (i+1) .any=.sl 2 (2+i) 0 (T.row i).length (T.row i).length:=by
 have hl:=h.len;unfold WT.cells WT.row;rw[getD_cons_succ,List.getD_eq_getElem?_getD,List.getElem?_append_left (by rw[De];omega),Qxv _ _ _ af,Nat.zero_add];rfl
def WT.Rr {T:WT}(h:T.wf)  (hi:i<65)(l:List Tm):T.cells.set (i+1) (.sl 2 (2+i) 0 l.length l.length)=(T.put i l).cells:=by
 have hl:=h.len;unfold WT.cells WT.put;rw[List.set_cons_succ,List.set_append_left _ _ (by rw[De];omega)];have:=Xa9 T.rows 0 i l af;rw[Nat.zero_add]at this;rw[this]
theorem WT.Rs (T:WT)(n:Nat):T.cells.set 0 (.int .i64 n)={ T with now:=n }.cells:=rfl
def Xf2:∀ (l:List (List Tm)) (k n:Nat),2+k+l.length<=n->ah n (mV l k)
 | [],_,_,_=>by simp[mV,ah]
 | r::l,k,n,h=>by
  simp only[mV,ah,Qe];simp only[length_cons]at h;exact ⟨by omega,Xf2 l (k+1) n af⟩
def WT.nm {T:WT}(h:T.wf){n:Nat}(hn:67<=n):ah n T.cells:=by
 have hl:=h.len;rw[Xw];intro x hx;unfold WT.cells at hx;rcases mem_cons.1 hx with rfl|hx
 ·simp[Qe]
 ·rcases List.mem_append.1 hx with hx|hx
  ·exact Xw.1 (Xf2 T.rows 0 n af) x hx
  ·simp only[List.mem_singleton]at hx;subst hx;simp only[Qe];omega
def AJ:∀ (l:List (List Tm)) (k n b:Nat),Qb (Kj l k) n b=if 2+k<=b/\b<2+k+l.length then .cells (aZ (l.getD (b-(2+k)) [])) else if b<n then .dead else .free
 | [],k,n,b=>by
  rw[aa (by simp only[List.length_nil];omega)];rfl
 | r::l,k,n,b=>by
  unfold Kj;rw[Qf,AJ l (k+1) n b];by_cases h1:2+k=b
  ·subst h1;rw[am rfl,am av];simp
  ·rw[aa h1];by_cases h2:2 + (k + 1)≤b∧b < 2 + (k + 1) + l.length
   ·rw[am h2,am (by simp;omega),show b-(2+k)=(b-(2+(k+1)))+1 by omega,getD_cons_succ]
   ·rw[aa h2,aa (show ¬ (2+k<=b/\b<2+k+(r::l).length) by simp only[length_cons];omega)]
def WT.iQ {T:WT}(h:T.wf)  (hi:i<65)(n:Nat):Qb (Kj T.rows 0) n (2+i)=.cells (aZ (T.row i)):=by
 have hl:=h.len;rw[AJ,am af,show 2+i-(2+0)=i by omega];rfl
def WT.iH {T:WT}(h:T.wf)(n:Nat){b:Nat}(hb:67<=b):Qb (Kj T.rows 0) n b=if b<n then .dead else .free:=by
 have hl:=h.len;rw[AJ,aa af]
def rE {m n:Nat}(zA:m<=n){x:Bk}(h:bX m x):bX n x:=by
 have up:∀ v,Qe m v→Qe n v:=fun v=>AV.rec (motive_1:=fun v=>Qe m v→Qe n v) (motive_2:=fun l=>ah m l→ah n l) (by simp[Qe]) (fun b v h=>by simpa [Qe] using h) (fun _ _=>by simp[Qe]) (fun _=>by simp[Qe]) (fun _=>by simp[Qe])
  (fun cs h=>by simpa [Qe] using h) (fun cs h=>by simpa [Qe] using h) (fun _ _=>by simp only[Qe];omega) (fun cs _ h=>by simpa [Qe] using h) (fun _ _ _ _ _=>by simp only[Qe];omega) (fun _ cs h=>by simpa [Qe] using h) (by simp[Qe])
  (fun _ cs h=>by simpa [Qe] using h) (fun _=>by simp only[Qe];omega) (fun _=>by simp[Qe]) (by simp[ah]) (fun x xs h1 h2=>by simp only[ah];exact fun ⟨a,b⟩=>⟨h1 a,h2 b⟩) v
 cases x with
 | free=>exact h
 | dead=>exact h
 | cells cs=>exact Xw.2 fun x hx=>up x (Xw.1 h x hx)
 | az kvs dn=>exact fun p hp=>⟨up _ (h p hp).1,up _ (h p hp).2⟩
 | bp kvs bs ck=>exact fun p hp=>⟨up _ (h p hp).1,up _ (h p hp).2⟩
 | iter b ck seen=>exact Nat.lt_of_lt_of_le h zA
 | dM ls=>exact h
def wc {ρ:Nat->Nat}{n:Nat}(h:∀ b,b<n->ρ b=b):∀ v,Qe n v->aB ρ v=v:=fun v=>AV.rec (motive_1:=fun v=>Qe n v->aB ρ v=v) (motive_2:=fun l=>ah n l->ay ρ l=l) (by simp[aB]) (fun b v h1 h2=>by simp only[Qe]at h2;simp only[aB,h1 h2]) (fun _ _=>by simp[aB]) (fun _=>by simp[aB]) (fun _=>by simp[aB])
  (fun cs h1 h2=>by simp only[Qe]at h2;simp only[aB,h1 h2]) (fun cs h1 h2=>by simp only[Qe]at h2;simp only[aB,h1 h2]) (fun b _ h2=>by simp only[Qe]at h2;simp only[aB,h b h2]) (fun cs _ h1 h2=>by simp only[Qe]at h2;simp only[aB,h1 h2]) (fun _ b _ _ _ h2=>by simp only[Qe]at h2;simp only[aB,h b h2]) (fun _ cs h1 h2=>by simp only[Qe]at h2;simp only[aB,h1 h2]) (by simp[aB])
  (fun _ cs h1 h2=>by simp only[Qe]at h2;simp only[aB,h1 h2]) (fun b h2=>by simp only[Qe]at h2;simp only[aB,h b h2]) (fun _=>by simp[aB]) (by simp[ay]) (fun x xs h1 h2=>by simp only[ah,ay];exact fun ⟨a,b⟩=>by rw[h1 a,h2 b]) v
theorem Lx {ρ:Nat->Nat}{n:Nat}(h:∀ b,b<n->ρ b=b){x:Bk}(hx:bX n x):Qw ρ x=x:=by
 cases x with
 | free=>rfl
 | dead=>rfl
 | cells cs =>
  simp only[Qw,Zx];congr 1;exact (List.map_congr_left fun v hv=>wc h v (Xw.1 hx v hv)).trans (map_id cs)
 | az kvs dn =>
  simp only[Qw];congr 1;exact (List.map_congr_left fun q hq=>by rw[wc h _ (hx q hq).1,wc h _ (hx q hq).2];rfl).trans (map_id kvs)
 | bp kvs bs ck =>
  simp only[Qw];congr 1;exact (List.map_congr_left fun q hq=>by rw[wc h _ (hx q hq).1,wc h _ (hx q hq).2];rfl).trans (map_id kvs)
 | iter b ck seen=>simp only[Qw];rw[h b hx]
 | dM ls=>rfl
def AK:∀ (l:List (List Tm)) (k:Nat) (q:Nat×Bk),q ∈ Kj l k->2+k<=q.1/\q.1<2+k+l.length/\q.2=.cells (aZ (l.getD (q.1-(2+k)) []))
 | r::l,k,q,h=>by
  unfold Kj at h;rcases mem_cons.1 h with rfl|h
  ·simp
  ·obtain ⟨h1,h2,h3⟩:=AK l (k+1) q h;refine ⟨by omega,by simp;omega,?_⟩;rw[h3,show q.1-(2+k)=(q.1-(2+(k+1)))+1 by omega,getD_cons_succ]
def Qyw:∀ (l:List (List Tm)) (k b:Nat),2+k<=b->b<2+k+l.length->∃ q ∈ Kj l k,q.1=b
 | [],k,b,h1,h2=>by simp at h2;omega
 | r::l,k,b,h1,h2=>by
  by_cases e:b=2+k
  ·exact ⟨(2+k,.cells (aZ r)),by simp[Kj],e.symm⟩
  ·obtain ⟨q,h3,h4⟩:=Qyw l (k+1) b af (by simp at h2;omega);exact ⟨q,by simp[Kj,h3],h4⟩
def WT.look {T:WT}(h:T.wf)(n:Nat)  (hq:q ∈ T.h):Qb T.h n q.1=q.2:=by
 have hl:=h.len;unfold WT.h at hq ⊢;rcases mem_cons.1 hq with rfl|hq
 ·rw[Qf,am rfl]
 rcases mem_cons.1 hq with rfl|hq
 ·rw[Qf,aa av,Qf,am rfl]
 obtain ⟨h1,h2,h3⟩:=AK _ _ _ hq;rw[Qf,aa af,Qf,aa af,AJ,am ⟨h1,h2⟩,h3]
def WT.as {T:WT}(h:T.wf):HL T.h 67:=by
 have hl:=h.len;refine ⟨fun q hq=>?_,fun b hb=>?_,fun q hq=>WT.look h 67 hq⟩
 ·unfold WT.h at hq;rcases mem_cons.1 hq with rfl|hq
  ·exact ⟨by show 0<67;decide,WT.nm h af⟩
  rcases mem_cons.1 hq with rfl|hq
  ·exact ⟨by show 1<67;decide,rE af h.mb⟩
  obtain ⟨h1,h2,h3⟩:=AK _ _ _ hq;refine ⟨by omega,?_⟩;rw[h3];simp[bX,Dc]
 ·unfold WT.h;by_cases h0:b=0
  ·exact ⟨(0,.cells T.cells),by simp,h0.symm⟩
  by_cases h1:b=1
  ·exact ⟨(1,T.mb),by simp,h1.symm⟩
  obtain ⟨q,h2,h3⟩:=Qyw T.rows 0 b af af;exact ⟨q,by simp[h2],h3⟩
def WT.key {T:WT}(h:T.wf)  (hq:q ∈ T.h):q.1<67:=((WT.as h).mem q hq).1
def To.wh {p:List Nat}{n':Nat}{s:St}{t':List (Nat×AV)}{ex:List (Nat×Bk)}{T':WT}(hT:T'.wf)(ρ:Nat->Nat)(hp:∀ b,b ∈ p->ρ b=b/\b<n')(hn:67<=n')(ct:∀ b b',b<n'->b'<n'->ρ b=ρ b'->b=b')
  (h0:Qb s.h s.n (ρ 0)=.cells (ay ρ T'.cells)) (h1:Qb s.h s.n (ρ 1)=Qw ρ T'.mb) (hr:∀ i,i<65->Qb s.h s.n (ρ (2+i))=.cells (aZ (T'.row i)))
  (ht:Qs ρ n' s.t t') (hx:qd ρ n' s ex) (hk:∀ q ∈ ex,67<=q.1):To p s ⟨t',ex++T'.h,n'⟩:=by
 have hl:=hT.len;refine To.ER (ρ:=ρ) hp ⟨ht,?_⟩;have fact:∀ q ∈ T'.h,q.1<n'/\bX n' q.2/\Qb s.h s.n (ρ q.1)=Qw ρ q.2:=fun q hq=>by
  have BT:=hq;obtain ⟨m1,m2⟩:=(WT.as hT).mem q hq;refine ⟨by omega,rE hn m2,?_⟩;unfold WT.h at hq;rcases mem_cons.1 hq with rfl|hq
  ·rw[h0];rfl
  rcases mem_cons.1 hq with rfl|hq
  ·exact h1
  obtain ⟨g1,g2,g3⟩:=AK _ _ _ hq;have:=hr (q.1-2) af;rw[show 2+(q.1-2)=q.1 by omega]at this;rw[this,g3];simp only[Qw,Dd];rfl
 have not:∀ (b:Nat) (l:List (Nat×Bk)),b<n'->(∀ q ∈ l,q.1<n'/\q.1≠b)->vh ρ b l:=fun b l hb=>by
  induction l with
  | nil=>intro _;trivial
  | cons q l ih =>
   intro hl;obtain ⟨i,x⟩:=q;obtain ⟨h1,h2⟩:=hl (i,x) av;exact ⟨fun e=>h2 (ct _ _ h1 hb e),ih fun q hq=>hl q (by simp[hq])⟩
 have AL:∀ (l:List (List Tm)) (k:Nat),(∀ q ∈ Kj l k,q.1<n'/\bX n' q.2/\Qb s.h s.n (ρ q.1)=Qw ρ q.2)->qd ρ n' s (Kj l k):=fun l=>by
  induction l with
  | nil=>intro k _;trivial
  | cons r l ih =>
   intro k hq;obtain ⟨a1,a2,a3⟩:=hq (2+k,.cells (aZ r)) (by simp[Kj]);refine ⟨⟨a1,a2,a3,not _ _ a1 fun q db=>?_⟩,ih (k+1) fun q db=>hq q (by simp[Kj,db])⟩;obtain ⟨b1,b2,_⟩:=AK _ _ _ db;exact ⟨(hq q (by simp[Kj,db])).1,by omega⟩
 have base:qd ρ n' s T'.h:=by
  unfold WT.h;obtain ⟨a1,a2,a3⟩:=fact (0,.cells T'.cells) (by simp[WT.h]);obtain ⟨b1,b2,b3⟩:=fact (1,T'.mb) (by simp[WT.h]);refine ⟨⟨a1,a2,a3,not _ _ a1 fun q hq=>?_⟩,⟨b1,b2,b3,not _ _ b1 fun q hq=>?_⟩,AL _ _ fun q hq=>fact q (by simp[WT.h,hq])⟩
  ·have:=(fact q (by simp only[WT.h];exact List.mem_cons_of_mem _ hq)).1;rcases mem_cons.1 hq with rfl|hq
   ·exact ⟨this,by simp⟩
   ·obtain ⟨c1,c2,_⟩:=AK _ _ _ hq;exact ⟨this,by omega⟩
  ·obtain ⟨c1,c2,_⟩:=AK _ _ _ hq;exact ⟨by omega,by omega⟩
 have app:∀ l:List (Nat×Bk),(∀ q ∈ l,67<=q.1)->qd ρ n' s l->qd ρ n' s (l++T'.h):=fun l=>by
  induction l with
  | nil=>intro _ _;exact base
  | cons q l ih =>
   intro hk hs;obtain ⟨i,x⟩:=q;obtain ⟨⟨a1,a2,a3,a4⟩,a5⟩:=hs;refine ⟨⟨a1,a2,a3,?_⟩,ih (fun q hq=>hk q (by simp[hq])) a5⟩;have cq:=hk (i,x) av;have Rt:∀ (l1 l2:List (Nat×Bk)),vh ρ i l1->vh ρ i l2->vh ρ i (l1++l2):=fun l1 l2=>by
    induction l1 with
    | nil=>intro _ h;exact h
    | cons q l1 ih=>obtain ⟨j,y⟩:=q;intro h1 h2;exact ⟨h1.1,ih h1.2 h2⟩
   exact Rt _ _ a4 (not _ _ a1 fun q hq=>⟨(fact q hq).1,by have:=WT.key hT hq;dsimp only at cq;omega⟩)
 exact app ex hk hx
def Ru:∀ (l:List (List Tm)) (k n b:Nat),Qb (wa l k) n b=if 2+k<=b/\b<2+k+l.length then .dM (qH (l.getD (b-(2+k)) [])) else if b<n then .dead else .free
 | [],k,n,b=>by
  rw[aa (by simp only[List.length_nil];omega)];rfl
 | r::l,k,n,b=>by
  unfold wa;rw[Qf,Ru l (k+1) n b];by_cases h1:2+k=b
  ·subst h1;rw[am rfl,am av];simp
  ·rw[aa h1];by_cases h2:2 + (k + 1)≤b∧b < 2 + (k + 1) + l.length
   ·rw[am h2,am (by simp;omega),show b-(2+k)=(b-(2+(k+1)))+1 by omega,getD_cons_succ]
   ·rw[aa h2,aa (show ¬ (2+k<=b/\b<2+k+(r::l).length) by simp only[length_cons];omega)]
def Rv:∀ (l:List (List Tm)) (k:Nat) (q:Nat×Bk),q ∈ wa l k->2+k<=q.1/\q.1<2+k+l.length/\q.2=.dM (qH (l.getD (q.1-(2+k)) []))
 | r::l,k,q,h=>by
  unfold wa at h;rcases mem_cons.1 h with rfl|h
  ·simp
  ·obtain ⟨h1,h2,h3⟩:=Rv l (k+1) q h;refine ⟨by omega,by simp;omega,?_⟩;rw[h3,show q.1-(2+k)=(q.1-(2+(k+1)))+1 by omega,getD_cons_succ]
def Qtl:∀ (l:List (List Tm)) (k b:Nat),2+k<=b->b<2+k+l.length->∃ q ∈ wa l k,q.1=b
 | [],k,b,h1,h2=>by simp at h2;omega
 | r::l,k,b,h1,h2=>by
  by_cases e:b=2+k
  ·exact ⟨(2+k,.dM (qH r)),by simp[wa],e.symm⟩
  ·obtain ⟨q,h3,h4⟩:=Qtl l (k+1) b af (by simp at h2;omega);exact ⟨q,by simp[wa,h3],h4⟩
def WT.iA {T:WT}(h:T.wf):HL T.hb 67:=by
 have hl:=h.len;refine ⟨fun q hq=>?_,fun b hb=>?_,fun q hq=>?_⟩
 ·unfold WT.hb at hq;rcases mem_cons.1 hq with rfl|hq
  ·exact ⟨by show 0<67;decide,WT.nm h af⟩
  rcases mem_cons.1 hq with rfl|hq
  ·exact ⟨by show 1<67;decide,rE af h.mb⟩
  obtain ⟨h1,h2,h3⟩:=Rv _ _ _ hq;refine ⟨by omega,?_⟩;rw[h3];exact Ygt _
 ·unfold WT.hb;by_cases h0:b=0
  ·exact ⟨(0,.cells T.cells),by simp,h0.symm⟩
  by_cases h1:b=1
  ·exact ⟨(1,T.mb),by simp,h1.symm⟩
  obtain ⟨q,h2,h3⟩:=Qtl T.rows 0 b af af;exact ⟨q,by simp[h2],h3⟩
 ·unfold WT.hb at hq ⊢;rcases mem_cons.1 hq with rfl|hq
  ·rw[Qf,am rfl]
  rcases mem_cons.1 hq with rfl|hq
  ·rw[Qf,aa av,Qf,am rfl]
  obtain ⟨h1,h2,h3⟩:=Rv _ _ _ hq;rw[Qf,aa af,Qf,aa af,Ru,am ⟨h1,h2⟩,h3]
def WT.bG (T:WT)(n b:Nat):Qb T.h n b=if 0=b then .cells T.cells else if 1=b then T.mb else if 2<=b/\b<2+T.rows.length then .cells (aZ (T.row (b-2))) else if b<n then .dead else .free:=by
 unfold WT.h WT.row;rw[Qf,Qf,AJ]
def WT.ef (T:WT)(n b:Nat):Qb T.hb n b=if 0=b then .cells T.cells else if 1=b then T.mb else if 2<=b/\b<2+T.rows.length then .dM (qH (T.row (b-2))) else if b<n then .dead else .free:=by
 unfold WT.hb WT.row;rw[Qf,Qf,Ru]
def Qoc {Q:Nat->List Tm->Prop}:∀ (rows:List (List Tm)) (k:Nat),(∀ j,j<rows.length->∃ l':List Tm,l'.Perm (rows.getD j [])/\Q (k+j) l')->∃ jK:List (List Tm),jK.length=rows.length/\(∀ j,(jK.getD j []).Perm (rows.getD j []))/\∀ j,j<rows.length->Q (k+j) (jK.getD j [])
 | [],k,_=>⟨[],rfl,fun _=>List.Perm.refl _,fun j hj=>by simp at hj⟩
 | r::rows,k,h=>by
  obtain ⟨l',h1,h2⟩:=h 0 av;obtain ⟨jK,g1,g2,g3⟩:=Qoc (Q:=Q) rows (k+1) fun j hj=>by
   have:=h (j+1) (by simpa using hj);rw[show k+1+j=k+(j+1) by omega];simpa only[getD_cons_succ] using this
  refine ⟨l'::jK,by simp[g1],fun j=>?_,fun j hj=>?_⟩
  ·cases j with
   | zero=>simpa using h1
   | succ j=>simpa only[getD_cons_succ] using g2 j
  ·cases j with
   | zero=>simpa using h2
   | succ j =>
    have:=g3 j (by simpa using hj);rw[show k+1+j=k+(j+1) by omega]at this;simpa only[getD_cons_succ] using this
def WT.cd {g:Nat->GM}   {T:WT}(hR:R c g (dD T.hb 67) a w):∃ T':WT,T'.ji T/\R c g (dD T'.h 67) a w:=by
 have hk:∀ j,j<T.rows.length->∃ l':List Tm,l'.Perm (T.rows.getD j [])/\(fun i (l':List Tm)=>BR g (Qm c g (dD T.hb 67)) w (g (2+i)) (.cells (aZ l'))) (0+j) l':=fun j hj=>by
  have hb:=hR.h (2+j);have e:(dD T.hb 67).H (2+j)=.dM (qH (T.rows.getD j [])):=by
   show Qb T.hb 67 (2+j)=_;rw[WT.ef,aa af,aa af,am af,show 2+j-2=j by omega];rfl
  rw[e]at hb;rw[Nat.zero_add];exact Ycc hb
 obtain ⟨jK,h1,h2,h3⟩:=Qoc (Q:=fun i (l':List Tm)=>BR g (Qm c g (dD T.hb 67)) w (g (2+i)) (.cells (aZ l'))) T.rows 0 hk;have hs:WT.ji { T with rows:=jK } T:=⟨rfl,rfl,h1,h2⟩
 refine ⟨_,hs,hR.gQ (fun _ _ h=>h) (fun b hb=>?_) fun b=>?_⟩
 ·show BR _ _ _ _ (Qb (WT.h _) 67 b);have e:(dD T.hb 67).H b=Qb T.hb 67 b:=rfl;rw[e,WT.ef]at hb;rw[WT.bG,WT.dQ hs,h1];by_cases c0:0=b
  ·rw[am c0]at hb ⊢;exact hb
  rw[aa c0]at hb ⊢;by_cases c1:1=b
  ·rw[am c1]at hb ⊢;exact hb
  rw[aa c1]at hb ⊢;by_cases c2:2<=b/\b<2+T.rows.length
  ·rw[am c2];have:=h3 (b-2) af;rw[Nat.zero_add,show 2+(b-2)=b by omega]at this;exact this
  ·rw[aa c2]at hb ⊢;exact hb
 ·show (Qb _ 67 b).live ↔ (Qb T.hb 67 b).live;rw[WT.bG,WT.ef,WT.dQ hs,h1]
  (repeat' split)<;>first|exact Iff.rfl|exact ⟨fun _=>trivial,fun _=>trivial⟩
def WT.cls {g:Nat->GM}   {T T':WT}(hs:T'.ji T)(hR:R c g (dD T'.h 67) a w):R c g (dD T.hb 67) a w:=by
 refine hR.gQ (fun _ _ h=>h) (fun b hb=>?_) fun b=>?_
 ·show BR _ _ _ _ (Qb T.hb 67 b);have e:(dD T'.h 67).H b=Qb T'.h 67 b:=rfl;rw[e,WT.bG,WT.dQ hs,hs.mb,hs.len]at hb;rw[WT.ef];by_cases h0:0=b
  ·rw[am h0]at hb ⊢;exact hb
  rw[aa h0]at hb ⊢;by_cases h1:1=b
  ·rw[am h1]at hb ⊢;exact hb
  rw[aa h1]at hb ⊢;by_cases h2:2<=b/\b<2+T.rows.length
  ·rw[am h2]at hb ⊢;exact Xdk hb (hs.row _)
  ·rw[aa h2]at hb ⊢;exact hb
 ·show (Qb T.hb 67 b).live ↔ (Qb T'.h 67 b).live;rw[WT.bG,WT.ef,WT.dQ hs,hs.len,hs.mb]
  (repeat' split)<;>first|exact Iff.rfl|exact ⟨fun _=>trivial,fun _=>trivial⟩
def Df {P:Program}{gl:Nat->AV}{f:FuncId}{args:List AV}  {r:AV}{T T2:WT}(h:∀ T':WT,T'.ji T->GQ P gl f args T'.h 67 p (fun Gh:WT=>Gh.ji T2) (fun _=>r) WT.h):GD P gl f args T.hb 67 p r T2.hb:=by
 refine ⟨(h T T.sS).1,fun w vs G X g hR hv=>?_⟩;obtain ⟨T',hs,bh⟩:=WT.cd hR;have hW:Qm ⟨0,w,G,X,gl,[]⟩ g (dD T'.h 67)=Qm ⟨0,w,G,X,gl,[]⟩ g (dD T.hb 67):=by
  funext k;have hl:∀ b,((dD T'.h 67).H b).live ↔ ((dD T.hb 67).H b).live:=fun b=>by
   show (Qb T'.h 67 b).live ↔ (Qb T.hb 67 b).live;rw[WT.bG,WT.ef,WT.dQ hs,hs.len,hs.mb]
   (repeat' split)<;>first|exact Iff.rfl|exact ⟨fun _=>trivial,fun _=>trivial⟩
  simp only[Qm,hl]
 refine ((h T' hs).2 w vs G X g bh (by rw[hW];exact hv)).mono fun e w' ⟨Gh,v,g',q1,q2,q3,q4,q5⟩=>?_;refine ⟨(),v,g',trivial,q2,WT.cls q1 q3,q4,?_⟩;have qg:Qm ⟨0,w,G,X,gl,[]⟩ g' (dD Gh.h 67)=Qm ⟨0,w,G,X,gl,[]⟩ g' (dD T2.hb 67):=by
  funext k;have hl:∀ b,((dD Gh.h 67).H b).live ↔ ((dD T2.hb 67).H b).live:=fun b=>by
   show (Qb Gh.h 67 b).live ↔ (Qb T2.hb 67 b).live;rw[WT.bG,WT.ef,WT.dQ q1,q1.len,q1.mb]
   (repeat' split)<;>first|exact Iff.rfl|exact ⟨fun _=>trivial,fun _=>trivial⟩
  simp only[Qm,hl]
 rw[<- qg];exact q5
def WT.gw {T:WT}(h:T.wf)(j:Nat)(hj:j<67):j=0\/j=66\/∃ i,i<65/\j=i+1:=by
 by_cases h0:j=0
 ·exact .inl h0
 by_cases h1:j=66
 ·exact .inr (.inl h1)
 ·exact .inr (.inr ⟨j-1,by omega,by omega⟩)
def Ly {l l':List AV}(hl:l.length=l'.length)(h:∀ j,j<l.length->l.getD j .any=l'.getD j .any):l=l':=by
 refine List.ext_getElem hl fun j h1 h2=>?_;have:=h j h1;simpa [List.getD,h1,h2] using this
def Ww (i N b:Nat):Nat:=if b=2+i then N else b
def Xx2 {T:WT}(hT:T.wf)  (hi:i<65)(l:List Tm)(N:Nat):ay (Ww i N) (T.put i l).cells=T.cells.set (i+1) (.sl 2 N 0 l.length l.length):=by
 have hw:=WT.cL hT i l;have jg:=WT.len hT;have hl2:=WT.len hw;refine Ly (by rw[Yr,length_set,jg,hl2]) fun j hj=>?_;rw[Yr,hl2]at hj;rw[Ky];have bw:∀ v,(T.cells.set (i+1) v).getD j .any=if j=i+1 then v else T.cells.getD j .any:=fun v=>by
  simp only[List.getD,getElem?_set];by_cases e:i+1=j
  ·subst e;rw[am rfl,am af,am rfl];rfl
  ·rw[aa e,aa fun q=>e q.symm]
 rw[bw];rcases WT.gw hT j hj with rfl|rfl|⟨i',n8,rfl⟩
 ·rw[aa af];simp only[WT.iO,aB];rfl
 ·rw[aa af,WT.eV hw,WT.eV hT];simp only[aB,Ww];rw[aa af]
 ·rw[WT.iP hw n8,WT.iP hT n8,WT.gX hT hi];by_cases e:i'=i
  ·subst e;simp[aB,Ww]
  ·rw[aa e,aa af];simp only[aB,Ww];rw[aa af]
def To.put {p:List Nat}{n':Nat}{s:St}{t':List (Nat×AV)}{ex:List (Nat×Bk)}{T:WT}(hT:T.wf){i N:Nat}(hi:i<65){l:List Tm}(hN:67<=N)(hn:67<=n')(hp:∀ b,b ∈ p->b<n'/\b≠2+i)(hNn:n'<=N)
  (h0:Qb s.h s.n 0=.cells (T.cells.set (i+1) (.sl 2 N 0 l.length l.length))) (h1:Qb s.h s.n 1=T.mb) (hl:Qb s.h s.n N=.cells (aZ l)) (hr:∀ j,j<65->j≠i->Qb s.h s.n (2+j)=.cells (aZ (T.row j)))
  (ht:Qs (Ww i N) n' s.t t') (hx:qd (Ww i N) n' s ex) (hk:∀ q ∈ ex,67<=q.1):To p s ⟨t',ex++(T.put i l).h,n'⟩:=by
 have hw:=WT.cL hT i l;refine To.wh hw (Ww i N) (fun b hb=>⟨by unfold Ww;rw[aa (hp b hb).2],(hp b hb).1⟩) hn (fun b b' hb bL e=>?_) ?_ ?_ (fun j hj=>?_) ht hx hk
 ·unfold Ww at e
  (repeat' split at e)<;>omega
 ·rw[Xx2 hT hi,show Ww i N 0=0 by unfold Ww;rw[aa af]];exact h0
 ·rw[show Ww i N 1=1 by unfold Ww;rw[aa af],h1];show T.mb=Qw _ T.mb;exact (Lx (fun b hb=>by unfold Ww;rw[aa af]) hT.mb).symm
 ·rw[WT.gX hT hi];unfold Ww;by_cases e:j=i
  ·subst e;rw[am rfl,am rfl];exact hl
  ·rw[aa af,aa e];exact hr j hj e
def To.eW {t t':List (Nat×AV)}{ex:List (Nat×Bk)}{T:WT}{n:Nat}(hT:T.wf)(hp:∀ b,b ∈ p->b<67)(hex:∀ q ∈ ex,67<=q.1)(ht:Qs id 67 t t'):To p ⟨t,ex++T.h,n⟩ ⟨t',T.h,67⟩:=by
 have hl:=hT.len;have hs:∀ b,b<67->Qb (ex++T.h) n b=Qb T.h n b:=fun b hb=>Xl fun q hq e=>by have:=hex q hq;omega
 refine To.wh (ex:=[]) hT id (fun b hb=>⟨rfl,hp b hb⟩) af (fun b b' _ _ e=>e) ?_ ?_ (fun i hi=>?_) ht trivial (fun q hq=>by cases hq)
 ·show Qb (ex++T.h) n 0=_;rw[hs 0 af,WT.bG,am rfl,ql]
 ·show Qb (ex++T.h) n 1=_;rw[hs 1 af,WT.bG,aa af,am rfl,ru]
 ·show Qb (ex++T.h) n (2+i)=_;rw[hs _ af,WT.bG,aa af,aa af,am af,show 2+i-2=i by omega]
def Yid {ρ:List (Nat×Nat)}(h:ρ.all (fun q=>decide (67<=q.1)&&decide (67<=q.2))=true):∀ b,(b<67->rl ρ b=b)/\(67<=b->67<=rl ρ b):=by
 induction ρ with
 | nil=>exact fun b=>⟨fun _=>rfl,fun h=>h⟩
 | cons q ρ ih =>
  obtain ⟨i,j⟩:=q;simp only[List.all_cons,Bool.and_eq_true,decide_eq_true_eq]at h;intro b;have:=ih h.2 b;show (b<67->(bif i==b then j else rl ρ b)=b)/\(67<=b->67<=(bif i==b then j else rl ρ b))
  cases e:i==b with
  | true =>
   have:i=b:=by simpa using e
   exact ⟨fun h2=>by omega,fun _=>h.1.2⟩
  | false=>exact this
def To.Rw {p:List Nat}{n':Nat}{s:St}{t':List (Nat×AV)}{ex:List (Nat×Bk)}{T:WT}(ρ:List (Nat×Nat))(hT:T.wf)(hp:∀ b,b ∈ p->b<67)(hn:67<=n')(hρ:ρ.all (fun q=>decide (67<=q.1)&&decide (67<=q.2))=true)
  (hd:Ck ((List.range (n'-67)).map fun i=>rl ρ (67+i))=true) (hs:∀ b,b<67->Qb s.h s.n b=Qb T.h 67 b) (ht:Qs (rl ρ) n' s.t t') (hx:qd (rl ρ) n' s ex) (hk:∀ q ∈ ex,67<=q.1):To p s ⟨t',ex++T.h,n'⟩:=by
 have hl:=hT.len;have fH:=Yid hρ;refine To.wh hT (rl ρ) (fun b hb=>⟨(fH b).1 (hp b hb),by have:=hp b hb;omega⟩) hn (fun b b' hb bL e=>?_) ?_ ?_ (fun i hi=>?_) ht hx hk
 ·by_cases h1:b < 67<;>by_cases h2:b' < 67
  ·rw[(fH b).1 h1,(fH b').1 h2]at e;exact e
  ·rw[(fH b).1 h1]at e;have:=(fH b').2 af;omega
  ·rw[(fH b').1 h2]at e;have:=(fH b).2 af;omega
  ·have:=N7 hd (b-67) (b'-67) (by simp;omega) (by simp;omega) (by
    simp only[List.getD,List.getElem?_map,List.getElem?_range (show b-67<n'-67 by omega),List.getElem?_range (show b'-67<n'-67 by omega),Option.map_some,Option.getD_some];rw[show 67+(b-67)=b by omega,show 67+(b'-67)=b' by omega];exact e)
   omega
 ·rw[(fH 0).1 af,hs 0 af,WT.bG,am rfl];congr 1;refine (((Ly (by rw[Yr]) fun j hj=>?_):ay (rl ρ) T.cells=T.cells)).symm;rw[Yr,WT.len hT]at hj;rw[Ky];refine wc (fun b hb=>(fH b).1 hb) _ (Jc (WT.nm hT (Nat.le_refl 67)) j)
 ·rw[(fH 1).1 af,hs 1 af,WT.bG,aa af,am rfl];exact (Lx (fun b hb=>(fH b).1 af) hT.mb).symm
 ·rw[(fH (2+i)).1 af,hs _ af,WT.bG,aa af,aa af,am af,show 2+i-2=i by omega]
theorem Yfx (i N:Nat):Ww i N 0=0:=by unfold Ww;rw[aa (by omega)]
theorem Yfz (i N:Nat):Ww i N 1=1:=by unfold Ww;rw[aa (by omega)]
def To.off {p:List Nat}{s:St}{T:WT}{i k:Nat}{l:List Tm}{t':List (Nat×AV)}(hT:T.wf)(hi:i<65)(hl:T.row i=l)(h0:Qb s.h s.n 0=.cells (T.cells.set (i+1) .nils))(hs:∀ b,b≠0->b<67->Qb s.h s.n b=Qb T.h 67 b)
  (hf:s.fs.H s.n=.free) (hn:67<=s.n) (hk:look s.t k=.sl 2 (2+i) 0 l.length l.length) (hp:∀ b,b ∈ p->b<2) (ht:Qs (Ww i s.n) 67 ((k,.isl l.length (aZ l))::s.t) t'):To p s ⟨t',(T.put i []).h,67⟩:=by
 have fQ:=hT.len;have aY:=WT.len hT;refine To.trans (To.jZ (b:=0) (j:=i+1) (es:=2) h0 (by rw[List.getElem?_set_self af]) hf) ?_;rw[List.set_set];have dg:Qb s.h (s.n+1) (2+i)=.cells (aZ l):=by
  rw[Wa _ _ _ af,hs _ af af,WT.bG,aa af,aa af,am af,show 2+i-2=i by omega,hl]
 refine To.trans (To.gM (b:=2+i) (i:=k) (cs:=aZ l) (es:=2) (off:=0) (n:=l.length) (k:=l.length) ?_ hk) ?_
 ·show Qb ((0,_)::(s.n,_)::s.h) (s.n+1) (2+i)=_;rw[Qf,aa af,Qf,aa af];exact dg
 have ea:((aZ l).drop 0).take (l.length*2)=aZ l:=by rw[List.drop_zero,take_of_length_le (by rw[Jv];omega)]
 rw[ea];refine To.put (ex:=[]) hT hi (N:=s.n) hn af (fun b hb=>by have:=hp b hb;omega) hn ?_ ?_ ?_ (fun j hj cf=>?_) ht trivial (fun q hq=>by cases hq)
 ·show Qb ((2+i,_)::(0,_)::(s.n,_)::s.h) (s.n+1) 0=_;rw[Qf,aa af,Qf,am rfl];rfl
 ·show Qb ((2+i,_)::(0,_)::(s.n,_)::s.h) (s.n+1) 1=_;rw[Qf,aa af,Qf,aa af,Qf,aa af,Wa _ _ _ af,hs 1 af af,WT.bG,aa af,am rfl]
 ·show Qb ((2+i,_)::(0,_)::(s.n,_)::s.h) (s.n+1) s.n=_;rw[Qf,aa af,Qf,aa af,Qf,am rfl];rfl
 ·show Qb ((2+i,_)::(0,_)::(s.n,_)::s.h) (s.n+1) (2+j)=_;rw[Qf,aa af,Qf,aa af,Qf,aa af,Wa _ _ _ af,hs _ af af,WT.bG,aa af,aa af,am af,show 2+j-2=j by omega]
def jX (b:Nat):Prop:=b<2\/67<=b
def xW {P:Program}{c:Cx}{r0:List bB}{K:St->Prop}{s:St}{d:Option Nat}{f:FuncId}{xs:List TV}{args:List AV}{T:WT}{ι:Type}{Q:ι->Prop}{r:ι->AV}{W:ι->WT}{pc:List Nat}(hq:GQ P c.gl f args T.h 67 [0,1] Q r (fun x=>(W x).h))(hT:T.wf)(hW:∀ x,Q x->(W x).wf)
  (bf:∀ q ∈ c.gh,q.1 ∈ pc) (Lz:∀ b ∈ pc,jX b) (t:List (Nat×AV)) (ex:List (Nat×Bk)) (n:Nat) (jj:To pc s ⟨t,ex++T.h,n⟩) (hex:∀ q ∈ ex,67<=q.1/\sw jX q.2)
  (hc:Qr none (aD c.gl (⟨t,ex++T.h,n⟩:St).fs xs)/\(aD c.gl (⟨t,ex++T.h,n⟩:St).fs xs).map Qh=args/\ah 67 args/\zY jX t) (hr:∀ x,Q x->Qe 67 (r x)) (hk:∀ x,Q x->XP P c r0 K (St.ca ⟨t,ex++(W x).h,n⟩ d (r x))):Yo P c (.pd d (.call f) xs none) r0 K s:=by
 have hS:jX=vC id [0,1] 67:=by
  funext b;refine propext ⟨fun h b' bL e=>?_,fun h=>?_⟩
  ·show b' ∈ [0,1];have e:b'=b:=e;rcases h with h|h
   ·have:b'=0∨b'=1:=by omega
    simpa using this
   ·omega
  ·by_cases hb:b < 67
   ·have:=h b hb rfl;simp at this;exact .inl af
   ·exact .inr af
 refine Yiv (σ:=id) hq bf t ex ⟨by rw[Wd];exact jj,fun b b' _ _ e=>e,WT.as hT,fun b hb=>?_,fun q hq=>⟨fun b hb e=>?_,?_⟩,?_,by rw[Wd];exact hc.1,?_,hc.2.2.1⟩ (fun x hx=>WT.as (hW x hx)) hr fun x hx=>?_
 ·rw[<- hS];exact Lz b hb
 ·have:=(hex q hq).1;have e:b=q.1:=e;omega
 ·rw[<- hS];exact (hex q hq).2
 ·rw[<- hS];exact hc.2.2.2
 ·show some (f,_)=some (f,_);rw[Wd,ql,hc.2.1]
 ·rw[Wd,tP id (fun _=>rfl)];exact hk x hx
theorem Xs5:zY S []=True:=rfl
theorem Xjx (i:Nat)(v:AV)(l:List (Nat×AV)):zY S ((i,v)::l)=(dm S v/\zY S l):=rfl
theorem Xqy (k:IntKind)(n:Int):dm S (.int k n)=True:=by simp only[dm]
theorem Xge (b:Bool):dm S (.bool b)=True:=by simp only[dm]
theorem Xtc (b:List UInt8):dm S (.str b)=True:=by simp only[dm]
def Xj9:dm S .nils=True:=by simp only[dm]
theorem Xn1 (b o:Nat):dm S (.ptr b o)=S b:=by simp only[dm]
def Xu6:dm S (.mp b)=S b:=by simp only[dm]
theorem Xy7 (es b o n c:Nat):dm S (.sl es b o n c)=S b:=by simp only[dm]
theorem Xtk (l:List AV):dm S (.isl n l)=dL S l:=by simp only[dm]
theorem Xtq (l:List AV):dm S (.agg l)=dL S l:=by simp only[dm]
theorem Xqd (l:List AV):dm S (.aR l)=dL S l:=by simp only[dm]
theorem Xwj (f:FuncId)(l:List AV):dm S (.cl f l)=dL S l:=by simp only[dm]
theorem Xqt (v:Value):dm S (.lit v)=True:=by simp only[dm]
def Xj5:dL S []=True:=by simp only[dL]
theorem Xbj (v:AV)(l:List AV):dL S (v::l)=(dm S v/\dL S l):=by simp only[dL]
def Yhq:jX 0=True:=by simp[jX]
def Yfd:jX 1=True:=by simp[jX]
theorem Yi4 (h:67<=b):jX b=True:=by simp[jX,h]
attribute [go_sem] Xs5 Xjx Xqy Xge Xtc Xj9 Xn1 Xu6 Xy7 Xtk Xtq Xqd Xwj Xqt Xj5 Xbj Yhq Yfd Yi4 Yfx Yfz Qxm
def WT.aW {T:WT}(h:T.wf)(n b:Nat)(hb:67<=b):Qb T.h n b=if b<n then .dead else .free:=by
 have hl:=h.len;rw[WT.bG,aa af,aa af,aa af]
def WT.qI {T:WT}(h:T.wf)(n b:Nat)(hb:67<=b):Qb T.hb n b=if b<n then .dead else .free:=by
 have hl:=h.len;rw[WT.ef,aa af,aa af,aa af]
def Xdu:GS Tryz.prog gl 176 [.agg [.int .i64 t.id,.int .i64 t.due],.ptr 0 0] [(0,.cells [.int .i64 x])] 1 (.bool (t.id==x)) [(0,.cells [.int .i64 x])] 1:=by
 refine Yeg.gs (ap rfl) (by simp[Bk.live]) fun c hN hg=>?_
 conv in aG _ _=>cbv
 obtain ⟨id,due⟩:=t;refine Qa ?_;refine ⟨[],?_⟩;exact Qp
def rF (x:Int):List Tm->Nat->Int
 | [],_=>-1
 | t::l,k=>if t.id=x then k else rF x l (k+1)
def Ygo (hl:l.length<=1000000)(x:Int):GS Tryz.prog gl 181 [.sl 2 0 0 l.length l.length,.cl 176 [.ptr 1 0]]
  [(0,.cells (aZ l)),(1,.cells [.int .i64 x])] 2 (.int .i64 (rF x l 0)) [(0,.cells (aZ l)),(1,.cells [.int .i64 x])] 2:=by
 refine Xfc.gs (ap rfl) (by simp[Bk.live]) fun c hN hg=>?_
 conv in aG _ _=>cbv
 have dH:=Jv l;refine Qa ?_
 refine wY (fun k:Nat=>k≤l.length∧rF x (l.drop k) k=rF x l 0) (fun k=>⟨[(0,.sl 2 0 0 l.length l.length),(1,.cl 176 [.ptr 1 0]),(6,.sl 2 0 0 l.length l.length),(7,.int .i64 l.length),(8,.int .i64 k)],[(0,.cells (aZ l)),(1,.cells [.int .i64 x])],2⟩) (fun k=>l.length - k) Xfc.mixed 2 hN
  ⟨0,⟨by omega,rfl⟩,[],by exact Qp⟩ fun k hk=>?_
 obtain ⟨hk,cU⟩:=hk;refine Qa ?_;refine Qc ?_ ?_<;>intro h1
 ·have bg:k < l.length:=by omega
  have aK:=Gg l k bg;have iy:l.drop k=l[k]::l.drop (k+1):=List.drop_eq_getElem_cons bg;rw[iy]at cU;rw[rF]at cU;generalize l[k]=t at *
  have hc:=Xdu c.gl t x;refine Qd (An @dH @aK) ?_;refine Jo (ip [1]) hc (An @dH @aK) ?_;refine Qc ?_ ?_<;>intro h2
  ·rw[am (by simpa using h2)]at cU;refine Qa ?_;refine ⟨[],?_⟩;exact Qi @cU
  ·rw[aa (by simpa using h2)]at cU;refine Qa ?_;refine ⟨k+1,⟨by omega,cU⟩,⟨[],?_⟩,by omega⟩;exact Qp
 ·have:k=l.length:=by omega
  subst this;rw[List.drop_length]at cU;have cU:(-1:Int)=rF x l 0:=cU;refine Qa ?_;refine ⟨[],?_⟩;exact Qi @cU
def Xzk (h:k<=l.length):(aZ l).drop (k*2)=aZ (l.drop k):=by
 have e:aZ l=aZ (l.take k)++aZ (l.drop k):=by rw[<- v8,List.take_append_drop]
 rw[e,List.drop_append_of_le_length (by rw[Jv,length_take];omega),List.drop_of_length_le (by rw[Jv,length_take];omega),nil_append]
def Qwr (h:k<=l.length):(aZ l).take (k*2)=aZ (l.take k):=by
 have e:aZ l=aZ (l.take k)++aZ (l.drop k):=by rw[<- v8,List.take_append_drop]
 rw[e,List.take_append_of_le_length (by rw[Jv,length_take];omega),take_of_length_le (by rw[Jv,length_take];omega)]
def Yda (h:k<l.length)(t:Tm):(aZ l).take (k*2)++[.int .i64 t.id,.int .i64 t.due]++(aZ l).drop (k*2+2)=aZ (l.set k t):=by
 rw[show k*2+2=(k+1)*2 by omega,Qwr l k af,Xzk l (k+1) af,List.set_eq_take_append_cons_drop,am h,v8];simp[aZ]
def Xam {x:Int}:∀ (l:List Tm) (k:Nat),rF x l k=-1->∀ t ∈ l,t.id≠x
 | [],_,_,t,ht=>by cases ht
 | a::l,k,h,t,ht=>by
  unfold rF at h;split at h
  ·omega
  ·rcases mem_cons.1 ht with rfl|ht
   ·assumption
   ·exact Xam l (k+1) h t ht
def Qv9 {x:Int}:∀ (l:List Tm) (k:Nat),rF x l k≠-1->∃ i,i<l.length/\rF x l k=((k+i:Nat):Int)/\(∀ t ∈ l.take i,t.id≠x)/\∃ t,l[i]?=some t/\t.id=x
 | [],_,h=>absurd rfl h
 | a::l,k,h=>by
  unfold rF at h ⊢;split at h
  ·rename_i e;rw[am e];exact ⟨0,by simp,by simp,by simp,a,rfl,e⟩
  ·rename_i e;rw[aa e];obtain ⟨i,h1,h2,h3,t,h4,h5⟩:=Qv9 l (k + 1) h;refine ⟨i + 1,by simpa using h1,by rw[h2];omega,fun y hy=>?_,t,by simpa using h4,h5⟩;rw[List.take_succ_cons]at hy;rcases mem_cons.1 hy with rfl|hy
   ·exact e
   ·exact h3 y hy
def Yeb:Co Tryz.prog 144 2:=Oo (by kernel_rfl)
def Xz (x:Int)(l:List Tm):List Tm:=l.filter fun t=>!(t.id==x)
def Xdy (hl:l.length<=1000000)(x:Int):GS Tryz.prog gl 177 [.sl 2 0 0 l.length l.length,.cl 176 [.ptr 1 0]]
  [(0,.cells (aZ l)),(1,.cells [.int .i64 x])] 2 (.sl 2 0 0 (Xz x l).length l.length) [(0,.cells (aZ (Xz x l))),(1,.cells [.int .i64 x])] 2:=by
 refine Xff.gs (ap rfl) (by simp[Bk.live]) fun c hN hg=>?_
 conv in aG _ _=>cbv
 have dH:=Jv l;have hi:=Ygo c.gl l hl x;refine Qa ?_
 ((first|refine Kn (ins:=[0,1]) hi ?_ ?_|refine Jb (ins:=[0,1]) hi ?_ ?_|refine Ja (ins:=[0,1]) hi ?_ ?_|refine Zg (ins:=[0,1]) hi ?_ ?_)<;>(have aQ:=@dH;refine XG ?_;clear aQ;(try first|exact rfl|exact True.intro);((try with_reducible and_intros);all_goals try first|refine zm ?_|exact CL)))
 ·decide
 by_cases br:rF x l 0=-1
 ·have fy:Xz x l=l:=filter_eq_self.2 fun t ht=>by simpa using Xam l 0 br t ht
  rw[fy];refine Qc ?_ ?_<;>intro h1
  ·refine Qa ?_;refine ⟨[],?_⟩;exact Qp
  ·exact absurd br (by simpa using h1)
 ·obtain ⟨i0,q1,q2,q3,t0,q4,q5⟩:=Qv9 l 0 br;rw[Nat.zero_add]at q2;rw[q2];refine Qc ?_ ?_<;>intro h1
  ·omega
  refine Qa ?_
  refine wY (fun y:Nat × Nat × List Tm=>y.1 < y.2.1∧y.2.1≤l.length∧y.2.2.length=l.length∧y.2.2.take y.1=Xz x (l.take y.2.1)∧y.2.2.drop y.2.1=l.drop y.2.1)
   (fun y=>⟨[(0,.sl 2 0 0 l.length l.length),(1,.cl 176 [.ptr 1 0]),(5,.int .i64 y.1),(6,.int .i64 y.2.1)],[(0,.cells (aZ y.2.2)),(1,.cells [.int .i64 x])],2⟩) (fun y=>l.length-y.2.1) Xff.mixed 2 hN
   ⟨(i0,i0+1,l),⟨by simp,by show i0+1<=l.length;omega,rfl,?_,rfl⟩,[],by exact Qp⟩ fun y hy=>?_
  ·have:l.take (i0 + 1)=l.take i0++[t0]:=by rw[take_succ,q4];rfl
   show l.take i0=Xz x (l.take (i0+1));rw[this];unfold Xz;rw[filter_append,filter_eq_self.2 fun t ht=>by simpa using q3 t ht];simp[q5]
  obtain ⟨i,j,M⟩:=y;obtain ⟨gn,iu,hM,b6,oL⟩:=hy;dsimp only at gn iu hM b6 oL ⊢;have we:=Jv M;refine Qa ?_;refine Qc ?_ ?_<;>intro h2
  ·have oz:j < l.length:=by omega
   have Gi:j<M.length:=by omega
   have aK:=Gg M j Gi;have Rx:M[j]=l[j]:=by
    have e1:(M.drop j)[0]?=M[j]?:=by simp
    have e2:(l.drop j)[0]?=l[j]?:=by simp
    rw[oL,e2]at e1;simpa [oz,Gi] using e1.symm
   have ea:Xz x (l.take (j+1))=if M[j].id=x then Xz x (l.take j) else Xz x (l.take j)++[M[j]]:=by
    have:l.take (j+1)=l.take j++[M[j]]:=by rw[take_succ,Rx];simp[oz]
    rw[this];unfold Xz;rw[filter_append];split<;>simp_all
   have iy:M.drop (j+1)=l.drop (j+1):=by
    have:=congrArg (List.drop 1) oL;simpa [List.drop_drop,Nat.add_comm] using this
   have bw:Ym (aZ M) (i*2) [.int .i64 M[j].id,.int .i64 M[j].due]=aZ (M.set i M[j]):=Yda M i af M[j];have fD:((M.set i M[j]).take (i+1))=M.take i++[M[j]]:=by
    rw[take_succ,List.take_set_of_le (Nat.le_refl i)];simp[show i<M.length by omega]
   have AM:(M.set i M[j]).drop (j+1)=M.drop (j+1):=by rw[List.drop_set_of_lt af]
   have jb:(M.set i M[j]).length=l.length:=by simp[hM]
   have htS:=Jv (M.set i M[j]);generalize M[j]=t at *
   have hc:=Xdu c.gl t x;refine Qd (An @we @aK) ?_;refine Jo (ip [1]) hc (An @we @aK) ?_;refine Qc ?_ ?_<;>intro h3
   ·rw[aa h3]at ea;refine Qd (An @we @bw) ?_;refine ⟨(i+1,j+1,M.set i t),⟨by dsimp only;omega,by dsimp only;omega,jb,by rw[fD,b6,ea],by rw[AM,iy]⟩,⟨[],?_⟩,by dsimp only;omega⟩;exact Qp
   ·rw[am (by simpa using h3)]at ea;refine Qd @we ?_;refine ⟨(i,j+1,M),⟨by dsimp only;omega,by dsimp only;omega,hM,by rw[b6,ea],iy⟩,⟨[],?_⟩,by dsimp only;omega⟩;exact Qp
  ·obtain rfl:j=l.length:=by omega
   rw[take_length]at b6;have fH:(Xz x l).length=i:=by rw[<- b6,length_take];omega
   have jj:=Qwr M i af;rw[b6]at jj;refine Qa ?_
   (refine I6 Yeb ?_;(have aQ:=@jj;refine XG ?_;clear aQ;((try with_reducible and_intros);all_goals try first|refine zm ?_|exact CL)))
   refine Qa ?_;refine ⟨[],?_⟩;exact Qi @fH
def WT.lay (T:WT)(t:Tm):WT:=T.put (Zv T.now t.due) (T.row (Zv T.now t.due)++[t])
def WT.oM {T:WT}(h:T.wf)(t:Tm):(T.lay t).wf:=WT.cL h _ _
def xX {now due k:Nat}(h:Zv now due=C9 now due (4-k) k)(hk:k<4):Zv now due=if due/16 ^ k<now/16 ^ k+16 then k*16+due/16 ^ k%16 else C9 now due (4-(k+1)) (k+1):=by
 rw[h,show 4-k=(4-(k+1))+1 by omega];rfl
def wi (a b:Nat):Int.tdiv (a:Int) (b:Int)=((a/b:Nat):Int):=by rw[Int.tdiv_eq_ediv_of_nonneg (by omega)];rfl
def AN (a b:Nat):Int.tmod (a:Int) (b:Int)=((a%b:Nat):Int):=by rw[Int.tmod_eq_emod_of_nonneg (by omega)];rfl
set_option maxRecDepth 20000 in
def LA (T:WT)(hT:T.wf)(t:Tm)(hn:T.now<=1099511627776)(hd:t.due<=1099511627776)(hlen:(T.row (Zv T.now t.due)).length<=1000000) :
  GQ Tryz.prog gl 165 [.ptr 0 0,.agg [.int .i64 t.id,.int .i64 t.due]] T.h 67 [0,1] (fun _:Unit=>True) (fun _=>.aR []) (fun _=>(T.lay t).h):=by
 refine Xdp.gq (ap rfl) (fun q hq=>Xa (((WT.as hT).mem q hq).2)) av fun c bf hg=>?_
 conv in aG _ _=>cbv
 have aW:=fun n b hb=>WT.iH hT n (b:=b) hb;have h0:=WT.iO T;have hl:=WT.len hT;obtain ⟨id,due⟩:=t;dsimp only at hd hlen ⊢;have pH:T.h=(0,.cells T.cells)::(1,T.mb)::Kj T.rows 0:=rfl;rw[pH];refine Qd @aW ?_
 refine Yn (fun k:Nat=>k≤4∧Zv T.now due=C9 T.now due (4 - k) k) (fun k=>⟨[(0,.ptr 0 0),(3,.ptr 67 0),(4,.int .i64 ((16 ^ k:Nat):Int)),(7,.int .i64 k)],(67,.cells [.int .i64 id,.int .i64 due])::T.h,68⟩) (fun k=>4 - k) Xdp.mixed [0,1] bf
  ⟨0,⟨by omega,rfl⟩,To.fK (by exact Qp) fun _=>rfl⟩ fun k hk=>?_
 obtain ⟨hk4,jb⟩:=hk;obtain rfl|rfl|rfl|rfl|rfl:k=0\/k=1\/k=2\/k=3\/k=4:=by omega
 ·have pI:Int.tdiv (due:Int) 1=((due / 1:Nat):Int):=wi due 1;have nz:Int.tdiv (T.now:Int) 1=((T.now / 1:Nat):Int):=wi T.now 1;have hp:((16 ^ 0:Nat):Int)=1:=rfl;have fk:((16 ^ 1:Nat):Int)=16:=rfl;have hm:Int.tmod ((due / 1:Nat):Int) 16=((due / 1 % 16:Nat):Int):=AN _ 16;rw[pH,hp];refine Qd (An @aW @h0) ?_;refine Yc ?_;refine Qd (An @aW (An @h0 (An @pI @nz))) ?_;refine Qc ?_ ?_<;>intro h2
  ·refine Qd (An @aW (An @h0 (An @pI @hm))) ?_;have ij:Zv T.now due=due / 1 % 16:=by rw[xX jb af,am (by simp only[Nat.reducePow];omega)];simp only[Nat.zero_mul,Nat.zero_add,Nat.reducePow]
   have sT:due/1%16<16:=Nat.mod_lt _ af;rw[ij]at hlen;have eQ:T.lay ⟨id,due⟩=T.put (due/1%16) (T.row (due/1%16)++[⟨id,due⟩]):=by unfold WT.lay;rw[ij]
   rw[eQ];generalize due/1%16=sp at *
   have a6:=WT.iP hT (i:=sp) af;have dg:=fun n=>WT.iQ hT (i:=sp) af n;rw[show sp+1=1+sp by omega]at a6;have dH:=Jv (T.row (sp));have eO:((68:Nat)==2+sp)=false:=beq_eq_false_iff_ne.2 af;have hb2:((67:Nat)==2+sp)=false:=beq_eq_false_iff_ne.2 af;have j9:((0:Nat)==2+sp)=false:=beq_eq_false_iff_ne.2 af;have pJ:((1:Nat)==2+sp)=false:=beq_eq_false_iff_ne.2 af;have pK:((2+sp:Nat)==0)=false:=beq_eq_false_iff_ne.2 af;refine Yp (An @aW @a6) ?_
   ((first|apply w8|apply w9|apply xc|apply xd|apply xe|apply xf);(have aQ:=@aW;have bu:=@a6;have bO:=@eO;have cy:=@hb2;have dc:=@j9;have eT:=@pJ;have gF:=@dg;have nC:=@dH;have rn:=@pK;refine XG ?_;clear aQ bu bO cy dc eT gF nC rn;((try with_reducible and_intros);all_goals try first|refine zm ?_|exact CL)))
   ·simp[Wp,Wl,cJ,eO,hb2,j9,pJ,pK]
    (repeat' refine And.intro ?_ ?_)<;>first|decide|(left;omega)
   ·refine Qa ?_;refine ⟨(),To.put (ex:=[]) hT (i:=sp) (N:=69) af af af (fun b hb=>?_) af ?_ ?_ ?_ (fun j hj cf=>?_) ?_ trivial (fun q hq=>by cases hq)⟩
    ·simp at hb;omega
    ·rw[Qf,am rfl,show sp+1=1+sp by omega];simp
    ·(repeat rw[Qf,aa af]);rw[Qf,am rfl]
    ·rw[Qf,aa af,Qf,am rfl,v8];rfl
    ·(repeat rw[Qf,aa af]);exact WT.iQ hT hj 70
    ·simp[Qs,Qe,ah,look,aB,ay]
  ·refine tV (An @aW @h0) ?_;refine ⟨1,⟨by omega,?_⟩,To.fK (by exact Qi @fk) fun _=>rfl,by omega⟩;rw[xX jb af,aa (by simp only[Nat.reducePow];omega)]
 ·have pI:Int.tdiv (due:Int) 16=((due / 16:Nat):Int):=wi due 16;have nz:Int.tdiv (T.now:Int) 16=((T.now / 16:Nat):Int):=wi T.now 16;have hp:((16 ^ 1:Nat):Int)=16:=rfl;have fk:((16 ^ 2:Nat):Int)=256:=rfl;have hm:Int.tmod ((due / 16:Nat):Int) 16=((due / 16 % 16:Nat):Int):=AN _ 16;rw[pH,hp];refine Qd (An @aW @h0) ?_;refine Yc ?_;refine Qd (An @aW (An @h0 (An @pI @nz))) ?_;refine Qc ?_ ?_<;>intro h2
  ·refine Qd (An @aW (An @h0 (An @pI @hm))) ?_;have ij:Zv T.now due=16 + due / 16 % 16:=by rw[xX jb af,am (by simp only[Nat.reducePow];omega)]
   have sT:due/16%16<16:=Nat.mod_lt _ af;rw[ij]at hlen;have eQ:T.lay ⟨id,due⟩=T.put (16+due/16%16) (T.row (16+due/16%16)++[⟨id,due⟩]):=by unfold WT.lay;rw[ij]
   rw[eQ];generalize due/16%16=sp at *
   have a6:=WT.iP hT (i:=16+sp) af;have dg:=fun n=>WT.iQ hT (i:=16+sp) af n;rw[show 16+sp+1=17+sp by omega,show 2+(16+sp)=18+sp by omega]at a6;simp only[show 2+(16+sp)=18+sp by omega]at dg;have dH:=Jv (T.row (16+sp));have eO:((68:Nat)==18+sp)=false:=beq_eq_false_iff_ne.2 af;have hb2:((67:Nat)==18+sp)=false:=beq_eq_false_iff_ne.2 af;have j9:((0:Nat)==18+sp)=false:=beq_eq_false_iff_ne.2 af;have pJ:((1:Nat)==18+sp)=false:=beq_eq_false_iff_ne.2 af;have pK:((18+sp:Nat)==0)=false:=beq_eq_false_iff_ne.2 af;refine Yp (An @aW @a6) ?_
   ((first|apply w8|apply w9|apply xc|apply xd|apply xe|apply xf);(have aQ:=@aW;have bu:=@a6;have bO:=@eO;have cy:=@hb2;have dc:=@j9;have eT:=@pJ;have gF:=@dg;have nC:=@dH;have rn:=@pK;refine XG ?_;clear aQ bu bO cy dc eT gF nC rn;((try with_reducible and_intros);all_goals try first|refine zm ?_|exact CL)))
   ·simp[Wp,Wl,cJ,eO,hb2,j9,pJ,pK]
    (repeat' refine And.intro ?_ ?_)<;>first|decide|(left;omega)
   ·refine Qa ?_;refine ⟨(),To.put (ex:=[]) hT (i:=16 + sp) (N:=69) af af af (fun b hb=>?_) af ?_ ?_ ?_ (fun j hj cf=>?_) ?_ trivial (fun q hq=>by cases hq)⟩
    ·simp at hb;omega
    ·rw[Qf,am rfl,show 16+sp+1=17+sp by omega];simp
    ·(repeat rw[Qf,aa af]);rw[Qf,am rfl]
    ·rw[Qf,aa af,Qf,am rfl,v8];rfl
    ·(repeat rw[Qf,aa af]);exact WT.iQ hT hj 70
    ·simp[Qs,Qe,ah,look,aB,ay]
  ·refine tV (An @aW @h0) ?_;refine ⟨2,⟨by omega,?_⟩,To.fK (by exact Qi @fk) fun _=>rfl,by omega⟩;rw[xX jb af,aa (by simp only[Nat.reducePow];omega)]
 ·have pI:Int.tdiv (due:Int) 256=((due / 256:Nat):Int):=wi due 256;have nz:Int.tdiv (T.now:Int) 256=((T.now / 256:Nat):Int):=wi T.now 256;have hp:((16 ^ 2:Nat):Int)=256:=rfl;have fk:((16 ^ 3:Nat):Int)=4096:=rfl;have hm:Int.tmod ((due / 256:Nat):Int) 16=((due / 256 % 16:Nat):Int):=AN _ 16;rw[pH,hp];refine Qd (An @aW @h0) ?_;refine Yc ?_;refine Qd (An @aW (An @h0 (An @pI @nz))) ?_;refine Qc ?_ ?_<;>intro h2
  ·refine Qd (An @aW (An @h0 (An @pI @hm))) ?_;have ij:Zv T.now due=32 + due / 256 % 16:=by rw[xX jb af,am (by simp only[Nat.reducePow];omega)]
   have sT:due/256%16<16:=Nat.mod_lt _ af;rw[ij]at hlen;have eQ:T.lay ⟨id,due⟩=T.put (32+due/256%16) (T.row (32+due/256%16)++[⟨id,due⟩]):=by unfold WT.lay;rw[ij]
   rw[eQ];generalize due/256%16=sp at *
   have a6:=WT.iP hT (i:=32+sp) af;have dg:=fun n=>WT.iQ hT (i:=32+sp) af n;rw[show 32+sp+1=33+sp by omega,show 2+(32+sp)=34+sp by omega]at a6;simp only[show 2+(32+sp)=34+sp by omega]at dg;have dH:=Jv (T.row (32+sp));have eO:((68:Nat)==34+sp)=false:=beq_eq_false_iff_ne.2 af;have hb2:((67:Nat)==34+sp)=false:=beq_eq_false_iff_ne.2 af;have j9:((0:Nat)==34+sp)=false:=beq_eq_false_iff_ne.2 af;have pJ:((1:Nat)==34+sp)=false:=beq_eq_false_iff_ne.2 af;have pK:((34+sp:Nat)==0)=false:=beq_eq_false_iff_ne.2 af;refine Yp (An @aW @a6) ?_
   ((first|apply w8|apply w9|apply xc|apply xd|apply xe|apply xf);(have aQ:=@aW;have bu:=@a6;have bO:=@eO;have cy:=@hb2;have dc:=@j9;have eT:=@pJ;have gF:=@dg;have nC:=@dH;have rn:=@pK;refine XG ?_;clear aQ bu bO cy dc eT gF nC rn;((try with_reducible and_intros);all_goals try first|refine zm ?_|exact CL)))
   ·simp[Wp,Wl,cJ,eO,hb2,j9,pJ,pK]
    (repeat' refine And.intro ?_ ?_)<;>first|decide|(left;omega)
   ·refine Qa ?_;refine ⟨(),To.put (ex:=[]) hT (i:=32 + sp) (N:=69) af af af (fun b hb=>?_) af ?_ ?_ ?_ (fun j hj cf=>?_) ?_ trivial (fun q hq=>by cases hq)⟩
    ·simp at hb;omega
    ·rw[Qf,am rfl,show 32+sp+1=33+sp by omega];simp
    ·(repeat rw[Qf,aa af]);rw[Qf,am rfl]
    ·rw[Qf,aa af,Qf,am rfl,v8];rfl
    ·(repeat rw[Qf,aa af]);exact WT.iQ hT hj 70
    ·simp[Qs,Qe,ah,look,aB,ay]
  ·refine tV (An @aW @h0) ?_;refine ⟨3,⟨by omega,?_⟩,To.fK (by exact Qi @fk) fun _=>rfl,by omega⟩;rw[xX jb af,aa (by simp only[Nat.reducePow];omega)]
 ·have pI:Int.tdiv (due:Int) 4096=((due / 4096:Nat):Int):=wi due 4096;have nz:Int.tdiv (T.now:Int) 4096=((T.now / 4096:Nat):Int):=wi T.now 4096;have hp:((16 ^ 3:Nat):Int)=4096:=rfl;have fk:((16 ^ 4:Nat):Int)=65536:=rfl;have hm:Int.tmod ((due / 4096:Nat):Int) 16=((due / 4096 % 16:Nat):Int):=AN _ 16;rw[pH,hp];refine Qd (An @aW @h0) ?_;refine Yc ?_;refine Qd (An @aW (An @h0 (An @pI @nz))) ?_;refine Qc ?_ ?_<;>intro h2
  ·refine Qd (An @aW (An @h0 (An @pI @hm))) ?_;have ij:Zv T.now due=48 + due / 4096 % 16:=by rw[xX jb af,am (by simp only[Nat.reducePow];omega)]
   have sT:due/4096%16<16:=Nat.mod_lt _ af;rw[ij]at hlen;have eQ:T.lay ⟨id,due⟩=T.put (48+due/4096%16) (T.row (48+due/4096%16)++[⟨id,due⟩]):=by unfold WT.lay;rw[ij]
   rw[eQ];generalize due/4096%16=sp at *
   have a6:=WT.iP hT (i:=48+sp) af;have dg:=fun n=>WT.iQ hT (i:=48+sp) af n;rw[show 48+sp+1=49+sp by omega,show 2+(48+sp)=50+sp by omega]at a6;simp only[show 2+(48+sp)=50+sp by omega]at dg;have dH:=Jv (T.row (48+sp));have eO:((68:Nat)==50+sp)=false:=beq_eq_false_iff_ne.2 af;have hb2:((67:Nat)==50+sp)=false:=beq_eq_false_iff_ne.2 af;have j9:((0:Nat)==50+sp)=false:=beq_eq_false_iff_ne.2 af;have pJ:((1:Nat)==50+sp)=false:=beq_eq_false_iff_ne.2 af;have pK:((50+sp:Nat)==0)=false:=beq_eq_false_iff_ne.2 af;refine Yp (An @aW @a6) ?_
   ((first|apply w8|apply w9|apply xc|apply xd|apply xe|apply xf);(have aQ:=@aW;have bu:=@a6;have bO:=@eO;have cy:=@hb2;have dc:=@j9;have eT:=@pJ;have gF:=@dg;have nC:=@dH;have rn:=@pK;refine XG ?_;clear aQ bu bO cy dc eT gF nC rn;((try with_reducible and_intros);all_goals try first|refine zm ?_|exact CL)))
   ·simp[Wp,Wl,cJ,eO,hb2,j9,pJ,pK]
    (repeat' refine And.intro ?_ ?_)<;>first|decide|(left;omega)
   ·refine Qa ?_;refine ⟨(),To.put (ex:=[]) hT (i:=48 + sp) (N:=69) af af af (fun b hb=>?_) af ?_ ?_ ?_ (fun j hj cf=>?_) ?_ trivial (fun q hq=>by cases hq)⟩
    ·simp at hb;omega
    ·rw[Qf,am rfl,show 48+sp+1=49+sp by omega];simp
    ·(repeat rw[Qf,aa af]);rw[Qf,am rfl]
    ·rw[Qf,aa af,Qf,am rfl,v8];rfl
    ·(repeat rw[Qf,aa af]);exact WT.iQ hT hj 70
    ·simp[Qs,Qe,ah,look,aB,ay]
  ·refine tV (An @aW @h0) ?_;refine ⟨4,⟨by omega,?_⟩,To.fK (by exact Qi @fk) fun _=>rfl,by omega⟩;rw[xX jb af,aa (by simp only[Nat.reducePow];omega)]
 ·rw[pH];refine Qd (An @aW @h0) ?_;refine Yc ?_;have ij:Zv T.now due=64:=by rw[jb];rfl
  rw[ij]at hlen;have eQ:T.lay ⟨id,due⟩=T.put 64 (T.row 64++[⟨id,due⟩]):=by unfold WT.lay;rw[ij]
  rw[eQ];have a6:=WT.iP hT (i:=64) af;have dg:=fun n=>WT.iQ hT (i:=64) af n;simp only[Nat.reduceAdd]at a6 dg;have dH:=Jv (T.row 64);refine Qd (An @aW @a6) ?_;refine Yp (An @aW @a6) ?_;refine Yp (An @aW (An @a6 (An @dg @dH))) ?_;refine ⟨(),To.put (ex:=[]) hT (i:=64) (N:=69) af af af (fun b hb=>?_) af ?_ ?_ ?_ (fun j hj cf=>?_) ?_ trivial (fun q hq=>by cases hq)⟩
  ·simp at hb;omega
  ·rw[Qf,am rfl];simp
  ·(repeat rw[Qf,aa af]);rw[Qf,am rfl]
  ·rw[Qf,aa af,Qf,am rfl,v8];rfl
  ·(repeat rw[Qf,aa af]);exact WT.iQ hT hj 70
  ·simp[Qs,Qe,ah,look,aB,ay]
def bA (D:List Tm):List (AV×AV):=D.map fun t=>(.int .i64 t.id,.int .i64 t.due)
def sU (D:List Tm):(bA D).length=D.length:=by simp[bA]
def Dg (D:List Tm):Wy false [.int .i64] (bA D):=fun q hq=>by
 obtain ⟨t,_,rfl⟩:=mem_map.1 hq;rfl
theorem rG:Zs false [.int .i64] (.int .i64 x):=rfl
def LB (D:List Tm)(x:Int):fA (bA D) (.int .i64 x)=D.findIdx? fun t=>t.id==x:=by
 unfold fA bA
 induction D with
 | nil=>rfl
 | cons t D ih =>
  simp only[map_cons,findIdx?_cons];rw[ih];by_cases h:t.id=x
  ·simp[h]
  ·simp[h]
def ky (D:List Tm)(x:Int):Bool:=D.any fun t=>t.id==x
def Yfp (D:List Tm)(x:Int):Nat:=match D.find? (fun t=>t.id==x) with
 | some t=>t.due
 | none=>0
def LC (D:List Tm)(x:Int):Cq (bA D) (.int .i64 x)=ky D x:=by
 unfold Cq ky;rw[LB]
 induction D with
 | nil=>rfl
 | cons t D ih =>
  rw[findIdx?_cons,List.any_cons];cases h:t.id==x with
  | true=>simp
  | false=>simpa using ih
def LD (D:List Tm)(x:Int):Kk (bA D) (.int .i64 x) (.int .i64 0)=.int .i64 (Yfp D x):=by
 unfold Kk Yfp;rw[LB]
 induction D with
 | nil=>rfl
 | cons t D ih =>
  rw[findIdx?_cons,List.find?_cons];cases h:t.id==x with
  | true=>simp[bA]
  | false =>
   simp only[cond_false,Bool.false_eq_true,if_false];rw[<- ih];cases D.findIdx? fun t=>t.id==x with
   | none=>rfl
   | some i=>simp[bA]
def LF {x:Int}(h:∀ t ∈ D,t.id≠x):Xz x D=D:=filter_eq_self.2 fun t ht=>by simpa using h t ht
def Qx1:∀ (D:List Tm) (x:Int),D.Pairwise (fun a b=>a.id≠b.id)->zN (bA D) (.int .i64 x)=bA (Xz x D):=fun D x hd=>by
 have key:∀ D:List Tm,D.Pairwise (fun a b=>a.id≠b.id)->(match D.findIdx? (fun t=>t.id==x) with|some i=>D.eraseIdx i|none=>D)=Xz x D:=fun D=>by
  induction D with
  | nil=>intro _;rfl
  | cons t D ih =>
   intro hd;have h2:=ih (List.Pairwise.of_cons hd);rw[findIdx?_cons];unfold Xz;rw[List.filter_cons];cases h:t.id==x with
   | true =>
    have hx:t.id=x:=by simpa using h
    have:=LF (x:=x) fun y hy e=>List.rel_of_pairwise_cons hd hy (hx.trans e.symm);unfold Xz at this;simp[this]
   | false =>
    unfold Xz at h2;simp only[Bool.not_false,if_true,Bool.false_eq_true,if_false];rw[<- h2];cases D.findIdx? fun t=>t.id==x<;>simp
 rw[<- key D hd];unfold zN;rw[LB];cases D.findIdx? fun t=>t.id==x with
 | none=>rfl
 | some i =>
  have em:∀ (l:List Tm) (i:Nat),(bA l).eraseIdx i=bA (l.eraseIdx i):=fun l=>by
   induction l with
   | nil=>intro i;rfl
   | cons t l ih =>
    intro i;cases i with
    | zero=>rfl
    | succ i =>
     have:=ih i;simp only[bA,map_cons,List.eraseIdx_cons_succ]at this ⊢;rw[this]
  exact em D i
def Xub {x:Int}(h:∀ t ∈ D,t.id≠x)(n:Nat):Jy (bA D) (.int .i64 x) (.int .i64 n)=bA (D++[⟨x,n⟩]):=by
 unfold Jy;rw[LB,List.findIdx?_eq_none_iff.2 fun t ht=>by simpa using h t ht];simp[bA]
def oN (D:List Tm):∀ q ∈ bA D,Qe n q.1/\Qe n q.2:=fun q hq=>by
 obtain ⟨t,_,rfl⟩:=mem_map.1 hq;simp[Qe]
def wj {T:WT}  {dn:Bool}(hl:T.rows.length=65)(h:T.mb=.az (bA D) dn):T.wf:=⟨hl,by rw[h];exact oN 2 D⟩
def WT.upto (T:WT)(x:Int)(n:Nat):WT:={ T with rows:=(T.rows.take n).map (Xz x)++T.rows.drop n }
def WT.ll {T:WT}(h:T.wf)(x:Int)(n:Nat):(T.upto x n).wf:=⟨by
 have:=h.len;simp[WT.upto];omega,h.mb⟩
def WT.gY {T:WT}  (n i:Nat):(T.upto x n).row i=if i<n then Xz x (T.row i) else T.row i:=by
 unfold WT.row WT.upto;simp only[List.getD,List.getElem?_append,List.length_map,length_take];by_cases h1:i<n
 ·rw[am h1];by_cases h2:i < T.rows.length
  ·rw[am af,List.getElem?_map,List.getElem?_take_of_lt h1,List.getElem?_eq_getElem h2];rfl
  ·rw[aa af,getElem?_drop,getElem?_eq_none af,getElem?_eq_none af];rfl
 ·rw[aa h1];by_cases h2:i < T.rows.length
  ·rw[aa af,getElem?_drop];congr 2;omega
  ·rw[aa af,getElem?_drop,getElem?_eq_none af,getElem?_eq_none af]
def Xvd {l l':List (List Tm)}(hl:l.length=l'.length)(h:∀ j,l.getD j []=l'.getD j []):l=l':=by
 refine List.ext_getElem hl fun j h1 h2=>?_;have:=h j;simpa [List.getD,h1,h2] using this
def WT.kz {T:WT}(h:T.wf)(x:Int){n:Nat}(hn:n<65):T.upto x (n+1)=(T.upto x n).put n (Xz x (T.row n)):=by
 have hl:=h.len;have e:(T.upto x (n+1)).rows=((T.upto x n).put n (Xz x (T.row n))).rows:=by
  refine Xvd (by simp[WT.upto,WT.put];omega) fun j=>?_;have h1:=WT.gY (T:=T) x (n+1) j;have h2:=WT.gX (WT.ll h x n) hn (Xz x (T.row n)) j;rw[WT.gY]at h2;unfold WT.row at h1 h2 ⊢;rw[h1,h2];by_cases e:j=n
  ·subst e;rw[am af,am rfl]
  ·rw[aa e];by_cases e2:j < n
   ·rw[am e2,am af]
   ·rw[aa e2,aa af]
 show ({ T with rows:=(T.upto x (n+1)).rows }:WT)={ T with rows:=((T.upto x n).put n (Xz x (T.row n))).rows }
 rw[e]
def WT.sV {T:WT}(h:T.wf)(x:Int):T.upto x 65={ T with rows:=T.rows.map (Xz x) }:=by
 have hl:=h.len;unfold WT.upto;rw[take_of_length_le af,List.drop_of_length_le af,append_nil]
def WT.mW {T:WT}(h:T.wf)  (hi:i<65)(l:List Tm)(n b:Nat):Qb (T.put i l).h n b=if 0=b then .cells (T.cells.set (i+1) (.sl 2 (2+i) 0 l.length l.length)) else if 2+i=b then .cells (aZ l) else Qb T.h n b:=by
 have hl:=h.len;rw[WT.bG,WT.bG,WT.Rr h hi];by_cases h0:0=b
 ·rw[am h0,am h0]
 rw[aa h0,aa h0];by_cases h1:1=b
 ·rw[am h1,aa af,aa h0,am h1];rfl
 rw[aa h1];have hlen:(T.put i l).rows.length=T.rows.length:=by simp[WT.put]
 rw[hlen];by_cases h2:2+i=b
 ·rw[am h2,am af,WT.gX h hi,am af]
 ·rw[aa h2,aa h0,aa h1];by_cases h3:2≤b∧b < 2 + T.rows.length
  ·rw[am h3,am h3,WT.gX h hi,aa af]
  ·rw[aa h3,aa h3]
set_option maxRecDepth 20000 in
def Xkm (T:WT)(D:List Tm)(dn:Bool)(hlen:T.rows.length=65)(eG:T.mb=.az (bA D) dn)(hd:D.Pairwise fun a b=>a.id≠b.id)(fQ:∀ i,(T.row i).length<=1000000)(x:Int)(hx:ky D x=true) :
  GQ Tryz.prog gl 164 [.ptr 0 0,.int .i64 x] T.h 67 [0,1] (fun _:Unit=>True) (fun _=>.int .i64 0) (fun _=>{ T with rows:=T.rows.map (Xz x),mb:=.az (bA (Xz x D)) false }.h):=by
 have hT:=wj hlen eG;refine Lw.gq (ap rfl) (fun q hq=>Xa (((WT.as hT).mem q hq).2)) av fun c bf hg=>?_
 conv in aG _ _=>cbv
 have aW:=fun n b hb=>WT.iH hT n (b:=b) hb;have h0:=WT.iO T;have lX:=WT.eV hT;have hl:=WT.len hT;have pH:T.h=(0,.cells T.cells)::(1,.az (bA D) dn)::Kj T.rows 0:=by rw[<- eG];rfl
 have eb:=Dg D;have eM:=rG x;have AO:=LC D x;have fc:=LD D x;have AP:=Qx1 D x hd;rw[pH];refine Qd @aW ?_;refine Yc ?_;refine Qd (An @aW @lX) ?_;refine Ul sR (An @aW (An @eb (An @eM (An @fc (An @AO @hx))))) ?_;refine Yc ?_;refine Qd (An @aW @lX) ?_;refine OM sR (An @aW (An @eb (An @eM @AP))) ?_;refine Qa ?_;have dz:WT.wf { T with mb:=.az (bA (Xz x D)) false }:=⟨hlen,oN 2 _⟩
 have qJ:∀ i,(WT.row { T with mb:=.az (bA (Xz x D)) false } i).length<=1000000:=fQ;generalize Gj:({ T with mb:=.az (bA (Xz x D)) false }:WT)=T1 at dz qJ
 refine Yn (fun i:Nat=>i≤4) (fun i=>⟨[(0,.ptr 0 0),(7,.cl 176 [.ptr 67 0]),(29,.int .i64 i)],(67,.cells [.int .i64 x])::(T1.upto x (16 * i)).h,68⟩) (fun i=>4 - i) Lw.mixed [0,1] bf
  ⟨0,by omega,To.fK (by exact Qp) fun b=>?_⟩ fun i hi=>?_
 ·have e:T1.upto x (16 * 0)=T1:=by simp[WT.upto]
  show Qb ((67,.cells [.int .i64 x])::(T1.upto x (16*0)).h) 68 b=_;rw[e,<- Gj];show Qb ((67,.cells [.int .i64 x])::(0,.cells T.cells)::(1,.az (bA (Xz x D)) false)::Kj T.rows 0) 68 b=_;simp only[Qf]
  (repeat' split)<;>first|rfl|omega
 refine Qa ?_;refine Qc ?_ ?_<;>intro h3
 ·refine Qa ?_
  refine Yn (fun k:Nat=>k≤16) (fun k=>⟨[(0,.ptr 0 0),(7,.cl 176 [.ptr 67 0]),(8,.int .i64 i),(29,.int .i64 i),(32,.int .i64 k)],(67,.cells [.int .i64 x])::(T1.upto x (16 * i + k)).h,68⟩) (fun k=>16 - k) Lw.mixed [0,1] bf
   ⟨0,by omega,To.fK (by exact Qp) fun b=>rfl⟩ fun k hk=>?_
  refine Qa ?_;refine Qc ?_ ?_<;>intro h4
  ·have iR:16 * i + k < 65:=by omega
   have pL:=WT.ll dz x (16*i+k);have dX:=WT.kz dz x iR;have mX:=WT.gY (T:=T1) x (16*i+k) (16*i+k);rw[aa af]at mX;have fJ:=(Xdy c.gl (T1.row (16*i+k)) (qJ _) x).wk (Wk.cap _ _ _ _ _);have dH:=Jv (T1.row (16*i+k));generalize hTe:T1.upto x (16*i+k)=Tn at *
   have a6:=WT.iP pL iR;have dg:=fun n=>WT.iQ pL iR n;rw[mX]at a6 dg;have vA:=fun n b hb=>WT.iH pL n (b:=b) hb;have hl2:=WT.len pL;have sW:Tn.h=(0,.cells Tn.cells)::(1,Tn.mb)::Kj Tn.rows 0:=rfl;generalize DD:T1.row (16*i+k)=r at *
   rw[sW];rw[show 16*i+k+1=1+i*16+k by omega]at a6;generalize fU:2+(16*i+k)=nm at a6 dg;have eO:(67==nm)=false:=beq_eq_false_iff_ne.2 af;have hb2:(0==nm)=false:=beq_eq_false_iff_ne.2 af;have j9:(1==nm)=false:=beq_eq_false_iff_ne.2 af;have pJ:(nm==67)=false:=beq_eq_false_iff_ne.2 af;have pK:(nm==0)=false:=beq_eq_false_iff_ne.2 af;refine Qd (An @vA @a6) ?_
   ((first|refine Kn (ins:=[nm,67]) fJ ?_ ?_|refine Jb (ins:=[nm,67]) fJ ?_ ?_|refine Ja (ins:=[nm,67]) fJ ?_ ?_|refine Zg (ins:=[nm,67]) fJ ?_ ?_)<;>(have aQ:=@vA;have bu:=@dg;have bO:=@eO;have cy:=@hb2;have dc:=@j9;have eT:=@pJ;have gF:=@pK;refine XG ?_;clear aQ bu bO cy dc eT gF;(try first|exact rfl|exact True.intro);((try with_reducible and_intros);all_goals try first|refine zm ?_|exact CL)))
   ·have:Nat.beq nm 67=false:=by
     cases h:Nat.beq nm 67 with
     | false=>rfl
     | true=>exact absurd (Nat.eq_of_beq_eq_true h) af
    rw[this];rfl
   ·simp[Wp,Wl,cJ,eO,hb2,j9,pJ,pK]
    (repeat' refine And.intro ?_ ?_)<;>first|decide|(left;omega)|omega
   ·refine ⟨k + 1,by omega,To.fK (by exact Qp) fun b=>?_,by omega⟩;rw[show 16 * i + (k + 1)=16 * i + k + 1 by omega,dX,← sW];simp only[Qf,WT.mW pL iR,fU,show 16 * i + k + 1=1 + i * 16 + k by omega]
    (repeat' split)<;>first|rfl|omega
  ·obtain rfl:k=16:=by omega
   refine Qa ?_;refine ⟨i+1,by omega,To.fK (by exact Qp) fun b=>?_,by omega⟩;rw[show 16*(i+1)=16*i+16 by omega]
 ·obtain rfl:i=4:=by omega
  have pL:=WT.ll dz x (16*4);have dX:=WT.kz dz x (n:=64) af;have bl:=WT.sV dz x;have mX:=WT.gY (T:=T1) x (16*4) 64;rw[aa af]at mX;have fJ:=(Xdy c.gl (T1.row 64) (qJ _) x).wk (Wk.cap _ _ _ _ _);have dH:=Jv (T1.row 64);have b9:({ T with rows:=T.rows.map (Xz x),mb:=.az (bA (Xz x D)) false }:WT)=T1.upto x 65:=by rw[bl,<- Gj]
  rw[b9,dX];generalize hTe:T1.upto x (16*4)=Tn at *
  have a6:=WT.iP pL (i:=64) af;have dg:=fun n=>WT.iQ pL (i:=64) af n;rw[mX]at a6 dg;have vA:=fun n b hb=>WT.iH pL n (b:=b) hb;have hl2:=WT.len pL;have sW:Tn.h=(0,.cells Tn.cells)::(1,Tn.mb)::Kj Tn.rows 0:=rfl;generalize DD:T1.row 64=r at *
  simp only[Nat.reduceAdd]at a6 dg;rw[sW];refine Qd (An @vA @a6) ?_
  ((first|refine Kn (ins:=[66,67]) fJ ?_ ?_|refine Jb (ins:=[66,67]) fJ ?_ ?_|refine Ja (ins:=[66,67]) fJ ?_ ?_|refine Zg (ins:=[66,67]) fJ ?_ ?_)<;>(have aQ:=@vA;have bu:=@dg;refine XG ?_;clear aQ bu;(try first|exact rfl|exact True.intro);((try with_reducible and_intros);all_goals try first|refine zm ?_|exact CL)))
  ·decide
  refine ⟨(),To.trans (To.fK (t':=[(0,.int .i64 0)]) (h':=(67,.cells [.int .i64 x])::(Tn.put 64 (Xz x r)).h) (n':=68) (by exact Qp) fun b=>?_) ?_⟩
  ·rw[← sW];simp only[Qf,WT.mW pL (i:=64) af]
   (repeat' split)<;>first|rfl|omega
  ·exact To.eW (ex:=[(67,.cells [.int .i64 x])]) (WT.cL pL _ _) av av (by simp[Qs,Qe,look,aB])
def Ycf:Go.Shelf.Ren:=⟨fun|125=>180|128=>191|129=>192|189=>167|215=>198|216=>188|257=>179|294=>182|295=>183|296=>184|297=>185|298=>186|299=>187|300=>189|301=>190|328=>193|329=>194|330=>195|331=>196|332=>197|343=>199|n=>n,fun|0=>0|3=>3|4=>4|5=>5|9=>9|28=>52|46=>110|51=>108|53=>214|131=>182|182=>206|183=>207|218=>215|222=>126|228=>220|229=>104|n=>n,fun n=>n⟩
def Qwn:Lays.n189 Tryz.prog Ycf:={
 mixed:=by kernel_rfl,
 f125:=Tryz.func180.trans (congrArg some (by kernel_rfl)),
 f128:=Tryz.func191.trans (congrArg some (by kernel_rfl)),
 f129:=Tryz.func192.trans (congrArg some (by kernel_rfl)),
 f189:=Tryz.func167.trans (congrArg some (by kernel_rfl)),
 f215:=Tryz.func198.trans (congrArg some (by kernel_rfl)),
 f216:=Tryz.func188.trans (congrArg some (by kernel_rfl)),
 f257:=Tryz.func179.trans (congrArg some (by kernel_rfl)),
 f294:=Tryz.func182.trans (congrArg some (by kernel_rfl)),
 f295:=Tryz.func183.trans (congrArg some (by kernel_rfl)),
 f296:=Tryz.func184.trans (congrArg some (by kernel_rfl)),
 f297:=Tryz.func185.trans (congrArg some (by kernel_rfl)),
 f298:=Tryz.func186.trans (congrArg some (by kernel_rfl)),
 f299:=Tryz.func187.trans (congrArg some (by kernel_rfl)),
 f300:=Tryz.func189.trans (congrArg some (by kernel_rfl)),
 f301:=Tryz.func190.trans (congrArg some (by kernel_rfl)),
 f328:=Tryz.func193.trans (congrArg some (by kernel_rfl)),
 f329:=Tryz.func194.trans (congrArg some (by kernel_rfl)),
 f330:=Tryz.func195.trans (congrArg some (by kernel_rfl)),
 f331:=Tryz.func196.trans (congrArg some (by kernel_rfl)),
 f332:=Tryz.func197.trans (congrArg some (by kernel_rfl)),
 f343:=Tryz.func199.trans (congrArg some (by kernel_rfl)),
 t0:=Tryz.underlying0,
 a0:=Tryz.isAgg0,
 z0:=Tryz.sizeOf0,
 v0:=Tryz.zeroValue0,
 t3:=Tryz.underlying3,
 a3:=Tryz.isAgg3,
 z3:=Tryz.sizeOf3,
 v3:=Tryz.zeroValue3,
 t4:=Tryz.underlying4,
 a4:=Tryz.isAgg4,
 z4:=Tryz.sizeOf4,
 v4:=Tryz.zeroValue4,
 t5:=Tryz.underlying5,
 a5:=Tryz.isAgg5,
 z5:=Tryz.sizeOf5,
 v5:=Tryz.zeroValue5,
 t9:=Tryz.underlying9,
 a9:=Tryz.isAgg9,
 z9:=Tryz.sizeOf9,
 v9:=Tryz.zeroValue9,
 t28:=Tryz.underlying52,
 a28:=Tryz.isAgg52,
 z28:=Tryz.sizeOf52,
 v28:=Tryz.zeroValue52,
 t46:=Tryz.underlying110,
 a46:=Tryz.isAgg110,
 z46:=Tryz.sizeOf110,
 v46:=Tryz.zeroValue110,
 t51:=Tryz.underlying108,
 a51:=Tryz.isAgg108,
 z51:=Tryz.sizeOf108,
 v51:=Tryz.zeroValue108,
 t53:=Tryz.underlying214,
 a53:=Tryz.isAgg214,
 z53:=Tryz.sizeOf214,
 v53:=Tryz.zeroValue214,
 t131:=Tryz.underlying182,
 a131:=Tryz.isAgg182,
 z131:=Tryz.sizeOf182,
 v131:=Tryz.zeroValue182,
 t182:=Tryz.underlying206,
 a182:=Tryz.isAgg206,
 z182:=Tryz.sizeOf206,
 v182:=Tryz.zeroValue206,
 t183:=Tryz.underlying207,
 a183:=Tryz.isAgg207,
 z183:=Tryz.sizeOf207,
 v183:=Tryz.zeroValue207,
 t218:=Tryz.underlying215,
 a218:=Tryz.isAgg215,
 z218:=Tryz.sizeOf215,
 v218:=Tryz.zeroValue215,
 t222:=Tryz.underlying126,
 a222:=Tryz.isAgg126,
 z222:=Tryz.sizeOf126,
 v222:=Tryz.zeroValue126,
 t228:=Tryz.underlying220,
 a228:=Tryz.isAgg220,
 z228:=Tryz.sizeOf220,
 v228:=Tryz.zeroValue220,
 t229:=Tryz.underlying104,
 a229:=Tryz.isAgg104,
 z229:=Tryz.sizeOf104,
 v229:=Tryz.zeroValue104 }
def Qzq {k n:Nat}    {fr:Nat×Nat}  (hb:w.heap[k]?=some (.cells cur e fr)) :
  (Sort.grow (Sort.putRow (Value.int .i64) (Sort.ahead w n) k 0 d) os).heap[k]?=some (.cells (Sort.putCells (Value.int .i64) 0 d cur) e fr):=by
 have hg:k<w.heap.size:=(Array.getElem?_eq_some_iff.1 hb).1;rw[Sort.heap_grow_old _ _ (by simpa [Sort.putRow,Sort.mapBlock,Sort.ahead] using hg)];simp[Sort.putRow,Sort.mapBlock,Sort.ahead,Array.getElem?_modify,hb,Sort.onCells]
def Yhn {k n:Nat}    {fr:Nat×Nat}  (hb:w.heap[k]?=some (.cells cur e fr)) :
  Fr w (Sort.grow (Sort.putRow (Value.int .i64) (Sort.ahead w n) k 0 d) os) (fun i=>i=k):=by
 have hs:(Sort.grow (Sort.putRow (Value.int .i64) (Sort.ahead w n) k 0 d) os).heap.size=w.heap.size+os.size:=by simp[Sort.grow,Sort.putRow,Sort.mapBlock,Sort.ahead]
 refine ⟨rfl,rfl,rfl,by omega,fun j hj cf=>?_,fun j eX e' VI h=>?_⟩
 ·rw[Sort.heap_grow_old _ _ (by simpa [Sort.putRow,Sort.mapBlock,Sort.ahead] using hj)];have:k≠j:=fun e=>cf e.symm;simp[Sort.putRow,Sort.mapBlock,Sort.ahead,Array.getElem?_modify,this]
 ·by_cases tO:j=k
  ·subst tO;rw[hb]at h;cases h;exact ⟨_,Qzq d hb,by simp[Sort.putCells]⟩
  ·refine ⟨eX,?_,rfl⟩;rw[Sort.heap_grow_old _ _ (by simpa [Sort.putRow,Sort.mapBlock,Sort.ahead] using Ws h)];have:k≠j:=fun e=>tO e.symm;simp[Sort.putRow,Sort.mapBlock,Sort.ahead,Array.getElem?_modify,this,h]
def Dh (l:List Int)(j:Nat)(h:j<l.length):(Ql l).getD j .any=.int .i64 l[j]:=by simp[Ql,List.getD,h]
def Ybd (l:List Int)(hl:l.length<=1000000):GS Tryz.prog gl 167 [.sl 1 0 0 l.length l.length] [(0,.cells (Ql l))] 1 (.aR []) [(0,.cells (Ql (l.mergeSort fun x y=>decide (x<=y))))] 1:=by
 refine ⟨⟨Tryz.f167,Tryz.func167,by kernel_rfl,by kernel_rfl⟩,fun w vs G X g hR hv=>?_⟩;have hlen:(l.mergeSort fun x y=>decide (x<=y)).length=l.length:=List.length_mergeSort _;obtain ⟨v,vs,rfl,h1,h2⟩:=hv.cons_inv;obtain rfl:=h2.oW;have hH:(dD [(0,.cells (Ql l))] 1).H 0=.cells (Ql l):=rfl;have ez:=hR.h 0;rw[hH]at ez;have hHo:∀ x y:List AV,((dD [(0,.cells x)] 1).aI 0 (.cells y))=dD [(0,.cells y)] 1:=fun x y=>pj (fun _=>rfl) fun j=>by
  show (if 0=j then _ else Qb [(0,.cells x)] 1 j)=Qb [(0,.cells y)] 1 j;rw[Qf,Qf];split<;>rfl
 rcases qW h1 with ⟨k,cap,e,cur,fz,rfl,hg,h3,h4,h5,h6,h7⟩|⟨ad,rfl,hg,h3,h4⟩
 ·rw[hg]at ez;cases ez with
  | cells hb qx iJ ra hz =>
   rw[h6]at hb;cases hb;rw[Xp]at qx iJ ra;have Ry:∀ j (hj:j<l.length),cur[j]?=some (.int .i64 l[j]):=fun j hj=>by
    have:=ra j hj;rw[Dh l j hj]at this;have LG:j<cur.size:=by omega
    have e:cur.getD j undef=cur[j]:=by simp[Array.getD,LG]
    rw[e]at this;generalize hcv:cur[j]=cv at this;cases this;rw[<- hcv];simp[LG]
   have AQ:Sort.Holds (Value.int .i64) w k 0 l.toArray:=fun j hj=>by
    have dd:j<l.length:=by simpa using hj
    refine ⟨?_,?_⟩
    ·simp only[World.cell?,h6,Nat.zero_add,Option.isSome_none,Bool.false_eq_true,if_false];rw[Ry j dd];simp[dd]
    ·simp only[World.frozen?,h6,Nat.zero_add];rcases hz with rfl|hz
     ·simp
     ·have:¬ fz.1≤j:=by omega
      simp[this]
   have hc:=Any.slices_Sort_int Qwn k 0 cap l w AQ (Ws h6) af;refine Calls.mono hc ?_;rintro e w' ⟨rfl,n,os,rfl⟩;have bw:=hR.setBlock (x:=.cells (Ql (l.mergeSort fun x y=>decide (x<=y)))) hg (by rw[hH];trivial) trivial (Yhn (n:=n) (os:=os) (l.mergeSort fun x y=>decide (x<=y)).toArray h6) (by
    have a6:∀ j (hj:j<l.length),(Sort.putCells (Value.int .i64) 0 (l.mergeSort fun x y=>decide (x<=y)).toArray cur).getD j undef=.int .i64 ((l.mergeSort fun x y=>decide (x<=y))[j]'af):=fun j hj=>by
     have LG:j<cur.size:=by omega
     have oz:j<(l.mergeSort fun x y=>decide (x<=y)).length:=by omega
     simp[Sort.putCells,Array.getD,LG,hj]
    refine .cells (Qzq _ h6) (by rw[Xp,hlen];simpa [Sort.putCells] using qx) (fun j hj=>?_) (fun j hj=>?_) (by simpa [Sort.putCells] using hz)
    ·rw[Xp,hlen]at hj;rw[a6 j hj];rfl
    ·rw[Xp,hlen]at hj;rw[a6 j hj,Dh _ j af];exact .int _ _)
   rw[hHo]at bw;exact ⟨_,g,rfl,bw,fun _ _=>rfl,.aR rfl fun j hj=>by simp at hj⟩
 ·have h0:l=[]:=List.eq_nil_of_length_eq_zero h3;subst h0;refine Calls.mono (Any.slices_Sort_int_none Qwn ad 0 w) ?_;rintro e w' ⟨rfl,rfl⟩;rw[show (([]:List Int).mergeSort fun x y=>decide (x<=y))=[] by simp];exact ⟨_,g,rfl,hR,fun _ _=>rfl,.aR rfl fun j hj=>by simp at hj⟩
def To.gP {s:St}{b:Nat}{kvs:List (AV×AV)}{dn:Bool}(hb:s.fs.H b=.az kvs dn):To p s (s.aI b (.az kvs false)):=fun c g a w _ hR=>⟨g,by rw[St.cg];exact hR.gP hb⟩
def ln (l D:List Tm):List Tm:=l.foldl (fun D t=>Xz t.id D) D
def Xmu (D:List Tm):ln (l++[t]) D=Xz t.id (ln l D):=by simp[ln]
def LH {x:Int} :(Xz x D).Sublist D:=List.filter_sublist
def Qz8:∀ {l D:List Tm},(ln l D).Sublist D
 | [],D=>List.Sublist.refl _
 | t::l,D=>(Qz8 (l:=l) (D:=Xz t.id D)).trans LH
def Xo1 {l D:List Tm}(h:D.Pairwise fun a b=>a.id≠b.id):(ln l D).Pairwise fun a b=>a.id≠b.id:=h.sublist Qz8
def ids (l:List Tm):List Int:=l.map (·.id)
set_option maxRecDepth 20000 in
def Xu2 (T:WT)(D l:List Tm)(dn:Bool)(hlen:T.rows.length=65)(eG:T.mb=.az (bA D) dn)(hd:D.Pairwise fun a b=>a.id≠b.id)(hl:l.length<=1000000) :
  GQ Tryz.prog gl 137 [.ptr 0 0,.isl l.length (aZ l)] T.h 67 [0,1] (fun _:Unit=>True) (fun _=>.isl l.length (Ql (v7 (ids l)))) (fun _=>{ T with mb:=.az (bA (ln l D)) false }.h):=by
 have hT:=wj hlen eG;refine Qy8.gq (ap rfl) (fun q hq=>Xa (((WT.as hT).mem q hq).2)) av fun c bf hg=>?_
 conv in aG _ _=>cbv
 have aW:=fun n b hb=>WT.iH hT n (b:=b) hb;have lX:=WT.eV hT;have aY:=WT.len hT;have dH:=Jv l;have pH:T.h=(0,.cells T.cells)::(1,.az (bA D) dn)::Kj T.rows 0:=by rw[<- eG];rfl
 have kX:∀ k,WT.wf { T with mb:=.az (bA (ln (l.take k) D)) false }:=fun k=>⟨hlen,oN 2 _⟩
 rw[pH];refine Qa ?_;refine vB 5 1 rfl (by exact Qi @aW) ?_;unfold St.named
 refine Yn (fun k:Nat=>k≤l.length) (fun k=>⟨[(0,.ptr 0 0),(5,.sl 1 67 0 k k),(8,.isl l.length (aZ l)),(9,.int .i64 l.length),(10,.int .i64 k)],(67,.cells (Ql (ids (l.take k))))::{ T with mb:=.az (bA (ln (l.take k) D)) false }.h,68⟩) (fun k=>l.length - k) Qy8.mixed [0,1] bf
  ⟨0,by omega,?_⟩ fun k hk=>?_
 ·refine To.trans (To.gP (b:=1) (kvs:=bA D) (dn:=dn) rfl) (To.fK (by exact Qp) fun b=>?_);show Qb ((67,.cells [])::(0,.cells T.cells)::(1,.az (bA D) false)::Kj T.rows 0) 68 b=Qb ((1,.az (bA D) false)::(67,.cells [])::(0,.cells T.cells)::(1,.az (bA D) dn)::Kj T.rows 0) 68 b;simp only[Qf]
  (repeat' split)<;>first|rfl|omega
 have LJ:=fun n b hb=>WT.iH (kX k) n (b:=b) hb;have ny:WT.cells { T with mb:=.az (bA (ln (l.take k) D)) false }=T.cells:=rfl;have Di:WT.h { T with mb:=.az (bA (ln (l.take k) D)) false }=(0,.cells T.cells)::(1,.az (bA (ln (l.take k) D)) false)::Kj T.rows 0:=rfl;rw[Di];refine Qa ?_;refine Qc ?_ ?_<;>intro h1
 ·have bg:k < l.length:=by omega
  have aK:=Gg l k bg;have ea:l.take (k+1)=l.take k++[l[k]]:=by rw[take_succ];simp[bg]
  have eb:=Dg (ln (l.take k) D);have eM:=rG l[k].id;have AP:=Qx1 (ln (l.take k) D) l[k].id (Xo1 hd);rw[<- Xmu,<- ea]at AP;have Rz:Ql (ids (l.take k))++[.int .i64 l[k].id]=Ql (ids (l.take (k+1))):=by unfold Ql ids;rw[ea,map_append,map_append];rfl
  have mR:(Ql (ids (l.take k))).length=k:=by simp[Ql,ids];omega
  generalize l[k]=t at *
  refine Qd (An @dH (An @aK @aW)) ?_;refine Yp @aW ?_;refine Yp (An @aW (An @mR @Rz)) ?_;refine Qd (An @aW @lX) ?_;refine OM sR (An @aW (An @eb (An @eM @AP))) ?_;refine ⟨k+1,by omega,To.Rw (ex:=[(67,.cells (Ql (ids (l.take (k+1)))))]) [(67,70)] (kX (k+1)) av af rfl rfl (fun b hb=>?_) ?_ ?_ av,by omega⟩
  ·show _=Qb ((0,.cells T.cells)::(1,.az (bA (ln (l.take (k + 1)) D)) false)::Kj T.rows 0) 67 b;simp only[Qf]
   (repeat' split)<;>first|rfl|omega|(rw[AJ,AJ,hlen];(repeat' split)<;>first|rfl|omega)
  ·have:=Dd (rl [(67,70)]) l;exact Qp
  ·have:∀ n q,ah n (Ql q)=True:=fun n q=>by simp[Xw,Ql,Qe]
   exact Qi @this
 ·obtain rfl:k=l.length:=by omega
  have mR:ids (l.take l.length)=ids l:=by rw[take_length]
  have fD:(ids l).length=l.length:=by simp[ids]
  have FQ:=Ybd c.gl (ids l) (by simpa [ids] using hl);rw[fD]at FQ;rw[mR];refine Qd @aW ?_;refine Jo (ip [67]) FQ @aW ?_;refine ⟨(),(To.gM (b:=67) (i:=0) rfl rfl).trans (To.eW (T:={ T with mb:=.az (bA (ln l D)) false }) (ex:=[(67,.dead),(67,_),(67,_)]) ⟨hlen,oN 2 _⟩ av av ?_)⟩;have aK:((Ql ((ids l).mergeSort fun x y=>decide (x<=y))).drop 0).take (l.length*1)=Ql (v7 (ids l)):=by
   rw[List.drop_zero,take_of_length_le (by rw[Nat.mul_one];simp[Ql,ids])];rfl
  rw[aK];have h1:∀ n q,ah n (Ql q)=True:=fun n q=>by simp[Xw,Ql,Qe]
  have h2:∀ q,ay id (Ql q)=Ql q:=fun q=>ql _;exact Qi (An @h1 @h2)
def RI.T (hl:rows.length=65)(hp:rows.flatten.Perm D):RI (fun _ _=>True) rows D:=⟨hl,hp,fun _ _ _ _=>trivial⟩
def WT.wm (T:WT):WT:={ T with now:=T.now+1,rows:=Uz (T.now+1) 4 1 T.rows }
def Xoa {D l:List Tm}(h:RI (fun _ _=>True) rows D)(k:Nat):RI (fun _ _=>True) ((l.take k).foldl (Xv now) rows) ((l.take k).reverse++D):=RI.ka _ h fun _ _=>trivial
theorem WT.wo (T:WT)(t:Tm):(T.lay t)={ T with rows:=Xv T.now T.rows t }:=rfl
set_option maxRecDepth 20000 in
theorem Xx0 (T:WT)(D:List Tm)(hT:T.wf)(hp:T.rows.flatten.Perm D)(hD:D.length<=100000)(iS:∀ t ∈ D,t.due<=1099511627776)(hn:T.now<1099511627776) :
  GQ Tryz.prog gl 139 [.ptr 0 0] T.h 67 [0,1] (fun _:Unit=>True) (fun _=>.aR []) (fun _=>T.wm.h):=by
 refine Rm.gq (ap rfl) (fun q hq=>Xa (((WT.as hT).mem q hq).2)) av fun c bf hg=>?_
 conv in aG _ _=>cbv
 have h0:=WT.iO T;have aY:=WT.len hT;have pH:T.h=(0,.cells T.cells)::(1,T.mb)::Kj T.rows 0:=rfl;have dX:T.cells.set 0 (.int .i64 ((T.now:Int)+1))=WT.cells { T with now:=T.now+1 }:=WT.Rs T (T.now+1);have kX:WT.wf { T with now:=T.now+1 }:=⟨hT.len,hT.mb⟩
 rw[pH];refine Qd (An @h0 @dX) ?_
 refine Yn (fun y:Nat × List (List Tm)=>1≤y.1∧y.1≤5∧RI (fun _ _=>True) y.2 D∧Uz (T.now + 1) (5 - y.1) y.1 y.2=Uz (T.now + 1) 4 1 T.rows) (fun y=>⟨[(0,.ptr 0 0),(2,.int .i64 ((16 ^ y.1:Nat):Int)),(3,.int .i64 y.1)],WT.h { T with now:=T.now + 1,rows:=y.2 },67⟩) (fun y=>5 - y.1) Rm.mixed [0,1] bf
  ⟨(1,T.rows),⟨by simp,by simp,RI.T hT.len hp,rfl⟩,To.fK (by exact Qp) fun b=>?_⟩ fun y hy=>?_
 ·show Qb ((0,.cells (WT.cells { T with now:=T.now + 1 }))::(1,T.mb)::Kj T.rows 0) 67 b=Qb ((0,.cells (WT.cells { T with now:=T.now + 1 }))::(0,.cells T.cells)::(1,T.mb)::Kj T.rows 0) 67 b;simp only[Qf]
  (repeat' split)<;>first|rfl|omega
 obtain ⟨L,rows⟩:=y;obtain ⟨mN,hL5,rH,b9⟩:=hy;dsimp only at mN hL5 rH b9 ⊢;have qK:WT.wf { T with now:=T.now+1,rows:=rows }:=⟨rH.len,hT.mb⟩
 have fe:WT.now { T with now:=T.now+1,rows:=rows }=T.now+1:=rfl;have sG:WT.rows { T with now:=T.now+1,rows:=rows }=rows:=rfl;have vZa:WT.mb { T with now:=T.now+1,rows:=rows }=T.mb:=rfl;have Gk:T.wm={ T with now:=T.now+1,rows:=Uz (T.now+1) (5-L) L rows }:=by unfold WT.wm;rw[b9]
 have Gl:∀ i,i<65->(WT.row { T with now:=T.now+1,rows:=rows } i).length<=D.length:=fun i hi=>rH.iz hi;have hrel:=fun i (hi:i<65)=>RI.d5 rH (now:=T.now+1) hi fun _ _=>trivial;have Gm:∀ i,i<65->RI (fun _ _=>True) (rows.set i []) (rows.set i []).flatten:=fun i hi=>⟨by simp[rH.len],List.Perm.refl _,fun _ _ _ _=>trivial⟩
 have AR:=fun i (hi:i<65)=>((AI rows i (by have:=rH.len;omega)).symm.trans rH.perm)
 have bQ:∀ i,i<65->∀ t ∈ rows.getD i [],t.due<=1099511627776:=fun i hi t ht=>iS t (Rg rH hi ht);rw[Gk];generalize dz:({ T with now:=T.now+1,rows:=rows }:WT)=T1 at *
 have RA:T1.now=T.now+1:=by rw[<- dz]
 have v0a:T1.mb=T.mb:=by rw[<- dz]
 have g0:=WT.iO T1;rw[RA]at g0;have iL:=WT.len qK;have sX:T1.h=(0,.cells T1.cells)::(1,T1.mb)::Kj T1.rows 0:=rfl;have aW:=fun n b hb=>WT.iH qK n (b:=b) hb;obtain ⟨P,hP⟩:∃ p:Nat,p=16 ^ L:=⟨_,rfl⟩
 obtain ⟨PI,Dj⟩:∃ p:Int,p=P:=⟨_,rfl⟩
 obtain ⟨LI,hLI⟩:∃ p:Int,p=L:=⟨_,rfl⟩
 have hm:Int.tmod ((T.now+1:Nat):Int) PI=(((T.now+1)%P:Nat):Int):=by rw[Dj];exact AN _ _
 have hq:Int.tdiv ((T.now+1:Nat):Int) PI=(((T.now+1)/P:Nat):Int):=by rw[Dj];exact wi _ _
 have lR:Int.tmod (((T.now+1)/P:Nat):Int) 16=(((T.now+1)/P%16:Nat):Int):=AN _ 16;have sT:(T.now+1)/P%16<16:=Nat.mod_lt _ af;have hti:L=1/\oK (T.now+1) L=16+(T.now+1)/P%16\/L=2/\oK (T.now+1) L=32+(T.now+1)/P%16\/L=3/\oK (T.now+1) L=48+(T.now+1)/P%16\/L=4/\oK (T.now+1) L=64\/L=5:=by
  rw[hP];rcases (by omega:L=1\/L=2\/L=3\/L=4\/L=5) with rfl|rfl|rfl|rfl|rfl
  ·exact .inl ⟨rfl,rfl⟩
  ·exact .inr (.inl ⟨rfl,rfl⟩)
  ·exact .inr (.inr (.inl ⟨rfl,rfl⟩))
  ·exact .inr (.inr (.inr (.inl ⟨rfl,rfl⟩)))
  ·exact .inr (.inr (.inr (.inr rfl)))
 generalize v2a:(T.now+1)/P%16=sp at *
 obtain ⟨I,hI⟩:∃ i,i=oK (T.now+1) L:=⟨_,rfl⟩
 rw[<- hI]at hti;have qL:L<=4->Uz (T.now+1) (5-L) L rows=if (T.now+1)%P=0 then Uz (T.now+1) (5-(L+1)) (L+1) (eH (T.now+1) rows I) else rows:=fun h=>by
  rw[hI,hP,show 5-L=5-(L+1)+1 by omega];rfl
 obtain ⟨X,hX⟩:∃ x,x=I+1:=⟨_,rfl⟩
 obtain ⟨Y,hY⟩:∃ x,x=2+I:=⟨_,rfl⟩
 by_cases h5:L=5
 ·subst h5;have Ca:Uz (T.now+1) (5-5) 5 rows=rows:=rfl;rw[Ca,dz,sX];refine Qa ?_;refine Yc ?_;refine Qa ?_;refine ⟨(),?_⟩;rw[<- sX];exact To.fK (by exact Qp) fun b=>rfl
 have qL:=qL af;have iR:I<65:=by omega
 have a6:=WT.iP qK iR;rw[<- hX,<- hY]at a6;have hl:T1.row I=rows.getD I []:=by rw[<- dz];rfl
 have hlD:=Gl I iR;generalize RB:T1.row I=l at *
 obtain ⟨df,Aj⟩:∃ e:Nat->St,e=fun k=>⟨[(0,.ptr 0 0),(2,.int .i64 PI),(3,.int .i64 LI),(55,.isl l.length (aZ l)),(56,.int .i64 l.length),(57,.int .i64 k)],WT.h { T with now:=T.now+1,rows:=(l.take k).foldl (Xv (T.now+1)) (rows.set I []) },67⟩:=⟨_,rfl⟩
 obtain ⟨sl,jb⟩:∃ e:Nat->Tm->List (Nat×AV),e=fun k x=>[(0,.ptr 0 0),(2,.int .i64 PI),(3,.int .i64 LI),(55,.isl l.length (aZ l)),(56,.int .i64 l.length),(57,.int .i64 k),(61,.ptr 0 0),(62,.agg [.int .i64 x.id,.int .i64 x.due])]:=⟨_,rfl⟩
 rw[sX];have jx:T1.put I []={ T with now:=T.now+1,rows:=rows.set I [] }:=by rw[<- dz];rfl
 have fQ:(l.foldl (Xv (T.now+1)) (rows.set I []))=eH (T.now+1) rows I:=by unfold eH;rw[<- hl]
 obtain ⟨y1,hy1⟩:∃ y:Nat×List (List Tm),y=(L+1,eH (T.now+1) rows I):=⟨_,rfl⟩
 have iG:((16 ^ 1:Nat):Int)=16/\((16 ^ 2:Nat):Int)=256/\((16 ^ 3:Nat):Int)=4096/\((16 ^ 4:Nat):Int)=65536/\((16 ^ 5:Nat):Int)=1048576:=⟨rfl,rfl,rfl,rfl,rfl⟩
 clear hI;rcases hti with ⟨hv,ec⟩|⟨hv,ec⟩|⟨hv,ec⟩|⟨hv,ec⟩|hv
 rotate_right
 ·exact absurd hv h5
 all_goals
  subst hv;first|(have e:P=16:=hP;subst e)|(have e:P=256:=hP;subst e)|(have e:P=4096:=hP;subst e)|(have e:P=65536:=hP;subst e)
  first|(have e:PI=16:=Dj;subst e)|(have e:PI=256:=Dj;subst e)|(have e:PI=4096:=Dj;subst e)|(have e:PI=65536:=Dj;subst e)
  have e:LI=_:=hLI;subst e;first|(have e:X=17+sp:=(by omega);subst e)|(have e:X=33+sp:=(by omega);subst e)|(have e:X=49+sp:=(by omega);subst e)|(have e:X=65:=(by omega);subst e)
  first|(have e:Y=18+sp:=(by omega);subst e)|(have e:Y=34+sp:=(by omega);subst e)|(have e:Y=50+sp:=(by omega);subst e)|(have e:Y=66:=(by omega);subst e)
  have hY2:=hY.symm;refine Qd (An @iG (An @aW (An @g0 @hm))) ?_;refine Qc ?_ ?_<;>intro h1
  ·refine Qa ?_;refine Yc ?_;refine Qd (An @aW (An @g0 (An @hq (An @lR @a6)))) ?_;refine Yn (fun k:Nat=>k≤l.length) df (fun k=>l.length - k) Rm.mixed [0,1] bf ⟨0,by omega,?_⟩ fun k hk=>?_<;>subst Aj<;>dsimp only
   ·show To _ _ ⟨_,WT.h { T with now:=T.now + 1,rows:=rows.set I [] },67⟩;rw[← jx];refine To.off (k:=55) qK iR RB ?_ (fun b h1 h2=>?_) ?_ (by dsimp only;omega) ?_ av ?_
    ·show Qb ((0,_)::_) 67 0=_;rw[Qf,am rfl,<- hX]
    ·show Qb ((0,_)::(0,_)::(1,_)::_) 67 b=_;rw[sX,Qf,aa af]
    ·exact Qi @aW
    ·exact Qi @hY2
    ·have h1:=Dd (Ww I 67) l;have kN:=Dc 67 l;exact Qi (An @h1 @kN)
   have El:=Xoa (now:=T.now+1) (l:=l) (Gm I iR) k;have Gn:∀ j,j<65->((l.take k).foldl (Xv (T.now+1)) (rows.set I []) |>.getD j []).length<=1000000:=fun j hj=>by
    have h1:=El.iz hj;have h2:=(AR I iR).length_eq;rw[List.length_append]at h1 h2;rw[<- hl]at h2;simp only[List.length_reverse,length_take]at h1;omega
   have Gp:WT.wf { T with now:=T.now+1,rows:=(l.take k).foldl (Xv (T.now+1)) (rows.set I []) }:=⟨El.len,hT.mb⟩
   have mY:k<l.length->∀ x,l[k]?=some x->(l.take (k+1)).foldl (Xv (T.now+1)) (rows.set I [])=Xv (T.now+1) ((l.take k).foldl (Xv (T.now+1)) (rows.set I [])) x:=fun _ x hx=>by
    rw[take_succ,hx];simp
   have dg:∀ x:Tm,(WT.row { T with now:=T.now+1,rows:=(l.take k).foldl (Xv (T.now+1)) (rows.set I []) } (Zv (T.now+1) x.due)).length<=1000000:=fun x=>Gn _ (Ge _ _);have BU:WT.now { T with now:=T.now+1,rows:=(l.take k).foldl (Xv (T.now+1)) (rows.set I []) }=T.now+1:=rfl;generalize Di:({ T with now:=T.now+1,rows:=(l.take k).foldl (Xv (T.now+1)) (rows.set I []) }:WT)=Tk at *
   have LJ:=WT.aW Gp;have dH:=Jv l;refine Qa ?_;refine Qc ?_ ?_<;>intro h3
   ·have bg:k < l.length:=by omega
    have aK:=Gg l k bg;have dX:=mY bg l[k] (by simp[bg]);have vN:l[k].due<=1099511627776:=bQ I iR l[k] (by rw[<- hl];exact List.getElem_mem _);generalize l[k]=x at *
    have eB:=LA c.gl Tk Gp x (by rw[BU];omega) vN (by rw[BU];exact dg x);refine Qd (An @dH (An @aK @LJ)) ?_;refine xW eB Gp (fun _ _=>WT.oM Gp x) bf (by simp[jX]) (sl k x) [(67,.cells [.int .i64 x.id,.int .i64 x.due])] 68 (To.fK ?_ fun b=>?_) ?_ ?_ (by simp[Qe,ah]) fun _ _=>?_<;>subst jb<;>try dsimp only
    ·exact Qp
    ·simp only[List.cons_append,nil_append,Qf];(repeat' split)<;>rfl
    ·simp[sw,dL,dm]
    ·exact Qp
    ·refine Qa ?_;refine ⟨k + 1,by omega,?_,by omega⟩;have hT3:Tk.lay x={ T with now:=T.now + 1,rows:=(l.take (k + 1)).foldl (Xv (T.now + 1)) (rows.set I []) }:=by rw[WT.wo,dX,← Di]
     rw[<- hT3];refine To.eW (ex:=[(67,.cells [.int .i64 x.id,.int .i64 x.due])]) (WT.oM Gp x) av av ?_;have h1:=Dc 67 l;have h2:ay id (aZ l)=aZ l:=ql _;have h3:id 0=0:=rfl;exact Qi (An @h1 (An @h2 @h3))
   ·obtain rfl:k=l.length:=by omega
    rw[take_length]at Di;rw[am af]at qL;refine Ey ?_;refine ⟨y1,⟨?_,?_,?_,?_⟩,?_,?_⟩<;>subst hy1
    ·simp
    ·simp
    ·exact hrel _ iR
    ·dsimp only;rw[<- qL];exact b9
    rotate_left
    ·dsimp only;omega
    rw[fQ]at Di;dsimp only;rw[Di];refine To.fK ?_ fun b=>rfl;exact Qi @iG
  ·rw[aa af]at qL;rw[qL,dz];refine Qa ?_;refine ⟨(),?_⟩;rw[<- sX];exact To.fK (by exact Qp) fun b=>rfl
end Go.Proofs.YtogckmommodmhaaGreatDoor
