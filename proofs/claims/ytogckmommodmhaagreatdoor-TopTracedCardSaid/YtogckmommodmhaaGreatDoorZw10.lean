import Derived.Test.YtogckmommodmhaaGreatDoorZw5
import Derived.Test.YtogckmommodmhaaGreatDoorZw1
import Derived.Test.YtogckmommodmhaaGreatDoorZw6
import Derived.Test.YtogckmommodmhaaGreatDoorRows
import Derived.KernelRfl
import Derived.Lib.Hide
namespace Go.Proofs.YtogckmommodmhaaGreatDoor
open Go.RowKit
set_option linter.all false
set_option linter.unusedSimpArgs false
set_option maxRecDepth 100000
theorem Xrq (k n:Int) (h:0 < n):-n < k.tmod n∧k.tmod n < n:=by
 have h1:=Int.tmod_lt_of_pos k h
 have h2:=Int.tmod_lt_of_pos (-k) h
 rw[Int.neg_tmod]at h2
 omega
structure ax where
 own:List Int
 dr:List Bool
structure ax.wf (p:ax):Prop where
 own:p.own.length=18
 dr:p.dr.length=3
def ax.row (p:ax) (a:Nat):List Int:=(p.own.drop (a * 6)).take 6
def Ux (n:Int):Bool:=decide (0≤n) && decide (n≤8)
def ax.bQ (p:ax):Bool:=p.own.all Ux
theorem Ky (p:ax) (h:p.wf) (a:Nat) (ha:a < 3):(p.row a).length=6:=by
 simp[ax.row,h.own];omega
theorem SA (p:ax) (a j:Nat) (hj:j < 6):(p.row a)[j]?=p.own[a * 6 + j]?:=by
 simp[ax.row,hj]
theorem Xty (p:ax) (h:(p.own.take (6 * 3)).all Ux=true) (hp:p.wf):p.bQ=true:=by
 rw[List.take_of_length_le (by rw[hp.own];omega)]at h;exact h
theorem Xwa (p:ax) (i:Nat) (x:Int) (hx:p.own[i]?=some x) (hb:Ux x=false):p.bQ=false:=by
 unfold ax.bQ
 rw[List.all_eq_false]
 exact ⟨x,List.mem_of_getElem? hx,by simp[hb]⟩
theorem Xo7 (p:ax) (i:Nat) (x:Int) (hx:p.own[i]?=some x) (h:(p.own.take i).all Ux=true) (hb:Ux x=true):(p.own.take (i + 1)).all Ux=true:=by
 rw[List.take_add_one,hx]
 simp only[List.all_append,h,Bool.true_and]
 simp[hb]
theorem Xws (x:Int) (h:x < 0):Ux x=false:=by unfold Ux;simp;omega
theorem Xuk (x:Int) (h:8 < x):Ux x=false:=by unfold Ux;simp;omega
theorem Xvv (x:Int) (h0:¬ x < 0) (h:¬ 8 < x):Ux x=true:=by unfold Ux;simp;omega
def Wb (a:Int):Bool:=decide (0≤a) && decide (a < 3)
theorem Qt0 (k n:Int) (hn:0 < n):(if k.tmod n < 0 then k.tmod n + n else k.tmod n)=k % n:=by
 rw[Int.tmod_eq_emod]
 have h1:=Int.emod_nonneg k (show n≠0 by omega)
 have h2:=Int.emod_lt_of_pos k hn
 have e:(n.natAbs:Int)=n:=by omega
 by_cases h:0≤k∨n ∣ k
 ·rw[if_pos h];simp;omega
 ·rw[if_neg h,e]
  have:k % n≠0:=fun h0=>h (.inr (Int.dvd_of_emod_eq_zero h0))
  rw[if_pos ae];omega
def Uz (l:List Int):Nat:=l.countP (· == 0)
def ax.left (p:ax) (a:Int):Nat:=if Wb a=true then Uz (p.row a.toNat) else 0
theorem Dk (p:ax) (a:Nat) (h:a < 3):p.left a=Uz (p.row a):=by
 unfold ax.left;rw[if_pos (by unfold Wb;simp;omega)];simp
theorem Xv5 (p:ax) (a:Int) (h:Wb a=false):p.left a=0:=by unfold ax.left;rw[if_neg (by rw[h];simp)]
theorem LI (l:List Int) (m:Nat) (x:Int) (h:l[m]?=some x):Uz (l.take (m + 1))=Uz (l.take m) + (if x=0 then 1 else 0):=by
 unfold Uz
 rw[List.take_add_one,h]
 simp[List.countP_append,List.countP_cons]
theorem LJ (l:List Int) (m:Nat):Uz (l.take m)≤m:=by
 unfold Uz
 have:=List.countP_le_length (p:=(· == 0)) (l:=l.take m)
 have:=List.length_take_le m l
 omega
def ax.nA (p:ax) (a:Nat):Bool:=p.dr.getD a false
def ax.open_ (p:ax) (a:Nat):Bool:=!p.nA a && decide (0 < p.left a)
def ax.opens (p:ax) (k:Nat):List Nat:=(List.range k).filter p.open_
theorem Xgs (p:ax) (k:Nat):p.opens (k + 1)=p.opens k++if p.open_ k then [k] else []:=by
 unfold ax.opens;rw[List.range_succ,List.filter_append];simp[List.filter_cons]
theorem Xrf (p:ax) (k:Nat):(p.opens k).length≤k:=by
 have:=List.length_filter_le p.open_ (List.range k);simpa [ax.opens] using this
def ax.pick (p:ax) (draw:Int):Int × Int :=
 if p.bQ=true then (if (p.opens 3).length=0 then (0,10) else (((p.opens 3).getD (draw % ((p.opens 3).length:Int)).toNat 0:Nat),0)) else (0,2)
def lp (l:List Int) (n:Nat):List Nat:=(List.range n).filter fun k=>l.getD k 1 == 0
theorem SB (l:List Int) (n:Nat):lp l (n + 1)=lp l n++if l.getD n 1=0 then [n] else []:=by
 unfold lp;rw[List.range_succ,List.filter_append];simp[List.filter_cons]
theorem Gw (l:List Int):∀ n,n≤l.length→(lp l n).length=Uz (l.take n)
 | 0,_=>by simp[lp,Uz]
 | n + 1,h=>by
  rw[SB,List.length_append,Gw l n ae,LI l n l[n] (List.getElem?_eq_getElem ae)]
  have:l.getD n 1=l[n]:=by simp[show n < l.length by omega]
  rw[this];split<;>simp
theorem SC (l:List Int) (m:Nat) (hm:m < l.length) (hx:l[m]?=some 0):∀ n,m < n→(lp l n)[Uz (l.take m)]?=some m
 | 0,h=>by omega
 | n + 1,h=>by
  rw[SB]
  by_cases e:m=n
  ·subst e
   have:l.getD m 1=0:=by simp[hx]
   rw[List.getElem?_append_right (by rw[Gw l m ae];omega),Gw l m ae,this]
   simp
  ·have ih:=SC l m hm hx n ae
   rw[List.getElem?_append_left (List.getElem?_eq_some_iff.1 ih).1]
   exact ih
def ax.put (p:ax) (a k:Nat) (o:Int):ax:={ p with own:=p.own.set (a * 6 + k) o }
theorem ax.df (p:ax) (hp:p.wf) (a k:Nat) (o:Int):(p.put a k o).wf:=⟨by simp[ax.put,hp.own],hp.dr⟩
def ax.jR (p:ax) (a:Nat) (draw:Int):Nat:=(lp (p.row a) 6).getD (draw % (p.left a:Int)).toNat 0
def ax.take (p:ax) (s a draw:Int):ax × Int × Int :=
 if p.bQ=true then
  (if Wb a=true∧0≤s∧s < 8 then
   (if p.nA a.toNat=true then (p,0,9) else
    (if p.left a=0 then (p,0,10) else (p.put a.toNat (p.jR a.toNat draw) (s + 1),(p.jR a.toNat draw:Nat),0)))
  else (p,0,7))
 else (p,0,2)
def ax.ow (p:ax) (a k:Nat):Int:=p.own.getD (a * 6 + k) 0
theorem ax.ui (p:ax) (h:p.bQ=true) (a k:Nat):0≤p.ow a k∧p.ow a k≤8:=by
 unfold ax.ow
 by_cases hi:a * 6 + k < p.own.length
 ·have:=List.all_eq_true.1 h p.own[a * 6 + k] (List.getElem_mem hi)
  unfold Ux at this
  simp at this
  simp[hi];omega
 ·simp[Nat.le_of_not_lt hi]
def ax.bX (p:ax) (s a b:Int):ax × Int :=
 if p.bQ=true then (if Wb a=true∧0≤b∧b < 6∧0≤s∧p.ow a.toNat b.toNat=s + 1 then (p.put a.toNat b.toNat 0,0) else (p,7)) else (p,2)
def ax.oH (p:ax) (a:Nat) (to:Bool):ax:={ p with dr:=p.dr.set a to }
theorem ax.nB (p:ax) (hp:p.wf) (a:Nat) (to:Bool):(p.oH a to).wf:=⟨hp.own,by simp[ax.oH,hp.dr]⟩
def ax.drain (p:ax) (a:Int) (to:Bool):ax × Int :=
 if Wb a=true then (if p.nA a.toNat=to then (p,8) else (p.oH a.toNat to,0)) else (p,7)
theorem ax.dZ (p:ax) (hp:p.wf) (a:Int) (to:Bool):(p.drain a to).1.wf:=by
 unfold ax.drain
 split
 ·split
  ·exact hp
  ·exact p.nB hp _ _
 ·exact hp
theorem ax.uj (p:ax) (hp:p.wf) (s a b:Int):(p.bX s a b).1.wf:=by
 unfold ax.bX
 split
 ·split
  ·exact p.df hp _ _ _
  ·exact hp
 ·exact hp
theorem ax.nC (p:ax) (hp:p.wf) (s a d:Int):(p.take s a d).1.wf:=by
 unfold ax.take
 split
 ·split
  ·split
   ·exact hp
   ·split
    ·exact hp
    ·exact p.df hp _ _ _
  ·exact hp
 ·exact hp
theorem AG (a:Int) (h:Wb a=true):∃ k:Nat,a=k∧k < 3:=by
 unfold Wb at h;simp at h
 exact ⟨a.toNat,by omega,by omega⟩
theorem Ybq (l:List Int) (n i:Nat) (h:i < (lp l n).length):(lp l n).getD i 0 < n:=by
 have h2:(lp l n).getD i 0 ∈ lp l n:=by
  rw[List.getD_eq_getElem?_getD,List.getElem?_eq_getElem h];exact List.getElem_mem h
 generalize (lp l n).getD i 0=x at h2
 unfold lp at h2
 exact List.mem_range.1 (List.mem_filter.1 h2).1
theorem Gx (p:ax) (hp:p.wf) (a k:Nat) (ha:a < 3) (hk:k < 6):(p.row a)[k]?=some (p.ow a k):=by
 rw[SA p a k hk]
 have:a * 6 + k < p.own.length:=by rw[hp.own];omega
 unfold ax.ow
 simp[this]
theorem SD (p:ax) (hp:p.wf) (a:Nat) (draw:Int) (ha:a < 3) (hl:p.left a≠0):p.jR a draw < 6∧p.ow a (p.jR a draw)=0:=by
 have hlen:(lp (p.row a) 6).length=p.left a:=by
  rw[Gw _ 6 (by rw[Ky p hp a ha];omega),Dk p a ha,List.take_of_length_le (by rw[Ky p hp a ha];omega)]
 have hm:(draw % (p.left a:Int)).toNat < (lp (p.row a) 6).length:=by
  have m0:=Int.emod_nonneg draw (show (p.left a:Int)≠0 by omega)
  have m1:=Int.emod_lt_of_pos draw (show (0:Int) < p.left a by omega)
  rw[hlen];omega
 have hk:p.jR a draw < 6:=Ybq _ _ _ hm
 refine ⟨hk,?_⟩
 have h2:p.jR a draw ∈ lp (p.row a) 6:=by
  unfold ax.jR
  rw[List.getD_eq_getElem?_getD,List.getElem?_eq_getElem hm];exact List.getElem_mem hm
 generalize p.jR a draw=x at hk h2 ⊢
 unfold lp at h2
 have h3:=(List.mem_filter.1 h2).2
 have h4:=Gx p hp a x ha hk
 rw[List.getD_eq_getElem?_getD,h4]at h3
 simpa using h3
inductive qL (p:ax) (s a:Int):ax × Int × Int→Prop
 | no (e:Int) (he:e≠0):qL p s a (p,0,e)
 | yes (b k:Nat) (ha:a=b) (hb:b < 3) (hk:k < 6) (h0:0≤s) (h8:s < 8) (hg:p.bQ=true) (hd:p.nA b=false) (hl:p.left b≠0) (ho:p.ow b k=0):qL p s a (p.put b k (s + 1),(k:Int),0)
theorem LK (p:ax) (hp:p.wf) (s a draw:Int):qL p s a (p.take s a draw):=by
 unfold ax.take
 split
 ·rename_i hg
  split
  ·rename_i h
   obtain ⟨b,rfl,hb⟩:=AG a h.1
   rw[show ((b:Int)).toNat=b by omega]
   split
   ·exact .no 9 aI
   ·rename_i hd
    split
    ·exact .no 10 aI
    ·rename_i hl
     obtain ⟨hk,ho⟩:=SD p hp b draw hb hl
     exact .yes b _ rfl hb hk h.2.1 h.2.2 hg (by simpa using hd) hl ho
  ·exact .no 7 aI
 ·exact .no 2 aI
inductive mK (p:ax):Int × Int→Prop
 | no (e:Int) (he:e≠0):mK p (0,e)
 | yes (b:Nat) (hb:b < 3) (hg:p.bQ=true) (hd:p.nA b=false) (hl:0 < p.left b):mK p ((b:Int),0)
theorem Ye6 (p:ax) (draw:Int):mK p (p.pick draw):=by
 unfold ax.pick
 split
 ·rename_i hg
  split
  ·exact .no 10 aI
  ·rename_i hl
   have hm:(draw % ((p.opens 3).length:Int)).toNat < (p.opens 3).length:=by
    have m0:=Int.emod_nonneg draw (show ((p.opens 3).length:Int)≠0 by omega)
    have m1:=Int.emod_lt_of_pos draw (show (0:Int) < (p.opens 3).length by omega)
    omega
   have h2:(p.opens 3).getD (draw % ((p.opens 3).length:Int)).toNat 0 ∈ p.opens 3:=by
    rw[List.getD_eq_getElem?_getD,List.getElem?_eq_getElem hm];exact List.getElem_mem hm
   generalize (p.opens 3).getD (draw % ((p.opens 3).length:Int)).toNat 0=x at h2
   unfold ax.opens at h2
   have h3:=List.mem_filter.1 h2
   have h4:=h3.2
   unfold ax.open_ at h4
   simp at h4
   exact .yes x (List.mem_range.1 h3.1) hg h4.1 h4.2
 ·exact .no 2 aI
def ax.enc (p:ax):List AV:=Qo p.own++Ze p.dr
theorem ax.aA {p:ax} (h:p.wf):p.enc.length=21:=by simp[ax.enc,Qo,Ze,h.own,h.dr]
theorem ax.b8 (p:ax) (n:Nat):ah n p.enc=True:=by simp only[ax.enc,vo,zN,QK,and_self]
theorem ax.mL {p:ax} (h:p.wf) {b:Nat} (hb:b < 3):p.enc.getD (18 + b) .any=.bool (p.nA b):=by
 unfold ax.enc ax.nA
 have e:(Qo p.own++Ze p.dr)[18 + b]?=(Ze p.dr)[b]?:=by
  rw[List.getElem?_append_right (by rw[Xv,h.own];omega),Xv,h.own,show 18 + b - 18=b by omega]
 have:=JR (l:=p.dr) (i:=b) (by rw[h.dr];exact hb)
 simp only[List.getD]at this ⊢
 rw[e,this]
theorem ax.dA (p:ax) (ρ:Nat→Nat):ay ρ p.enc=p.enc:=by simp only[ax.enc,zM,zL,QI]
theorem ax.iA (p:ax) (s:FS):p.enc.map (Yj s)=p.enc:=by simp only[ax.enc,List.map_append,JS,QL]
attribute [go_sem] ax.b8 ax.dA ax.iA
structure Mp where
 af:Int
 s:Int
 aR:Int
 a:Int
 port:Int
 deriving DecidableEq
def Mp.enc (m:Mp):List AV:=[.int .i64 m.af,.int .i64 m.s,.int .i64 m.aR,.int .i64 m.a,.int .i64 m.port]
def fI:Mp:=⟨0,0,0,0,0⟩
def ca (l:List Mp):List AV:=l.flatMap Mp.enc
theorem Jg (l:List Mp):(ca l).length=l.length * 5:=by
 induction l with
 | nil=>rfl
 | cons e l ih=>simp[ca,Mp.enc]at ih ⊢;omega
theorem vQ (l:List Mp) (k:Nat) (h:k < l.length):((ca l).drop (k * 5)).take 5=(l[k]).enc:=by
 induction l generalizing k with
 | nil=>simp at h
 | cons e l ih =>
  cases k with
  | zero=>simp[ca,Mp.enc]
  | succ k =>
   have:=ih k (by simpa using h)
   have e1:ca (e::l)=e.enc++ca l:=by simp[ca]
   rw[e1,List.drop_append,List.drop_eq_nil_of_le (by simp[Mp.enc];omega)]
   have e2:(k + 1) * 5 - e.enc.length=k * 5:=by simp[Mp.enc];omega
   rw[e2];simpa using this
theorem LL (a b:List Mp):ca a++ca b=ca (a++b):=by simp[ca]
theorem Xu6 (l:List Mp) (m:Mp):ca l++[.int .i64 m.af,.int .i64 m.s,.int .i64 m.aR,.int .i64 m.a,.int .i64 m.port]=ca (l++[m]):=by simp[ca,Mp.enc]
theorem SE (l:List Mp) (k:Nat) (h:k≤l.length):(ca l).take (k * 5)=ca (l.take k):=by
 have e:ca l=ca (l.take k)++ca (l.drop k):=by rw[LL,List.take_append_drop]
 rw[e,List.take_append_of_le_length (by rw[Jg,List.length_take];omega),List.take_of_length_le (by rw[Jg,List.length_take];omega)]
theorem LM {l:List Mp} {x:AV} (h:x ∈ ca l):∃ n,x=.int .i64 n:=by
 obtain ⟨e,_,he⟩:=List.mem_flatMap.1 h
 simp[Mp.enc]at he
 rcases he with rfl|rfl|rfl|rfl|rfl<;>exact ⟨_,rfl⟩
theorem AH (n:Nat) (l:List Mp):ah n (ca l)=True:=by
 refine eq_true ?_
 rw[Xi]
 intro x hx
 obtain ⟨k,rfl⟩:=LM hx
 simp[Qf]
theorem LN (ρ:Nat→Nat) (l:List Mp):ay ρ (ca l)=ca l:=by
 rw[Yk]
 refine (List.map_congr_left (g:=id) fun x hx=>?_).trans (List.map_id _)
 obtain ⟨k,rfl⟩:=LM hx
 simp[aD]
theorem Xxl (s:FS) (l:List Mp):(ca l).map (Yj s)=ca l:=by
 refine (List.map_congr_left (g:=id) fun x hx=>?_).trans (List.map_id _)
 obtain ⟨k,rfl⟩:=LM hx
 rfl
attribute [go_sem] AH LN Xxl Jg
structure Tb where
 aq:ax
 home:List Int
 maps:List Mp
structure Tb.wf (t:Tb):Prop where
 aq:t.aq.wf
 home:t.home.length=8
def Tb.hd (t:Tb):List AV:=t.aq.enc++Qo t.home
theorem Tb.cU {t:Tb} (h:t.wf):t.hd.length=29:=by simp[Tb.hd,ax.aA h.aq,Xv,h.home]
theorem Tb.nD (t:Tb) (n:Nat):ah n t.hd=True:=by simp only[Tb.hd,vo,ax.b8,zN,and_self]
theorem Tb.iB (t:Tb) (ρ:Nat→Nat):ay ρ t.hd=t.hd:=by simp only[Tb.hd,zM,ax.dA,zL]
theorem Tb.mM (t:Tb) (s:FS):t.hd.map (Yj s)=t.hd:=by simp only[Tb.hd,List.map_append,ax.iA,JS]
attribute [go_sem] Tb.nD Tb.iB Tb.mM
def Tb.enc (t:Tb):List AV:=t.hd++[.isl t.maps.length (ca t.maps)]
theorem Tb.aA {t:Tb} (h:t.wf):t.enc.length=30:=by simp[Tb.enc,Tb.cU h]
theorem Tb.b8 (t:Tb) (n:Nat):ah n t.enc=True:=by simp[Tb.enc,vo,Tb.nD,ah,Qf,AH]
theorem Tb.dA (t:Tb) (ρ:Nat→Nat):ay ρ t.enc=t.enc:=by simp[Tb.enc,zM,Tb.iB,ay,aD,LN]
theorem Tb.iA (t:Tb) (s:FS):t.enc.map (Yj s)=t.enc:=by simp[Tb.enc,List.map_append,Tb.mM,Yj]
attribute [go_sem] Tb.b8 Tb.dA Tb.iA
theorem Tb.cz {t:Tb} (h:t.wf):t.enc.getD 29 .any=.isl t.maps.length (ca t.maps):=by
 unfold Tb.enc
 rw[List.getD_eq_getElem?_getD,List.getElem?_append_right (by rw[Tb.cU h];decide),Tb.cU h];rfl
theorem Tb.ea {t:Tb} (h:t.wf):t.enc.take 21=t.aq.enc:=by
 unfold Tb.enc Tb.hd
 rw[List.append_assoc,List.take_append_of_le_length (by rw[ax.aA h.aq];decide),List.take_of_length_le (by rw[ax.aA h.aq];decide)]
def Tb.bC (t:Tb) (s:Nat):Int:=t.home.getD s 0
theorem Tb.gp {t:Tb} (h:t.wf) {s:Nat} (hs:s < 8):t.enc.getD (21 + s) .any=.int .i64 (t.bC s):=by
 unfold Tb.enc Tb.hd Tb.bC
 rw[List.append_assoc,List.getD_eq_getElem?_getD,List.getElem?_append_right (by rw[ax.aA h.aq];omega),ax.aA h.aq,show 21 + s - 21=s by omega,List.getElem?_append_left (by rw[Xv,h.home];exact hs)]
 have hl:s < t.home.length:=by rw[h.home];exact hs
 simp[Qo,List.getD,hl]
def Jr (port:Int):Bool:=decide (1024≤port) && decide (port < 1072)
def Xb (port:Int):Int:=if Jr port=true then (port - 1024) / 8 else 0
def Jk (af s aR:Int):Bool:=(af == 1 || af == 6 || af == 17) && decide (0≤s) && decide (s < 8) && decide (0≤aR) && decide (aR≤65535)
def Zd (af s aR:Int) (m:Mp):Bool:=m.af == af && m.s == s && m.aR == aR
def Wa (af a port:Int) (m:Mp):Bool:=m.af == af && m.a == a && m.port == port
def mN:Option Mp→AV
 | some m=>.aU [.agg m.enc,.bool true]
 | none=>.aU [.agg fI.enc,.bool false]
theorem Xn5:FT Tryz.prog 56 Tryz.f56 (aQ Tryz.prog Tryz.f56) [.t 2,.t 3,.t 4]:=.of Tryz.func56
theorem Xql:FT Tryz.prog 81 Tryz.f81 (aQ Tryz.prog Tryz.f81) [.t 6]:=.of Tryz.func81
theorem AI:FT Tryz.prog 52 Tryz.f52 (aQ Tryz.prog Tryz.f52) [.t 2]:=.of Tryz.func52
theorem SF:FT Tryz.prog 40 Tryz.f40 (aQ Tryz.prog Tryz.f40) [.cell 8 (.ag 5),.t 9]:=.of Tryz.func40
theorem SG:FT Tryz.prog 42 Tryz.f42 (aQ Tryz.prog Tryz.f42) [.cell 8 (.ag 5),.t 9]:=.of Tryz.func42
theorem SH:FT Tryz.prog 126 Tryz.f126 (aQ Tryz.prog Tryz.f126) [.t 4]:=.of Tryz.func126
theorem AJ:FT Tryz.prog 89 Tryz.f89 (aQ Tryz.prog Tryz.f89) [.cell 10 (.ag 30),.cell 11 (.ag 5),.t 12,.t 13]:=.of Tryz.func89
theorem Xf1:FT Tryz.prog 125 Tryz.f125 (aQ Tryz.prog Tryz.f125) [.cell 3 (.ag 30),.cell 4 (.ag 5),.t 5,.t 6]:=.of Tryz.func125
theorem Xz3:FT Tryz.prog 127 Tryz.f127 (aQ Tryz.prog Tryz.f127) [.cell 6 (.ag 30),.cell 7 (.ag 5),.t 8,.t 9]:=.of Tryz.func127
theorem Gy:FT Tryz.prog 102 Tryz.f102 (aQ Tryz.prog Tryz.f102) [.cell 4 (.ag 30),.t 5,.t 6]:=.of Tryz.func102
theorem SI:FT Tryz.prog 140 Tryz.f140 (aQ Tryz.prog Tryz.f140) [.t 4]:=.of Tryz.func140
theorem Xi8:FT Tryz.prog 141 Tryz.f141 (aQ Tryz.prog Tryz.f141) [.t 6]:=.of Tryz.func141
theorem AK:FT Tryz.prog 64 Tryz.f64 (aQ Tryz.prog Tryz.f64) [.t 2]:=.of Tryz.func64
theorem Xt1:FT Tryz.prog 79 Tryz.f79 (aQ Tryz.prog Tryz.f79) [.t 2]:=.of Tryz.func79
theorem LO:FT Tryz.prog 80 Tryz.f80 (aQ Tryz.prog Tryz.f80) [.t 2]:=.of Tryz.func80
theorem SJ:FT Tryz.prog 49 Tryz.f49 (aQ Tryz.prog Tryz.f49) [.t 4]:=.of Tryz.func49
theorem Xdz:FT Tryz.prog 163 Tryz.f163 (aQ Tryz.prog Tryz.f163) [.t 4]:=.of Tryz.func163
theorem SM:FT Tryz.prog 128 Tryz.f128 (aQ Tryz.prog Tryz.f128) [.t 4,.t 5]:=.of Tryz.func128
theorem SN:FT Tryz.prog 129 Tryz.f129 (aQ Tryz.prog Tryz.f129) [.cell 8 (.ag 21),.t 9,.t 10]:=.of Tryz.func129
theorem Xsu:FT Tryz.prog 142 Tryz.f142 (aQ Tryz.prog Tryz.f142) [.cell 8 (.ag 21),.t 9]:=.of Tryz.func142
theorem Xr4:FT Tryz.prog 103 Tryz.f103 (aQ Tryz.prog Tryz.f103) [.cell 6 (.ag 21),.t 7]:=.of Tryz.func103
theorem Xnz:FT Tryz.prog 61 Tryz.f61 (aQ Tryz.prog Tryz.f61) [.cell 4 (.ag 21),.t 5]:=.of Tryz.func61
theorem Xa8:FT Tryz.prog 62 Tryz.f62 (aQ Tryz.prog Tryz.f62) [.cell 4 (.ag 21),.t 5]:=.of Tryz.func62
theorem Gz (gl:Nat→AV) (a:Int):PS Tryz.prog gl 79 [.int .i64 a] (.bool (Wb a)):=by
 refine Xt1.ps (of_decide_eq_true rfl) (by simp[Qf]) fun c hN hg=>?_
 conv in aQ _ _=>cbv
 unfold Wb
 exact Qr
theorem GA (p:ax) (hp:p.wf):p.enc.take 18=Qo p.own:=by
 unfold ax.enc
 rw[List.take_append_of_le_length (by rw[Xv,hp.own];decide),List.take_of_length_le (by rw[Xv,hp.own];decide)]
theorem LP (p:ax) (hp:p.wf) (a:Nat) (ha:a < 3):(p.enc.drop (a * 6)).take 6=Qo (p.row a):=by
 unfold ax.enc ax.row
 rw[List.drop_append_of_le_length (by rw[Xv,hp.own];omega),List.take_append_of_le_length (by rw[List.length_drop,Xv,hp.own];omega)]
 simp[Qo,List.map_drop,List.map_take]
theorem SO (p:ax) (a:Nat):(p.own.drop (a * 6)).take 6=p.row a:=rfl
theorem Dl (p:ax) (a k:Nat) (hk:k < 6):(p.row a).getD k 0=p.ow a k:=by
 unfold ax.ow
 rw[List.getD_eq_getElem?_getD,List.getD_eq_getElem?_getD,SA p a k hk]
theorem GB (gl:Nat→AV) (p:ax) (hp:p.wf):PS Tryz.prog gl 80 [.agg p.enc] (.bool p.bQ):=by
 refine LO.ps (of_decide_eq_true rfl) (by simp[Qf]) fun c hN hg=>?_
 conv in aQ _ _=>cbv
 have e2:=ax.aA hp
 have e3:=GA p hp
 refine Qh (An @e2 @e3) ?_
 refine Xd (fun a:Nat=>a≤3∧(p.own.take (a * 6)).all Ux=true) (fun a=>⟨[(8,.agg (Qo p.own)),(9,.int .i64 a)],[],0⟩) (fun a=>3 - a) LO.mixed hN
  ⟨0,⟨by omega,rfl⟩,[],by exact Qr⟩ fun a hI=>?_
 obtain ⟨ha,cg⟩:=id hI
 clear hI
 refine Qe ?_
 (refine Qa (fun h1=>?_) (fun h1=>?_)<;>try exact h1.elim)
 ·have qM:a < 3:=by omega
  have hr:=SO p a
  have fO:=Ky p hp a qM
  refine Qh (An @hr @hp.own) ?_
  refine Xd (fun k:Nat=>k≤6∧(p.own.take (a * 6 + k)).all Ux=true) (fun k=>⟨[(8,.agg (Qo p.own)),(9,.int .i64 a),(12,.agg (Qo (p.row a))),(13,.int .i64 k)],[],0⟩) (fun k=>6 - k) LO.mixed hN
   ⟨0,⟨by omega,cg⟩,[],by exact Qr⟩ fun k hJ=>?_
  obtain ⟨hk,lq⟩:=id hJ
  clear hJ
  refine Qe ?_
  (refine Qa (fun h2=>?_) (fun h2=>?_)<;>try exact h2.elim)
  ·have np:k < 6:=by omega
   have hv:=Dl p a k np
   have ho:p.own[a * 6 + k]?=some (p.ow a k):=by
    unfold ax.ow
    rw[List.getD_eq_getElem?_getD,List.getElem?_eq_getElem (by rw[hp.own];omega)];rfl
   generalize p.ow a k=x at *
   refine Qh (An @fO @hv) ?_
   (refine Qa (fun h3=>?_) (fun h3=>?_)<;>try exact h3.elim)
   ·have hb:Ux x=false:=h3.elim (Xws x) (Xuk x)
    exact Qq (Xwa p _ x ho hb)
   ·refine Qe ?_
    refine ⟨k + 1,⟨by omega,Xo7 p _ x ho lq (Xvv x h3.1 h3.2)⟩,⟨[],?_⟩,by omega⟩
    exact Qr
  ·have:k=6:=by omega
   subst this
   refine Qe ?_
   refine ⟨a + 1,⟨by omega,by rw[show (a + 1) * 6=a * 6 + 6 by omega];exact lq⟩,⟨[],?_⟩,by omega⟩
   exact Qr
 ·have:a=3:=by omega
  subst this
  exact Qq (Xty p cg hp)
theorem SP (gl:Nat→AV) (p:ax) (hp:p.wf) (a:Int):PS Tryz.prog gl 49 [.agg p.enc,.int .i64 a] (.int .i64 (p.left a)):=by
 refine SJ.ps (of_decide_eq_true rfl) (by simp[Qf]) fun c hN hg=>?_
 conv in aQ _ _=>cbv
 have e2:=ax.aA hp
 have hA:=Gz c.gl a
 by_cases ha:Wb a=true
 ·obtain ⟨b,rfl,hb⟩:=AG a ha
  rw[ha]at hA
  have hr:=LP p hp b hb
  have fO:=Ky p hp b hb
  refine Qh @e2 ?_
  refine Zq hA ?_
  (refine Qa (fun h1=>?_) (fun h1=>?_)<;>try exact h1.elim)
  refine Qh (An @e2 @hr) ?_
  refine Xd (fun k:Nat=>k≤6) (fun k=>⟨[(5,.int .i64 (Uz ((p.row b).take k):Nat)),(13,.agg (Qo (p.row b))),(14,.int .i64 k)],[],0⟩) (fun k=>6 - k) SJ.mixed hN
   ⟨0,by omega,[],by refine Qe ?_;rfl⟩ fun k hk=>?_
  refine Qe ?_
  (refine Qa (fun h2=>?_) (fun h2=>?_)<;>try exact h2.elim)
  ·have np:k < 6:=by omega
   have hv:=Dl p b k np
   have hs:=LI (p.row b) k (p.ow b k) (Gx p hp b k hb np)
   have hle:=LJ (p.row b) k
   generalize p.ow b k=x at *
   refine Qh (An @fO @hv) ?_
   (refine Qa (fun h3=>?_) (fun h3=>?_)<;>try exact h3.elim)
   ·rw[if_pos h3]at hs
    refine Qe ?_
    refine ⟨k + 1,by omega,⟨[],?_⟩,by omega⟩
    exact Qq @hs
   ·rw[if_neg h3]at hs
    refine Qe ?_
    refine ⟨k + 1,by omega,⟨[],?_⟩,by omega⟩
    exact Qq @hs
  ·have:k=6:=by omega
   subst this
   have hf:p.left (b:Int)=Uz ((p.row b).take 6):=by rw[Dk p b hb,List.take_of_length_le ae]
   exact Qq @hf
 ·have ha:Wb a=false:=by simpa using ha
  rw[ha]at hA
  have h0:=Xv5 p a ha
  refine Qh @e2 ?_
  refine Zq hA ?_
  (refine Qa (fun h1=>?_) (fun h1=>?_)<;>try exact h1.elim)
  exact Qq @h0
theorem SQ (gl:Nat→AV) (k n:Int) (hn:0 < n) (oI:n≤4611686018427387904):PS Tryz.prog gl 163 [.int .i64 k,.int .i64 n] (.int .i64 (k % n)):=by
 refine Xdz.ps (of_decide_eq_true rfl) (by simp[Qf]) fun c hN hg=>?_
 conv in aQ _ _=>cbv
 have hb:=Xrq k n hn
 have hE:=Lib.hid (Qt0 k n hn)
 refine Qe ?_
 (refine Qa (fun h1=>?_) (fun h1=>?_)<;>try exact h1.elim)
 ·have e:=hE.out
  rw[if_pos h1]at e
  exact Qr
 ·have e:=hE.out
  rw[if_neg h1]at e
  exact Qr
theorem Xhz (l:List Int):Uz (l.take 0)=0:=rfl
def eP (l:List Nat):List Int:=l.map fun (a:Nat)=>(a:Int)
theorem Dm (l:List Nat):(eP l).length=l.length:=by simp[eP]
theorem SR (l:List Nat) (i:Nat) (h:i < l.length):(eP l).getD i 0=((l.getD i 0:Nat):Int):=by simp[eP,List.getD,h]
theorem SS (l:List Nat) (k:Nat):eP l++[(k:Int)]=eP (l++[k]):=by simp[eP]
set_option maxHeartbeats 1000000 in
theorem Xtw (gl:Nat→AV) (p:ax) (hp:p.wf) (draw:Int):PS Tryz.prog gl 128 [.agg p.enc,.int .i64 draw] (.aU [.int .i64 (p.pick draw).1,.int .i64 (p.pick draw).2]):=by
 refine SM.ps (of_decide_eq_true rfl) (by simp[Qf,ah]) fun c hN hg=>?_
 conv in aQ _ _=>cbv
 have e2:=ax.aA hp
 have hG:=GB c.gl p hp
 by_cases bc:p.bQ=true
 rotate_left
 ·have hr:p.pick draw=(0,2):=if_neg bc
  have bc:p.bQ=false:=by simpa using bc
  rw[bc]at hG
  rw[hr]
  refine Qh @e2 ?_
  refine Qv hG @e2 ?_
  (refine Qa (fun h1=>?_) (fun h1=>?_)<;>try exact h1.elim)
  exact Qr
 have hr:p.pick draw=(if (p.opens 3).length=0 then ((0:Int),(10:Int)) else ((((p.opens 3).getD (draw % ((p.opens 3).length:Int)).toNat 0:Nat):Int),(0:Int))):=if_pos bc
 rw[bc]at hG
 rw[hr]
 clear hr
 refine Qh @e2 ?_
 refine Qv hG @e2 ?_
 (refine Qa (fun h1=>?_) (fun h1=>?_)<;>try exact h1.elim)
 refine Qe ?_
 refine vF 6 1 rfl rfl ?_
 refine Xd (fun k:Nat=>k≤3) (fun k=>⟨[(1,.int .i64 draw),(2,.ptr 0 0),(6,.sl 1 1 0 (p.opens k).length (p.opens k).length),(11,.int .i64 k)],[(0,.cells p.enc),(1,.cells (Qo (eP (p.opens k))))],2⟩) (fun k=>3 - k) SM.mixed hN
  ⟨0,by omega,[],by (have aJ:=@St.named.eq_1;refine XG ?_;clear aJ;((try (repeat' with_reducible refine And.intro ?_ ?_));(try any_goals (first|refine zm ?_|exact CL|fail))))<;>exact rfl⟩ fun k hk=>?_
 have vu:=Xrf p k
 refine Qe ?_
 (refine Qa (fun h2=>?_) (fun h2=>?_)<;>try exact h2.elim)
 ·have LQ:k < 3:=by omega
  have hd:=ax.mL hp LQ
  have hL:=SP c.gl p hp k
  have pK:=Xgs p k
  unfold ax.open_ at pK
  have kf:=Dm (p.opens k)
  cases sH:p.nA k with
  | true =>
   rw[sH]at hd pK
   have pK:p.opens (k + 1)=p.opens k:=by simpa using pK
   refine Qh (An @e2 @hd) ?_
   ((first|apply Yd|apply Xr)<;>(refine XG ?_;first|exact rfl|exact True.intro|((try (repeat' with_reducible refine And.intro ?_ ?_));(try any_goals (first|refine zm ?_|exact CL|fail)))))
   (refine Qa (fun h3=>?_) (fun h3=>?_)<;>try exact h3.elim)
   refine Qe ?_
   refine ⟨k + 1,by omega,⟨[],?_⟩,by omega⟩
   exact Qq @pK
  | false =>
   rw[sH]at hd pK
   refine Qh (An @e2 @hd) ?_
   refine Qv hL (An @e2 @hd) ?_
   (refine Qa (fun h3=>?_) (fun h3=>?_)<;>try exact h3.elim)
   ·have pK:p.opens (k + 1)=p.opens k++[k]:=by rw[pK];simp;omega
    have dR:=SS (p.opens k) k
    have sI:(p.opens k++[k]).length=(p.opens k).length + 1:=by simp
    refine Qe ?_
    refine Ja ?_
    refine Zj @kf ?_
    refine ⟨k + 1,by omega,⟨[(1,3)],?_⟩,by omega⟩
    exact Qq (An @pK (An @dR @sI))
   ·have pK:p.opens (k + 1)=p.opens k:=by rw[pK];simp;omega
    refine Qe ?_
    refine ⟨k + 1,by omega,⟨[],?_⟩,by omega⟩
    exact Qq @pK
 ·have:k=3:=by omega
  subst this
  have kf:=Dm (p.opens 3)
  by_cases hz:(p.opens 3).length=0
  ·rw[if_pos hz]
   refine Qe ?_
   (refine Qa (fun h3=>?_) (fun h3=>?_)<;>try exact h3.elim)
   ·exact Qr
   ·omega
  ·rw[if_neg hz]
   have hC:=SQ c.gl draw (p.opens 3).length ae ae
   have m0:=Int.emod_nonneg draw (show ((p.opens 3).length:Int)≠0 by omega)
   have m1:=Int.emod_lt_of_pos draw (show (0:Int) < (p.opens 3).length by omega)
   have lz:=SR (p.opens 3) (draw % ((p.opens 3).length:Int)).toNat ae
   generalize draw % ((p.opens 3).length:Int)=d at *
   refine Qe ?_
   (refine Qa (fun h3=>?_) (fun h3=>?_)<;>try exact h3.elim)
   ·omega
   refine Qe ?_
   exact Aa hC (An @kf @lz)
theorem SU (p:ax) (a k:Nat) (o:Int) (h:a * 6 + k < p.own.length):p.enc.set (a * 6 + k) (.int .i64 o)=(p.put a k o).enc:=by
 unfold ax.enc ax.put
 rw[List.set_append_left _ _ (by rw[Xv];exact h)]
 simp[Qo,List.map_set]
theorem Xsx (p:ax) (hp:p.wf) (a:Nat) (to:Bool):p.enc.set (18 + a) (.bool to)=(p.oH a to).enc:=by
 unfold ax.enc ax.oH
 rw[List.set_append_right _ _ (by rw[Xv,hp.own];omega),Xv,hp.own,show 18 + a - 18=a by omega]
 simp[Ze,List.map_set]
theorem LR (p:ax) (hp:p.wf) (a k:Nat) (ha:a < 3) (hk:k < 6):p.enc.getD (a * 6 + k) .any=.int .i64 (p.ow a k):=by
 have h:a * 6 + k < p.own.length:=by rw[hp.own];omega
 unfold ax.enc ax.ow
 rw[List.getD_eq_getElem?_getD,List.getElem?_append_left (by rw[Xv];exact h),List.getD_eq_getElem?_getD]
 simp[Qo,h]
def uk (x:ax × Int × Int):AV:=.aU [.agg x.1.enc,.int .i64 x.2.1,.int .i64 x.2.2]
def Wy (x:ax × Int):AV:=.aU [.agg x.1.enc,.int .i64 x.2]
set_option maxHeartbeats 2000000 in
theorem SV (gl:Nat→AV) (p:ax) (hp:p.wf) (s a draw:Int):PS Tryz.prog gl 129 [.agg p.enc,.int .i64 s,.int .i64 a,.int .i64 draw] (uk (p.take s a draw)):=by
 refine SN.ps (of_decide_eq_true rfl) (by simp[Qf,ah,uk,ax.b8]) fun c hN hg=>?_
 conv in aQ _ _=>cbv
 have e2:=ax.aA hp
 have hG:=GB c.gl p hp
 have hA:=Gz c.gl a
 by_cases bc:p.bQ=true
 rotate_left
 ·have hr:p.take s a draw=(p,0,2):=if_neg bc
  have bc:p.bQ=false:=by simpa using bc
  rw[bc]at hG
  rw[hr]
  unfold uk
  refine Qh @e2 ?_
  refine Qv hG @e2 ?_
  (refine Qa (fun h1=>?_) (fun h1=>?_)<;>try exact h1.elim)
  exact Qq @e2
 by_cases has:Wb a=true∧0≤s∧s < 8
 rotate_left
 ·have hr:p.take s a draw=(p,0,7):=(if_pos bc).trans (if_neg has)
  rw[hr]
  rw[bc]at hG
  unfold uk
  have hb:(!Wb a || decide (s < 0) || decide (8≤s))=true:=by
   cases ha:Wb a
   ·rfl
   ·have:s < 0∨8≤s:=by
     by_cases h1:s < 0
     ·exact .inl h1
     ·exact .inr (by have:¬ (0≤s∧s < 8):=fun h=>has ⟨ha,h⟩;omega)
    simpa using this
  refine Qh @e2 ?_
  refine Qv hG @e2 ?_
  (refine Qa (fun h1=>?_) (fun h1=>?_)<;>try exact h1.elim)
  refine Qh @e2 ?_
  refine Qv hA (An @e2 @hb) ?_
  (refine Qa (fun h2=>?_) (fun h2=>?_)<;>try exact h2.elim)
  exact Qq @e2
 obtain ⟨ha,kW,iC⟩:=has
 obtain ⟨b,rfl,hb⟩:=AG a ha
 have hd:=ax.mL hp hb
 have hL:=SP c.gl p hp b
 by_cases iD:p.nA b=true
 ·have hr:p.take s b draw=(p,0,9):=(if_pos bc).trans ((if_pos ⟨ha,kW,iC⟩).trans (if_pos (by rw[Int.toNat_natCast];exact iD)))
  rw[hr]
  rw[bc]at hG
  rw[ha]at hA
  rw[iD]at hd
  unfold uk
  refine Qh @e2 ?_
  refine Qv hG @e2 ?_
  (refine Qa (fun h1=>?_) (fun h1=>?_)<;>try exact h1.elim)
  refine Qh @e2 ?_
  refine Qv hA @e2 ?_
  (refine Qa (fun h2=>?_) (fun h2=>?_)<;>try exact h2.elim)
  ·omega
  refine Qh (An @e2 @hd) ?_
  (refine Qa (fun h3=>?_) (fun h3=>?_)<;>try exact h3.elim)
  exact Qq @e2
 have iD:p.nA b=false:=by simpa using iD
 by_cases um:p.left b=0
 ·have hr:p.take s b draw=(p,0,10):=(if_pos bc).trans ((if_pos ⟨ha,kW,iC⟩).trans ((if_neg (by rw[Int.toNat_natCast,iD];simp)).trans (if_pos um)))
  rw[hr]
  rw[bc]at hG
  rw[ha]at hA
  rw[iD]at hd
  rw[um]at hL
  unfold uk
  refine Qh @e2 ?_
  refine Qv hG @e2 ?_
  (refine Qa (fun h1=>?_) (fun h1=>?_)<;>try exact h1.elim)
  refine Qh @e2 ?_
  refine Qv hA @e2 ?_
  (refine Qa (fun h2=>?_) (fun h2=>?_)<;>try exact h2.elim)
  ·omega
  refine Qh (An @e2 @hd) ?_
  (refine Qa (fun h3=>?_) (fun h3=>?_)<;>try exact h3.elim)
  refine Qh @e2 ?_
  refine Qv hL @e2 ?_
  (refine Qa (fun h4=>?_) (fun h4=>?_)<;>try exact h4.elim)
  exact Qq @e2
 have hr:p.take s b draw=(p.put b (p.jR b draw) (s + 1),((p.jR b draw:Nat):Int),0):=(if_pos bc).trans ((if_pos ⟨ha,kW,iC⟩).trans ((if_neg (by rw[Int.toNat_natCast,iD];simp)).trans ((if_neg um).trans (by rw[Int.toNat_natCast]))))
 rw[hr]
 rw[bc]at hG
 rw[ha]at hA
 rw[iD]at hd
 clear hr
 have hC:=SQ c.gl draw (p.left b) ae (by have:=Dk p b hb;have:=LJ (p.row b) 6;rw[List.take_of_length_le (by rw[Ky p hp b hb];omega)]at this;omega)
 have m0:=Int.emod_nonneg draw (show (p.left b:Int)≠0 by omega)
 have m1:=Int.emod_lt_of_pos draw (show (0:Int) < p.left b by omega)
 have LS:∀ i,i < 6→p.ow b i=0→(Uz ((p.row b).take i):Int)=draw % (p.left b:Int)→p.jR b draw=i:=fun i hi h0 he=>by
  have h1:=SC (p.row b) i (by rw[Ky p hp b hb];exact hi) (by rw[Gx p hp b i hb hi,h0]) 6 hi
  unfold ax.jR
  rw[← he,Int.toNat_natCast,List.getD_eq_getElem?_getD,h1];rfl
 have hl6:p.left b≤6:=by
  have h1:=Dk p b hb
  have h2:=LJ (p.row b) 6
  rw[List.take_of_length_le (by rw[Ky p hp b hb];omega)]at h2;omega
 have m8:((Uz []:Nat):Int)=0:=rfl
 have hlf:Uz ((p.row b).take 6)=p.left b:=by rw[Dk p b hb,List.take_of_length_le (by rw[Ky p hp b hb];omega)]
 generalize draw % (p.left b:Int)=D at *
 have AL:=LP p hp b hb
 have fO:=Ky p hp b hb
 unfold uk
 refine Qh @e2 ?_
 refine Qv hG @e2 ?_
 (refine Qa (fun h1=>?_) (fun h1=>?_)<;>try exact h1.elim)
 refine Qh @e2 ?_
 refine Qv hA @e2 ?_
 (refine Qa (fun h2=>?_) (fun h2=>?_)<;>try exact h2.elim)
 ·omega
 refine Qh (An @e2 @hd) ?_
 (refine Qa (fun h3=>?_) (fun h3=>?_)<;>try exact h3.elim)
 refine Qh @e2 ?_
 refine Qv hL @e2 ?_
 (refine Qa (fun h4=>?_) (fun h4=>?_)<;>try exact h4.elim)
 ·omega
 refine Qh @e2 ?_
 refine Qv hL @e2 ?_
 refine Qv hC @e2 ?_
 refine Qh (An @e2 @AL) ?_
 have LU:∀ i,i < 6→b * 6 + i < p.own.length:=fun i hi=>by rw[hp.own];omega
 refine Xd (fun i:Nat=>i≤6∧(Uz ((p.row b).take i):Int)≤D) (fun i=>⟨[(1,.int .i64 s),(2,.int .i64 b),(4,.ptr 0 0),(8,.ptr 1 0),(11,.int .i64 (D - (Uz ((p.row b).take i):Nat))),(52,.agg (Qo (p.row b))),(53,.int .i64 i)],[(0,.cells p.enc),(1,.cells [.int .i64 0,.int .i64 0,.int .i64 0,.int .i64 0,.int .i64 0,.int .i64 0,.int .i64 0,.int .i64 0,.int .i64 0,.int .i64 0,.int .i64 0,.int .i64 0,.int .i64 0,.int .i64 0,.int .i64 0,.int .i64 0,.int .i64 0,.int .i64 0,.bool false,.bool false,.bool false])],2⟩) (fun i=>6 - i) SN.mixed hN
  ⟨0,⟨by omega,by rw[Xhz];omega⟩,[],by exact Qq (An @m8 @Int.sub_zero)⟩ fun i hI=>?_
 obtain ⟨hi,hle⟩:=id hI
 clear hI
 refine Qe ?_
 (refine Qa (fun h5=>?_) (fun h5=>?_)<;>try exact h5.elim)
 ·have GC:i < 6:=by omega
  have hv:=Dl p b i GC
  have hs:=LI (p.row b) i (p.ow b i) (Gx p hp b i hb GC)
  have hk2:=LS i GC
  have xJ:=SU p b i (s + 1) (LU i GC)
  generalize p.ow b i=x at *
  refine Qh (An @fO @hv) ?_
  (refine Qa (fun h6=>?_) (fun h6=>?_)<;>try exact h6.elim)
  ·rw[if_neg h6]at hs
   refine Qe ?_
   refine ⟨i + 1,⟨by omega,by rw[hs];omega⟩,⟨[],?_⟩,by omega⟩
   exact Qq @hs
  ·rw[if_pos h6]at hs
   refine Qe ?_
   (refine Qa (fun h7=>?_) (fun h7=>?_)<;>try exact h7.elim)
   ·have LQ:=hk2 h6 ae
    rw[LQ]
    have e3:=ax.aA (p.df hp b i (s + 1))
    exact Qq (An @e2 (An @xJ @e3))
   ·refine Qe ?_
    refine ⟨i + 1,⟨by omega,by rw[hs];omega⟩,⟨[],?_⟩,by omega⟩
    exact Qq @hs
 ·have:i=6:=by omega
  subst this
  omega
set_option maxHeartbeats 2000000 in
theorem Xsb (gl:Nat→AV) (p:ax) (hp:p.wf) (s a b:Int) (ji:s≤9223372036854775806):PS Tryz.prog gl 142 [.agg p.enc,.int .i64 s,.int .i64 a,.int .i64 b] (Wy (p.bX s a b)):=by
 refine Xsu.ps (of_decide_eq_true rfl) (by simp[Qf,ah,Wy,ax.b8]) fun c hN hg=>?_
 conv in aQ _ _=>cbv
 have e2:=ax.aA hp
 have hG:=GB c.gl p hp
 have hA:=Gz c.gl a
 by_cases bc:p.bQ=true
 rotate_left
 ·have hr:p.bX s a b=(p,2):=if_neg bc
  have bc:p.bQ=false:=by simpa using bc
  rw[bc]at hG
  rw[hr]
  unfold Wy
  refine Qh @e2 ?_
  refine Qv hG @e2 ?_
  (refine Qa (fun h1=>?_) (fun h1=>?_)<;>try exact h1.elim)
  exact Qq @e2
 rw[bc]at hG
 by_cases aG:Wb a=true∧0≤b∧b < 6∧0≤s
 rotate_left
 ·have hr:p.bX s a b=(p,7):=(if_pos bc).trans (if_neg fun h=>aG ⟨h.1,h.2.1,h.2.2.1,h.2.2.2.1⟩)
  rw[hr]
  unfold Wy
  have hb:(!Wb a || decide (b < 0) || decide (6≤b) || decide (s < 0))=true:=by
   cases ha:Wb a
   ·rfl
   ·have:(b < 0∨6≤b)∨s < 0:=by
     have:¬ (0≤b∧b < 6∧0≤s):=fun h=>aG ⟨ha,h⟩
     omega
    simpa using this
  refine Qh @e2 ?_
  refine Qv hG @e2 ?_
  (refine Qa (fun h1=>?_) (fun h1=>?_)<;>try exact h1.elim)
  refine Qh @e2 ?_
  refine Qv hA (An @e2 @hb) ?_
  (refine Qa (fun h2=>?_) (fun h2=>?_)<;>try exact h2.elim)
  exact Qq @e2
 obtain ⟨ha,vG,fP,kW⟩:=aG
 rw[ha]at hA
 obtain ⟨a,rfl,qM⟩:=AG a ha
 obtain ⟨b,rfl⟩:=Int.eq_ofNat_of_zero_le vG
 have hb6:b < 6:=by omega
 have LV:=LR p hp a b qM hb6
 have xJ:=SU p a b 0 (by rw[hp.own];omega)
 have e3:=ax.aA (p.df hp a b 0)
 by_cases ho:p.ow a b=s + 1
 ·have hr:p.bX s a b=(p.put a b 0,0):=(if_pos bc).trans (if_pos ⟨ha,vG,fP,kW,by rw[Int.toNat_natCast,Int.toNat_natCast];exact ho⟩)
  rw[hr]
  rw[ho]at LV
  unfold Wy
  refine Qh @e2 ?_
  refine Qv hG @e2 ?_
  (refine Qa (fun h1=>?_) (fun h1=>?_)<;>try exact h1.elim)
  refine Qh @e2 ?_
  refine Qv hA (An @e2 @LV) ?_
  (refine Qa (fun h2=>?_) (fun h2=>?_)<;>try exact h2.elim)
  ·omega
  exact Qq (An @e2 (An @xJ @e3))
 ·have hr:p.bX s a b=(p,7):=(if_pos bc).trans (if_neg fun h=>ho (by have:=h.2.2.2.2;rwa [Int.toNat_natCast,Int.toNat_natCast]at this))
  rw[hr]
  unfold Wy
  generalize p.ow a b=o at *
  refine Qh @e2 ?_
  refine Qv hG @e2 ?_
  (refine Qa (fun h1=>?_) (fun h1=>?_)<;>try exact h1.elim)
  refine Qh @e2 ?_
  refine Qv hA (An @e2 @LV) ?_
  (refine Qa (fun h2=>?_) (fun h2=>?_)<;>try exact h2.elim)
  ·exact Qq @e2
  ·omega
theorem SW (gl:Nat→AV) (p:ax) (hp:p.wf) (a:Int) (to:Bool):PS Tryz.prog gl 103 [.agg p.enc,.int .i64 a,.bool to] (Wy (p.drain a to)):=by
 refine Xr4.ps (of_decide_eq_true rfl) (by simp[Qf,ah,Wy,ax.b8]) fun c hN hg=>?_
 conv in aQ _ _=>cbv
 have e2:=ax.aA hp
 have hA:=Gz c.gl a
 by_cases ha:Wb a=true
 rotate_left
 ·have hr:p.drain a to=(p,7):=if_neg ha
  have ha:Wb a=false:=by simpa using ha
  rw[ha]at hA
  rw[hr]
  unfold Wy
  refine Qh @e2 ?_
  refine Qv hA @e2 ?_
  (refine Qa (fun h1=>?_) (fun h1=>?_)<;>try exact h1.elim)
  exact Qq @e2
 rw[ha]at hA
 obtain ⟨a,rfl,qM⟩:=AG a ha
 have hd:=ax.mL hp qM
 have xJ:=Xsx p hp a to
 have e3:=ax.aA (p.nB hp a to)
 by_cases GF:p.nA a=to
 ·have hr:p.drain a to=(p,8):=(if_pos ha).trans (if_pos (by rw[Int.toNat_natCast];exact GF))
  rw[hr]
  rw[GF]at hd
  unfold Wy
  refine Qh @e2 ?_
  refine Qv hA @e2 ?_
  (refine Qa (fun h1=>?_) (fun h1=>?_)<;>try exact h1.elim)
  refine Qh (An @e2 @hd) ?_
  (refine Qa (fun h2=>?_) (fun h2=>?_)<;>try exact h2.elim)
  exact Qq @e2
 ·have hr:p.drain a to=(p.oH a to,0):=(if_pos ha).trans ((if_neg (by rw[Int.toNat_natCast];exact GF)).trans (by rw[Int.toNat_natCast]))
  rw[hr]
  unfold Wy
  generalize p.nA a=d at *
  refine Qh @e2 ?_
  refine Qv hA @e2 ?_
  (refine Qa (fun h1=>?_) (fun h1=>?_)<;>try exact h1.elim)
  refine Qh (An @e2 @hd) ?_
  (refine Qa (fun h2=>?_) (fun h2=>?_)<;>try exact h2.elim)
  ·exact (GF h2).elim
  exact Qq (An @e2 (An @xJ @e3))
theorem SX (gl:Nat→AV) (p:ax) (hp:p.wf) (a:Int):PS Tryz.prog gl 61 [.agg p.enc,.int .i64 a] (Wy (p.drain a true)):=by
 refine Xnz.ps (of_decide_eq_true rfl) (by simp[Qf,ah,Wy,ax.b8]) fun c hN hg=>?_
 conv in aQ _ _=>cbv
 have e2:=ax.aA hp
 have hD:=SW c.gl p hp a true
 have e3:=ax.aA (p.dZ hp a true)
 unfold Wy at hD ⊢
 refine Qh @e2 ?_
 exact Aa hD (An @e2 @e3)
theorem Xb4 (gl:Nat→AV) (p:ax) (hp:p.wf) (a:Int):PS Tryz.prog gl 62 [.agg p.enc,.int .i64 a] (Wy (p.drain a false)):=by
 refine Xa8.ps (of_decide_eq_true rfl) (by simp[Qf,ah,Wy,ax.b8]) fun c hN hg=>?_
 conv in aQ _ _=>cbv
 have e2:=ax.aA hp
 have hD:=SW c.gl p hp a false
 have e3:=ax.aA (p.dZ hp a false)
 unfold Wy at hD ⊢
 refine Qh @e2 ?_
 exact Aa hD (An @e2 @e3)
def uo (port:Int):AV:=.aU [.int .i64 (Xb port),.int .i64 (if Jr port=true then (port - 1024) % 8 else 0),.bool (Jr port)]
theorem Dn (gl:Nat→AV) (port:Int) (hp:-9223372036854775808≤port∧port≤9223372036854775807):PS Tryz.prog gl 56 [.int .i64 port] (uo port):=by
 refine Xn5.ps (of_decide_eq_true rfl) (by simp[uo,Qf,ah]) fun c hN hg=>?_
 conv in aQ _ _=>cbv
 by_cases h:Jr port=true
 ·have h':=h
  unfold Jr at h'
  simp at h'
  have e1:(port - 1024).tdiv 8=(port - 1024) / 8:=Int.tdiv_eq_ediv_of_nonneg ae
  have e2:(port - 1024).tmod 8=(port - 1024) % 8:=Int.tmod_eq_emod_of_nonneg ae
  unfold uo Xb
  rw[if_pos h,if_pos h,h]
  refine Qe ?_
  (refine Qa (fun h1=>?_) (fun h1=>?_)<;>try exact h1.elim)
  ·omega
  exact Qq (An @e1 @e2)
 ·have h':=h
  unfold Jr at h'
  simp at h'
  have hb:Jr port=false:=by simpa using h
  unfold uo Xb
  rw[if_neg h,if_neg h,hb]
  by_cases fw:port < 1024
  ·have d1:decide (port < 1024)=true:=by simpa using fw
   have e0:∃ x,IntKind.i64.wrap (port - 1024)=x:=⟨_,rfl⟩
   obtain ⟨x,hx⟩:=e0
   refine Qh (An @d1 @hx) ?_
   (refine Qa (fun h1=>?_) (fun h1=>?_)<;>try exact h1.elim)
   exact Qr
  ·refine Qe ?_
   (refine Qa (fun h1=>?_) (fun h1=>?_)<;>try exact h1.elim)
   ·exact Qr
   ·omega
theorem LW (gl:Nat→AV) (af s aR:Int):PS Tryz.prog gl 81 [.int .i64 af,.int .i64 s,.int .i64 aR] (.bool (Jk af s aR)):=by
 refine Xql.ps (of_decide_eq_true rfl) (by simp[Qf]) fun c hN hg=>?_
 conv in aQ _ _=>cbv
 unfold Jk
 exact Qr
set_option maxHeartbeats 1000000 in
theorem SY (gl:Nat→AV) (t:Tb) (ht:t.wf) (hl:t.maps.length≤4611686018427387904) (af s aR:Int):PS Tryz.prog gl 40 [.agg t.enc,.int .i64 af,.int .i64 s,.int .i64 aR] (mN (t.maps.find? (Zd af s aR))):=by
 refine SF.ps (of_decide_eq_true rfl) (by cases t.maps.find? (Zd af s aR)<;>simp[mN,Qf,ah,Mp.enc]) fun c hN hg=>?_
 conv in aQ _ _=>cbv
 have e2:=Tb.aA ht
 have e3:=Tb.cz ht
 have aH:=Jg t.maps
 generalize hR:t.maps.find? (Zd af s aR)=R
 refine Qh (An @e2 @e3) ?_
 refine Xd (fun k:Nat=>k≤t.maps.length∧(t.maps.drop k).find? (Zd af s aR)=R) (fun k=>⟨[(1,.int .i64 af),(2,.int .i64 s),(3,.int .i64 aR),(8,.ptr 1 0),(13,.isl t.maps.length (ca t.maps)),(14,.int .i64 t.maps.length),(15,.int .i64 k)],[(0,.cells t.enc),(1,.cells [.int .i64 0,.int .i64 0,.int .i64 0,.int .i64 0,.int .i64 0])],2⟩) (fun k=>t.maps.length - k) SF.mixed hN
  ⟨0,⟨by omega,by rw[List.drop_zero];exact hR⟩,[],by exact Qr⟩ fun k hI=>?_
 obtain ⟨hk,hf⟩:=id hI
 clear hI
 refine Qe ?_
 (refine Qa (fun h1=>?_) (fun h1=>?_)<;>try exact h1.elim)
 ·have bw:k < t.maps.length:=by omega
  have a7:=vQ t.maps k bw
  rw[List.drop_eq_getElem_cons bw,List.find?_cons]at hf
  generalize t.maps[k]=m at *
  obtain ⟨mp,ms,mi,ma,mt⟩:=m
  unfold Zd at hf
  simp only[Mp.enc]at a7
  dsimp only at hf
  refine Qh (An @aH @a7) ?_
  (refine Qa (fun h2=>?_) (fun h2=>?_)<;>try exact h2.elim)
  ·have hc:(mp == af && ms == s && mi == aR)=true:=by simp[h2]
   rw[hc]at hf
   dsimp only at hf
   subst hf
   unfold mN Mp.enc
   exact Qr
  ·have hc:(mp == af && ms == s && mi == aR)=false:=by
    cases hb:(mp == af && ms == s && mi == aR)
    ·rfl
    ·simp at hb;omega
   rw[hc]at hf
   dsimp only at hf
   refine Qe ?_
   refine ⟨k + 1,⟨by omega,hf⟩,⟨[],?_⟩,by omega⟩
   exact Qr
 ·have:k=t.maps.length:=by omega
  subst this
  rw[List.drop_length]at hf
  subst hf
  unfold mN fI Mp.enc
  refine Qe ?_
  exact rfl
set_option maxHeartbeats 1000000 in
theorem SZ (gl:Nat→AV) (t:Tb) (ht:t.wf) (hl:t.maps.length≤4611686018427387904) (af a port:Int):PS Tryz.prog gl 42 [.agg t.enc,.int .i64 af,.int .i64 a,.int .i64 port] (mN (t.maps.find? (Wa af a port))):=by
 refine SG.ps (of_decide_eq_true rfl) (by cases t.maps.find? (Wa af a port)<;>simp[mN,Qf,ah,Mp.enc]) fun c hN hg=>?_
 conv in aQ _ _=>cbv
 have e2:=Tb.aA ht
 have e3:=Tb.cz ht
 have aH:=Jg t.maps
 generalize hR:t.maps.find? (Wa af a port)=R
 refine Qh (An @e2 @e3) ?_
 refine Xd (fun k:Nat=>k≤t.maps.length∧(t.maps.drop k).find? (Wa af a port)=R) (fun k=>⟨[(1,.int .i64 af),(2,.int .i64 a),(3,.int .i64 port),(8,.ptr 1 0),(13,.isl t.maps.length (ca t.maps)),(14,.int .i64 t.maps.length),(15,.int .i64 k)],[(0,.cells t.enc),(1,.cells [.int .i64 0,.int .i64 0,.int .i64 0,.int .i64 0,.int .i64 0])],2⟩) (fun k=>t.maps.length - k) SG.mixed hN
  ⟨0,⟨by omega,by rw[List.drop_zero];exact hR⟩,[],by exact Qr⟩ fun k hI=>?_
 obtain ⟨hk,hf⟩:=id hI
 clear hI
 refine Qe ?_
 (refine Qa (fun h1=>?_) (fun h1=>?_)<;>try exact h1.elim)
 ·have bw:k < t.maps.length:=by omega
  have a7:=vQ t.maps k bw
  rw[List.drop_eq_getElem_cons bw,List.find?_cons]at hf
  generalize t.maps[k]=m at *
  obtain ⟨mp,ms,mi,ma,mt⟩:=m
  unfold Wa at hf
  simp only[Mp.enc]at a7
  dsimp only at hf
  refine Qh (An @aH @a7) ?_
  (refine Qa (fun h2=>?_) (fun h2=>?_)<;>try exact h2.elim)
  ·have hc:(mp == af && ma == a && mt == port)=true:=by simp[h2]
   rw[hc]at hf
   dsimp only at hf
   subst hf
   unfold mN Mp.enc
   exact Qr
  ·have hc:(mp == af && ma == a && mt == port)=false:=by
    cases hb:(mp == af && ma == a && mt == port)
    ·rfl
    ·simp at hb;omega
   rw[hc]at hf
   dsimp only at hf
   refine Qe ?_
   refine ⟨k + 1,⟨by omega,hf⟩,⟨[],?_⟩,by omega⟩
   exact Qr
 ·have:k=t.maps.length:=by omega
  subst this
  rw[List.drop_length]at hf
  subst hf
  unfold mN fI Mp.enc
  refine Qe ?_
  exact rfl
theorem Tb.uq {t:Tb} (h:t.wf) {a:Nat} (ha:a < 3):(t.enc.drop (a * 6)).take 6=Qo (t.aq.row a):=by
 have e:=LP t.aq h.aq a ha
 unfold Tb.enc Tb.hd
 rw[List.append_assoc,List.drop_append_of_le_length (by rw[ax.aA h.aq];omega),List.take_append_of_le_length (by rw[List.length_drop,ax.aA h.aq];omega),e]
def Wg (t:Tb) (s n:Nat):List Nat:=(List.range n).filter fun k=>t.aq.ow (t.bC s - 1).toNat k == (s:Int) + 1
theorem Xm7 (t:Tb) (s n:Nat):Wg t s (n + 1)=Wg t s n++if t.aq.ow (t.bC s - 1).toNat n=(s:Int) + 1 then [n] else []:=by
 unfold Wg;rw[List.range_succ,List.filter_append];simp[List.filter_cons]
theorem S4 (t:Tb) (s n:Nat):(Wg t s n).length≤n:=by
 have:=List.length_filter_le (fun k=>t.aq.ow (t.bC s - 1).toNat k == (s:Int) + 1) (List.range n);simpa [Wg] using this
def vS (t:Tb) (s:Nat):AV:=if 1≤t.bC s then .isl (Wg t s 6).length (Qo (eP (Wg t s 6))) else .nils
theorem Xzc (n:Nat) (t:Tb) (s:Nat):Qf n (vS t s):=by unfold vS;split<;>simp[Qf,zN]
set_option maxHeartbeats 1000000 in
theorem S5 (gl:Nat→AV) (t:Tb) (ht:t.wf) (s:Nat) (hs:s < 8) (h3:0≤t.bC s∧t.bC s≤3):PS Tryz.prog gl 126 [.agg t.enc,.int .i64 s] (vS t s):=by
 refine SH.ps (of_decide_eq_true rfl) (Xzc 0 t s) fun c hN hg=>?_
 conv in aQ _ _=>cbv
 have e2:=Tb.aA ht
 have eh:=Tb.gp ht hs
 by_cases h1:1≤t.bC s
 rotate_left
 ·have hr:vS t s=.nils:=if_neg h1
  rw[hr]
  generalize t.bC s=h at *
  refine Qh (An @e2 @eh) ?_
  (refine Qa (fun g1=>?_) (fun g1=>?_)<;>try exact g1.elim)
  ·omega
  exact Qr
 have hr:vS t s=.isl (Wg t s 6).length (Qo (eP (Wg t s 6))):=if_pos h1
 rw[hr]
 obtain ⟨a,ha⟩:=Int.eq_ofNat_of_zero_le (show 0≤t.bC s - 1 by omega)
 have qM:a < 3:=by omega
 have Ao:(t.bC s - 1).toNat=a:=by omega
 have AL:=Tb.uq ht qM
 have fO:=Ky t.aq ht.aq a qM
 have vT:=Xm7 t s
 have hle:=S4 t s
 rw[Ao]at vT
 have h0:Wg t s 0=[]:=rfl
 generalize Wg t s=W at *
 generalize t.bC s=h at *
 refine Qh (An @e2 (An @eh @ha)) ?_
 (refine Qa (fun g1=>?_) (fun g1=>?_)<;>try exact g1.elim)
 rotate_left
 ·omega
 refine Qh (An @e2 @AL) ?_
 refine vF 5 1 rfl rfl ?_
 refine Xd (fun k:Nat=>k≤6) (fun k=>⟨[(1,.int .i64 s),(5,.sl 1 1 0 (W k).length (W k).length),(20,.agg (Qo (t.aq.row a))),(21,.int .i64 k)],[(0,.cells t.enc),(1,.cells (Qo (eP (W k))))],2⟩) (fun k=>6 - k) SH.mixed hN
  ⟨0,by omega,[],by refine Qh (An @St.named.eq_1 @h0) ?_<;>exact rfl⟩ fun k hk=>?_
 have kC:=hle k
 have kf:=Dm (W k)
 refine Qe ?_
 (refine Qa (fun g2=>?_) (fun g2=>?_)<;>try exact g2.elim)
 ·have np:k < 6:=by omega
  have hv:=Dl t.aq a k np
  have vU:=vT k
  generalize t.aq.ow a k=x at *
  refine Qh (An @fO @hv) ?_
  (refine Qa (fun g3=>?_) (fun g3=>?_)<;>try exact g3.elim)
  ·have vU:W (k + 1)=W k++[k]:=by rw[vU,if_pos g3]
   have dR:=SS (W k) k
   have sI:(W k++[k]).length=(W k).length + 1:=by simp
   refine Qe ?_
   refine Ja ?_
   refine Zj @kf ?_
   refine ⟨k + 1,by omega,⟨[(1,3)],?_⟩,by omega⟩
   exact Qq (An @vU (An @dR @sI))
  ·have vU:W (k + 1)=W k:=by rw[vU,if_neg g3,List.append_nil]
   refine Qe ?_
   refine ⟨k + 1,by omega,⟨[],?_⟩,by omega⟩
   exact Qq @vU
 ·have:k=6:=by omega
  subst this
  exact Qq @kf
def Dp (m:Mp):Prop:=(-9223372036854775808≤m.af∧m.af≤9223372036854775807)∧(-9223372036854775808≤m.s∧m.s≤9223372036854775807)∧(-9223372036854775808≤m.aR∧m.aR≤9223372036854775807)∧(-9223372036854775808≤m.a∧m.a≤9223372036854775807)∧(-9223372036854775808≤m.port∧m.port≤9223372036854775807)
structure Tb.ok (t:Tb):Prop where
 wf:t.wf
 bd:∀ m ∈ t.maps,Dp m
 len:t.maps.length≤4611686018427387904
def Zf (m:Mp):Nat:=m.a.toNat * 6 + (Xb m.port).toNat
def oJ (l:List Mp):List Bool:=l.foldl (fun u m=>u.set (Zf m) true) (List.replicate 18 false)
def kD (l:List Mp):List Int:=l.foldl (fun u m=>u.set m.s.toNat (u.getD m.s.toNat 0 + 1)) (List.replicate 8 0)
def Wt (l:List Int):List Int:=l.foldl (fun u o=>if o=0 then u else u.set (o - 1).toNat (u.getD (o - 1).toNat 0 + 1)) (List.replicate 8 0)
def xK (t:Tb) (m:Mp):Prop:=Jk m.af m.s m.aR=true∧Jr m.port=true∧0≤m.a∧m.a < 3
def nE (t:Tb) (m:Mp):Prop:=xK t m∧t.bC m.s.toNat=m.a + 1∧t.aq.ow m.a.toNat (Xb m.port).toNat=m.s + 1
def Je (m o:Mp):Bool:=o.af == m.af && (o.a == m.a && o.port == m.port || o.s == m.s && o.aR == m.aR)
structure dB (t:Tb):Prop where
 aq:t.aq.bQ=true
 maps:∀ i (h:i < t.maps.length),nE t t.maps[i]
 apart:∀ i j (hi:i < t.maps.length) (hj:j < i),Je t.maps[i] (t.maps[j]'ae)=false
 used:∀ i,i < 18→(t.aq.own.getD i 0 != 0)=(oJ t.maps).getD i false
 lA:∀ s,s < 8→(Wt t.aq.own).getD s 0≤2∧(kD t.maps).getD s 0≤12∧((t.bC s != 0)=decide (0 < (Wt t.aq.own).getD s 0))
open Classical in
noncomputable def Wr (t:Tb):Bool:=decide (dB t)
theorem Xi7 (l:List Mp) (m:Mp):oJ (l++[m])=(oJ l).set (Zf m) true:=by unfold oJ;rw[List.foldl_append];rfl
theorem Xis (l:List Mp) (m:Mp):kD (l++[m])=(kD l).set m.s.toNat ((kD l).getD m.s.toNat 0 + 1):=by unfold kD;rw[List.foldl_append];rfl
theorem Xn2 (l:List Int) (o:Int):Wt (l++[o])=if o=0 then Wt l else (Wt l).set (o - 1).toNat ((Wt l).getD (o - 1).toNat 0 + 1):=by unfold Wt;rw[List.foldl_append];rfl
theorem GG {α β:Type} (f:List α→β→List α) (hf:∀ u b,(f u b).length=u.length):∀ (l:List β) (u:List α),(l.foldl f u).length=u.length
 | [],_=>rfl
 | b::l,u=>by rw[List.foldl_cons,GG f hf l,hf]
theorem Xpm (l:List Mp):(oJ l).length=18:=by unfold oJ;rw[GG _ (fun u b=>List.length_set ..)];rfl
theorem Xnp (l:List Mp):(kD l).length=8:=by unfold kD;rw[GG _ (fun u b=>List.length_set ..)];rfl
theorem S6 (l:List Int):(Wt l).length=8:=by unfold Wt;rw[GG _ (fun u b=>by split<;>simp)];rfl
theorem S7 {β:Type} (ix:β→Nat) (skip:β→Bool) (l:List β) (s:Nat):∀ u:List Int,(l.foldl (fun u b=>if skip b=true then u else u.set (ix b) (u.getD (ix b) 0 + 1)) u).getD s 0≤u.getD s 0 + l.length∧u.getD s 0≤(l.foldl (fun u b=>if skip b=true then u else u.set (ix b) (u.getD (ix b) 0 + 1)) u).getD s 0:=by
 induction l with
 | nil=>intro u;simp
 | cons b l ih =>
  intro u
  rw[List.foldl_cons]
  have h:=ih (if skip b=true then u else u.set (ix b) (u.getD (ix b) 0 + 1))
  have hu:(if skip b=true then u else u.set (ix b) (u.getD (ix b) 0 + 1)).getD s 0≤u.getD s 0 + 1∧u.getD s 0≤(if skip b=true then u else u.set (ix b) (u.getD (ix b) 0 + 1)).getD s 0:=by
   split
   ·omega
   ·by_cases hs:ix b=s
    ·subst hs
     by_cases hl:ix b < u.length
     ·simp[List.getD,hl];omega
     ·simp[List.getD,Nat.le_of_not_lt hl]
    ·simp[List.getD,List.getElem?_set_ne hs];omega
  rw[List.length_cons]
  omega
theorem Dq (n s:Nat):(List.replicate n (0:Int)).getD s 0=0:=by
 rw[List.getD_eq_getElem?_getD,List.getElem?_replicate];split<;>rfl
theorem S8 (l:List Mp) (s:Nat):0≤(kD l).getD s 0∧(kD l).getD s 0≤l.length:=by
 have:=S7 (fun m:Mp=>m.s.toNat) (fun _=>false) l s (List.replicate 8 0)
 rw[Dq,Int.zero_add]at this
 have e:kD l=l.foldl (fun u b=>if (fun _:Mp=>false) b=true then u else u.set ((fun m:Mp=>m.s.toNat) b) (u.getD ((fun m:Mp=>m.s.toNat) b) 0 + 1)) (List.replicate 8 0):=rfl
 rw[e]
 exact ⟨this.2,this.1⟩
theorem S9 (l:List Int) (s:Nat):0≤(Wt l).getD s 0∧(Wt l).getD s 0≤l.length:=by
 have:=S7 (fun o:Int=>(o - 1).toNat) (fun o=>o == 0) l s (List.replicate 8 0)
 rw[Dq,Int.zero_add]at this
 have e:Wt l=l.foldl (fun u b=>if (fun o:Int=>o == 0) b=true then u else u.set ((fun o:Int=>(o - 1).toNat) b) (u.getD ((fun o:Int=>(o - 1).toNat) b) 0 + 1)) (List.replicate 8 0):=by
  unfold Wt
  congr 1
  funext u o
  simp
 rw[e]
 exact ⟨this.2,this.1⟩
theorem Tb.xL {t:Tb} (h:t.wf) {a k:Nat} (ha:a < 3) (hk:k < 6):t.enc.getD (a * 6 + k) .any=.int .i64 (t.aq.ow a k):=by
 have e:=LR t.aq h.aq a k ha hk
 unfold Tb.enc Tb.hd
 rw[List.append_assoc,List.getD_eq_getElem?_getD,List.getElem?_append_left (by rw[ax.aA h.aq];omega),← List.getD_eq_getElem?_getD]
 exact e
open Classical in
theorem LX {t:Tb} (h:dB t):Wr t=true:=decide_eq_true h
open Classical in
theorem AM {t:Tb} (h:¬ dB t):Wr t=false:=decide_eq_false h
theorem Kx {p s i:Int} (h:Jk p s i=true):(p=1∨p=6∨p=17)∧(0≤s∧s < 8)∧(0≤i∧i≤65535):=by
 unfold Jk at h
 simp at h
 omega
theorem LY {port:Int} (h:Jr port=true):0≤Xb port∧Xb port < 6∧(1024≤port∧port < 1072):=by
 have h':=h
 unfold Jr at h'
 simp at h'
 unfold Xb
 rw[if_pos h];omega
set_option maxHeartbeats 8000000 in
set_option maxRecDepth 20000 in
theorem Dr (gl:Nat→AV) (t:Tb) (ht:t.ok):PS Tryz.prog gl 52 [.agg t.enc] (.bool (Wr t)):=by
 refine AI.ps (of_decide_eq_true rfl) (by simp[Qf]) fun c hN hg=>?_
 conv in aQ _ _=>cbv
 have e2:=Tb.aA ht.wf
 have e3:=Tb.cz ht.wf
 have e4:=Tb.ea ht.wf
 have hG:=GB c.gl t.aq ht.wf.aq
 have aH:=Jg t.maps
 have hlen:=ht.len
 by_cases bc:t.aq.bQ=true
 rotate_left
 ·have hr:=AM (t:=t) fun h=>bc h.aq
  have bc:t.aq.bQ=false:=by simpa using bc
  rw[bc]at hG
  refine Qh (An @e2 @e4) ?_
  refine Qv hG (An @e2 @e4) ?_
  (refine Qa (fun h1=>?_) (fun h1=>?_)<;>try exact h1.elim)
  exact Qq @hr
 rw[bc]at hG
 refine Qh (An @e2 @e4) ?_
 refine Qv hG (An @e2 @e4) ?_
 (refine Qa (fun h1=>?_) (fun h1=>?_)<;>try exact h1.elim)
 refine Qh (An @e2 @e3) ?_
 refine Xd (fun k:Nat=>k≤t.maps.length∧(∀ i (h:i < t.maps.length),i < k→nE t t.maps[i])∧(∀ i j (hi:i < t.maps.length) (hj:j < i),i < k→Je t.maps[i] (t.maps[j]'ae)=false))
  (fun k=>⟨[(1,.ptr 0 0),(3,.ptr 1 0),(4,.ptr 2 0),(23,.isl t.maps.length (ca t.maps)),(24,.int .i64 t.maps.length),(25,.int .i64 k)],[(0,.cells t.enc),(1,.cells (Ze (oJ (t.maps.take k)))),(2,.cells (Qo (kD (t.maps.take k))))],3⟩) (fun k=>t.maps.length - k) AI.mixed hN
  ⟨0,⟨by omega,fun i h h0=>by omega,fun i j hi hj h0=>by omega⟩,[],by (refine XG ?_;((try (repeat' with_reducible refine And.intro ?_ ?_));(try any_goals (first|refine zm ?_|exact CL|fail))))<;>exact rfl⟩ fun k hI=>?_
 obtain ⟨hk,aX,AN⟩:=id hI
 clear hI
 have LZ:=Xpm (t.maps.take k)
 have oK:=Xnp (t.maps.take k)
 refine Qe ?_
 (refine Qa (fun h2=>?_) (fun h2=>?_)<;>try exact h2.elim)
 ·have bw:k < t.maps.length:=by omega
  have a7:=vQ t.maps k bw
  have od:=ht.bd _ (List.getElem_mem bw)
  have eQ:t.maps.take (k + 1)=t.maps.take k++[t.maps[k]]:=by rw[List.take_add_one,List.getElem?_eq_getElem bw];rfl
  have tq:=Xi7 (t.maps.take k) t.maps[k]
  have ur:=Xis (t.maps.take k) t.maps[k]
  have eS:=S8 (t.maps.take k) t.maps[k].s.toNat
  rw[List.length_take]at eS
  have Ds:¬ nE t t.maps[k]→¬ dB t:=fun h h2=>h (h2.maps k bw)
  have Dt:∀ j (hj:j < k),Je t.maps[k] (t.maps[j]'ae)=true→¬ dB t:=fun j hj h h2=>by
   have:=h2.apart k j bw hj
   rw[h]at this;cases this
  have qN:nE t t.maps[k]→∀ i (h:i < t.maps.length),i < k + 1→nE t t.maps[i]:=fun h i hi cK=>by
   by_cases e:i=k
   ·subst e;exact h
   ·exact aX i hi ae
  have qO:(∀ j (hj:j < k),Je t.maps[k] (t.maps[j]'ae)=false)→∀ i j (hi:i < t.maps.length) (hj:j < i),i < k + 1→Je t.maps[i] (t.maps[j]'ae)=false:=fun h i j hi hj cK=>by
   by_cases e:i=k
   ·subst e;exact h j hj
   ·exact AN i j hi hj ae
  have L0:=Lib.hid Ds
  have HAP:=Lib.hid Dt
  have L6:=Lib.hid qN
  have L7:=Lib.hid qO
  clear Ds Dt qN qO aX AN
  generalize Ta:t.maps[k]=m at *
  obtain ⟨mp,ms,mi,ma,mt⟩:=m
  obtain ⟨_,_,_,_,fo⟩:=od
  dsimp only at fo eS
  have hB:=Dn c.gl mt fo
  have hK:=LW c.gl mp ms mi
  unfold uo at hB
  simp only[Mp.enc]at a7
  by_cases bW:Jk mp ms mi=true∧Jr mt=true∧0≤ma∧ma < 3
  rotate_left
  ·have eO:=AM (L0.out fun h=>bW ⟨h.1.1,h.1.2.1,h.1.2.2.1,h.1.2.2.2⟩)
   have hb:(!Jk mp ms mi || !Jr mt || decide (ma < 0) || decide (3≤ma))=true:=by
    cases h1:Jk mp ms mi
    ·rfl
    ·cases h2:Jr mt
     ·rfl
     ·have:ma < 0∨3≤ma:=by
       have:¬ (0≤ma∧ma < 3):=fun h=>bW ⟨h1,h2,h⟩
       omega
      simpa using this
   refine Qh (An @aH @a7) ?_
   refine Qv hB (An @aH @a7) ?_
   refine Qv hK (An @aH (An @a7 @hb)) ?_
   (refine Qa (fun h3=>?_) (fun h3=>?_)<;>try exact h3.elim)
   exact Qq @eO
  obtain ⟨tV,hk2,L8,ha1⟩:=bW
  obtain ⟨_,⟨kW,iC⟩,_⟩:=Kx tV
  obtain ⟨vG,fP,_⟩:=LY hk2
  have bW:xK t ⟨mp,ms,mi,ma,mt⟩:=⟨tV,hk2,L8,ha1⟩
  rw[tV]at hK
  rw[hk2,if_pos rfl]at hB
  obtain ⟨S,rfl⟩:=Int.eq_ofNat_of_zero_le kW
  obtain ⟨A,rfl⟩:=Int.eq_ofNat_of_zero_le L8
  obtain ⟨Bk,AO⟩:=Int.eq_ofNat_of_zero_le vG
  have qP:S < 8:=by omega
  have L9:A < 3:=by omega
  have hB6:Bk < 6:=by omega
  have eh:=Tb.gp ht.wf qP
  have eo:=Tb.xL ht.wf L9 hB6
  have xM:nE t ⟨mp,S,mi,A,mt⟩ ↔ t.bC S=(A:Int) + 1∧t.aq.ow A Bk=(S:Int) + 1:=by
   unfold nE
   dsimp only
   rw[Int.toNat_natCast,Int.toNat_natCast,AO,Int.toNat_natCast]
   exact ⟨fun h=>h.2,fun h=>⟨bW,h⟩⟩
  have jS:Zf ⟨mp,S,mi,A,mt⟩=A * 6 + Bk:=by
   unfold Zf
   dsimp only
   rw[AO,Int.toNat_natCast,Int.toNat_natCast]
  rw[jS]at tq
  dsimp only at ur
  rw[Int.toNat_natCast]at ur eS
  rw[AO]at hB
  clear bW jS fo
  generalize Tc:oJ (t.maps.take k)=U at *
  generalize Td:kD (t.maps.take k)=M at *
  generalize pL:t.bC S=ho at *
  generalize gR:t.aq.ow A Bk=ow at *
  generalize (mt - 1024) % 8=q at *
  refine Qh (An @aH @a7) ?_
  refine Qv hB (An @aH @a7) ?_
  refine Qv hK (An @aH (An @a7 (An @e2 (An @eh @eo)))) ?_
  (refine Qa (fun h3=>?_) (fun h3=>?_)<;>try exact h3.elim)
  ·have eO:=AM (L0.out fun h=>by have:=xM.1 h;omega)
   exact Qq @eO
  have Ma:=xM.2 ⟨by omega,by omega⟩
  clear L0 xM
  have hmg:(Qo M).getD S .any=.int .i64 (M.getD S 0):=zK ae
  have lT:=SE t.maps k ae
  refine Qh (An @e3 (An @aH (An @LZ (An @oK @hmg)))) ?_
  refine Xd (fun j:Nat=>j≤k∧∀ i (hi:i < k),i < j→Je ⟨mp,S,mi,A,mt⟩ (t.maps[i]'ae)=false)
   (fun j=>⟨[(1,.ptr 0 0),(3,.ptr 1 0),(4,.ptr 2 0),(6,.ptr 3 0),(23,.isl t.maps.length (ca t.maps)),(24,.int .i64 t.maps.length),(25,.int .i64 k),(98,.isl k (ca (t.maps.take k))),(99,.int .i64 k),(100,.int .i64 j)],[(0,.cells t.enc),(1,.cells (Ze (U.set (A * 6 + Bk) true))),(2,.cells (Qo (M.set S (M.getD S 0 + 1)))),(3,.cells [.int .i64 mp,.int .i64 S,.int .i64 mi,.int .i64 A,.int .i64 mt])],4⟩) (fun j=>k - j) AI.mixed hN
   ⟨0,⟨by omega,fun i h h0=>by omega⟩,[],by exact Qq (An @Nat.sub_zero @lT)⟩ fun j hJ=>?_
  obtain ⟨hj,cd⟩:=id hJ
  clear hJ
  refine Qe ?_
  (refine Qa (fun h4=>?_) (fun h4=>?_)<;>try exact h4.elim)
  ·have GH:j < k:=by omega
   have qQ:=vQ (t.maps.take k) j (by rw[List.length_take];omega)
   rw[List.getElem_take]at qQ
   have xN:(ca (t.maps.take k)).length=k * 5:=by rw[Jg,List.length_take,Nat.min_eq_left ae]
   have eO:=fun h=>AM (HAP.out j GH h)
   have Du:Je ⟨mp,S,mi,A,mt⟩ (t.maps[j]'ae)=false→∀ i (hi:i < k),i < j + 1→Je ⟨mp,S,mi,A,mt⟩ (t.maps[i]'ae)=false:=fun h i hi iM=>by
    by_cases e:i=j
    ·subst e;exact h
    ·exact cd i hi ae
   have HB:=Lib.hid eO
   have HN:=Lib.hid Du
   clear eO Du cd
   generalize t.maps[j]=o at *
   obtain ⟨op,os,oi,oa,ot⟩:=o
   unfold Je at HB HN
   simp only[Mp.enc]at qQ
   dsimp only at HB HN
   generalize hKL:(op == mp && (oa == (A:Int) && ot == mt || os == (S:Int) && oi == mi))=kl at *
   (have aJ:=@xN;have bm:=@qQ;have bL:=@hKL;refine XG ?_;clear aJ bm bL;((try (repeat' with_reducible refine And.intro ?_ ?_));(try any_goals (first|refine zm ?_|exact CL|fail))))
   ·intro h1 h2;rw[h1,h2];rfl
   (refine Qa (fun h5=>?_) (fun h5=>?_)<;>try exact h5.elim)
   ·exact Qq (HB.out h5)
   ·refine Qe ?_
    refine ⟨j + 1,⟨by omega,HN.out h5⟩,⟨[],?_⟩,by omega⟩
    exact Qr
  ·have:j=k:=by omega
   subst this
   refine Qe ?_
   refine ⟨j + 1,⟨by omega,L6.out Ma,L7.out fun i hi=>cd i hi hi⟩,⟨[],?_⟩,by omega⟩
   exact Qq (An @eQ (An @tq @ur))
 ·have:k=t.maps.length:=by omega
  subst this
  have qN:∀ i (h:i < t.maps.length),nE t t.maps[i]:=fun i h=>aX i h h
  have qO:∀ i j (hi:i < t.maps.length) (hj:j < i),Je t.maps[i] (t.maps[j]'ae)=false:=fun i j hi hj=>AN i j hi hj hi
  clear aX AN
  rw[List.take_length]at LZ oK
  have dq:t.maps.take t.maps.length=t.maps:=List.take_length
  have eS:=S8 t.maps
  have eW:(∀ i,i < 18→(t.aq.own.getD i 0 != 0)=(oJ t.maps).getD i false)→(∀ s,s < 8→(Wt t.aq.own).getD s 0≤2∧(kD t.maps).getD s 0≤12∧((t.bC s != 0)=decide (0 < (Wt t.aq.own).getD s 0)))→dB t:=fun a b=>⟨bc,qN,qO,a,b⟩
  have fP:∀ i,i < 18→¬ ((t.aq.own.getD i 0 != 0)=(oJ t.maps).getD i false)→¬ dB t:=fun i hi h h2=>h (h2.used i hi)
  have dE:∀ s,s < 8→¬ ((Wt t.aq.own).getD s 0≤2∧(kD t.maps).getD s 0≤12∧((t.bC s != 0)=decide (0 < (Wt t.aq.own).getD s 0)))→¬ dB t:=fun i hi h h2=>h (h2.lA i hi)
  have Mb:=Lib.hid eW
  have Te:=Lib.hid fP
  have HB2:=Lib.hid dE
  clear eW fP dE qN qO
  have e5:t.enc.take 18=Qo t.aq.own:=by
   have h1:=GA t.aq ht.wf.aq
   rw[← e4,List.take_take]at h1
   exact h1
  have vu:=ht.wf.aq.own
  refine Qh (An @dq (An @e2 @e5)) ?_
  generalize Tc:oJ t.maps=U at *
  generalize Td:kD t.maps=M at *
  refine Xd (fun a:Nat=>a≤3∧∀ i,i < a * 6→(t.aq.own.getD i 0 != 0)=U.getD i false)
   (fun a=>⟨[(1,.ptr 0 0),(3,.ptr 1 0),(4,.ptr 2 0),(12,.ptr 3 0),(141,.agg (Qo t.aq.own)),(142,.int .i64 a)],[(0,.cells t.enc),(1,.cells (Ze U)),(2,.cells (Qo M)),(3,.cells (Qo (Wt (t.aq.own.take (a * 6)))))],4⟩) (fun a=>3 - a) AI.mixed hN
   ⟨0,⟨by omega,fun i h=>by omega⟩,[],by refine Qe ?_<;>exact rfl⟩ fun a hI=>?_
  obtain ⟨ha,tq⟩:=id hI
  clear hI
  refine Qe ?_
  (refine Qa (fun h3=>?_) (fun h3=>?_)<;>try exact h3.elim)
  ·have qM:a < 3:=by omega
   have hr:=SO t.aq a
   have fO:=Ky t.aq ht.wf.aq a qM
   refine Qh (An @hr @vu) ?_
   refine Xd (fun k:Nat=>k≤6∧∀ i,i < a * 6 + k→(t.aq.own.getD i 0 != 0)=U.getD i false)
    (fun k=>⟨[(1,.ptr 0 0),(3,.ptr 1 0),(4,.ptr 2 0),(12,.ptr 3 0),(13,.int .i64 a),(141,.agg (Qo t.aq.own)),(142,.int .i64 a),(146,.agg (Qo (t.aq.row a))),(147,.int .i64 k)],[(0,.cells t.enc),(1,.cells (Ze U)),(2,.cells (Qo M)),(3,.cells (Qo (Wt (t.aq.own.take (a * 6 + k)))))],4⟩) (fun k=>6 - k) AI.mixed hN
    ⟨0,⟨by omega,fun i h=>tq i ae⟩,[],by exact Qq @Nat.add_zero⟩ fun k hJ=>?_
   obtain ⟨hk,oL⟩:=id hJ
   clear hJ
   refine Qe ?_
   (refine Qa (fun h4=>?_) (fun h4=>?_)<;>try exact h4.elim)
   ·have np:k < 6:=by omega
    have qR:a * 6 + k < 18:=by omega
    have hv:=Dl t.aq a k np
    have hog:=ax.ui t.aq bc a k
    have eO:=Te.out (a * 6 + k) qR
    have dR:=Xn2 (t.aq.own.take (a * 6 + k)) (t.aq.ow a k)
    have eQ:t.aq.own.take (a * 6 + k + 1)=t.aq.own.take (a * 6 + k)++[t.aq.ow a k]:=by
     rw[List.take_add_one,List.getElem?_eq_getElem (by rw[vu];exact qR)]
     unfold ax.ow
     rw[List.getD_eq_getElem?_getD,List.getElem?_eq_getElem (by rw[vu];exact qR)];rfl
    have fk:=S6 (t.aq.own.take (a * 6 + k))
    have zy:=S9 (t.aq.own.take (a * 6 + k)) (t.aq.ow a k - 1).toNat
    have Mc:(t.aq.own.take (a * 6 + k)).length=a * 6 + k:=by rw[List.length_take,vu];omega
    have xO:(t.aq.own.getD (a * 6 + k) 0 != 0)=U.getD (a * 6 + k) false→∀ i,i < a * 6 + (k + 1)→(t.aq.own.getD i 0 != 0)=U.getD i false:=fun h i hi=>by
     by_cases e:i=a * 6 + k
     ·subst e;exact h
     ·exact oL i ae
    have gR:t.aq.own.getD (a * 6 + k) 0=t.aq.ow a k:=rfl
    rw[gR]at eO xO
    rw[← eQ]at dR
    rw[Mc]at zy
    have Tf:=Lib.hid eO
    have Tg:=Lib.hid xO
    clear eO xO oL tq gR eQ
    generalize Wt (t.aq.own.take (a * 6 + k))=W at *
    generalize mz:Wt (t.aq.own.take (a * 6 + k + 1))=W2 at *
    generalize t.aq.ow a k=o at *
    have hxu:∀ x,U.getD (a * 6 + k) false=x→(Ze U).getD (a * 6 + k) .any=.bool x:=fun x e=>by rw[← e];exact JR ae
    have hug:=hxu _ rfl
    generalize U.getD (a * 6 + k) false=u at *
    refine Qh (An @fO (An @LZ (An @hv @hug))) ?_
    (refine Qa (fun h5=>?_) (fun h5=>?_)<;>try exact h5.elim)
    ·exact Qq (AM (Tf.out h5))
    have h6:=Tg.out (by simpa using h5)
    clear Tf Tg
    refine Qe ?_
    have kE:a * 6 + (k + 1)=a * 6 + k + 1:=by omega
    (refine Qa (fun h7=>?_) (fun h7=>?_)<;>try exact h7.elim)
    ·rw[if_neg h7]at dR
     obtain ⟨N,vB⟩:=Int.eq_ofNat_of_zero_le (show 0≤o - 1 by omega)
     have hN8:N < 8:=by omega
     rw[vB,Int.toNat_natCast]at dR zy
     have hwg:(Qo W).getD N .any=.int .i64 (W.getD N 0):=zK ae
     refine Qh (An @vB (An @fk @hwg)) ?_
     refine ⟨k + 1,⟨by omega,h6⟩,⟨[],?_⟩,by omega⟩
     exact Qq (An @kE (An @mz @dR))
    ·rw[if_pos ae]at dR
     refine Qe ?_
     refine ⟨k + 1,⟨by omega,h6⟩,⟨[],?_⟩,by omega⟩
     exact Qq (An @kE (An @mz @dR))
   ·have:k=6:=by omega
    subst this
    refine Qe ?_
    refine ⟨a + 1,⟨by omega,fun i hi=>oL i ae⟩,⟨[],?_⟩,by omega⟩
    have e6:(a + 1) * 6=a * 6 + 6:=by omega
    exact Qq @e6
  ·have:a=3:=by omega
   subst this
   have e7:t.aq.own.take (3 * 6)=t.aq.own:=List.take_of_length_le ae
   have od:=S9 t.aq.own
   have fk:=S6 t.aq.own
   have oL:∀ i,i < 18→(t.aq.own.getD i 0 != 0)=U.getD i false:=fun i h=>tq i ae
   have Dv:=Mb.out oL
   have Mb:=Lib.hid Dv
   clear Dv tq oL Te Tc Td
   rw[vu]at od
   generalize hWW:Wt t.aq.own=W at *
   have pL:∀ s,s < 8→t.enc.getD (21 + s) .any=.int .i64 (t.bC s):=fun s hs=>Tb.gp ht.wf hs
   refine Qh (An @e7 @hWW) ?_
   refine Xd (fun s:Nat=>s≤8∧∀ i,i < s→(W.getD i 0≤2∧M.getD i 0≤12∧(t.bC i != 0)=decide (0 < W.getD i 0)))
    (fun s=>⟨[(1,.ptr 0 0),(3,.ptr 1 0),(4,.ptr 2 0),(12,.ptr 3 0),(169,.int .i64 s)],[(0,.cells t.enc),(1,.cells (Ze U)),(2,.cells (Qo M)),(3,.cells (Qo W))],4⟩) (fun s=>8 - s) AI.mixed hN
    ⟨0,⟨by omega,fun i h=>by omega⟩,[],by exact Qr⟩ fun s hI=>?_
   obtain ⟨hs,Md⟩:=id hI
   clear hI
   refine Qe ?_
   (refine Qa (fun h4=>?_) (fun h4=>?_)<;>try exact h4.elim)
   ·have xP:s < 8:=by omega
    have eO:=fun h=>AM (HB2.out s xP h)
    have Dw:(W.getD s 0≤2∧M.getD s 0≤12∧(t.bC s != 0)=decide (0 < W.getD s 0))→∀ i,i < s + 1→(W.getD i 0≤2∧M.getD i 0≤12∧(t.bC i != 0)=decide (0 < W.getD i 0)):=fun h i hi=>by
     by_cases e:i=s
     ·subst e;exact h
     ·exact Md i ae
    have HB:=Lib.hid eO
    have HN:=Lib.hid Dw
    clear eO Dw Md
    have hw:(Qo W).getD s .any=.int .i64 (W.getD s 0):=zK ae
    have hm:(Qo M).getD s .any=.int .i64 (M.getD s 0):=zK ae
    have hh:=pL s xP
    have fP:=od s
    have dE:=eS s
    generalize W.getD s 0=x at *
    generalize M.getD s 0=y at *
    generalize t.bC s=z at *
    refine Qh (An @hw (An @hm (An @hh (An @fk (An @oK @e2))))) ?_
    (refine Qa (fun h5=>?_) (fun h5=>?_)<;>try exact h5.elim)
    ·have h6:¬(x≤2∧y≤12∧(z != 0)=decide (0 < x)):=fun ⟨p,q,r⟩=>h5.elim (fun h=>by omega) (fun h=>h r)
     exact Qq (HB.out h6)
    ·obtain ⟨⟨h6,h7⟩,h8⟩:=h5
     refine Qe ?_
     refine ⟨s + 1,⟨by omega,HN.out ⟨by omega,by omega,h8⟩⟩,⟨[],?_⟩,by omega⟩
     exact Qr
   ·have:s=8:=by omega
    subst this
    exact Qq (LX (Mb.out Md))
theorem Xf7:Tryz.prog.underlying 37=some (.slice 69):=by kernel_rfl
theorem AP {c:Cx} {ne:Bool} {x:TV} {v:AV} {b:Bool} (hb:sr v=some b):Cu Tryz.prog c (.cA ne 37) [x,.c .nils] [v,.nils] (.bool (ne != b)):=Xx0 Xf7 hb
theorem Xwy (gl:Nat→AV) (cap:Nat):GS Tryz.prog gl 64 [.lit (.slice none 0 cap)] [] 0 .nils [] 0:=by
 refine AK.gs (of_decide_eq_true rfl) au fun c hN hg=>?_
 conv in aQ _ _=>cbv
 refine Qe ?_
 refine Ad ?_ (AP (b:=true) (show sr (.lit (.slice none 0 cap))=some true from rfl)) ?_
 ·exact Qr
 refine Qe ?_
 (refine Qa (fun h1=>?_) (fun h1=>?_)<;>try exact h1.elim)
 refine Qe ?_
 exact ⟨[],by exact Qr⟩
theorem Xed (gl:Nat→AV) (a:Addr) (cap:Nat):GS Tryz.prog gl 64 [.lit (.slice (some a) 0 cap)] [] 0 (.sl 5 0 0 0 0) [(0,.cells [])] 1:=by
 refine AK.gs (of_decide_eq_true rfl) au fun c hN hg=>?_
 conv in aQ _ _=>cbv
 refine Qe ?_
 refine Ad ?_ (AP (b:=false) (show sr (.lit (.slice (some a) 0 cap))=some false from rfl)) ?_
 ·exact Qr
 refine Qe ?_
 (refine Qa (fun h1=>?_) (fun h1=>?_)<;>try exact h1.elim)
 refine Qe ?_
 refine Qv F5 @List.length_nil.{0} ?_
 refine Ja ?_
 refine ⟨[(0,0)],?_⟩
 exact Qr
theorem Me (gl:Nat→AV) (l:List Mp) (hn:l.length≤1000000):GS Tryz.prog gl 64 [.isl l.length (ca l)] [] 0 (.sl 5 0 0 l.length l.length) [(0,.cells (ca l))] 1:=by
 have hl:=Jg l
 cases l with
 | nil=>exact GS.empty (Xwy gl) (Xed gl)
 | cons x l =>
 have Mf:sr (.isl (x::l).length (ca (x::l)))=some false:=rfl
 generalize x::l=l at *
 refine AK.gs (of_decide_eq_true rfl) au fun c hN hg=>?_
 conv in aQ _ _=>cbv
 refine Qe ?_
 refine Ad ?_ (AP (b:=false) Mf) ?_
 ·exact Qr
 refine Qe ?_
 (refine Qa (fun h1=>?_) (fun h1=>?_)<;>try exact h1.elim)
 refine Qe ?_
 refine Zq F5 ?_
 refine Zj @hl ?_
 refine ⟨[(0,0)],?_⟩
 exact Qr
theorem Tb.nF {t:Tb} (h:t.wf) (x:AV):t.enc.set 29 x=t.hd++[x]:=by
 unfold Tb.enc
 rw[List.set_append_right _ _ (by rw[Tb.cU h];exact Nat.le_refl _),Tb.cU h];rfl
theorem Tb.mO (t:Tb) (h:t.wf) (x:AV):(t.hd++[x]).length=30:=by simp[Tb.cU h]
def Tb.add (t:Tb) (m:Mp):Tb:={ t with maps:=t.maps++[m] }
def Jn (t:Tb) (m:Mp) (b:Bool) (e:Int):AV:=.aU [.agg t.enc,.agg m.enc,.bool b,.int .i64 e]
set_option maxHeartbeats 2000000 in
theorem Mg (gl:Nat→AV) (t:Tb) (ht:t.wf) (hl:t.maps.length≤100000) (m:Mp) (b:Bool):PS Tryz.prog gl 127 [.agg t.enc,.agg m.enc,.bool b] (Jn (t.add m) m b 0):=by
 refine Xz3.ps (of_decide_eq_true rfl) (by simp[Qf,ah,Jn,Tb.b8,Mp.enc]) fun c hN hg=>?_
 conv in aQ _ _=>cbv
 have e2:=Tb.aA ht
 have e3:=Tb.cz ht
 have aH:=Jg t.maps
 have hs:=Tb.nF ht
 have ie:=Tb.mO t ht
 unfold Mp.enc
 refine Qh (An @e2 @e3) ?_
 (have zC:=(Me c.gl t.maps ae);refine Xm (ip []) zC (An @e2 @e3) ?_;clear zC)
 refine Ja ?_
 refine Zj @aH ?_
 refine Qh (An @hs (An @e2 @ie)) ?_
 have hq:Jn (t.add m) m b 0=.aU [.agg (t.hd++[.isl (t.maps.length + 1) (ca t.maps++[.int .i64 m.af,.int .i64 m.s,.int .i64 m.aR,.int .i64 m.a,.int .i64 m.port])]),.agg [.int .i64 m.af,.int .i64 m.s,.int .i64 m.aR,.int .i64 m.a,.int .i64 m.port],.bool b,.int .i64 0]:=by
  rw[Xu6]
  simp[Jn,Tb.add,Tb.enc,Tb.hd,Mp.enc]
 have eQ:(ca t.maps++[AV.int .i64 m.af,.int .i64 m.s,.int .i64 m.aR,.int .i64 m.a,.int .i64 m.port]).take ((t.maps.length + 1) * 5)=ca t.maps++[.int .i64 m.af,.int .i64 m.s,.int .i64 m.aR,.int .i64 m.a,.int .i64 m.port]:=List.take_of_length_le (by simp[Jg];omega)
 rw[hq,List.map_append]
 exact Qq @eQ
theorem Mh (t:Tb) (m:Mp) (b:Bool) (e:Int) (n:Nat):Qf n (Jn t m b e)=True:=by simp[Qf,ah,Jn,Tb.b8,Mp.enc]
theorem Th (t:Tb) (m:Mp) (b:Bool) (e:Int) (ρ:Nat→Nat):aD ρ (Jn t m b e)=Jn t m b e:=by simp[aD,ay,Jn,Tb.dA,Mp.enc]
attribute [go_sem] Mh Th
theorem xQ (gl:Nat→AV) (t:Tb) (ht:t.wf) (e:Int):GS Tryz.prog gl 125 [.int .i64 e,.ptr 0 0] [(0,.cells t.enc)] 1 (Jn t fI false e) [(0,.cells t.enc)] 1:=by
 refine Xf1.gs (of_decide_eq_true rfl) (by simp[Bk.live]) fun c hN hg=>?_
 conv in aQ _ _=>cbv
 have e2:=Tb.aA ht
 refine Qh @e2 ?_
 refine ⟨[],?_⟩
 refine Qe ?_
 rfl
theorem Tb.gu {t:Tb} (h:t.wf) {p:ax} (hp:p.wf):Yp t.enc 0 p.enc=(⟨p,t.home,t.maps⟩:Tb).enc:=by
 unfold Yp Tb.enc Tb.hd
 rw[List.take_zero,List.nil_append,ax.aA hp,List.append_assoc,List.append_assoc,Nat.zero_add,← ax.aA h.aq,List.drop_left]
theorem Tb.gw {t:Tb} (h:t.wf) {s:Nat} (hs:s < 8) (x:Int):t.enc.set (21 + s) (.int .i64 x)=(⟨t.aq,t.home.set s x,t.maps⟩:Tb).enc:=by
 unfold Tb.enc Tb.hd
 rw[List.append_assoc,List.set_append_right _ _ (by rw[ax.aA h.aq];omega),ax.aA h.aq,show 21 + s - 21=s by omega,List.set_append_left _ _ (by rw[Xv,h.home];exact hs),List.append_assoc]
 simp[Qo,List.map_set]
def Zt (l:List Mp) (s:Int):Nat:=l.countP fun m=>m.s == s
def Ua (k:Nat):List Int:=(List.range 8).map fun (i:Nat)=>1024 + (k:Int) * 8 + (i:Int)
def xR (t:Tb) (af a port:Int):Bool:=(t.maps.find? (Wa af a port)).isNone
def xS (t:Tb) (af a:Int) (l:List Nat):Option Int:=(l.flatMap Ua).find? (xR t af a)
def jT (t:Tb) (s:Nat):List Nat:=if 1≤t.bC s then Wg t s 6 else []
def Tb.tk (t:Tb) (af s aR a draw:Int):Tb × Mp × Bool × Int :=
 if (t.aq.take s a draw).2.2≠0 then (t,fI,false,(t.aq.take s a draw).2.2) else
 (Tb.add ⟨(t.aq.take s a draw).1,t.home.set s.toNat (a + 1),t.maps⟩ ⟨af,s,aR,a,1024 + (t.aq.take s a draw).2.1 * 8⟩,⟨af,s,aR,a,1024 + (t.aq.take s a draw).2.1 * 8⟩,true,0)
noncomputable def Tb.cE (t:Tb) (af s aR draw:Int):Tb × Mp × Bool × Int :=
 if Wr t=false∨Jk af s aR=false then (t,fI,false,2) else
 match t.maps.find? (Zd af s aR) with
 | some m=>(t,m,false,0)
 | none =>
  if 12≤Zt t.maps s then (t,fI,false,6) else
  match xS t af (t.bC s.toNat - 1) (jT t s.toNat) with
  | some port=>(t.add ⟨af,s,aR,t.bC s.toNat - 1,port⟩,⟨af,s,aR,t.bC s.toNat - 1,port⟩,false,0)
  | none =>
   if 2≤(jT t s.toNat).length then (t,fI,false,6) else
   if 1≤t.bC s.toNat then t.tk af s aR (t.bC s.toNat - 1) draw else
   if (t.aq.pick draw).2≠0 then (t,fI,false,(t.aq.pick draw).2) else t.tk af s aR (t.aq.pick draw).1 draw
def mP (x:Tb × Mp × Bool × Int):AV:=Jn x.1 x.2.1 x.2.2.1 x.2.2.2
set_option maxHeartbeats 4000000 in
set_option maxRecDepth 20000 in
theorem Xqu (gl:Nat→AV) (t:Tb) (ht:t.ok) (af s aR draw:Int) (h:Wr t=false∨Jk af s aR=false):PS Tryz.prog gl 89 [.agg t.enc,.int .i64 af,.int .i64 s,.int .i64 aR,.int .i64 draw] (Jn t fI false 2):=by
 refine AJ.ps (of_decide_eq_true rfl) (by simp[Mh]) fun c hN hg=>?_
 conv in aQ _ _=>cbv
 have e2:=Tb.aA ht.wf
 have hG:=Dr c.gl t ht
 have hK:=LW c.gl af s aR
 by_cases bc:Wr t=true
 ·rw[bc]at hG
  have hk:Jk af s aR=false:=h.resolve_left (by rw[bc];simp)
  rw[hk]at hK
  refine Qh @e2 ?_
  refine Qv hG @e2 ?_
  refine Qv hK @e2 ?_
  (refine Qa (fun h1=>?_) (fun h1=>?_)<;>try exact h1.elim)
  refine Qe ?_
  exact Jv (ip [0]) (xQ c.gl t ht.wf 2) (An @e2 (An @Jn.eq_1 (An @Mp.enc.eq_1 @fI.eq_1)))
 ·have bc:Wr t=false:=by simpa using bc
  rw[bc]at hG
  refine Qh @e2 ?_
  refine Qv hG @e2 ?_
  ((first|apply Yd|apply Xr)<;>(refine XG ?_;first|exact rfl|exact True.intro|((try (repeat' with_reducible refine And.intro ?_ ?_));(try any_goals (first|refine zm ?_|exact CL|fail)))))
  (refine Qa (fun h1=>?_) (fun h1=>?_)<;>try exact h1.elim)
  refine Qe ?_
  exact Jv (ip [0]) (xQ c.gl t ht.wf 2) (An @e2 (An @Jn.eq_1 (An @Mp.enc.eq_1 @fI.eq_1)))
theorem Ti {β:Type} (ix:β→Nat) (skip:β→Bool) (l:List β) (s:Nat):∀ u:List Int,s < u.length→(l.foldl (fun u b=>if skip b=true then u else u.set (ix b) (u.getD (ix b) 0 + 1)) u).getD s 0=u.getD s 0 + l.countP (fun b=>!skip b && ix b == s):=by
 induction l with
 | nil=>intro u _;simp
 | cons b l ih =>
  intro u hu
  rw[List.foldl_cons,ih _ (by split<;>simpa using hu),List.countP_cons]
  by_cases hk:skip b=true
  ·simp[hk]
  ·have hk:skip b=false:=by simpa using hk
   by_cases hs:ix b=s
   ·subst hs
    simp[hk,List.getD,hu];omega
   ·simp[hk,hs,List.getD,List.getElem?_set_ne hs]
theorem Tj (l:List Mp) (s:Nat) (hs:s < 8):(kD l).getD s 0=l.countP (fun m=>m.s.toNat == s):=by
 have h:=Ti (fun m:Mp=>m.s.toNat) (fun _=>false) l s (List.replicate 8 0) (by simpa using hs)
 rw[Dq,Int.zero_add]at h
 have e:kD l=l.foldl (fun u b=>if (fun _:Mp=>false) b=true then u else u.set ((fun m:Mp=>m.s.toNat) b) (u.getD ((fun m:Mp=>m.s.toNat) b) 0 + 1)) (List.replicate 8 0):=rfl
 rw[e,h];simp
theorem Tl (l:List Int) (s:Nat) (hs:s < 8):(Wt l).getD s 0=l.countP (fun o=>!(o == 0) && (o - 1).toNat == s):=by
 have h:=Ti (fun o:Int=>(o - 1).toNat) (fun o=>o == 0) l s (List.replicate 8 0) (by simpa using hs)
 rw[Dq,Int.zero_add]at h
 have e:Wt l=l.foldl (fun u b=>if (fun o:Int=>o == 0) b=true then u else u.set ((fun o:Int=>(o - 1).toNat) b) (u.getD ((fun o:Int=>(o - 1).toNat) b) 0 + 1)) (List.replicate 8 0):=by
  unfold Wt
  congr 1
  funext u o
  simp
 rw[e,h]
theorem Mi (l:List Mp) (i:Nat) (hi:i < 18):(oJ l).getD i false=l.any (fun m=>Zf m == i):=by
 suffices h:∀ (l:List Mp) (u:List Bool),i < u.length→(l.foldl (fun u m=>u.set (Zf m) true) u).getD i false=(u.getD i false || l.any (fun m=>Zf m == i)) by
  have:=h l (List.replicate 18 false) (by simpa using hi)
  unfold oJ
  rw[this]
  have e:(List.replicate 18 false).getD i false=false:=by rw[List.getD_eq_getElem?_getD,List.getElem?_replicate,if_pos hi];rfl
  rw[e,Bool.false_or]
 intro l
 induction l with
 | nil=>intro u _;simp
 | cons m l ih =>
  intro u hu
  rw[List.foldl_cons,ih _ (by simpa using hu),List.any_cons]
  by_cases hm:Zf m=i
  ·subst hm;simp[List.getD,hu]
  ·have e:(Zf m == i)=false:=by simpa using hm
   simp[List.getD,List.getElem?_set_ne hm,e]
theorem AQ (t:Tb):Wr t=true ↔ dB t:=by unfold Wr;simp
theorem Xpk {t:Tb} (h:dB t) {i:Nat} (hi:i < 18) (ho:t.aq.own.getD i 0≠0):∃ m ∈ t.maps,nE t m∧Zf m=i∧t.aq.own.getD i 0=m.s + 1∧0≤m.s∧m.s < 8:=by
 have h1:=h.used i hi
 rw[Mi _ _ hi]at h1
 have h2:(t.aq.own.getD i 0 != 0)=true:=by simpa using ho
 rw[h2]at h1
 obtain ⟨m,hm,he⟩:=List.any_eq_true.1 h1.symm
 have he:Zf m=i:=by simpa using he
 obtain ⟨k,hk,rfl⟩:=List.getElem_of_mem hm
 have aX:=h.maps k hk
 obtain ⟨_,⟨h3,h4⟩,_⟩:=Kx aX.1.1
 refine ⟨_,hm,aX,he,?_,h3,h4⟩
 have:=aX.2.2
 unfold ax.ow at this
 rw[← this]
 congr 1
 rw[← he];rfl
theorem Tb.qS {t:Tb} (h:dB t) (hw:t.wf) {s:Nat} (hs:s < 8):0≤t.bC s∧t.bC s≤3:=by
 by_cases h0:t.bC s=0
 ·omega
 have h1:=(h.lA s hs).2.2
 rw[Tl _ _ hs]at h1
 have h2:(t.bC s != 0)=true:=by simpa using h0
 rw[h2]at h1
 have h3:=of_decide_eq_true h1.symm
 have h3:0 < t.aq.own.countP (fun o=>!(o == 0) && (o - 1).toNat == s):=by omega
 obtain ⟨o,ho,hp⟩:=List.countP_pos_iff.1 h3
 obtain ⟨i,hi,rfl⟩:=List.getElem_of_mem ho
 have qR:i < 18:=by have:=hw.aq.own;omega
 have bc:t.aq.own.getD i 0=t.aq.own[i]:=by rw[List.getD_eq_getElem?_getD,List.getElem?_eq_getElem hi];rfl
 simp at hp
 obtain ⟨m,hm,aX,_,he,GI,nG⟩:=Xpk h qR (by rw[bc];exact hp.1)
 rw[bc]at he
 have:m.s=(s:Int):=by omega
 have hh:=aX.2.1
 rw[this]at hh
 have ha:=aX.1.2.2
 simp at hh
 omega
theorem Xfv (l:List Mp) (h:∀ m ∈ l,m.s.toNat < 8):l.length=((List.range 8).map fun s=>l.countP fun m=>m.s.toNat == s).sum:=by
 induction l with
 | nil=>rfl
 | cons m l ih =>
  have h1:=ih fun m hm=>h m (List.mem_cons_of_mem _ hm)
  have h2:=h m (List.mem_cons_self ..)
  have e:(List.range 8)=[0,1,2,3,4,5,6,7]:=rfl
  rw[e]at h1 ⊢
  simp only[List.map_cons,List.map_nil,List.sum_cons,List.sum_nil,List.countP_cons,List.length_cons]at h1 ⊢
  generalize m.s.toNat=q at *
  rcases (by omega:q=0∨q=1∨q=2∨q=3∨q=4∨q=5∨q=6∨q=7) with rfl|rfl|rfl|rfl|rfl|rfl|rfl|rfl<;>simp<;>omega
theorem vV {t:Tb} (h:dB t):t.maps.length≤96:=by
 have hs:∀ m ∈ t.maps,m.s.toNat < 8:=fun m hm=>by
  obtain ⟨k,hk,rfl⟩:=List.getElem_of_mem hm
  obtain ⟨_,⟨h3,h4⟩,_⟩:=Kx (h.maps k hk).1.1
  omega
 rw[Xfv _ hs]
 have hb:∀ s,s < 8→t.maps.countP (fun m=>m.s.toNat == s)≤12:=fun s hs=>by
  have:=(h.lA s hs).2.1
  rw[Tj _ _ hs]at this
  omega
 have e:(List.range 8)=[0,1,2,3,4,5,6,7]:=rfl
 rw[e]
 simp only[List.map_cons,List.map_nil,List.sum_cons,List.sum_nil]
 have h0:=hb 0 ae;have h1:=hb 1 ae;have h2:=hb 2 ae;have h3:=hb 3 ae
 have h4:=hb 4 ae;have h5:=hb 5 ae;have h6:=hb 6 ae;have h7:=hb 7 ae
 omega
theorem Xob (l:List Mp) (k:Nat) (h:k < l.length) (s:Int):Zt (l.take (k + 1)) s=Zt (l.take k) s + (if l[k].s=s then 1 else 0):=by
 have e:l.take (k + 1)=l.take k++[l[k]]:=by rw[List.take_add_one,List.getElem?_eq_getElem h];rfl
 unfold Zt
 rw[e,List.countP_append]
 by_cases h2:l[k].s=s<;>simp[h2]
theorem Tp (l:List Mp) (k:Nat) (s:Int):Zt (l.take k) s≤k:=by
 unfold Zt
 have:=List.countP_le_length (p:=fun m:Mp=>m.s == s) (l:=l.take k)
 rw[List.length_take]at this
 omega
def ig:List AV:=[(.int .i64 0),(.int .i64 0),(.int .i64 0),(.int .i64 0),(.int .i64 0),(.int .i64 0),(.int .i64 0),(.int .i64 0),(.int .i64 0),(.int .i64 0),(.int .i64 0),(.int .i64 0),(.int .i64 0),(.int .i64 0),(.int .i64 0),(.int .i64 0),(.int .i64 0),(.int .i64 0),(.bool false),(.bool false),(.bool false),(.int .i64 0),(.int .i64 0),(.int .i64 0),(.int .i64 0),(.int .i64 0),(.int .i64 0),(.int .i64 0),(.int .i64 0),.nils]
def z5:List AV:=[(.int .i64 0),(.int .i64 0),(.int .i64 0),(.int .i64 0),(.int .i64 0)]
theorem Yce (n:Nat):ah n ig=True:=by simp[ig,ah,Qf]
theorem Yf4 (n:Nat):ah n z5=True:=by simp[z5,ah,Qf]
theorem Xvt (ρ:Nat→Nat):ay ρ ig=ig:=by simp[ig,ay,aD]
theorem Yb6 (ρ:Nat→Nat):ay ρ z5=z5:=by simp[z5,ay,aD]
theorem Xvl (s:Int):Zt [] s=0:=rfl
attribute [go_sem] Yce Yf4 Xvt Yb6 Xvl
theorem Xsd (k:Nat) (t:Tb) (af a:Int) (r:List Int) (i:Nat) (h:i < 8):((Ua k).drop i++r).find? (xR t af a)=if xR t af a (1024 + (k:Int) * 8 + i)=true then some (1024 + (k:Int) * 8 + i) else ((Ua k).drop (i + 1)++r).find? (xR t af a):=by
 have hl:i < (Ua k).length:=by simpa [Ua] using h
 rw[List.drop_eq_getElem_cons hl,List.cons_append,List.find?_cons]
 have e:(Ua k)[i]=1024 + (k:Int) * 8 + i:=by simp[Ua]
 rw[e]
 split<;>rename_i h<;>simp[h]
theorem Xz8 {t:Tb} {s n k:Nat} (h:k ∈ Wg t s n):k < n:=by
 unfold Wg at h
 exact List.mem_range.1 (List.mem_filter.1 h).1
set_option maxHeartbeats 8000000 in
set_option maxRecDepth 20000 in
theorem Xwv (gl:Nat→AV) (t:Tb) (ht:t.ok) (lz:dB t) (af:Int) (S:Nat) (aR draw:Int) (bw:Jk af S aR=true) (R:AV) (eE:Qf 0 R)
  (H1:Hid (∀ m,t.maps.find? (Zd af S aR)=some m→R=Jn t m false 0))
  (H2:Hid (t.maps.find? (Zd af S aR)=none→12≤Zt t.maps S→R=Jn t fI false 6))
  (H3:Hid (t.maps.find? (Zd af S aR)=none→¬ 12≤Zt t.maps S→(∀ port,xS t af (t.bC S - 1) (jT t S)=some port→R=Jn (t.add ⟨af,S,aR,t.bC S - 1,port⟩) ⟨af,S,aR,t.bC S - 1,port⟩ false 0) ∧
   (xS t af (t.bC S - 1) (jT t S)=none→(2≤(jT t S).length→R=Jn t fI false 6)∧(¬ 2≤(jT t S).length→(1≤t.bC S→R=mP (t.tk af S aR (t.bC S - 1) draw)) ∧
    (¬ 1≤t.bC S→((t.aq.pick draw).2≠0→R=Jn t fI false (t.aq.pick draw).2)∧((t.aq.pick draw).2=0→R=mP (t.tk af S aR (t.aq.pick draw).1 draw))))))) :
  PS Tryz.prog gl 89 [.agg t.enc,.int .i64 af,.int .i64 S,.int .i64 aR,.int .i64 draw] R:=by
 refine AJ.ps (of_decide_eq_true rfl) eE fun c hN hg=>?_
 conv in aQ _ _=>cbv
 have e2:=Tb.aA ht.wf
 have e3:=Tb.cz ht.wf
 have hG:=Dr c.gl t ht
 rw[LX lz]at hG
 have hK:=LW c.gl af S aR
 rw[bw]at hK
 have hF:=SY c.gl t ht.wf ht.len af S aR
 have aH:=Jg t.maps
 obtain ⟨_,⟨_,qP⟩,_⟩:=Kx bw
 have qP:S < 8:=by omega
 have hhb:=Tb.qS lz ht.wf qP
 have oK:=vV lz
 have eh:=Tb.gp ht.wf qP
 have sJ:=S5 c.gl t ht.wf S qP hhb
 cases kQ:t.maps.find? (Zd af S aR) with
 | some m =>
  have hR:=H1.out m kQ
  rw[kQ]at hF
  unfold mN at hF
  subst hR
  refine Qh @e2 ?_
  refine Qv hG @e2 ?_
  refine Qv hK @e2 ?_
  (refine Qa (fun h1=>?_) (fun h1=>?_)<;>try exact h1.elim)
  refine Qh @e2 ?_
  unfold Mp.enc at hF
  refine Qv hF @e2 ?_
  (refine Qa (fun h2=>?_) (fun h2=>?_)<;>try exact h2.elim)
  exact Qq (An @e2 (An @Jn.eq_1 @Mp.enc.eq_1))
 | none =>
  rw[kQ]at hF
  unfold mN fI Mp.enc at hF
  dsimp only at hF
  refine Qh @e2 ?_
  refine Qv hG @e2 ?_
  refine Qv hK @e2 ?_
  (refine Qa (fun h1=>?_) (fun h1=>?_)<;>try exact h1.elim)
  refine Qh @e2 ?_
  refine Qv hF @e2 ?_
  (refine Qa (fun h2=>?_) (fun h2=>?_)<;>try exact h2.elim)
  refine Qh (An @e2 @e3) ?_
  refine Xd (fun k:Nat=>k≤t.maps.length)
   (fun k=>⟨[(1,.int .i64 af),(2,.int .i64 S),(3,.int .i64 aR),(4,.int .i64 draw),(5,.ptr 0 0),(10,.ptr 1 0),(11,.ptr 2 0),(14,.cl 125 [.ptr 0 0]),(17,.int .i64 (Zt (t.maps.take k) S)),(61,.isl t.maps.length (ca t.maps)),(62,.int .i64 t.maps.length),(63,.int .i64 k)],[(0,.cells t.enc),(1,.cells ig),(2,.cells z5)],3⟩) (fun k=>t.maps.length - k) AJ.mixed hN
   ⟨0,by omega,[],by exact Qq (An @ig.eq_1 @z5.eq_1)⟩ fun k hk=>?_
  refine Qe ?_
  (refine Qa (fun h3=>?_) (fun h3=>?_)<;>try exact h3.elim)
  ·have bw:k < t.maps.length:=by omega
   have a7:=vQ t.maps k bw
   have ur:=Xob t.maps k bw S
   have Dx:=Tp t.maps k S
   generalize t.maps[k]=m at *
   obtain ⟨mp,ms,mi,ma,mt⟩:=m
   simp only[Mp.enc]at a7
   dsimp only at ur
   refine Qh (An @aH @a7) ?_
   (refine Qa (fun h4=>?_) (fun h4=>?_)<;>try exact h4.elim)
   ·rw[if_pos ae]at ur
    refine Qe ?_
    refine ⟨k + 1,by omega,⟨[],?_⟩,by omega⟩
    exact Qq @ur
   ·rw[if_neg ae]at ur
    refine Qe ?_
    refine ⟨k + 1,by omega,⟨[],?_⟩,by omega⟩
    exact Qq @ur
  ·have:k=t.maps.length:=by omega
   subst this
   have dq:t.maps.take t.maps.length=t.maps:=List.take_length
   rw[dq]
   have Mj:=Tp t.maps t.maps.length S
   rw[dq]at Mj
   have Tq:=Lib.hid (H2.out kQ)
   have Tr:=Lib.hid (H3.out kQ)
   clear H1 H2 H3
   generalize Zt t.maps S=many at *
   refine Qe ?_
   (refine Qa (fun h4=>?_) (fun h4=>?_)<;>try exact h4.elim)
   ·have hR:=Tq.out ae
    subst hR
    refine Qe ?_
    exact Jv (ip [0]) (xQ c.gl t ht.wf 6) (An @e2 (An @Jn.eq_1 (An @Mp.enc.eq_1 (An @fI.eq_1 (An @ig.eq_1 @z5.eq_1)))))
   have vW:=Lib.hid (Tr.out ae)
   clear Tr Tq
   by_cases uu:1≤t.bC S
   ·have fk:vS t S=.isl (Wg t S 6).length (Qo (eP (Wg t S 6))):=if_pos uu
    have gR:jT t S=Wg t S 6:=if_pos uu
    rw[fk]at sJ
    rw[gR]at vW
    have hWb:∀ k ∈ Wg t S 6,k < 6:=fun k hk=>Xz8 hk
    have sk:=S4 t S 6
    clear fk gR
    generalize Wg t S 6=W at *
    have hWn:=Dm W
    have AO:=fun port=>SZ c.gl t ht.wf ht.len af (t.bC S - 1) port
    generalize mg:xS t af (t.bC S - 1)=fr at *
    obtain ⟨a,ha⟩:∃ a:Int,a=t.bC S - 1:=⟨_,rfl⟩
    rw[← ha]at vW AO mg
    refine Qh @e2 ?_
    refine Qv sJ @e2 ?_
    refine Xd (fun k:Nat=>k≤W.length∧fr (W.drop k)=fr W)
     (fun k=>⟨[(1,.int .i64 af),(2,.int .i64 S),(3,.int .i64 aR),(4,.int .i64 draw),(5,.ptr 0 0),(10,.ptr 1 0),(11,.ptr 2 0),(14,.cl 125 [.ptr 0 0]),(20,.isl W.length (Qo (eP W))),(85,.isl W.length (Qo (eP W))),(86,.int .i64 W.length),(87,.int .i64 k)],[(0,.cells t.enc),(1,.cells ig),(2,.cells z5)],3⟩) (fun k=>W.length - k) AJ.mixed hN
     ⟨0,⟨by omega,rfl⟩,[],by exact Qr⟩ fun k hk=>?_
    obtain ⟨hk,jm⟩:=hk
    refine Qe ?_
    (refine Qa (fun h5=>?_) (fun h5=>?_)<;>try exact h5.elim)
    ·have bw:k < W.length:=by omega
     have pM:=hWb _ (List.getElem_mem bw)
     have iD:W.drop k=W[k]::W.drop (k + 1):=List.drop_eq_getElem_cons bw
     have eD:=SR W k bw
     rw[show W.getD k 0=W[k] by simp[List.getD,bw]]at eD
     rw[iD]at jm
     generalize W[k]=q at *
     refine Qh (An @hWn @eD) ?_
     refine Xd (fun i:Nat=>i≤8∧((Ua q).drop i++(W.drop (k + 1)).flatMap Ua).find? (xR t af a)=fr W)
      (fun i=>⟨[(1,.int .i64 af),(2,.int .i64 S),(3,.int .i64 aR),(4,.int .i64 draw),(5,.ptr 0 0),(10,.ptr 1 0),(11,.ptr 2 0),(14,.cl 125 [.ptr 0 0]),(20,.isl W.length (Qo (eP W))),(22,.int .i64 q),(85,.isl W.length (Qo (eP W))),(86,.int .i64 W.length),(87,.int .i64 k),(91,.int .i64 i)],[(0,.cells t.enc),(1,.cells ig),(2,.cells z5)],3⟩) (fun i=>8 - i) AJ.mixed hN
      ⟨0,⟨by omega,by rw[← jm,← mg];rfl⟩,[],by exact Qr⟩ fun i hi=>?_
     obtain ⟨hi,kF⟩:=hi
     refine Qe ?_
     (refine Qa (fun h6=>?_) (fun h6=>?_)<;>try exact h6.elim)
     ·have hi8:i < 8:=by omega
      rw[Xsd q t af a _ i hi8]at kF
      have hB:=AO (1024 + (q:Int) * 8 + i)
      unfold xR at kF
      cases Tt:t.maps.find? (Wa af a (1024 + (q:Int) * 8 + i)) with
      | none =>
       rw[Tt]at kF hB
       simp only[Option.isNone_none,if_true]at kF
       unfold mN fI Mp.enc at hB
       dsimp only at hB
       have hR:=vW.out.1 _ kF.symm
       subst hR
       have Dy:=Tb.aA (t:=t.add ⟨af,S,aR,a,1024 + (q:Int) * 8 + i⟩) ⟨ht.wf.aq,ht.wf.home⟩
       have iW:=Mg c.gl t ht.wf (show t.maps.length≤100000 by omega) ⟨af,S,aR,a,1024 + (q:Int) * 8 + i⟩ false
       unfold Jn Mp.enc at iW
       generalize Tb.add _ _=T3 at *
       dsimp only at iW
       subst ha
       refine Qh (An @e2 @eh) ?_
       refine Qv hB @e2 ?_
       (refine Qa (fun h7=>?_) (fun h7=>?_)<;>try exact h7.elim)
       refine Qh (An @e2 @eh) ?_
       exact Aa iW (An @e2 (An @Dy (An @Jn.eq_1 (An @Mp.enc.eq_1 (An @ig.eq_1 @z5.eq_1)))))
      | some m =>
       rw[Tt]at kF hB
       simp only[Option.isNone_some,Bool.false_eq_true,if_false]at kF
       unfold mN Mp.enc at hB
       dsimp only at hB
       subst ha
       refine Qh (An @e2 @eh) ?_
       refine Qv hB @e2 ?_
       (refine Qa (fun h7=>?_) (fun h7=>?_)<;>try exact h7.elim)
       refine Qe ?_
       refine ⟨i + 1,⟨by omega,kF⟩,⟨[],?_⟩,by omega⟩
       exact Qr
     ·have:i=8:=by omega
      subst this
      rw[show (Ua q).drop 8=[] by simp[Ua],List.nil_append]at kF
      refine Qe ?_
      refine ⟨k + 1,⟨by omega,by rw[← kF,← mg];rfl⟩,⟨[],?_⟩,by omega⟩
      exact Qr
    ·have:k=W.length:=by omega
     subst this
     rw[List.drop_length]at jm
     have AR:=vW.out.2 (by rw[← jm,← mg];rfl)
     have AS:=Lib.hid AR.1
     have AT:=Lib.hid AR.2
     clear vW AR
     refine Qe ?_
     (refine Qa (fun h6=>?_) (fun h6=>?_)<;>try exact h6.elim)
     ·have hR:=AS.out ae
      subst hR
      refine Qe ?_
      exact Jv (ip [0]) (xQ c.gl t ht.wf 6) (An @e2 (An @Jn.eq_1 (An @Mp.enc.eq_1 (An @fI.eq_1 (An @ig.eq_1 @z5.eq_1)))))
     have xT:=Lib.hid ((AT.out ae).1 uu)
     clear AS AT
     refine Qh (An @e2 @eh) ?_
     have e4:=Tb.ea ht.wf
     (refine Qa (fun h7=>?_) (fun h7=>?_)<;>try exact h7.elim)
     ·omega
     clear h7
     rw[← ha]
     have hT:=SV c.gl t.aq ht.wf.aq S a draw
     have xU:=LK t.aq ht.wf.aq S a draw
     have xV:=ax.nC t.aq ht.wf.aq S a draw
     generalize hx:t.aq.take S a draw=x at *
     obtain ⟨tp,tk,te⟩:=x
     unfold uk at hT
     dsimp only at hT xV
     have Mk:=ax.aA xV
     refine Qh (An @e2 @e4) ?_
     refine Qv hT (An @e2 @Mk) ?_
     (refine Qa (fun h8=>?_) (fun h8=>?_)<;>try exact h8.elim)
     ·have hR:=xT.out.trans (show mP (t.tk af S aR a draw)=Jn t fI false te by unfold Tb.tk mP;rw[hx];simp[h8])
      subst hR
      refine Qe ?_
      exact Jv (ip [0]) (xQ c.gl t ht.wf te) (An @e2 (An @Jn.eq_1 (An @Mp.enc.eq_1 (An @fI.eq_1 (An @ig.eq_1 @z5.eq_1)))))
     have Ml:te=0:=by simpa using h8
     subst Ml
     cases xU with
     | no _ he=>exact (he rfl).elim
     | yes b kk _ jU np _ _ eW _ _ _ =>
     have iX:=xV
     have Mm:=Tb.gu ht.wf iX
     have mH:(⟨t.aq.put b kk (S + 1),t.home,t.maps⟩:Tb).wf:=⟨iX,ht.wf.home⟩
     have es2:(⟨t.aq.put b kk (S + 1),t.home,t.maps⟩:Tb).enc.set (21 + S) (.int .i64 (a + 1))=(⟨t.aq.put b kk (S + 1),t.home.set S (a + 1),t.maps⟩:Tb).enc:=Tb.gw mH qP (a + 1)
     have fJ:(⟨t.aq.put b kk (S + 1),t.home.set S (a + 1),t.maps⟩:Tb).wf:=⟨iX,by rw[List.length_set];exact ht.wf.home⟩
     have Mn:=Tb.aA fJ
     have Mo:=Tb.aA mH
     have iW:=Mg c.gl _ fJ (show t.maps.length≤100000 by omega) ⟨af,S,aR,a,1024 + (kk:Int) * 8⟩ true
     have hR:=xT.out.trans (show mP (t.tk af S aR a draw)=Jn (Tb.add ⟨t.aq.put b kk (S + 1),t.home.set S (a + 1),t.maps⟩ ⟨af,S,aR,a,1024 + (kk:Int) * 8⟩) ⟨af,S,aR,a,1024 + (kk:Int) * 8⟩ true 0 by unfold Tb.tk mP;rw[hx];rfl)
     subst hR
     clear xT
     have Dy:=Tb.aA (t:=Tb.add ⟨t.aq.put b kk (S + 1),t.home.set S (a + 1),t.maps⟩ ⟨af,S,aR,a,1024 + (kk:Int) * 8⟩) ⟨fJ.aq,fJ.home⟩
     unfold Jn Mp.enc at iW
     generalize Tb.add _ _=T3 at *
     generalize (⟨t.aq.put b kk (S + 1),t.home.set S (a + 1),t.maps⟩:Tb)=T2 at *
     generalize (⟨t.aq.put b kk (S + 1),t.home,t.maps⟩:Tb)=T1 at *
     dsimp only at iW
     refine Qh (An @e2 (An @Mm (An @es2 (An @Mn @Mo)))) ?_
     exact Aa iW (An @e2 (An @Dy (An @Jn.eq_1 (An @Mp.enc.eq_1 (An @ig.eq_1 @z5.eq_1)))))
   ·have fk:vS t S=.nils:=if_neg uu
    have gR:jT t S=[]:=if_neg uu
    rw[fk]at sJ
    rw[gR]at vW
    refine Qh @e2 ?_
    refine Qv sJ @e2 ?_
    refine Xd (fun _:Unit=>True)
     (fun _=>⟨[(1,.int .i64 af),(2,.int .i64 S),(3,.int .i64 aR),(4,.int .i64 draw),(5,.ptr 0 0),(10,.ptr 1 0),(11,.ptr 2 0),(14,.cl 125 [.ptr 0 0]),(20,.nils),(85,.nils),(86,.int .i64 0),(87,.int .i64 0)],[(0,.cells t.enc),(1,.cells ig),(2,.cells z5)],3⟩) (fun _=>0) AJ.mixed hN
     ⟨(),trivial,[],by exact Qr⟩ fun _ _=>?_
    refine Qe ?_
    (refine Qa (fun h5=>?_) (fun h5=>?_)<;>try exact h5.elim)
    refine Qe ?_
    (refine Qa (fun h6=>?_) (fun h6=>?_)<;>try exact h6.elim)
    refine Qh (An @e2 @eh) ?_
    have e4:=Tb.ea ht.wf
    have hP:=Xtw c.gl t.aq ht.wf.aq draw
    have AR:=(vW.out.2 rfl).2 au
    have Mq:=AR.2 uu
    have AS:=Lib.hid Mq.1
    have AT:=Lib.hid Mq.2
    clear vW AR Mq
    have mf:=Ye6 t.aq draw
    generalize t.aq.pick draw=pk at *
    obtain ⟨pa,pe⟩:=pk
    dsimp only at AS AT hP
    (refine Qa (fun h7=>?_) (fun h7=>?_)<;>try exact h7.elim)
    rotate_left
    ·omega
    refine Qh (An @e2 @e4) ?_
    refine Qv hP @e2 ?_
    (refine Qa (fun h8=>?_) (fun h8=>?_)<;>try exact h8.elim)
    ·have hR:=AS.out h8
     subst hR
     refine Qe ?_
     exact Jv (ip [0]) (xQ c.gl t ht.wf pe) (An @e2 (An @Jn.eq_1 (An @Mp.enc.eq_1 (An @fI.eq_1 (An @ig.eq_1 @z5.eq_1)))))
    have xJ:pe=0:=by simpa using h8
    subst xJ
    have xT:=Lib.hid (AT.out rfl)
    have hT:=SV c.gl t.aq ht.wf.aq S pa draw
    have xU:=LK t.aq ht.wf.aq S pa draw
    have xV:=ax.nC t.aq ht.wf.aq S pa draw
    generalize hx:t.aq.take S pa draw=x at *
    obtain ⟨tp,tk,te⟩:=x
    unfold uk at hT
    dsimp only at hT xV
    have Mk:=ax.aA xV
    clear h8
    refine Qh (An @e2 @e4) ?_
    refine Qv hT (An @e2 @Mk) ?_
    (refine Qa (fun h8=>?_) (fun h8=>?_)<;>try exact h8.elim)
    ·have hR:=xT.out.trans (show mP (t.tk af S aR pa draw)=Jn t fI false te by unfold Tb.tk mP;rw[hx];simp[h8])
     subst hR
     refine Qe ?_
     exact Jv (ip [0]) (xQ c.gl t ht.wf te) (An @e2 (An @Jn.eq_1 (An @Mp.enc.eq_1 (An @fI.eq_1 (An @ig.eq_1 @z5.eq_1)))))
    have Ml:te=0:=by simpa using h8
    subst Ml
    cases xU with
    | no _ he=>exact (he rfl).elim
    | yes b kk _ jU np _ _ eW _ _ _ =>
    have iX:=xV
    have Mm:=Tb.gu ht.wf iX
    have mH:(⟨t.aq.put b kk (S + 1),t.home,t.maps⟩:Tb).wf:=⟨iX,ht.wf.home⟩
    have es2:(⟨t.aq.put b kk (S + 1),t.home,t.maps⟩:Tb).enc.set (21 + S) (.int .i64 (pa + 1))=(⟨t.aq.put b kk (S + 1),t.home.set S (pa + 1),t.maps⟩:Tb).enc:=Tb.gw mH qP (pa + 1)
    have fJ:(⟨t.aq.put b kk (S + 1),t.home.set S (pa + 1),t.maps⟩:Tb).wf:=⟨iX,by rw[List.length_set];exact ht.wf.home⟩
    have Mn:=Tb.aA fJ
    have Mo:=Tb.aA mH
    have iW:=Mg c.gl _ fJ (show t.maps.length≤100000 by omega) ⟨af,S,aR,pa,1024 + (kk:Int) * 8⟩ true
    have hR:=xT.out.trans (show mP (t.tk af S aR pa draw)=Jn (Tb.add ⟨t.aq.put b kk (S + 1),t.home.set S (pa + 1),t.maps⟩ ⟨af,S,aR,pa,1024 + (kk:Int) * 8⟩) ⟨af,S,aR,pa,1024 + (kk:Int) * 8⟩ true 0 by unfold Tb.tk mP;rw[hx];rfl)
    subst hR
    clear xT AT AS
    have Dy:=Tb.aA (t:=Tb.add ⟨t.aq.put b kk (S + 1),t.home.set S (pa + 1),t.maps⟩ ⟨af,S,aR,pa,1024 + (kk:Int) * 8⟩) ⟨fJ.aq,fJ.home⟩
    unfold Jn Mp.enc at iW
    generalize Tb.add _ _=T3 at *
    generalize (⟨t.aq.put b kk (S + 1),t.home.set S (pa + 1),t.maps⟩:Tb)=T2 at *
    generalize (⟨t.aq.put b kk (S + 1),t.home,t.maps⟩:Tb)=T1 at *
    dsimp only at iW
    refine Qh (An @e2 (An @Mm (An @es2 (An @Mn @Mo)))) ?_
    exact Aa iW (An @e2 (An @Dy (An @Jn.eq_1 (An @Mp.enc.eq_1 (An @ig.eq_1 @z5.eq_1)))))
theorem Tu (x:Tb × Mp × Bool × Int) (n:Nat):Qf n (mP x)=True:=Mh ..
theorem Xtg (x:Tb × Mp × Bool × Int) (ρ:Nat→Nat):aD ρ (mP x)=mP x:=Th ..
attribute [go_sem] Tu Xtg
theorem Xvn (gl:Nat→AV) (t:Tb) (ht:t.ok) (af s aR draw:Int):PS Tryz.prog gl 89 [.agg t.enc,.int .i64 af,.int .i64 s,.int .i64 aR,.int .i64 draw] (mP (t.cE af s aR draw)):=by
 by_cases hb:Wr t=false∨Jk af s aR=false
 ·have e:t.cE af s aR draw=(t,fI,false,2):=if_pos hb
  rw[e]
  exact Xqu gl t ht af s aR draw hb
 have e:t.cE af s aR draw=match t.maps.find? (Zd af s aR) with
  | some m=>(t,m,false,0)
  | none =>
   if 12≤Zt t.maps s then (t,fI,false,6) else
   match xS t af (t.bC s.toNat - 1) (jT t s.toNat) with
   | some port=>(t.add ⟨af,s,aR,t.bC s.toNat - 1,port⟩,⟨af,s,aR,t.bC s.toNat - 1,port⟩,false,0)
   | none =>
    if 2≤(jT t s.toNat).length then (t,fI,false,6) else
    if 1≤t.bC s.toNat then t.tk af s aR (t.bC s.toNat - 1) draw else
    if (t.aq.pick draw).2≠0 then (t,fI,false,(t.aq.pick draw).2) else t.tk af s aR (t.aq.pick draw).1 draw:=if_neg hb
 have hg:Wr t=true:=by
  cases h:Wr t
  ·exact (hb (Or.inl h)).elim
  ·rfl
 have hk:Jk af s aR=true:=by
  cases h:Jk af s aR
  ·exact (hb (Or.inr h)).elim
  ·rfl
 obtain ⟨_,⟨kW,xP⟩,_⟩:=Kx hk
 obtain ⟨S,rfl⟩:=Int.eq_ofNat_of_zero_le kW
 rw[Int.toNat_natCast]at e
 refine Xwv gl t ht ((AQ t).1 hg) af S aR draw hk _ (by rw[Tu];trivial) (Lib.hid fun m hm=>?_) (Lib.hid fun hm fF=>?_) (Lib.hid fun hm fF=>⟨fun port hp=>?_,fun hp=>⟨fun h2=>?_,fun h2=>⟨fun h1=>?_,fun h1=>⟨fun hz=>?_,fun hz=>?_⟩⟩⟩⟩)
 ·rw[e,hm];rfl
 ·rw[e,hm];dsimp only;rw[if_pos fF];rfl
 ·rw[e,hm];dsimp only;rw[if_neg fF,hp];rfl
 ·rw[e,hm];dsimp only;rw[if_neg fF,hp];dsimp only;rw[if_pos h2];rfl
 ·rw[e,hm];dsimp only;rw[if_neg fF,hp];dsimp only;rw[if_neg h2,if_pos h1]
 ·rw[e,hm];dsimp only;rw[if_neg fF,hp];dsimp only;rw[if_neg h2,if_neg h1,if_pos hz];rfl
 ·rw[e,hm];dsimp only;rw[if_neg fF,hp];dsimp only;rw[if_neg h2,if_neg h1,if_neg (by simp[hz])]
theorem Xzg:Uv Tryz.prog 100 69=some [.int .i64,.int .i64,.int .i64,.int .i64,.int .i64]:=by kernel_rfl
theorem Ya6 {x y:Mp}:x=y ↔ x.enc=y.enc:=by
 cases x;cases y;simp[Mp.enc]
theorem Dz {c:Cx} {ne:Bool} (x y:Mp):mq Tryz.prog c (.cA ne 69) [.agg x.enc,.agg y.enc] (.bool (ne != decide (x=y))) :=
 zR Xzg (by kernel_rfl) (by kernel_rfl) rfl rfl (by rw[decide_eq_true_eq];exact Ya6)
def vX:List Mp→Mp→Nat→Int
 | [],_,_=>-1
 | x::l,m,k=>if m=x then k else vX l m (k + 1)
set_option maxHeartbeats 1000000 in
theorem Tv (gl:Nat→AV) (l:List Mp) (hl:l.length≤4611686018427387904) (m:Mp):PS Tryz.prog gl 140 [.isl l.length (ca l),.agg m.enc] (.int .i64 (vX l m 0)):=by
 refine SI.ps (of_decide_eq_true rfl) (by simp[Qf]) fun c hN hg=>?_
 conv in aQ _ _=>cbv
 have aH:=Jg l
 have oK:m.enc.length=5:=rfl
 have vw:∀ n,ah n m.enc=True:=fun n=>by simp[Mp.enc,ah,Qf]
 have Mr:∀ ρ,ay ρ m.enc=m.enc:=fun ρ=>by simp[Mp.enc,ay,aD]
 refine Qe ?_
 refine Xd (fun k:Nat=>k≤l.length∧vX (l.drop k) m k=vX l m 0) (fun k=>⟨[(0,.isl l.length (ca l)),(3,.ptr 0 0),(6,.isl l.length (ca l)),(7,.int .i64 l.length),(8,.int .i64 k)],[(0,.cells m.enc)],1⟩) (fun k=>l.length - k) SI.mixed hN
  ⟨0,⟨by omega,rfl⟩,[],by exact Qq @vw⟩ fun k hk=>?_
 obtain ⟨hk,cK⟩:=hk
 refine Qe ?_
 (refine Qa (fun h1=>?_) (fun h1=>?_)<;>try exact h1.elim)
 ·have bw:k < l.length:=by omega
  have a7:=vQ l k bw
  have iD:l.drop k=l[k]::l.drop (k + 1):=List.drop_eq_getElem_cons bw
  rw[iD]at cK
  rw[vX]at cK
  generalize l[k]=x at *
  have heq:=@Dz c false m x
  refine Qh (An @aH (An @a7 @oK)) ?_
  refine Qv heq (An @aH (An @a7 @oK)) ?_
  (refine Qa (fun h2=>?_) (fun h2=>?_)<;>try exact h2.elim)
  ·rw[if_pos (by simpa using h2)]at cK
   exact Qq @cK
  ·rw[if_neg (by simpa using h2)]at cK
   refine Qe ?_
   refine ⟨k + 1,⟨by omega,cK⟩,⟨[],?_⟩,by omega⟩
   exact Qq (An @vw @Mr)
 ·have:k=l.length:=by omega
  subst this
  rw[List.drop_length]at cK
  have cK:(-1:Int)=vX l m 0:=cK
  exact Qq @cK
theorem Tw:Ae Tryz.prog 37 5:=KL (by kernel_rfl)
theorem Xs4 (l:List Mp) (k:Nat) (h:k≤l.length):(ca l).drop (k * 5)=ca (l.drop k):=by
 have e:ca l=ca (l.take k)++ca (l.drop k):=by rw[LL,List.take_append_drop]
 rw[e,List.drop_append_of_le_length (by rw[Jg,List.length_take];omega),List.drop_of_length_le (by rw[Jg,List.length_take];omega),List.nil_append]
theorem Xmq (l:List Mp) (i:Nat) (hi:i < l.length):(ca l).take (i * 5)++(ca l).drop ((i + 1) * 5)=ca (l.eraseIdx i):=by
 rw[SE l i ae,Xs4 l (i + 1) ae,LL,List.eraseIdx_eq_take_drop_succ]
set_option maxHeartbeats 1000000 in
theorem Xof (gl:Nat→AV) (l:List Mp) (hl:l.length≤1000000) (i:Nat) (hi:i < l.length):GS Tryz.prog gl 141 [.sl 5 0 0 l.length l.length,.int .i64 i,.int .i64 ((i:Int) + 1)] [(0,.cells (ca l))] 1
  (.sl 5 0 0 (l.length - 1) l.length) [(0,.cells (ca (l.eraseIdx i)))] 1:=by
 refine Xi8.gs (of_decide_eq_true rfl) (by simp[Bk.live]) fun c hN hg=>?_
 conv in aQ _ _=>cbv
 have aH:=Jg l
 have y1:i - 0=i:=by omega
 have y2:l.length - 0=l.length:=by omega
 have y3:((i:Int) + 1).toNat=i + 1:=by omega
 have y4:i + (l.length - (i + 1))=l.length - 1:=by omega
 have y5:l.length - (l.length - 1)=1:=by omega
 have y6:i + 0=i:=by omega
 have y7:(0:Nat) * 5=0:=by omega
 have mQ:=Xmq l i hi
 have xN:=Jg (l.eraseIdx i)
 rw[List.length_eraseIdx,if_pos hi]at xN
 have ec:(ca (l.eraseIdx i)).take ((l.length - 1) * 5)=ca (l.eraseIdx i):=List.take_of_length_le ae
 refine Qh @aH ?_
 ((first|apply Ym|apply Ya|apply Xn|apply Xj)<;>(first|exact (Yat (by omega) (by omega) (by omega) (by omega))|(refine XG ?_;first|exact rfl|exact True.intro|((try (repeat' with_reducible refine And.intro ?_ ?_));(try any_goals (first|refine zm ?_|exact CL|fail))))))
 (refine Qa (fun h1=>?_) (fun h1=>?_)<;>try exact h1.elim)
 ·omega
 refine Qh @aH ?_
 by_cases h2:i + 1 < l.length
 ·refine Qh @aH ?_
  ((first|apply RM|apply RN);(have aJ:=@aH;have bm:=@y1;have bL:=@y2;have cf:=@y3;have cF:=@mQ;have dp:=@y4;refine XG ?_;clear aJ bm bL cf cF dp;((try (repeat' with_reducible refine And.intro ?_ ?_));(try any_goals (first|refine zm ?_|exact CL|fail)))))
  (refine F9 Tw ?_;(have aJ:=@aH;have bm:=@y1;have bL:=@y2;have cf:=@y3;have cF:=@y5;have dp:=@mQ;have fc:=@y4;have jn:=@ec;refine XG ?_;clear aJ bm bL cf cF dp fc jn;((try (repeat' with_reducible refine And.intro ?_ ?_));(try any_goals (first|refine zm ?_|exact CL|fail)))))
  refine Qe ?_
  refine ⟨[],?_⟩
  exact Qr
 ·have:i + 1=l.length:=by omega
  have y8:l.length - 1=i:=by omega
  have uv:(ca l).take (i * 5)=ca (l.eraseIdx i):=by rw[← mQ,List.drop_of_length_le ae,List.append_nil]
  rw[y8]at ec
  refine Qh @aH ?_
  ((first|apply RM|apply RN);(have aJ:=@aH;have bm:=@y1;have bL:=@y2;have cf:=@y6;have cF:=@y7;have dp:=@List.append_nil.{0};have fc:=@uv;refine XG ?_;clear aJ bm bL cf cF dp fc;((try (repeat' with_reducible refine And.intro ?_ ?_));(try any_goals (first|refine zm ?_|exact CL|fail)))))
  (refine F9 Tw ?_;(have aJ:=@aH;have bm:=@y1;have bL:=@y2;have cf:=@y3;have cF:=@y5;have dp:=@y8;have fc:=@ec;refine XG ?_;clear aJ bm bL cf cF dp fc;((try (repeat' with_reducible refine And.intro ?_ ?_));(try any_goals (first|refine zm ?_|exact CL|fail)))))
  refine Qe ?_
  refine ⟨[],?_⟩
  exact Qq @y8
end Go.Proofs.YtogckmommodmhaaGreatDoor
