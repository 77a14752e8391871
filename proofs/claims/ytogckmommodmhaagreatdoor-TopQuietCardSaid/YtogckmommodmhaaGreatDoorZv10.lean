import Derived.Test.YtogckmommodmhaaGreatDoorZv5
import Derived.Test.YtogckmommodmhaaGreatDoorZv1
import Derived.Test.YtogckmommodmhaaGreatDoorZv6
import Derived.Test.YtogckmommodmhaaGreatDoorRows
import Derived.KernelRfl
import Derived.Lib.Hide
namespace Go.Proofs.YtogckmommodmhaaGreatDoor
open Go.RowKit
set_option linter.all false
set_option linter.unusedSimpArgs false
set_option maxRecDepth 100000
theorem Xs4 (k n:Int) (h:0 < n):-n < k.tmod n∧k.tmod n < n:=by
 have h1:=Int.tmod_lt_of_pos k h
 have h2:=Int.tmod_lt_of_pos (-k) h
 rw[Int.neg_tmod]at h2
 omega
structure ay where
 own:List Int
 dr:List Bool
structure ay.wf (p:ay):Prop where
 own:p.own.length=18
 dr:p.dr.length=3
def ay.row (p:ay) (a:Nat):List Int:=(p.own.drop (a * 6)).take 6
def kG (n:Int):Bool:=decide (0≤n) && decide (n≤8)
def ay.bR (p:ay):Bool:=p.own.all kG
theorem Kz (p:ay) (h:p.wf) (a:Nat) (ha:a < 3):(p.row a).length=6:=by
 simp[ay.row,h.own];omega
theorem Sr (p:ay) (a j:Nat) (hj:j < 6):(p.row a)[j]?=p.own[a * 6 + j]?:=by
 simp[ay.row,hj]
theorem Xuo (p:ay) (h:(p.own.take (6 * 3)).all kG=true) (hp:p.wf):p.bR=true:=by
 rw[List.take_of_length_le (by rw[hp.own];omega)]at h;exact h
theorem Xse (p:ay) (i:Nat) (x:Int) (hx:p.own[i]?=some x) (hb:kG x=false):p.bR=false:=by
 unfold ay.bR
 rw[List.all_eq_false]
 exact ⟨x,List.mem_of_getElem? hx,by simp[hb]⟩
theorem Xn1 (p:ay) (i:Nat) (x:Int) (hx:p.own[i]?=some x) (h:(p.own.take i).all kG=true) (hb:kG x=true):(p.own.take (i + 1)).all kG=true:=by
 rw[List.take_add_one,hx]
 simp only[List.all_append,h,Bool.true_and]
 simp[hb]
theorem Xw4 (x:Int) (h:x < 0):kG x=false:=by unfold kG;simp;omega
theorem Xw5 (x:Int) (h:8 < x):kG x=false:=by unfold kG;simp;omega
theorem Xud (x:Int) (h0:¬ x < 0) (h:¬ 8 < x):kG x=true:=by unfold kG;simp;omega
def Wa (a:Int):Bool:=decide (0≤a) && decide (a < 3)
theorem Qtb (k n:Int) (hn:0 < n):(if k.tmod n < 0 then k.tmod n + n else k.tmod n)=k % n:=by
 rw[Int.tmod_eq_emod]
 have h1:=Int.emod_nonneg k (show n≠0 by omega)
 have h2:=Int.emod_lt_of_pos k hn
 have e:(n.natAbs:Int)=n:=by omega
 by_cases h:0≤k∨n ∣ k
 ·rw[if_pos h];simp;omega
 ·rw[if_neg h,e]
  have:k % n≠0:=fun h0=>h (.inr (Int.dvd_of_emod_eq_zero h0))
  rw[if_pos af];omega
def Uy (l:List Int):Nat:=l.countP (· == 0)
def ay.left (p:ay) (a:Int):Nat:=if Wa a=true then Uy (p.row a.toNat) else 0
theorem C0 (p:ay) (a:Nat) (h:a < 3):p.left a=Uy (p.row a):=by
 unfold ay.left;rw[if_pos (by unfold Wa;simp;omega)];simp
theorem Xsz (p:ay) (a:Int) (h:Wa a=false):p.left a=0:=by unfold ay.left;rw[if_neg (by rw[h];simp)]
theorem Lz (l:List Int) (m:Nat) (x:Int) (h:l[m]?=some x):Uy (l.take (m + 1))=Uy (l.take m) + (if x=0 then 1 else 0):=by
 unfold Uy
 rw[List.take_add_one,h]
 simp[List.countP_append,List.countP_cons]
theorem LA (l:List Int) (m:Nat):Uy (l.take m)≤m:=by
 unfold Uy
 have:=List.countP_le_length (p:=(· == 0)) (l:=l.take m)
 have:=List.length_take_le m l
 omega
def ay.nC (p:ay) (a:Nat):Bool:=p.dr.getD a false
def ay.open_ (p:ay) (a:Nat):Bool:=!p.nC a && decide (0 < p.left a)
def ay.opens (p:ay) (k:Nat):List Nat:=(List.range k).filter p.open_
theorem Xgy (p:ay) (k:Nat):p.opens (k + 1)=p.opens k++if p.open_ k then [k] else []:=by
 unfold ay.opens;rw[List.range_succ,List.filter_append];simp[List.filter_cons]
theorem Xvp (p:ay) (k:Nat):(p.opens k).length≤k:=by
 have:=List.length_filter_le p.open_ (List.range k);simpa [ay.opens] using this
def ay.pick (p:ay) (draw:Int):Int × Int :=
 if p.bR=true then (if (p.opens 3).length=0 then (0,10) else (((p.opens 3).getD (draw % ((p.opens 3).length:Int)).toNat 0:Nat),0)) else (0,2)
def lA (l:List Int) (n:Nat):List Nat:=(List.range n).filter fun k=>l.getD k 1 == 0
theorem Ss (l:List Int) (n:Nat):lA l (n + 1)=lA l n++if l.getD n 1=0 then [n] else []:=by
 unfold lA;rw[List.range_succ,List.filter_append];simp[List.filter_cons]
theorem Gk (l:List Int):∀ n,n≤l.length→(lA l n).length=Uy (l.take n)
 | 0,_=>by simp[lA,Uy]
 | n + 1,h=>by
  rw[Ss,List.length_append,Gk l n af,Lz l n l[n] (List.getElem?_eq_getElem af)]
  have:l.getD n 1=l[n]:=by simp[show n < l.length by omega]
  rw[this];split<;>simp
theorem Su (l:List Int) (m:Nat) (hm:m < l.length) (hx:l[m]?=some 0):∀ n,m < n→(lA l n)[Uy (l.take m)]?=some m
 | 0,h=>by omega
 | n + 1,h=>by
  rw[Ss]
  by_cases e:m=n
  ·subst e
   have:l.getD m 1=0:=by simp[hx]
   rw[List.getElem?_append_right (by rw[Gk l m af];omega),Gk l m af,this]
   simp
  ·have ih:=Su l m hm hx n af
   rw[List.getElem?_append_left (List.getElem?_eq_some_iff.1 ih).1]
   exact ih
def ay.put (p:ay) (a k:Nat) (o:Int):ay:={ p with own:=p.own.set (a * 6 + k) o }
theorem ay.de (p:ay) (hp:p.wf) (a k:Nat) (o:Int):(p.put a k o).wf:=⟨by simp[ay.put,hp.own],hp.dr⟩
def ay.jQ (p:ay) (a:Nat) (draw:Int):Nat:=(lA (p.row a) 6).getD (draw % (p.left a:Int)).toNat 0
def ay.take (p:ay) (s a draw:Int):ay × Int × Int :=
 if p.bR=true then
  (if Wa a=true∧0≤s∧s < 8 then
   (if p.nC a.toNat=true then (p,0,9) else
    (if p.left a=0 then (p,0,10) else (p.put a.toNat (p.jQ a.toNat draw) (s + 1),(p.jQ a.toNat draw:Nat),0)))
  else (p,0,7))
 else (p,0,2)
def ay.ow (p:ay) (a k:Nat):Int:=p.own.getD (a * 6 + k) 0
theorem ay.uo (p:ay) (h:p.bR=true) (a k:Nat):0≤p.ow a k∧p.ow a k≤8:=by
 unfold ay.ow
 by_cases hi:a * 6 + k < p.own.length
 ·have:=List.all_eq_true.1 h p.own[a * 6 + k] (List.getElem_mem hi)
  unfold kG at this
  simp at this
  simp[hi];omega
 ·simp[Nat.le_of_not_lt hi]
def ay.bX (p:ay) (s a b:Int):ay × Int :=
 if p.bR=true then (if Wa a=true∧0≤b∧b < 6∧0≤s∧p.ow a.toNat b.toNat=s + 1 then (p.put a.toNat b.toNat 0,0) else (p,7)) else (p,2)
def ay.oM (p:ay) (a:Nat) (to:Bool):ay:={ p with dr:=p.dr.set a to }
theorem ay.nD (p:ay) (hp:p.wf) (a:Nat) (to:Bool):(p.oM a to).wf:=⟨hp.own,by simp[ay.oM,hp.dr]⟩
def ay.drain (p:ay) (a:Int) (to:Bool):ay × Int :=
 if Wa a=true then (if p.nC a.toNat=to then (p,8) else (p.oM a.toNat to,0)) else (p,7)
theorem ay.dZ (p:ay) (hp:p.wf) (a:Int) (to:Bool):(p.drain a to).1.wf:=by
 unfold ay.drain
 split
 ·split
  ·exact hp
  ·exact p.nD hp _ _
 ·exact hp
theorem ay.uq (p:ay) (hp:p.wf) (s a b:Int):(p.bX s a b).1.wf:=by
 unfold ay.bX
 split
 ·split
  ·exact p.de hp _ _ _
  ·exact hp
 ·exact hp
theorem ay.nE (p:ay) (hp:p.wf) (s a d:Int):(p.take s a d).1.wf:=by
 unfold ay.take
 split
 ·split
  ·split
   ·exact hp
   ·split
    ·exact hp
    ·exact p.de hp _ _ _
  ·exact hp
 ·exact hp
theorem Ay (a:Int) (h:Wa a=true):∃ k:Nat,a=k∧k < 3:=by
 unfold Wa at h;simp at h
 exact ⟨a.toNat,by omega,by omega⟩
theorem Xzu (l:List Int) (n i:Nat) (h:i < (lA l n).length):(lA l n).getD i 0 < n:=by
 have h2:(lA l n).getD i 0 ∈ lA l n:=by
  rw[List.getD_eq_getElem?_getD,List.getElem?_eq_getElem h];exact List.getElem_mem h
 generalize (lA l n).getD i 0=x at h2
 unfold lA at h2
 exact List.mem_range.1 (List.mem_filter.1 h2).1
theorem Gl (p:ay) (hp:p.wf) (a k:Nat) (ha:a < 3) (hk:k < 6):(p.row a)[k]?=some (p.ow a k):=by
 rw[Sr p a k hk]
 have:a * 6 + k < p.own.length:=by rw[hp.own];omega
 unfold ay.ow
 simp[this]
theorem Sv (p:ay) (hp:p.wf) (a:Nat) (draw:Int) (ha:a < 3) (hl:p.left a≠0):p.jQ a draw < 6∧p.ow a (p.jQ a draw)=0:=by
 have hlen:(lA (p.row a) 6).length=p.left a:=by
  rw[Gk _ 6 (by rw[Kz p hp a ha];omega),C0 p a ha,List.take_of_length_le (by rw[Kz p hp a ha];omega)]
 have hm:(draw % (p.left a:Int)).toNat < (lA (p.row a) 6).length:=by
  have m0:=Int.emod_nonneg draw (show (p.left a:Int)≠0 by omega)
  have m1:=Int.emod_lt_of_pos draw (show (0:Int) < p.left a by omega)
  rw[hlen];omega
 have hk:p.jQ a draw < 6:=Xzu _ _ _ hm
 refine ⟨hk,?_⟩
 have h2:p.jQ a draw ∈ lA (p.row a) 6:=by
  unfold ay.jQ
  rw[List.getD_eq_getElem?_getD,List.getElem?_eq_getElem hm];exact List.getElem_mem hm
 generalize p.jQ a draw=x at hk h2 ⊢
 unfold lA at h2
 have h3:=(List.mem_filter.1 h2).2
 have h4:=Gl p hp a x ha hk
 rw[List.getD_eq_getElem?_getD,h4]at h3
 simpa using h3
inductive qX (p:ay) (s a:Int):ay × Int × Int→Prop
 | no (e:Int) (he:e≠0):qX p s a (p,0,e)
 | yes (b k:Nat) (ha:a=b) (hb:b < 3) (hk:k < 6) (h0:0≤s) (h8:s < 8) (hg:p.bR=true) (hd:p.nC b=false) (hl:p.left b≠0) (ho:p.ow b k=0):qX p s a (p.put b k (s + 1),(k:Int),0)
theorem LB (p:ay) (hp:p.wf) (s a draw:Int):qX p s a (p.take s a draw):=by
 unfold ay.take
 split
 ·rename_i hg
  split
  ·rename_i h
   obtain ⟨b,rfl,hb⟩:=Ay a h.1
   rw[show ((b:Int)).toNat=b by omega]
   split
   ·exact .no 9 aP
   ·rename_i hd
    split
    ·exact .no 10 aP
    ·rename_i hl
     obtain ⟨hk,ho⟩:=Sv p hp b draw hb hl
     exact .yes b _ rfl hb hk h.2.1 h.2.2 hg (by simpa using hd) hl ho
  ·exact .no 7 aP
 ·exact .no 2 aP
inductive mJ (p:ay):Int × Int→Prop
 | no (e:Int) (he:e≠0):mJ p (0,e)
 | yes (b:Nat) (hb:b < 3) (hg:p.bR=true) (hd:p.nC b=false) (hl:0 < p.left b):mJ p ((b:Int),0)
theorem Yd1 (p:ay) (draw:Int):mJ p (p.pick draw):=by
 unfold ay.pick
 split
 ·rename_i hg
  split
  ·exact .no 10 aP
  ·rename_i hl
   have hm:(draw % ((p.opens 3).length:Int)).toNat < (p.opens 3).length:=by
    have m0:=Int.emod_nonneg draw (show ((p.opens 3).length:Int)≠0 by omega)
    have m1:=Int.emod_lt_of_pos draw (show (0:Int) < (p.opens 3).length by omega)
    omega
   have h2:(p.opens 3).getD (draw % ((p.opens 3).length:Int)).toNat 0 ∈ p.opens 3:=by
    rw[List.getD_eq_getElem?_getD,List.getElem?_eq_getElem hm];exact List.getElem_mem hm
   generalize (p.opens 3).getD (draw % ((p.opens 3).length:Int)).toNat 0=x at h2
   unfold ay.opens at h2
   have h3:=List.mem_filter.1 h2
   have h4:=h3.2
   unfold ay.open_ at h4
   simp at h4
   exact .yes x (List.mem_range.1 h3.1) hg h4.1 h4.2
 ·exact .no 2 aP
def ay.enc (p:ay):List AV:=Qp p.own++Zp p.dr
theorem ay.aD {p:ay} (h:p.wf):p.enc.length=21:=by simp[ay.enc,Qp,Zp,h.own,h.dr]
theorem ay.b9 (p:ay) (n:Nat):ai n p.enc=True:=by simp only[ay.enc,zH,zG,QF,and_self]
theorem ay.mK {p:ay} (h:p.wf) {b:Nat} (hb:b < 3):p.enc.getD (18 + b) .any=.bool (p.nC b):=by
 unfold ay.enc ay.nC
 have e:(Qp p.own++Zp p.dr)[18 + b]?=(Zp p.dr)[b]?:=by
  rw[List.getElem?_append_right (by rw[Yj,h.own];omega),Yj,h.own,show 18 + b - 18=b by omega]
 have:=JF (l:=p.dr) (i:=b) (by rw[h.dr];exact hb)
 simp only[List.getD]at this ⊢
 rw[e,this]
theorem ay.da (p:ay) (ρ:Nat→Nat):az ρ p.enc=p.enc:=by simp only[ay.enc,BT,zF,QD]
theorem ay.iz (p:ay) (s:FS):p.enc.map (Yt s)=p.enc:=by simp only[ay.enc,List.map_append,JG,QG]
attribute [go_sem] ay.b9 ay.da ay.iz
structure Mp where
 ae:Int
 s:Int
 aR:Int
 a:Int
 port:Int
 deriving DecidableEq
def Mp.enc (m:Mp):List AV:=[.int .i64 m.ae,.int .i64 m.s,.int .i64 m.aR,.int .i64 m.a,.int .i64 m.port]
def ff:Mp:=⟨0,0,0,0,0⟩
def cq (l:List Mp):List AV:=l.flatMap Mp.enc
theorem Jp (l:List Mp):(cq l).length=l.length * 5:=by
 induction l with
 | nil=>rfl
 | cons e l ih=>simp[cq,Mp.enc]at ih ⊢;omega
theorem vK (l:List Mp) (k:Nat) (h:k < l.length):((cq l).drop (k * 5)).take 5=(l[k]).enc:=by
 induction l generalizing k with
 | nil=>simp at h
 | cons e l ih =>
  cases k with
  | zero=>simp[cq,Mp.enc]
  | succ k =>
   have:=ih k (by simpa using h)
   have e1:cq (e::l)=e.enc++cq l:=by simp[cq]
   rw[e1,List.drop_append,List.drop_eq_nil_of_le (by simp[Mp.enc];omega)]
   have e2:(k + 1) * 5 - e.enc.length=k * 5:=by simp[Mp.enc];omega
   rw[e2];simpa using this
theorem LC (a b:List Mp):cq a++cq b=cq (a++b):=by simp[cq]
theorem Xup (l:List Mp) (m:Mp):cq l++[.int .i64 m.ae,.int .i64 m.s,.int .i64 m.aR,.int .i64 m.a,.int .i64 m.port]=cq (l++[m]):=by simp[cq,Mp.enc]
theorem Sw (l:List Mp) (k:Nat) (h:k≤l.length):(cq l).take (k * 5)=cq (l.take k):=by
 have e:cq l=cq (l.take k)++cq (l.drop k):=by rw[LC,List.take_append_drop]
 rw[e,List.take_append_of_le_length (by rw[Jp,List.length_take];omega),List.take_of_length_le (by rw[Jp,List.length_take];omega)]
theorem LD {l:List Mp} {x:AV} (h:x ∈ cq l):∃ n,x=.int .i64 n:=by
 obtain ⟨e,_,he⟩:=List.mem_flatMap.1 h
 simp[Mp.enc]at he
 rcases he with rfl|rfl|rfl|rfl|rfl<;>exact ⟨_,rfl⟩
theorem Gm (n:Nat) (l:List Mp):ai n (cq l)=True:=by
 refine eq_true ?_
 rw[Xv]
 intro x hx
 obtain ⟨k,rfl⟩:=LD hx
 simp[Qe]
theorem LF (ρ:Nat→Nat) (l:List Mp):az ρ (cq l)=cq l:=by
 rw[Yu]
 refine (List.map_congr_left (g:=id) fun x hx=>?_).trans (List.map_id _)
 obtain ⟨k,rfl⟩:=LD hx
 simp[aE]
theorem Xzb (s:FS) (l:List Mp):(cq l).map (Yt s)=cq l:=by
 refine (List.map_congr_left (g:=id) fun x hx=>?_).trans (List.map_id _)
 obtain ⟨k,rfl⟩:=LD hx
 rfl
attribute [go_sem] Gm LF Xzb Jp
structure Tb where
 aq:ay
 home:List Int
 maps:List Mp
structure Tb.wf (t:Tb):Prop where
 aq:t.aq.wf
 home:t.home.length=8
def Tb.hd (t:Tb):List AV:=t.aq.enc++Qp t.home
theorem Tb.dA {t:Tb} (h:t.wf):t.hd.length=29:=by simp[Tb.hd,ay.aD h.aq,Yj,h.home]
theorem Tb.vL (t:Tb) (n:Nat):ai n t.hd=True:=by simp only[Tb.hd,zH,ay.b9,zG,and_self]
theorem Tb.nF (t:Tb) (ρ:Nat→Nat):az ρ t.hd=t.hd:=by simp only[Tb.hd,BT,ay.da,zF]
theorem Tb.qY (t:Tb) (s:FS):t.hd.map (Yt s)=t.hd:=by simp only[Tb.hd,List.map_append,ay.iz,JG]
attribute [go_sem] Tb.vL Tb.nF Tb.qY
def Tb.enc (t:Tb):List AV:=t.hd++[.isl t.maps.length (cq t.maps)]
theorem Tb.aD {t:Tb} (h:t.wf):t.enc.length=30:=by simp[Tb.enc,Tb.dA h]
theorem Tb.b9 (t:Tb) (n:Nat):ai n t.enc=True:=by simp[Tb.enc,zH,Tb.vL,ai,Qe,Gm]
theorem Tb.da (t:Tb) (ρ:Nat→Nat):az ρ t.enc=t.enc:=by simp[Tb.enc,BT,Tb.nF,az,aE,LF]
theorem Tb.iz (t:Tb) (s:FS):t.enc.map (Yt s)=t.enc:=by simp[Tb.enc,List.map_append,Tb.qY,Yt]
attribute [go_sem] Tb.b9 Tb.da Tb.iz
theorem Tb.cO {t:Tb} (h:t.wf):t.enc.getD 29 .any=.isl t.maps.length (cq t.maps):=by
 unfold Tb.enc
 rw[List.getD_eq_getElem?_getD,List.getElem?_append_right (by rw[Tb.dA h];decide),Tb.dA h];rfl
theorem Tb.eX {t:Tb} (h:t.wf):t.enc.take 21=t.aq.enc:=by
 unfold Tb.enc Tb.hd
 rw[List.append_assoc,List.take_append_of_le_length (by rw[ay.aD h.aq];decide),List.take_of_length_le (by rw[ay.aD h.aq];decide)]
def Tb.bC (t:Tb) (s:Nat):Int:=t.home.getD s 0
theorem Tb.gn {t:Tb} (h:t.wf) {s:Nat} (hs:s < 8):t.enc.getD (21 + s) .any=.int .i64 (t.bC s):=by
 unfold Tb.enc Tb.hd Tb.bC
 rw[List.append_assoc,List.getD_eq_getElem?_getD,List.getElem?_append_right (by rw[ay.aD h.aq];omega),ay.aD h.aq,show 21 + s - 21=s by omega,List.getElem?_append_left (by rw[Yj,h.home];exact hs)]
 have hl:s < t.home.length:=by rw[h.home];exact hs
 simp[Qp,List.getD,hl]
def Js (port:Int):Bool:=decide (1024≤port) && decide (port < 1072)
def Xk (port:Int):Int:=if Js port=true then (port - 1024) / 8 else 0
def Jm (ae s aR:Int):Bool:=(ae == 1 || ae == 6 || ae == 17) && decide (0≤s) && decide (s < 8) && decide (0≤aR) && decide (aR≤65535)
def Zi (ae s aR:Int) (m:Mp):Bool:=m.ae == ae && m.s == s && m.aR == aR
def Wc (ae a port:Int) (m:Mp):Bool:=m.ae == ae && m.a == a && m.port == port
def mL:Option Mp→AV
 | some m=>.aU [.agg m.enc,.bool true]
 | none=>.aU [.agg ff.enc,.bool false]
theorem Xr3:FT Tryz.prog 56 Tryz.f56 (aQ Tryz.prog Tryz.f56) [.t 2,.t 3,.t 4]:=.of Tryz.func56
theorem Xj5:FT Tryz.prog 81 Tryz.f81 (aQ Tryz.prog Tryz.f81) [.t 6]:=.of Tryz.func81
theorem Az:FT Tryz.prog 52 Tryz.f52 (aQ Tryz.prog Tryz.f52) [.t 2]:=.of Tryz.func52
theorem Sx:FT Tryz.prog 40 Tryz.f40 (aQ Tryz.prog Tryz.f40) [.cell 8 (.ag 5),.t 9]:=.of Tryz.func40
theorem Sy:FT Tryz.prog 42 Tryz.f42 (aQ Tryz.prog Tryz.f42) [.cell 8 (.ag 5),.t 9]:=.of Tryz.func42
theorem Sz:FT Tryz.prog 126 Tryz.f126 (aQ Tryz.prog Tryz.f126) [.t 4]:=.of Tryz.func126
theorem AA:FT Tryz.prog 89 Tryz.f89 (aQ Tryz.prog Tryz.f89) [.cell 10 (.ag 30),.cell 11 (.ag 5),.t 12,.t 13]:=.of Tryz.func89
theorem Xg8:FT Tryz.prog 125 Tryz.f125 (aQ Tryz.prog Tryz.f125) [.cell 3 (.ag 30),.cell 4 (.ag 5),.t 5,.t 6]:=.of Tryz.func125
theorem Xyt:FT Tryz.prog 127 Tryz.f127 (aQ Tryz.prog Tryz.f127) [.cell 6 (.ag 30),.cell 7 (.ag 5),.t 8,.t 9]:=.of Tryz.func127
theorem Gn:FT Tryz.prog 102 Tryz.f102 (aQ Tryz.prog Tryz.f102) [.cell 4 (.ag 30),.t 5,.t 6]:=.of Tryz.func102
theorem SA:FT Tryz.prog 140 Tryz.f140 (aQ Tryz.prog Tryz.f140) [.t 4]:=.of Tryz.func140
theorem Xd9:FT Tryz.prog 141 Tryz.f141 (aQ Tryz.prog Tryz.f141) [.t 6]:=.of Tryz.func141
theorem AB:FT Tryz.prog 64 Tryz.f64 (aQ Tryz.prog Tryz.f64) [.t 2]:=.of Tryz.func64
theorem Xty:FT Tryz.prog 79 Tryz.f79 (aQ Tryz.prog Tryz.f79) [.t 2]:=.of Tryz.func79
theorem LG:FT Tryz.prog 80 Tryz.f80 (aQ Tryz.prog Tryz.f80) [.t 2]:=.of Tryz.func80
theorem SB:FT Tryz.prog 49 Tryz.f49 (aQ Tryz.prog Tryz.f49) [.t 4]:=.of Tryz.func49
theorem Xht:FT Tryz.prog 163 Tryz.f163 (aQ Tryz.prog Tryz.f163) [.t 4]:=.of Tryz.func163
theorem SC:FT Tryz.prog 128 Tryz.f128 (aQ Tryz.prog Tryz.f128) [.t 4,.t 5]:=.of Tryz.func128
theorem SD:FT Tryz.prog 129 Tryz.f129 (aQ Tryz.prog Tryz.f129) [.cell 8 (.ag 21),.t 9,.t 10]:=.of Tryz.func129
theorem Xwo:FT Tryz.prog 142 Tryz.f142 (aQ Tryz.prog Tryz.f142) [.cell 8 (.ag 21),.t 9]:=.of Tryz.func142
theorem Xjs:FT Tryz.prog 103 Tryz.f103 (aQ Tryz.prog Tryz.f103) [.cell 6 (.ag 21),.t 7]:=.of Tryz.func103
theorem Xq8:FT Tryz.prog 61 Tryz.f61 (aQ Tryz.prog Tryz.f61) [.cell 4 (.ag 21),.t 5]:=.of Tryz.func61
theorem Xb2:FT Tryz.prog 62 Tryz.f62 (aQ Tryz.prog Tryz.f62) [.cell 4 (.ag 21),.t 5]:=.of Tryz.func62
theorem Gp (gl:Nat→AV) (a:Int):PS Tryz.prog gl 79 [.int .i64 a] (.bool (Wa a)):=by
 refine Xty.ps (of_decide_eq_true rfl) (by simp[Qe]) fun c hN hg=>?_
 conv in aQ _ _=>cbv
 unfold Wa
 exact Qw
theorem Gq (p:ay) (hp:p.wf):p.enc.take 18=Qp p.own:=by
 unfold ay.enc
 rw[List.take_append_of_le_length (by rw[Yj,hp.own];decide),List.take_of_length_le (by rw[Yj,hp.own];decide)]
theorem LH (p:ay) (hp:p.wf) (a:Nat) (ha:a < 3):(p.enc.drop (a * 6)).take 6=Qp (p.row a):=by
 unfold ay.enc ay.row
 rw[List.drop_append_of_le_length (by rw[Yj,hp.own];omega),List.take_append_of_le_length (by rw[List.length_drop,Yj,hp.own];omega)]
 simp[Qp,List.map_drop,List.map_take]
theorem SE (p:ay) (a:Nat):(p.own.drop (a * 6)).take 6=p.row a:=rfl
theorem C2 (p:ay) (a k:Nat) (hk:k < 6):(p.row a).getD k 0=p.ow a k:=by
 unfold ay.ow
 rw[List.getD_eq_getElem?_getD,List.getD_eq_getElem?_getD,Sr p a k hk]
theorem Gr (gl:Nat→AV) (p:ay) (hp:p.wf):PS Tryz.prog gl 80 [.agg p.enc] (.bool p.bR):=by
 refine LG.ps (of_decide_eq_true rfl) (by simp[Qe]) fun c hN hg=>?_
 conv in aQ _ _=>cbv
 have e2:=ay.aD hp
 have e3:=Gq p hp
 refine Qh (An @e2 @e3) ?_
 refine Xs (fun a:Nat=>a≤3∧(p.own.take (a * 6)).all kG=true) (fun a=>⟨[(8,.agg (Qp p.own)),(9,.int .i64 a)],[],0⟩) (fun a=>3 - a) LG.mixed hN
  ⟨0,⟨by omega,rfl⟩,[],by exact Qw⟩ fun a hI=>?_
 obtain ⟨ha,b8⟩:=id hI
 clear hI
 refine Qg ?_
 (refine Qa (fun h1=>?_) (fun h1=>?_)<;>try exact h1.elim)
 ·have qZ:a < 3:=by omega
  have hr:=SE p a
  have fM:=Kz p hp a qZ
  refine Qh (An @hr @hp.own) ?_
  refine Xs (fun k:Nat=>k≤6∧(p.own.take (a * 6 + k)).all kG=true) (fun k=>⟨[(8,.agg (Qp p.own)),(9,.int .i64 a),(12,.agg (Qp (p.row a))),(13,.int .i64 k)],[],0⟩) (fun k=>6 - k) LG.mixed hN
   ⟨0,⟨by omega,b8⟩,[],by exact Qw⟩ fun k hJ=>?_
  obtain ⟨hk,lB⟩:=id hJ
  clear hJ
  refine Qg ?_
  (refine Qa (fun h2=>?_) (fun h2=>?_)<;>try exact h2.elim)
  ·have nn:k < 6:=by omega
   have hv:=C2 p a k nn
   have ho:p.own[a * 6 + k]?=some (p.ow a k):=by
    unfold ay.ow
    rw[List.getD_eq_getElem?_getD,List.getElem?_eq_getElem (by rw[hp.own];omega)];rfl
   generalize p.ow a k=x at *
   refine Qh (An @fM @hv) ?_
   (refine Qa (fun h3=>?_) (fun h3=>?_)<;>try exact h3.elim)
   ·have hb:kG x=false:=h3.elim (Xw4 x) (Xw5 x)
    exact Qu (Xse p _ x ho hb)
   ·refine Qg ?_
    refine ⟨k + 1,⟨by omega,Xn1 p _ x ho lB (Xud x h3.1 h3.2)⟩,⟨[],?_⟩,by omega⟩
    exact Qw
  ·have:k=6:=by omega
   subst this
   refine Qg ?_
   refine ⟨a + 1,⟨by omega,by rw[show (a + 1) * 6=a * 6 + 6 by omega];exact lB⟩,⟨[],?_⟩,by omega⟩
   exact Qw
 ·have:a=3:=by omega
  subst this
  exact Qu (Xuo p b8 hp)
theorem SF (gl:Nat→AV) (p:ay) (hp:p.wf) (a:Int):PS Tryz.prog gl 49 [.agg p.enc,.int .i64 a] (.int .i64 (p.left a)):=by
 refine SB.ps (of_decide_eq_true rfl) (by simp[Qe]) fun c hN hg=>?_
 conv in aQ _ _=>cbv
 have e2:=ay.aD hp
 have hA:=Gp c.gl a
 by_cases ha:Wa a=true
 ·obtain ⟨b,rfl,hb⟩:=Ay a ha
  rw[ha]at hA
  have hr:=LH p hp b hb
  have fM:=Kz p hp b hb
  refine Qh @e2 ?_
  refine Jj hA ?_
  (refine Qa (fun h1=>?_) (fun h1=>?_)<;>try exact h1.elim)
  refine Qh (An @e2 @hr) ?_
  refine Xs (fun k:Nat=>k≤6) (fun k=>⟨[(5,.int .i64 (Uy ((p.row b).take k):Nat)),(13,.agg (Qp (p.row b))),(14,.int .i64 k)],[],0⟩) (fun k=>6 - k) SB.mixed hN
   ⟨0,by omega,[],by refine Qg ?_;rfl⟩ fun k hk=>?_
  refine Qg ?_
  (refine Qa (fun h2=>?_) (fun h2=>?_)<;>try exact h2.elim)
  ·have nn:k < 6:=by omega
   have hv:=C2 p b k nn
   have hs:=Lz (p.row b) k (p.ow b k) (Gl p hp b k hb nn)
   have hle:=LA (p.row b) k
   generalize p.ow b k=x at *
   refine Qh (An @fM @hv) ?_
   (refine Qa (fun h3=>?_) (fun h3=>?_)<;>try exact h3.elim)
   ·rw[if_pos h3]at hs
    refine Qg ?_
    refine ⟨k + 1,by omega,⟨[],?_⟩,by omega⟩
    exact Qu @hs
   ·rw[if_neg h3]at hs
    refine Qg ?_
    refine ⟨k + 1,by omega,⟨[],?_⟩,by omega⟩
    exact Qu @hs
  ·have:k=6:=by omega
   subst this
   have hf:p.left (b:Int)=Uy ((p.row b).take 6):=by rw[C0 p b hb,List.take_of_length_le af]
   exact Qu @hf
 ·have ha:Wa a=false:=by simpa using ha
  rw[ha]at hA
  have h0:=Xsz p a ha
  refine Qh @e2 ?_
  refine Jj hA ?_
  (refine Qa (fun h1=>?_) (fun h1=>?_)<;>try exact h1.elim)
  exact Qu @h0
theorem SG (gl:Nat→AV) (k n:Int) (hn:0 < n) (oN:n≤4611686018427387904):PS Tryz.prog gl 163 [.int .i64 k,.int .i64 n] (.int .i64 (k % n)):=by
 refine Xht.ps (of_decide_eq_true rfl) (by simp[Qe]) fun c hN hg=>?_
 conv in aQ _ _=>cbv
 have hb:=Xs4 k n hn
 have hE:=Lib.hid (Qtb k n hn)
 refine Qg ?_
 (refine Qa (fun h1=>?_) (fun h1=>?_)<;>try exact h1.elim)
 ·have e:=hE.out
  rw[if_pos h1]at e
  exact Qw
 ·have e:=hE.out
  rw[if_neg h1]at e
  exact Qw
theorem Xii (l:List Int):Uy (l.take 0)=0:=rfl
def eO (l:List Nat):List Int:=l.map fun (a:Nat)=>(a:Int)
theorem C3 (l:List Nat):(eO l).length=l.length:=by simp[eO]
theorem SH (l:List Nat) (i:Nat) (h:i < l.length):(eO l).getD i 0=((l.getD i 0:Nat):Int):=by simp[eO,List.getD,h]
theorem SI (l:List Nat) (k:Nat):eO l++[(k:Int)]=eO (l++[k]):=by simp[eO]
set_option maxHeartbeats 1000000 in
theorem Xs8 (gl:Nat→AV) (p:ay) (hp:p.wf) (draw:Int):PS Tryz.prog gl 128 [.agg p.enc,.int .i64 draw] (.aU [.int .i64 (p.pick draw).1,.int .i64 (p.pick draw).2]):=by
 refine SC.ps (of_decide_eq_true rfl) (by simp[Qe,ai]) fun c hN hg=>?_
 conv in aQ _ _=>cbv
 have e2:=ay.aD hp
 have hG:=Gr c.gl p hp
 by_cases bf:p.bR=true
 rotate_left
 ·have hr:p.pick draw=(0,2):=if_neg bf
  have bf:p.bR=false:=by simpa using bf
  rw[bf]at hG
  rw[hr]
  refine Qh @e2 ?_
  refine Xf hG @e2 ?_
  (refine Qa (fun h1=>?_) (fun h1=>?_)<;>try exact h1.elim)
  exact Qw
 have hr:p.pick draw=(if (p.opens 3).length=0 then ((0:Int),(10:Int)) else ((((p.opens 3).getD (draw % ((p.opens 3).length:Int)).toNat 0:Nat):Int),(0:Int))):=if_pos bf
 rw[bf]at hG
 rw[hr]
 clear hr
 refine Qh @e2 ?_
 refine Xf hG @e2 ?_
 (refine Qa (fun h1=>?_) (fun h1=>?_)<;>try exact h1.elim)
 refine Qg ?_
 refine xe 6 1 rfl rfl ?_
 refine Xs (fun k:Nat=>k≤3) (fun k=>⟨[(1,.int .i64 draw),(2,.ptr 0 0),(6,.sl 1 1 0 (p.opens k).length (p.opens k).length),(11,.int .i64 k)],[(0,.cells p.enc),(1,.cells (Qp (eO (p.opens k))))],2⟩) (fun k=>3 - k) SC.mixed hN
  ⟨0,by omega,[],by (have au:=@St.named.eq_1;refine XG ?_;clear au;((try (repeat' with_reducible refine And.intro ?_ ?_));(try any_goals (first|refine zm ?_|exact CL|fail))))<;>exact rfl⟩ fun k hk=>?_
 have vt:=Xvp p k
 refine Qg ?_
 (refine Qa (fun h2=>?_) (fun h2=>?_)<;>try exact h2.elim)
 ·have LI:k < 3:=by omega
  have hd:=ay.mK hp LI
  have hL:=SF c.gl p hp k
  have pM:=Xgy p k
  unfold ay.open_ at pM
  have lC:=C3 (p.opens k)
  cases sV:p.nC k with
  | true =>
   rw[sV]at hd pM
   have pM:p.opens (k + 1)=p.opens k:=by simpa using pM
   refine Qh (An @e2 @hd) ?_
   ((first|apply Ym|apply Yb)<;>(refine XG ?_;first|exact rfl|exact True.intro|((try (repeat' with_reducible refine And.intro ?_ ?_));(try any_goals (first|refine zm ?_|exact CL|fail)))))
   (refine Qa (fun h3=>?_) (fun h3=>?_)<;>try exact h3.elim)
   refine Qg ?_
   refine ⟨k + 1,by omega,⟨[],?_⟩,by omega⟩
   exact Qu @pM
  | false =>
   rw[sV]at hd pM
   refine Qh (An @e2 @hd) ?_
   refine Xf hL (An @e2 @hd) ?_
   (refine Qa (fun h3=>?_) (fun h3=>?_)<;>try exact h3.elim)
   ·have pM:p.opens (k + 1)=p.opens k++[k]:=by rw[pM];simp;omega
    have eG:=SI (p.opens k) k
    have q8:(p.opens k++[k]).length=(p.opens k).length + 1:=by simp
    refine Qg ?_
    refine Jv ?_
    refine Jd @lC ?_
    refine ⟨k + 1,by omega,⟨[(1,3)],?_⟩,by omega⟩
    exact Qu (An @pM (An @eG @q8))
   ·have pM:p.opens (k + 1)=p.opens k:=by rw[pM];simp;omega
    refine Qg ?_
    refine ⟨k + 1,by omega,⟨[],?_⟩,by omega⟩
    exact Qu @pM
 ·have:k=3:=by omega
  subst this
  have lC:=C3 (p.opens 3)
  by_cases hz:(p.opens 3).length=0
  ·rw[if_pos hz]
   refine Qg ?_
   (refine Qa (fun h3=>?_) (fun h3=>?_)<;>try exact h3.elim)
   ·exact Qw
   ·omega
  ·rw[if_neg hz]
   have hC:=SG c.gl draw (p.opens 3).length af af
   have m0:=Int.emod_nonneg draw (show ((p.opens 3).length:Int)≠0 by omega)
   have m1:=Int.emod_lt_of_pos draw (show (0:Int) < (p.opens 3).length by omega)
   have ka:=SH (p.opens 3) (draw % ((p.opens 3).length:Int)).toNat af
   generalize draw % ((p.opens 3).length:Int)=d at *
   refine Qg ?_
   (refine Qa (fun h3=>?_) (fun h3=>?_)<;>try exact h3.elim)
   ·omega
   refine Qg ?_
   exact zQ hC (An @lC @ka)
theorem SJ (p:ay) (a k:Nat) (o:Int) (h:a * 6 + k < p.own.length):p.enc.set (a * 6 + k) (.int .i64 o)=(p.put a k o).enc:=by
 unfold ay.enc ay.put
 rw[List.set_append_left _ _ (by rw[Yj];exact h)]
 simp[Qp,List.map_set]
theorem Xuz (p:ay) (hp:p.wf) (a:Nat) (to:Bool):p.enc.set (18 + a) (.bool to)=(p.oM a to).enc:=by
 unfold ay.enc ay.oM
 rw[List.set_append_right _ _ (by rw[Yj,hp.own];omega),Yj,hp.own,show 18 + a - 18=a by omega]
 simp[Zp,List.map_set]
theorem LJ (p:ay) (hp:p.wf) (a k:Nat) (ha:a < 3) (hk:k < 6):p.enc.getD (a * 6 + k) .any=.int .i64 (p.ow a k):=by
 have h:a * 6 + k < p.own.length:=by rw[hp.own];omega
 unfold ay.enc ay.ow
 rw[List.getD_eq_getElem?_getD,List.getElem?_append_left (by rw[Yj];exact h),List.getD_eq_getElem?_getD]
 simp[Qp,h]
def ur (x:ay × Int × Int):AV:=.aU [.agg x.1.enc,.int .i64 x.2.1,.int .i64 x.2.2]
def Ua (x:ay × Int):AV:=.aU [.agg x.1.enc,.int .i64 x.2]
set_option maxHeartbeats 2000000 in
theorem SM (gl:Nat→AV) (p:ay) (hp:p.wf) (s a draw:Int):PS Tryz.prog gl 129 [.agg p.enc,.int .i64 s,.int .i64 a,.int .i64 draw] (ur (p.take s a draw)):=by
 refine SD.ps (of_decide_eq_true rfl) (by simp[Qe,ai,ur,ay.b9]) fun c hN hg=>?_
 conv in aQ _ _=>cbv
 have e2:=ay.aD hp
 have hG:=Gr c.gl p hp
 have hA:=Gp c.gl a
 by_cases bf:p.bR=true
 rotate_left
 ·have hr:p.take s a draw=(p,0,2):=if_neg bf
  have bf:p.bR=false:=by simpa using bf
  rw[bf]at hG
  rw[hr]
  unfold ur
  refine Qh @e2 ?_
  refine Xf hG @e2 ?_
  (refine Qa (fun h1=>?_) (fun h1=>?_)<;>try exact h1.elim)
  exact Qu @e2
 by_cases has:Wa a=true∧0≤s∧s < 8
 rotate_left
 ·have hr:p.take s a draw=(p,0,7):=(if_pos bf).trans (if_neg has)
  rw[hr]
  rw[bf]at hG
  unfold ur
  have hb:(!Wa a || decide (s < 0) || decide (8≤s))=true:=by
   cases ha:Wa a
   ·rfl
   ·have:s < 0∨8≤s:=by
     by_cases h1:s < 0
     ·exact .inl h1
     ·exact .inr (by have:¬ (0≤s∧s < 8):=fun h=>has ⟨ha,h⟩;omega)
    simpa using this
  refine Qh @e2 ?_
  refine Xf hG @e2 ?_
  (refine Qa (fun h1=>?_) (fun h1=>?_)<;>try exact h1.elim)
  refine Qh @e2 ?_
  refine Xf hA (An @e2 @hb) ?_
  (refine Qa (fun h2=>?_) (fun h2=>?_)<;>try exact h2.elim)
  exact Qu @e2
 obtain ⟨ha,kX,iA⟩:=has
 obtain ⟨b,rfl,hb⟩:=Ay a ha
 have hd:=ay.mK hp hb
 have hL:=SF c.gl p hp b
 by_cases gJ:p.nC b=true
 ·have hr:p.take s b draw=(p,0,9):=(if_pos bf).trans ((if_pos ⟨ha,kX,iA⟩).trans (if_pos (by rw[Int.toNat_natCast];exact gJ)))
  rw[hr]
  rw[bf]at hG
  rw[ha]at hA
  rw[gJ]at hd
  unfold ur
  refine Qh @e2 ?_
  refine Xf hG @e2 ?_
  (refine Qa (fun h1=>?_) (fun h1=>?_)<;>try exact h1.elim)
  refine Qh @e2 ?_
  refine Xf hA @e2 ?_
  (refine Qa (fun h2=>?_) (fun h2=>?_)<;>try exact h2.elim)
  ·omega
  refine Qh (An @e2 @hd) ?_
  (refine Qa (fun h3=>?_) (fun h3=>?_)<;>try exact h3.elim)
  exact Qu @e2
 have gJ:p.nC b=false:=by simpa using gJ
 by_cases uu:p.left b=0
 ·have hr:p.take s b draw=(p,0,10):=(if_pos bf).trans ((if_pos ⟨ha,kX,iA⟩).trans ((if_neg (by rw[Int.toNat_natCast,gJ];simp)).trans (if_pos uu)))
  rw[hr]
  rw[bf]at hG
  rw[ha]at hA
  rw[gJ]at hd
  rw[uu]at hL
  unfold ur
  refine Qh @e2 ?_
  refine Xf hG @e2 ?_
  (refine Qa (fun h1=>?_) (fun h1=>?_)<;>try exact h1.elim)
  refine Qh @e2 ?_
  refine Xf hA @e2 ?_
  (refine Qa (fun h2=>?_) (fun h2=>?_)<;>try exact h2.elim)
  ·omega
  refine Qh (An @e2 @hd) ?_
  (refine Qa (fun h3=>?_) (fun h3=>?_)<;>try exact h3.elim)
  refine Qh @e2 ?_
  refine Xf hL @e2 ?_
  (refine Qa (fun h4=>?_) (fun h4=>?_)<;>try exact h4.elim)
  exact Qu @e2
 have hr:p.take s b draw=(p.put b (p.jQ b draw) (s + 1),((p.jQ b draw:Nat):Int),0):=(if_pos bf).trans ((if_pos ⟨ha,kX,iA⟩).trans ((if_neg (by rw[Int.toNat_natCast,gJ];simp)).trans ((if_neg uu).trans (by rw[Int.toNat_natCast]))))
 rw[hr]
 rw[bf]at hG
 rw[ha]at hA
 rw[gJ]at hd
 clear hr
 have hC:=SG c.gl draw (p.left b) af (by have:=C0 p b hb;have:=LA (p.row b) 6;rw[List.take_of_length_le (by rw[Kz p hp b hb];omega)]at this;omega)
 have m0:=Int.emod_nonneg draw (show (p.left b:Int)≠0 by omega)
 have m1:=Int.emod_lt_of_pos draw (show (0:Int) < p.left b by omega)
 have LK:∀ i,i < 6→p.ow b i=0→(Uy ((p.row b).take i):Int)=draw % (p.left b:Int)→p.jQ b draw=i:=fun i hi h0 he=>by
  have h1:=Su (p.row b) i (by rw[Kz p hp b hb];exact hi) (by rw[Gl p hp b i hb hi,h0]) 6 hi
  unfold ay.jQ
  rw[← he,Int.toNat_natCast,List.getD_eq_getElem?_getD,h1];rfl
 have hl6:p.left b≤6:=by
  have h1:=C0 p b hb
  have h2:=LA (p.row b) 6
  rw[List.take_of_length_le (by rw[Kz p hp b hb];omega)]at h2;omega
 have pB:((Uy []:Nat):Int)=0:=rfl
 have hlf:Uy ((p.row b).take 6)=p.left b:=by rw[C0 p b hb,List.take_of_length_le (by rw[Kz p hp b hb];omega)]
 generalize draw % (p.left b:Int)=D at *
 have AD:=LH p hp b hb
 have fM:=Kz p hp b hb
 unfold ur
 refine Qh @e2 ?_
 refine Xf hG @e2 ?_
 (refine Qa (fun h1=>?_) (fun h1=>?_)<;>try exact h1.elim)
 refine Qh @e2 ?_
 refine Xf hA @e2 ?_
 (refine Qa (fun h2=>?_) (fun h2=>?_)<;>try exact h2.elim)
 ·omega
 refine Qh (An @e2 @hd) ?_
 (refine Qa (fun h3=>?_) (fun h3=>?_)<;>try exact h3.elim)
 refine Qh @e2 ?_
 refine Xf hL @e2 ?_
 (refine Qa (fun h4=>?_) (fun h4=>?_)<;>try exact h4.elim)
 ·omega
 refine Qh @e2 ?_
 refine Xf hL @e2 ?_
 refine Xf hC @e2 ?_
 refine Qh (An @e2 @AD) ?_
 have LL:∀ i,i < 6→b * 6 + i < p.own.length:=fun i hi=>by rw[hp.own];omega
 refine Xs (fun i:Nat=>i≤6∧(Uy ((p.row b).take i):Int)≤D) (fun i=>⟨[(1,.int .i64 s),(2,.int .i64 b),(4,.ptr 0 0),(8,.ptr 1 0),(11,.int .i64 (D - (Uy ((p.row b).take i):Nat))),(52,.agg (Qp (p.row b))),(53,.int .i64 i)],[(0,.cells p.enc),(1,.cells [.int .i64 0,.int .i64 0,.int .i64 0,.int .i64 0,.int .i64 0,.int .i64 0,.int .i64 0,.int .i64 0,.int .i64 0,.int .i64 0,.int .i64 0,.int .i64 0,.int .i64 0,.int .i64 0,.int .i64 0,.int .i64 0,.int .i64 0,.int .i64 0,.bool false,.bool false,.bool false])],2⟩) (fun i=>6 - i) SD.mixed hN
  ⟨0,⟨by omega,by rw[Xii];omega⟩,[],by exact Qu (An @pB @Int.sub_zero)⟩ fun i hI=>?_
 obtain ⟨hi,hle⟩:=id hI
 clear hI
 refine Qg ?_
 (refine Qa (fun h5=>?_) (fun h5=>?_)<;>try exact h5.elim)
 ·have Gs:i < 6:=by omega
  have hv:=C2 p b i Gs
  have hs:=Lz (p.row b) i (p.ow b i) (Gl p hp b i hb Gs)
  have hk2:=LK i Gs
  have xE:=SJ p b i (s + 1) (LL i Gs)
  generalize p.ow b i=x at *
  refine Qh (An @fM @hv) ?_
  (refine Qa (fun h6=>?_) (fun h6=>?_)<;>try exact h6.elim)
  ·rw[if_neg h6]at hs
   refine Qg ?_
   refine ⟨i + 1,⟨by omega,by rw[hs];omega⟩,⟨[],?_⟩,by omega⟩
   exact Qu @hs
  ·rw[if_pos h6]at hs
   refine Qg ?_
   (refine Qa (fun h7=>?_) (fun h7=>?_)<;>try exact h7.elim)
   ·have LI:=hk2 h6 af
    rw[LI]
    have e3:=ay.aD (p.de hp b i (s + 1))
    exact Qu (An @e2 (An @xE @e3))
   ·refine Qg ?_
    refine ⟨i + 1,⟨by omega,by rw[hs];omega⟩,⟨[],?_⟩,by omega⟩
    exact Qu @hs
 ·have:i=6:=by omega
  subst this
  omega
set_option maxHeartbeats 2000000 in
theorem Xvz (gl:Nat→AV) (p:ay) (hp:p.wf) (s a b:Int) (wK:s≤9223372036854775806):PS Tryz.prog gl 142 [.agg p.enc,.int .i64 s,.int .i64 a,.int .i64 b] (Ua (p.bX s a b)):=by
 refine Xwo.ps (of_decide_eq_true rfl) (by simp[Qe,ai,Ua,ay.b9]) fun c hN hg=>?_
 conv in aQ _ _=>cbv
 have e2:=ay.aD hp
 have hG:=Gr c.gl p hp
 have hA:=Gp c.gl a
 by_cases bf:p.bR=true
 rotate_left
 ·have hr:p.bX s a b=(p,2):=if_neg bf
  have bf:p.bR=false:=by simpa using bf
  rw[bf]at hG
  rw[hr]
  unfold Ua
  refine Qh @e2 ?_
  refine Xf hG @e2 ?_
  (refine Qa (fun h1=>?_) (fun h1=>?_)<;>try exact h1.elim)
  exact Qu @e2
 rw[bf]at hG
 by_cases aI:Wa a=true∧0≤b∧b < 6∧0≤s
 rotate_left
 ·have hr:p.bX s a b=(p,7):=(if_pos bf).trans (if_neg fun h=>aI ⟨h.1,h.2.1,h.2.2.1,h.2.2.2.1⟩)
  rw[hr]
  unfold Ua
  have hb:(!Wa a || decide (b < 0) || decide (6≤b) || decide (s < 0))=true:=by
   cases ha:Wa a
   ·rfl
   ·have:(b < 0∨6≤b)∨s < 0:=by
     have:¬ (0≤b∧b < 6∧0≤s):=fun h=>aI ⟨ha,h⟩
     omega
    simpa using this
  refine Qh @e2 ?_
  refine Xf hG @e2 ?_
  (refine Qa (fun h1=>?_) (fun h1=>?_)<;>try exact h1.elim)
  refine Qh @e2 ?_
  refine Xf hA (An @e2 @hb) ?_
  (refine Qa (fun h2=>?_) (fun h2=>?_)<;>try exact h2.elim)
  exact Qu @e2
 obtain ⟨ha,vC,fO,kX⟩:=aI
 rw[ha]at hA
 obtain ⟨a,rfl,qZ⟩:=Ay a ha
 obtain ⟨b,rfl⟩:=Int.eq_ofNat_of_zero_le vC
 have hb6:b < 6:=by omega
 have LM:=LJ p hp a b qZ hb6
 have xE:=SJ p a b 0 (by rw[hp.own];omega)
 have e3:=ay.aD (p.de hp a b 0)
 by_cases ho:p.ow a b=s + 1
 ·have hr:p.bX s a b=(p.put a b 0,0):=(if_pos bf).trans (if_pos ⟨ha,vC,fO,kX,by rw[Int.toNat_natCast,Int.toNat_natCast];exact ho⟩)
  rw[hr]
  rw[ho]at LM
  unfold Ua
  refine Qh @e2 ?_
  refine Xf hG @e2 ?_
  (refine Qa (fun h1=>?_) (fun h1=>?_)<;>try exact h1.elim)
  refine Qh @e2 ?_
  refine Xf hA (An @e2 @LM) ?_
  (refine Qa (fun h2=>?_) (fun h2=>?_)<;>try exact h2.elim)
  ·omega
  exact Qu (An @e2 (An @xE @e3))
 ·have hr:p.bX s a b=(p,7):=(if_pos bf).trans (if_neg fun h=>ho (by have:=h.2.2.2.2;rwa [Int.toNat_natCast,Int.toNat_natCast]at this))
  rw[hr]
  unfold Ua
  generalize p.ow a b=o at *
  refine Qh @e2 ?_
  refine Xf hG @e2 ?_
  (refine Qa (fun h1=>?_) (fun h1=>?_)<;>try exact h1.elim)
  refine Qh @e2 ?_
  refine Xf hA (An @e2 @LM) ?_
  (refine Qa (fun h2=>?_) (fun h2=>?_)<;>try exact h2.elim)
  ·exact Qu @e2
  ·omega
theorem SN (gl:Nat→AV) (p:ay) (hp:p.wf) (a:Int) (to:Bool):PS Tryz.prog gl 103 [.agg p.enc,.int .i64 a,.bool to] (Ua (p.drain a to)):=by
 refine Xjs.ps (of_decide_eq_true rfl) (by simp[Qe,ai,Ua,ay.b9]) fun c hN hg=>?_
 conv in aQ _ _=>cbv
 have e2:=ay.aD hp
 have hA:=Gp c.gl a
 by_cases ha:Wa a=true
 rotate_left
 ·have hr:p.drain a to=(p,7):=if_neg ha
  have ha:Wa a=false:=by simpa using ha
  rw[ha]at hA
  rw[hr]
  unfold Ua
  refine Qh @e2 ?_
  refine Xf hA @e2 ?_
  (refine Qa (fun h1=>?_) (fun h1=>?_)<;>try exact h1.elim)
  exact Qu @e2
 rw[ha]at hA
 obtain ⟨a,rfl,qZ⟩:=Ay a ha
 have hd:=ay.mK hp qZ
 have xE:=Xuz p hp a to
 have e3:=ay.aD (p.nD hp a to)
 by_cases Gt:p.nC a=to
 ·have hr:p.drain a to=(p,8):=(if_pos ha).trans (if_pos (by rw[Int.toNat_natCast];exact Gt))
  rw[hr]
  rw[Gt]at hd
  unfold Ua
  refine Qh @e2 ?_
  refine Xf hA @e2 ?_
  (refine Qa (fun h1=>?_) (fun h1=>?_)<;>try exact h1.elim)
  refine Qh (An @e2 @hd) ?_
  (refine Qa (fun h2=>?_) (fun h2=>?_)<;>try exact h2.elim)
  exact Qu @e2
 ·have hr:p.drain a to=(p.oM a to,0):=(if_pos ha).trans ((if_neg (by rw[Int.toNat_natCast];exact Gt)).trans (by rw[Int.toNat_natCast]))
  rw[hr]
  unfold Ua
  generalize p.nC a=d at *
  refine Qh @e2 ?_
  refine Xf hA @e2 ?_
  (refine Qa (fun h1=>?_) (fun h1=>?_)<;>try exact h1.elim)
  refine Qh (An @e2 @hd) ?_
  (refine Qa (fun h2=>?_) (fun h2=>?_)<;>try exact h2.elim)
  ·exact (Gt h2).elim
  exact Qu (An @e2 (An @xE @e3))
theorem SO (gl:Nat→AV) (p:ay) (hp:p.wf) (a:Int):PS Tryz.prog gl 61 [.agg p.enc,.int .i64 a] (Ua (p.drain a true)):=by
 refine Xq8.ps (of_decide_eq_true rfl) (by simp[Qe,ai,Ua,ay.b9]) fun c hN hg=>?_
 conv in aQ _ _=>cbv
 have e2:=ay.aD hp
 have hD:=SN c.gl p hp a true
 have e3:=ay.aD (p.dZ hp a true)
 unfold Ua at hD ⊢
 refine Qh @e2 ?_
 exact zQ hD (An @e2 @e3)
theorem Qyo (gl:Nat→AV) (p:ay) (hp:p.wf) (a:Int):PS Tryz.prog gl 62 [.agg p.enc,.int .i64 a] (Ua (p.drain a false)):=by
 refine Xb2.ps (of_decide_eq_true rfl) (by simp[Qe,ai,Ua,ay.b9]) fun c hN hg=>?_
 conv in aQ _ _=>cbv
 have e2:=ay.aD hp
 have hD:=SN c.gl p hp a false
 have e3:=ay.aD (p.dZ hp a false)
 unfold Ua at hD ⊢
 refine Qh @e2 ?_
 exact zQ hD (An @e2 @e3)
def uv (port:Int):AV:=.aU [.int .i64 (Xk port),.int .i64 (if Js port=true then (port - 1024) % 8 else 0),.bool (Js port)]
theorem C4 (gl:Nat→AV) (port:Int) (hp:-9223372036854775808≤port∧port≤9223372036854775807):PS Tryz.prog gl 56 [.int .i64 port] (uv port):=by
 refine Xr3.ps (of_decide_eq_true rfl) (by simp[uv,Qe,ai]) fun c hN hg=>?_
 conv in aQ _ _=>cbv
 by_cases h:Js port=true
 ·have h':=h
  unfold Js at h'
  simp at h'
  have e1:(port - 1024).tdiv 8=(port - 1024) / 8:=Int.tdiv_eq_ediv_of_nonneg af
  have e2:(port - 1024).tmod 8=(port - 1024) % 8:=Int.tmod_eq_emod_of_nonneg af
  unfold uv Xk
  rw[if_pos h,if_pos h,h]
  refine Qg ?_
  (refine Qa (fun h1=>?_) (fun h1=>?_)<;>try exact h1.elim)
  ·omega
  exact Qu (An @e1 @e2)
 ·have h':=h
  unfold Js at h'
  simp at h'
  have hb:Js port=false:=by simpa using h
  unfold uv Xk
  rw[if_neg h,if_neg h,hb]
  by_cases fw:port < 1024
  ·have d1:decide (port < 1024)=true:=by simpa using fw
   have e0:∃ x,IntKind.i64.wrap (port - 1024)=x:=⟨_,rfl⟩
   obtain ⟨x,hx⟩:=e0
   refine Qh (An @d1 @hx) ?_
   (refine Qa (fun h1=>?_) (fun h1=>?_)<;>try exact h1.elim)
   exact Qw
  ·refine Qg ?_
   (refine Qa (fun h1=>?_) (fun h1=>?_)<;>try exact h1.elim)
   ·exact Qw
   ·omega
theorem LN (gl:Nat→AV) (ae s aR:Int):PS Tryz.prog gl 81 [.int .i64 ae,.int .i64 s,.int .i64 aR] (.bool (Jm ae s aR)):=by
 refine Xj5.ps (of_decide_eq_true rfl) (by simp[Qe]) fun c hN hg=>?_
 conv in aQ _ _=>cbv
 unfold Jm
 exact Qw
set_option maxHeartbeats 1000000 in
theorem SP (gl:Nat→AV) (t:Tb) (ht:t.wf) (hl:t.maps.length≤4611686018427387904) (ae s aR:Int):PS Tryz.prog gl 40 [.agg t.enc,.int .i64 ae,.int .i64 s,.int .i64 aR] (mL (t.maps.find? (Zi ae s aR))):=by
 refine Sx.ps (of_decide_eq_true rfl) (by cases t.maps.find? (Zi ae s aR)<;>simp[mL,Qe,ai,Mp.enc]) fun c hN hg=>?_
 conv in aQ _ _=>cbv
 have e2:=Tb.aD ht
 have e3:=Tb.cO ht
 have aJ:=Jp t.maps
 generalize hR:t.maps.find? (Zi ae s aR)=R
 refine Qh (An @e2 @e3) ?_
 refine Xs (fun k:Nat=>k≤t.maps.length∧(t.maps.drop k).find? (Zi ae s aR)=R) (fun k=>⟨[(1,.int .i64 ae),(2,.int .i64 s),(3,.int .i64 aR),(8,.ptr 1 0),(13,.isl t.maps.length (cq t.maps)),(14,.int .i64 t.maps.length),(15,.int .i64 k)],[(0,.cells t.enc),(1,.cells [.int .i64 0,.int .i64 0,.int .i64 0,.int .i64 0,.int .i64 0])],2⟩) (fun k=>t.maps.length - k) Sx.mixed hN
  ⟨0,⟨by omega,by rw[List.drop_zero];exact hR⟩,[],by exact Qw⟩ fun k hI=>?_
 obtain ⟨hk,hf⟩:=id hI
 clear hI
 refine Qg ?_
 (refine Qa (fun h1=>?_) (fun h1=>?_)<;>try exact h1.elim)
 ·have bF:k < t.maps.length:=by omega
  have a8:=vK t.maps k bF
  rw[List.drop_eq_getElem_cons bF,List.find?_cons]at hf
  generalize t.maps[k]=m at *
  obtain ⟨mp,ms,mi,ma,mt⟩:=m
  unfold Zi at hf
  simp only[Mp.enc]at a8
  dsimp only at hf
  refine Qh (An @aJ @a8) ?_
  (refine Qa (fun h2=>?_) (fun h2=>?_)<;>try exact h2.elim)
  ·have hc:(mp == ae && ms == s && mi == aR)=true:=by simp[h2]
   rw[hc]at hf
   dsimp only at hf
   subst hf
   unfold mL Mp.enc
   exact Qw
  ·have hc:(mp == ae && ms == s && mi == aR)=false:=by
    cases hb:(mp == ae && ms == s && mi == aR)
    ·rfl
    ·simp at hb;omega
   rw[hc]at hf
   dsimp only at hf
   refine Qg ?_
   refine ⟨k + 1,⟨by omega,hf⟩,⟨[],?_⟩,by omega⟩
   exact Qw
 ·have:k=t.maps.length:=by omega
  subst this
  rw[List.drop_length]at hf
  subst hf
  unfold mL ff Mp.enc
  refine Qg ?_
  exact rfl
set_option maxHeartbeats 1000000 in
theorem SQ (gl:Nat→AV) (t:Tb) (ht:t.wf) (hl:t.maps.length≤4611686018427387904) (ae a port:Int):PS Tryz.prog gl 42 [.agg t.enc,.int .i64 ae,.int .i64 a,.int .i64 port] (mL (t.maps.find? (Wc ae a port))):=by
 refine Sy.ps (of_decide_eq_true rfl) (by cases t.maps.find? (Wc ae a port)<;>simp[mL,Qe,ai,Mp.enc]) fun c hN hg=>?_
 conv in aQ _ _=>cbv
 have e2:=Tb.aD ht
 have e3:=Tb.cO ht
 have aJ:=Jp t.maps
 generalize hR:t.maps.find? (Wc ae a port)=R
 refine Qh (An @e2 @e3) ?_
 refine Xs (fun k:Nat=>k≤t.maps.length∧(t.maps.drop k).find? (Wc ae a port)=R) (fun k=>⟨[(1,.int .i64 ae),(2,.int .i64 a),(3,.int .i64 port),(8,.ptr 1 0),(13,.isl t.maps.length (cq t.maps)),(14,.int .i64 t.maps.length),(15,.int .i64 k)],[(0,.cells t.enc),(1,.cells [.int .i64 0,.int .i64 0,.int .i64 0,.int .i64 0,.int .i64 0])],2⟩) (fun k=>t.maps.length - k) Sy.mixed hN
  ⟨0,⟨by omega,by rw[List.drop_zero];exact hR⟩,[],by exact Qw⟩ fun k hI=>?_
 obtain ⟨hk,hf⟩:=id hI
 clear hI
 refine Qg ?_
 (refine Qa (fun h1=>?_) (fun h1=>?_)<;>try exact h1.elim)
 ·have bF:k < t.maps.length:=by omega
  have a8:=vK t.maps k bF
  rw[List.drop_eq_getElem_cons bF,List.find?_cons]at hf
  generalize t.maps[k]=m at *
  obtain ⟨mp,ms,mi,ma,mt⟩:=m
  unfold Wc at hf
  simp only[Mp.enc]at a8
  dsimp only at hf
  refine Qh (An @aJ @a8) ?_
  (refine Qa (fun h2=>?_) (fun h2=>?_)<;>try exact h2.elim)
  ·have hc:(mp == ae && ma == a && mt == port)=true:=by simp[h2]
   rw[hc]at hf
   dsimp only at hf
   subst hf
   unfold mL Mp.enc
   exact Qw
  ·have hc:(mp == ae && ma == a && mt == port)=false:=by
    cases hb:(mp == ae && ma == a && mt == port)
    ·rfl
    ·simp at hb;omega
   rw[hc]at hf
   dsimp only at hf
   refine Qg ?_
   refine ⟨k + 1,⟨by omega,hf⟩,⟨[],?_⟩,by omega⟩
   exact Qw
 ·have:k=t.maps.length:=by omega
  subst this
  rw[List.drop_length]at hf
  subst hf
  unfold mL ff Mp.enc
  refine Qg ?_
  exact rfl
theorem Tb.uw {t:Tb} (h:t.wf) {a:Nat} (ha:a < 3):(t.enc.drop (a * 6)).take 6=Qp (t.aq.row a):=by
 have e:=LH t.aq h.aq a ha
 unfold Tb.enc Tb.hd
 rw[List.append_assoc,List.drop_append_of_le_length (by rw[ay.aD h.aq];omega),List.take_append_of_le_length (by rw[List.length_drop,ay.aD h.aq];omega),e]
def Wi (t:Tb) (s n:Nat):List Nat:=(List.range n).filter fun k=>t.aq.ow (t.bC s - 1).toNat k == (s:Int) + 1
theorem Xoq (t:Tb) (s n:Nat):Wi t s (n + 1)=Wi t s n++if t.aq.ow (t.bC s - 1).toNat n=(s:Int) + 1 then [n] else []:=by
 unfold Wi;rw[List.range_succ,List.filter_append];simp[List.filter_cons]
theorem SR (t:Tb) (s n:Nat):(Wi t s n).length≤n:=by
 have:=List.length_filter_le (fun k=>t.aq.ow (t.bC s - 1).toNat k == (s:Int) + 1) (List.range n);simpa [Wi] using this
def vM (t:Tb) (s:Nat):AV:=if 1≤t.bC s then .isl (Wi t s 6).length (Qp (eO (Wi t s 6))) else .nils
theorem Ybi (n:Nat) (t:Tb) (s:Nat):Qe n (vM t s):=by unfold vM;split<;>simp[Qe,zG]
set_option maxHeartbeats 1000000 in
theorem SS (gl:Nat→AV) (t:Tb) (ht:t.wf) (s:Nat) (hs:s < 8) (h3:0≤t.bC s∧t.bC s≤3):PS Tryz.prog gl 126 [.agg t.enc,.int .i64 s] (vM t s):=by
 refine Sz.ps (of_decide_eq_true rfl) (Ybi 0 t s) fun c hN hg=>?_
 conv in aQ _ _=>cbv
 have e2:=Tb.aD ht
 have eh:=Tb.gn ht hs
 by_cases h1:1≤t.bC s
 rotate_left
 ·have hr:vM t s=.nils:=if_neg h1
  rw[hr]
  generalize t.bC s=h at *
  refine Qh (An @e2 @eh) ?_
  (refine Qa (fun g1=>?_) (fun g1=>?_)<;>try exact g1.elim)
  ·omega
  exact Qw
 have hr:vM t s=.isl (Wi t s 6).length (Qp (eO (Wi t s 6))):=if_pos h1
 rw[hr]
 obtain ⟨a,ha⟩:=Int.eq_ofNat_of_zero_le (show 0≤t.bC s - 1 by omega)
 have qZ:a < 3:=by omega
 have Af:(t.bC s - 1).toNat=a:=by omega
 have AD:=Tb.uw ht qZ
 have fM:=Kz t.aq ht.aq a qZ
 have vN:=Xoq t s
 have hle:=SR t s
 rw[Af]at vN
 have h0:Wi t s 0=[]:=rfl
 generalize Wi t s=W at *
 generalize t.bC s=h at *
 refine Qh (An @e2 (An @eh @ha)) ?_
 (refine Qa (fun g1=>?_) (fun g1=>?_)<;>try exact g1.elim)
 rotate_left
 ·omega
 refine Qh (An @e2 @AD) ?_
 refine xe 5 1 rfl rfl ?_
 refine Xs (fun k:Nat=>k≤6) (fun k=>⟨[(1,.int .i64 s),(5,.sl 1 1 0 (W k).length (W k).length),(20,.agg (Qp (t.aq.row a))),(21,.int .i64 k)],[(0,.cells t.enc),(1,.cells (Qp (eO (W k))))],2⟩) (fun k=>6 - k) Sz.mixed hN
  ⟨0,by omega,[],by refine Qh (An @St.named.eq_1 @h0) ?_<;>exact rfl⟩ fun k hk=>?_
 have lT:=hle k
 have lC:=C3 (W k)
 refine Qg ?_
 (refine Qa (fun g2=>?_) (fun g2=>?_)<;>try exact g2.elim)
 ·have nn:k < 6:=by omega
  have hv:=C2 t.aq a k nn
  have vO:=vN k
  generalize t.aq.ow a k=x at *
  refine Qh (An @fM @hv) ?_
  (refine Qa (fun g3=>?_) (fun g3=>?_)<;>try exact g3.elim)
  ·have vO:W (k + 1)=W k++[k]:=by rw[vO,if_pos g3]
   have eG:=SI (W k) k
   have q8:(W k++[k]).length=(W k).length + 1:=by simp
   refine Qg ?_
   refine Jv ?_
   refine Jd @lC ?_
   refine ⟨k + 1,by omega,⟨[(1,3)],?_⟩,by omega⟩
   exact Qu (An @vO (An @eG @q8))
  ·have vO:W (k + 1)=W k:=by rw[vO,if_neg g3,List.append_nil]
   refine Qg ?_
   refine ⟨k + 1,by omega,⟨[],?_⟩,by omega⟩
   exact Qu @vO
 ·have:k=6:=by omega
  subst this
  exact Qu @lC
def C5 (m:Mp):Prop:=(-9223372036854775808≤m.ae∧m.ae≤9223372036854775807)∧(-9223372036854775808≤m.s∧m.s≤9223372036854775807)∧(-9223372036854775808≤m.aR∧m.aR≤9223372036854775807)∧(-9223372036854775808≤m.a∧m.a≤9223372036854775807)∧(-9223372036854775808≤m.port∧m.port≤9223372036854775807)
structure Tb.ok (t:Tb):Prop where
 wf:t.wf
 bd:∀ m ∈ t.maps,C5 m
 len:t.maps.length≤4611686018427387904
def Zj (m:Mp):Nat:=m.a.toNat * 6 + (Xk m.port).toNat
def oO (l:List Mp):List Bool:=l.foldl (fun u m=>u.set (Zj m) true) (List.replicate 18 false)
def kH (l:List Mp):List Int:=l.foldl (fun u m=>u.set m.s.toNat (u.getD m.s.toNat 0 + 1)) (List.replicate 8 0)
def Wx (l:List Int):List Int:=l.foldl (fun u o=>if o=0 then u else u.set (o - 1).toNat (u.getD (o - 1).toNat 0 + 1)) (List.replicate 8 0)
def xF (t:Tb) (m:Mp):Prop:=Jm m.ae m.s m.aR=true∧Js m.port=true∧0≤m.a∧m.a < 3
def nG (t:Tb) (m:Mp):Prop:=xF t m∧t.bC m.s.toNat=m.a + 1∧t.aq.ow m.a.toNat (Xk m.port).toNat=m.s + 1
def Zy (m o:Mp):Bool:=o.ae == m.ae && (o.a == m.a && o.port == m.port || o.s == m.s && o.aR == m.aR)
structure dB (t:Tb):Prop where
 aq:t.aq.bR=true
 maps:∀ i (h:i < t.maps.length),nG t t.maps[i]
 apart:∀ i j (hi:i < t.maps.length) (hj:j < i),Zy t.maps[i] (t.maps[j]'af)=false
 used:∀ i,i < 18→(t.aq.own.getD i 0 != 0)=(oO t.maps).getD i false
 lD:∀ s,s < 8→(Wx t.aq.own).getD s 0≤2∧(kH t.maps).getD s 0≤12∧((t.bC s != 0)=decide (0 < (Wx t.aq.own).getD s 0))
open Classical in
noncomputable def Wu (t:Tb):Bool:=decide (dB t)
theorem Xhc (l:List Mp) (m:Mp):oO (l++[m])=(oO l).set (Zj m) true:=by unfold oO;rw[List.foldl_append];rfl
theorem Xfw (l:List Mp) (m:Mp):kH (l++[m])=(kH l).set m.s.toNat ((kH l).getD m.s.toNat 0 + 1):=by unfold kH;rw[List.foldl_append];rfl
theorem Xpt (l:List Int) (o:Int):Wx (l++[o])=if o=0 then Wx l else (Wx l).set (o - 1).toNat ((Wx l).getD (o - 1).toNat 0 + 1):=by unfold Wx;rw[List.foldl_append];rfl
theorem Gu {α β:Type} (f:List α→β→List α) (hf:∀ u b,(f u b).length=u.length):∀ (l:List β) (u:List α),(l.foldl f u).length=u.length
 | [],_=>rfl
 | b::l,u=>by rw[List.foldl_cons,Gu f hf l,hf]
theorem Xmd (l:List Mp):(oO l).length=18:=by unfold oO;rw[Gu _ (fun u b=>List.length_set ..)];rfl
theorem Xqw (l:List Mp):(kH l).length=8:=by unfold kH;rw[Gu _ (fun u b=>List.length_set ..)];rfl
theorem SU (l:List Int):(Wx l).length=8:=by unfold Wx;rw[Gu _ (fun u b=>by split<;>simp)];rfl
theorem SV {β:Type} (ix:β→Nat) (skip:β→Bool) (l:List β) (s:Nat):∀ u:List Int,(l.foldl (fun u b=>if skip b=true then u else u.set (ix b) (u.getD (ix b) 0 + 1)) u).getD s 0≤u.getD s 0 + l.length∧u.getD s 0≤(l.foldl (fun u b=>if skip b=true then u else u.set (ix b) (u.getD (ix b) 0 + 1)) u).getD s 0:=by
 induction l with
 | nil=>intro u;simp
 | cons b l ih =>
  intro u
  rw[List.foldl_cons]
  have h:=ih (if skip b=true then u else u.set (ix b) (u.getD (ix b) 0 + 1))
  have hu:(if skip b=true then u else u.set (ix b) (u.getD (ix b) 0 + 1)).getD s 0≤u.getD s 0 + 1∧u.getD s 0≤(if skip b=true then u else u.set (ix b) (u.getD (ix b) 0 + 1)).getD s 0:=by
   split
   ·omega
   ·by_cases hs:ix b=s
    ·subst hs
     by_cases hl:ix b < u.length
     ·simp[List.getD,hl];omega
     ·simp[List.getD,Nat.le_of_not_lt hl]
    ·simp[List.getD,List.getElem?_set_ne hs];omega
  rw[List.length_cons]
  omega
theorem C6 (n s:Nat):(List.replicate n (0:Int)).getD s 0=0:=by
 rw[List.getD_eq_getElem?_getD,List.getElem?_replicate];split<;>rfl
theorem SW (l:List Mp) (s:Nat):0≤(kH l).getD s 0∧(kH l).getD s 0≤l.length:=by
 have:=SV (fun m:Mp=>m.s.toNat) (fun _=>false) l s (List.replicate 8 0)
 rw[C6,Int.zero_add]at this
 have e:kH l=l.foldl (fun u b=>if (fun _:Mp=>false) b=true then u else u.set ((fun m:Mp=>m.s.toNat) b) (u.getD ((fun m:Mp=>m.s.toNat) b) 0 + 1)) (List.replicate 8 0):=rfl
 rw[e]
 exact ⟨this.2,this.1⟩
theorem SX (l:List Int) (s:Nat):0≤(Wx l).getD s 0∧(Wx l).getD s 0≤l.length:=by
 have:=SV (fun o:Int=>(o - 1).toNat) (fun o=>o == 0) l s (List.replicate 8 0)
 rw[C6,Int.zero_add]at this
 have e:Wx l=l.foldl (fun u b=>if (fun o:Int=>o == 0) b=true then u else u.set ((fun o:Int=>(o - 1).toNat) b) (u.getD ((fun o:Int=>(o - 1).toNat) b) 0 + 1)) (List.replicate 8 0):=by
  unfold Wx
  congr 1
  funext u o
  simp
 rw[e]
 exact ⟨this.2,this.1⟩
theorem Tb.xG {t:Tb} (h:t.wf) {a k:Nat} (ha:a < 3) (hk:k < 6):t.enc.getD (a * 6 + k) .any=.int .i64 (t.aq.ow a k):=by
 have e:=LJ t.aq h.aq a k ha hk
 unfold Tb.enc Tb.hd
 rw[List.append_assoc,List.getD_eq_getElem?_getD,List.getElem?_append_left (by rw[ay.aD h.aq];omega),← List.getD_eq_getElem?_getD]
 exact e
open Classical in
theorem LO {t:Tb} (h:dB t):Wu t=true:=decide_eq_true h
open Classical in
theorem AE {t:Tb} (h:¬ dB t):Wu t=false:=decide_eq_false h
theorem Wd {p s i:Int} (h:Jm p s i=true):(p=1∨p=6∨p=17)∧(0≤s∧s < 8)∧(0≤i∧i≤65535):=by
 unfold Jm at h
 simp at h
 omega
theorem LP {port:Int} (h:Js port=true):0≤Xk port∧Xk port < 6∧(1024≤port∧port < 1072):=by
 have h':=h
 unfold Js at h'
 simp at h'
 unfold Xk
 rw[if_pos h];omega
set_option maxHeartbeats 8000000 in
set_option maxRecDepth 20000 in
theorem AF (gl:Nat→AV) (t:Tb) (ht:t.ok):PS Tryz.prog gl 52 [.agg t.enc] (.bool (Wu t)):=by
 refine Az.ps (of_decide_eq_true rfl) (by simp[Qe]) fun c hN hg=>?_
 conv in aQ _ _=>cbv
 have e2:=Tb.aD ht.wf
 have e3:=Tb.cO ht.wf
 have e4:=Tb.eX ht.wf
 have hG:=Gr c.gl t.aq ht.wf.aq
 have aJ:=Jp t.maps
 have hlen:=ht.len
 by_cases bf:t.aq.bR=true
 rotate_left
 ·have hr:=AE (t:=t) fun h=>bf h.aq
  have bf:t.aq.bR=false:=by simpa using bf
  rw[bf]at hG
  refine Qh (An @e2 @e4) ?_
  refine Xf hG (An @e2 @e4) ?_
  (refine Qa (fun h1=>?_) (fun h1=>?_)<;>try exact h1.elim)
  exact Qu @hr
 rw[bf]at hG
 refine Qh (An @e2 @e4) ?_
 refine Xf hG (An @e2 @e4) ?_
 (refine Qa (fun h1=>?_) (fun h1=>?_)<;>try exact h1.elim)
 refine Qh (An @e2 @e3) ?_
 refine Xs (fun k:Nat=>k≤t.maps.length∧(∀ i (h:i < t.maps.length),i < k→nG t t.maps[i])∧(∀ i j (hi:i < t.maps.length) (hj:j < i),i < k→Zy t.maps[i] (t.maps[j]'af)=false))
  (fun k=>⟨[(1,.ptr 0 0),(3,.ptr 1 0),(4,.ptr 2 0),(23,.isl t.maps.length (cq t.maps)),(24,.int .i64 t.maps.length),(25,.int .i64 k)],[(0,.cells t.enc),(1,.cells (Zp (oO (t.maps.take k)))),(2,.cells (Qp (kH (t.maps.take k))))],3⟩) (fun k=>t.maps.length - k) Az.mixed hN
  ⟨0,⟨by omega,fun i h h0=>by omega,fun i j hi hj h0=>by omega⟩,[],by (refine XG ?_;((try (repeat' with_reducible refine And.intro ?_ ?_));(try any_goals (first|refine zm ?_|exact CL|fail))))<;>exact rfl⟩ fun k hI=>?_
 obtain ⟨hk,aY,AG⟩:=id hI
 clear hI
 have LQ:=Xmd (t.maps.take k)
 have pN:=Xqw (t.maps.take k)
 refine Qg ?_
 (refine Qa (fun h2=>?_) (fun h2=>?_)<;>try exact h2.elim)
 ·have bF:k < t.maps.length:=by omega
  have a8:=vK t.maps k bF
  have ox:=ht.bd _ (List.getElem_mem bF)
  have eQ:t.maps.take (k + 1)=t.maps.take k++[t.maps[k]]:=by rw[List.take_add_one,List.getElem?_eq_getElem bF];rfl
  have tG:=Xhc (t.maps.take k) t.maps[k]
  have uz:=Xfw (t.maps.take k) t.maps[k]
  have eR:=SW (t.maps.take k) t.maps[k].s.toNat
  rw[List.length_take]at eR
  have C7:¬ nG t t.maps[k]→¬ dB t:=fun h h2=>h (h2.maps k bF)
  have C8:∀ j (hj:j < k),Zy t.maps[k] (t.maps[j]'af)=true→¬ dB t:=fun j hj h h2=>by
   have:=h2.apart k j bF hj
   rw[h]at this;cases this
  have q9:nG t t.maps[k]→∀ i (h:i < t.maps.length),i < k + 1→nG t t.maps[i]:=fun h i hi cJ=>by
   by_cases e:i=k
   ·subst e;exact h
   ·exact aY i hi af
  have ra:(∀ j (hj:j < k),Zy t.maps[k] (t.maps[j]'af)=false)→∀ i j (hi:i < t.maps.length) (hj:j < i),i < k + 1→Zy t.maps[i] (t.maps[j]'af)=false:=fun h i j hi hj cJ=>by
   by_cases e:i=k
   ·subst e;exact h j hj
   ·exact AG i j hi hj af
  have LR:=Lib.hid C7
  have HAP:=Lib.hid C8
  have LS:=Lib.hid q9
  have LU:=Lib.hid ra
  clear C7 C8 q9 ra aY AG
  generalize SY:t.maps[k]=m at *
  obtain ⟨mp,ms,mi,ma,mt⟩:=m
  obtain ⟨_,_,_,_,fq⟩:=ox
  dsimp only at fq eR
  have hB:=C4 c.gl mt fq
  have hK:=LN c.gl mp ms mi
  unfold uv at hB
  simp only[Mp.enc]at a8
  by_cases bW:Jm mp ms mi=true∧Js mt=true∧0≤ma∧ma < 3
  rotate_left
  ·have eN:=AE (LR.out fun h=>bW ⟨h.1.1,h.1.2.1,h.1.2.2.1,h.1.2.2.2⟩)
   have hb:(!Jm mp ms mi || !Js mt || decide (ma < 0) || decide (3≤ma))=true:=by
    cases h1:Jm mp ms mi
    ·rfl
    ·cases h2:Js mt
     ·rfl
     ·have:ma < 0∨3≤ma:=by
       have:¬ (0≤ma∧ma < 3):=fun h=>bW ⟨h1,h2,h⟩
       omega
      simpa using this
   refine Qh (An @aJ @a8) ?_
   refine Xf hB (An @aJ @a8) ?_
   refine Xf hK (An @aJ (An @a8 @hb)) ?_
   (refine Qa (fun h3=>?_) (fun h3=>?_)<;>try exact h3.elim)
   exact Qu @eN
  obtain ⟨tZ,hk2,LV,ha1⟩:=bW
  obtain ⟨_,⟨kX,iA⟩,_⟩:=Wd tZ
  obtain ⟨vC,fO,_⟩:=LP hk2
  have bW:xF t ⟨mp,ms,mi,ma,mt⟩:=⟨tZ,hk2,LV,ha1⟩
  rw[tZ]at hK
  rw[hk2,if_pos rfl]at hB
  obtain ⟨S,rfl⟩:=Int.eq_ofNat_of_zero_le kX
  obtain ⟨A,rfl⟩:=Int.eq_ofNat_of_zero_le LV
  obtain ⟨Bk,AH⟩:=Int.eq_ofNat_of_zero_le vC
  have rf:S < 8:=by omega
  have LW:A < 3:=by omega
  have hB6:Bk < 6:=by omega
  have eh:=Tb.gn ht.wf rf
  have eo:=Tb.xG ht.wf LW hB6
  have xH:nG t ⟨mp,S,mi,A,mt⟩ ↔ t.bC S=(A:Int) + 1∧t.aq.ow A Bk=(S:Int) + 1:=by
   unfold nG
   dsimp only
   rw[Int.toNat_natCast,Int.toNat_natCast,AH,Int.toNat_natCast]
   exact ⟨fun h=>h.2,fun h=>⟨bW,h⟩⟩
  have jR:Zj ⟨mp,S,mi,A,mt⟩=A * 6 + Bk:=by
   unfold Zj
   dsimp only
   rw[AH,Int.toNat_natCast,Int.toNat_natCast]
  rw[jR]at tG
  dsimp only at uz
  rw[Int.toNat_natCast]at uz eR
  rw[AH]at hB
  clear bW jR fq
  generalize SZ:oO (t.maps.take k)=U at *
  generalize S4:kH (t.maps.take k)=M at *
  generalize pO:t.bC S=ho at *
  generalize gQ:t.aq.ow A Bk=ow at *
  generalize (mt - 1024) % 8=q at *
  refine Qh (An @aJ @a8) ?_
  refine Xf hB (An @aJ @a8) ?_
  refine Xf hK (An @aJ (An @a8 (An @e2 (An @eh @eo)))) ?_
  (refine Qa (fun h3=>?_) (fun h3=>?_)<;>try exact h3.elim)
  ·have eN:=AE (LR.out fun h=>by have:=xH.1 h;omega)
   exact Qu @eN
  have LX:=xH.2 ⟨by omega,by omega⟩
  clear LR xH
  have hmg:(Qp M).getD S .any=.int .i64 (M.getD S 0):=zE af
  have lU:=Sw t.maps k af
  refine Qh (An @e3 (An @aJ (An @LQ (An @pN @hmg)))) ?_
  refine Xs (fun j:Nat=>j≤k∧∀ i (hi:i < k),i < j→Zy ⟨mp,S,mi,A,mt⟩ (t.maps[i]'af)=false)
   (fun j=>⟨[(1,.ptr 0 0),(3,.ptr 1 0),(4,.ptr 2 0),(6,.ptr 3 0),(23,.isl t.maps.length (cq t.maps)),(24,.int .i64 t.maps.length),(25,.int .i64 k),(98,.isl k (cq (t.maps.take k))),(99,.int .i64 k),(100,.int .i64 j)],[(0,.cells t.enc),(1,.cells (Zp (U.set (A * 6 + Bk) true))),(2,.cells (Qp (M.set S (M.getD S 0 + 1)))),(3,.cells [.int .i64 mp,.int .i64 S,.int .i64 mi,.int .i64 A,.int .i64 mt])],4⟩) (fun j=>k - j) Az.mixed hN
   ⟨0,⟨by omega,fun i h h0=>by omega⟩,[],by exact Qu (An @Nat.sub_zero @lU)⟩ fun j hJ=>?_
  obtain ⟨hj,cd⟩:=id hJ
  clear hJ
  refine Qg ?_
  (refine Qa (fun h4=>?_) (fun h4=>?_)<;>try exact h4.elim)
  ·have Gv:j < k:=by omega
   have rh:=vK (t.maps.take k) j (by rw[List.length_take];omega)
   rw[List.getElem_take]at rh
   have xI:(cq (t.maps.take k)).length=k * 5:=by rw[Jp,List.length_take,Nat.min_eq_left af]
   have eN:=fun h=>AE (HAP.out j Gv h)
   have C9:Zy ⟨mp,S,mi,A,mt⟩ (t.maps[j]'af)=false→∀ i (hi:i < k),i < j + 1→Zy ⟨mp,S,mi,A,mt⟩ (t.maps[i]'af)=false:=fun h i hi iG=>by
    by_cases e:i=j
    ·subst e;exact h
    ·exact cd i hi af
   have HB:=Lib.hid eN
   have HN:=Lib.hid C9
   clear eN C9 cd
   generalize t.maps[j]=o at *
   obtain ⟨op,os,oi,oa,ot⟩:=o
   unfold Zy at HB HN
   simp only[Mp.enc]at rh
   dsimp only at HB HN
   generalize hKL:(op == mp && (oa == (A:Int) && ot == mt || os == (S:Int) && oi == mi))=kl at *
   (have au:=@xI;have aH:=@rh;have aV:=@hKL;refine XG ?_;clear au aH aV;((try (repeat' with_reducible refine And.intro ?_ ?_));(try any_goals (first|refine zm ?_|exact CL|fail))))
   ·intro h1 h2;rw[h1,h2];rfl
   (refine Qa (fun h5=>?_) (fun h5=>?_)<;>try exact h5.elim)
   ·exact Qu (HB.out h5)
   ·refine Qg ?_
    refine ⟨j + 1,⟨by omega,HN.out h5⟩,⟨[],?_⟩,by omega⟩
    exact Qw
  ·have:j=k:=by omega
   subst this
   refine Qg ?_
   refine ⟨j + 1,⟨by omega,LS.out LX,LU.out fun i hi=>cd i hi hi⟩,⟨[],?_⟩,by omega⟩
   exact Qu (An @eQ (An @tG @uz))
 ·have:k=t.maps.length:=by omega
  subst this
  have q9:∀ i (h:i < t.maps.length),nG t t.maps[i]:=fun i h=>aY i h h
  have ra:∀ i j (hi:i < t.maps.length) (hj:j < i),Zy t.maps[i] (t.maps[j]'af)=false:=fun i j hi hj=>AG i j hi hj hi
  clear aY AG
  rw[List.take_length]at LQ pN
  have dz:t.maps.take t.maps.length=t.maps:=List.take_length
  have eR:=SW t.maps
  have eV:(∀ i,i < 18→(t.aq.own.getD i 0 != 0)=(oO t.maps).getD i false)→(∀ s,s < 8→(Wx t.aq.own).getD s 0≤2∧(kH t.maps).getD s 0≤12∧((t.bC s != 0)=decide (0 < (Wx t.aq.own).getD s 0)))→dB t:=fun a b=>⟨bf,q9,ra,a,b⟩
  have fO:∀ i,i < 18→¬ ((t.aq.own.getD i 0 != 0)=(oO t.maps).getD i false)→¬ dB t:=fun i hi h h2=>h (h2.used i hi)
  have dF:∀ s,s < 8→¬ ((Wx t.aq.own).getD s 0≤2∧(kH t.maps).getD s 0≤12∧((t.bC s != 0)=decide (0 < (Wx t.aq.own).getD s 0)))→¬ dB t:=fun i hi h h2=>h (h2.lD i hi)
  have LY:=Lib.hid eV
  have S5:=Lib.hid fO
  have HB2:=Lib.hid dF
  clear eV fO dF q9 ra
  have e5:t.enc.take 18=Qp t.aq.own:=by
   have h1:=Gq t.aq ht.wf.aq
   rw[← e4,List.take_take]at h1
   exact h1
  have vt:=ht.wf.aq.own
  refine Qh (An @dz (An @e2 @e5)) ?_
  generalize SZ:oO t.maps=U at *
  generalize S4:kH t.maps=M at *
  refine Xs (fun a:Nat=>a≤3∧∀ i,i < a * 6→(t.aq.own.getD i 0 != 0)=U.getD i false)
   (fun a=>⟨[(1,.ptr 0 0),(3,.ptr 1 0),(4,.ptr 2 0),(12,.ptr 3 0),(141,.agg (Qp t.aq.own)),(142,.int .i64 a)],[(0,.cells t.enc),(1,.cells (Zp U)),(2,.cells (Qp M)),(3,.cells (Qp (Wx (t.aq.own.take (a * 6)))))],4⟩) (fun a=>3 - a) Az.mixed hN
   ⟨0,⟨by omega,fun i h=>by omega⟩,[],by refine Qg ?_<;>exact rfl⟩ fun a hI=>?_
  obtain ⟨ha,tG⟩:=id hI
  clear hI
  refine Qg ?_
  (refine Qa (fun h3=>?_) (fun h3=>?_)<;>try exact h3.elim)
  ·have qZ:a < 3:=by omega
   have hr:=SE t.aq a
   have fM:=Kz t.aq ht.wf.aq a qZ
   refine Qh (An @hr @vt) ?_
   refine Xs (fun k:Nat=>k≤6∧∀ i,i < a * 6 + k→(t.aq.own.getD i 0 != 0)=U.getD i false)
    (fun k=>⟨[(1,.ptr 0 0),(3,.ptr 1 0),(4,.ptr 2 0),(12,.ptr 3 0),(13,.int .i64 a),(141,.agg (Qp t.aq.own)),(142,.int .i64 a),(146,.agg (Qp (t.aq.row a))),(147,.int .i64 k)],[(0,.cells t.enc),(1,.cells (Zp U)),(2,.cells (Qp M)),(3,.cells (Qp (Wx (t.aq.own.take (a * 6 + k)))))],4⟩) (fun k=>6 - k) Az.mixed hN
    ⟨0,⟨by omega,fun i h=>tG i af⟩,[],by exact Qu @Nat.add_zero⟩ fun k hJ=>?_
   obtain ⟨hk,oP⟩:=id hJ
   clear hJ
   refine Qg ?_
   (refine Qa (fun h4=>?_) (fun h4=>?_)<;>try exact h4.elim)
   ·have nn:k < 6:=by omega
    have rj:a * 6 + k < 18:=by omega
    have hv:=C2 t.aq a k nn
    have hog:=ay.uo t.aq bf a k
    have eN:=S5.out (a * 6 + k) rj
    have eG:=Xpt (t.aq.own.take (a * 6 + k)) (t.aq.ow a k)
    have eQ:t.aq.own.take (a * 6 + k + 1)=t.aq.own.take (a * 6 + k)++[t.aq.ow a k]:=by
     rw[List.take_add_one,List.getElem?_eq_getElem (by rw[vt];exact rj)]
     unfold ay.ow
     rw[List.getD_eq_getElem?_getD,List.getElem?_eq_getElem (by rw[vt];exact rj)];rfl
    have fo:=SU (t.aq.own.take (a * 6 + k))
    have zr:=SX (t.aq.own.take (a * 6 + k)) (t.aq.ow a k - 1).toNat
    have LZ:(t.aq.own.take (a * 6 + k)).length=a * 6 + k:=by rw[List.length_take,vt];omega
    have xJ:(t.aq.own.getD (a * 6 + k) 0 != 0)=U.getD (a * 6 + k) false→∀ i,i < a * 6 + (k + 1)→(t.aq.own.getD i 0 != 0)=U.getD i false:=fun h i hi=>by
     by_cases e:i=a * 6 + k
     ·subst e;exact h
     ·exact oP i af
    have gQ:t.aq.own.getD (a * 6 + k) 0=t.aq.ow a k:=rfl
    rw[gQ]at eN xJ
    rw[← eQ]at eG
    rw[LZ]at zr
    have S6:=Lib.hid eN
    have S7:=Lib.hid xJ
    clear eN xJ oP tG gQ eQ
    generalize Wx (t.aq.own.take (a * 6 + k))=W at *
    generalize mA:Wx (t.aq.own.take (a * 6 + k + 1))=W2 at *
    generalize t.aq.ow a k=o at *
    have hxu:∀ x,U.getD (a * 6 + k) false=x→(Zp U).getD (a * 6 + k) .any=.bool x:=fun x e=>by rw[← e];exact JF af
    have hug:=hxu _ rfl
    generalize U.getD (a * 6 + k) false=u at *
    refine Qh (An @fM (An @LQ (An @hv @hug))) ?_
    (refine Qa (fun h5=>?_) (fun h5=>?_)<;>try exact h5.elim)
    ·exact Qu (AE (S6.out h5))
    have h6:=S7.out (by simpa using h5)
    clear S6 S7
    refine Qg ?_
    have kJ:a * 6 + (k + 1)=a * 6 + k + 1:=by omega
    (refine Qa (fun h7=>?_) (fun h7=>?_)<;>try exact h7.elim)
    ·rw[if_neg h7]at eG
     obtain ⟨N,vz⟩:=Int.eq_ofNat_of_zero_le (show 0≤o - 1 by omega)
     have hN8:N < 8:=by omega
     rw[vz,Int.toNat_natCast]at eG zr
     have hwg:(Qp W).getD N .any=.int .i64 (W.getD N 0):=zE af
     refine Qh (An @vz (An @fo @hwg)) ?_
     refine ⟨k + 1,⟨by omega,h6⟩,⟨[],?_⟩,by omega⟩
     exact Qu (An @kJ (An @mA @eG))
    ·rw[if_pos af]at eG
     refine Qg ?_
     refine ⟨k + 1,⟨by omega,h6⟩,⟨[],?_⟩,by omega⟩
     exact Qu (An @kJ (An @mA @eG))
   ·have:k=6:=by omega
    subst this
    refine Qg ?_
    refine ⟨a + 1,⟨by omega,fun i hi=>oP i af⟩,⟨[],?_⟩,by omega⟩
    have e6:(a + 1) * 6=a * 6 + 6:=by omega
    exact Qu @e6
  ·have:a=3:=by omega
   subst this
   have e7:t.aq.own.take (3 * 6)=t.aq.own:=List.take_of_length_le af
   have ox:=SX t.aq.own
   have fo:=SU t.aq.own
   have oP:∀ i,i < 18→(t.aq.own.getD i 0 != 0)=U.getD i false:=fun i h=>tG i af
   have Da:=LY.out oP
   have LY:=Lib.hid Da
   clear Da tG oP S5 SZ S4
   rw[vt]at ox
   generalize hWW:Wx t.aq.own=W at *
   have pO:∀ s,s < 8→t.enc.getD (21 + s) .any=.int .i64 (t.bC s):=fun s hs=>Tb.gn ht.wf hs
   refine Qh (An @e7 @hWW) ?_
   refine Xs (fun s:Nat=>s≤8∧∀ i,i < s→(W.getD i 0≤2∧M.getD i 0≤12∧(t.bC i != 0)=decide (0 < W.getD i 0)))
    (fun s=>⟨[(1,.ptr 0 0),(3,.ptr 1 0),(4,.ptr 2 0),(12,.ptr 3 0),(169,.int .i64 s)],[(0,.cells t.enc),(1,.cells (Zp U)),(2,.cells (Qp M)),(3,.cells (Qp W))],4⟩) (fun s=>8 - s) Az.mixed hN
    ⟨0,⟨by omega,fun i h=>by omega⟩,[],by exact Qw⟩ fun s hI=>?_
   obtain ⟨hs,L0⟩:=id hI
   clear hI
   refine Qg ?_
   (refine Qa (fun h4=>?_) (fun h4=>?_)<;>try exact h4.elim)
   ·have xK:s < 8:=by omega
    have eN:=fun h=>AE (HB2.out s xK h)
    have Db:(W.getD s 0≤2∧M.getD s 0≤12∧(t.bC s != 0)=decide (0 < W.getD s 0))→∀ i,i < s + 1→(W.getD i 0≤2∧M.getD i 0≤12∧(t.bC i != 0)=decide (0 < W.getD i 0)):=fun h i hi=>by
     by_cases e:i=s
     ·subst e;exact h
     ·exact L0 i af
    have HB:=Lib.hid eN
    have HN:=Lib.hid Db
    clear eN Db L0
    have hw:(Qp W).getD s .any=.int .i64 (W.getD s 0):=zE af
    have hm:(Qp M).getD s .any=.int .i64 (M.getD s 0):=zE af
    have hh:=pO s xK
    have fO:=ox s
    have dF:=eR s
    generalize W.getD s 0=x at *
    generalize M.getD s 0=y at *
    generalize t.bC s=z at *
    refine Qh (An @hw (An @hm (An @hh (An @fo (An @pN @e2))))) ?_
    (refine Qa (fun h5=>?_) (fun h5=>?_)<;>try exact h5.elim)
    ·have h6:¬(x≤2∧y≤12∧(z != 0)=decide (0 < x)):=fun ⟨p,q,r⟩=>h5.elim (fun h=>by omega) (fun h=>h r)
     exact Qu (HB.out h6)
    ·obtain ⟨⟨h6,h7⟩,h8⟩:=h5
     refine Qg ?_
     refine ⟨s + 1,⟨by omega,HN.out ⟨by omega,by omega,h8⟩⟩,⟨[],?_⟩,by omega⟩
     exact Qw
   ·have:s=8:=by omega
    subst this
    exact Qu (LO (LY.out L0))
theorem Xg9:Tryz.prog.underlying 37=some (.slice 69):=by kernel_rfl
theorem AI {c:Cx} {ne:Bool} {x:TV} {v:AV} {b:Bool} (hb:sI v=some b):Cj Tryz.prog c (.cA ne 37) [x,.c .nils] [v,.nils] (.bool (ne != b)):=Xvu Xg9 hb
theorem Xvv (gl:Nat→AV) (cap:Nat):GS Tryz.prog gl 64 [.lit (.slice none 0 cap)] [] 0 .nils [] 0:=by
 refine AB.gs (of_decide_eq_true rfl) av fun c hN hg=>?_
 conv in aQ _ _=>cbv
 refine Qg ?_
 refine zS ?_ (AI (b:=true) (show sI (.lit (.slice none 0 cap))=some true from rfl)) ?_
 ·exact Qw
 refine Qg ?_
 (refine Qa (fun h1=>?_) (fun h1=>?_)<;>try exact h1.elim)
 refine Qg ?_
 exact ⟨[],by exact Qw⟩
theorem Xir (gl:Nat→AV) (a:Addr) (cap:Nat):GS Tryz.prog gl 64 [.lit (.slice (some a) 0 cap)] [] 0 (.sl 5 0 0 0 0) [(0,.cells [])] 1:=by
 refine AB.gs (of_decide_eq_true rfl) av fun c hN hg=>?_
 conv in aQ _ _=>cbv
 refine Qg ?_
 refine zS ?_ (AI (b:=false) (show sI (.lit (.slice (some a) 0 cap))=some false from rfl)) ?_
 ·exact Qw
 refine Qg ?_
 (refine Qa (fun h1=>?_) (fun h1=>?_)<;>try exact h1.elim)
 refine Qg ?_
 refine Xf FO @List.length_nil.{0} ?_
 refine Jv ?_
 refine ⟨[(0,0)],?_⟩
 exact Qw
theorem Dc (gl:Nat→AV) (l:List Mp) (hn:l.length≤1000000):GS Tryz.prog gl 64 [.isl l.length (cq l)] [] 0 (.sl 5 0 0 l.length l.length) [(0,.cells (cq l))] 1:=by
 have hl:=Jp l
 cases l with
 | nil=>exact GS.empty (Xvv gl) (Xir gl)
 | cons x l =>
 have L6:sI (.isl (x::l).length (cq (x::l)))=some false:=rfl
 generalize x::l=l at *
 refine AB.gs (of_decide_eq_true rfl) av fun c hN hg=>?_
 conv in aQ _ _=>cbv
 refine Qg ?_
 refine zS ?_ (AI (b:=false) L6) ?_
 ·exact Qw
 refine Qg ?_
 (refine Qa (fun h1=>?_) (fun h1=>?_)<;>try exact h1.elim)
 refine Qg ?_
 refine Jj FO ?_
 refine Jd @hl ?_
 refine ⟨[(0,0)],?_⟩
 exact Qw
theorem Tb.nH {t:Tb} (h:t.wf) (x:AV):t.enc.set 29 x=t.hd++[x]:=by
 unfold Tb.enc
 rw[List.set_append_right _ _ (by rw[Tb.dA h];exact Nat.le_refl _),Tb.dA h];rfl
theorem Tb.mM (t:Tb) (h:t.wf) (x:AV):(t.hd++[x]).length=30:=by simp[Tb.dA h]
def Tb.add (t:Tb) (m:Mp):Tb:={ t with maps:=t.maps++[m] }
def Jo (t:Tb) (m:Mp) (b:Bool) (e:Int):AV:=.aU [.agg t.enc,.agg m.enc,.bool b,.int .i64 e]
set_option maxHeartbeats 2000000 in
theorem L7 (gl:Nat→AV) (t:Tb) (ht:t.wf) (hl:t.maps.length≤100000) (m:Mp) (b:Bool):PS Tryz.prog gl 127 [.agg t.enc,.agg m.enc,.bool b] (Jo (t.add m) m b 0):=by
 refine Xyt.ps (of_decide_eq_true rfl) (by simp[Qe,ai,Jo,Tb.b9,Mp.enc]) fun c hN hg=>?_
 conv in aQ _ _=>cbv
 have e2:=Tb.aD ht
 have e3:=Tb.cO ht
 have aJ:=Jp t.maps
 have hs:=Tb.nH ht
 have jk:=Tb.mM t ht
 unfold Mp.enc
 refine Qh (An @e2 @e3) ?_
 ((first|refine Qx (ins:=[]) (Dc c.gl t.maps (by omega)) ?_ ?_|refine Qt (ins:=[]) (Dc c.gl t.maps (by omega)) ?_ ?_|refine Qs (ins:=[]) (Dc c.gl t.maps (by omega)) ?_ ?_|refine Qq (ins:=[]) (Dc c.gl t.maps (by omega)) ?_ ?_)<;>(have au:=@e2;have aH:=@e3;refine XG ?_;clear au aH;(try first|exact rfl|exact True.intro);((try (repeat' with_reducible refine And.intro ?_ ?_));(try any_goals (first|refine zm ?_|exact CL|fail)))))
 refine Jv ?_
 refine Jd @aJ ?_
 refine Qh (An @hs (An @e2 @jk)) ?_
 have hq:Jo (t.add m) m b 0=.aU [.agg (t.hd++[.isl (t.maps.length + 1) (cq t.maps++[.int .i64 m.ae,.int .i64 m.s,.int .i64 m.aR,.int .i64 m.a,.int .i64 m.port])]),.agg [.int .i64 m.ae,.int .i64 m.s,.int .i64 m.aR,.int .i64 m.a,.int .i64 m.port],.bool b,.int .i64 0]:=by
  rw[Xup]
  simp[Jo,Tb.add,Tb.enc,Tb.hd,Mp.enc]
 have eQ:(cq t.maps++[AV.int .i64 m.ae,.int .i64 m.s,.int .i64 m.aR,.int .i64 m.a,.int .i64 m.port]).take ((t.maps.length + 1) * 5)=cq t.maps++[.int .i64 m.ae,.int .i64 m.s,.int .i64 m.aR,.int .i64 m.a,.int .i64 m.port]:=List.take_of_length_le (by simp[Jp];omega)
 rw[hq,List.map_append]
 exact Qu @eQ
theorem L8 (t:Tb) (m:Mp) (b:Bool) (e:Int) (n:Nat):Qe n (Jo t m b e)=True:=by simp[Qe,ai,Jo,Tb.b9,Mp.enc]
theorem S8 (t:Tb) (m:Mp) (b:Bool) (e:Int) (ρ:Nat→Nat):aE ρ (Jo t m b e)=Jo t m b e:=by simp[aE,az,Jo,Tb.da,Mp.enc]
attribute [go_sem] L8 S8
theorem xL (gl:Nat→AV) (t:Tb) (ht:t.wf) (e:Int):GS Tryz.prog gl 125 [.int .i64 e,.ptr 0 0] [(0,.cells t.enc)] 1 (Jo t ff false e) [(0,.cells t.enc)] 1:=by
 refine Xg8.gs (of_decide_eq_true rfl) (by simp[Bk.live]) fun c hN hg=>?_
 conv in aQ _ _=>cbv
 have e2:=Tb.aD ht
 refine Qh @e2 ?_
 refine ⟨[],?_⟩
 refine Qg ?_
 rfl
theorem Tb.gp {t:Tb} (h:t.wf) {p:ay} (hp:p.wf):Yx t.enc 0 p.enc=(⟨p,t.home,t.maps⟩:Tb).enc:=by
 unfold Yx Tb.enc Tb.hd
 rw[List.take_zero,List.nil_append,ay.aD hp,List.append_assoc,List.append_assoc,Nat.zero_add,← ay.aD h.aq,List.drop_left]
theorem Tb.gu {t:Tb} (h:t.wf) {s:Nat} (hs:s < 8) (x:Int):t.enc.set (21 + s) (.int .i64 x)=(⟨t.aq,t.home.set s x,t.maps⟩:Tb).enc:=by
 unfold Tb.enc Tb.hd
 rw[List.append_assoc,List.set_append_right _ _ (by rw[ay.aD h.aq];omega),ay.aD h.aq,show 21 + s - 21=s by omega,List.set_append_left _ _ (by rw[Yj,h.home];exact hs),List.append_assoc]
 simp[Qp,List.map_set]
def Zw (l:List Mp) (s:Int):Nat:=l.countP fun m=>m.s == s
def Ue (k:Nat):List Int:=(List.range 8).map fun (i:Nat)=>1024 + (k:Int) * 8 + (i:Int)
def xM (t:Tb) (ae a port:Int):Bool:=(t.maps.find? (Wc ae a port)).isNone
def xN (t:Tb) (ae a:Int) (l:List Nat):Option Int:=(l.flatMap Ue).find? (xM t ae a)
def jS (t:Tb) (s:Nat):List Nat:=if 1≤t.bC s then Wi t s 6 else []
def Tb.tk (t:Tb) (ae s aR a draw:Int):Tb × Mp × Bool × Int :=
 if (t.aq.take s a draw).2.2≠0 then (t,ff,false,(t.aq.take s a draw).2.2) else
 (Tb.add ⟨(t.aq.take s a draw).1,t.home.set s.toNat (a + 1),t.maps⟩ ⟨ae,s,aR,a,1024 + (t.aq.take s a draw).2.1 * 8⟩,⟨ae,s,aR,a,1024 + (t.aq.take s a draw).2.1 * 8⟩,true,0)
noncomputable def Tb.cz (t:Tb) (ae s aR draw:Int):Tb × Mp × Bool × Int :=
 if Wu t=false∨Jm ae s aR=false then (t,ff,false,2) else
 match t.maps.find? (Zi ae s aR) with
 | some m=>(t,m,false,0)
 | none =>
  if 12≤Zw t.maps s then (t,ff,false,6) else
  match xN t ae (t.bC s.toNat - 1) (jS t s.toNat) with
  | some port=>(t.add ⟨ae,s,aR,t.bC s.toNat - 1,port⟩,⟨ae,s,aR,t.bC s.toNat - 1,port⟩,false,0)
  | none =>
   if 2≤(jS t s.toNat).length then (t,ff,false,6) else
   if 1≤t.bC s.toNat then t.tk ae s aR (t.bC s.toNat - 1) draw else
   if (t.aq.pick draw).2≠0 then (t,ff,false,(t.aq.pick draw).2) else t.tk ae s aR (t.aq.pick draw).1 draw
def mN (x:Tb × Mp × Bool × Int):AV:=Jo x.1 x.2.1 x.2.2.1 x.2.2.2
set_option maxHeartbeats 4000000 in
set_option maxRecDepth 20000 in
theorem Xl3 (gl:Nat→AV) (t:Tb) (ht:t.ok) (ae s aR draw:Int) (h:Wu t=false∨Jm ae s aR=false):PS Tryz.prog gl 89 [.agg t.enc,.int .i64 ae,.int .i64 s,.int .i64 aR,.int .i64 draw] (Jo t ff false 2):=by
 refine AA.ps (of_decide_eq_true rfl) (by simp[L8]) fun c hN hg=>?_
 conv in aQ _ _=>cbv
 have e2:=Tb.aD ht.wf
 have hG:=AF c.gl t ht
 have hK:=LN c.gl ae s aR
 by_cases bf:Wu t=true
 ·rw[bf]at hG
  have hk:Jm ae s aR=false:=h.resolve_left (by rw[bf];simp)
  rw[hk]at hK
  refine Qh @e2 ?_
  refine Xf hG @e2 ?_
  refine Xf hK @e2 ?_
  (refine Qa (fun h1=>?_) (fun h1=>?_)<;>try exact h1.elim)
  refine Qg ?_
  exact Kh (ip [0]) (xL c.gl t ht.wf 2) (An @e2 (An @Jo.eq_1 (An @Mp.enc.eq_1 @ff.eq_1)))
 ·have bf:Wu t=false:=by simpa using bf
  rw[bf]at hG
  refine Qh @e2 ?_
  refine Xf hG @e2 ?_
  ((first|apply Ym|apply Yb)<;>(refine XG ?_;first|exact rfl|exact True.intro|((try (repeat' with_reducible refine And.intro ?_ ?_));(try any_goals (first|refine zm ?_|exact CL|fail)))))
  (refine Qa (fun h1=>?_) (fun h1=>?_)<;>try exact h1.elim)
  refine Qg ?_
  exact Kh (ip [0]) (xL c.gl t ht.wf 2) (An @e2 (An @Jo.eq_1 (An @Mp.enc.eq_1 @ff.eq_1)))
theorem S9 {β:Type} (ix:β→Nat) (skip:β→Bool) (l:List β) (s:Nat):∀ u:List Int,s < u.length→(l.foldl (fun u b=>if skip b=true then u else u.set (ix b) (u.getD (ix b) 0 + 1)) u).getD s 0=u.getD s 0 + l.countP (fun b=>!skip b && ix b == s):=by
 induction l with
 | nil=>intro u _;simp
 | cons b l ih =>
  intro u hu
  rw[List.foldl_cons,ih _ (by split<;>simpa using hu),List.countP_cons]
  by_cases hk:skip b=true
  ·simp[hk]
  ·have hk:skip b=false:=by simpa using hk
   by_cases hs:ix b=s
   ·subst hs
    simp[hk,List.getD,hu];omega
   ·simp[hk,hs,List.getD,List.getElem?_set_ne hs]
theorem Ta (l:List Mp) (s:Nat) (hs:s < 8):(kH l).getD s 0=l.countP (fun m=>m.s.toNat == s):=by
 have h:=S9 (fun m:Mp=>m.s.toNat) (fun _=>false) l s (List.replicate 8 0) (by simpa using hs)
 rw[C6,Int.zero_add]at h
 have e:kH l=l.foldl (fun u b=>if (fun _:Mp=>false) b=true then u else u.set ((fun m:Mp=>m.s.toNat) b) (u.getD ((fun m:Mp=>m.s.toNat) b) 0 + 1)) (List.replicate 8 0):=rfl
 rw[e,h];simp
theorem Tc (l:List Int) (s:Nat) (hs:s < 8):(Wx l).getD s 0=l.countP (fun o=>!(o == 0) && (o - 1).toNat == s):=by
 have h:=S9 (fun o:Int=>(o - 1).toNat) (fun o=>o == 0) l s (List.replicate 8 0) (by simpa using hs)
 rw[C6,Int.zero_add]at h
 have e:Wx l=l.foldl (fun u b=>if (fun o:Int=>o == 0) b=true then u else u.set ((fun o:Int=>(o - 1).toNat) b) (u.getD ((fun o:Int=>(o - 1).toNat) b) 0 + 1)) (List.replicate 8 0):=by
  unfold Wx
  congr 1
  funext u o
  simp
 rw[e,h]
theorem L9 (l:List Mp) (i:Nat) (hi:i < 18):(oO l).getD i false=l.any (fun m=>Zj m == i):=by
 suffices h:∀ (l:List Mp) (u:List Bool),i < u.length→(l.foldl (fun u m=>u.set (Zj m) true) u).getD i false=(u.getD i false || l.any (fun m=>Zj m == i)) by
  have:=h l (List.replicate 18 false) (by simpa using hi)
  unfold oO
  rw[this]
  have e:(List.replicate 18 false).getD i false=false:=by rw[List.getD_eq_getElem?_getD,List.getElem?_replicate,if_pos hi];rfl
  rw[e,Bool.false_or]
 intro l
 induction l with
 | nil=>intro u _;simp
 | cons m l ih =>
  intro u hu
  rw[List.foldl_cons,ih _ (by simpa using hu),List.any_cons]
  by_cases hm:Zj m=i
  ·subst hm;simp[List.getD,hu]
  ·have e:(Zj m == i)=false:=by simpa using hm
   simp[List.getD,List.getElem?_set_ne hm,e]
theorem xO (t:Tb):Wu t=true ↔ dB t:=by unfold Wu;simp
theorem Xns {t:Tb} (h:dB t) {i:Nat} (hi:i < 18) (ho:t.aq.own.getD i 0≠0):∃ m ∈ t.maps,nG t m∧Zj m=i∧t.aq.own.getD i 0=m.s + 1∧0≤m.s∧m.s < 8:=by
 have h1:=h.used i hi
 rw[L9 _ _ hi]at h1
 have h2:(t.aq.own.getD i 0 != 0)=true:=by simpa using ho
 rw[h2]at h1
 obtain ⟨m,hm,he⟩:=List.any_eq_true.1 h1.symm
 have he:Zj m=i:=by simpa using he
 obtain ⟨k,hk,rfl⟩:=List.getElem_of_mem hm
 have aY:=h.maps k hk
 obtain ⟨_,⟨h3,h4⟩,_⟩:=Wd aY.1.1
 refine ⟨_,hm,aY,he,?_,h3,h4⟩
 have:=aY.2.2
 unfold ay.ow at this
 rw[← this]
 congr 1
 rw[← he];rfl
theorem Tb.rk {t:Tb} (h:dB t) (hw:t.wf) {s:Nat} (hs:s < 8):0≤t.bC s∧t.bC s≤3:=by
 by_cases h0:t.bC s=0
 ·omega
 have h1:=(h.lD s hs).2.2
 rw[Tc _ _ hs]at h1
 have h2:(t.bC s != 0)=true:=by simpa using h0
 rw[h2]at h1
 have h3:=of_decide_eq_true h1.symm
 have h3:0 < t.aq.own.countP (fun o=>!(o == 0) && (o - 1).toNat == s):=by omega
 obtain ⟨o,ho,hp⟩:=List.countP_pos_iff.1 h3
 obtain ⟨i,hi,rfl⟩:=List.getElem_of_mem ho
 have rj:i < 18:=by have:=hw.aq.own;omega
 have bf:t.aq.own.getD i 0=t.aq.own[i]:=by rw[List.getD_eq_getElem?_getD,List.getElem?_eq_getElem hi];rfl
 simp at hp
 obtain ⟨m,hm,aY,_,he,Gw,nI⟩:=Xns h rj (by rw[bf];exact hp.1)
 rw[bf]at he
 have:m.s=(s:Int):=by omega
 have hh:=aY.2.1
 rw[this]at hh
 have ha:=aY.1.2.2
 simp at hh
 omega
theorem Xe8 (l:List Mp) (h:∀ m ∈ l,m.s.toNat < 8):l.length=((List.range 8).map fun s=>l.countP fun m=>m.s.toNat == s).sum:=by
 induction l with
 | nil=>rfl
 | cons m l ih =>
  have h1:=ih fun m hm=>h m (List.mem_cons_of_mem _ hm)
  have h2:=h m (List.mem_cons_self ..)
  have e:(List.range 8)=[0,1,2,3,4,5,6,7]:=rfl
  rw[e]at h1 ⊢
  simp only[List.map_cons,List.map_nil,List.sum_cons,List.sum_nil,List.countP_cons,List.length_cons]at h1 ⊢
  generalize m.s.toNat=q at *
  rcases (by omega:q=0∨q=1∨q=2∨q=3∨q=4∨q=5∨q=6∨q=7) with rfl|rfl|rfl|rfl|rfl|rfl|rfl|rfl<;>simp<;>omega
theorem xP {t:Tb} (h:dB t):t.maps.length≤96:=by
 have hs:∀ m ∈ t.maps,m.s.toNat < 8:=fun m hm=>by
  obtain ⟨k,hk,rfl⟩:=List.getElem_of_mem hm
  obtain ⟨_,⟨h3,h4⟩,_⟩:=Wd (h.maps k hk).1.1
  omega
 rw[Xe8 _ hs]
 have hb:∀ s,s < 8→t.maps.countP (fun m=>m.s.toNat == s)≤12:=fun s hs=>by
  have:=(h.lD s hs).2.1
  rw[Ta _ _ hs]at this
  omega
 have e:(List.range 8)=[0,1,2,3,4,5,6,7]:=rfl
 rw[e]
 simp only[List.map_cons,List.map_nil,List.sum_cons,List.sum_nil]
 have h0:=hb 0 af;have h1:=hb 1 af;have h2:=hb 2 af;have h3:=hb 3 af
 have h4:=hb 4 af;have h5:=hb 5 af;have h6:=hb 6 af;have h7:=hb 7 af
 omega
theorem Xov (l:List Mp) (k:Nat) (h:k < l.length) (s:Int):Zw (l.take (k + 1)) s=Zw (l.take k) s + (if l[k].s=s then 1 else 0):=by
 have e:l.take (k + 1)=l.take k++[l[k]]:=by rw[List.take_add_one,List.getElem?_eq_getElem h];rfl
 unfold Zw
 rw[e,List.countP_append]
 by_cases h2:l[k].s=s<;>simp[h2]
theorem Td (l:List Mp) (k:Nat) (s:Int):Zw (l.take k) s≤k:=by
 unfold Zw
 have:=List.countP_le_length (p:=fun m:Mp=>m.s == s) (l:=l.take k)
 rw[List.length_take]at this
 omega
def ik:List AV:=[(.int .i64 0),(.int .i64 0),(.int .i64 0),(.int .i64 0),(.int .i64 0),(.int .i64 0),(.int .i64 0),(.int .i64 0),(.int .i64 0),(.int .i64 0),(.int .i64 0),(.int .i64 0),(.int .i64 0),(.int .i64 0),(.int .i64 0),(.int .i64 0),(.int .i64 0),(.int .i64 0),(.bool false),(.bool false),(.bool false),(.int .i64 0),(.int .i64 0),(.int .i64 0),(.int .i64 0),(.int .i64 0),(.int .i64 0),(.int .i64 0),(.int .i64 0),.nils]
def z5:List AV:=[(.int .i64 0),(.int .i64 0),(.int .i64 0),(.int .i64 0),(.int .i64 0)]
theorem Yby (n:Nat):ai n ik=True:=by simp[ik,ai,Qe]
theorem Yev (n:Nat):ai n z5=True:=by simp[z5,ai,Qe]
theorem Xx2 (ρ:Nat→Nat):az ρ ik=ik:=by simp[ik,az,aE]
theorem Yaq (ρ:Nat→Nat):az ρ z5=z5:=by simp[z5,az,aE]
theorem Xul (s:Int):Zw [] s=0:=rfl
attribute [go_sem] Yby Yev Xx2 Yaq Xul
theorem Xwl (k:Nat) (t:Tb) (ae a:Int) (r:List Int) (i:Nat) (h:i < 8):((Ue k).drop i++r).find? (xM t ae a)=if xM t ae a (1024 + (k:Int) * 8 + i)=true then some (1024 + (k:Int) * 8 + i) else ((Ue k).drop (i + 1)++r).find? (xM t ae a):=by
 have hl:i < (Ue k).length:=by simpa [Ue] using h
 rw[List.drop_eq_getElem_cons hl,List.cons_append,List.find?_cons]
 have e:(Ue k)[i]=1024 + (k:Int) * 8 + i:=by simp[Ue]
 rw[e]
 split<;>rename_i h<;>simp[h]
theorem Yaf {t:Tb} {s n k:Nat} (h:k ∈ Wi t s n):k < n:=by
 unfold Wi at h
 exact List.mem_range.1 (List.mem_filter.1 h).1
set_option maxHeartbeats 8000000 in
set_option maxRecDepth 20000 in
theorem Xx1 (gl:Nat→AV) (t:Tb) (ht:t.ok) (ka:dB t) (ae:Int) (S:Nat) (aR draw:Int) (bF:Jm ae S aR=true) (R:AV) (fc:Qe 0 R)
  (H1:Hid (∀ m,t.maps.find? (Zi ae S aR)=some m→R=Jo t m false 0))
  (H2:Hid (t.maps.find? (Zi ae S aR)=none→12≤Zw t.maps S→R=Jo t ff false 6))
  (H3:Hid (t.maps.find? (Zi ae S aR)=none→¬ 12≤Zw t.maps S→(∀ port,xN t ae (t.bC S - 1) (jS t S)=some port→R=Jo (t.add ⟨ae,S,aR,t.bC S - 1,port⟩) ⟨ae,S,aR,t.bC S - 1,port⟩ false 0) ∧
   (xN t ae (t.bC S - 1) (jS t S)=none→(2≤(jS t S).length→R=Jo t ff false 6)∧(¬ 2≤(jS t S).length→(1≤t.bC S→R=mN (t.tk ae S aR (t.bC S - 1) draw)) ∧
    (¬ 1≤t.bC S→((t.aq.pick draw).2≠0→R=Jo t ff false (t.aq.pick draw).2)∧((t.aq.pick draw).2=0→R=mN (t.tk ae S aR (t.aq.pick draw).1 draw))))))) :
  PS Tryz.prog gl 89 [.agg t.enc,.int .i64 ae,.int .i64 S,.int .i64 aR,.int .i64 draw] R:=by
 refine AA.ps (of_decide_eq_true rfl) fc fun c hN hg=>?_
 conv in aQ _ _=>cbv
 have e2:=Tb.aD ht.wf
 have e3:=Tb.cO ht.wf
 have hG:=AF c.gl t ht
 rw[LO ka]at hG
 have hK:=LN c.gl ae S aR
 rw[bF]at hK
 have hF:=SP c.gl t ht.wf ht.len ae S aR
 have aJ:=Jp t.maps
 obtain ⟨_,⟨_,rf⟩,_⟩:=Wd bF
 have rf:S < 8:=by omega
 have hhb:=Tb.rk ka ht.wf rf
 have pN:=xP ka
 have eh:=Tb.gn ht.wf rf
 have sW:=SS c.gl t ht.wf S rf hhb
 cases kS:t.maps.find? (Zi ae S aR) with
 | some m =>
  have hR:=H1.out m kS
  rw[kS]at hF
  unfold mL at hF
  subst hR
  refine Qh @e2 ?_
  refine Xf hG @e2 ?_
  refine Xf hK @e2 ?_
  (refine Qa (fun h1=>?_) (fun h1=>?_)<;>try exact h1.elim)
  refine Qh @e2 ?_
  unfold Mp.enc at hF
  refine Xf hF @e2 ?_
  (refine Qa (fun h2=>?_) (fun h2=>?_)<;>try exact h2.elim)
  exact Qu (An @e2 (An @Jo.eq_1 @Mp.enc.eq_1))
 | none =>
  rw[kS]at hF
  unfold mL ff Mp.enc at hF
  dsimp only at hF
  refine Qh @e2 ?_
  refine Xf hG @e2 ?_
  refine Xf hK @e2 ?_
  (refine Qa (fun h1=>?_) (fun h1=>?_)<;>try exact h1.elim)
  refine Qh @e2 ?_
  refine Xf hF @e2 ?_
  (refine Qa (fun h2=>?_) (fun h2=>?_)<;>try exact h2.elim)
  refine Qh (An @e2 @e3) ?_
  refine Xs (fun k:Nat=>k≤t.maps.length)
   (fun k=>⟨[(1,.int .i64 ae),(2,.int .i64 S),(3,.int .i64 aR),(4,.int .i64 draw),(5,.ptr 0 0),(10,.ptr 1 0),(11,.ptr 2 0),(14,.cl 125 [.ptr 0 0]),(17,.int .i64 (Zw (t.maps.take k) S)),(61,.isl t.maps.length (cq t.maps)),(62,.int .i64 t.maps.length),(63,.int .i64 k)],[(0,.cells t.enc),(1,.cells ik),(2,.cells z5)],3⟩) (fun k=>t.maps.length - k) AA.mixed hN
   ⟨0,by omega,[],by exact Qu (An @ik.eq_1 @z5.eq_1)⟩ fun k hk=>?_
  refine Qg ?_
  (refine Qa (fun h3=>?_) (fun h3=>?_)<;>try exact h3.elim)
  ·have bF:k < t.maps.length:=by omega
   have a8:=vK t.maps k bF
   have uz:=Xov t.maps k bF S
   have Dd:=Td t.maps k S
   generalize t.maps[k]=m at *
   obtain ⟨mp,ms,mi,ma,mt⟩:=m
   simp only[Mp.enc]at a8
   dsimp only at uz
   refine Qh (An @aJ @a8) ?_
   (refine Qa (fun h4=>?_) (fun h4=>?_)<;>try exact h4.elim)
   ·rw[if_pos af]at uz
    refine Qg ?_
    refine ⟨k + 1,by omega,⟨[],?_⟩,by omega⟩
    exact Qu @uz
   ·rw[if_neg af]at uz
    refine Qg ?_
    refine ⟨k + 1,by omega,⟨[],?_⟩,by omega⟩
    exact Qu @uz
  ·have:k=t.maps.length:=by omega
   subst this
   have dz:t.maps.take t.maps.length=t.maps:=List.take_length
   rw[dz]
   have hmc:=Td t.maps t.maps.length S
   rw[dz]at hmc
   have Te:=Lib.hid (H2.out kS)
   have Tf:=Lib.hid (H3.out kS)
   clear H1 H2 H3
   generalize Zw t.maps S=many at *
   refine Qg ?_
   (refine Qa (fun h4=>?_) (fun h4=>?_)<;>try exact h4.elim)
   ·have hR:=Te.out af
    subst hR
    refine Qg ?_
    exact Kh (ip [0]) (xL c.gl t ht.wf 6) (An @e2 (An @Jo.eq_1 (An @Mp.enc.eq_1 (An @ff.eq_1 (An @ik.eq_1 @z5.eq_1)))))
   have vP:=Lib.hid (Tf.out af)
   clear Tf Te
   by_cases uA:1≤t.bC S
   ·have fo:vM t S=.isl (Wi t S 6).length (Qp (eO (Wi t S 6))):=if_pos uA
    have gQ:jS t S=Wi t S 6:=if_pos uA
    rw[fo]at sW
    rw[gQ]at vP
    have hWb:∀ k ∈ Wi t S 6,k < 6:=fun k hk=>Yaf hk
    have sD:=SR t S 6
    clear fo gQ
    generalize Wi t S 6=W at *
    have Gx:=C3 W
    have AH:=fun port=>SQ c.gl t ht.wf ht.len ae (t.bC S - 1) port
    generalize kx:xN t ae (t.bC S - 1)=fr at *
    obtain ⟨a,ha⟩:∃ a:Int,a=t.bC S - 1:=⟨_,rfl⟩
    rw[← ha]at vP AH kx
    refine Qh @e2 ?_
    refine Xf sW @e2 ?_
    refine Xs (fun k:Nat=>k≤W.length∧fr (W.drop k)=fr W)
     (fun k=>⟨[(1,.int .i64 ae),(2,.int .i64 S),(3,.int .i64 aR),(4,.int .i64 draw),(5,.ptr 0 0),(10,.ptr 1 0),(11,.ptr 2 0),(14,.cl 125 [.ptr 0 0]),(20,.isl W.length (Qp (eO W))),(85,.isl W.length (Qp (eO W))),(86,.int .i64 W.length),(87,.int .i64 k)],[(0,.cells t.enc),(1,.cells ik),(2,.cells z5)],3⟩) (fun k=>W.length - k) AA.mixed hN
     ⟨0,⟨by omega,rfl⟩,[],by exact Qw⟩ fun k hk=>?_
    obtain ⟨hk,jg⟩:=hk
    refine Qg ?_
    (refine Qa (fun h5=>?_) (fun h5=>?_)<;>try exact h5.elim)
    ·have bF:k < W.length:=by omega
     have pP:=hWb _ (List.getElem_mem bF)
     have gJ:W.drop k=W[k]::W.drop (k + 1):=List.drop_eq_getElem_cons bF
     have eE:=SH W k bF
     rw[show W.getD k 0=W[k] by simp[List.getD,bF]]at eE
     rw[gJ]at jg
     generalize W[k]=q at *
     refine Qh (An @Gx @eE) ?_
     refine Xs (fun i:Nat=>i≤8∧((Ue q).drop i++(W.drop (k + 1)).flatMap Ue).find? (xM t ae a)=fr W)
      (fun i=>⟨[(1,.int .i64 ae),(2,.int .i64 S),(3,.int .i64 aR),(4,.int .i64 draw),(5,.ptr 0 0),(10,.ptr 1 0),(11,.ptr 2 0),(14,.cl 125 [.ptr 0 0]),(20,.isl W.length (Qp (eO W))),(22,.int .i64 q),(85,.isl W.length (Qp (eO W))),(86,.int .i64 W.length),(87,.int .i64 k),(91,.int .i64 i)],[(0,.cells t.enc),(1,.cells ik),(2,.cells z5)],3⟩) (fun i=>8 - i) AA.mixed hN
      ⟨0,⟨by omega,by rw[← jg,← kx];rfl⟩,[],by exact Qw⟩ fun i hi=>?_
     obtain ⟨hi,kc⟩:=hi
     refine Qg ?_
     (refine Qa (fun h6=>?_) (fun h6=>?_)<;>try exact h6.elim)
     ·have hi8:i < 8:=by omega
      rw[Xwl q t ae a _ i hi8]at kc
      have hB:=AH (1024 + (q:Int) * 8 + i)
      unfold xM at kc
      cases Tg:t.maps.find? (Wc ae a (1024 + (q:Int) * 8 + i)) with
      | none =>
       rw[Tg]at kc hB
       simp only[Option.isNone_none,if_true]at kc
       unfold mL ff Mp.enc at hB
       dsimp only at hB
       have hR:=vP.out.1 _ kc.symm
       subst hR
       have De:=Tb.aD (t:=t.add ⟨ae,S,aR,a,1024 + (q:Int) * 8 + i⟩) ⟨ht.wf.aq,ht.wf.home⟩
       have iS:=L7 c.gl t ht.wf (show t.maps.length≤100000 by omega) ⟨ae,S,aR,a,1024 + (q:Int) * 8 + i⟩ false
       unfold Jo Mp.enc at iS
       generalize Tb.add _ _=T3 at *
       dsimp only at iS
       subst ha
       refine Qh (An @e2 @eh) ?_
       refine Xf hB @e2 ?_
       (refine Qa (fun h7=>?_) (fun h7=>?_)<;>try exact h7.elim)
       refine Qh (An @e2 @eh) ?_
       exact zQ iS (An @e2 (An @De (An @Jo.eq_1 (An @Mp.enc.eq_1 (An @ik.eq_1 @z5.eq_1)))))
      | some m =>
       rw[Tg]at kc hB
       simp only[Option.isNone_some,Bool.false_eq_true,if_false]at kc
       unfold mL Mp.enc at hB
       dsimp only at hB
       subst ha
       refine Qh (An @e2 @eh) ?_
       refine Xf hB @e2 ?_
       (refine Qa (fun h7=>?_) (fun h7=>?_)<;>try exact h7.elim)
       refine Qg ?_
       refine ⟨i + 1,⟨by omega,kc⟩,⟨[],?_⟩,by omega⟩
       exact Qw
     ·have:i=8:=by omega
      subst this
      rw[show (Ue q).drop 8=[] by simp[Ue],List.nil_append]at kc
      refine Qg ?_
      refine ⟨k + 1,⟨by omega,by rw[← kc,← kx];rfl⟩,⟨[],?_⟩,by omega⟩
      exact Qw
    ·have:k=W.length:=by omega
     subst this
     rw[List.drop_length]at jg
     have AJ:=vP.out.2 (by rw[← jg,← kx];rfl)
     have AK:=Lib.hid AJ.1
     have AL:=Lib.hid AJ.2
     clear vP AJ
     refine Qg ?_
     (refine Qa (fun h6=>?_) (fun h6=>?_)<;>try exact h6.elim)
     ·have hR:=AK.out af
      subst hR
      refine Qg ?_
      exact Kh (ip [0]) (xL c.gl t ht.wf 6) (An @e2 (An @Jo.eq_1 (An @Mp.enc.eq_1 (An @ff.eq_1 (An @ik.eq_1 @z5.eq_1)))))
     have xQ:=Lib.hid ((AL.out af).1 uA)
     clear AK AL
     refine Qh (An @e2 @eh) ?_
     have e4:=Tb.eX ht.wf
     (refine Qa (fun h7=>?_) (fun h7=>?_)<;>try exact h7.elim)
     ·omega
     clear h7
     rw[← ha]
     have hT:=SM c.gl t.aq ht.wf.aq S a draw
     have xR:=LB t.aq ht.wf.aq S a draw
     have xS:=ay.nE t.aq ht.wf.aq S a draw
     generalize hx:t.aq.take S a draw=x at *
     obtain ⟨tp,tk,te⟩:=x
     unfold ur at hT
     dsimp only at hT xS
     have Ma:=ay.aD xS
     refine Qh (An @e2 @e4) ?_
     refine Xf hT (An @e2 @Ma) ?_
     (refine Qa (fun h8=>?_) (fun h8=>?_)<;>try exact h8.elim)
     ·have hR:=xQ.out.trans (show mN (t.tk ae S aR a draw)=Jo t ff false te by unfold Tb.tk mN;rw[hx];simp[h8])
      subst hR
      refine Qg ?_
      exact Kh (ip [0]) (xL c.gl t ht.wf te) (An @e2 (An @Jo.eq_1 (An @Mp.enc.eq_1 (An @ff.eq_1 (An @ik.eq_1 @z5.eq_1)))))
     have Df:te=0:=by simpa using h8
     subst Df
     cases xR with
     | no _ he=>exact (he rfl).elim
     | yes b kk _ jT nn _ _ eV _ _ _ =>
     have iT:=xS
     have Mb:=Tb.gp ht.wf iT
     have mH:(⟨t.aq.put b kk (S + 1),t.home,t.maps⟩:Tb).wf:=⟨iT,ht.wf.home⟩
     have es2:(⟨t.aq.put b kk (S + 1),t.home,t.maps⟩:Tb).enc.set (21 + S) (.int .i64 (a + 1))=(⟨t.aq.put b kk (S + 1),t.home.set S (a + 1),t.maps⟩:Tb).enc:=Tb.gu mH rf (a + 1)
     have fG:(⟨t.aq.put b kk (S + 1),t.home.set S (a + 1),t.maps⟩:Tb).wf:=⟨iT,by rw[List.length_set];exact ht.wf.home⟩
     have Mc:=Tb.aD fG
     have Md:=Tb.aD mH
     have iS:=L7 c.gl _ fG (show t.maps.length≤100000 by omega) ⟨ae,S,aR,a,1024 + (kk:Int) * 8⟩ true
     have hR:=xQ.out.trans (show mN (t.tk ae S aR a draw)=Jo (Tb.add ⟨t.aq.put b kk (S + 1),t.home.set S (a + 1),t.maps⟩ ⟨ae,S,aR,a,1024 + (kk:Int) * 8⟩) ⟨ae,S,aR,a,1024 + (kk:Int) * 8⟩ true 0 by unfold Tb.tk mN;rw[hx];rfl)
     subst hR
     clear xQ
     have De:=Tb.aD (t:=Tb.add ⟨t.aq.put b kk (S + 1),t.home.set S (a + 1),t.maps⟩ ⟨ae,S,aR,a,1024 + (kk:Int) * 8⟩) ⟨fG.aq,fG.home⟩
     unfold Jo Mp.enc at iS
     generalize Tb.add _ _=T3 at *
     generalize (⟨t.aq.put b kk (S + 1),t.home.set S (a + 1),t.maps⟩:Tb)=T2 at *
     generalize (⟨t.aq.put b kk (S + 1),t.home,t.maps⟩:Tb)=T1 at *
     dsimp only at iS
     refine Qh (An @e2 (An @Mb (An @es2 (An @Mc @Md)))) ?_
     exact zQ iS (An @e2 (An @De (An @Jo.eq_1 (An @Mp.enc.eq_1 (An @ik.eq_1 @z5.eq_1)))))
   ·have fo:vM t S=.nils:=if_neg uA
    have gQ:jS t S=[]:=if_neg uA
    rw[fo]at sW
    rw[gQ]at vP
    refine Qh @e2 ?_
    refine Xf sW @e2 ?_
    refine Xs (fun _:Unit=>True)
     (fun _=>⟨[(1,.int .i64 ae),(2,.int .i64 S),(3,.int .i64 aR),(4,.int .i64 draw),(5,.ptr 0 0),(10,.ptr 1 0),(11,.ptr 2 0),(14,.cl 125 [.ptr 0 0]),(20,.nils),(85,.nils),(86,.int .i64 0),(87,.int .i64 0)],[(0,.cells t.enc),(1,.cells ik),(2,.cells z5)],3⟩) (fun _=>0) AA.mixed hN
     ⟨(),trivial,[],by exact Qw⟩ fun _ _=>?_
    refine Qg ?_
    (refine Qa (fun h5=>?_) (fun h5=>?_)<;>try exact h5.elim)
    refine Qg ?_
    (refine Qa (fun h6=>?_) (fun h6=>?_)<;>try exact h6.elim)
    refine Qh (An @e2 @eh) ?_
    have e4:=Tb.eX ht.wf
    have hP:=Xs8 c.gl t.aq ht.wf.aq draw
    have AJ:=(vP.out.2 rfl).2 av
    have Me:=AJ.2 uA
    have AK:=Lib.hid Me.1
    have AL:=Lib.hid Me.2
    clear vP AJ Me
    have mh:=Yd1 t.aq draw
    generalize t.aq.pick draw=pk at *
    obtain ⟨pa,pe⟩:=pk
    dsimp only at AK AL hP
    (refine Qa (fun h7=>?_) (fun h7=>?_)<;>try exact h7.elim)
    rotate_left
    ·omega
    refine Qh (An @e2 @e4) ?_
    refine Xf hP @e2 ?_
    (refine Qa (fun h8=>?_) (fun h8=>?_)<;>try exact h8.elim)
    ·have hR:=AK.out h8
     subst hR
     refine Qg ?_
     exact Kh (ip [0]) (xL c.gl t ht.wf pe) (An @e2 (An @Jo.eq_1 (An @Mp.enc.eq_1 (An @ff.eq_1 (An @ik.eq_1 @z5.eq_1)))))
    have xE:pe=0:=by simpa using h8
    subst xE
    have xQ:=Lib.hid (AL.out rfl)
    have hT:=SM c.gl t.aq ht.wf.aq S pa draw
    have xR:=LB t.aq ht.wf.aq S pa draw
    have xS:=ay.nE t.aq ht.wf.aq S pa draw
    generalize hx:t.aq.take S pa draw=x at *
    obtain ⟨tp,tk,te⟩:=x
    unfold ur at hT
    dsimp only at hT xS
    have Ma:=ay.aD xS
    clear h8
    refine Qh (An @e2 @e4) ?_
    refine Xf hT (An @e2 @Ma) ?_
    (refine Qa (fun h8=>?_) (fun h8=>?_)<;>try exact h8.elim)
    ·have hR:=xQ.out.trans (show mN (t.tk ae S aR pa draw)=Jo t ff false te by unfold Tb.tk mN;rw[hx];simp[h8])
     subst hR
     refine Qg ?_
     exact Kh (ip [0]) (xL c.gl t ht.wf te) (An @e2 (An @Jo.eq_1 (An @Mp.enc.eq_1 (An @ff.eq_1 (An @ik.eq_1 @z5.eq_1)))))
    have Df:te=0:=by simpa using h8
    subst Df
    cases xR with
    | no _ he=>exact (he rfl).elim
    | yes b kk _ jT nn _ _ eV _ _ _ =>
    have iT:=xS
    have Mb:=Tb.gp ht.wf iT
    have mH:(⟨t.aq.put b kk (S + 1),t.home,t.maps⟩:Tb).wf:=⟨iT,ht.wf.home⟩
    have es2:(⟨t.aq.put b kk (S + 1),t.home,t.maps⟩:Tb).enc.set (21 + S) (.int .i64 (pa + 1))=(⟨t.aq.put b kk (S + 1),t.home.set S (pa + 1),t.maps⟩:Tb).enc:=Tb.gu mH rf (pa + 1)
    have fG:(⟨t.aq.put b kk (S + 1),t.home.set S (pa + 1),t.maps⟩:Tb).wf:=⟨iT,by rw[List.length_set];exact ht.wf.home⟩
    have Mc:=Tb.aD fG
    have Md:=Tb.aD mH
    have iS:=L7 c.gl _ fG (show t.maps.length≤100000 by omega) ⟨ae,S,aR,pa,1024 + (kk:Int) * 8⟩ true
    have hR:=xQ.out.trans (show mN (t.tk ae S aR pa draw)=Jo (Tb.add ⟨t.aq.put b kk (S + 1),t.home.set S (pa + 1),t.maps⟩ ⟨ae,S,aR,pa,1024 + (kk:Int) * 8⟩) ⟨ae,S,aR,pa,1024 + (kk:Int) * 8⟩ true 0 by unfold Tb.tk mN;rw[hx];rfl)
    subst hR
    clear xQ AL AK
    have De:=Tb.aD (t:=Tb.add ⟨t.aq.put b kk (S + 1),t.home.set S (pa + 1),t.maps⟩ ⟨ae,S,aR,pa,1024 + (kk:Int) * 8⟩) ⟨fG.aq,fG.home⟩
    unfold Jo Mp.enc at iS
    generalize Tb.add _ _=T3 at *
    generalize (⟨t.aq.put b kk (S + 1),t.home.set S (pa + 1),t.maps⟩:Tb)=T2 at *
    generalize (⟨t.aq.put b kk (S + 1),t.home,t.maps⟩:Tb)=T1 at *
    dsimp only at iS
    refine Qh (An @e2 (An @Mb (An @es2 (An @Mc @Md)))) ?_
    exact zQ iS (An @e2 (An @De (An @Jo.eq_1 (An @Mp.enc.eq_1 (An @ik.eq_1 @z5.eq_1)))))
theorem Th (x:Tb × Mp × Bool × Int) (n:Nat):Qe n (mN x)=True:=L8 ..
theorem Xun (x:Tb × Mp × Bool × Int) (ρ:Nat→Nat):aE ρ (mN x)=mN x:=S8 ..
attribute [go_sem] Th Xun
theorem Xvq (gl:Nat→AV) (t:Tb) (ht:t.ok) (ae s aR draw:Int):PS Tryz.prog gl 89 [.agg t.enc,.int .i64 ae,.int .i64 s,.int .i64 aR,.int .i64 draw] (mN (t.cz ae s aR draw)):=by
 by_cases hb:Wu t=false∨Jm ae s aR=false
 ·have e:t.cz ae s aR draw=(t,ff,false,2):=if_pos hb
  rw[e]
  exact Xl3 gl t ht ae s aR draw hb
 have e:t.cz ae s aR draw=match t.maps.find? (Zi ae s aR) with
  | some m=>(t,m,false,0)
  | none =>
   if 12≤Zw t.maps s then (t,ff,false,6) else
   match xN t ae (t.bC s.toNat - 1) (jS t s.toNat) with
   | some port=>(t.add ⟨ae,s,aR,t.bC s.toNat - 1,port⟩,⟨ae,s,aR,t.bC s.toNat - 1,port⟩,false,0)
   | none =>
    if 2≤(jS t s.toNat).length then (t,ff,false,6) else
    if 1≤t.bC s.toNat then t.tk ae s aR (t.bC s.toNat - 1) draw else
    if (t.aq.pick draw).2≠0 then (t,ff,false,(t.aq.pick draw).2) else t.tk ae s aR (t.aq.pick draw).1 draw:=if_neg hb
 have hg:Wu t=true:=by
  cases h:Wu t
  ·exact (hb (Or.inl h)).elim
  ·rfl
 have hk:Jm ae s aR=true:=by
  cases h:Jm ae s aR
  ·exact (hb (Or.inr h)).elim
  ·rfl
 obtain ⟨_,⟨kX,xK⟩,_⟩:=Wd hk
 obtain ⟨S,rfl⟩:=Int.eq_ofNat_of_zero_le kX
 rw[Int.toNat_natCast]at e
 refine Xx1 gl t ht ((xO t).1 hg) ae S aR draw hk _ (by rw[Th];trivial) (Lib.hid fun m hm=>?_) (Lib.hid fun hm fC=>?_) (Lib.hid fun hm fC=>⟨fun port hp=>?_,fun hp=>⟨fun h2=>?_,fun h2=>⟨fun h1=>?_,fun h1=>⟨fun hz=>?_,fun hz=>?_⟩⟩⟩⟩)
 ·rw[e,hm];rfl
 ·rw[e,hm];dsimp only;rw[if_pos fC];rfl
 ·rw[e,hm];dsimp only;rw[if_neg fC,hp];rfl
 ·rw[e,hm];dsimp only;rw[if_neg fC,hp];dsimp only;rw[if_pos h2];rfl
 ·rw[e,hm];dsimp only;rw[if_neg fC,hp];dsimp only;rw[if_neg h2,if_pos h1]
 ·rw[e,hm];dsimp only;rw[if_neg fC,hp];dsimp only;rw[if_neg h2,if_neg h1,if_pos hz];rfl
 ·rw[e,hm];dsimp only;rw[if_neg fC,hp];dsimp only;rw[if_neg h2,if_neg h1,if_neg (by simp[hz])]
theorem Xzd:jK Tryz.prog 100 69=some [.int .i64,.int .i64,.int .i64,.int .i64,.int .i64]:=by kernel_rfl
theorem Ti {x y:Mp}:x=y ↔ x.enc=y.enc:=by
 cases x;cases y;simp[Mp.enc]
theorem Dg {c:Cx} {ne:Bool} (x y:Mp):pD Tryz.prog c (.cA ne 69) [.agg x.enc,.agg y.enc] (.bool (ne != decide (x=y))) :=
 JL Xzd (by kernel_rfl) (by kernel_rfl) rfl rfl (by rw[decide_eq_true_eq];exact Ti)
def vQ:List Mp→Mp→Nat→Int
 | [],_,_=>-1
 | x::l,m,k=>if m=x then k else vQ l m (k + 1)
set_option maxHeartbeats 1000000 in
theorem Tj (gl:Nat→AV) (l:List Mp) (hl:l.length≤4611686018427387904) (m:Mp):PS Tryz.prog gl 140 [.isl l.length (cq l),.agg m.enc] (.int .i64 (vQ l m 0)):=by
 refine SA.ps (of_decide_eq_true rfl) (by simp[Qe]) fun c hN hg=>?_
 conv in aQ _ _=>cbv
 have aJ:=Jp l
 have pN:m.enc.length=5:=rfl
 have sA:∀ n,ai n m.enc=True:=fun n=>by simp[Mp.enc,ai,Qe]
 have Gy:∀ ρ,az ρ m.enc=m.enc:=fun ρ=>by simp[Mp.enc,az,aE]
 refine Qg ?_
 refine Xs (fun k:Nat=>k≤l.length∧vQ (l.drop k) m k=vQ l m 0) (fun k=>⟨[(0,.isl l.length (cq l)),(3,.ptr 0 0),(6,.isl l.length (cq l)),(7,.int .i64 l.length),(8,.int .i64 k)],[(0,.cells m.enc)],1⟩) (fun k=>l.length - k) SA.mixed hN
  ⟨0,⟨by omega,rfl⟩,[],by exact Qu @sA⟩ fun k hk=>?_
 obtain ⟨hk,cJ⟩:=hk
 refine Qg ?_
 (refine Qa (fun h1=>?_) (fun h1=>?_)<;>try exact h1.elim)
 ·have bF:k < l.length:=by omega
  have a8:=vK l k bF
  have gJ:l.drop k=l[k]::l.drop (k + 1):=List.drop_eq_getElem_cons bF
  rw[gJ]at cJ
  rw[vQ]at cJ
  generalize l[k]=x at *
  have heq:=@Dg c false m x
  refine Qh (An @aJ (An @a8 @pN)) ?_
  refine Xf heq (An @aJ (An @a8 @pN)) ?_
  (refine Qa (fun h2=>?_) (fun h2=>?_)<;>try exact h2.elim)
  ·rw[if_pos (by simpa using h2)]at cJ
   exact Qu @cJ
  ·rw[if_neg (by simpa using h2)]at cJ
   refine Qg ?_
   refine ⟨k + 1,⟨by omega,cJ⟩,⟨[],?_⟩,by omega⟩
   exact Qu (An @sA @Gy)
 ·have:k=l.length:=by omega
  subst this
  rw[List.drop_length]at cJ
  have cJ:(-1:Int)=vQ l m 0:=cJ
  exact Qu @cJ
theorem Tl:zU Tryz.prog 37 5:=KE (by kernel_rfl)
theorem Xrs (l:List Mp) (k:Nat) (h:k≤l.length):(cq l).drop (k * 5)=cq (l.drop k):=by
 have e:cq l=cq (l.take k)++cq (l.drop k):=by rw[LC,List.take_append_drop]
 rw[e,List.drop_append_of_le_length (by rw[Jp,List.length_take];omega),List.drop_of_length_le (by rw[Jp,List.length_take];omega),List.nil_append]
theorem Xly (l:List Mp) (i:Nat) (hi:i < l.length):(cq l).take (i * 5)++(cq l).drop ((i + 1) * 5)=cq (l.eraseIdx i):=by
 rw[Sw l i af,Xrs l (i + 1) af,LC,List.eraseIdx_eq_take_drop_succ]
set_option maxHeartbeats 1000000 in
theorem Xkb (gl:Nat→AV) (l:List Mp) (hl:l.length≤1000000) (i:Nat) (hi:i < l.length):GS Tryz.prog gl 141 [.sl 5 0 0 l.length l.length,.int .i64 i,.int .i64 ((i:Int) + 1)] [(0,.cells (cq l))] 1
  (.sl 5 0 0 (l.length - 1) l.length) [(0,.cells (cq (l.eraseIdx i)))] 1:=by
 refine Xd9.gs (of_decide_eq_true rfl) (by simp[Bk.live]) fun c hN hg=>?_
 conv in aQ _ _=>cbv
 have aJ:=Jp l
 have y1:i - 0=i:=by omega
 have y2:l.length - 0=l.length:=by omega
 have y3:((i:Int) + 1).toNat=i + 1:=by omega
 have y4:i + (l.length - (i + 1))=l.length - 1:=by omega
 have y5:l.length - (l.length - 1)=1:=by omega
 have y6:i + 0=i:=by omega
 have y7:(0:Nat) * 5=0:=by omega
 have mO:=Xly l i hi
 have xI:=Jp (l.eraseIdx i)
 rw[List.length_eraseIdx,if_pos hi]at xI
 have ea:(cq (l.eraseIdx i)).take ((l.length - 1) * 5)=cq (l.eraseIdx i):=List.take_of_length_le af
 refine Qh @aJ ?_
 ((first|apply Xt|apply Xl|apply Xd|apply Xb)<;>(first|exact (Yba (by omega) (by omega) (by omega) (by omega))|(refine XG ?_;first|exact rfl|exact True.intro|((try (repeat' with_reducible refine And.intro ?_ ?_));(try any_goals (first|refine zm ?_|exact CL|fail))))))
 (refine Qa (fun h1=>?_) (fun h1=>?_)<;>try exact h1.elim)
 ·omega
 refine Qh @aJ ?_
 by_cases h2:i + 1 < l.length
 ·refine Qh @aJ ?_
  ((first|apply RC|apply RD);(have au:=@aJ;have aH:=@y1;have aV:=@y2;have bD:=@y3;have cC:=@mO;have dE:=@y4;refine XG ?_;clear au aH aV bD cC dE;((try (repeat' with_reducible refine And.intro ?_ ?_));(try any_goals (first|refine zm ?_|exact CL|fail)))))
  (refine FV Tl ?_;(have au:=@aJ;have aH:=@y1;have aV:=@y2;have bD:=@y3;have cC:=@y5;have dE:=@mO;have fe:=@y4;have jh:=@ea;refine XG ?_;clear au aH aV bD cC dE fe jh;((try (repeat' with_reducible refine And.intro ?_ ?_));(try any_goals (first|refine zm ?_|exact CL|fail)))))
  refine Qg ?_
  refine ⟨[],?_⟩
  exact Qw
 ·have:i + 1=l.length:=by omega
  have y8:l.length - 1=i:=by omega
  have uB:(cq l).take (i * 5)=cq (l.eraseIdx i):=by rw[← mO,List.drop_of_length_le af,List.append_nil]
  rw[y8]at ea
  refine Qh @aJ ?_
  ((first|apply RC|apply RD);(have au:=@aJ;have aH:=@y1;have aV:=@y2;have bD:=@y6;have cC:=@y7;have dE:=@List.append_nil.{0};have fe:=@uB;refine XG ?_;clear au aH aV bD cC dE fe;((try (repeat' with_reducible refine And.intro ?_ ?_));(try any_goals (first|refine zm ?_|exact CL|fail)))))
  (refine FV Tl ?_;(have au:=@aJ;have aH:=@y1;have aV:=@y2;have bD:=@y3;have cC:=@y5;have dE:=@y8;have fe:=@ea;refine XG ?_;clear au aH aV bD cC dE fe;((try (repeat' with_reducible refine And.intro ?_ ?_));(try any_goals (first|refine zm ?_|exact CL|fail)))))
  refine Qg ?_
  refine ⟨[],?_⟩
  exact Qu @y8
end Go.Proofs.YtogckmommodmhaaGreatDoor
