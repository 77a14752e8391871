import Derived.Test.YtogckmommodmhaaGreatDoorZt5
import Derived.Test.YtogckmommodmhaaGreatDoorZt1
import Derived.Test.YtogckmommodmhaaGreatDoorZt6
import Derived.Test.YtogckmommodmhaaGreatDoorRows
import Derived.KernelRfl
import Derived.Lib.Hide
set_option maxHeartbeats 16000000
namespace Go.Proofs.YtogckmommodmhaaGreatDoor
open Go.RowKit
set_option linter.all false
set_option linter.unusedSimpArgs false
set_option maxRecDepth 100000
theorem AO (k n:Int) (h:0 < n):-n < k.tmod n∧k.tmod n < n:=by
 have h1:=Int.tmod_lt_of_pos k h
 have h2:=Int.tmod_lt_of_pos (-k) h
 rw[Int.neg_tmod]at h2
 omega
structure aw where
 own:List Int
 dr:List Bool
structure aw.wf (p:aw):Prop where
 own:p.own.length=18
 dr:p.dr.length=3
def aw.row (p:aw) (a:Nat):List Int:=(p.own.drop (a * 6)).take 6
def kG (n:Int):Bool:=decide (0≤n) && decide (n≤8)
def aw.ca (p:aw):Bool:=p.own.all kG
theorem Kn (p:aw) (h:p.wf) (a:Nat) (ha:a < 3):(p.row a).length=6:=by
 simp[aw.row,h.own];omega
theorem Sv (p:aw) (a j:Nat) (hj:j < 6):(p.row a)[j]?=p.own[a * 6 + j]?:=by
 simp[aw.row,hj]
theorem Xvr (p:aw) (h:(p.own.take (6 * 3)).all kG=true) (hp:p.wf):p.ca=true:=by
 rw[List.take_of_length_le (by rw[hp.own];omega)]at h;exact h
theorem Xxb (p:aw) (i:Nat) (x:Int) (hx:p.own[i]?=some x) (hb:kG x=false):p.ca=false:=by
 unfold aw.ca
 rw[List.all_eq_false]
 exact ⟨x,List.mem_of_getElem? hx,by simp[hb]⟩
theorem Xmr (p:aw) (i:Nat) (x:Int) (hx:p.own[i]?=some x) (h:(p.own.take i).all kG=true) (hb:kG x=true):(p.own.take (i + 1)).all kG=true:=by
 rw[List.take_add_one,hx]
 simp only[List.all_append,h,Bool.true_and]
 simp[hb]
theorem Xvn (x:Int) (h:x < 0):kG x=false:=by unfold kG;simp;omega
theorem Xto (x:Int) (h:8 < x):kG x=false:=by unfold kG;simp;omega
theorem Xsr (x:Int) (h0:¬ x < 0) (h:¬ 8 < x):kG x=true:=by unfold kG;simp;omega
def Jq (a:Int):Bool:=decide (0≤a) && decide (a < 3)
theorem Qsv (k n:Int) (hn:0 < n):(if k.tmod n < 0 then k.tmod n + n else k.tmod n)=k % n:=by
 rw[Int.tmod_eq_emod]
 have h1:=Int.emod_nonneg k (show n≠0 by omega)
 have h2:=Int.emod_lt_of_pos k hn
 have e:(n.natAbs:Int)=n:=by omega
 by_cases h:0≤k∨n ∣ k
 ·rw[if_pos h];simp;omega
 ·rw[if_neg h,e]
  have:k % n≠0:=fun h0=>h (.inr (Int.dvd_of_emod_eq_zero h0))
  rw[if_pos af];omega
def Uz (l:List Int):Nat:=l.countP (· == 0)
def aw.left (p:aw) (a:Int):Nat:=if Jq a=true then Uz (p.row a.toNat) else 0
theorem Dy (p:aw) (a:Nat) (h:a < 3):p.left a=Uz (p.row a):=by
 unfold aw.left;rw[if_pos (by unfold Jq;simp;omega)];simp
theorem Xtn (p:aw) (a:Int) (h:Jq a=false):p.left a=0:=by unfold aw.left;rw[if_neg (by rw[h];simp)]
theorem LO (l:List Int) (m:Nat) (x:Int) (h:l[m]?=some x):Uz (l.take (m + 1))=Uz (l.take m) + (if x=0 then 1 else 0):=by
 unfold Uz
 rw[List.take_add_one,h]
 simp[List.countP_append,List.countP_cons]
theorem LP (l:List Int) (m:Nat):Uz (l.take m)≤m:=by
 unfold Uz
 have:=List.countP_le_length (p:=(· == 0)) (l:=l.take m)
 have:=List.length_take_le m l
 omega
def aw.iy (p:aw) (a:Nat):Bool:=p.dr.getD a false
def aw.open_ (p:aw) (a:Nat):Bool:=!p.iy a && decide (0 < p.left a)
def aw.opens (p:aw) (k:Nat):List Nat:=(List.range k).filter p.open_
theorem Xes (p:aw) (k:Nat):p.opens (k + 1)=p.opens k++if p.open_ k then [k] else []:=by
 unfold aw.opens;rw[List.range_succ,List.filter_append];simp[List.filter_cons]
theorem Xu1 (p:aw) (k:Nat):(p.opens k).length≤k:=by
 have:=List.length_filter_le p.open_ (List.range k);simpa [aw.opens] using this
def aw.pick (p:aw) (draw:Int):Int × Int :=
 if p.ca=true then (if (p.opens 3).length=0 then (0,10) else (((p.opens 3).getD (draw % ((p.opens 3).length:Int)).toNat 0:Nat),0)) else (0,2)
def lG (l:List Int) (n:Nat):List Nat:=(List.range n).filter fun k=>l.getD k 1 == 0
theorem Sw (l:List Int) (n:Nat):lG l (n + 1)=lG l n++if l.getD n 1=0 then [n] else []:=by
 unfold lG;rw[List.range_succ,List.filter_append];simp[List.filter_cons]
theorem GL (l:List Int):∀ n,n≤l.length→(lG l n).length=Uz (l.take n)
 | 0,_=>by simp[lG,Uz]
 | n + 1,h=>by
  rw[Sw,List.length_append,GL l n af,LO l n l[n] (List.getElem?_eq_getElem af)]
  have:l.getD n 1=l[n]:=by simp[show n < l.length by omega]
  rw[this];split<;>simp
theorem Sx (l:List Int) (m:Nat) (hm:m < l.length) (hx:l[m]?=some 0):∀ n,m < n→(lG l n)[Uz (l.take m)]?=some m
 | 0,h=>by omega
 | n + 1,h=>by
  rw[Sw]
  by_cases e:m=n
  ·subst e
   have:l.getD m 1=0:=by simp[hx]
   rw[List.getElem?_append_right (by rw[GL l m af];omega),GL l m af,this]
   simp
  ·have ih:=Sx l m hm hx n af
   rw[List.getElem?_append_left (List.getElem?_eq_some_iff.1 ih).1]
   exact ih
def aw.put (p:aw) (a k:Nat) (o:Int):aw:={ p with own:=p.own.set (a * 6 + k) o }
theorem aw.dc (p:aw) (hp:p.wf) (a k:Nat) (o:Int):(p.put a k o).wf:=⟨by simp[aw.put,hp.own],hp.dr⟩
def aw.pM (p:aw) (a:Nat) (draw:Int):Nat:=(lG (p.row a) 6).getD (draw % (p.left a:Int)).toNat 0
def aw.take (p:aw) (s a draw:Int):aw × Int × Int :=
 if p.ca=true then
  (if Jq a=true∧0≤s∧s < 8 then
   (if p.iy a.toNat=true then (p,0,9) else
    (if p.left a=0 then (p,0,10) else (p.put a.toNat (p.pM a.toNat draw) (s + 1),(p.pM a.toNat draw:Nat),0)))
  else (p,0,7))
 else (p,0,2)
def aw.ow (p:aw) (a k:Nat):Int:=p.own.getD (a * 6 + k) 0
theorem aw.ua (p:aw) (h:p.ca=true) (a k:Nat):0≤p.ow a k∧p.ow a k≤8:=by
 unfold aw.ow
 by_cases hi:a * 6 + k < p.own.length
 ·have:=List.all_eq_true.1 h p.own[a * 6 + k] (List.getElem_mem hi)
  unfold kG at this
  simp at this
  simp[hi];omega
 ·simp[Nat.le_of_not_lt hi]
def aw.bW (p:aw) (s a b:Int):aw × Int :=
 if p.ca=true then (if Jq a=true∧0≤b∧b < 6∧0≤s∧p.ow a.toNat b.toNat=s + 1 then (p.put a.toNat b.toNat 0,0) else (p,7)) else (p,2)
def aw.mM (p:aw) (a:Nat) (to:Bool):aw:={ p with dr:=p.dr.set a to }
theorem aw.nv (p:aw) (hp:p.wf) (a:Nat) (to:Bool):(p.mM a to).wf:=⟨hp.own,by simp[aw.mM,hp.dr]⟩
def aw.drain (p:aw) (a:Int) (to:Bool):aw × Int :=
 if Jq a=true then (if p.iy a.toNat=to then (p,8) else (p.mM a.toNat to,0)) else (p,7)
theorem aw.dT (p:aw) (hp:p.wf) (a:Int) (to:Bool):(p.drain a to).1.wf:=by
 unfold aw.drain
 split
 ·split
  ·exact hp
  ·exact p.nv hp _ _
 ·exact hp
theorem aw.uc (p:aw) (hp:p.wf) (s a b:Int):(p.bW s a b).1.wf:=by
 unfold aw.bW
 split
 ·split
  ·exact p.dc hp _ _ _
  ·exact hp
 ·exact hp
theorem aw.ny (p:aw) (hp:p.wf) (s a d:Int):(p.take s a d).1.wf:=by
 unfold aw.take
 split
 ·split
  ·split
   ·exact hp
   ·split
    ·exact hp
    ·exact p.dc hp _ _ _
  ·exact hp
 ·exact hp
theorem vB (a:Int) (h:Jq a=true):∃ k:Nat,a=k∧k < 3:=by
 unfold Jq at h;simp at h
 exact ⟨a.toNat,by omega,by omega⟩
theorem Yar (l:List Int) (n i:Nat) (h:i < (lG l n).length):(lG l n).getD i 0 < n:=by
 have h2:(lG l n).getD i 0 ∈ lG l n:=by
  rw[List.getD_eq_getElem?_getD,List.getElem?_eq_getElem h];exact List.getElem_mem h
 generalize (lG l n).getD i 0=x at h2
 unfold lG at h2
 exact List.mem_range.1 (List.mem_filter.1 h2).1
theorem GN (p:aw) (hp:p.wf) (a k:Nat) (ha:a < 3) (hk:k < 6):(p.row a)[k]?=some (p.ow a k):=by
 rw[Sv p a k hk]
 have:a * 6 + k < p.own.length:=by rw[hp.own];omega
 unfold aw.ow
 simp[this]
theorem Sy (p:aw) (hp:p.wf) (a:Nat) (draw:Int) (ha:a < 3) (hl:p.left a≠0):p.pM a draw < 6∧p.ow a (p.pM a draw)=0:=by
 have hlen:(lG (p.row a) 6).length=p.left a:=by
  rw[GL _ 6 (by rw[Kn p hp a ha];omega),Dy p a ha,List.take_of_length_le (by rw[Kn p hp a ha];omega)]
 have hm:(draw % (p.left a:Int)).toNat < (lG (p.row a) 6).length:=by
  have m0:=Int.emod_nonneg draw (show (p.left a:Int)≠0 by omega)
  have m1:=Int.emod_lt_of_pos draw (show (0:Int) < p.left a by omega)
  rw[hlen];omega
 have hk:p.pM a draw < 6:=Yar _ _ _ hm
 refine ⟨hk,?_⟩
 have h2:p.pM a draw ∈ lG (p.row a) 6:=by
  unfold aw.pM
  rw[List.getD_eq_getElem?_getD,List.getElem?_eq_getElem hm];exact List.getElem_mem hm
 generalize p.pM a draw=x at hk h2 ⊢
 unfold lG at h2
 have h3:=(List.mem_filter.1 h2).2
 have h4:=GN p hp a x ha hk
 rw[List.getD_eq_getElem?_getD,h4]at h3
 simpa using h3
inductive qP (p:aw) (s a:Int):aw × Int × Int→Prop
 | no (e:Int) (he:e≠0):qP p s a (p,0,e)
 | yes (b k:Nat) (ha:a=b) (hb:b < 3) (hk:k < 6) (h0:0≤s) (h8:s < 8) (hg:p.ca=true) (hd:p.iy b=false) (hl:p.left b≠0) (ho:p.ow b k=0):qP p s a (p.put b k (s + 1),(k:Int),0)
theorem LQ (p:aw) (hp:p.wf) (s a draw:Int):qP p s a (p.take s a draw):=by
 unfold aw.take
 split
 ·rename_i hg
  split
  ·rename_i h
   obtain ⟨b,rfl,hb⟩:=vB a h.1
   rw[show ((b:Int)).toNat=b by omega]
   split
   ·exact .no 9 aR
   ·rename_i hd
    split
    ·exact .no 10 aR
    ·rename_i hl
     obtain ⟨hk,ho⟩:=Sy p hp b draw hb hl
     exact .yes b _ rfl hb hk h.2.1 h.2.2 hg (by simpa using hd) hl ho
  ·exact .no 7 aR
 ·exact .no 2 aR
inductive mN (p:aw):Int × Int→Prop
 | no (e:Int) (he:e≠0):mN p (0,e)
 | yes (b:Nat) (hb:b < 3) (hg:p.ca=true) (hd:p.iy b=false) (hl:0 < p.left b):mN p ((b:Int),0)
theorem Yci (p:aw) (draw:Int):mN p (p.pick draw):=by
 unfold aw.pick
 split
 ·rename_i hg
  split
  ·exact .no 10 aR
  ·rename_i hl
   have hm:(draw % ((p.opens 3).length:Int)).toNat < (p.opens 3).length:=by
    have m0:=Int.emod_nonneg draw (show ((p.opens 3).length:Int)≠0 by omega)
    have m1:=Int.emod_lt_of_pos draw (show (0:Int) < (p.opens 3).length by omega)
    omega
   have h2:(p.opens 3).getD (draw % ((p.opens 3).length:Int)).toNat 0 ∈ p.opens 3:=by
    rw[List.getD_eq_getElem?_getD,List.getElem?_eq_getElem hm];exact List.getElem_mem hm
   generalize (p.opens 3).getD (draw % ((p.opens 3).length:Int)).toNat 0=x at h2
   unfold aw.opens at h2
   have h3:=List.mem_filter.1 h2
   have h4:=h3.2
   unfold aw.open_ at h4
   simp at h4
   exact .yes x (List.mem_range.1 h3.1) hg h4.1 h4.2
 ·exact .no 2 aR
def aw.enc (p:aw):List AV:=Qp p.own++Zh p.dr
theorem aw.aC {p:aw} (h:p.wf):p.enc.length=21:=by simp[aw.enc,Qp,Zh,h.own,h.dr]
theorem aw.bw (p:aw) (n:Nat):ai n p.enc=True:=by simp only[aw.enc,Cp,FN,QL,and_self]
theorem aw.gL {p:aw} (h:p.wf) {b:Nat} (hb:b < 3):p.enc.getD (18 + b) .any=.bool (p.iy b):=by
 unfold aw.enc aw.iy
 have e:(Qp p.own++Zh p.dr)[18 + b]?=(Zh p.dr)[b]?:=by
  rw[List.getElem?_append_right (by rw[Ye,h.own];omega),Ye,h.own,show 18 + b - 18=b by omega]
 have:=JW (l:=p.dr) (i:=b) (by rw[h.dr];exact hb)
 simp only[List.getD]at this ⊢
 rw[e,this]
theorem aw.dw (p:aw) (ρ:Nat→Nat):ay ρ p.enc=p.enc:=by simp only[aw.enc,Co,zV,QJ]
theorem aw.iz (p:aw) (s:FS):p.enc.map (Yt s)=p.enc:=by simp only[aw.enc,List.map_append,JX,QM]
attribute [go_sem] aw.bw aw.dw aw.iz
structure Mp where
 ae:Int
 s:Int
 aN:Int
 a:Int
 port:Int
 deriving DecidableEq
def Mp.enc (m:Mp):List AV:=[.int .i64 m.ae,.int .i64 m.s,.int .i64 m.aN,.int .i64 m.a,.int .i64 m.port]
def fF:Mp:=⟨0,0,0,0,0⟩
def cp (l:List Mp):List AV:=l.flatMap Mp.enc
theorem Jo (l:List Mp):(cp l).length=l.length * 5:=by
 induction l with
 | nil=>rfl
 | cons e l ih=>simp[cp,Mp.enc]at ih ⊢;omega
theorem vC (l:List Mp) (k:Nat) (h:k < l.length):((cp l).drop (k * 5)).take 5=(l[k]).enc:=by
 induction l generalizing k with
 | nil=>simp at h
 | cons e l ih =>
  cases k with
  | zero=>simp[cp,Mp.enc]
  | succ k =>
   have:=ih k (by simpa using h)
   have e1:cp (e::l)=e.enc++cp l:=by simp[cp]
   rw[e1,List.drop_append,List.drop_eq_nil_of_le (by simp[Mp.enc];omega)]
   have e2:(k + 1) * 5 - e.enc.length=k * 5:=by simp[Mp.enc];omega
   rw[e2];simpa using this
theorem LR (a b:List Mp):cp a++cp b=cp (a++b):=by simp[cp]
theorem Xsl (l:List Mp) (m:Mp):cp l++[.int .i64 m.ae,.int .i64 m.s,.int .i64 m.aN,.int .i64 m.a,.int .i64 m.port]=cp (l++[m]):=by simp[cp,Mp.enc]
theorem Sz (l:List Mp) (k:Nat) (h:k≤l.length):(cp l).take (k * 5)=cp (l.take k):=by
 have e:cp l=cp (l.take k)++cp (l.drop k):=by rw[LR,List.take_append_drop]
 rw[e,List.take_append_of_le_length (by rw[Jo,List.length_take];omega),List.take_of_length_le (by rw[Jo,List.length_take];omega)]
theorem LS {l:List Mp} {x:AV} (h:x ∈ cp l):∃ n,x=.int .i64 n:=by
 obtain ⟨e,_,he⟩:=List.mem_flatMap.1 h
 simp[Mp.enc]at he
 rcases he with rfl|rfl|rfl|rfl|rfl<;>exact ⟨_,rfl⟩
theorem LU (n:Nat) (l:List Mp):ai n (cp l)=True:=by
 refine eq_true ?_
 rw[Xj]
 intro x hx
 obtain ⟨k,rfl⟩:=LS hx
 simp[Qe]
theorem SA (ρ:Nat→Nat) (l:List Mp):ay ρ (cp l)=cp l:=by
 rw[Yf]
 refine (List.map_congr_left (g:=id) fun x hx=>?_).trans (List.map_id _)
 obtain ⟨k,rfl⟩:=LS hx
 simp[aD]
theorem Xy9 (s:FS) (l:List Mp):(cp l).map (Yt s)=cp l:=by
 refine (List.map_congr_left (g:=id) fun x hx=>?_).trans (List.map_id _)
 obtain ⟨k,rfl⟩:=LS hx
 rfl
attribute [go_sem] LU SA Xy9 Jo
structure Tb where
 aq:aw
 home:List Int
 maps:List Mp
structure Tb.wf (t:Tb):Prop where
 aq:t.aq.wf
 home:t.home.length=8
def Tb.hd (t:Tb):List AV:=t.aq.enc++Qp t.home
theorem Tb.dx {t:Tb} (h:t.wf):t.hd.length=29:=by simp[Tb.hd,aw.aC h.aq,Ye,h.home]
theorem Tb.vD (t:Tb) (n:Nat):ai n t.hd=True:=by simp only[Tb.hd,Cp,aw.bw,FN,and_self]
theorem Tb.nz (t:Tb) (ρ:Nat→Nat):ay ρ t.hd=t.hd:=by simp only[Tb.hd,Co,aw.dw,zV]
theorem Tb.qQ (t:Tb) (s:FS):t.hd.map (Yt s)=t.hd:=by simp only[Tb.hd,List.map_append,aw.iz,JX]
attribute [go_sem] Tb.vD Tb.nz Tb.qQ
def Tb.enc (t:Tb):List AV:=t.hd++[.isl t.maps.length (cp t.maps)]
theorem Tb.aC {t:Tb} (h:t.wf):t.enc.length=30:=by simp[Tb.enc,Tb.dx h]
theorem Tb.bw (t:Tb) (n:Nat):ai n t.enc=True:=by simp[Tb.enc,Cp,Tb.vD,ai,Qe,LU]
theorem Tb.dw (t:Tb) (ρ:Nat→Nat):ay ρ t.enc=t.enc:=by simp[Tb.enc,Co,Tb.nz,ay,aD,SA]
theorem Tb.iz (t:Tb) (s:FS):t.enc.map (Yt s)=t.enc:=by simp[Tb.enc,List.map_append,Tb.qQ,Yt]
attribute [go_sem] Tb.bw Tb.dw Tb.iz
theorem Tb.cO {t:Tb} (h:t.wf):t.enc.getD 29 .any=.isl t.maps.length (cp t.maps):=by
 unfold Tb.enc
 rw[List.getD_eq_getElem?_getD,List.getElem?_append_right (by rw[Tb.dx h];decide),Tb.dx h];rfl
theorem Tb.dU {t:Tb} (h:t.wf):t.enc.take 21=t.aq.enc:=by
 unfold Tb.enc Tb.hd
 rw[List.append_assoc,List.take_append_of_le_length (by rw[aw.aC h.aq];decide),List.take_of_length_le (by rw[aw.aC h.aq];decide)]
def Tb.bD (t:Tb) (s:Nat):Int:=t.home.getD s 0
theorem Tb.gn {t:Tb} (h:t.wf) {s:Nat} (hs:s < 8):t.enc.getD (21 + s) .any=.int .i64 (t.bD s):=by
 unfold Tb.enc Tb.hd Tb.bD
 rw[List.append_assoc,List.getD_eq_getElem?_getD,List.getElem?_append_right (by rw[aw.aC h.aq];omega),aw.aC h.aq,show 21 + s - 21=s by omega,List.getElem?_append_left (by rw[Ye,h.home];exact hs)]
 have hl:s < t.home.length:=by rw[h.home];exact hs
 simp[Qp,List.getD,hl]
def Kb (port:Int):Bool:=decide (1024≤port) && decide (port < 1072)
def Xx (port:Int):Int:=if Kb port=true then (port - 1024) / 8 else 0
def Zu (ae s aN:Int):Bool:=(ae == 1 || ae == 6 || ae == 17) && decide (0≤s) && decide (s < 8) && decide (0≤aN) && decide (aN≤65535)
def Ze (ae s aN:Int) (m:Mp):Bool:=m.ae == ae && m.s == s && m.aN == aN
def Je (ae a port:Int) (m:Mp):Bool:=m.ae == ae && m.a == a && m.port == port
def lH:Option Mp→AV
 | some m=>.aX [.agg m.enc,.bool true]
 | none=>.aX [.agg fF.enc,.bool false]
theorem Xkq:FT Tryz.prog 56 Tryz.f56 (aO Tryz.prog Tryz.f56) [.t 2,.t 3,.t 4]:=.of Tryz.func56
theorem Xpb:FT Tryz.prog 81 Tryz.f81 (aO Tryz.prog Tryz.f81) [.t 6]:=.of Tryz.func81
theorem AP:FT Tryz.prog 52 Tryz.f52 (aO Tryz.prog Tryz.f52) [.t 2]:=.of Tryz.func52
theorem SB:FT Tryz.prog 40 Tryz.f40 (aO Tryz.prog Tryz.f40) [.cell 8 (.ag 5),.t 9]:=.of Tryz.func40
theorem SC:FT Tryz.prog 42 Tryz.f42 (aO Tryz.prog Tryz.f42) [.cell 8 (.ag 5),.t 9]:=.of Tryz.func42
theorem SD:FT Tryz.prog 126 Tryz.f126 (aO Tryz.prog Tryz.f126) [.t 4]:=.of Tryz.func126
theorem AQ:FT Tryz.prog 89 Tryz.f89 (aO Tryz.prog Tryz.f89) [.cell 10 (.ag 30),.cell 11 (.ag 5),.t 12,.t 13]:=.of Tryz.func89
theorem Xdd:FT Tryz.prog 125 Tryz.f125 (aO Tryz.prog Tryz.f125) [.cell 3 (.ag 30),.cell 4 (.ag 5),.t 5,.t 6]:=.of Tryz.func125
theorem Xz4:FT Tryz.prog 127 Tryz.f127 (aO Tryz.prog Tryz.f127) [.cell 6 (.ag 30),.cell 7 (.ag 5),.t 8,.t 9]:=.of Tryz.func127
theorem GR:FT Tryz.prog 102 Tryz.f102 (aO Tryz.prog Tryz.f102) [.cell 4 (.ag 30),.t 5,.t 6]:=.of Tryz.func102
theorem SE:FT Tryz.prog 140 Tryz.f140 (aO Tryz.prog Tryz.f140) [.t 4]:=.of Tryz.func140
theorem Xig:FT Tryz.prog 141 Tryz.f141 (aO Tryz.prog Tryz.f141) [.t 6]:=.of Tryz.func141
theorem AR:FT Tryz.prog 64 Tryz.f64 (aO Tryz.prog Tryz.f64) [.t 2]:=.of Tryz.func64
theorem Xrx:FT Tryz.prog 79 Tryz.f79 (aO Tryz.prog Tryz.f79) [.t 2]:=.of Tryz.func79
theorem LV:FT Tryz.prog 80 Tryz.f80 (aO Tryz.prog Tryz.f80) [.t 2]:=.of Tryz.func80
theorem SF:FT Tryz.prog 49 Tryz.f49 (aO Tryz.prog Tryz.f49) [.t 4]:=.of Tryz.func49
theorem Xf1:FT Tryz.prog 163 Tryz.f163 (aO Tryz.prog Tryz.f163) [.t 4]:=.of Tryz.func163
theorem SG:FT Tryz.prog 128 Tryz.f128 (aO Tryz.prog Tryz.f128) [.t 4,.t 5]:=.of Tryz.func128
theorem SH:FT Tryz.prog 129 Tryz.f129 (aO Tryz.prog Tryz.f129) [.cell 8 (.ag 21),.t 9,.t 10]:=.of Tryz.func129
theorem Xul:FT Tryz.prog 142 Tryz.f142 (aO Tryz.prog Tryz.f142) [.cell 8 (.ag 21),.t 9]:=.of Tryz.func142
theorem Xlr:FT Tryz.prog 103 Tryz.f103 (aO Tryz.prog Tryz.f103) [.cell 6 (.ag 21),.t 7]:=.of Tryz.func103
theorem Xo7:FT Tryz.prog 61 Tryz.f61 (aO Tryz.prog Tryz.f61) [.cell 4 (.ag 21),.t 5]:=.of Tryz.func61
theorem Qyf:FT Tryz.prog 62 Tryz.f62 (aO Tryz.prog Tryz.f62) [.cell 4 (.ag 21),.t 5]:=.of Tryz.func62
theorem Dz (gl:Nat→AV) (a:Int):PS Tryz.prog gl 79 [.int .i64 a] (.bool (Jq a)):=by
 refine Xrx.ps (of_decide_eq_true rfl) (by simp[Qe]) fun c hN hg=>?_
 conv in aO _ _=>cbv
 unfold Jq
 exact Qs
theorem SI (p:aw) (hp:p.wf):p.enc.take 18=Qp p.own:=by
 unfold aw.enc
 rw[List.take_append_of_le_length (by rw[Ye,hp.own];decide),List.take_of_length_le (by rw[Ye,hp.own];decide)]
theorem GU (p:aw) (hp:p.wf) (a:Nat) (ha:a < 3):(p.enc.drop (a * 6)).take 6=Qp (p.row a):=by
 unfold aw.enc aw.row
 rw[List.drop_append_of_le_length (by rw[Ye,hp.own];omega),List.take_append_of_le_length (by rw[List.length_drop,Ye,hp.own];omega)]
 simp[Qp,List.map_drop,List.map_take]
theorem SJ (p:aw) (a:Nat):(p.own.drop (a * 6)).take 6=p.row a:=rfl
theorem AS (p:aw) (a k:Nat) (hk:k < 6):(p.row a).getD k 0=p.ow a k:=by
 unfold aw.ow
 rw[List.getD_eq_getElem?_getD,List.getD_eq_getElem?_getD,Sv p a k hk]
theorem GV (gl:Nat→AV) (p:aw) (hp:p.wf):PS Tryz.prog gl 80 [.agg p.enc] (.bool p.ca):=by
 refine LV.ps (of_decide_eq_true rfl) (by simp[Qe]) fun c hN hg=>?_
 conv in aO _ _=>cbv
 have e2:=aw.aC hp
 have e3:=SI p hp
 refine Qh (An @e2 @e3) ?_
 refine Xr (fun a:Nat=>a≤3∧(p.own.take (a * 6)).all kG=true) (fun a=>⟨[(8,.agg (Qp p.own)),(9,.int .i64 a)],[],0⟩) (fun a=>3 - a) LV.mixed hN
  ⟨0,⟨by omega,rfl⟩,[],by exact Qs⟩ fun a hI=>?_
 obtain ⟨ha,bO⟩:=id hI
 clear hI
 refine Qf ?_
 (refine Qa (fun h1=>?_) (fun h1=>?_)<;>try exact h1.elim)
 ·have jS:a < 3:=by omega
  have hr:=SJ p a
  have ft:=Kn p hp a jS
  refine Qh (An @hr @hp.own) ?_
  refine Xr (fun k:Nat=>k≤6∧(p.own.take (a * 6 + k)).all kG=true) (fun k=>⟨[(8,.agg (Qp p.own)),(9,.int .i64 a),(12,.agg (Qp (p.row a))),(13,.int .i64 k)],[],0⟩) (fun k=>6 - k) LV.mixed hN
   ⟨0,⟨by omega,bO⟩,[],by exact Qs⟩ fun k hJ=>?_
  obtain ⟨hk,lI⟩:=id hJ
  clear hJ
  refine Qf ?_
  (refine Qa (fun h2=>?_) (fun h2=>?_)<;>try exact h2.elim)
  ·have l8:k < 6:=by omega
   have hv:=AS p a k l8
   have ho:p.own[a * 6 + k]?=some (p.ow a k):=by
    unfold aw.ow
    rw[List.getD_eq_getElem?_getD,List.getElem?_eq_getElem (by rw[hp.own];omega)];rfl
   generalize p.ow a k=x at *
   refine Qh (An @ft @hv) ?_
   (refine Qa (fun h3=>?_) (fun h3=>?_)<;>try exact h3.elim)
   ·have hb:kG x=false:=h3.elim (Xvn x) (Xto x)
    exact Qr (Xxb p _ x ho hb)
   ·refine Qf ?_
    refine ⟨k + 1,⟨by omega,Xmr p _ x ho lI (Xsr x h3.1 h3.2)⟩,⟨[],?_⟩,by omega⟩
    exact Qs
  ·have:k=6:=by omega
   subst this
   refine Qf ?_
   refine ⟨a + 1,⟨by omega,by rw[show (a + 1) * 6=a * 6 + 6 by omega];exact lI⟩,⟨[],?_⟩,by omega⟩
   exact Qs
 ·have:a=3:=by omega
  subst this
  exact Qr (Xvr p bO hp)
theorem GX (gl:Nat→AV) (p:aw) (hp:p.wf) (a:Int):PS Tryz.prog gl 49 [.agg p.enc,.int .i64 a] (.int .i64 (p.left a)):=by
 refine SF.ps (of_decide_eq_true rfl) (by simp[Qe]) fun c hN hg=>?_
 conv in aO _ _=>cbv
 have e2:=aw.aC hp
 have hA:=Dz c.gl a
 by_cases ha:Jq a=true
 ·obtain ⟨b,rfl,hb⟩:=vB a ha
  rw[ha]at hA
  have hr:=GU p hp b hb
  have ft:=Kn p hp b hb
  refine Qh @e2 ?_
  refine Zg hA ?_
  (refine Qa (fun h1=>?_) (fun h1=>?_)<;>try exact h1.elim)
  refine Qh (An @e2 @hr) ?_
  refine Xr (fun k:Nat=>k≤6) (fun k=>⟨[(5,.int .i64 (Uz ((p.row b).take k):Nat)),(13,.agg (Qp (p.row b))),(14,.int .i64 k)],[],0⟩) (fun k=>6 - k) SF.mixed hN
   ⟨0,by omega,[],by refine Qf ?_;rfl⟩ fun k hk=>?_
  refine Qf ?_
  (refine Qa (fun h2=>?_) (fun h2=>?_)<;>try exact h2.elim)
  ·have l8:k < 6:=by omega
   have hv:=AS p b k l8
   have hs:=LO (p.row b) k (p.ow b k) (GN p hp b k hb l8)
   have hle:=LP (p.row b) k
   generalize p.ow b k=x at *
   refine Qh (An @ft @hv) ?_
   (refine Qa (fun h3=>?_) (fun h3=>?_)<;>try exact h3.elim)
   ·rw[if_pos h3]at hs
    refine Qf ?_
    refine ⟨k + 1,by omega,⟨[],?_⟩,by omega⟩
    exact Qr @hs
   ·rw[if_neg h3]at hs
    refine Qf ?_
    refine ⟨k + 1,by omega,⟨[],?_⟩,by omega⟩
    exact Qr @hs
  ·have:k=6:=by omega
   subst this
   have hf:p.left (b:Int)=Uz ((p.row b).take 6):=by rw[Dy p b hb,List.take_of_length_le af]
   exact Qr @hf
 ·have ha:Jq a=false:=by simpa using ha
  rw[ha]at hA
  have h0:=Xtn p a ha
  refine Qh @e2 ?_
  refine Zg hA ?_
  (refine Qa (fun h1=>?_) (fun h1=>?_)<;>try exact h1.elim)
  exact Qr @h0
theorem SM (gl:Nat→AV) (k n:Int) (hn:0 < n) (oE:n≤4611686018427387904):PS Tryz.prog gl 163 [.int .i64 k,.int .i64 n] (.int .i64 (k % n)):=by
 refine Xf1.ps (of_decide_eq_true rfl) (by simp[Qe]) fun c hN hg=>?_
 conv in aO _ _=>cbv
 have hb:=AO k n hn
 have hE:=Lib.hid (Qsv k n hn)
 refine Qf ?_
 (refine Qa (fun h1=>?_) (fun h1=>?_)<;>try exact h1.elim)
 ·have e:=hE.out
  rw[if_pos h1]at e
  exact Qs
 ·have e:=hE.out
  rw[if_neg h1]at e
  exact Qs
theorem Xfi (l:List Int):Uz (l.take 0)=0:=rfl
def eI (l:List Nat):List Int:=l.map fun (a:Nat)=>(a:Int)
theorem DA (l:List Nat):(eI l).length=l.length:=by simp[eI]
theorem SN (l:List Nat) (i:Nat) (h:i < l.length):(eI l).getD i 0=((l.getD i 0:Nat):Int):=by simp[eI,List.getD,h]
theorem SO (l:List Nat) (k:Nat):eI l++[(k:Int)]=eI (l++[k]):=by simp[eI]
theorem Xue (gl:Nat→AV) (p:aw) (hp:p.wf) (draw:Int):PS Tryz.prog gl 128 [.agg p.enc,.int .i64 draw] (.aX [.int .i64 (p.pick draw).1,.int .i64 (p.pick draw).2]):=by
 refine SG.ps (of_decide_eq_true rfl) (by simp[Qe,ai]) fun c hN hg=>?_
 conv in aO _ _=>cbv
 have e2:=aw.aC hp
 have hG:=GV c.gl p hp
 by_cases bm:p.ca=true
 rotate_left
 ·have hr:p.pick draw=(0,2):=if_neg bm
  have bm:p.ca=false:=by simpa using bm
  rw[bm]at hG
  rw[hr]
  refine Qh @e2 ?_
  refine Qy hG @e2 ?_
  (refine Qa (fun h1=>?_) (fun h1=>?_)<;>try exact h1.elim)
  exact Qs
 have hr:p.pick draw=(if (p.opens 3).length=0 then ((0:Int),(10:Int)) else ((((p.opens 3).getD (draw % ((p.opens 3).length:Int)).toNat 0:Nat):Int),(0:Int))):=if_pos bm
 rw[bm]at hG
 rw[hr]
 clear hr
 refine Qh @e2 ?_
 refine Qy hG @e2 ?_
 (refine Qa (fun h1=>?_) (fun h1=>?_)<;>try exact h1.elim)
 refine Qf ?_
 refine xA 6 1 rfl rfl ?_
 refine Xr (fun k:Nat=>k≤3) (fun k=>⟨[(1,.int .i64 draw),(2,.ptr 0 0),(6,.sl 1 1 0 (p.opens k).length (p.opens k).length),(11,.int .i64 k)],[(0,.cells p.enc),(1,.cells (Qp (eI (p.opens k))))],2⟩) (fun k=>3 - k) SG.mixed hN
  ⟨0,by omega,[],by (have aB:=@St.named.eq_1;refine XG ?_;clear aB;((try (repeat' with_reducible refine And.intro ?_ ?_));(try any_goals (first|refine zm ?_|exact CL|fail))))<;>exact rfl⟩ fun k hk=>?_
 have vi:=Xu1 p k
 refine Qf ?_
 (refine Qa (fun h2=>?_) (fun h2=>?_)<;>try exact h2.elim)
 ·have LW:k < 3:=by omega
  have hd:=aw.gL hp LW
  have hL:=GX c.gl p hp k
  have pN:=Xes p k
  unfold aw.open_ at pN
  have lJ:=DA (p.opens k)
  cases sO:p.iy k with
  | true =>
   rw[sO]at hd pN
   have pN:p.opens (k + 1)=p.opens k:=by simpa using pN
   refine Qh (An @e2 @hd) ?_
   ((first|apply Yo|apply Yc)<;>(refine XG ?_;first|exact rfl|exact True.intro|((try (repeat' with_reducible refine And.intro ?_ ?_));(try any_goals (first|refine zm ?_|exact CL|fail)))))
   (refine Qa (fun h3=>?_) (fun h3=>?_)<;>try exact h3.elim)
   refine Qf ?_
   refine ⟨k + 1,by omega,⟨[],?_⟩,by omega⟩
   exact Qr @pN
  | false =>
   rw[sO]at hd pN
   refine Qh (An @e2 @hd) ?_
   refine Qy hL (An @e2 @hd) ?_
   (refine Qa (fun h3=>?_) (fun h3=>?_)<;>try exact h3.elim)
   ·have pN:p.opens (k + 1)=p.opens k++[k]:=by rw[pN];simp;omega
    have ec:=SO (p.opens k) k
    have AT:(p.opens k++[k]).length=(p.opens k).length + 1:=by simp
    refine Qf ?_
    refine Jw ?_
    refine Zm @lJ ?_
    refine ⟨k + 1,by omega,⟨[(1,3)],?_⟩,by omega⟩
    exact Qr (An @pN (An @ec @AT))
   ·have pN:p.opens (k + 1)=p.opens k:=by rw[pN];simp;omega
    refine Qf ?_
    refine ⟨k + 1,by omega,⟨[],?_⟩,by omega⟩
    exact Qr @pN
 ·have:k=3:=by omega
  subst this
  have lJ:=DA (p.opens 3)
  by_cases hz:(p.opens 3).length=0
  ·rw[if_pos hz]
   refine Qf ?_
   (refine Qa (fun h3=>?_) (fun h3=>?_)<;>try exact h3.elim)
   ·exact Qs
   ·omega
  ·rw[if_neg hz]
   have hC:=SM c.gl draw (p.opens 3).length af af
   have m0:=Int.emod_nonneg draw (show ((p.opens 3).length:Int)≠0 by omega)
   have m1:=Int.emod_lt_of_pos draw (show (0:Int) < (p.opens 3).length by omega)
   have lK:=SN (p.opens 3) (draw % ((p.opens 3).length:Int)).toNat af
   generalize draw % ((p.opens 3).length:Int)=d at *
   refine Qf ?_
   (refine Qa (fun h3=>?_) (fun h3=>?_)<;>try exact h3.elim)
   ·omega
   refine Qf ?_
   exact xq hC (An @lJ @lK)
theorem SP (p:aw) (a k:Nat) (o:Int) (h:a * 6 + k < p.own.length):p.enc.set (a * 6 + k) (.int .i64 o)=(p.put a k o).enc:=by
 unfold aw.enc aw.put
 rw[List.set_append_left _ _ (by rw[Ye];exact h)]
 simp[Qp,List.map_set]
theorem Xxl (p:aw) (hp:p.wf) (a:Nat) (to:Bool):p.enc.set (18 + a) (.bool to)=(p.mM a to).enc:=by
 unfold aw.enc aw.mM
 rw[List.set_append_right _ _ (by rw[Ye,hp.own];omega),Ye,hp.own,show 18 + a - 18=a by omega]
 simp[Zh,List.map_set]
theorem LX (p:aw) (hp:p.wf) (a k:Nat) (ha:a < 3) (hk:k < 6):p.enc.getD (a * 6 + k) .any=.int .i64 (p.ow a k):=by
 have h:a * 6 + k < p.own.length:=by rw[hp.own];omega
 unfold aw.enc aw.ow
 rw[List.getD_eq_getElem?_getD,List.getElem?_append_left (by rw[Ye];exact h),List.getD_eq_getElem?_getD]
 simp[Qp,h]
def ud (x:aw × Int × Int):AV:=.aX [.agg x.1.enc,.int .i64 x.2.1,.int .i64 x.2.2]
def Ub (x:aw × Int):AV:=.aX [.agg x.1.enc,.int .i64 x.2]
theorem SQ (gl:Nat→AV) (p:aw) (hp:p.wf) (s a draw:Int):PS Tryz.prog gl 129 [.agg p.enc,.int .i64 s,.int .i64 a,.int .i64 draw] (ud (p.take s a draw)):=by
 refine SH.ps (of_decide_eq_true rfl) (by simp[Qe,ai,ud,aw.bw]) fun c hN hg=>?_
 conv in aO _ _=>cbv
 have e2:=aw.aC hp
 have hG:=GV c.gl p hp
 have hA:=Dz c.gl a
 by_cases bm:p.ca=true
 rotate_left
 ·have hr:p.take s a draw=(p,0,2):=if_neg bm
  have bm:p.ca=false:=by simpa using bm
  rw[bm]at hG
  rw[hr]
  unfold ud
  refine Qh @e2 ?_
  refine Qy hG @e2 ?_
  (refine Qa (fun h1=>?_) (fun h1=>?_)<;>try exact h1.elim)
  exact Qr @e2
 by_cases has:Jq a=true∧0≤s∧s < 8
 rotate_left
 ·have hr:p.take s a draw=(p,0,7):=(if_pos bm).trans (if_neg has)
  rw[hr]
  rw[bm]at hG
  unfold ud
  have hb:(!Jq a || decide (s < 0) || decide (8≤s))=true:=by
   cases ha:Jq a
   ·rfl
   ·have:s < 0∨8≤s:=by
     by_cases h1:s < 0
     ·exact .inl h1
     ·exact .inr (by have:¬ (0≤s∧s < 8):=fun h=>has ⟨ha,h⟩;omega)
    simpa using this
  refine Qh @e2 ?_
  refine Qy hG @e2 ?_
  (refine Qa (fun h1=>?_) (fun h1=>?_)<;>try exact h1.elim)
  refine Qh @e2 ?_
  refine Qy hA (An @e2 @hb) ?_
  (refine Qa (fun h2=>?_) (fun h2=>?_)<;>try exact h2.elim)
  exact Qr @e2
 obtain ⟨ha,lb,iA⟩:=has
 obtain ⟨b,rfl,hb⟩:=vB a ha
 have hd:=aw.gL hp hb
 have hL:=GX c.gl p hp b
 by_cases gU:p.iy b=true
 ·have hr:p.take s b draw=(p,0,9):=(if_pos bm).trans ((if_pos ⟨ha,lb,iA⟩).trans (if_pos (by rw[Int.toNat_natCast];exact gU)))
  rw[hr]
  rw[bm]at hG
  rw[ha]at hA
  rw[gU]at hd
  unfold ud
  refine Qh @e2 ?_
  refine Qy hG @e2 ?_
  (refine Qa (fun h1=>?_) (fun h1=>?_)<;>try exact h1.elim)
  refine Qh @e2 ?_
  refine Qy hA @e2 ?_
  (refine Qa (fun h2=>?_) (fun h2=>?_)<;>try exact h2.elim)
  ·omega
  refine Qh (An @e2 @hd) ?_
  (refine Qa (fun h3=>?_) (fun h3=>?_)<;>try exact h3.elim)
  exact Qr @e2
 have gU:p.iy b=false:=by simpa using gU
 by_cases LY:p.left b=0
 ·have hr:p.take s b draw=(p,0,10):=(if_pos bm).trans ((if_pos ⟨ha,lb,iA⟩).trans ((if_neg (by rw[Int.toNat_natCast,gU];simp)).trans (if_pos LY)))
  rw[hr]
  rw[bm]at hG
  rw[ha]at hA
  rw[gU]at hd
  rw[LY]at hL
  unfold ud
  refine Qh @e2 ?_
  refine Qy hG @e2 ?_
  (refine Qa (fun h1=>?_) (fun h1=>?_)<;>try exact h1.elim)
  refine Qh @e2 ?_
  refine Qy hA @e2 ?_
  (refine Qa (fun h2=>?_) (fun h2=>?_)<;>try exact h2.elim)
  ·omega
  refine Qh (An @e2 @hd) ?_
  (refine Qa (fun h3=>?_) (fun h3=>?_)<;>try exact h3.elim)
  refine Qh @e2 ?_
  refine Qy hL @e2 ?_
  (refine Qa (fun h4=>?_) (fun h4=>?_)<;>try exact h4.elim)
  exact Qr @e2
 have hr:p.take s b draw=(p.put b (p.pM b draw) (s + 1),((p.pM b draw:Nat):Int),0):=(if_pos bm).trans ((if_pos ⟨ha,lb,iA⟩).trans ((if_neg (by rw[Int.toNat_natCast,gU];simp)).trans ((if_neg LY).trans (by rw[Int.toNat_natCast]))))
 rw[hr]
 rw[bm]at hG
 rw[ha]at hA
 rw[gU]at hd
 clear hr
 have hC:=SM c.gl draw (p.left b) af (by have:=Dy p b hb;have:=LP (p.row b) 6;rw[List.take_of_length_le (by rw[Kn p hp b hb];omega)]at this;omega)
 have m0:=Int.emod_nonneg draw (show (p.left b:Int)≠0 by omega)
 have m1:=Int.emod_lt_of_pos draw (show (0:Int) < p.left b by omega)
 have LZ:∀ i,i < 6→p.ow b i=0→(Uz ((p.row b).take i):Int)=draw % (p.left b:Int)→p.pM b draw=i:=fun i hi h0 he=>by
  have h1:=Sx (p.row b) i (by rw[Kn p hp b hb];exact hi) (by rw[GN p hp b i hb hi,h0]) 6 hi
  unfold aw.pM
  rw[← he,Int.toNat_natCast,List.getD_eq_getElem?_getD,h1];rfl
 have hl6:p.left b≤6:=by
  have h1:=Dy p b hb
  have h2:=LP (p.row b) 6
  rw[List.take_of_length_le (by rw[Kn p hp b hb];omega)]at h2;omega
 have pw:((Uz []:Nat):Int)=0:=rfl
 have hlf:Uz ((p.row b).take 6)=p.left b:=by rw[Dy p b hb,List.take_of_length_le (by rw[Kn p hp b hb];omega)]
 generalize draw % (p.left b:Int)=D at *
 have AU:=GU p hp b hb
 have ft:=Kn p hp b hb
 unfold ud
 refine Qh @e2 ?_
 refine Qy hG @e2 ?_
 (refine Qa (fun h1=>?_) (fun h1=>?_)<;>try exact h1.elim)
 refine Qh @e2 ?_
 refine Qy hA @e2 ?_
 (refine Qa (fun h2=>?_) (fun h2=>?_)<;>try exact h2.elim)
 ·omega
 refine Qh (An @e2 @hd) ?_
 (refine Qa (fun h3=>?_) (fun h3=>?_)<;>try exact h3.elim)
 refine Qh @e2 ?_
 refine Qy hL @e2 ?_
 (refine Qa (fun h4=>?_) (fun h4=>?_)<;>try exact h4.elim)
 ·omega
 refine Qh @e2 ?_
 refine Qy hL @e2 ?_
 refine Qy hC @e2 ?_
 refine Qh (An @e2 @AU) ?_
 have L0:∀ i,i < 6→b * 6 + i < p.own.length:=fun i hi=>by rw[hp.own];omega
 refine Xr (fun i:Nat=>i≤6∧(Uz ((p.row b).take i):Int)≤D) (fun i=>⟨[(1,.int .i64 s),(2,.int .i64 b),(4,.ptr 0 0),(8,.ptr 1 0),(11,.int .i64 (D - (Uz ((p.row b).take i):Nat))),(52,.agg (Qp (p.row b))),(53,.int .i64 i)],[(0,.cells p.enc),(1,.cells [.int .i64 0,.int .i64 0,.int .i64 0,.int .i64 0,.int .i64 0,.int .i64 0,.int .i64 0,.int .i64 0,.int .i64 0,.int .i64 0,.int .i64 0,.int .i64 0,.int .i64 0,.int .i64 0,.int .i64 0,.int .i64 0,.int .i64 0,.int .i64 0,.bool false,.bool false,.bool false])],2⟩) (fun i=>6 - i) SH.mixed hN
  ⟨0,⟨by omega,by rw[Xfi];omega⟩,[],by exact Qr (An @pw @Int.sub_zero)⟩ fun i hI=>?_
 obtain ⟨hi,hle⟩:=id hI
 clear hI
 refine Qf ?_
 (refine Qa (fun h5=>?_) (fun h5=>?_)<;>try exact h5.elim)
 ·have AX:i < 6:=by omega
  have hv:=AS p b i AX
  have hs:=LO (p.row b) i (p.ow b i) (GN p hp b i hb AX)
  have hk2:=LZ i AX
  have pO:=SP p b i (s + 1) (L0 i AX)
  generalize p.ow b i=x at *
  refine Qh (An @ft @hv) ?_
  (refine Qa (fun h6=>?_) (fun h6=>?_)<;>try exact h6.elim)
  ·rw[if_neg h6]at hs
   refine Qf ?_
   refine ⟨i + 1,⟨by omega,by rw[hs];omega⟩,⟨[],?_⟩,by omega⟩
   exact Qr @hs
  ·rw[if_pos h6]at hs
   refine Qf ?_
   (refine Qa (fun h7=>?_) (fun h7=>?_)<;>try exact h7.elim)
   ·have LW:=hk2 h6 af
    rw[LW]
    have e3:=aw.aC (p.dc hp b i (s + 1))
    exact Qr (An @e2 (An @pO @e3))
   ·refine Qf ?_
    refine ⟨i + 1,⟨by omega,by rw[hs];omega⟩,⟨[],?_⟩,by omega⟩
    exact Qr @hs
 ·have:i=6:=by omega
  subst this
  omega
theorem Xv4 (gl:Nat→AV) (p:aw) (hp:p.wf) (s a b:Int) (wP:s≤9223372036854775806):PS Tryz.prog gl 142 [.agg p.enc,.int .i64 s,.int .i64 a,.int .i64 b] (Ub (p.bW s a b)):=by
 refine Xul.ps (of_decide_eq_true rfl) (by simp[Qe,ai,Ub,aw.bw]) fun c hN hg=>?_
 conv in aO _ _=>cbv
 have e2:=aw.aC hp
 have hG:=GV c.gl p hp
 have hA:=Dz c.gl a
 by_cases bm:p.ca=true
 rotate_left
 ·have hr:p.bW s a b=(p,2):=if_neg bm
  have bm:p.ca=false:=by simpa using bm
  rw[bm]at hG
  rw[hr]
  unfold Ub
  refine Qh @e2 ?_
  refine Qy hG @e2 ?_
  (refine Qa (fun h1=>?_) (fun h1=>?_)<;>try exact h1.elim)
  exact Qr @e2
 rw[bm]at hG
 by_cases aI:Jq a=true∧0≤b∧b < 6∧0≤s
 rotate_left
 ·have hr:p.bW s a b=(p,7):=(if_pos bm).trans (if_neg fun h=>aI ⟨h.1,h.2.1,h.2.2.1,h.2.2.2.1⟩)
  rw[hr]
  unfold Ub
  have hb:(!Jq a || decide (b < 0) || decide (6≤b) || decide (s < 0))=true:=by
   cases ha:Jq a
   ·rfl
   ·have:(b < 0∨6≤b)∨s < 0:=by
     have:¬ (0≤b∧b < 6∧0≤s):=fun h=>aI ⟨ha,h⟩
     omega
    simpa using this
  refine Qh @e2 ?_
  refine Qy hG @e2 ?_
  (refine Qa (fun h1=>?_) (fun h1=>?_)<;>try exact h1.elim)
  refine Qh @e2 ?_
  refine Qy hA (An @e2 @hb) ?_
  (refine Qa (fun h2=>?_) (fun h2=>?_)<;>try exact h2.elim)
  exact Qr @e2
 obtain ⟨ha,vp,fO,lb⟩:=aI
 rw[ha]at hA
 obtain ⟨a,rfl,jS⟩:=vB a ha
 obtain ⟨b,rfl⟩:=Int.eq_ofNat_of_zero_le vp
 have hb6:b < 6:=by omega
 have L1:=LX p hp a b jS hb6
 have pO:=SP p a b 0 (by rw[hp.own];omega)
 have e3:=aw.aC (p.dc hp a b 0)
 by_cases ho:p.ow a b=s + 1
 ·have hr:p.bW s a b=(p.put a b 0,0):=(if_pos bm).trans (if_pos ⟨ha,vp,fO,lb,by rw[Int.toNat_natCast,Int.toNat_natCast];exact ho⟩)
  rw[hr]
  rw[ho]at L1
  unfold Ub
  refine Qh @e2 ?_
  refine Qy hG @e2 ?_
  (refine Qa (fun h1=>?_) (fun h1=>?_)<;>try exact h1.elim)
  refine Qh @e2 ?_
  refine Qy hA (An @e2 @L1) ?_
  (refine Qa (fun h2=>?_) (fun h2=>?_)<;>try exact h2.elim)
  ·omega
  exact Qr (An @e2 (An @pO @e3))
 ·have hr:p.bW s a b=(p,7):=(if_pos bm).trans (if_neg fun h=>ho (by have:=h.2.2.2.2;rwa [Int.toNat_natCast,Int.toNat_natCast]at this))
  rw[hr]
  unfold Ub
  generalize p.ow a b=o at *
  refine Qh @e2 ?_
  refine Qy hG @e2 ?_
  (refine Qa (fun h1=>?_) (fun h1=>?_)<;>try exact h1.elim)
  refine Qh @e2 ?_
  refine Qy hA (An @e2 @L1) ?_
  (refine Qa (fun h2=>?_) (fun h2=>?_)<;>try exact h2.elim)
  ·exact Qr @e2
  ·omega
theorem SR (gl:Nat→AV) (p:aw) (hp:p.wf) (a:Int) (to:Bool):PS Tryz.prog gl 103 [.agg p.enc,.int .i64 a,.bool to] (Ub (p.drain a to)):=by
 refine Xlr.ps (of_decide_eq_true rfl) (by simp[Qe,ai,Ub,aw.bw]) fun c hN hg=>?_
 conv in aO _ _=>cbv
 have e2:=aw.aC hp
 have hA:=Dz c.gl a
 by_cases ha:Jq a=true
 rotate_left
 ·have hr:p.drain a to=(p,7):=if_neg ha
  have ha:Jq a=false:=by simpa using ha
  rw[ha]at hA
  rw[hr]
  unfold Ub
  refine Qh @e2 ?_
  refine Qy hA @e2 ?_
  (refine Qa (fun h1=>?_) (fun h1=>?_)<;>try exact h1.elim)
  exact Qr @e2
 rw[ha]at hA
 obtain ⟨a,rfl,jS⟩:=vB a ha
 have hd:=aw.gL hp jS
 have pO:=Xxl p hp a to
 have e3:=aw.aC (p.nv hp a to)
 by_cases GY:p.iy a=to
 ·have hr:p.drain a to=(p,8):=(if_pos ha).trans (if_pos (by rw[Int.toNat_natCast];exact GY))
  rw[hr]
  rw[GY]at hd
  unfold Ub
  refine Qh @e2 ?_
  refine Qy hA @e2 ?_
  (refine Qa (fun h1=>?_) (fun h1=>?_)<;>try exact h1.elim)
  refine Qh (An @e2 @hd) ?_
  (refine Qa (fun h2=>?_) (fun h2=>?_)<;>try exact h2.elim)
  exact Qr @e2
 ·have hr:p.drain a to=(p.mM a to,0):=(if_pos ha).trans ((if_neg (by rw[Int.toNat_natCast];exact GY)).trans (by rw[Int.toNat_natCast]))
  rw[hr]
  unfold Ub
  generalize p.iy a=d at *
  refine Qh @e2 ?_
  refine Qy hA @e2 ?_
  (refine Qa (fun h1=>?_) (fun h1=>?_)<;>try exact h1.elim)
  refine Qh (An @e2 @hd) ?_
  (refine Qa (fun h2=>?_) (fun h2=>?_)<;>try exact h2.elim)
  ·exact (GY h2).elim
  exact Qr (An @e2 (An @pO @e3))
theorem SS (gl:Nat→AV) (p:aw) (hp:p.wf) (a:Int):PS Tryz.prog gl 61 [.agg p.enc,.int .i64 a] (Ub (p.drain a true)):=by
 refine Xo7.ps (of_decide_eq_true rfl) (by simp[Qe,ai,Ub,aw.bw]) fun c hN hg=>?_
 conv in aO _ _=>cbv
 have e2:=aw.aC hp
 have hD:=SR c.gl p hp a true
 have e3:=aw.aC (p.dT hp a true)
 unfold Ub at hD ⊢
 refine Qh @e2 ?_
 exact xq hD (An @e2 @e3)
theorem Xaj (gl:Nat→AV) (p:aw) (hp:p.wf) (a:Int):PS Tryz.prog gl 62 [.agg p.enc,.int .i64 a] (Ub (p.drain a false)):=by
 refine Qyf.ps (of_decide_eq_true rfl) (by simp[Qe,ai,Ub,aw.bw]) fun c hN hg=>?_
 conv in aO _ _=>cbv
 have e2:=aw.aC hp
 have hD:=SR c.gl p hp a false
 have e3:=aw.aC (p.dT hp a false)
 unfold Ub at hD ⊢
 refine Qh @e2 ?_
 exact xq hD (An @e2 @e3)
def vE (port:Int):AV:=.aX [.int .i64 (Xx port),.int .i64 (if Kb port=true then (port - 1024) % 8 else 0),.bool (Kb port)]
theorem GZ (gl:Nat→AV) (port:Int) (hp:-9223372036854775808≤port∧port≤9223372036854775807):PS Tryz.prog gl 56 [.int .i64 port] (vE port):=by
 refine Xkq.ps (of_decide_eq_true rfl) (by simp[vE,Qe,ai]) fun c hN hg=>?_
 conv in aO _ _=>cbv
 by_cases h:Kb port=true
 ·have h':=h
  unfold Kb at h'
  simp at h'
  have e1:(port - 1024).tdiv 8=(port - 1024) / 8:=Int.tdiv_eq_ediv_of_nonneg af
  have e2:(port - 1024).tmod 8=(port - 1024) % 8:=Int.tmod_eq_emod_of_nonneg af
  unfold vE Xx
  rw[if_pos h,if_pos h,h]
  refine Qf ?_
  (refine Qa (fun h1=>?_) (fun h1=>?_)<;>try exact h1.elim)
  ·omega
  exact Qr (An @e1 @e2)
 ·have h':=h
  unfold Kb at h'
  simp at h'
  have hb:Kb port=false:=by simpa using h
  unfold vE Xx
  rw[if_neg h,if_neg h,hb]
  by_cases fq:port < 1024
  ·have d1:decide (port < 1024)=true:=by simpa using fq
   have e0:∃ x,IntKind.i64.wrap (port - 1024)=x:=⟨_,rfl⟩
   obtain ⟨x,hx⟩:=e0
   refine Qh (An @d1 @hx) ?_
   (refine Qa (fun h1=>?_) (fun h1=>?_)<;>try exact h1.elim)
   exact Qs
  ·refine Qf ?_
   (refine Qa (fun h1=>?_) (fun h1=>?_)<;>try exact h1.elim)
   ·exact Qs
   ·omega
theorem L2 (gl:Nat→AV) (ae s aN:Int):PS Tryz.prog gl 81 [.int .i64 ae,.int .i64 s,.int .i64 aN] (.bool (Zu ae s aN)):=by
 refine Xpb.ps (of_decide_eq_true rfl) (by simp[Qe]) fun c hN hg=>?_
 conv in aO _ _=>cbv
 unfold Zu
 exact Qs
theorem L3 (gl:Nat→AV) (t:Tb) (ht:t.wf) (hl:t.maps.length≤4611686018427387904) (ae s aN:Int):PS Tryz.prog gl 40 [.agg t.enc,.int .i64 ae,.int .i64 s,.int .i64 aN] (lH (t.maps.find? (Ze ae s aN))):=by
 refine SB.ps (of_decide_eq_true rfl) (by cases t.maps.find? (Ze ae s aN)<;>simp[lH,Qe,ai,Mp.enc]) fun c hN hg=>?_
 conv in aO _ _=>cbv
 have e2:=Tb.aC ht
 have e3:=Tb.cO ht
 have aJ:=Jo t.maps
 generalize hR:t.maps.find? (Ze ae s aN)=R
 refine Qh (An @e2 @e3) ?_
 refine Xr (fun k:Nat=>k≤t.maps.length∧(t.maps.drop k).find? (Ze ae s aN)=R) (fun k=>⟨[(1,.int .i64 ae),(2,.int .i64 s),(3,.int .i64 aN),(8,.ptr 1 0),(13,.isl t.maps.length (cp t.maps)),(14,.int .i64 t.maps.length),(15,.int .i64 k)],[(0,.cells t.enc),(1,.cells [.int .i64 0,.int .i64 0,.int .i64 0,.int .i64 0,.int .i64 0])],2⟩) (fun k=>t.maps.length - k) SB.mixed hN
  ⟨0,⟨by omega,by rw[List.drop_zero];exact hR⟩,[],by exact Qs⟩ fun k hI=>?_
 obtain ⟨hk,hf⟩:=id hI
 clear hI
 refine Qf ?_
 (refine Qa (fun h1=>?_) (fun h1=>?_)<;>try exact h1.elim)
 ·have bB:k < t.maps.length:=by omega
  have bg:=vC t.maps k bB
  rw[List.drop_eq_getElem_cons bB,List.find?_cons]at hf
  generalize t.maps[k]=m at *
  obtain ⟨mp,ms,mi,ma,mt⟩:=m
  unfold Ze at hf
  simp only[Mp.enc]at bg
  dsimp only at hf
  refine Qh (An @aJ @bg) ?_
  (refine Qa (fun h2=>?_) (fun h2=>?_)<;>try exact h2.elim)
  ·have hc:(mp == ae && ms == s && mi == aN)=true:=by simp[h2]
   rw[hc]at hf
   dsimp only at hf
   subst hf
   unfold lH Mp.enc
   exact Qs
  ·have hc:(mp == ae && ms == s && mi == aN)=false:=by
    cases hb:(mp == ae && ms == s && mi == aN)
    ·rfl
    ·simp at hb;omega
   rw[hc]at hf
   dsimp only at hf
   refine Qf ?_
   refine ⟨k + 1,⟨by omega,hf⟩,⟨[],?_⟩,by omega⟩
   exact Qs
 ·have:k=t.maps.length:=by omega
  subst this
  rw[List.drop_length]at hf
  subst hf
  unfold lH fF Mp.enc
  refine Qf ?_
  exact rfl
theorem L4 (gl:Nat→AV) (t:Tb) (ht:t.wf) (hl:t.maps.length≤4611686018427387904) (ae a port:Int):PS Tryz.prog gl 42 [.agg t.enc,.int .i64 ae,.int .i64 a,.int .i64 port] (lH (t.maps.find? (Je ae a port))):=by
 refine SC.ps (of_decide_eq_true rfl) (by cases t.maps.find? (Je ae a port)<;>simp[lH,Qe,ai,Mp.enc]) fun c hN hg=>?_
 conv in aO _ _=>cbv
 have e2:=Tb.aC ht
 have e3:=Tb.cO ht
 have aJ:=Jo t.maps
 generalize hR:t.maps.find? (Je ae a port)=R
 refine Qh (An @e2 @e3) ?_
 refine Xr (fun k:Nat=>k≤t.maps.length∧(t.maps.drop k).find? (Je ae a port)=R) (fun k=>⟨[(1,.int .i64 ae),(2,.int .i64 a),(3,.int .i64 port),(8,.ptr 1 0),(13,.isl t.maps.length (cp t.maps)),(14,.int .i64 t.maps.length),(15,.int .i64 k)],[(0,.cells t.enc),(1,.cells [.int .i64 0,.int .i64 0,.int .i64 0,.int .i64 0,.int .i64 0])],2⟩) (fun k=>t.maps.length - k) SC.mixed hN
  ⟨0,⟨by omega,by rw[List.drop_zero];exact hR⟩,[],by exact Qs⟩ fun k hI=>?_
 obtain ⟨hk,hf⟩:=id hI
 clear hI
 refine Qf ?_
 (refine Qa (fun h1=>?_) (fun h1=>?_)<;>try exact h1.elim)
 ·have bB:k < t.maps.length:=by omega
  have bg:=vC t.maps k bB
  rw[List.drop_eq_getElem_cons bB,List.find?_cons]at hf
  generalize t.maps[k]=m at *
  obtain ⟨mp,ms,mi,ma,mt⟩:=m
  unfold Je at hf
  simp only[Mp.enc]at bg
  dsimp only at hf
  refine Qh (An @aJ @bg) ?_
  (refine Qa (fun h2=>?_) (fun h2=>?_)<;>try exact h2.elim)
  ·have hc:(mp == ae && ma == a && mt == port)=true:=by simp[h2]
   rw[hc]at hf
   dsimp only at hf
   subst hf
   unfold lH Mp.enc
   exact Qs
  ·have hc:(mp == ae && ma == a && mt == port)=false:=by
    cases hb:(mp == ae && ma == a && mt == port)
    ·rfl
    ·simp at hb;omega
   rw[hc]at hf
   dsimp only at hf
   refine Qf ?_
   refine ⟨k + 1,⟨by omega,hf⟩,⟨[],?_⟩,by omega⟩
   exact Qs
 ·have:k=t.maps.length:=by omega
  subst this
  rw[List.drop_length]at hf
  subst hf
  unfold lH fF Mp.enc
  refine Qf ?_
  exact rfl
theorem Tb.uf {t:Tb} (h:t.wf) {a:Nat} (ha:a < 3):(t.enc.drop (a * 6)).take 6=Qp (t.aq.row a):=by
 have e:=GU t.aq h.aq a ha
 unfold Tb.enc Tb.hd
 rw[List.append_assoc,List.drop_append_of_le_length (by rw[aw.aC h.aq];omega),List.take_append_of_le_length (by rw[List.length_drop,aw.aC h.aq];omega),e]
def Wf (t:Tb) (s n:Nat):List Nat:=(List.range n).filter fun k=>t.aq.ow (t.bD s - 1).toNat k == (s:Int) + 1
theorem Xnm (t:Tb) (s n:Nat):Wf t s (n + 1)=Wf t s n++if t.aq.ow (t.bD s - 1).toNat n=(s:Int) + 1 then [n] else []:=by
 unfold Wf;rw[List.range_succ,List.filter_append];simp[List.filter_cons]
theorem SU (t:Tb) (s n:Nat):(Wf t s n).length≤n:=by
 have:=List.length_filter_le (fun k=>t.aq.ow (t.bD s - 1).toNat k == (s:Int) + 1) (List.range n);simpa [Wf] using this
def vF (t:Tb) (s:Nat):AV:=if 1≤t.bD s then .isl (Wf t s 6).length (Qp (eI (Wf t s 6))) else .nils
theorem Xxy (n:Nat) (t:Tb) (s:Nat):Qe n (vF t s):=by unfold vF;split<;>simp[Qe,FN]
theorem SV (gl:Nat→AV) (t:Tb) (ht:t.wf) (s:Nat) (hs:s < 8) (h3:0≤t.bD s∧t.bD s≤3):PS Tryz.prog gl 126 [.agg t.enc,.int .i64 s] (vF t s):=by
 refine SD.ps (of_decide_eq_true rfl) (Xxy 0 t s) fun c hN hg=>?_
 conv in aO _ _=>cbv
 have e2:=Tb.aC ht
 have eh:=Tb.gn ht hs
 by_cases h1:1≤t.bD s
 rotate_left
 ·have hr:vF t s=.nils:=if_neg h1
  rw[hr]
  generalize t.bD s=h at *
  refine Qh (An @e2 @eh) ?_
  (refine Qa (fun g1=>?_) (fun g1=>?_)<;>try exact g1.elim)
  ·omega
  exact Qs
 have hr:vF t s=.isl (Wf t s 6).length (Qp (eI (Wf t s 6))):=if_pos h1
 rw[hr]
 obtain ⟨a,ha⟩:=Int.eq_ofNat_of_zero_le (show 0≤t.bD s - 1 by omega)
 have jS:a < 3:=by omega
 have vu:(t.bD s - 1).toNat=a:=by omega
 have AU:=Tb.uf ht jS
 have ft:=Kn t.aq ht.aq a jS
 have vG:=Xnm t s
 have hle:=SU t s
 rw[vu]at vG
 have h0:Wf t s 0=[]:=rfl
 generalize Wf t s=W at *
 generalize t.bD s=h at *
 refine Qh (An @e2 (An @eh @ha)) ?_
 (refine Qa (fun g1=>?_) (fun g1=>?_)<;>try exact g1.elim)
 rotate_left
 ·omega
 refine Qh (An @e2 @AU) ?_
 refine xA 5 1 rfl rfl ?_
 refine Xr (fun k:Nat=>k≤6) (fun k=>⟨[(1,.int .i64 s),(5,.sl 1 1 0 (W k).length (W k).length),(20,.agg (Qp (t.aq.row a))),(21,.int .i64 k)],[(0,.cells t.enc),(1,.cells (Qp (eI (W k))))],2⟩) (fun k=>6 - k) SD.mixed hN
  ⟨0,by omega,[],by refine Qh (An @St.named.eq_1 @h0) ?_<;>exact rfl⟩ fun k hk=>?_
 have kH:=hle k
 have lJ:=DA (W k)
 refine Qf ?_
 (refine Qa (fun g2=>?_) (fun g2=>?_)<;>try exact g2.elim)
 ·have l8:k < 6:=by omega
  have hv:=AS t.aq a k l8
  have vH:=vG k
  generalize t.aq.ow a k=x at *
  refine Qh (An @ft @hv) ?_
  (refine Qa (fun g3=>?_) (fun g3=>?_)<;>try exact g3.elim)
  ·have vH:W (k + 1)=W k++[k]:=by rw[vH,if_pos g3]
   have ec:=SO (W k) k
   have AT:(W k++[k]).length=(W k).length + 1:=by simp
   refine Qf ?_
   refine Jw ?_
   refine Zm @lJ ?_
   refine ⟨k + 1,by omega,⟨[(1,3)],?_⟩,by omega⟩
   exact Qr (An @vH (An @ec @AT))
  ·have vH:W (k + 1)=W k:=by rw[vH,if_neg g3,List.append_nil]
   refine Qf ?_
   refine ⟨k + 1,by omega,⟨[],?_⟩,by omega⟩
   exact Qr @vH
 ·have:k=6:=by omega
  subst this
  exact Qr @lJ
def DB (m:Mp):Prop:=(-9223372036854775808≤m.ae∧m.ae≤9223372036854775807)∧(-9223372036854775808≤m.s∧m.s≤9223372036854775807)∧(-9223372036854775808≤m.aN∧m.aN≤9223372036854775807)∧(-9223372036854775808≤m.a∧m.a≤9223372036854775807)∧(-9223372036854775808≤m.port∧m.port≤9223372036854775807)
structure Tb.ok (t:Tb):Prop where
 wf:t.wf
 bd:∀ m ∈ t.maps,DB m
 len:t.maps.length≤4611686018427387904
def Zj (m:Mp):Nat:=m.a.toNat * 6 + (Xx m.port).toNat
def oF (l:List Mp):List Bool:=l.foldl (fun u m=>u.set (Zj m) true) (List.replicate 18 false)
def kJ (l:List Mp):List Int:=l.foldl (fun u m=>u.set m.s.toNat (u.getD m.s.toNat 0 + 1)) (List.replicate 8 0)
def Wz (l:List Int):List Int:=l.foldl (fun u o=>if o=0 then u else u.set (o - 1).toNat (u.getD (o - 1).toNat 0 + 1)) (List.replicate 8 0)
def xT (t:Tb) (m:Mp):Prop:=Zu m.ae m.s m.aN=true∧Kb m.port=true∧0≤m.a∧m.a < 3
def nA (t:Tb) (m:Mp):Prop:=xT t m∧t.bD m.s.toNat=m.a + 1∧t.aq.ow m.a.toNat (Xx m.port).toNat=m.s + 1
def Zv (m o:Mp):Bool:=o.ae == m.ae && (o.a == m.a && o.port == m.port || o.s == m.s && o.aN == m.aN)
structure dy (t:Tb):Prop where
 aq:t.aq.ca=true
 maps:∀ i (h:i < t.maps.length),nA t t.maps[i]
 apart:∀ i j (hi:i < t.maps.length) (hj:j < i),Zv t.maps[i] (t.maps[j]'af)=false
 used:∀ i,i < 18→(t.aq.own.getD i 0 != 0)=(oF t.maps).getD i false
 lL:∀ s,s < 8→(Wz t.aq.own).getD s 0≤2∧(kJ t.maps).getD s 0≤12∧((t.bD s != 0)=decide (0 < (Wz t.aq.own).getD s 0))
open Classical in
noncomputable def Wi (t:Tb):Bool:=decide (dy t)
theorem Xgx (l:List Mp) (m:Mp):oF (l++[m])=(oF l).set (Zj m) true:=by unfold oF;rw[List.foldl_append];rfl
theorem Xdx (l:List Mp) (m:Mp):kJ (l++[m])=(kJ l).set m.s.toNat ((kJ l).getD m.s.toNat 0 + 1):=by unfold kJ;rw[List.foldl_append];rfl
theorem Xob (l:List Int) (o:Int):Wz (l++[o])=if o=0 then Wz l else (Wz l).set (o - 1).toNat ((Wz l).getD (o - 1).toNat 0 + 1):=by unfold Wz;rw[List.foldl_append];rfl
theorem G0 {α β:Type} (f:List α→β→List α) (hf:∀ u b,(f u b).length=u.length):∀ (l:List β) (u:List α),(l.foldl f u).length=u.length
 | [],_=>rfl
 | b::l,u=>by rw[List.foldl_cons,G0 f hf l,hf]
theorem Xj4 (l:List Mp):(oF l).length=18:=by unfold oF;rw[G0 _ (fun u b=>List.length_set ..)];rfl
theorem Xq2 (l:List Mp):(kJ l).length=8:=by unfold kJ;rw[G0 _ (fun u b=>List.length_set ..)];rfl
theorem SW (l:List Int):(Wz l).length=8:=by unfold Wz;rw[G0 _ (fun u b=>by split<;>simp)];rfl
theorem SX {β:Type} (ix:β→Nat) (skip:β→Bool) (l:List β) (s:Nat):∀ u:List Int,(l.foldl (fun u b=>if skip b=true then u else u.set (ix b) (u.getD (ix b) 0 + 1)) u).getD s 0≤u.getD s 0 + l.length∧u.getD s 0≤(l.foldl (fun u b=>if skip b=true then u else u.set (ix b) (u.getD (ix b) 0 + 1)) u).getD s 0:=by
 induction l with
 | nil=>intro u;simp
 | cons b l ih =>
  intro u
  rw[List.foldl_cons]
  have h:=ih (if skip b=true then u else u.set (ix b) (u.getD (ix b) 0 + 1))
  have hu:(if skip b=true then u else u.set (ix b) (u.getD (ix b) 0 + 1)).getD s 0≤u.getD s 0 + 1∧u.getD s 0≤(if skip b=true then u else u.set (ix b) (u.getD (ix b) 0 + 1)).getD s 0:=by
   split
   ·omega
   ·by_cases hs:ix b=s
    ·subst hs
     by_cases hl:ix b < u.length
     ·simp[List.getD,hl];omega
     ·simp[List.getD,Nat.le_of_not_lt hl]
    ·simp[List.getD,List.getElem?_set_ne hs];omega
  rw[List.length_cons]
  omega
theorem DC (n s:Nat):(List.replicate n (0:Int)).getD s 0=0:=by
 rw[List.getD_eq_getElem?_getD,List.getElem?_replicate];split<;>rfl
theorem SY (l:List Mp) (s:Nat):0≤(kJ l).getD s 0∧(kJ l).getD s 0≤l.length:=by
 have:=SX (fun m:Mp=>m.s.toNat) (fun _=>false) l s (List.replicate 8 0)
 rw[DC,Int.zero_add]at this
 have e:kJ l=l.foldl (fun u b=>if (fun _:Mp=>false) b=true then u else u.set ((fun m:Mp=>m.s.toNat) b) (u.getD ((fun m:Mp=>m.s.toNat) b) 0 + 1)) (List.replicate 8 0):=rfl
 rw[e]
 exact ⟨this.2,this.1⟩
theorem SZ (l:List Int) (s:Nat):0≤(Wz l).getD s 0∧(Wz l).getD s 0≤l.length:=by
 have:=SX (fun o:Int=>(o - 1).toNat) (fun o=>o == 0) l s (List.replicate 8 0)
 rw[DC,Int.zero_add]at this
 have e:Wz l=l.foldl (fun u b=>if (fun o:Int=>o == 0) b=true then u else u.set ((fun o:Int=>(o - 1).toNat) b) (u.getD ((fun o:Int=>(o - 1).toNat) b) 0 + 1)) (List.replicate 8 0):=by
  unfold Wz
  congr 1
  funext u o
  simp
 rw[e]
 exact ⟨this.2,this.1⟩
theorem Tb.xU {t:Tb} (h:t.wf) {a k:Nat} (ha:a < 3) (hk:k < 6):t.enc.getD (a * 6 + k) .any=.int .i64 (t.aq.ow a k):=by
 have e:=LX t.aq h.aq a k ha hk
 unfold Tb.enc Tb.hd
 rw[List.append_assoc,List.getD_eq_getElem?_getD,List.getElem?_append_left (by rw[aw.aC h.aq];omega),← List.getD_eq_getElem?_getD]
 exact e
open Classical in
theorem L5 {t:Tb} (h:dy t):Wi t=true:=decide_eq_true h
open Classical in
theorem AY {t:Tb} (h:¬ dy t):Wi t=false:=decide_eq_false h
theorem Kp {p s i:Int} (h:Zu p s i=true):(p=1∨p=6∨p=17)∧(0≤s∧s < 8)∧(0≤i∧i≤65535):=by
 unfold Zu at h
 simp at h
 omega
theorem S4 {port:Int} (h:Kb port=true):0≤Xx port∧Xx port < 6∧(1024≤port∧port < 1072):=by
 have h':=h
 unfold Kb at h'
 simp at h'
 unfold Xx
 rw[if_pos h];omega
set_option maxRecDepth 20000 in
theorem DD (gl:Nat→AV) (t:Tb) (ht:t.ok):PS Tryz.prog gl 52 [.agg t.enc] (.bool (Wi t)):=by
 refine AP.ps (of_decide_eq_true rfl) (by simp[Qe]) fun c hN hg=>?_
 conv in aO _ _=>cbv
 have e2:=Tb.aC ht.wf
 have e3:=Tb.cO ht.wf
 have e4:=Tb.dU ht.wf
 have hG:=GV c.gl t.aq ht.wf.aq
 have aJ:=Jo t.maps
 have hlen:=ht.len
 by_cases bm:t.aq.ca=true
 rotate_left
 ·have hr:=AY (t:=t) fun h=>bm h.aq
  have bm:t.aq.ca=false:=by simpa using bm
  rw[bm]at hG
  refine Qh (An @e2 @e4) ?_
  refine Qy hG (An @e2 @e4) ?_
  (refine Qa (fun h1=>?_) (fun h1=>?_)<;>try exact h1.elim)
  exact Qr @hr
 rw[bm]at hG
 refine Qh (An @e2 @e4) ?_
 refine Qy hG (An @e2 @e4) ?_
 (refine Qa (fun h1=>?_) (fun h1=>?_)<;>try exact h1.elim)
 refine Qh (An @e2 @e3) ?_
 refine Xr (fun k:Nat=>k≤t.maps.length∧(∀ i (h:i < t.maps.length),i < k→nA t t.maps[i])∧(∀ i j (hi:i < t.maps.length) (hj:j < i),i < k→Zv t.maps[i] (t.maps[j]'af)=false))
  (fun k=>⟨[(1,.ptr 0 0),(3,.ptr 1 0),(4,.ptr 2 0),(23,.isl t.maps.length (cp t.maps)),(24,.int .i64 t.maps.length),(25,.int .i64 k)],[(0,.cells t.enc),(1,.cells (Zh (oF (t.maps.take k)))),(2,.cells (Qp (kJ (t.maps.take k))))],3⟩) (fun k=>t.maps.length - k) AP.mixed hN
  ⟨0,⟨by omega,fun i h h0=>by omega,fun i j hi hj h0=>by omega⟩,[],by (refine XG ?_;((try (repeat' with_reducible refine And.intro ?_ ?_));(try any_goals (first|refine zm ?_|exact CL|fail))))<;>exact rfl⟩ fun k hI=>?_
 obtain ⟨hk,aU,AZ⟩:=id hI
 clear hI
 have L6:=Xj4 (t.maps.take k)
 have vI:=Xq2 (t.maps.take k)
 refine Qf ?_
 (refine Qa (fun h2=>?_) (fun h2=>?_)<;>try exact h2.elim)
 ·have bB:k < t.maps.length:=by omega
  have bg:=vC t.maps k bB
  have nZ:=ht.bd _ (List.getElem_mem bB)
  have eW:t.maps.take (k + 1)=t.maps.take k++[t.maps[k]]:=by rw[List.take_add_one,List.getElem?_eq_getElem bB];rfl
  have tu:=Xgx (t.maps.take k) t.maps[k]
  have qR:=Xdx (t.maps.take k) t.maps[k]
  have eJ:=SY (t.maps.take k) t.maps[k].s.toNat
  rw[List.length_take]at eJ
  have DE:¬ nA t t.maps[k]→¬ dy t:=fun h h2=>h (h2.maps k bB)
  have DF:∀ j (hj:j < k),Zv t.maps[k] (t.maps[j]'af)=true→¬ dy t:=fun j hj h h2=>by
   have:=h2.apart k j bB hj
   rw[h]at this;cases this
  have qS:nA t t.maps[k]→∀ i (h:i < t.maps.length),i < k + 1→nA t t.maps[i]:=fun h i hi cJ=>by
   by_cases e:i=k
   ·subst e;exact h
   ·exact aU i hi af
  have qT:(∀ j (hj:j < k),Zv t.maps[k] (t.maps[j]'af)=false)→∀ i j (hi:i < t.maps.length) (hj:j < i),i < k + 1→Zv t.maps[i] (t.maps[j]'af)=false:=fun h i j hi hj cJ=>by
   by_cases e:i=k
   ·subst e;exact h j hj
   ·exact AZ i j hi hj af
  have L7:=Lib.hid DE
  have HAP:=Lib.hid DF
  have L8:=Lib.hid qS
  have L9:=Lib.hid qT
  clear DE DF qS qT aU AZ
  generalize S5:t.maps[k]=m at *
  obtain ⟨mp,ms,mi,ma,mt⟩:=m
  obtain ⟨_,_,_,_,fv⟩:=nZ
  dsimp only at fv eJ
  have hB:=GZ c.gl mt fv
  have hK:=L2 c.gl mp ms mi
  unfold vE at hB
  simp only[Mp.enc]at bg
  by_cases bY:Zu mp ms mi=true∧Kb mt=true∧0≤ma∧ma < 3
  rotate_left
  ·have eH:=AY (L7.out fun h=>bY ⟨h.1.1,h.1.2.1,h.1.2.2.1,h.1.2.2.2⟩)
   have hb:(!Zu mp ms mi || !Kb mt || decide (ma < 0) || decide (3≤ma))=true:=by
    cases h1:Zu mp ms mi
    ·rfl
    ·cases h2:Kb mt
     ·rfl
     ·have:ma < 0∨3≤ma:=by
       have:¬ (0≤ma∧ma < 3):=fun h=>bY ⟨h1,h2,h⟩
       omega
      simpa using this
   refine Qh (An @aJ @bg) ?_
   refine Qy hB (An @aJ @bg) ?_
   refine Qy hK (An @aJ (An @bg @hb)) ?_
   (refine Qa (fun h3=>?_) (fun h3=>?_)<;>try exact h3.elim)
   exact Qr @eH
  obtain ⟨tP,hk2,Ma,Mb⟩:=bY
  obtain ⟨_,⟨lb,iA⟩,_⟩:=Kp tP
  obtain ⟨vp,fO,_⟩:=S4 hk2
  have bY:xT t ⟨mp,ms,mi,ma,mt⟩:=⟨tP,hk2,Ma,Mb⟩
  rw[tP]at hK
  rw[hk2,if_pos rfl]at hB
  obtain ⟨S,rfl⟩:=Int.eq_ofNat_of_zero_le lb
  obtain ⟨A,rfl⟩:=Int.eq_ofNat_of_zero_le Ma
  obtain ⟨Bk,A0⟩:=Int.eq_ofNat_of_zero_le vp
  have nB:S < 8:=by omega
  have Mc:A < 3:=by omega
  have hB6:Bk < 6:=by omega
  have eh:=Tb.gn ht.wf nB
  have eo:=Tb.xU ht.wf Mc hB6
  have xV:nA t ⟨mp,S,mi,A,mt⟩ ↔ t.bD S=(A:Int) + 1∧t.aq.ow A Bk=(S:Int) + 1:=by
   unfold nA
   dsimp only
   rw[Int.toNat_natCast,Int.toNat_natCast,A0,Int.toNat_natCast]
   exact ⟨fun h=>h.2,fun h=>⟨bY,h⟩⟩
  have ug:Zj ⟨mp,S,mi,A,mt⟩=A * 6 + Bk:=by
   unfold Zj
   dsimp only
   rw[A0,Int.toNat_natCast,Int.toNat_natCast]
  rw[ug]at tu
  dsimp only at qR
  rw[Int.toNat_natCast]at qR eJ
  rw[A0]at hB
  clear bY ug fv
  generalize S6:oF (t.maps.take k)=U at *
  generalize S7:kJ (t.maps.take k)=M at *
  generalize pP:t.bD S=ho at *
  generalize jT:t.aq.ow A Bk=ow at *
  generalize (mt - 1024) % 8=q at *
  refine Qh (An @aJ @bg) ?_
  refine Qy hB (An @aJ @bg) ?_
  refine Qy hK (An @aJ (An @bg (An @e2 (An @eh @eo)))) ?_
  (refine Qa (fun h3=>?_) (fun h3=>?_)<;>try exact h3.elim)
  ·have eH:=AY (L7.out fun h=>by have:=xV.1 h;omega)
   exact Qr @eH
  have Md:=xV.2 ⟨by omega,by omega⟩
  clear L7 xV
  have hmg:(Qp M).getD S .any=.int .i64 (M.getD S 0):=zU af
  have jF:=Sz t.maps k af
  refine Qh (An @e3 (An @aJ (An @L6 (An @vI @hmg)))) ?_
  refine Xr (fun j:Nat=>j≤k∧∀ i (hi:i < k),i < j→Zv ⟨mp,S,mi,A,mt⟩ (t.maps[i]'af)=false)
   (fun j=>⟨[(1,.ptr 0 0),(3,.ptr 1 0),(4,.ptr 2 0),(6,.ptr 3 0),(23,.isl t.maps.length (cp t.maps)),(24,.int .i64 t.maps.length),(25,.int .i64 k),(98,.isl k (cp (t.maps.take k))),(99,.int .i64 k),(100,.int .i64 j)],[(0,.cells t.enc),(1,.cells (Zh (U.set (A * 6 + Bk) true))),(2,.cells (Qp (M.set S (M.getD S 0 + 1)))),(3,.cells [.int .i64 mp,.int .i64 S,.int .i64 mi,.int .i64 A,.int .i64 mt])],4⟩) (fun j=>k - j) AP.mixed hN
   ⟨0,⟨by omega,fun i h h0=>by omega⟩,[],by exact Qr (An @Nat.sub_zero @jF)⟩ fun j hJ=>?_
  obtain ⟨hj,b9⟩:=id hJ
  clear hJ
  refine Qf ?_
  (refine Qa (fun h4=>?_) (fun h4=>?_)<;>try exact h4.elim)
  ·have Ha:j < k:=by omega
   have qU:=vC (t.maps.take k) j (by rw[List.length_take];omega)
   rw[List.getElem_take]at qU
   have xW:(cp (t.maps.take k)).length=k * 5:=by rw[Jo,List.length_take,Nat.min_eq_left af]
   have eH:=fun h=>AY (HAP.out j Ha h)
   have DG:Zv ⟨mp,S,mi,A,mt⟩ (t.maps[j]'af)=false→∀ i (hi:i < k),i < j + 1→Zv ⟨mp,S,mi,A,mt⟩ (t.maps[i]'af)=false:=fun h i hi iJ=>by
    by_cases e:i=j
    ·subst e;exact h
    ·exact b9 i hi af
   have HB:=Lib.hid eH
   have HN:=Lib.hid DG
   clear eH DG b9
   generalize t.maps[j]=o at *
   obtain ⟨op,os,oi,oa,ot⟩:=o
   unfold Zv at HB HN
   simp only[Mp.enc]at qU
   dsimp only at HB HN
   generalize hKL:(op == mp && (oa == (A:Int) && ot == mt || os == (S:Int) && oi == mi))=kl at *
   (have aB:=@xW;have aQ:=@qU;have a8:=@hKL;refine XG ?_;clear aB aQ a8;((try (repeat' with_reducible refine And.intro ?_ ?_));(try any_goals (first|refine zm ?_|exact CL|fail))))
   ·intro h1 h2;rw[h1,h2];rfl
   (refine Qa (fun h5=>?_) (fun h5=>?_)<;>try exact h5.elim)
   ·exact Qr (HB.out h5)
   ·refine Qf ?_
    refine ⟨j + 1,⟨by omega,HN.out h5⟩,⟨[],?_⟩,by omega⟩
    exact Qs
  ·have:j=k:=by omega
   subst this
   refine Qf ?_
   refine ⟨j + 1,⟨by omega,L8.out Md,L9.out fun i hi=>b9 i hi hi⟩,⟨[],?_⟩,by omega⟩
   exact Qr (An @eW (An @tu @qR))
 ·have:k=t.maps.length:=by omega
  subst this
  have qS:∀ i (h:i < t.maps.length),nA t t.maps[i]:=fun i h=>aU i h h
  have qT:∀ i j (hi:i < t.maps.length) (hj:j < i),Zv t.maps[i] (t.maps[j]'af)=false:=fun i j hi hj=>AZ i j hi hj hi
  clear aU AZ
  rw[List.take_length]at L6 vI
  have dD:t.maps.take t.maps.length=t.maps:=List.take_length
  have eJ:=SY t.maps
  have eT:(∀ i,i < 18→(t.aq.own.getD i 0 != 0)=(oF t.maps).getD i false)→(∀ s,s < 8→(Wz t.aq.own).getD s 0≤2∧(kJ t.maps).getD s 0≤12∧((t.bD s != 0)=decide (0 < (Wz t.aq.own).getD s 0)))→dy t:=fun a b=>⟨bm,qS,qT,a,b⟩
  have fO:∀ i,i < 18→¬ ((t.aq.own.getD i 0 != 0)=(oF t.maps).getD i false)→¬ dy t:=fun i hi h h2=>h (h2.used i hi)
  have dE:∀ s,s < 8→¬ ((Wz t.aq.own).getD s 0≤2∧(kJ t.maps).getD s 0≤12∧((t.bD s != 0)=decide (0 < (Wz t.aq.own).getD s 0)))→¬ dy t:=fun i hi h h2=>h (h2.lL i hi)
  have Me:=Lib.hid eT
  have S8:=Lib.hid fO
  have HB2:=Lib.hid dE
  clear eT fO dE qS qT
  have e5:t.enc.take 18=Qp t.aq.own:=by
   have h1:=SI t.aq ht.wf.aq
   rw[← e4,List.take_take]at h1
   exact h1
  have vi:=ht.wf.aq.own
  refine Qh (An @dD (An @e2 @e5)) ?_
  generalize S6:oF t.maps=U at *
  generalize S7:kJ t.maps=M at *
  refine Xr (fun a:Nat=>a≤3∧∀ i,i < a * 6→(t.aq.own.getD i 0 != 0)=U.getD i false)
   (fun a=>⟨[(1,.ptr 0 0),(3,.ptr 1 0),(4,.ptr 2 0),(12,.ptr 3 0),(141,.agg (Qp t.aq.own)),(142,.int .i64 a)],[(0,.cells t.enc),(1,.cells (Zh U)),(2,.cells (Qp M)),(3,.cells (Qp (Wz (t.aq.own.take (a * 6)))))],4⟩) (fun a=>3 - a) AP.mixed hN
   ⟨0,⟨by omega,fun i h=>by omega⟩,[],by refine Qf ?_<;>exact rfl⟩ fun a hI=>?_
  obtain ⟨ha,tu⟩:=id hI
  clear hI
  refine Qf ?_
  (refine Qa (fun h3=>?_) (fun h3=>?_)<;>try exact h3.elim)
  ·have jS:a < 3:=by omega
   have hr:=SJ t.aq a
   have ft:=Kn t.aq ht.wf.aq a jS
   refine Qh (An @hr @vi) ?_
   refine Xr (fun k:Nat=>k≤6∧∀ i,i < a * 6 + k→(t.aq.own.getD i 0 != 0)=U.getD i false)
    (fun k=>⟨[(1,.ptr 0 0),(3,.ptr 1 0),(4,.ptr 2 0),(12,.ptr 3 0),(13,.int .i64 a),(141,.agg (Qp t.aq.own)),(142,.int .i64 a),(146,.agg (Qp (t.aq.row a))),(147,.int .i64 k)],[(0,.cells t.enc),(1,.cells (Zh U)),(2,.cells (Qp M)),(3,.cells (Qp (Wz (t.aq.own.take (a * 6 + k)))))],4⟩) (fun k=>6 - k) AP.mixed hN
    ⟨0,⟨by omega,fun i h=>tu i af⟩,[],by exact Qr @Nat.add_zero⟩ fun k hJ=>?_
   obtain ⟨hk,oG⟩:=id hJ
   clear hJ
   refine Qf ?_
   (refine Qa (fun h4=>?_) (fun h4=>?_)<;>try exact h4.elim)
   ·have l8:k < 6:=by omega
    have qV:a * 6 + k < 18:=by omega
    have hv:=AS t.aq a k l8
    have hog:=aw.ua t.aq bm a k
    have eH:=S8.out (a * 6 + k) qV
    have ec:=Xob (t.aq.own.take (a * 6 + k)) (t.aq.ow a k)
    have eW:t.aq.own.take (a * 6 + k + 1)=t.aq.own.take (a * 6 + k)++[t.aq.ow a k]:=by
     rw[List.take_add_one,List.getElem?_eq_getElem (by rw[vi];exact qV)]
     unfold aw.ow
     rw[List.getD_eq_getElem?_getD,List.getElem?_eq_getElem (by rw[vi];exact qV)];rfl
    have iw:=SW (t.aq.own.take (a * 6 + k))
    have zJ:=SZ (t.aq.own.take (a * 6 + k)) (t.aq.ow a k - 1).toNat
    have Mf:(t.aq.own.take (a * 6 + k)).length=a * 6 + k:=by rw[List.length_take,vi];omega
    have xX:(t.aq.own.getD (a * 6 + k) 0 != 0)=U.getD (a * 6 + k) false→∀ i,i < a * 6 + (k + 1)→(t.aq.own.getD i 0 != 0)=U.getD i false:=fun h i hi=>by
     by_cases e:i=a * 6 + k
     ·subst e;exact h
     ·exact oG i af
    have jT:t.aq.own.getD (a * 6 + k) 0=t.aq.ow a k:=rfl
    rw[jT]at eH xX
    rw[← eW]at ec
    rw[Mf]at zJ
    have S9:=Lib.hid eH
    have Ta:=Lib.hid xX
    clear eH xX oG tu jT eW
    generalize Wz (t.aq.own.take (a * 6 + k))=W at *
    generalize lj:Wz (t.aq.own.take (a * 6 + k + 1))=W2 at *
    generalize t.aq.ow a k=o at *
    have hxu:∀ x,U.getD (a * 6 + k) false=x→(Zh U).getD (a * 6 + k) .any=.bool x:=fun x e=>by rw[← e];exact JW af
    have hug:=hxu _ rfl
    generalize U.getD (a * 6 + k) false=u at *
    refine Qh (An @ft (An @L6 (An @hv @hug))) ?_
    (refine Qa (fun h5=>?_) (fun h5=>?_)<;>try exact h5.elim)
    ·exact Qr (AY (S9.out h5))
    have h6:=Ta.out (by simpa using h5)
    clear S9 Ta
    refine Qf ?_
    have kK:a * 6 + (k + 1)=a * 6 + k + 1:=by omega
    (refine Qa (fun h7=>?_) (fun h7=>?_)<;>try exact h7.elim)
    ·rw[if_neg h7]at ec
     obtain ⟨N,su⟩:=Int.eq_ofNat_of_zero_le (show 0≤o - 1 by omega)
     have hN8:N < 8:=by omega
     rw[su,Int.toNat_natCast]at ec zJ
     have hwg:(Qp W).getD N .any=.int .i64 (W.getD N 0):=zU af
     refine Qh (An @su (An @iw @hwg)) ?_
     refine ⟨k + 1,⟨by omega,h6⟩,⟨[],?_⟩,by omega⟩
     exact Qr (An @kK (An @lj @ec))
    ·rw[if_pos af]at ec
     refine Qf ?_
     refine ⟨k + 1,⟨by omega,h6⟩,⟨[],?_⟩,by omega⟩
     exact Qr (An @kK (An @lj @ec))
   ·have:k=6:=by omega
    subst this
    refine Qf ?_
    refine ⟨a + 1,⟨by omega,fun i hi=>oG i af⟩,⟨[],?_⟩,by omega⟩
    have e6:(a + 1) * 6=a * 6 + 6:=by omega
    exact Qr @e6
  ·have:a=3:=by omega
   subst this
   have e7:t.aq.own.take (3 * 6)=t.aq.own:=List.take_of_length_le af
   have nZ:=SZ t.aq.own
   have iw:=SW t.aq.own
   have oG:∀ i,i < 18→(t.aq.own.getD i 0 != 0)=U.getD i false:=fun i h=>tu i af
   have DH:=Me.out oG
   have Me:=Lib.hid DH
   clear DH tu oG S8 S6 S7
   rw[vi]at nZ
   generalize hWW:Wz t.aq.own=W at *
   have pP:∀ s,s < 8→t.enc.getD (21 + s) .any=.int .i64 (t.bD s):=fun s hs=>Tb.gn ht.wf hs
   refine Qh (An @e7 @hWW) ?_
   refine Xr (fun s:Nat=>s≤8∧∀ i,i < s→(W.getD i 0≤2∧M.getD i 0≤12∧(t.bD i != 0)=decide (0 < W.getD i 0)))
    (fun s=>⟨[(1,.ptr 0 0),(3,.ptr 1 0),(4,.ptr 2 0),(12,.ptr 3 0),(169,.int .i64 s)],[(0,.cells t.enc),(1,.cells (Zh U)),(2,.cells (Qp M)),(3,.cells (Qp W))],4⟩) (fun s=>8 - s) AP.mixed hN
    ⟨0,⟨by omega,fun i h=>by omega⟩,[],by exact Qs⟩ fun s hI=>?_
   obtain ⟨hs,Mg⟩:=id hI
   clear hI
   refine Qf ?_
   (refine Qa (fun h4=>?_) (fun h4=>?_)<;>try exact h4.elim)
   ·have xY:s < 8:=by omega
    have eH:=fun h=>AY (HB2.out s xY h)
    have DI:(W.getD s 0≤2∧M.getD s 0≤12∧(t.bD s != 0)=decide (0 < W.getD s 0))→∀ i,i < s + 1→(W.getD i 0≤2∧M.getD i 0≤12∧(t.bD i != 0)=decide (0 < W.getD i 0)):=fun h i hi=>by
     by_cases e:i=s
     ·subst e;exact h
     ·exact Mg i af
    have HB:=Lib.hid eH
    have HN:=Lib.hid DI
    clear eH DI Mg
    have hw:(Qp W).getD s .any=.int .i64 (W.getD s 0):=zU af
    have hm:(Qp M).getD s .any=.int .i64 (M.getD s 0):=zU af
    have hh:=pP s xY
    have fO:=nZ s
    have dE:=eJ s
    generalize W.getD s 0=x at *
    generalize M.getD s 0=y at *
    generalize t.bD s=z at *
    refine Qh (An @hw (An @hm (An @hh (An @iw (An @vI @e2))))) ?_
    (refine Qa (fun h5=>?_) (fun h5=>?_)<;>try exact h5.elim)
    ·have h6:¬(x≤2∧y≤12∧(z != 0)=decide (0 < x)):=fun ⟨p,q,r⟩=>h5.elim (fun h=>by omega) (fun h=>h r)
     exact Qr (HB.out h6)
    ·obtain ⟨⟨h6,h7⟩,h8⟩:=h5
     refine Qf ?_
     refine ⟨s + 1,⟨by omega,HN.out ⟨by omega,by omega,h8⟩⟩,⟨[],?_⟩,by omega⟩
     exact Qs
   ·have:s=8:=by omega
    subst this
    exact Qr (L5 (Me.out Mg))
theorem Xez:Tryz.prog.underlying 37=some (.slice 69):=by kernel_rfl
theorem A1 {c:Cx} {ne:Bool} {x:TV} {v:AV} {b:Bool} (hb:sC v=some b):CM Tryz.prog c (.cA ne 37) [x,.c .nils] [v,.nils] (.bool (ne != b)):=Xxc Xez hb
theorem Xv1 (gl:Nat→AV) (cap:Nat):GS Tryz.prog gl 64 [.lit (.slice none 0 cap)] [] 0 .nils [] 0:=by
 refine AR.gs (of_decide_eq_true rfl) au fun c hN hg=>?_
 conv in aO _ _=>cbv
 refine Qf ?_
 refine Al ?_ (A1 (b:=true) (show sC (.lit (.slice none 0 cap))=some true from rfl)) ?_
 ·exact Qs
 refine Qf ?_
 (refine Qa (fun h1=>?_) (fun h1=>?_)<;>try exact h1.elim)
 refine Qf ?_
 exact ⟨[],by exact Qs⟩
theorem Xel (gl:Nat→AV) (a:Addr) (cap:Nat):GS Tryz.prog gl 64 [.lit (.slice (some a) 0 cap)] [] 0 (.sl 5 0 0 0 0) [(0,.cells [])] 1:=by
 refine AR.gs (of_decide_eq_true rfl) au fun c hN hg=>?_
 conv in aO _ _=>cbv
 refine Qf ?_
 refine Al ?_ (A1 (b:=false) (show sC (.lit (.slice (some a) 0 cap))=some false from rfl)) ?_
 ·exact Qs
 refine Qf ?_
 (refine Qa (fun h1=>?_) (fun h1=>?_)<;>try exact h1.elim)
 refine Qf ?_
 refine Qy Gi @List.length_nil.{0} ?_
 refine Jw ?_
 refine ⟨[(0,0)],?_⟩
 exact Qs
theorem DJ (gl:Nat→AV) (l:List Mp) (hn:l.length≤1000000):GS Tryz.prog gl 64 [.isl l.length (cp l)] [] 0 (.sl 5 0 0 l.length l.length) [(0,.cells (cp l))] 1:=by
 have hl:=Jo l
 cases l with
 | nil=>exact GS.empty (Xv1 gl) (Xel gl)
 | cons x l =>
 have Mh:sC (.isl (x::l).length (cp (x::l)))=some false:=rfl
 generalize x::l=l at *
 refine AR.gs (of_decide_eq_true rfl) au fun c hN hg=>?_
 conv in aO _ _=>cbv
 refine Qf ?_
 refine Al ?_ (A1 (b:=false) Mh) ?_
 ·exact Qs
 refine Qf ?_
 (refine Qa (fun h1=>?_) (fun h1=>?_)<;>try exact h1.elim)
 refine Qf ?_
 refine Zg Gi ?_
 refine Zm @hl ?_
 refine ⟨[(0,0)],?_⟩
 exact Qs
theorem Tb.nC {t:Tb} (h:t.wf) (x:AV):t.enc.set 29 x=t.hd++[x]:=by
 unfold Tb.enc
 rw[List.set_append_right _ _ (by rw[Tb.dx h];exact Nat.le_refl _),Tb.dx h];rfl
theorem Tb.mO (t:Tb) (h:t.wf) (x:AV):(t.hd++[x]).length=30:=by simp[Tb.dx h]
def Tb.add (t:Tb) (m:Mp):Tb:={ t with maps:=t.maps++[m] }
def Jm (t:Tb) (m:Mp) (b:Bool) (e:Int):AV:=.aX [.agg t.enc,.agg m.enc,.bool b,.int .i64 e]
theorem Mi (gl:Nat→AV) (t:Tb) (ht:t.wf) (hl:t.maps.length≤100000) (m:Mp) (b:Bool):PS Tryz.prog gl 127 [.agg t.enc,.agg m.enc,.bool b] (Jm (t.add m) m b 0):=by
 refine Xz4.ps (of_decide_eq_true rfl) (by simp[Qe,ai,Jm,Tb.bw,Mp.enc]) fun c hN hg=>?_
 conv in aO _ _=>cbv
 have e2:=Tb.aC ht
 have e3:=Tb.cO ht
 have aJ:=Jo t.maps
 have hs:=Tb.nC ht
 have jD:=Tb.mO t ht
 unfold Mp.enc
 refine Qh (An @e2 @e3) ?_
 ((first|refine Xa (ins:=[]) (DJ c.gl t.maps (by omega)) ?_ ?_|refine Qw (ins:=[]) (DJ c.gl t.maps (by omega)) ?_ ?_|refine Qx (ins:=[]) (DJ c.gl t.maps (by omega)) ?_ ?_|refine Qt (ins:=[]) (DJ c.gl t.maps (by omega)) ?_ ?_)<;>(have aB:=@e2;have aQ:=@e3;refine XG ?_;clear aB aQ;(try first|exact rfl|exact True.intro);((try (repeat' with_reducible refine And.intro ?_ ?_));(try any_goals (first|refine zm ?_|exact CL|fail)))))
 refine Jw ?_
 refine Zm @aJ ?_
 refine Qh (An @hs (An @e2 @jD)) ?_
 have hq:Jm (t.add m) m b 0=.aX [.agg (t.hd++[.isl (t.maps.length + 1) (cp t.maps++[.int .i64 m.ae,.int .i64 m.s,.int .i64 m.aN,.int .i64 m.a,.int .i64 m.port])]),.agg [.int .i64 m.ae,.int .i64 m.s,.int .i64 m.aN,.int .i64 m.a,.int .i64 m.port],.bool b,.int .i64 0]:=by
  rw[Xsl]
  simp[Jm,Tb.add,Tb.enc,Tb.hd,Mp.enc]
 have eW:(cp t.maps++[AV.int .i64 m.ae,.int .i64 m.s,.int .i64 m.aN,.int .i64 m.a,.int .i64 m.port]).take ((t.maps.length + 1) * 5)=cp t.maps++[.int .i64 m.ae,.int .i64 m.s,.int .i64 m.aN,.int .i64 m.a,.int .i64 m.port]:=List.take_of_length_le (by simp[Jo];omega)
 rw[hq,List.map_append]
 exact Qr @eW
theorem Mj (t:Tb) (m:Mp) (b:Bool) (e:Int) (n:Nat):Qe n (Jm t m b e)=True:=by simp[Qe,ai,Jm,Tb.bw,Mp.enc]
theorem Tc (t:Tb) (m:Mp) (b:Bool) (e:Int) (ρ:Nat→Nat):aD ρ (Jm t m b e)=Jm t m b e:=by simp[aD,ay,Jm,Tb.dw,Mp.enc]
attribute [go_sem] Mj Tc
theorem xZ (gl:Nat→AV) (t:Tb) (ht:t.wf) (e:Int):GS Tryz.prog gl 125 [.int .i64 e,.ptr 0 0] [(0,.cells t.enc)] 1 (Jm t fF false e) [(0,.cells t.enc)] 1:=by
 refine Xdd.gs (of_decide_eq_true rfl) (by simp[Bk.live]) fun c hN hg=>?_
 conv in aO _ _=>cbv
 have e2:=Tb.aC ht
 refine Qh @e2 ?_
 refine ⟨[],?_⟩
 refine Qf ?_
 rfl
theorem Tb.gp {t:Tb} (h:t.wf) {p:aw} (hp:p.wf):Yu t.enc 0 p.enc=(⟨p,t.home,t.maps⟩:Tb).enc:=by
 unfold Yu Tb.enc Tb.hd
 rw[List.take_zero,List.nil_append,aw.aC hp,List.append_assoc,List.append_assoc,Nat.zero_add,← aw.aC h.aq,List.drop_left]
theorem Tb.gu {t:Tb} (h:t.wf) {s:Nat} (hs:s < 8) (x:Int):t.enc.set (21 + s) (.int .i64 x)=(⟨t.aq,t.home.set s x,t.maps⟩:Tb).enc:=by
 unfold Tb.enc Tb.hd
 rw[List.append_assoc,List.set_append_right _ _ (by rw[aw.aC h.aq];omega),aw.aC h.aq,show 21 + s - 21=s by omega,List.set_append_left _ _ (by rw[Ye,h.home];exact hs),List.append_assoc]
 simp[Qp,List.map_set]
def Zz (l:List Mp) (s:Int):Nat:=l.countP fun m=>m.s == s
def Ud (k:Nat):List Int:=(List.range 8).map fun (i:Nat)=>1024 + (k:Int) * 8 + (i:Int)
def ya (t:Tb) (ae a port:Int):Bool:=(t.maps.find? (Je ae a port)).isNone
def yb (t:Tb) (ae a:Int) (l:List Nat):Option Int:=(l.flatMap Ud).find? (ya t ae a)
def jU (t:Tb) (s:Nat):List Nat:=if 1≤t.bD s then Wf t s 6 else []
def Tb.tk (t:Tb) (ae s aN a draw:Int):Tb × Mp × Bool × Int :=
 if (t.aq.take s a draw).2.2≠0 then (t,fF,false,(t.aq.take s a draw).2.2) else
 (Tb.add ⟨(t.aq.take s a draw).1,t.home.set s.toNat (a + 1),t.maps⟩ ⟨ae,s,aN,a,1024 + (t.aq.take s a draw).2.1 * 8⟩,⟨ae,s,aN,a,1024 + (t.aq.take s a draw).2.1 * 8⟩,true,0)
noncomputable def Tb.cx (t:Tb) (ae s aN draw:Int):Tb × Mp × Bool × Int :=
 if Wi t=false∨Zu ae s aN=false then (t,fF,false,2) else
 match t.maps.find? (Ze ae s aN) with
 | some m=>(t,m,false,0)
 | none =>
  if 12≤Zz t.maps s then (t,fF,false,6) else
  match yb t ae (t.bD s.toNat - 1) (jU t s.toNat) with
  | some port=>(t.add ⟨ae,s,aN,t.bD s.toNat - 1,port⟩,⟨ae,s,aN,t.bD s.toNat - 1,port⟩,false,0)
  | none =>
   if 2≤(jU t s.toNat).length then (t,fF,false,6) else
   if 1≤t.bD s.toNat then t.tk ae s aN (t.bD s.toNat - 1) draw else
   if (t.aq.pick draw).2≠0 then (t,fF,false,(t.aq.pick draw).2) else t.tk ae s aN (t.aq.pick draw).1 draw
def mP (x:Tb × Mp × Bool × Int):AV:=Jm x.1 x.2.1 x.2.2.1 x.2.2.2
set_option maxRecDepth 20000 in
theorem Xox (gl:Nat→AV) (t:Tb) (ht:t.ok) (ae s aN draw:Int) (h:Wi t=false∨Zu ae s aN=false):PS Tryz.prog gl 89 [.agg t.enc,.int .i64 ae,.int .i64 s,.int .i64 aN,.int .i64 draw] (Jm t fF false 2):=by
 refine AQ.ps (of_decide_eq_true rfl) (by simp[Mj]) fun c hN hg=>?_
 conv in aO _ _=>cbv
 have e2:=Tb.aC ht.wf
 have hG:=DD c.gl t ht
 have hK:=L2 c.gl ae s aN
 by_cases bm:Wi t=true
 ·rw[bm]at hG
  have hk:Zu ae s aN=false:=h.resolve_left (by rw[bm];simp)
  rw[hk]at hK
  refine Qh @e2 ?_
  refine Qy hG @e2 ?_
  refine Qy hK @e2 ?_
  (refine Qa (fun h1=>?_) (fun h1=>?_)<;>try exact h1.elim)
  refine Qf ?_
  exact Ke (ip [0]) (xZ c.gl t ht.wf 2) (An @e2 (An @Jm.eq_1 (An @Mp.enc.eq_1 @fF.eq_1)))
 ·have bm:Wi t=false:=by simpa using bm
  rw[bm]at hG
  refine Qh @e2 ?_
  refine Qy hG @e2 ?_
  ((first|apply Yo|apply Yc)<;>(refine XG ?_;first|exact rfl|exact True.intro|((try (repeat' with_reducible refine And.intro ?_ ?_));(try any_goals (first|refine zm ?_|exact CL|fail)))))
  (refine Qa (fun h1=>?_) (fun h1=>?_)<;>try exact h1.elim)
  refine Qf ?_
  exact Ke (ip [0]) (xZ c.gl t ht.wf 2) (An @e2 (An @Jm.eq_1 (An @Mp.enc.eq_1 @fF.eq_1)))
theorem Td {β:Type} (ix:β→Nat) (skip:β→Bool) (l:List β) (s:Nat):∀ u:List Int,s < u.length→(l.foldl (fun u b=>if skip b=true then u else u.set (ix b) (u.getD (ix b) 0 + 1)) u).getD s 0=u.getD s 0 + l.countP (fun b=>!skip b && ix b == s):=by
 induction l with
 | nil=>intro u _;simp
 | cons b l ih =>
  intro u hu
  rw[List.foldl_cons,ih _ (by split<;>simpa using hu),List.countP_cons]
  by_cases hk:skip b=true
  ·simp[hk]
  ·have hk:skip b=false:=by simpa using hk
   by_cases hs:ix b=s
   ·subst hs
    simp[hk,List.getD,hu];omega
   ·simp[hk,hs,List.getD,List.getElem?_set_ne hs]
theorem Te (l:List Mp) (s:Nat) (hs:s < 8):(kJ l).getD s 0=l.countP (fun m=>m.s.toNat == s):=by
 have h:=Td (fun m:Mp=>m.s.toNat) (fun _=>false) l s (List.replicate 8 0) (by simpa using hs)
 rw[DC,Int.zero_add]at h
 have e:kJ l=l.foldl (fun u b=>if (fun _:Mp=>false) b=true then u else u.set ((fun m:Mp=>m.s.toNat) b) (u.getD ((fun m:Mp=>m.s.toNat) b) 0 + 1)) (List.replicate 8 0):=rfl
 rw[e,h];simp
theorem Tf (l:List Int) (s:Nat) (hs:s < 8):(Wz l).getD s 0=l.countP (fun o=>!(o == 0) && (o - 1).toNat == s):=by
 have h:=Td (fun o:Int=>(o - 1).toNat) (fun o=>o == 0) l s (List.replicate 8 0) (by simpa using hs)
 rw[DC,Int.zero_add]at h
 have e:Wz l=l.foldl (fun u b=>if (fun o:Int=>o == 0) b=true then u else u.set ((fun o:Int=>(o - 1).toNat) b) (u.getD ((fun o:Int=>(o - 1).toNat) b) 0 + 1)) (List.replicate 8 0):=by
  unfold Wz
  congr 1
  funext u o
  simp
 rw[e,h]
theorem Mk (l:List Mp) (i:Nat) (hi:i < 18):(oF l).getD i false=l.any (fun m=>Zj m == i):=by
 suffices h:∀ (l:List Mp) (u:List Bool),i < u.length→(l.foldl (fun u m=>u.set (Zj m) true) u).getD i false=(u.getD i false || l.any (fun m=>Zj m == i)) by
  have:=h l (List.replicate 18 false) (by simpa using hi)
  unfold oF
  rw[this]
  have e:(List.replicate 18 false).getD i false=false:=by rw[List.getD_eq_getElem?_getD,List.getElem?_replicate,if_pos hi];rfl
  rw[e,Bool.false_or]
 intro l
 induction l with
 | nil=>intro u _;simp
 | cons m l ih =>
  intro u hu
  rw[List.foldl_cons,ih _ (by simpa using hu),List.any_cons]
  by_cases hm:Zj m=i
  ·subst hm;simp[List.getD,hu]
  ·have e:(Zj m == i)=false:=by simpa using hm
   simp[List.getD,List.getElem?_set_ne hm,e]
theorem vJ (t:Tb):Wi t=true ↔ dy t:=by unfold Wi;simp
theorem Xqj {t:Tb} (h:dy t) {i:Nat} (hi:i < 18) (ho:t.aq.own.getD i 0≠0):∃ m ∈ t.maps,nA t m∧Zj m=i∧t.aq.own.getD i 0=m.s + 1∧0≤m.s∧m.s < 8:=by
 have h1:=h.used i hi
 rw[Mk _ _ hi]at h1
 have h2:(t.aq.own.getD i 0 != 0)=true:=by simpa using ho
 rw[h2]at h1
 obtain ⟨m,hm,he⟩:=List.any_eq_true.1 h1.symm
 have he:Zj m=i:=by simpa using he
 obtain ⟨k,hk,rfl⟩:=List.getElem_of_mem hm
 have aU:=h.maps k hk
 obtain ⟨_,⟨h3,h4⟩,_⟩:=Kp aU.1.1
 refine ⟨_,hm,aU,he,?_,h3,h4⟩
 have:=aU.2.2
 unfold aw.ow at this
 rw[← this]
 congr 1
 rw[← he];rfl
theorem Tb.mQ {t:Tb} (h:dy t) (hw:t.wf) {s:Nat} (hs:s < 8):0≤t.bD s∧t.bD s≤3:=by
 by_cases h0:t.bD s=0
 ·omega
 have h1:=(h.lL s hs).2.2
 rw[Tf _ _ hs]at h1
 have h2:(t.bD s != 0)=true:=by simpa using h0
 rw[h2]at h1
 have h3:=of_decide_eq_true h1.symm
 have h3:0 < t.aq.own.countP (fun o=>!(o == 0) && (o - 1).toNat == s):=by omega
 obtain ⟨o,ho,hp⟩:=List.countP_pos_iff.1 h3
 obtain ⟨i,hi,rfl⟩:=List.getElem_of_mem ho
 have qV:i < 18:=by have:=hw.aq.own;omega
 have bm:t.aq.own.getD i 0=t.aq.own[i]:=by rw[List.getD_eq_getElem?_getD,List.getElem?_eq_getElem hi];rfl
 simp at hp
 obtain ⟨m,hm,aU,_,he,Ml,nD⟩:=Xqj h qV (by rw[bm];exact hp.1)
 rw[bm]at he
 have:m.s=(s:Int):=by omega
 have hh:=aU.2.1
 rw[this]at hh
 have ha:=aU.1.2.2
 simp at hh
 omega
theorem Xeh (l:List Mp) (h:∀ m ∈ l,m.s.toNat < 8):l.length=((List.range 8).map fun s=>l.countP fun m=>m.s.toNat == s).sum:=by
 induction l with
 | nil=>rfl
 | cons m l ih =>
  have h1:=ih fun m hm=>h m (List.mem_cons_of_mem _ hm)
  have h2:=h m (List.mem_cons_self ..)
  have e:(List.range 8)=[0,1,2,3,4,5,6,7]:=rfl
  rw[e]at h1 ⊢
  simp only[List.map_cons,List.map_nil,List.sum_cons,List.sum_nil,List.countP_cons,List.length_cons]at h1 ⊢
  generalize m.s.toNat=q at *
  rcases (by omega:q=0∨q=1∨q=2∨q=3∨q=4∨q=5∨q=6∨q=7) with rfl|rfl|rfl|rfl|rfl|rfl|rfl|rfl<;>simp<;>omega
theorem vK {t:Tb} (h:dy t):t.maps.length≤96:=by
 have hs:∀ m ∈ t.maps,m.s.toNat < 8:=fun m hm=>by
  obtain ⟨k,hk,rfl⟩:=List.getElem_of_mem hm
  obtain ⟨_,⟨h3,h4⟩,_⟩:=Kp (h.maps k hk).1.1
  omega
 rw[Xeh _ hs]
 have hb:∀ s,s < 8→t.maps.countP (fun m=>m.s.toNat == s)≤12:=fun s hs=>by
  have:=(h.lL s hs).2.1
  rw[Te _ _ hs]at this
  omega
 have e:(List.range 8)=[0,1,2,3,4,5,6,7]:=rfl
 rw[e]
 simp only[List.map_cons,List.map_nil,List.sum_cons,List.sum_nil]
 have h0:=hb 0 af;have h1:=hb 1 af;have h2:=hb 2 af;have h3:=hb 3 af
 have h4:=hb 4 af;have h5:=hb 5 af;have h6:=hb 6 af;have h7:=hb 7 af
 omega
theorem Xq7 (l:List Mp) (k:Nat) (h:k < l.length) (s:Int):Zz (l.take (k + 1)) s=Zz (l.take k) s + (if l[k].s=s then 1 else 0):=by
 have e:l.take (k + 1)=l.take k++[l[k]]:=by rw[List.take_add_one,List.getElem?_eq_getElem h];rfl
 unfold Zz
 rw[e,List.countP_append]
 by_cases h2:l[k].s=s<;>simp[h2]
theorem Tg (l:List Mp) (k:Nat) (s:Int):Zz (l.take k) s≤k:=by
 unfold Zz
 have:=List.countP_le_length (p:=fun m:Mp=>m.s == s) (l:=l.take k)
 rw[List.length_take]at this
 omega
def ie:List AV:=[(.int .i64 0),(.int .i64 0),(.int .i64 0),(.int .i64 0),(.int .i64 0),(.int .i64 0),(.int .i64 0),(.int .i64 0),(.int .i64 0),(.int .i64 0),(.int .i64 0),(.int .i64 0),(.int .i64 0),(.int .i64 0),(.int .i64 0),(.int .i64 0),(.int .i64 0),(.int .i64 0),(.bool false),(.bool false),(.bool false),(.int .i64 0),(.int .i64 0),(.int .i64 0),(.int .i64 0),(.int .i64 0),(.int .i64 0),(.int .i64 0),(.int .i64 0),.nils]
def z5:List AV:=[(.int .i64 0),(.int .i64 0),(.int .i64 0),(.int .i64 0),(.int .i64 0)]
theorem Ydg (n:Nat):ai n ie=True:=by simp[ie,ai,Qe]
theorem Yfr (n:Nat):ai n z5=True:=by simp[z5,ai,Qe]
theorem Xvv (ρ:Nat→Nat):ay ρ ie=ie:=by simp[ie,ay,aD]
theorem Yc4 (ρ:Nat→Nat):ay ρ z5=z5:=by simp[z5,ay,aD]
theorem Xs8 (s:Int):Zz [] s=0:=rfl
attribute [go_sem] Ydg Yfr Xvv Yc4 Xs8
theorem Xry (k:Nat) (t:Tb) (ae a:Int) (r:List Int) (i:Nat) (h:i < 8):((Ud k).drop i++r).find? (ya t ae a)=if ya t ae a (1024 + (k:Int) * 8 + i)=true then some (1024 + (k:Int) * 8 + i) else ((Ud k).drop (i + 1)++r).find? (ya t ae a):=by
 have hl:i < (Ud k).length:=by simpa [Ud] using h
 rw[List.drop_eq_getElem_cons hl,List.cons_append,List.find?_cons]
 have e:(Ud k)[i]=1024 + (k:Int) * 8 + i:=by simp[Ud]
 rw[e]
 split<;>rename_i h<;>simp[h]
theorem Xz5 {t:Tb} {s n k:Nat} (h:k ∈ Wf t s n):k < n:=by
 unfold Wf at h
 exact List.mem_range.1 (List.mem_filter.1 h).1
set_option maxRecDepth 20000 in
theorem Xtq (gl:Nat→AV) (t:Tb) (ht:t.ok) (lK:dy t) (ae:Int) (S:Nat) (aN draw:Int) (bB:Zu ae S aN=true) (R:AV) (eM:Qe 0 R)
  (H1:Hid (∀ m,t.maps.find? (Ze ae S aN)=some m→R=Jm t m false 0))
  (H2:Hid (t.maps.find? (Ze ae S aN)=none→12≤Zz t.maps S→R=Jm t fF false 6))
  (H3:Hid (t.maps.find? (Ze ae S aN)=none→¬ 12≤Zz t.maps S→(∀ port,yb t ae (t.bD S - 1) (jU t S)=some port→R=Jm (t.add ⟨ae,S,aN,t.bD S - 1,port⟩) ⟨ae,S,aN,t.bD S - 1,port⟩ false 0) ∧
   (yb t ae (t.bD S - 1) (jU t S)=none→(2≤(jU t S).length→R=Jm t fF false 6)∧(¬ 2≤(jU t S).length→(1≤t.bD S→R=mP (t.tk ae S aN (t.bD S - 1) draw)) ∧
    (¬ 1≤t.bD S→((t.aq.pick draw).2≠0→R=Jm t fF false (t.aq.pick draw).2)∧((t.aq.pick draw).2=0→R=mP (t.tk ae S aN (t.aq.pick draw).1 draw))))))) :
  PS Tryz.prog gl 89 [.agg t.enc,.int .i64 ae,.int .i64 S,.int .i64 aN,.int .i64 draw] R:=by
 refine AQ.ps (of_decide_eq_true rfl) eM fun c hN hg=>?_
 conv in aO _ _=>cbv
 have e2:=Tb.aC ht.wf
 have e3:=Tb.cO ht.wf
 have hG:=DD c.gl t ht
 rw[L5 lK]at hG
 have hK:=L2 c.gl ae S aN
 rw[bB]at hK
 have hF:=L3 c.gl t ht.wf ht.len ae S aN
 have aJ:=Jo t.maps
 obtain ⟨_,⟨_,nB⟩,_⟩:=Kp bB
 have nB:S < 8:=by omega
 have hhb:=Tb.mQ lK ht.wf nB
 have vI:=vK lK
 have eh:=Tb.gn ht.wf nB
 have oH:=SV c.gl t ht.wf S nB hhb
 cases iG:t.maps.find? (Ze ae S aN) with
 | some m =>
  have hR:=H1.out m iG
  rw[iG]at hF
  unfold lH at hF
  subst hR
  refine Qh @e2 ?_
  refine Qy hG @e2 ?_
  refine Qy hK @e2 ?_
  (refine Qa (fun h1=>?_) (fun h1=>?_)<;>try exact h1.elim)
  refine Qh @e2 ?_
  unfold Mp.enc at hF
  refine Qy hF @e2 ?_
  (refine Qa (fun h2=>?_) (fun h2=>?_)<;>try exact h2.elim)
  exact Qr (An @e2 (An @Jm.eq_1 @Mp.enc.eq_1))
 | none =>
  rw[iG]at hF
  unfold lH fF Mp.enc at hF
  dsimp only at hF
  refine Qh @e2 ?_
  refine Qy hG @e2 ?_
  refine Qy hK @e2 ?_
  (refine Qa (fun h1=>?_) (fun h1=>?_)<;>try exact h1.elim)
  refine Qh @e2 ?_
  refine Qy hF @e2 ?_
  (refine Qa (fun h2=>?_) (fun h2=>?_)<;>try exact h2.elim)
  refine Qh (An @e2 @e3) ?_
  refine Xr (fun k:Nat=>k≤t.maps.length)
   (fun k=>⟨[(1,.int .i64 ae),(2,.int .i64 S),(3,.int .i64 aN),(4,.int .i64 draw),(5,.ptr 0 0),(10,.ptr 1 0),(11,.ptr 2 0),(14,.cl 125 [.ptr 0 0]),(17,.int .i64 (Zz (t.maps.take k) S)),(61,.isl t.maps.length (cp t.maps)),(62,.int .i64 t.maps.length),(63,.int .i64 k)],[(0,.cells t.enc),(1,.cells ie),(2,.cells z5)],3⟩) (fun k=>t.maps.length - k) AQ.mixed hN
   ⟨0,by omega,[],by exact Qr (An @ie.eq_1 @z5.eq_1)⟩ fun k hk=>?_
  refine Qf ?_
  (refine Qa (fun h3=>?_) (fun h3=>?_)<;>try exact h3.elim)
  ·have bB:k < t.maps.length:=by omega
   have bg:=vC t.maps k bB
   have qR:=Xq7 t.maps k bB S
   have DK:=Tg t.maps k S
   generalize t.maps[k]=m at *
   obtain ⟨mp,ms,mi,ma,mt⟩:=m
   simp only[Mp.enc]at bg
   dsimp only at qR
   refine Qh (An @aJ @bg) ?_
   (refine Qa (fun h4=>?_) (fun h4=>?_)<;>try exact h4.elim)
   ·rw[if_pos af]at qR
    refine Qf ?_
    refine ⟨k + 1,by omega,⟨[],?_⟩,by omega⟩
    exact Qr @qR
   ·rw[if_neg af]at qR
    refine Qf ?_
    refine ⟨k + 1,by omega,⟨[],?_⟩,by omega⟩
    exact Qr @qR
  ·have:k=t.maps.length:=by omega
   subst this
   have dD:t.maps.take t.maps.length=t.maps:=List.take_length
   rw[dD]
   have hmc:=Tg t.maps t.maps.length S
   rw[dD]at hmc
   have Th:=Lib.hid (H2.out iG)
   have Ti:=Lib.hid (H3.out iG)
   clear H1 H2 H3
   generalize Zz t.maps S=many at *
   refine Qf ?_
   (refine Qa (fun h4=>?_) (fun h4=>?_)<;>try exact h4.elim)
   ·have hR:=Th.out af
    subst hR
    refine Qf ?_
    exact Ke (ip [0]) (xZ c.gl t ht.wf 6) (An @e2 (An @Jm.eq_1 (An @Mp.enc.eq_1 (An @fF.eq_1 (An @ie.eq_1 @z5.eq_1)))))
   have vL:=Lib.hid (Ti.out af)
   clear Ti Th
   by_cases uh:1≤t.bD S
   ·have iw:vF t S=.isl (Wf t S 6).length (Qp (eI (Wf t S 6))):=if_pos uh
    have jT:jU t S=Wf t S 6:=if_pos uh
    rw[iw]at oH
    rw[jT]at vL
    have hWb:∀ k ∈ Wf t S 6,k < 6:=fun k hk=>Xz5 hk
    have ss:=SU t S 6
    clear iw jT
    generalize Wf t S 6=W at *
    have hWn:=DA W
    have A0:=fun port=>L4 c.gl t ht.wf ht.len ae (t.bD S - 1) port
    generalize oc:yb t ae (t.bD S - 1)=fr at *
    obtain ⟨a,ha⟩:∃ a:Int,a=t.bD S - 1:=⟨_,rfl⟩
    rw[← ha]at vL A0 oc
    refine Qh @e2 ?_
    refine Qy oH @e2 ?_
    refine Xr (fun k:Nat=>k≤W.length∧fr (W.drop k)=fr W)
     (fun k=>⟨[(1,.int .i64 ae),(2,.int .i64 S),(3,.int .i64 aN),(4,.int .i64 draw),(5,.ptr 0 0),(10,.ptr 1 0),(11,.ptr 2 0),(14,.cl 125 [.ptr 0 0]),(20,.isl W.length (Qp (eI W))),(85,.isl W.length (Qp (eI W))),(86,.int .i64 W.length),(87,.int .i64 k)],[(0,.cells t.enc),(1,.cells ie),(2,.cells z5)],3⟩) (fun k=>W.length - k) AQ.mixed hN
     ⟨0,⟨by omega,rfl⟩,[],by exact Qs⟩ fun k hk=>?_
    obtain ⟨hk,jj⟩:=hk
    refine Qf ?_
    (refine Qa (fun h5=>?_) (fun h5=>?_)<;>try exact h5.elim)
    ·have bB:k < W.length:=by omega
     have kc:=hWb _ (List.getElem_mem bB)
     have gU:W.drop k=W[k]::W.drop (k + 1):=List.drop_eq_getElem_cons bB
     have ep:=SN W k bB
     rw[show W.getD k 0=W[k] by simp[List.getD,bB]]at ep
     rw[gU]at jj
     generalize W[k]=q at *
     refine Qh (An @hWn @ep) ?_
     refine Xr (fun i:Nat=>i≤8∧((Ud q).drop i++(W.drop (k + 1)).flatMap Ud).find? (ya t ae a)=fr W)
      (fun i=>⟨[(1,.int .i64 ae),(2,.int .i64 S),(3,.int .i64 aN),(4,.int .i64 draw),(5,.ptr 0 0),(10,.ptr 1 0),(11,.ptr 2 0),(14,.cl 125 [.ptr 0 0]),(20,.isl W.length (Qp (eI W))),(22,.int .i64 q),(85,.isl W.length (Qp (eI W))),(86,.int .i64 W.length),(87,.int .i64 k),(91,.int .i64 i)],[(0,.cells t.enc),(1,.cells ie),(2,.cells z5)],3⟩) (fun i=>8 - i) AQ.mixed hN
      ⟨0,⟨by omega,by rw[← jj,← oc];rfl⟩,[],by exact Qs⟩ fun i hi=>?_
     obtain ⟨hi,kL⟩:=hi
     refine Qf ?_
     (refine Qa (fun h6=>?_) (fun h6=>?_)<;>try exact h6.elim)
     ·have hi8:i < 8:=by omega
      rw[Xry q t ae a _ i hi8]at kL
      have hB:=A0 (1024 + (q:Int) * 8 + i)
      unfold ya at kL
      cases DL:t.maps.find? (Je ae a (1024 + (q:Int) * 8 + i)) with
      | none =>
       rw[DL]at kL hB
       simp only[Option.isNone_none,if_true]at kL
       unfold lH fF Mp.enc at hB
       dsimp only at hB
       have hR:=vL.out.1 _ kL.symm
       subst hR
       have DM:=Tb.aC (t:=t.add ⟨ae,S,aN,a,1024 + (q:Int) * 8 + i⟩) ⟨ht.wf.aq,ht.wf.home⟩
       have iU:=Mi c.gl t ht.wf (show t.maps.length≤100000 by omega) ⟨ae,S,aN,a,1024 + (q:Int) * 8 + i⟩ false
       unfold Jm Mp.enc at iU
       generalize Tb.add _ _=T3 at *
       dsimp only at iU
       subst ha
       refine Qh (An @e2 @eh) ?_
       refine Qy hB @e2 ?_
       (refine Qa (fun h7=>?_) (fun h7=>?_)<;>try exact h7.elim)
       refine Qh (An @e2 @eh) ?_
       exact xq iU (An @e2 (An @DM (An @Jm.eq_1 (An @Mp.enc.eq_1 (An @ie.eq_1 @z5.eq_1)))))
      | some m =>
       rw[DL]at kL hB
       simp only[Option.isNone_some,Bool.false_eq_true,if_false]at kL
       unfold lH Mp.enc at hB
       dsimp only at hB
       subst ha
       refine Qh (An @e2 @eh) ?_
       refine Qy hB @e2 ?_
       (refine Qa (fun h7=>?_) (fun h7=>?_)<;>try exact h7.elim)
       refine Qf ?_
       refine ⟨i + 1,⟨by omega,kL⟩,⟨[],?_⟩,by omega⟩
       exact Qs
     ·have:i=8:=by omega
      subst this
      rw[show (Ud q).drop 8=[] by simp[Ud],List.nil_append]at kL
      refine Qf ?_
      refine ⟨k + 1,⟨by omega,by rw[← kL,← oc];rfl⟩,⟨[],?_⟩,by omega⟩
      exact Qs
    ·have:k=W.length:=by omega
     subst this
     rw[List.drop_length]at jj
     have A2:=vL.out.2 (by rw[← jj,← oc];rfl)
     have A3:=Lib.hid A2.1
     have A4:=Lib.hid A2.2
     clear vL A2
     refine Qf ?_
     (refine Qa (fun h6=>?_) (fun h6=>?_)<;>try exact h6.elim)
     ·have hR:=A3.out af
      subst hR
      refine Qf ?_
      exact Ke (ip [0]) (xZ c.gl t ht.wf 6) (An @e2 (An @Jm.eq_1 (An @Mp.enc.eq_1 (An @fF.eq_1 (An @ie.eq_1 @z5.eq_1)))))
     have yc:=Lib.hid ((A4.out af).1 uh)
     clear A3 A4
     refine Qh (An @e2 @eh) ?_
     have e4:=Tb.dU ht.wf
     (refine Qa (fun h7=>?_) (fun h7=>?_)<;>try exact h7.elim)
     ·omega
     clear h7
     rw[← ha]
     have hT:=SQ c.gl t.aq ht.wf.aq S a draw
     have yd:=LQ t.aq ht.wf.aq S a draw
     have yf:=aw.ny t.aq ht.wf.aq S a draw
     generalize hx:t.aq.take S a draw=x at *
     obtain ⟨tp,tk,te⟩:=x
     unfold ud at hT
     dsimp only at hT yf
     have Mm:=aw.aC yf
     refine Qh (An @e2 @e4) ?_
     refine Qy hT (An @e2 @Mm) ?_
     (refine Qa (fun h8=>?_) (fun h8=>?_)<;>try exact h8.elim)
     ·have hR:=yc.out.trans (show mP (t.tk ae S aN a draw)=Jm t fF false te by unfold Tb.tk mP;rw[hx];simp[h8])
      subst hR
      refine Qf ?_
      exact Ke (ip [0]) (xZ c.gl t ht.wf te) (An @e2 (An @Jm.eq_1 (An @Mp.enc.eq_1 (An @fF.eq_1 (An @ie.eq_1 @z5.eq_1)))))
     have Mn:te=0:=by simpa using h8
     subst Mn
     cases yd with
     | no _ he=>exact (he rfl).elim
     | yes b kk _ kM l8 _ _ eT _ _ _ =>
     have iV:=yf
     have Mo:=Tb.gp ht.wf iV
     have mL:(⟨t.aq.put b kk (S + 1),t.home,t.maps⟩:Tb).wf:=⟨iV,ht.wf.home⟩
     have es2:(⟨t.aq.put b kk (S + 1),t.home,t.maps⟩:Tb).enc.set (21 + S) (.int .i64 (a + 1))=(⟨t.aq.put b kk (S + 1),t.home.set S (a + 1),t.maps⟩:Tb).enc:=Tb.gu mL nB (a + 1)
     have fG:(⟨t.aq.put b kk (S + 1),t.home.set S (a + 1),t.maps⟩:Tb).wf:=⟨iV,by rw[List.length_set];exact ht.wf.home⟩
     have Mq:=Tb.aC fG
     have Mr:=Tb.aC mL
     have iU:=Mi c.gl _ fG (show t.maps.length≤100000 by omega) ⟨ae,S,aN,a,1024 + (kk:Int) * 8⟩ true
     have hR:=yc.out.trans (show mP (t.tk ae S aN a draw)=Jm (Tb.add ⟨t.aq.put b kk (S + 1),t.home.set S (a + 1),t.maps⟩ ⟨ae,S,aN,a,1024 + (kk:Int) * 8⟩) ⟨ae,S,aN,a,1024 + (kk:Int) * 8⟩ true 0 by unfold Tb.tk mP;rw[hx];rfl)
     subst hR
     clear yc
     have DM:=Tb.aC (t:=Tb.add ⟨t.aq.put b kk (S + 1),t.home.set S (a + 1),t.maps⟩ ⟨ae,S,aN,a,1024 + (kk:Int) * 8⟩) ⟨fG.aq,fG.home⟩
     unfold Jm Mp.enc at iU
     generalize Tb.add _ _=T3 at *
     generalize (⟨t.aq.put b kk (S + 1),t.home.set S (a + 1),t.maps⟩:Tb)=T2 at *
     generalize (⟨t.aq.put b kk (S + 1),t.home,t.maps⟩:Tb)=T1 at *
     dsimp only at iU
     refine Qh (An @e2 (An @Mo (An @es2 (An @Mq @Mr)))) ?_
     exact xq iU (An @e2 (An @DM (An @Jm.eq_1 (An @Mp.enc.eq_1 (An @ie.eq_1 @z5.eq_1)))))
   ·have iw:vF t S=.nils:=if_neg uh
    have jT:jU t S=[]:=if_neg uh
    rw[iw]at oH
    rw[jT]at vL
    refine Qh @e2 ?_
    refine Qy oH @e2 ?_
    refine Xr (fun _:Unit=>True)
     (fun _=>⟨[(1,.int .i64 ae),(2,.int .i64 S),(3,.int .i64 aN),(4,.int .i64 draw),(5,.ptr 0 0),(10,.ptr 1 0),(11,.ptr 2 0),(14,.cl 125 [.ptr 0 0]),(20,.nils),(85,.nils),(86,.int .i64 0),(87,.int .i64 0)],[(0,.cells t.enc),(1,.cells ie),(2,.cells z5)],3⟩) (fun _=>0) AQ.mixed hN
     ⟨(),trivial,[],by exact Qs⟩ fun _ _=>?_
    refine Qf ?_
    (refine Qa (fun h5=>?_) (fun h5=>?_)<;>try exact h5.elim)
    refine Qf ?_
    (refine Qa (fun h6=>?_) (fun h6=>?_)<;>try exact h6.elim)
    refine Qh (An @e2 @eh) ?_
    have e4:=Tb.dU ht.wf
    have hP:=Xue c.gl t.aq ht.wf.aq draw
    have A2:=(vL.out.2 rfl).2 au
    have Ms:=A2.2 uh
    have A3:=Lib.hid Ms.1
    have A4:=Lib.hid Ms.2
    clear vL A2 Ms
    have kX:=Yci t.aq draw
    generalize t.aq.pick draw=pk at *
    obtain ⟨pa,pe⟩:=pk
    dsimp only at A3 A4 hP
    (refine Qa (fun h7=>?_) (fun h7=>?_)<;>try exact h7.elim)
    rotate_left
    ·omega
    refine Qh (An @e2 @e4) ?_
    refine Qy hP @e2 ?_
    (refine Qa (fun h8=>?_) (fun h8=>?_)<;>try exact h8.elim)
    ·have hR:=A3.out h8
     subst hR
     refine Qf ?_
     exact Ke (ip [0]) (xZ c.gl t ht.wf pe) (An @e2 (An @Jm.eq_1 (An @Mp.enc.eq_1 (An @fF.eq_1 (An @ie.eq_1 @z5.eq_1)))))
    have pO:pe=0:=by simpa using h8
    subst pO
    have yc:=Lib.hid (A4.out rfl)
    have hT:=SQ c.gl t.aq ht.wf.aq S pa draw
    have yd:=LQ t.aq ht.wf.aq S pa draw
    have yf:=aw.ny t.aq ht.wf.aq S pa draw
    generalize hx:t.aq.take S pa draw=x at *
    obtain ⟨tp,tk,te⟩:=x
    unfold ud at hT
    dsimp only at hT yf
    have Mm:=aw.aC yf
    clear h8
    refine Qh (An @e2 @e4) ?_
    refine Qy hT (An @e2 @Mm) ?_
    (refine Qa (fun h8=>?_) (fun h8=>?_)<;>try exact h8.elim)
    ·have hR:=yc.out.trans (show mP (t.tk ae S aN pa draw)=Jm t fF false te by unfold Tb.tk mP;rw[hx];simp[h8])
     subst hR
     refine Qf ?_
     exact Ke (ip [0]) (xZ c.gl t ht.wf te) (An @e2 (An @Jm.eq_1 (An @Mp.enc.eq_1 (An @fF.eq_1 (An @ie.eq_1 @z5.eq_1)))))
    have Mn:te=0:=by simpa using h8
    subst Mn
    cases yd with
    | no _ he=>exact (he rfl).elim
    | yes b kk _ kM l8 _ _ eT _ _ _ =>
    have iV:=yf
    have Mo:=Tb.gp ht.wf iV
    have mL:(⟨t.aq.put b kk (S + 1),t.home,t.maps⟩:Tb).wf:=⟨iV,ht.wf.home⟩
    have es2:(⟨t.aq.put b kk (S + 1),t.home,t.maps⟩:Tb).enc.set (21 + S) (.int .i64 (pa + 1))=(⟨t.aq.put b kk (S + 1),t.home.set S (pa + 1),t.maps⟩:Tb).enc:=Tb.gu mL nB (pa + 1)
    have fG:(⟨t.aq.put b kk (S + 1),t.home.set S (pa + 1),t.maps⟩:Tb).wf:=⟨iV,by rw[List.length_set];exact ht.wf.home⟩
    have Mq:=Tb.aC fG
    have Mr:=Tb.aC mL
    have iU:=Mi c.gl _ fG (show t.maps.length≤100000 by omega) ⟨ae,S,aN,pa,1024 + (kk:Int) * 8⟩ true
    have hR:=yc.out.trans (show mP (t.tk ae S aN pa draw)=Jm (Tb.add ⟨t.aq.put b kk (S + 1),t.home.set S (pa + 1),t.maps⟩ ⟨ae,S,aN,pa,1024 + (kk:Int) * 8⟩) ⟨ae,S,aN,pa,1024 + (kk:Int) * 8⟩ true 0 by unfold Tb.tk mP;rw[hx];rfl)
    subst hR
    clear yc A4 A3
    have DM:=Tb.aC (t:=Tb.add ⟨t.aq.put b kk (S + 1),t.home.set S (pa + 1),t.maps⟩ ⟨ae,S,aN,pa,1024 + (kk:Int) * 8⟩) ⟨fG.aq,fG.home⟩
    unfold Jm Mp.enc at iU
    generalize Tb.add _ _=T3 at *
    generalize (⟨t.aq.put b kk (S + 1),t.home.set S (pa + 1),t.maps⟩:Tb)=T2 at *
    generalize (⟨t.aq.put b kk (S + 1),t.home,t.maps⟩:Tb)=T1 at *
    dsimp only at iU
    refine Qh (An @e2 (An @Mo (An @es2 (An @Mq @Mr)))) ?_
    exact xq iU (An @e2 (An @DM (An @Jm.eq_1 (An @Mp.enc.eq_1 (An @ie.eq_1 @z5.eq_1)))))
theorem Tj (x:Tb × Mp × Bool × Int) (n:Nat):Qe n (mP x)=True:=Mj ..
theorem Xw9 (x:Tb × Mp × Bool × Int) (ρ:Nat→Nat):aD ρ (mP x)=mP x:=Tc ..
attribute [go_sem] Tj Xw9
theorem Xxi (gl:Nat→AV) (t:Tb) (ht:t.ok) (ae s aN draw:Int):PS Tryz.prog gl 89 [.agg t.enc,.int .i64 ae,.int .i64 s,.int .i64 aN,.int .i64 draw] (mP (t.cx ae s aN draw)):=by
 by_cases hb:Wi t=false∨Zu ae s aN=false
 ·have e:t.cx ae s aN draw=(t,fF,false,2):=if_pos hb
  rw[e]
  exact Xox gl t ht ae s aN draw hb
 have e:t.cx ae s aN draw=match t.maps.find? (Ze ae s aN) with
  | some m=>(t,m,false,0)
  | none =>
   if 12≤Zz t.maps s then (t,fF,false,6) else
   match yb t ae (t.bD s.toNat - 1) (jU t s.toNat) with
   | some port=>(t.add ⟨ae,s,aN,t.bD s.toNat - 1,port⟩,⟨ae,s,aN,t.bD s.toNat - 1,port⟩,false,0)
   | none =>
    if 2≤(jU t s.toNat).length then (t,fF,false,6) else
    if 1≤t.bD s.toNat then t.tk ae s aN (t.bD s.toNat - 1) draw else
    if (t.aq.pick draw).2≠0 then (t,fF,false,(t.aq.pick draw).2) else t.tk ae s aN (t.aq.pick draw).1 draw:=if_neg hb
 have hg:Wi t=true:=by
  cases h:Wi t
  ·exact (hb (Or.inl h)).elim
  ·rfl
 have hk:Zu ae s aN=true:=by
  cases h:Zu ae s aN
  ·exact (hb (Or.inr h)).elim
  ·rfl
 obtain ⟨_,⟨lb,xY⟩,_⟩:=Kp hk
 obtain ⟨S,rfl⟩:=Int.eq_ofNat_of_zero_le lb
 rw[Int.toNat_natCast]at e
 refine Xtq gl t ht ((vJ t).1 hg) ae S aN draw hk _ (by rw[Tj];trivial) (Lib.hid fun m hm=>?_) (Lib.hid fun hm fa=>?_) (Lib.hid fun hm fa=>⟨fun port hp=>?_,fun hp=>⟨fun h2=>?_,fun h2=>⟨fun h1=>?_,fun h1=>⟨fun hz=>?_,fun hz=>?_⟩⟩⟩⟩)
 ·rw[e,hm];rfl
 ·rw[e,hm];dsimp only;rw[if_pos fa];rfl
 ·rw[e,hm];dsimp only;rw[if_neg fa,hp];rfl
 ·rw[e,hm];dsimp only;rw[if_neg fa,hp];dsimp only;rw[if_pos h2];rfl
 ·rw[e,hm];dsimp only;rw[if_neg fa,hp];dsimp only;rw[if_neg h2,if_pos h1]
 ·rw[e,hm];dsimp only;rw[if_neg fa,hp];dsimp only;rw[if_neg h2,if_neg h1,if_pos hz];rfl
 ·rw[e,hm];dsimp only;rw[if_neg fa,hp];dsimp only;rw[if_neg h2,if_neg h1,if_neg (by simp[hz])]
theorem Xzv:jh Tryz.prog 100 69=some [.int .i64,.int .i64,.int .i64,.int .i64,.int .i64]:=by kernel_rfl
theorem Xyd {x y:Mp}:x=y ↔ x.enc=y.enc:=by
 cases x;cases y;simp[Mp.enc]
theorem DN {c:Cx} {ne:Bool} (x y:Mp):jN Tryz.prog c (.cA ne 69) [.agg x.enc,.agg y.enc] (.bool (ne != decide (x=y))) :=
 Cr Xzv (by kernel_rfl) (by kernel_rfl) rfl rfl (by rw[decide_eq_true_eq];exact Xyd)
def vM:List Mp→Mp→Nat→Int
 | [],_,_=>-1
 | x::l,m,k=>if m=x then k else vM l m (k + 1)
theorem Tl (gl:Nat→AV) (l:List Mp) (hl:l.length≤4611686018427387904) (m:Mp):PS Tryz.prog gl 140 [.isl l.length (cp l),.agg m.enc] (.int .i64 (vM l m 0)):=by
 refine SE.ps (of_decide_eq_true rfl) (by simp[Qe]) fun c hN hg=>?_
 conv in aO _ _=>cbv
 have aJ:=Jo l
 have vI:m.enc.length=5:=rfl
 have xk:∀ n,ai n m.enc=True:=fun n=>by simp[Mp.enc,ai,Qe]
 have hmr:∀ ρ,ay ρ m.enc=m.enc:=fun ρ=>by simp[Mp.enc,ay,aD]
 refine Qf ?_
 refine Xr (fun k:Nat=>k≤l.length∧vM (l.drop k) m k=vM l m 0) (fun k=>⟨[(0,.isl l.length (cp l)),(3,.ptr 0 0),(6,.isl l.length (cp l)),(7,.int .i64 l.length),(8,.int .i64 k)],[(0,.cells m.enc)],1⟩) (fun k=>l.length - k) SE.mixed hN
  ⟨0,⟨by omega,rfl⟩,[],by exact Qr @xk⟩ fun k hk=>?_
 obtain ⟨hk,cJ⟩:=hk
 refine Qf ?_
 (refine Qa (fun h1=>?_) (fun h1=>?_)<;>try exact h1.elim)
 ·have bB:k < l.length:=by omega
  have bg:=vC l k bB
  have gU:l.drop k=l[k]::l.drop (k + 1):=List.drop_eq_getElem_cons bB
  rw[gU]at cJ
  rw[vM]at cJ
  generalize l[k]=x at *
  have heq:=@DN c false m x
  refine Qh (An @aJ (An @bg @vI)) ?_
  refine Qy heq (An @aJ (An @bg @vI)) ?_
  (refine Qa (fun h2=>?_) (fun h2=>?_)<;>try exact h2.elim)
  ·rw[if_pos (by simpa using h2)]at cJ
   exact Qr @cJ
  ·rw[if_neg (by simpa using h2)]at cJ
   refine Qf ?_
   refine ⟨k + 1,⟨by omega,cJ⟩,⟨[],?_⟩,by omega⟩
   exact Qr (An @xk @hmr)
 ·have:k=l.length:=by omega
  subst this
  rw[List.drop_length]at cJ
  have cJ:(-1:Int)=vM l m 0:=cJ
  exact Qr @cJ
theorem Tp:Am Tryz.prog 37 5:=KS (by kernel_rfl)
theorem Xx8 (l:List Mp) (k:Nat) (h:k≤l.length):(cp l).drop (k * 5)=cp (l.drop k):=by
 have e:cp l=cp (l.take k)++cp (l.drop k):=by rw[LR,List.take_append_drop]
 rw[e,List.drop_append_of_le_length (by rw[Jo,List.length_take];omega),List.drop_of_length_le (by rw[Jo,List.length_take];omega),List.nil_append]
theorem Xpi (l:List Mp) (i:Nat) (hi:i < l.length):(cp l).take (i * 5)++(cp l).drop ((i + 1) * 5)=cp (l.eraseIdx i):=by
 rw[Sz l i af,Xx8 l (i + 1) af,LR,List.eraseIdx_eq_take_drop_succ]
theorem Xme (gl:Nat→AV) (l:List Mp) (hl:l.length≤1000000) (i:Nat) (hi:i < l.length):GS Tryz.prog gl 141 [.sl 5 0 0 l.length l.length,.int .i64 i,.int .i64 ((i:Int) + 1)] [(0,.cells (cp l))] 1
  (.sl 5 0 0 (l.length - 1) l.length) [(0,.cells (cp (l.eraseIdx i)))] 1:=by
 refine Xig.gs (of_decide_eq_true rfl) (by simp[Bk.live]) fun c hN hg=>?_
 conv in aO _ _=>cbv
 have aJ:=Jo l
 have y1:i - 0=i:=by omega
 have y2:l.length - 0=l.length:=by omega
 have y3:((i:Int) + 1).toNat=i + 1:=by omega
 have y4:i + (l.length - (i + 1))=l.length - 1:=by omega
 have y5:l.length - (l.length - 1)=1:=by omega
 have y6:i + 0=i:=by omega
 have y7:(0:Nat) * 5=0:=by omega
 have mR:=Xpi l i hi
 have xW:=Jo (l.eraseIdx i)
 rw[List.length_eraseIdx,if_pos hi]at xW
 have dV:(cp (l.eraseIdx i)).take ((l.length - 1) * 5)=cp (l.eraseIdx i):=List.take_of_length_le af
 refine Qh @aJ ?_
 ((first|apply Yx|apply Ym|apply Xz|apply Xs)<;>(first|exact (Yal (by omega) (by omega) (by omega) (by omega))|(refine XG ?_;first|exact rfl|exact True.intro|((try (repeat' with_reducible refine And.intro ?_ ?_));(try any_goals (first|refine zm ?_|exact CL|fail))))))
 (refine Qa (fun h1=>?_) (fun h1=>?_)<;>try exact h1.elim)
 ·omega
 refine Qh @aJ ?_
 by_cases h2:i + 1 < l.length
 ·refine Qh @aJ ?_
  ((first|apply RE|apply RF);(have aB:=@aJ;have aQ:=@y1;have a8:=@y2;have bU:=@y3;have cI:=@mR;have dC:=@y4;refine XG ?_;clear aB aQ a8 bU cI dC;((try (repeat' with_reducible refine And.intro ?_ ?_));(try any_goals (first|refine zm ?_|exact CL|fail)))))
  (refine Gn Tp ?_;(have aB:=@aJ;have aQ:=@y1;have a8:=@y2;have bU:=@y3;have cI:=@y5;have dC:=@mR;have fc:=@y4;have jk:=@dV;refine XG ?_;clear aB aQ a8 bU cI dC fc jk;((try (repeat' with_reducible refine And.intro ?_ ?_));(try any_goals (first|refine zm ?_|exact CL|fail)))))
  refine Qf ?_
  refine ⟨[],?_⟩
  exact Qs
 ·have:i + 1=l.length:=by omega
  have y8:l.length - 1=i:=by omega
  have ui:(cp l).take (i * 5)=cp (l.eraseIdx i):=by rw[← mR,List.drop_of_length_le af,List.append_nil]
  rw[y8]at dV
  refine Qh @aJ ?_
  ((first|apply RE|apply RF);(have aB:=@aJ;have aQ:=@y1;have a8:=@y2;have bU:=@y6;have cI:=@y7;have dC:=@List.append_nil.{0};have fc:=@ui;refine XG ?_;clear aB aQ a8 bU cI dC fc;((try (repeat' with_reducible refine And.intro ?_ ?_));(try any_goals (first|refine zm ?_|exact CL|fail)))))
  (refine Gn Tp ?_;(have aB:=@aJ;have aQ:=@y1;have a8:=@y2;have bU:=@y3;have cI:=@y5;have dC:=@y8;have fc:=@dV;refine XG ?_;clear aB aQ a8 bU cI dC fc;((try (repeat' with_reducible refine And.intro ?_ ?_));(try any_goals (first|refine zm ?_|exact CL|fail)))))
  refine Qf ?_
  refine ⟨[],?_⟩
  exact Qr @y8
end Go.Proofs.YtogckmommodmhaaGreatDoor
