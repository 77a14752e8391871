import Derived.Test.YtogckmommodmhaaGreatDoorZy6
namespace Go.Proofs.YtogckmommodmhaaGreatDoor
open List (take_of_length_le take_add_one countP_cons range_succ filter_append filter_cons getElem?_eq_getElem getElem?_append_right getElem_mem getD_eq_getElem?_getD mem_range mem_filter map_append take_append_of_le_length length_take map_id append_assoc map_set set_append_right drop_eq_getElem_cons find?_cons drop_length append_nil foldl_append foldl_cons length_set take_length nil_append any_cons getElem_of_mem map_cons map_nil sum_cons sum_nil)
open Go.RowKit
set_option linter.all false
set_option maxHeartbeats 8000000
set_option maxRecDepth 100000
def ZG (k n:Int)(h:0<n):-n<k.tmod n/\k.tmod n<n:=by
 have h1:=Int.tmod_lt_of_pos k h;have h2:=Int.tmod_lt_of_pos (-k) h;rw[Int.neg_tmod]at h2;omega
structure aq where
 own:List Int
 dr:List Bool
structure aq.wf (p:aq):Prop where
 own:p.own.length=18
 dr:p.dr.length=3
def aq.row (p:aq)(a:Nat):List Int:=(p.own.drop (a*6)).take 6
def Ua (n:Int):Bool:=decide (0<=n)&&decide (n<=8)
def aq.bO (p:aq):Bool:=p.own.all Ua
def Zk (p:aq)(h:p.wf)(a:Nat)(ha:a<3):(p.row a).length=6:=by
 simp[aq.row,h.own];omega
def ZH (p:aq)(a j:Nat)(hj:j<6):(p.row a)[j]?=p.own[a*6+j]?:=by
 simp[aq.row,hj]
def ZI (p:aq)(h:(p.own.take (6*3)).all Ua=true)(hp:p.wf):p.bO=true:=by
 rw[take_of_length_le (by rw[hp.own];omega)]at h;exact h
def ZJ (p:aq)(i:Nat)(x:Int)(hx:p.own[i]?=some x)(hb:Ua x=false):p.bO=false:=by
 unfold aq.bO;rw[List.all_eq_false];exact ⟨x,List.mem_of_getElem? hx,by simp[hb]⟩
def ZK (p:aq)(i:Nat)(x:Int)(hx:p.own[i]?=some x)(h:(p.own.take i).all Ua=true)(hb:Ua x=true):(p.own.take (i+1)).all Ua=true:=by
 rw[take_add_one,hx];simp only[List.all_append,h,Bool.true_and];simp[hb]
def ZL (x:Int)(h:x<0):Ua x=false:=by unfold Ua;simp;omega
def ZM (x:Int)(h:8<x):Ua x=false:=by unfold Ua;simp;omega
def ZN (x:Int)(h0:¬ x<0)(h:¬ 8<x):Ua x=true:=by unfold Ua;simp;omega
def Ki (a:Int):Bool:=decide (0<=a)&&decide (a<3)
def Qun (k n:Int)(hn:0<n):(if k.tmod n<0 then k.tmod n+n else k.tmod n)=k%n:=by
 rw[Int.tmod_eq_emod];have h1:=Int.emod_nonneg k (show n≠0 by omega);have h2:=Int.emod_lt_of_pos k hn;have e:(n.natAbs:Int)=n:=by omega
 by_cases h:0<=k\/n ∣ k
 ·rw[am h];simp;omega
 ·rw[aa h,e];have:k%n≠0:=fun h0=>h (.inr (Int.dvd_of_emod_eq_zero h0));rw[am af];omega
def lJ (l:List Int):Nat:=l.countP (· == 0)
def aq.left (p:aq)(a:Int):Nat:=if Ki a=true then lJ (p.row a.toNat) else 0
def z7 (p:aq)(a:Nat)(h:a<3):p.left a=lJ (p.row a):=by
 unfold aq.left;rw[am (by unfold Ki;simp;omega)];simp
def Xu9 (p:aq)(a:Int)(h:Ki a=false):p.left a=0:=by unfold aq.left;rw[aa (by rw[h];simp)]
def Ps (l:List Int)(m:Nat)(x:Int)(h:l[m]?=some x):lJ (l.take (m+1))=lJ (l.take m)+(if x=0 then 1 else 0):=by
 unfold lJ;rw[take_add_one,h];simp[List.countP_append,countP_cons]
def KB (l:List Int)(m:Nat):lJ (l.take m)<=m:=by
 unfold lJ;have:=List.countP_le_length (p:=(· == 0)) (l:=l.take m);have:=List.length_take_le m l;omega
def aq.kW (p:aq)(a:Nat):Bool:=p.dr.getD a false
def aq.open_ (p:aq)(a:Nat):Bool:=!p.kW a&&decide (0<p.left a)
def aq.opens (p:aq)(k:Nat):List Nat:=(List.range k).filter p.open_
def ZO (p:aq)(k:Nat):p.opens (k+1)=p.opens k++if p.open_ k then [k] else []:=by
 unfold aq.opens;rw[range_succ,filter_append];simp[filter_cons]
def ZP (p:aq)(k:Nat):(p.opens k).length<=k:=by
 have:=List.length_filter_le p.open_ (List.range k);simpa [aq.opens] using this
def aq.pick (p:aq)(draw:Int):Int×Int :=
 if p.bO=true then (if (p.opens 3).length=0 then (0,10) else (((p.opens 3).getD (draw%((p.opens 3).length:Int)).toNat 0:Nat),0)) else (0,2)
def Zy (l:List Int)(n:Nat):List Nat:=(List.range n).filter fun k=>l.getD k 1==0
def Pt (l:List Int)(n:Nat):Zy l (n+1)=Zy l n++if l.getD n 1=0 then [n] else []:=by
 unfold Zy;rw[range_succ,filter_append];simp[filter_cons]
def Fe (l:List Int):∀ n,n<=l.length->(Zy l n).length=lJ (l.take n)
 | 0,_=>by simp[Zy,lJ]
 | n+1,h=>by
  rw[Pt,List.length_append,Fe l n af,Ps l n l[n] (getElem?_eq_getElem af)];have:l.getD n 1=l[n]:=by simp[show n<l.length by omega]
  rw[this];split<;>simp
def ZQ (l:List Int)(m:Nat)(hm:m<l.length)(hx:l[m]?=some 0):∀ n,m<n->(Zy l n)[lJ (l.take m)]?=some m
 | 0,h=>by omega
 | n+1,h=>by
  rw[Pt];by_cases e:m=n
  ·subst e;have:l.getD m 1=0:=by simp[hx]
   rw[getElem?_append_right (by rw[Fe l m af];omega),Fe l m af,this];simp
  ·have ih:=ZQ l m hm hx n af;rw[List.getElem?_append_left (List.getElem?_eq_some_iff.1 ih).1];exact ih
def aq.put (p:aq)(a k:Nat)(o:Int):aq:={ p with own:=p.own.set (a*6+k) o }
def aq.cI (p:aq)(hp:p.wf)(a k:Nat)(o:Int):(p.put a k o).wf:=⟨by simp[aq.put,hp.own],hp.dr⟩
def aq.nv (p:aq)(a:Nat)(draw:Int):Nat:=(Zy (p.row a) 6).getD (draw%(p.left a:Int)).toNat 0
def aq.take (p:aq)(s a draw:Int):aq×Int×Int :=
 if p.bO=true then
  (if Ki a=true∧0≤s∧s < 8 then
   (if p.kW a.toNat=true then (p,0,9) else
    (if p.left a=0 then (p,0,10) else (p.put a.toNat (p.nv a.toNat draw) (s+1),(p.nv a.toNat draw:Nat),0)))
  else (p,0,7))
 else (p,0,2)
def aq.ow (p:aq)(a k:Nat):Int:=p.own.getD (a*6+k) 0
def aq.kX (p:aq)(h:p.bO=true)(a k:Nat):0<=p.ow a k/\p.ow a k<=8:=by
 unfold aq.ow;by_cases hi:a*6+k<p.own.length
 ·have:=List.all_eq_true.1 h p.own[a*6+k] (getElem_mem hi);unfold Ua at this;simp at this;simp[hi];omega
 ·simp[Nat.le_of_not_lt hi]
def aq.bT (p:aq)(s a b:Int):aq×Int :=
 if p.bO=true then (if Ki a=true/\0<=b/\b<6/\0<=s/\p.ow a.toNat b.toNat=s+1 then (p.put a.toNat b.toNat 0,0) else (p,7)) else (p,2)
def aq.oh (p:aq)(a:Nat)(to:Bool):aq:={ p with dr:=p.dr.set a to }
def aq.kY (p:aq)(hp:p.wf)(a:Nat)(to:Bool):(p.oh a to).wf:=⟨hp.own,by simp[aq.oh,hp.dr]⟩
def aq.drain (p:aq)(a:Int)(to:Bool):aq×Int :=
 if Ki a=true then (if p.kW a.toNat=to then (p,8) else (p.oh a.toNat to,0)) else (p,7)
def aq.eF (p:aq)(hp:p.wf)(a:Int)(to:Bool):(p.drain a to).1.wf:=by
 unfold aq.drain;split
 ·split
  ·exact hp
  ·exact p.kY hp _ _
 ·exact hp
def aq.pw (p:aq)(hp:p.wf)(s a b:Int):(p.bT s a b).1.wf:=by
 unfold aq.bT;split
 ·split
  ·exact p.cI hp _ _ _
  ·exact hp
 ·exact hp
def aq.iX (p:aq)(hp:p.wf)(s a d:Int):(p.take s a d).1.wf:=by
 unfold aq.take;split
 ·split
  ·split
   ·exact hp
   ·split
    ·exact hp
    ·exact p.cI hp _ _ _
  ·exact hp
 ·exact hp
def z8 (a:Int)(h:Ki a=true):∃ k:Nat,a=k/\k<3:=by
 unfold Ki at h;simp at h;exact ⟨a.toNat,by omega,by omega⟩
def Yb8 (l:List Int)(n i:Nat)(h:i<(Zy l n).length):(Zy l n).getD i 0<n:=by
 have h2:(Zy l n).getD i 0 ∈ Zy l n:=by
  rw[getD_eq_getElem?_getD,getElem?_eq_getElem h];exact getElem_mem h
 generalize (Zy l n).getD i 0=x at h2;unfold Zy at h2;exact mem_range.1 (mem_filter.1 h2).1
def KC (p:aq)(hp:p.wf)(a k:Nat)(ha:a<3)(hk:k<6):(p.row a)[k]?=some (p.ow a k):=by
 rw[ZH p a k hk];have:a*6+k<p.own.length:=by rw[hp.own];omega
 unfold aq.ow;simp[this]
def ZR (p:aq)(hp:p.wf)(a:Nat)(draw:Int)(ha:a<3)(hl:p.left a≠0):p.nv a draw<6/\p.ow a (p.nv a draw)=0:=by
 have hlen:(Zy (p.row a) 6).length=p.left a:=by
  rw[Fe _ 6 (by rw[Zk p hp a ha];omega),z7 p a ha,take_of_length_le (by rw[Zk p hp a ha];omega)]
 have hm:(draw%(p.left a:Int)).toNat<(Zy (p.row a) 6).length:=by
  have m0:=Int.emod_nonneg draw (show (p.left a:Int)≠0 by omega);have m1:=Int.emod_lt_of_pos draw (show (0:Int)<p.left a by omega);rw[hlen];omega
 have hk:p.nv a draw<6:=Yb8 _ _ _ hm;refine ⟨hk,?_⟩;have h2:p.nv a draw ∈ Zy (p.row a) 6:=by
  unfold aq.nv;rw[getD_eq_getElem?_getD,getElem?_eq_getElem hm];exact getElem_mem hm
 generalize p.nv a draw=x at hk h2 ⊢;unfold Zy at h2;have h3:=(mem_filter.1 h2).2;have h4:=KC p hp a x ha hk;rw[getD_eq_getElem?_getD,h4]at h3;simpa using h3
inductive sy (p:aq)(s a:Int):aq×Int×Int->Prop
 | no (e:Int) (he:e≠0):sy p s a (p,0,e)
 | yes (b k:Nat) (ha:a=b) (hb:b<3) (hk:k<6) (h0:0<=s) (h8:s<8) (hg:p.bO=true) (hd:p.kW b=false) (hl:p.left b≠0) (ho:p.ow b k=0):sy p s a (p.put b k (s+1),(k:Int),0)
def Ff (p:aq)(hp:p.wf)(s a draw:Int):sy p s a (p.take s a draw):=by
 unfold aq.take;split
 ·rename_i hg;split
  ·rename_i h;obtain ⟨b,rfl,hb⟩:=z8 a h.1;rw[show ((b:Int)).toNat=b by omega];split
   ·exact .no 9 aJ
   ·rename_i hd;split
    ·exact .no 10 aJ
    ·rename_i hl;obtain ⟨hk,ho⟩:=ZR p hp b draw hb hl;exact .yes b _ rfl hb hk h.2.1 h.2.2 hg (by simpa using hd) hl ho
  ·exact .no 7 aJ
 ·exact .no 2 aJ
inductive om (p:aq):Int×Int->Prop
 | no (e:Int) (he:e≠0):om p (0,e)
 | yes (b:Nat) (hb:b<3) (hg:p.bO=true) (hd:p.kW b=false) (hl:0<p.left b):om p ((b:Int),0)
def ZS (p:aq)(draw:Int):om p (p.pick draw):=by
 unfold aq.pick;split
 ·rename_i hg;split
  ·exact .no 10 aJ
  ·rename_i hl;have hm:(draw%((p.opens 3).length:Int)).toNat<(p.opens 3).length:=by
    have m0:=Int.emod_nonneg draw (show ((p.opens 3).length:Int)≠0 by omega);have m1:=Int.emod_lt_of_pos draw (show (0:Int)<(p.opens 3).length by omega);omega
   have h2:(p.opens 3).getD (draw%((p.opens 3).length:Int)).toNat 0 ∈ p.opens 3:=by
    rw[getD_eq_getElem?_getD,getElem?_eq_getElem hm];exact getElem_mem hm
   generalize (p.opens 3).getD (draw%((p.opens 3).length:Int)).toNat 0=x at h2;unfold aq.opens at h2;have h3:=mem_filter.1 h2;have h4:=h3.2;unfold aq.open_ at h4;simp at h4;exact .yes x (mem_range.1 h3.1) hg h4.1 h4.2
 ·exact .no 2 aJ
def aq.enc (p:aq):List AV:=Ql p.own++Zu p.dr
def aq.au {p:aq}(h:p.wf):p.enc.length=21:=by simp[aq.enc,Ql,Zu,h.own,h.dr]
theorem aq.cg (p:aq)(n:Nat):ah n p.enc=True:=by simp only[aq.enc,BW,D6,Vh,and_self]
def aq.il {p:aq}(h:p.wf){b:Nat}(hb:b<3):p.enc.getD (18+b) .any=.bool (p.kW b):=by
 unfold aq.enc aq.kW;have e:(Ql p.own++Zu p.dr)[18+b]?=(Zu p.dr)[b]?:=by
  rw[getElem?_append_right (by rw[Xw,h.own];omega),Xw,h.own,show 18+b-18=b by omega]
 have:=Nu (l:=p.dr) (i:=b) (by rw[h.dr];exact hb);simp only[List.getD]at this ⊢;rw[e,this]
theorem aq.dt (p:aq)(ρ:Nat->Nat):ay ρ p.enc=p.enc:=by simp only[aq.enc,BV,Qt,Vf]
theorem aq.iY (p:aq)(s:FS):p.enc.map (Ys s)=p.enc:=by simp only[aq.enc,map_append,Nv,Vi]
attribute [go_sem] aq.cg aq.dt aq.iY
structure Mp where
 ae:Int
 s:Int
 aF:Int
 a:Int
 port:Int
 deriving DecidableEq
def Mp.enc (m:Mp):List AV:=[.int .i64 m.ae,.int .i64 m.s,.int .i64 m.aF,.int .i64 m.a,.int .i64 m.port]
def cM:Mp:=⟨0,0,0,0,0⟩
def bH (l:List Mp):List AV:=l.flatMap Mp.enc
theorem Yl (l:List Mp):(bH l).length=l.length*5:=by
 induction l with
 | nil=>rfl
 | cons e l ih=>simp[bH,Mp.enc]at ih ⊢;omega
def rf (l:List Mp)(k:Nat)(h:k<l.length):((bH l).drop (k*5)).take 5=(l[k]).enc:=by
 induction l generalizing k with
 | nil=>simp at h
 | cons e l ih =>
  cases k with
  | zero=>simp[bH,Mp.enc]
  | succ k =>
   have:=ih k (by simpa using h);have e1:bH (e::l)=e.enc++bH l:=by simp[bH]
   rw[e1,List.drop_append,List.drop_eq_nil_of_le (by simp[Mp.enc];omega)];have e2:(k+1)*5-e.enc.length=k*5:=by simp[Mp.enc];omega
   rw[e2];simpa using this
def Pu (a b:List Mp):bH a++bH b=bH (a++b):=by simp[bH]
variable {cs:List AV}(gl:Nat->AV)(l:List Mp)(p:aq)(n k s i:Nat)(m:Mp)
def CG:bH l++[.int .i64 m.ae,.int .i64 m.s,.int .i64 m.aF,.int .i64 m.a,.int .i64 m.port]=bH (l++[m]):=by simp[bH,Mp.enc]
def ZT (h:k<=l.length):(bH l).take (k*5)=bH (l.take k):=by
 have e:bH l=bH (l.take k)++bH (l.drop k):=by rw[Pu,List.take_append_drop]
 rw[e,take_append_of_le_length (by rw[Yl,length_take];omega),take_of_length_le (by rw[Yl,length_take];omega)]
def Pv {l:List Mp}{x:AV}(h:x ∈ bH l):∃ n,x=.int .i64 n:=by
 obtain ⟨e,_,he⟩:=List.mem_flatMap.1 h;simp[Mp.enc]at he;rcases he with rfl|rfl|rfl|rfl|rfl<;>exact ⟨_,rfl⟩
theorem ZU (l:List Mp):ah n (bH l)=True:=by
 refine eq_true ?_;rw[Xh];intro x hx;obtain ⟨k,rfl⟩:=Pv hx;simp[Qe]
theorem ZV (ρ:Nat->Nat)(l:List Mp):ay ρ (bH l)=bH l:=by
 rw[Zd];refine (List.map_congr_left (g:=id) fun x hx=>?_).trans (map_id _);obtain ⟨k,rfl⟩:=Pv hx;simp[aA]
theorem Ye3 (s:FS)(l:List Mp):(bH l).map (Ys s)=bH l:=by
 refine (List.map_congr_left (g:=id) fun x hx=>?_).trans (map_id _);obtain ⟨k,rfl⟩:=Pv hx;rfl
attribute [go_sem] ZU ZV Ye3 Yl
structure Tb where
 ai:aq
 home:List Int
 maps:List Mp
structure Tb.wf (t:Tb):Prop where
 ai:t.ai.wf
 home:t.home.length=8
def Tb.hd (t:Tb):List AV:=t.ai.enc++Ql t.home
def Tb.bU {t:Tb}(h:t.wf):t.hd.length=29:=by simp[Tb.hd,aq.au h.ai,Xw,h.home]
theorem Tb.xB (t:Tb)(n:Nat):ah n t.hd=True:=by simp only[Tb.hd,BW,aq.cg,D6,and_self]
theorem Tb.px (t:Tb)(ρ:Nat->Nat):ay ρ t.hd=t.hd:=by simp only[Tb.hd,BV,aq.dt,Qt]
theorem Tb.sA (t:Tb)(s:FS):t.hd.map (Ys s)=t.hd:=by simp only[Tb.hd,map_append,aq.iY,Nv]
attribute [go_sem] Tb.xB Tb.px Tb.sA
def Tb.enc (t:Tb):List AV:=t.hd++[.isl t.maps.length (bH t.maps)]
def Tb.au {t:Tb}(h:t.wf):t.enc.length=30:=by simp[Tb.enc,Tb.bU h]
theorem Tb.cg (t:Tb)(n:Nat):ah n t.enc=True:=by simp[Tb.enc,BW,Tb.xB,ah,Qe,ZU]
theorem Tb.dt (t:Tb)(ρ:Nat->Nat):ay ρ t.enc=t.enc:=by simp[Tb.enc,BV,Tb.px,ay,aA,ZV]
theorem Tb.iY (t:Tb)(s:FS):t.enc.map (Ys s)=t.enc:=by simp[Tb.enc,map_append,Tb.sA,Ys]
attribute [go_sem] Tb.cg Tb.dt Tb.iY
def Tb.b6 {t:Tb}(h:t.wf):t.enc.getD 29 .any=.isl t.maps.length (bH t.maps):=by
 unfold Tb.enc;rw[getD_eq_getElem?_getD,getElem?_append_right (by rw[Tb.bU h];decide),Tb.bU h];rfl
def Tb.dw {t:Tb}(h:t.wf):t.enc.take 21=t.ai.enc:=by
 unfold Tb.enc Tb.hd;rw[append_assoc,take_append_of_le_length (by rw[aq.au h.ai];decide),take_of_length_le (by rw[aq.au h.ai];decide)]
def Tb.aT (t:Tb)(s:Nat):Int:=t.home.getD s 0
def Tb.dR {t:Tb}(h:t.wf){s:Nat}(hs:s<8):t.enc.getD (21+s) .any=.int .i64 (t.aT s):=by
 unfold Tb.enc Tb.hd Tb.aT;rw[append_assoc,getD_eq_getElem?_getD,getElem?_append_right (by rw[aq.au h.ai];omega),aq.au h.ai,show 21+s-21=s by omega,List.getElem?_append_left (by rw[Xw,h.home];exact hs)];have hl:s<t.home.length:=by rw[h.home];exact hs
 simp[Ql,List.getD,hl]
def Yo (port:Int):Bool:=decide (1024<=port)&&decide (port<1072)
def Xc (port:Int):Int:=if Yo port=true then (port-1024)/8 else 0
def Yr (ae s aF:Int):Bool:=(ae==1||ae==6||ae==17)&&decide (0<=s)&&decide (s<8)&&decide (0<=aF)&&decide (aF<=65535)
def Xz (ae s aF:Int)(m:Mp):Bool:=m.ae==ae&&m.s==s&&m.aF==aF
def Ja (ae a port:Int)(m:Mp):Bool:=m.ae==ae&&m.a==a&&m.port==port
def gb:Option Mp->AV
 | some m=>.aR [.agg m.enc,.bool true]
 | none=>.aR [.agg cM.enc,.bool false]
def Xmu:FT Tryz.prog 56 Tryz.f56 (aG Tryz.prog Tryz.f56) [.t 2,.t 3,.t 4]:=.of Tryz.func56
def Xs3:FT Tryz.prog 81 Tryz.f81 (aG Tryz.prog Tryz.f81) [.t 6]:=.of Tryz.func81
def CH:FT Tryz.prog 52 Tryz.f52 (aG Tryz.prog Tryz.f52) [.t 2]:=.of Tryz.func52
def ZW:FT Tryz.prog 40 Tryz.f40 (aG Tryz.prog Tryz.f40) [.cell 8 (.ag 5),.t 9]:=.of Tryz.func40
def ZX:FT Tryz.prog 42 Tryz.f42 (aG Tryz.prog Tryz.f42) [.cell 8 (.ag 5),.t 9]:=.of Tryz.func42
def ZY:FT Tryz.prog 126 Tryz.f126 (aG Tryz.prog Tryz.f126) [.t 4]:=.of Tryz.func126
def CI:FT Tryz.prog 89 Tryz.f89 (aG Tryz.prog Tryz.f89) [.cell 10 (.ag 30),.cell 11 (.ag 5),.t 12,.t 13]:=.of Tryz.func89
def Xg3:FT Tryz.prog 125 Tryz.f125 (aG Tryz.prog Tryz.f125) [.cell 3 (.ag 30),.cell 4 (.ag 5),.t 5,.t 6]:=.of Tryz.func125
def Yci:FT Tryz.prog 127 Tryz.f127 (aG Tryz.prog Tryz.f127) [.cell 6 (.ag 30),.cell 7 (.ag 5),.t 8,.t 9]:=.of Tryz.func127
def KD:FT Tryz.prog 102 Tryz.f102 (aG Tryz.prog Tryz.f102) [.cell 4 (.ag 30),.t 5,.t 6]:=.of Tryz.func102
def ZZ:FT Tryz.prog 140 Tryz.f140 (aG Tryz.prog Tryz.f140) [.t 4]:=.of Tryz.func140
def Xir:FT Tryz.prog 141 Tryz.f141 (aG Tryz.prog Tryz.f141) [.t 6]:=.of Tryz.func141
def Pw:FT Tryz.prog 64 Tryz.f64 (aG Tryz.prog Tryz.f64) [.t 2]:=.of Tryz.func64
def Xxx:FT Tryz.prog 79 Tryz.f79 (aG Tryz.prog Tryz.f79) [.t 2]:=.of Tryz.func79
def Px:FT Tryz.prog 80 Tryz.f80 (aG Tryz.prog Tryz.f80) [.t 2]:=.of Tryz.func80
def Z0:FT Tryz.prog 49 Tryz.f49 (aG Tryz.prog Tryz.f49) [.t 4]:=.of Tryz.func49
def Xjr:FT Tryz.prog 163 Tryz.f163 (aG Tryz.prog Tryz.f163) [.t 4]:=.of Tryz.func163
def Z4:FT Tryz.prog 128 Tryz.f128 (aG Tryz.prog Tryz.f128) [.t 4,.t 5]:=.of Tryz.func128
def Z5:FT Tryz.prog 129 Tryz.f129 (aG Tryz.prog Tryz.f129) [.cell 8 (.ag 21),.t 9,.t 10]:=.of Tryz.func129
def Xue:FT Tryz.prog 142 Tryz.f142 (aG Tryz.prog Tryz.f142) [.cell 8 (.ag 21),.t 9]:=.of Tryz.func142
def Xtc:FT Tryz.prog 103 Tryz.f103 (aG Tryz.prog Tryz.f103) [.cell 6 (.ag 21),.t 7]:=.of Tryz.func103
def Xsy:FT Tryz.prog 61 Tryz.f61 (aG Tryz.prog Tryz.f61) [.cell 4 (.ag 21),.t 5]:=.of Tryz.func61
def Xbp:FT Tryz.prog 62 Tryz.f62 (aG Tryz.prog Tryz.f62) [.cell 4 (.ag 21),.t 5]:=.of Tryz.func62
def KE (a:Int):PS Tryz.prog gl 79 [.int .i64 a] (.bool (Ki a)):=by
 refine Xxx.ps (ap rfl) (by simp[Qe]) fun c hN hg=>?_
 conv in aG _ _=>cbv
 unfold Ki;exact Qp
def Py (hp:p.wf):p.enc.take 18=Ql p.own:=by
 unfold aq.enc;rw[take_append_of_le_length (by rw[Xw,hp.own];decide),take_of_length_le (by rw[Xw,hp.own];decide)]
def Fg (hp:p.wf)(a:Nat)(ha:a<3):(p.enc.drop (a*6)).take 6=Ql (p.row a):=by
 unfold aq.enc aq.row;rw[List.drop_append_of_le_length (by rw[Xw,hp.own];omega),take_append_of_le_length (by rw[List.length_drop,Xw,hp.own];omega)];simp[Ql,List.map_drop,List.map_take]
theorem Pz (a:Nat):(p.own.drop (a*6)).take 6=p.row a:=rfl
def xC (a k:Nat)(hk:k<6):(p.row a).getD k 0=p.ow a k:=by
 unfold aq.ow;rw[getD_eq_getElem?_getD,getD_eq_getElem?_getD,ZH p a k hk]
def KF (hp:p.wf):PS Tryz.prog gl 80 [.agg p.enc] (.bool p.bO):=by
 refine Px.ps (ap rfl) (by simp[Qe]) fun c hN hg=>?_
 conv in aG _ _=>cbv
 have e2:=aq.au hp;have e3:=Py p hp;refine Qd (An @e2 @e3) ?_
 refine Qu (fun a:Nat=>a≤3∧(p.own.take (a * 6)).all Ua=true) (fun a=>⟨[(8,.agg (Ql p.own)),(9,.int .i64 a)],[],0⟩) (fun a=>3 - a) Px.mixed hN
  ⟨0,⟨by omega,rfl⟩,[],by exact Qp⟩ fun a hI=>?_
 obtain ⟨ha,bl⟩:=id hI;clear hI;refine Qa ?_;refine Qb ?_ ?_<;>intro h1
 ·have jD:a < 3:=by omega
  have hr:=Pz p a;have fH:=Zk p hp a jD;refine Qd (An @hr @hp.own) ?_
  refine Qu (fun k:Nat=>k≤6∧(p.own.take (a * 6 + k)).all Ua=true) (fun k=>⟨[(8,.agg (Ql p.own)),(9,.int .i64 a),(12,.agg (Ql (p.row a))),(13,.int .i64 k)],[],0⟩) (fun k=>6 - k) Px.mixed hN
   ⟨0,⟨by omega,bl⟩,[],by exact Qp⟩ fun k hJ=>?_
  obtain ⟨hk,fQ⟩:=id hJ;clear hJ;refine Qa ?_;refine Qb ?_ ?_<;>intro h2
  ·have fg:k < 6:=by omega
   have hv:=xC p a k fg;have ho:p.own[a*6+k]?=some (p.ow a k):=by
    unfold aq.ow;rw[getD_eq_getElem?_getD,getElem?_eq_getElem (by rw[hp.own];omega)];rfl
   generalize p.ow a k=x at *
   refine Qd (An @fH @hv) ?_;refine Qb ?_ ?_<;>intro h3
   ·have hb:Ua x=false:=h3.elim (ZL x) (ZM x);exact Qi (ZJ p _ x ho hb)
   ·refine Qa ?_;refine ⟨k+1,⟨by omega,ZK p _ x ho fQ (ZN x h3.1 h3.2)⟩,⟨[],?_⟩,by omega⟩;exact Qp
  ·have:k=6:=by omega
   subst this;refine Qa ?_;refine ⟨a+1,⟨by omega,by rw[show (a+1)*6=a*6+6 by omega];exact fQ⟩,⟨[],?_⟩,by omega⟩;exact Qp
 ·have:a=3:=by omega
  subst this;exact Qi (ZI p bl hp)
def Z6 (hp:p.wf)(a:Int):PS Tryz.prog gl 49 [.agg p.enc,.int .i64 a] (.int .i64 (p.left a)):=by
 refine Z0.ps (ap rfl) (by simp[Qe]) fun c hN hg=>?_
 conv in aG _ _=>cbv
 have e2:=aq.au hp;have hA:=KE c.gl a;by_cases ha:Ki a=true
 ·obtain ⟨b,rfl,hb⟩:=z8 a ha;rw[ha]at hA;have hr:=Fg p hp b hb;have fH:=Zk p hp b hb;refine Qd @e2 ?_;refine Xd hA ?_;refine Yc ?_;refine Qd (An @e2 @hr) ?_
  refine Qu (fun k:Nat=>k≤6) (fun k=>⟨[(5,.int .i64 (lJ ((p.row b).take k):Nat)),(13,.agg (Ql (p.row b))),(14,.int .i64 k)],[],0⟩) (fun k=>6 - k) Z0.mixed hN
   ⟨0,by omega,[],by refine Qa ?_;rfl⟩ fun k hk=>?_
  refine Qa ?_;refine Qb ?_ ?_<;>intro h2
  ·have fg:k < 6:=by omega
   have hv:=xC p b k fg;have hs:=Ps (p.row b) k (p.ow b k) (KC p hp b k hb fg);have hle:=KB (p.row b) k;generalize p.ow b k=x at *
   refine Qd (An @fH @hv) ?_;refine Qb ?_ ?_<;>intro h3
   ·rw[am h3]at hs;refine Qa ?_;refine ⟨k+1,by omega,⟨[],?_⟩,by omega⟩;exact Qi @hs
   ·rw[aa h3]at hs;refine Qa ?_;refine ⟨k+1,by omega,⟨[],?_⟩,by omega⟩;exact Qi @hs
  ·have:k=6:=by omega
   subst this;have hf:p.left (b:Int)=lJ ((p.row b).take 6):=by rw[z7 p b hb,take_of_length_le af]
   exact Qi @hf
 ·have ha:Ki a=false:=by simpa using ha
  rw[ha]at hA;have h0:=Xu9 p a ha;refine Qd @e2 ?_;refine Xd hA ?_;refine Yc ?_;exact Qi @h0
def Z7 (k n:Int)(hn:0<n)(kU:n<=4611686018427387904):PS Tryz.prog gl 163 [.int .i64 k,.int .i64 n] (.int .i64 (k%n)):=by
 refine Xjr.ps (ap rfl) (by simp[Qe]) fun c hN hg=>?_
 conv in aG _ _=>cbv
 have hb:=ZG k n hn;have hE:=Lib.hid (Qun k n hn);refine Qa ?_;refine Qb ?_ ?_<;>intro h1
 ·have e:=hE.out;rw[am h1]at e;exact Qp
 ·have e:=hE.out;rw[aa h1]at e;exact Qp
theorem Xjy (l:List Int):lJ (l.take 0)=0:=rfl
def eb (l:List Nat):List Int:=l.map fun (a:Nat)=>(a:Int)
def uc (l:List Nat):(eb l).length=l.length:=by simp[eb]
def KG (l:List Nat)(i:Nat)(h:i<l.length):(eb l).getD i 0=((l.getD i 0:Nat):Int):=by simp[eb,List.getD,h]
def KH (l:List Nat)(k:Nat):eb l++[(k:Int)]=eb (l++[k]):=by simp[eb]
def Xyq (hp:p.wf)(draw:Int):PS Tryz.prog gl 128 [.agg p.enc,.int .i64 draw] (.aR [.int .i64 (p.pick draw).1,.int .i64 (p.pick draw).2]):=by
 refine Z4.ps (ap rfl) (by simp[Qe,ah]) fun c hN hg=>?_
 conv in aG _ _=>cbv
 have e2:=aq.au hp;have hG:=KF c.gl p hp;by_cases aV:p.bO=true;rotate_left
 ·have hr:p.pick draw=(0,2):=aa aV;have aV:p.bO=false:=by simpa using aV
  rw[aV]at hG;rw[hr];refine Qd @e2 ?_;refine Qk hG @e2 ?_;refine Yc ?_;exact Qp
 have hr:p.pick draw=(if (p.opens 3).length=0 then ((0:Int),(10:Int)) else ((((p.opens 3).getD (draw%((p.opens 3).length:Int)).toNat 0:Nat):Int),(0:Int))):=am aV;rw[aV]at hG;rw[hr];clear hr;refine Qd @e2 ?_;refine Qk hG @e2 ?_;refine Yc ?_;refine Qa ?_;refine vn 6 1 rfl rfl ?_
 refine Qu (fun k:Nat=>k≤3) (fun k=>⟨[(1,.int .i64 draw),(2,.ptr 0 0),(6,.sl 1 1 0 (p.opens k).length (p.opens k).length),(11,.int .i64 k)],[(0,.cells p.enc),(1,.cells (Ql (eb (p.opens k))))],2⟩) (fun k=>3 - k) Z4.mixed hN
  ⟨0,by omega,[],by (have aQ:=@St.named.eq_1;refine XG ?_;clear aQ;((try with_reducible and_intros);all_goals try first|refine zm ?_|exact CL))<;>exact rfl⟩ fun k hk=>?_
 have qU:=ZP p k;refine Qa ?_;refine Qb ?_ ?_<;>intro h2
 ·have Aa:k < 3:=by omega
  have hd:=aq.il hp Aa;have hL:=Z6 c.gl p hp k;have ia:=ZO p k;unfold aq.open_ at ia;have gA:=uc (p.opens k);cases vD:p.kW k with
  | true =>
   rw[vD]at hd ia;have ia:p.opens (k+1)=p.opens k:=by simpa using ia
   refine Qd (An @e2 @hd) ?_;refine Xy ?_;refine Yc ?_;refine Qa ?_;refine ⟨k+1,by omega,⟨[],?_⟩,by omega⟩;exact Qi @ia
  | false =>
   rw[vD]at hd ia;refine Qd (An @e2 @hd) ?_;refine Qk hL (An @e2 @hd) ?_;refine Qb ?_ ?_<;>intro h3
   ·have ia:p.opens (k + 1)=p.opens k++[k]:=by rw[ia];simp;omega
    have hsn:=KH (p.opens k) k;have qq:(p.opens k++[k]).length=(p.opens k).length+1:=by simp
    refine Qa ?_;refine Jx ?_;refine Ym @gA ?_;refine ⟨k+1,by omega,⟨[(1,3)],?_⟩,by omega⟩;exact Qi (An @ia (An @hsn @qq))
   ·have ia:p.opens (k + 1)=p.opens k:=by rw[ia];simp;omega
    refine Qa ?_;refine ⟨k+1,by omega,⟨[],?_⟩,by omega⟩;exact Qi @ia
 ·have:k=3:=by omega
  subst this;have gA:=uc (p.opens 3);by_cases hz:(p.opens 3).length=0
  ·rw[am hz];refine Qa ?_;refine Qb ?_ ?_<;>intro h3
   ·exact Qp
   ·omega
  ·rw[aa hz];have hC:=Z7 c.gl draw (p.opens 3).length af af;have m0:=Int.emod_nonneg draw (show ((p.opens 3).length:Int)≠0 by omega);have m1:=Int.emod_lt_of_pos draw (show (0:Int) < (p.opens 3).length by omega);have ep:=KG (p.opens 3) (draw % ((p.opens 3).length:Int)).toNat af;generalize draw % ((p.opens 3).length:Int)=d at *
   refine Qa ?_;refine Qb ?_ ?_<;>intro h3
   ·omega
   refine Qa ?_;exact vi hC (An @gA @ep)
def PA (a k:Nat)(o:Int)(h:a*6+k<p.own.length):p.enc.set (a*6+k) (.int .i64 o)=(p.put a k o).enc:=by
 unfold aq.enc aq.put;rw[List.set_append_left _ _ (by rw[Xw];exact h)];simp[Ql,map_set]
def Z8 (hp:p.wf)(a:Nat)(to:Bool):p.enc.set (18+a) (.bool to)=(p.oh a to).enc:=by
 unfold aq.enc aq.oh;rw[set_append_right _ _ (by rw[Xw,hp.own];omega),Xw,hp.own,show 18+a-18=a by omega];simp[Zu,map_set]
def Z9 (hp:p.wf)(a k:Nat)(ha:a<3)(hk:k<6):p.enc.getD (a*6+k) .any=.int .i64 (p.ow a k):=by
 have h:a*6+k<p.own.length:=by rw[hp.own];omega
 unfold aq.enc aq.ow;rw[getD_eq_getElem?_getD,List.getElem?_append_left (by rw[Xw];exact h),getD_eq_getElem?_getD];simp[Ql,h]
def lK (x:aq×Int×Int):AV:=.aR [.agg x.1.enc,.int .i64 x.2.1,.int .i64 x.2.2]
def Km (x:aq×Int):AV:=.aR [.agg x.1.enc,.int .i64 x.2]
def Qvj (hp:p.wf)(s a draw:Int):PS Tryz.prog gl 129 [.agg p.enc,.int .i64 s,.int .i64 a,.int .i64 draw] (lK (p.take s a draw)):=by
 refine Z5.ps (ap rfl) (by simp[Qe,ah,lK,aq.cg]) fun c hN hg=>?_
 conv in aG _ _=>cbv
 have e2:=aq.au hp;have hG:=KF c.gl p hp;have hA:=KE c.gl a;by_cases aV:p.bO=true;rotate_left
 ·have hr:p.take s a draw=(p,0,2):=aa aV;have aV:p.bO=false:=by simpa using aV
  rw[aV]at hG;rw[hr];unfold lK;refine Qd @e2 ?_;refine Qk hG @e2 ?_;refine Yc ?_;exact Qi @e2
 by_cases has:Ki a=true/\0<=s/\s<8;rotate_left
 ·have hr:p.take s a draw=(p,0,7):=(am aV).trans (aa has);rw[hr];rw[aV]at hG;unfold lK;have hb:(!Ki a||decide (s<0)||decide (8<=s))=true:=by
   cases ha:Ki a
   ·rfl
   ·have:s<0\/8<=s:=by
     by_cases h1:s<0
     ·exact .inl h1
     ·exact .inr (by have:¬ (0<=s/\s<8):=fun h=>has ⟨ha,h⟩;omega)
    simpa using this
  refine Qd @e2 ?_;refine Qk hG @e2 ?_;refine Yc ?_;refine Qd @e2 ?_;refine Qk hA (An @e2 @hb) ?_;refine Yc ?_;exact Qi @e2
 obtain ⟨ha,fL,iZ⟩:=has;obtain ⟨b,rfl,hb⟩:=z8 a ha;have hd:=aq.il hp hb;have hL:=Z6 c.gl p hp b;by_cases ja:p.kW b=true
 ·have hr:p.take s b draw=(p,0,9):=(am aV).trans ((am ⟨ha,fL,iZ⟩).trans (am (by rw[Int.toNat_natCast];exact ja)));rw[hr];rw[aV]at hG;rw[ha]at hA;rw[ja]at hd;unfold lK;refine Qd @e2 ?_;refine Qk hG @e2 ?_;refine Yc ?_;refine Qd @e2 ?_;refine Qk hA @e2 ?_;refine Qb ?_ ?_<;>intro h2
  ·omega
  refine Qd (An @e2 @hd) ?_;refine Yc ?_;exact Qi @e2
 have ja:p.kW b=false:=by simpa using ja
 by_cases PB:p.left b=0
 ·have hr:p.take s b draw=(p,0,10):=(am aV).trans ((am ⟨ha,fL,iZ⟩).trans ((aa (by rw[Int.toNat_natCast,ja];simp)).trans (am PB)));rw[hr];rw[aV]at hG;rw[ha]at hA;rw[ja]at hd;rw[PB]at hL;unfold lK;refine Qd @e2 ?_;refine Qk hG @e2 ?_;refine Yc ?_;refine Qd @e2 ?_;refine Qk hA @e2 ?_;refine Qb ?_ ?_<;>intro h2
  ·omega
  refine Qd (An @e2 @hd) ?_;refine Yc ?_;refine Qd @e2 ?_;refine Qk hL @e2 ?_;refine Yc ?_;exact Qi @e2
 have hr:p.take s b draw=(p.put b (p.nv b draw) (s+1),((p.nv b draw:Nat):Int),0):=(am aV).trans ((am ⟨ha,fL,iZ⟩).trans ((aa (by rw[Int.toNat_natCast,ja];simp)).trans ((aa PB).trans (by rw[Int.toNat_natCast]))));rw[hr];rw[aV]at hG;rw[ha]at hA;rw[ja]at hd;clear hr;have hC:=Z7 c.gl draw (p.left b) af (by have:=z7 p b hb;have:=KB (p.row b) 6;rw[take_of_length_le (by rw[Zk p hp b hb];omega)]at this;omega);have m0:=Int.emod_nonneg draw (show (p.left b:Int)≠0 by omega);have m1:=Int.emod_lt_of_pos draw (show (0:Int)<p.left b by omega);have PD:∀ i,i<6->p.ow b i=0->(lJ ((p.row b).take i):Int)=draw%(p.left b:Int)->p.nv b draw=i:=fun i hi h0 he=>by
  have h1:=ZQ (p.row b) i (by rw[Zk p hp b hb];exact hi) (by rw[KC p hp b i hb hi,h0]) 6 hi;unfold aq.nv;rw[<- he,Int.toNat_natCast,getD_eq_getElem?_getD,h1];rfl
 have hl6:p.left b<=6:=by
  have h1:=z7 p b hb;have h2:=KB (p.row b) 6;rw[take_of_length_le (by rw[Zk p hp b hb];omega)]at h2;omega
 have qQ:((lJ []:Nat):Int)=0:=rfl;have hlf:lJ ((p.row b).take 6)=p.left b:=by rw[z7 p b hb,take_of_length_le (by rw[Zk p hp b hb];omega)]
 generalize draw%(p.left b:Int)=D at *
 have sB:=Fg p hp b hb;have fH:=Zk p hp b hb;unfold lK;refine Qd @e2 ?_;refine Qk hG @e2 ?_;refine Yc ?_;refine Qd @e2 ?_;refine Qk hA @e2 ?_;refine Qb ?_ ?_<;>intro h2
 ·omega
 refine Qd (An @e2 @hd) ?_;refine Yc ?_;refine Qd @e2 ?_;refine Qk hL @e2 ?_;refine Qb ?_ ?_<;>intro h4
 ·omega
 refine Qd @e2 ?_;refine Qk hL @e2 ?_;refine Qk hC @e2 ?_;refine Qd (An @e2 @sB) ?_;have sC:∀ i,i<6->b*6+i<p.own.length:=fun i hi=>by rw[hp.own];omega
 refine Qu (fun i:Nat=>i≤6∧(lJ ((p.row b).take i):Int)≤D) (fun i=>⟨[(1,.int .i64 s),(2,.int .i64 b),(4,.ptr 0 0),(8,.ptr 1 0),(11,.int .i64 (D - (lJ ((p.row b).take i):Nat))),(52,.agg (Ql (p.row b))),(53,.int .i64 i)],[(0,.cells p.enc),(1,.cells [.int .i64 0,.int .i64 0,.int .i64 0,.int .i64 0,.int .i64 0,.int .i64 0,.int .i64 0,.int .i64 0,.int .i64 0,.int .i64 0,.int .i64 0,.int .i64 0,.int .i64 0,.int .i64 0,.int .i64 0,.int .i64 0,.int .i64 0,.int .i64 0,.bool false,.bool false,.bool false])],2⟩) (fun i=>6 - i) Z5.mixed hN
  ⟨0,⟨by omega,by rw[Xjy];omega⟩,[],by exact Qi (An @qQ @Int.sub_zero)⟩ fun i hI=>?_
 obtain ⟨hi,hle⟩:=id hI;clear hI;refine Qa ?_;refine Qb ?_ ?_<;>intro h5
 ·have KI:i < 6:=by omega
  have hv:=xC p b i KI;have hs:=Ps (p.row b) i (p.ow b i) (KC p hp b i hb KI);have hk2:=PD i KI;have ny:=PA p b i (s+1) (sC i KI);generalize p.ow b i=x at *
  refine Qd (An @fH @hv) ?_;refine Qb ?_ ?_<;>intro h6
  ·rw[aa h6]at hs;refine Qa ?_;refine ⟨i+1,⟨by omega,by rw[hs];omega⟩,⟨[],?_⟩,by omega⟩;exact Qi @hs
  ·rw[am h6]at hs;refine Qa ?_;refine Qb ?_ ?_<;>intro h7
   ·have Aa:=hk2 h6 af;rw[Aa];have e3:=aq.au (p.cI hp b i (s+1));exact Qi (An @e2 (An @ny @e3))
   ·refine Qa ?_;refine ⟨i+1,⟨by omega,by rw[hs];omega⟩,⟨[],?_⟩,by omega⟩;exact Qi @hs
 ·have:i=6:=by omega
  subst this;omega
def Xvz (hp:p.wf)(s a b:Int)(uO:s<=9223372036854775806):PS Tryz.prog gl 142 [.agg p.enc,.int .i64 s,.int .i64 a,.int .i64 b] (Km (p.bT s a b)):=by
 refine Xue.ps (ap rfl) (by simp[Qe,ah,Km,aq.cg]) fun c hN hg=>?_
 conv in aG _ _=>cbv
 have e2:=aq.au hp;have hG:=KF c.gl p hp;have hA:=KE c.gl a;by_cases aV:p.bO=true;rotate_left
 ·have hr:p.bT s a b=(p,2):=aa aV;have aV:p.bO=false:=by simpa using aV
  rw[aV]at hG;rw[hr];unfold Km;refine Qd @e2 ?_;refine Qk hG @e2 ?_;refine Yc ?_;exact Qi @e2
 rw[aV]at hG;by_cases aK:Ki a=true/\0<=b/\b<6/\0<=s;rotate_left
 ·have hr:p.bT s a b=(p,7):=(am aV).trans (aa fun h=>aK ⟨h.1,h.2.1,h.2.2.1,h.2.2.2.1⟩);rw[hr];unfold Km;have hb:(!Ki a||decide (b<0)||decide (6<=b)||decide (s<0))=true:=by
   cases ha:Ki a
   ·rfl
   ·have:(b<0\/6<=b)\/s<0:=by
     have:¬ (0<=b/\b<6/\0<=s):=fun h=>aK ⟨ha,h⟩;omega
    simpa using this
  refine Qd @e2 ?_;refine Qk hG @e2 ?_;refine Yc ?_;refine Qd @e2 ?_;refine Qk hA (An @e2 @hb) ?_;refine Yc ?_;exact Qi @e2
 obtain ⟨ha,xf,eM,fL⟩:=aK;rw[ha]at hA;obtain ⟨a,rfl,jD⟩:=z8 a ha;obtain ⟨b,rfl⟩:=Int.eq_ofNat_of_zero_le xf;have hb6:b<6:=by omega
 have PE:=Z9 p hp a b jD hb6;have ny:=PA p a b 0 (by rw[hp.own];omega);have e3:=aq.au (p.cI hp a b 0);by_cases ho:p.ow a b=s+1
 ·have hr:p.bT s a b=(p.put a b 0,0):=(am aV).trans (am ⟨ha,xf,eM,fL,by rw[Int.toNat_natCast,Int.toNat_natCast];exact ho⟩);rw[hr];rw[ho]at PE;unfold Km;refine Qd @e2 ?_;refine Qk hG @e2 ?_;refine Yc ?_;refine Qd @e2 ?_;refine Qk hA (An @e2 @PE) ?_;refine Qb ?_ ?_<;>intro h2
  ·omega
  exact Qi (An @e2 (An @ny @e3))
 ·have hr:p.bT s a b=(p,7):=(am aV).trans (aa fun h=>ho (by have:=h.2.2.2.2;rwa [Int.toNat_natCast,Int.toNat_natCast]at this));rw[hr];unfold Km;generalize p.ow a b=o at *
  refine Qd @e2 ?_;refine Qk hG @e2 ?_;refine Yc ?_;refine Qd @e2 ?_;refine Qk hA (An @e2 @PE) ?_;refine Qb ?_ ?_<;>intro h2
  ·exact Qi @e2
  ·omega
def Qtg (hp:p.wf)(a:Int)(to:Bool):PS Tryz.prog gl 103 [.agg p.enc,.int .i64 a,.bool to] (Km (p.drain a to)):=by
 refine Xtc.ps (ap rfl) (by simp[Qe,ah,Km,aq.cg]) fun c hN hg=>?_
 conv in aG _ _=>cbv
 have e2:=aq.au hp;have hA:=KE c.gl a;by_cases ha:Ki a=true;rotate_left
 ·have hr:p.drain a to=(p,7):=aa ha;have ha:Ki a=false:=by simpa using ha
  rw[ha]at hA;rw[hr];unfold Km;refine Qd @e2 ?_;refine Qk hA @e2 ?_;refine Yc ?_;exact Qi @e2
 rw[ha]at hA;obtain ⟨a,rfl,jD⟩:=z8 a ha;have hd:=aq.il hp jD;have ny:=Z8 p hp a to;have e3:=aq.au (p.kY hp a to);by_cases vE:p.kW a=to
 ·have hr:p.drain a to=(p,8):=(am ha).trans (am (by rw[Int.toNat_natCast];exact vE));rw[hr];rw[vE]at hd;unfold Km;refine Qd @e2 ?_;refine Qk hA @e2 ?_;refine Yc ?_;refine Qd (An @e2 @hd) ?_;refine Yc ?_;exact Qi @e2
 ·have hr:p.drain a to=(p.oh a to,0):=(am ha).trans ((aa (by rw[Int.toNat_natCast];exact vE)).trans (by rw[Int.toNat_natCast]));rw[hr];unfold Km;generalize p.kW a=d at *
  refine Qd @e2 ?_;refine Qk hA @e2 ?_;refine Yc ?_;refine Qd (An @e2 @hd) ?_;refine Qb ?_ ?_<;>intro h2
  ·exact (vE h2).elim
  exact Qi (An @e2 (An @ny @e3))
def Xqv (hp:p.wf)(a:Int):PS Tryz.prog gl 61 [.agg p.enc,.int .i64 a] (Km (p.drain a true)):=by
 refine Xsy.ps (ap rfl) (by simp[Qe,ah,Km,aq.cg]) fun c hN hg=>?_
 conv in aG _ _=>cbv
 have e2:=aq.au hp;have hD:=Qtg c.gl p hp a true;have e3:=aq.au (p.eF hp a true);unfold Km at hD ⊢;refine Qd @e2 ?_;exact vi hD (An @e2 @e3)
def Xay (hp:p.wf)(a:Int):PS Tryz.prog gl 62 [.agg p.enc,.int .i64 a] (Km (p.drain a false)):=by
 refine Xbp.ps (ap rfl) (by simp[Qe,ah,Km,aq.cg]) fun c hN hg=>?_
 conv in aG _ _=>cbv
 have e2:=aq.au hp;have hD:=Qtg c.gl p hp a false;have e3:=aq.au (p.eF hp a false);unfold Km at hD ⊢;refine Qd @e2 ?_;exact vi hD (An @e2 @e3)
def lL (port:Int):AV:=.aR [.int .i64 (Xc port),.int .i64 (if Yo port=true then (port-1024)%8 else 0),.bool (Yo port)]
def KJ (port:Int)(hp:-9223372036854775808<=port/\port<=9223372036854775807):PS Tryz.prog gl 56 [.int .i64 port] (lL port):=by
 refine Xmu.ps (ap rfl) (by simp[lL,Qe,ah]) fun c hN hg=>?_
 conv in aG _ _=>cbv
 by_cases h:Yo port=true
 ·have h':=h;unfold Yo at h';simp at h';have e1:(port - 1024).tdiv 8=(port - 1024) / 8:=Int.tdiv_eq_ediv_of_nonneg af;have e2:(port - 1024).tmod 8=(port - 1024) % 8:=Int.tmod_eq_emod_of_nonneg af;unfold lL Xc;rw[am h,am h,h];refine Qa ?_;refine Qb ?_ ?_<;>intro h1
  ·omega
  exact Qi (An @e1 @e2)
 ·have h':=h;unfold Yo at h';simp at h';have hb:Yo port=false:=by simpa using h
  unfold lL Xc;rw[aa h,aa h,hb];by_cases fA:port<1024
  ·have d1:decide (port < 1024)=true:=by simpa using fA
   have e0:∃ x,IntKind.i64.wrap (port-1024)=x:=⟨_,rfl⟩
   obtain ⟨x,hx⟩:=e0;refine Qd (An @d1 @hx) ?_;refine Yc ?_;exact Qp
  ·refine Qa ?_;refine Qb ?_ ?_<;>intro h1
   ·exact Qp
   ·omega
def PF (ae s aF:Int):PS Tryz.prog gl 81 [.int .i64 ae,.int .i64 s,.int .i64 aF] (.bool (Yr ae s aF)):=by
 refine Xs3.ps (ap rfl) (by simp[Qe]) fun c hN hg=>?_
 conv in aG _ _=>cbv
 unfold Yr;exact Qp
def Qwt (t:Tb)(ht:t.wf)(hl:t.maps.length<=4611686018427387904)(ae s aF:Int):PS Tryz.prog gl 40 [.agg t.enc,.int .i64 ae,.int .i64 s,.int .i64 aF] (gb (t.maps.find? (Xz ae s aF))):=by
 refine ZW.ps (ap rfl) (by cases t.maps.find? (Xz ae s aF)<;>simp[gb,Qe,ah,Mp.enc]) fun c hN hg=>?_
 conv in aG _ _=>cbv
 have e2:=Tb.au ht;have e3:=Tb.b6 ht;have aD:=Yl t.maps;generalize hR:t.maps.find? (Xz ae s aF)=R;refine Qd (An @e2 @e3) ?_
 refine Qu (fun k:Nat=>k≤t.maps.length∧(t.maps.drop k).find? (Xz ae s aF)=R) (fun k=>⟨[(1,.int .i64 ae),(2,.int .i64 s),(3,.int .i64 aF),(8,.ptr 1 0),(13,.isl t.maps.length (bH t.maps)),(14,.int .i64 t.maps.length),(15,.int .i64 k)],[(0,.cells t.enc),(1,.cells [.int .i64 0,.int .i64 0,.int .i64 0,.int .i64 0,.int .i64 0])],2⟩) (fun k=>t.maps.length - k) ZW.mixed hN
  ⟨0,⟨by omega,by rw[List.drop_zero];exact hR⟩,[],by exact Qp⟩ fun k hI=>?_
 obtain ⟨hk,hf⟩:=id hI;clear hI;refine Qa ?_;refine Qb ?_ ?_<;>intro h1
 ·have bh:k < t.maps.length:=by omega
  have aL:=rf t.maps k bh;rw[drop_eq_getElem_cons bh,find?_cons]at hf;generalize t.maps[k]=m at *
  obtain ⟨mp,ms,mi,ma,mt⟩:=m;unfold Xz at hf;simp only[Mp.enc]at aL;dsimp only at hf;refine Qd (An @aD @aL) ?_;refine Qb ?_ ?_<;>intro h2
  ·have hc:(mp == ae && ms == s && mi == aF)=true:=by simp[h2]
   rw[hc]at hf;dsimp only at hf;subst hf;unfold gb Mp.enc;exact Qp
  ·have hc:(mp==ae&&ms==s&&mi==aF)=false:=by
    cases hb:(mp==ae&&ms==s&&mi==aF)
    ·rfl
    ·simp at hb;omega
   rw[hc]at hf;dsimp only at hf;refine Qa ?_;refine ⟨k+1,⟨by omega,hf⟩,⟨[],?_⟩,by omega⟩;exact Qp
 ·have:k=t.maps.length:=by omega
  subst this;rw[drop_length]at hf;subst hf;unfold gb cM Mp.enc;refine Qa ?_;exact rfl
def Qva (t:Tb)(ht:t.wf)(hl:t.maps.length<=4611686018427387904)(ae a port:Int):PS Tryz.prog gl 42 [.agg t.enc,.int .i64 ae,.int .i64 a,.int .i64 port] (gb (t.maps.find? (Ja ae a port))):=by
 refine ZX.ps (ap rfl) (by cases t.maps.find? (Ja ae a port)<;>simp[gb,Qe,ah,Mp.enc]) fun c hN hg=>?_
 conv in aG _ _=>cbv
 have e2:=Tb.au ht;have e3:=Tb.b6 ht;have aD:=Yl t.maps;generalize hR:t.maps.find? (Ja ae a port)=R;refine Qd (An @e2 @e3) ?_
 refine Qu (fun k:Nat=>k≤t.maps.length∧(t.maps.drop k).find? (Ja ae a port)=R) (fun k=>⟨[(1,.int .i64 ae),(2,.int .i64 a),(3,.int .i64 port),(8,.ptr 1 0),(13,.isl t.maps.length (bH t.maps)),(14,.int .i64 t.maps.length),(15,.int .i64 k)],[(0,.cells t.enc),(1,.cells [.int .i64 0,.int .i64 0,.int .i64 0,.int .i64 0,.int .i64 0])],2⟩) (fun k=>t.maps.length - k) ZX.mixed hN
  ⟨0,⟨by omega,by rw[List.drop_zero];exact hR⟩,[],by exact Qp⟩ fun k hI=>?_
 obtain ⟨hk,hf⟩:=id hI;clear hI;refine Qa ?_;refine Qb ?_ ?_<;>intro h1
 ·have bh:k < t.maps.length:=by omega
  have aL:=rf t.maps k bh;rw[drop_eq_getElem_cons bh,find?_cons]at hf;generalize t.maps[k]=m at *
  obtain ⟨mp,ms,mi,ma,mt⟩:=m;unfold Ja at hf;simp only[Mp.enc]at aL;dsimp only at hf;refine Qd (An @aD @aL) ?_;refine Qb ?_ ?_<;>intro h2
  ·have hc:(mp == ae && ma == a && mt == port)=true:=by simp[h2]
   rw[hc]at hf;dsimp only at hf;subst hf;unfold gb Mp.enc;exact Qp
  ·have hc:(mp==ae&&ma==a&&mt==port)=false:=by
    cases hb:(mp==ae&&ma==a&&mt==port)
    ·rfl
    ·simp at hb;omega
   rw[hc]at hf;dsimp only at hf;refine Qa ?_;refine ⟨k+1,⟨by omega,hf⟩,⟨[],?_⟩,by omega⟩;exact Qp
 ·have:k=t.maps.length:=by omega
  subst this;rw[drop_length]at hf;subst hf;unfold gb cM Mp.enc;refine Qa ?_;exact rfl
def Tb.vF {t:Tb}(h:t.wf){a:Nat}(ha:a<3):(t.enc.drop (a*6)).take 6=Ql (t.ai.row a):=by
 have e:=Fg t.ai h.ai a ha;unfold Tb.enc Tb.hd;rw[append_assoc,List.drop_append_of_le_length (by rw[aq.au h.ai];omega),take_append_of_le_length (by rw[List.length_drop,aq.au h.ai];omega),e]
def Zl (t:Tb)(s n:Nat):List Nat:=(List.range n).filter fun k=>t.ai.ow (t.aT s-1).toNat k==(s:Int)+1
def PG (t:Tb)(s n:Nat):Zl t s (n+1)=Zl t s n++if t.ai.ow (t.aT s-1).toNat n=(s:Int)+1 then [n] else []:=by
 unfold Zl;rw[range_succ,filter_append];simp[filter_cons]
def PH (t:Tb)(s n:Nat):(Zl t s n).length<=n:=by
 have:=List.length_filter_le (fun k=>t.ai.ow (t.aT s-1).toNat k==(s:Int)+1) (List.range n);simpa [Zl] using this
def xD (t:Tb)(s:Nat):AV:=if 1<=t.aT s then .isl (Zl t s 6).length (Ql (eb (Zl t s 6))) else .nils
def Ycw (t:Tb)(s:Nat):Qe n (xD t s):=by unfold xD;split<;>simp[Qe,D6]
def Qqv (t:Tb)(ht:t.wf)(s:Nat)(hs:s<8)(h3:0<=t.aT s/\t.aT s<=3):PS Tryz.prog gl 126 [.agg t.enc,.int .i64 s] (xD t s):=by
 refine ZY.ps (ap rfl) (Ycw 0 t s) fun c hN hg=>?_
 conv in aG _ _=>cbv
 have e2:=Tb.au ht;have eh:=Tb.dR ht hs;by_cases h1:1<=t.aT s;rotate_left
 ·have hr:xD t s=.nils:=aa h1;rw[hr];generalize t.aT s=h at *
  refine Qd (An @e2 @eh) ?_;refine Qb ?_ ?_<;>intro g1
  ·omega
  exact Qp
 have hr:xD t s=.isl (Zl t s 6).length (Ql (eb (Zl t s 6))):=am h1;rw[hr];obtain ⟨a,ha⟩:=Int.eq_ofNat_of_zero_le (show 0<=t.aT s-1 by omega);have jD:a<3:=by omega
 have tV:(t.aT s-1).toNat=a:=by omega
 have sB:=Tb.vF ht jD;have fH:=Zk t.ai ht.ai a jD;have gL:=PG t s;have hle:=PH t s;rw[tV]at gL;have h0:Zl t s 0=[]:=rfl;generalize Zl t s=W at *
 generalize t.aT s=h at *
 refine Qd (An @e2 (An @eh @ha)) ?_;refine Qb ?_ ?_<;>intro g1;rotate_left
 ·omega
 refine Qd (An @e2 @sB) ?_;refine vn 5 1 rfl rfl ?_
 refine Qu (fun k:Nat=>k≤6) (fun k=>⟨[(1,.int .i64 s),(5,.sl 1 1 0 (W k).length (W k).length),(20,.agg (Ql (t.ai.row a))),(21,.int .i64 k)],[(0,.cells t.enc),(1,.cells (Ql (eb (W k))))],2⟩) (fun k=>6 - k) ZY.mixed hN
  ⟨0,by omega,[],by refine Qd (An @St.named.eq_1 @h0) ?_<;>exact rfl⟩ fun k hk=>?_
 have pZ:=hle k;have gA:=uc (W k);refine Qa ?_;refine Qb ?_ ?_<;>intro g2
 ·have fg:k < 6:=by omega
  have hv:=xC t.ai a k fg;have nz:=gL k;generalize t.ai.ow a k=x at *
  refine Qd (An @fH @hv) ?_;refine Qb ?_ ?_<;>intro g3
  ·have nz:W (k + 1)=W k++[k]:=by rw[nz,am g3]
   have hsn:=KH (W k) k;have qq:(W k++[k]).length=(W k).length+1:=by simp
   refine Qa ?_;refine Jx ?_;refine Ym @gA ?_;refine ⟨k+1,by omega,⟨[(1,3)],?_⟩,by omega⟩;exact Qi (An @nz (An @hsn @qq))
  ·have nz:W (k + 1)=W k:=by rw[nz,aa g3,append_nil]
   refine Qa ?_;refine ⟨k+1,by omega,⟨[],?_⟩,by omega⟩;exact Qi @nz
 ·have:k=6:=by omega
  subst this;exact Qi @gA
def Fh (m:Mp):Prop:=(-9223372036854775808<=m.ae/\m.ae<=9223372036854775807)/\(-9223372036854775808<=m.s/\m.s<=9223372036854775807)/\(-9223372036854775808<=m.aF/\m.aF<=9223372036854775807)/\(-9223372036854775808<=m.a/\m.a<=9223372036854775807)/\(-9223372036854775808<=m.port/\m.port<=9223372036854775807)
structure Tb.ok (t:Tb):Prop where
 wf:t.wf
 bd:∀ m ∈ t.maps,Fh m
 len:t.maps.length<=4611686018427387904
def Yu (m:Mp):Nat:=m.a.toNat*6+(Xc m.port).toNat
def qs (l:List Mp):List Bool:=l.foldl (fun u m=>u.set (Yu m) true) (List.replicate 18 false)
def lM (l:List Mp):List Int:=l.foldl (fun u m=>u.set m.s.toNat (u.getD m.s.toNat 0+1)) (List.replicate 8 0)
def Uf (l:List Int):List Int:=l.foldl (fun u o=>if o=0 then u else u.set (o-1).toNat (u.getD (o-1).toNat 0+1)) (List.replicate 8 0)
def ud (t:Tb)(m:Mp):Prop:=Yr m.ae m.s m.aF=true/\Yo m.port=true/\0<=m.a/\m.a<3
def Uk (t:Tb)(m:Mp):Prop:=ud t m/\t.aT m.s.toNat=m.a+1/\t.ai.ow m.a.toNat (Xc m.port).toNat=m.s+1
def Yq (m o:Mp):Bool:=o.ae==m.ae&&(o.a==m.a&&o.port==m.port||o.s==m.s&&o.aF==m.aF)
structure dx (t:Tb):Prop where
 ai:t.ai.bO=true
 maps:∀ i (h:i<t.maps.length),Uk t t.maps[i]
 apart:∀ i j (hi:i<t.maps.length) (hj:j<i),Yq t.maps[i] (t.maps[j]'af)=false
 used:∀ i,i<18->(t.ai.own.getD i 0 != 0)=(qs t.maps).getD i false
 qt:∀ s,s<8->(Uf t.ai.own).getD s 0<=2/\(lM t.maps).getD s 0<=12/\((t.aT s != 0)=decide (0<(Uf t.ai.own).getD s 0))
open Classical in
noncomputable def Zp (t:Tb):Bool:=decide (dx t)
def Xkb:qs (l++[m])=(qs l).set (Yu m) true:=by unfold qs;rw[foldl_append];rfl
def Xiu:lM (l++[m])=(lM l).set m.s.toNat ((lM l).getD m.s.toNat 0+1):=by unfold lM;rw[foldl_append];rfl
def Xmq (l:List Int)(o:Int):Uf (l++[o])=if o=0 then Uf l else (Uf l).set (o-1).toNat ((Uf l).getD (o-1).toNat 0+1):=by unfold Uf;rw[foldl_append];rfl
def KK {α β:Type}(f:List α->β->List α)(hf:∀ u b,(f u b).length=u.length):∀ (l:List β) (u:List α),(l.foldl f u).length=u.length
 | [],_=>rfl
 | b::l,u=>by rw[foldl_cons,KK f hf l,hf]
def Xs6:(qs l).length=18:=by unfold qs;rw[KK _ (fun u b=>length_set ..)];rfl
def Xte:(lM l).length=8:=by unfold lM;rw[KK _ (fun u b=>length_set ..)];rfl
def Qvn (l:List Int):(Uf l).length=8:=by unfold Uf;rw[KK _ (fun u b=>by split<;>simp)];rfl
def Qmd {β:Type}(ix:β->Nat)(skip:β->Bool)(l:List β)(s:Nat):∀ u:List Int,(l.foldl (fun u b=>if skip b=true then u else u.set (ix b) (u.getD (ix b) 0+1)) u).getD s 0<=u.getD s 0+l.length/\u.getD s 0<=(l.foldl (fun u b=>if skip b=true then u else u.set (ix b) (u.getD (ix b) 0+1)) u).getD s 0:=by
 induction l with
 | nil=>intro u;simp
 | cons b l ih =>
  intro u;rw[foldl_cons];have h:=ih (if skip b=true then u else u.set (ix b) (u.getD (ix b) 0+1));have hu:(if skip b=true then u else u.set (ix b) (u.getD (ix b) 0+1)).getD s 0<=u.getD s 0+1/\u.getD s 0<=(if skip b=true then u else u.set (ix b) (u.getD (ix b) 0+1)).getD s 0:=by
   split
   ·omega
   ·by_cases hs:ix b=s
    ·subst hs;by_cases hl:ix b < u.length
     ·simp[List.getD,hl];omega
     ·simp[List.getD,Nat.le_of_not_lt hl]
    ·simp[List.getD,List.getElem?_set_ne hs];omega
  rw[List.length_cons];omega
def Fi:(List.replicate n (0:Int)).getD s 0=0:=by
 rw[getD_eq_getElem?_getD,List.getElem?_replicate];split<;>rfl
def Qxt:0<=(lM l).getD s 0/\(lM l).getD s 0<=l.length:=by
 have:=Qmd (fun m:Mp=>m.s.toNat) (fun _=>false) l s (List.replicate 8 0);rw[Fi,Int.zero_add]at this;have e:lM l=l.foldl (fun u b=>if (fun _:Mp=>false) b=true then u else u.set ((fun m:Mp=>m.s.toNat) b) (u.getD ((fun m:Mp=>m.s.toNat) b) 0+1)) (List.replicate 8 0):=rfl;rw[e];exact ⟨this.2,this.1⟩
def Xdw (l:List Int)(s:Nat):0<=(Uf l).getD s 0/\(Uf l).getD s 0<=l.length:=by
 have:=Qmd (fun o:Int=>(o-1).toNat) (fun o=>o==0) l s (List.replicate 8 0);rw[Fi,Int.zero_add]at this;have e:Uf l=l.foldl (fun u b=>if (fun o:Int=>o==0) b=true then u else u.set ((fun o:Int=>(o-1).toNat) b) (u.getD ((fun o:Int=>(o-1).toNat) b) 0+1)) (List.replicate 8 0):=by
  unfold Uf;congr 1;funext u o;simp
 rw[e];exact ⟨this.2,this.1⟩
def Tb.kZ {t:Tb}(h:t.wf){a k:Nat}(ha:a<3)(hk:k<6):t.enc.getD (a*6+k) .any=.int .i64 (t.ai.ow a k):=by
 have e:=Z9 t.ai h.ai a k ha hk;unfold Tb.enc Tb.hd;rw[append_assoc,getD_eq_getElem?_getD,List.getElem?_append_left (by rw[aq.au h.ai];omega),<- getD_eq_getElem?_getD];exact e
open Classical in
def Fj {t:Tb}(h:dx t):Zp t=true:=decide_eq_true h
open Classical in
def CJ {t:Tb}(h:¬ dx t):Zp t=false:=decide_eq_false h
def Jv {p s i:Int}(h:Yr p s i=true):(p=1\/p=6\/p=17)/\(0<=s/\s<8)/\(0<=i/\i<=65535):=by
 unfold Yr at h;simp at h;omega
def Xr1 {port:Int}(h:Yo port=true):0<=Xc port/\Xc port<6/\(1024<=port/\port<1072):=by
 have h':=h;unfold Yo at h';simp at h';unfold Xc;rw[am h];omega
set_option maxRecDepth 20000 in
def Fk (t:Tb)(ht:t.ok):PS Tryz.prog gl 52 [.agg t.enc] (.bool (Zp t)):=by
 refine CH.ps (ap rfl) (by simp[Qe]) fun c hN hg=>?_
 conv in aG _ _=>cbv
 have e2:=Tb.au ht.wf;have e3:=Tb.b6 ht.wf;have e4:=Tb.dw ht.wf;have hG:=KF c.gl t.ai ht.wf.ai;have aD:=Yl t.maps;have hlen:=ht.len;by_cases aV:t.ai.bO=true;rotate_left
 ·have hr:=CJ (t:=t) fun h=>aV h.ai;have aV:t.ai.bO=false:=by simpa using aV
  rw[aV]at hG;refine Qd (An @e2 @e4) ?_;refine Qk hG (An @e2 @e4) ?_;refine Yc ?_;exact Qi @hr
 rw[aV]at hG;refine Qd (An @e2 @e4) ?_;refine Qk hG (An @e2 @e4) ?_;refine Yc ?_;refine Qd (An @e2 @e3) ?_
 refine Qu (fun k:Nat=>k≤t.maps.length∧(∀ i (h:i < t.maps.length),i < k→Uk t t.maps[i])∧(∀ i j (hi:i < t.maps.length) (hj:j < i),i < k→Yq t.maps[i] (t.maps[j]'af)=false))
  (fun k=>⟨[(1,.ptr 0 0),(3,.ptr 1 0),(4,.ptr 2 0),(23,.isl t.maps.length (bH t.maps)),(24,.int .i64 t.maps.length),(25,.int .i64 k)],[(0,.cells t.enc),(1,.cells (Zu (qs (t.maps.take k)))),(2,.cells (Ql (lM (t.maps.take k))))],3⟩) (fun k=>t.maps.length-k) CH.mixed hN
  ⟨0,⟨by omega,fun i h h0=>by omega,fun i j hi hj h0=>by omega⟩,[],by (refine XG ?_;((try with_reducible and_intros);all_goals try first|refine zm ?_|exact CL))<;>exact rfl⟩ fun k hI=>?_
 obtain ⟨hk,aS,CK⟩:=id hI;clear hI;have PJ:=Xs6 (t.maps.take k);have uf:=Xte (t.maps.take k);refine Qa ?_;refine Qb ?_ ?_<;>intro h2
 ·have bh:k < t.maps.length:=by omega
  have aL:=rf t.maps k bh;have nR:=ht.bd _ (getElem_mem bh);have ec:t.maps.take (k+1)=t.maps.take k++[t.maps[k]]:=by rw[take_add_one,getElem?_eq_getElem bh];rfl
  have oU:=Xkb (t.maps.take k) t.maps[k];have ox:=Xiu (t.maps.take k) t.maps[k];have eG:=Qxt (t.maps.take k) t.maps[k].s.toNat;rw[length_take]at eG;have Fm:¬ Uk t t.maps[k]->¬ dx t:=fun h h2=>h (h2.maps k bh);have Fo:∀ j (hj:j<k),Yq t.maps[k] (t.maps[j]'af)=true->¬ dx t:=fun j hj h h2=>by
   have:=h2.apart k j bh hj;rw[h]at this;cases this
  have kG:Uk t t.maps[k]->∀ i (h:i<t.maps.length),i<k+1->Uk t t.maps[i]:=fun h i hi cO=>by
   by_cases e:i=k
   ·subst e;exact h
   ·exact aS i hi af
  have sD:(∀ j (hj:j<k),Yq t.maps[k] (t.maps[j]'af)=false)->∀ i j (hi:i<t.maps.length) (hj:j<i),i<k+1->Yq t.maps[i] (t.maps[j]'af)=false:=fun h i j hi hj cO=>by
   by_cases e:i=k
   ·subst e;exact h j hj
   ·exact CK i j hi hj af
  have PL:=Lib.hid Fm;have HAP:=Lib.hid Fo;have PM:=Lib.hid kG;have PN:=Lib.hid sD;clear Fm Fo kG sD aS CK;generalize BO:t.maps[k]=m at *
  obtain ⟨mp,ms,mi,ma,mt⟩:=m;obtain ⟨_,_,_,_,fO⟩:=nR;dsimp only at fO eG;have hB:=KJ c.gl mt fO;have hK:=PF c.gl mp ms mi;unfold lL at hB;simp only[Mp.enc]at aL;by_cases bX:Yr mp ms mi=true/\Yo mt=true/\0<=ma/\ma<3;rotate_left
  ·have eE:=CJ (PL.out fun h=>bX ⟨h.1.1,h.1.2.1,h.1.2.2.1,h.1.2.2.2⟩);have hb:(!Yr mp ms mi || !Yo mt||decide (ma<0)||decide (3<=ma))=true:=by
    cases h1:Yr mp ms mi
    ·rfl
    ·cases h2:Yo mt
     ·rfl
     ·have:ma<0\/3<=ma:=by
       have:¬ (0<=ma/\ma<3):=fun h=>bX ⟨h1,h2,h⟩;omega
      simpa using this
   refine Qd (An @aD @aL) ?_;refine Qk hB (An @aD @aL) ?_;refine Qk hK (An @aD (An @aL @hb)) ?_;refine Yc ?_;exact Qi @eE
  obtain ⟨oZ,hk2,xE,ha1⟩:=bX;obtain ⟨_,⟨fL,iZ⟩,_⟩:=Jv oZ;obtain ⟨xf,eM,_⟩:=Xr1 hk2;have bX:ud t ⟨mp,ms,mi,ma,mt⟩:=⟨oZ,hk2,xE,ha1⟩
  rw[oZ]at hK;rw[hk2,am rfl]at hB;obtain ⟨S,rfl⟩:=Int.eq_ofNat_of_zero_le fL;obtain ⟨A,rfl⟩:=Int.eq_ofNat_of_zero_le xE;obtain ⟨Bk,CM⟩:=Int.eq_ofNat_of_zero_le xf;have jb:S<8:=by omega
  have ug:A<3:=by omega
  have PO:Bk<6:=by omega
  have eh:=Tb.dR ht.wf jb;have eo:=Tb.kZ ht.wf ug PO;have Ab:Uk t ⟨mp,S,mi,A,mt⟩ ↔ t.aT S=(A:Int)+1/\t.ai.ow A Bk=(S:Int)+1:=by
   unfold Uk;dsimp only;rw[Int.toNat_natCast,Int.toNat_natCast,CM,Int.toNat_natCast];exact ⟨fun h=>h.2,fun h=>⟨bX,h⟩⟩
  have uh:Yu ⟨mp,S,mi,A,mt⟩=A*6+Bk:=by
   unfold Yu;dsimp only;rw[CM,Int.toNat_natCast,Int.toNat_natCast]
  rw[uh]at oU;dsimp only at ox;rw[Int.toNat_natCast]at ox eG;rw[CM]at hB;clear bX uh fO;generalize hUU:qs (t.maps.take k)=U at *
  generalize hMM:lM (t.maps.take k)=M at *
  generalize oy:t.aT S=ho at *
  generalize gM:t.ai.ow A Bk=ow at *
  generalize (mt-1024)%8=q at *
  refine Qd (An @aD @aL) ?_;refine Qk hB (An @aD @aL) ?_;refine Qk hK (An @aD (An @aL (An @e2 (An @eh @eo)))) ?_;refine Qb ?_ ?_<;>intro h3
  ·have eE:=CJ (PL.out fun h=>by have:=Ab.1 h;omega);exact Qi @eE
  have PQ:=Ab.2 ⟨by omega,by omega⟩;clear PL Ab;have hmg:(Ql M).getD S .any=.int .i64 (M.getD S 0):=BU af;have py:=ZT t.maps k af;refine Qd (An @e3 (An @aD (An @PJ (An @uf @hmg)))) ?_
  refine Qu (fun j:Nat=>j≤k∧∀ i (hi:i < k),i < j→Yq ⟨mp,S,mi,A,mt⟩ (t.maps[i]'af)=false)
   (fun j=>⟨[(1,.ptr 0 0),(3,.ptr 1 0),(4,.ptr 2 0),(6,.ptr 3 0),(23,.isl t.maps.length (bH t.maps)),(24,.int .i64 t.maps.length),(25,.int .i64 k),(98,.isl k (bH (t.maps.take k))),(99,.int .i64 k),(100,.int .i64 j)],[(0,.cells t.enc),(1,.cells (Zu (U.set (A*6+Bk) true))),(2,.cells (Ql (M.set S (M.getD S 0+1)))),(3,.cells [.int .i64 mp,.int .i64 S,.int .i64 mi,.int .i64 A,.int .i64 mt])],4⟩) (fun j=>k-j) CH.mixed hN
   ⟨0,⟨by omega,fun i h h0=>by omega⟩,[],by exact Qi (An @Nat.sub_zero @py)⟩ fun j hJ=>?_
  obtain ⟨hj,br⟩:=id hJ;clear hJ;refine Qa ?_;refine Qb ?_ ?_<;>intro h4
  ·have tG:j < k:=by omega
   have mH:=rf (t.maps.take k) j (by rw[length_take];omega);rw[List.getElem_take]at mH;have Ad:(bH (t.maps.take k)).length=k*5:=by rw[Yl,length_take,Nat.min_eq_left af]
   have eE:=fun h=>CJ (HAP.out j tG h);have Fp:Yq ⟨mp,S,mi,A,mt⟩ (t.maps[j]'af)=false->∀ i (hi:i<k),i<j+1->Yq ⟨mp,S,mi,A,mt⟩ (t.maps[i]'af)=false:=fun h i hi fX=>by
    by_cases e:i=j
    ·subst e;exact h
    ·exact br i hi af
   have HB:=Lib.hid eE;have HN:=Lib.hid Fp;clear eE Fp br;generalize t.maps[j]=o at *
   obtain ⟨op,os,oi,oa,ot⟩:=o;unfold Yq at HB HN;simp only[Mp.enc]at mH;dsimp only at HB HN;generalize hKL:(op==mp&&(oa==(A:Int)&&ot==mt||os==(S:Int)&&oi==mi))=kl at *
   (have aQ:=@Ad;have bw:=@mH;have bQ:=@hKL;refine XG ?_;clear aQ bw bQ;((try with_reducible and_intros);all_goals try first|refine zm ?_|exact CL))
   ·intro h1 h2;rw[h1,h2];rfl
   refine Qb ?_ ?_<;>intro h5
   ·exact Qi (HB.out h5)
   ·refine Qa ?_;refine ⟨j+1,⟨by omega,HN.out h5⟩,⟨[],?_⟩,by omega⟩;exact Qp
  ·have:j=k:=by omega
   subst this;refine Qa ?_;refine ⟨j+1,⟨by omega,PM.out PQ,PN.out fun i hi=>br i hi hi⟩,⟨[],?_⟩,by omega⟩;exact Qi (An @ec (An @oU @ox))
 ·have:k=t.maps.length:=by omega
  subst this;have kG:∀ i (h:i<t.maps.length),Uk t t.maps[i]:=fun i h=>aS i h h;have sD:∀ i j (hi:i<t.maps.length) (hj:j<i),Yq t.maps[i] (t.maps[j]'af)=false:=fun i j hi hj=>CK i j hi hj hi;clear aS CK;rw[take_length]at PJ uf;have dN:t.maps.take t.maps.length=t.maps:=take_length;have eG:=Qxt t.maps;have en:(∀ i,i<18->(t.ai.own.getD i 0 != 0)=(qs t.maps).getD i false)->(∀ s,s<8->(Uf t.ai.own).getD s 0<=2/\(lM t.maps).getD s 0<=12/\((t.aT s != 0)=decide (0<(Uf t.ai.own).getD s 0)))->dx t:=fun a b=>⟨aV,kG,sD,a,b⟩
  have eM:∀ i,i<18->¬ ((t.ai.own.getD i 0 != 0)=(qs t.maps).getD i false)->¬ dx t:=fun i hi h h2=>h (h2.used i hi);have hb2:∀ s,s<8->¬ ((Uf t.ai.own).getD s 0<=2/\(lM t.maps).getD s 0<=12/\((t.aT s != 0)=decide (0<(Uf t.ai.own).getD s 0)))->¬ dx t:=fun i hi h h2=>h (h2.qt i hi);have PR:=Lib.hid en;have HB1:=Lib.hid eM;have HB2:=Lib.hid hb2;clear en eM hb2 kG sD;have e5:t.enc.take 18=Ql t.ai.own:=by
   have h1:=Py t.ai ht.wf.ai;rw[<- e4,List.take_take]at h1;exact h1
  have qU:=ht.wf.ai.own;refine Qd (An @dN (An @e2 @e5)) ?_;generalize hUU:qs t.maps=U at *
  generalize hMM:lM t.maps=M at *
  refine Qu (fun a:Nat=>a≤3∧∀ i,i < a * 6→(t.ai.own.getD i 0 != 0)=U.getD i false)
   (fun a=>⟨[(1,.ptr 0 0),(3,.ptr 1 0),(4,.ptr 2 0),(12,.ptr 3 0),(141,.agg (Ql t.ai.own)),(142,.int .i64 a)],[(0,.cells t.enc),(1,.cells (Zu U)),(2,.cells (Ql M)),(3,.cells (Ql (Uf (t.ai.own.take (a*6)))))],4⟩) (fun a=>3-a) CH.mixed hN
   ⟨0,⟨by omega,fun i h=>by omega⟩,[],by refine Qa ?_<;>exact rfl⟩ fun a hI=>?_
  obtain ⟨ha,oU⟩:=id hI;clear hI;refine Qa ?_;refine Qb ?_ ?_<;>intro h3
  ·have jD:a < 3:=by omega
   have hr:=Pz t.ai a;have fH:=Zk t.ai ht.wf.ai a jD;refine Qd (An @hr @qU) ?_
   refine Qu (fun k:Nat=>k≤6∧∀ i,i < a * 6 + k→(t.ai.own.getD i 0 != 0)=U.getD i false)
    (fun k=>⟨[(1,.ptr 0 0),(3,.ptr 1 0),(4,.ptr 2 0),(12,.ptr 3 0),(13,.int .i64 a),(141,.agg (Ql t.ai.own)),(142,.int .i64 a),(146,.agg (Ql (t.ai.row a))),(147,.int .i64 k)],[(0,.cells t.enc),(1,.cells (Zu U)),(2,.cells (Ql M)),(3,.cells (Ql (Uf (t.ai.own.take (a*6+k)))))],4⟩) (fun k=>6-k) CH.mixed hN
    ⟨0,⟨by omega,fun i h=>oU i af⟩,[],by exact Qi @Nat.add_zero⟩ fun k hJ=>?_
   obtain ⟨hk,qu⟩:=id hJ;clear hJ;refine Qa ?_;refine Qb ?_ ?_<;>intro h4
   ·have fg:k < 6:=by omega
    have sE:a*6+k<18:=by omega
    have hv:=xC t.ai a k fg;have hog:=aq.kX t.ai aV a k;have eE:=HB1.out (a*6+k) sE;have hsn:=Xmq (t.ai.own.take (a*6+k)) (t.ai.ow a k);have ec:t.ai.own.take (a*6+k+1)=t.ai.own.take (a*6+k)++[t.ai.ow a k]:=by
     rw[take_add_one,getElem?_eq_getElem (by rw[qU];exact sE)];unfold aq.ow;rw[getD_eq_getElem?_getD,getElem?_eq_getElem (by rw[qU];exact sE)];rfl
    have hbl:=Qvn (t.ai.own.take (a*6+k));have BB:=Xdw (t.ai.own.take (a*6+k)) (t.ai.ow a k-1).toNat;have PT:(t.ai.own.take (a*6+k)).length=a*6+k:=by rw[length_take,qU];omega
    have Ae:(t.ai.own.getD (a*6+k) 0 != 0)=U.getD (a*6+k) false->∀ i,i<a*6+(k+1)->(t.ai.own.getD i 0 != 0)=U.getD i false:=fun h i hi=>by
     by_cases e:i=a*6+k
     ·subst e;exact h
     ·exact qu i af
    have gM:t.ai.own.getD (a*6+k) 0=t.ai.ow a k:=rfl;rw[gM]at eE Ae;rw[<- ec]at hsn;rw[PT]at BB;have HBD:=Lib.hid eE;have HU3:=Lib.hid Ae;clear eE Ae qu oU gM ec;generalize Uf (t.ai.own.take (a*6+k))=W at *
    generalize qe:Uf (t.ai.own.take (a*6+k+1))=W2 at *
    generalize t.ai.ow a k=o at *
    have hxu:∀ x,U.getD (a*6+k) false=x->(Zu U).getD (a*6+k) .any=.bool x:=fun x e=>by rw[<- e];exact Nu af
    have hug:=hxu _ rfl;generalize U.getD (a*6+k) false=u at *
    refine Qd (An @fH (An @PJ (An @hv @hug))) ?_;refine Qb ?_ ?_<;>intro h5
    ·exact Qi (CJ (HBD.out h5))
    have h6:=HU3.out (by simpa using h5);clear HBD HU3;refine Qa ?_;have lN:a*6+(k+1)=a*6+k+1:=by omega
    refine Qb ?_ ?_<;>intro h7
    ·rw[aa h7]at hsn;obtain ⟨N,xd⟩:=Int.eq_ofNat_of_zero_le (show 0≤o - 1 by omega);have hN8:N < 8:=by omega
     rw[xd,Int.toNat_natCast]at hsn BB;have hwg:(Ql W).getD N .any=.int .i64 (W.getD N 0):=BU af;refine Qd (An @xd (An @hbl @hwg)) ?_;refine ⟨k+1,⟨by omega,h6⟩,⟨[],?_⟩,by omega⟩;exact Qi (An @lN (An @qe @hsn))
    ·rw[am af]at hsn;refine Qa ?_;refine ⟨k+1,⟨by omega,h6⟩,⟨[],?_⟩,by omega⟩;exact Qi (An @lN (An @qe @hsn))
   ·have:k=6:=by omega
    subst this;refine Qa ?_;refine ⟨a+1,⟨by omega,fun i hi=>qu i af⟩,⟨[],?_⟩,by omega⟩;have e6:(a+1)*6=a*6+6:=by omega
    exact Qi @e6
  ·have:a=3:=by omega
   subst this;have e7:t.ai.own.take (3*6)=t.ai.own:=take_of_length_le af;have nR:=Xdw t.ai.own;have hbl:=Qvn t.ai.own;have qu:∀ i,i<18->(t.ai.own.getD i 0 != 0)=U.getD i false:=fun i h=>oU i af;have Fq:=PR.out qu;have PR:=Lib.hid Fq;clear Fq oU qu HB1 hUU hMM;rw[qU]at nR;generalize hWW:Uf t.ai.own=W at *
   have oy:∀ s,s<8->t.enc.getD (21+s) .any=.int .i64 (t.aT s):=fun s hs=>Tb.dR ht.wf hs;refine Qd (An @e7 @hWW) ?_
   refine Qu (fun s:Nat=>s≤8∧∀ i,i < s→(W.getD i 0≤2∧M.getD i 0≤12∧(t.aT i != 0)=decide (0 < W.getD i 0)))
    (fun s=>⟨[(1,.ptr 0 0),(3,.ptr 1 0),(4,.ptr 2 0),(12,.ptr 3 0),(169,.int .i64 s)],[(0,.cells t.enc),(1,.cells (Zu U)),(2,.cells (Ql M)),(3,.cells (Ql W))],4⟩) (fun s=>8-s) CH.mixed hN
    ⟨0,⟨by omega,fun i h=>by omega⟩,[],by exact Qp⟩ fun s hI=>?_
   obtain ⟨hs,ui⟩:=id hI;clear hI;refine Qa ?_;refine Qb ?_ ?_<;>intro h4
   ·have lO:s < 8:=by omega
    have eE:=fun h=>CJ (HB2.out s lO h);have Fs:(W.getD s 0<=2/\M.getD s 0<=12/\(t.aT s != 0)=decide (0<W.getD s 0))->∀ i,i<s+1->(W.getD i 0<=2/\M.getD i 0<=12/\(t.aT i != 0)=decide (0<W.getD i 0)):=fun h i hi=>by
     by_cases e:i=s
     ·subst e;exact h
     ·exact ui i af
    have HB:=Lib.hid eE;have HN:=Lib.hid Fs;clear eE Fs ui;have hw:(Ql W).getD s .any=.int .i64 (W.getD s 0):=BU af;have hm:(Ql M).getD s .any=.int .i64 (M.getD s 0):=BU af;have hh:=oy s lO;have eM:=nR s;have hb2:=eG s;generalize W.getD s 0=x at *
    generalize M.getD s 0=y at *
    generalize t.aT s=z at *
    refine Qd (An @hw (An @hm (An @hh (An @hbl (An @uf @e2))))) ?_;refine Qb ?_ ?_<;>intro h5
    ·have h6:¬(x<=2/\y<=12/\(z != 0)=decide (0<x)):=fun ⟨p,q,r⟩=>h5.elim (fun h=>by omega) (fun h=>h r);exact Qi (HB.out h6)
    ·obtain ⟨⟨h6,h7⟩,h8⟩:=h5;refine Qa ?_;refine ⟨s+1,⟨by omega,HN.out ⟨by omega,by omega,h8⟩⟩,⟨[],?_⟩,by omega⟩;exact Qp
   ·have:s=8:=by omega
    subst this;exact Qi (Fj (PR.out ui))
def Xib:Tryz.prog.underlying 37=some (.slice 69):=by kernel_rfl
def PU {c:Cx}{ne:Bool}{x:TV}{v:AV}{b:Bool}(hb:zw v=some b):Eo Tryz.prog c (.cA ne 37) [x,.c .nils] [v,.nils] (.bool (ne != b)):=Xws Xib hb
def Xyy (cap:Nat):GS Tryz.prog gl 64 [.lit (.slice none 0 cap)] [] 0 .nils [] 0:=by
 refine Pw.gs (ap rfl) aw fun c hN hg=>?_
 conv in aG _ _=>cbv
 refine Qa ?_;refine Oc ?_ (PU (b:=true) (show zw (.lit (.slice none 0 cap))=some true from rfl)) ?_
 ·exact Qp
 refine Qa ?_;refine Yc ?_;refine Qa ?_;exact ⟨[],by exact Qp⟩
def Xfr (a:Addr)(cap:Nat):GS Tryz.prog gl 64 [.lit (.slice (some a) 0 cap)] [] 0 (.sl 5 0 0 0 0) [(0,.cells [])] 1:=by
 refine Pw.gs (ap rfl) aw fun c hN hg=>?_
 conv in aG _ _=>cbv
 refine Qa ?_;refine Oc ?_ (PU (b:=false) (show zw (.lit (.slice (some a) 0 cap))=some false from rfl)) ?_
 ·exact Qp
 refine Qa ?_;refine Yc ?_;refine Qa ?_;refine Qk WE @List.length_nil.{0} ?_;refine Jx ?_;refine ⟨[(0,0)],?_⟩;exact Qp
def Qy4 (hn:l.length<=1000000):GS Tryz.prog gl 64 [.isl l.length (bH l)] [] 0 (.sl 5 0 0 l.length l.length) [(0,.cells (bH l))] 1:=by
 have hl:=Yl l;cases l with
 | nil=>exact GS.empty (Xyy gl) (Xfr gl)
 | cons x l =>
 have hnq:zw (.isl (x::l).length (bH (x::l)))=some false:=rfl;generalize x::l=l at *
 refine Pw.gs (ap rfl) aw fun c hN hg=>?_
 conv in aG _ _=>cbv
 refine Qa ?_;refine Oc ?_ (PU (b:=false) hnq) ?_
 ·exact Qp
 refine Qa ?_;refine Yc ?_;refine Qa ?_;refine Xd WE ?_;refine Ym @hl ?_;refine ⟨[(0,0)],?_⟩;exact Qp
def Tb.jc {t:Tb}(h:t.wf)(x:AV):t.enc.set 29 x=t.hd++[x]:=by
 unfold Tb.enc;rw[set_append_right _ _ (by rw[Tb.bU h];exact Nat.le_refl _),Tb.bU h];rfl
def Tb.oz (t:Tb)(h:t.wf)(x:AV):(t.hd++[x]).length=30:=by simp[Tb.bU h]
def Tb.add (t:Tb)(m:Mp):Tb:={ t with maps:=t.maps++[m] }
def Xr (t:Tb)(m:Mp)(b:Bool)(e:Int):AV:=.aR [.agg t.enc,.agg m.enc,.bool b,.int .i64 e]
def PV (t:Tb)(ht:t.wf)(hl:t.maps.length<=100000)(m:Mp)(b:Bool):PS Tryz.prog gl 127 [.agg t.enc,.agg m.enc,.bool b] (Xr (t.add m) m b 0):=by
 refine Yci.ps (ap rfl) (by simp[Qe,ah,Xr,Tb.cg,Mp.enc]) fun c hN hg=>?_
 conv in aG _ _=>cbv
 have e2:=Tb.au ht;have e3:=Tb.b6 ht;have aD:=Yl t.maps;have hs:=Tb.jc ht;have iW:=Tb.oz t ht;unfold Mp.enc;refine Qd (An @e2 @e3) ?_
 (have zC:=(Qy4 c.gl t.maps af);refine Zv (ip []) zC (An @e2 @e3) ?_;clear zC)
 refine Jx ?_;refine Ym @aD ?_;refine Qd (An @hs (An @e2 @iW)) ?_;have hq:Xr (t.add m) m b 0=.aR [.agg (t.hd++[.isl (t.maps.length+1) (bH t.maps++[.int .i64 m.ae,.int .i64 m.s,.int .i64 m.aF,.int .i64 m.a,.int .i64 m.port])]),.agg [.int .i64 m.ae,.int .i64 m.s,.int .i64 m.aF,.int .i64 m.a,.int .i64 m.port],.bool b,.int .i64 0]:=by
  rw[CG];simp[Xr,Tb.add,Tb.enc,Tb.hd,Mp.enc]
 have ec:(bH t.maps++[AV.int .i64 m.ae,.int .i64 m.s,.int .i64 m.aF,.int .i64 m.a,.int .i64 m.port]).take ((t.maps.length+1)*5)=bH t.maps++[.int .i64 m.ae,.int .i64 m.s,.int .i64 m.aF,.int .i64 m.a,.int .i64 m.port]:=take_of_length_le (by simp[Yl];omega);rw[hq,map_append];exact Qi @ec
theorem KL (t:Tb)(m:Mp)(b:Bool)(e:Int)(n:Nat):Qe n (Xr t m b e)=True:=by simp[Qe,ah,Xr,Tb.cg,Mp.enc]
theorem Qys (t:Tb)(m:Mp)(b:Bool)(e:Int)(ρ:Nat->Nat):aA ρ (Xr t m b e)=Xr t m b e:=by simp[aA,ay,Xr,Tb.dt,Mp.enc]
attribute [go_sem] KL Qys
def Af (t:Tb)(ht:t.wf)(e:Int):GS Tryz.prog gl 125 [.int .i64 e,.ptr 0 0] [(0,.cells t.enc)] 1 (Xr t cM false e) [(0,.cells t.enc)] 1:=by
 refine Xg3.gs (ap rfl) (by simp[Bk.live]) fun c hN hg=>?_
 conv in aG _ _=>cbv
 have e2:=Tb.au ht;refine Qd @e2 ?_;refine ⟨[],?_⟩;refine Qa ?_;rfl
def Tb.gN {t:Tb}(h:t.wf){p:aq}(hp:p.wf):Yj t.enc 0 p.enc=(⟨p,t.home,t.maps⟩:Tb).enc:=by
 unfold Yj Tb.enc Tb.hd;rw[List.take_zero,nil_append,aq.au hp,append_assoc,append_assoc,Nat.zero_add,<- aq.au h.ai,List.drop_left]
def Tb.gO {t:Tb}(h:t.wf){s:Nat}(hs:s<8)(x:Int):t.enc.set (21+s) (.int .i64 x)=(⟨t.ai,t.home.set s x,t.maps⟩:Tb).enc:=by
 unfold Tb.enc Tb.hd;rw[append_assoc,set_append_right _ _ (by rw[aq.au h.ai];omega),aq.au h.ai,show 21+s-21=s by omega,List.set_append_left _ _ (by rw[Xw,h.home];exact hs),append_assoc];simp[Ql,map_set]
def Yb (l:List Mp)(s:Int):Nat:=l.countP fun m=>m.s==s
def Zn (k:Nat):List Int:=(List.range 8).map fun (i:Nat)=>1024+(k:Int)*8+(i:Int)
def mI (t:Tb)(ae a port:Int):Bool:=(t.maps.find? (Ja ae a port)).isNone
def Jl (t:Tb)(ae a:Int)(l:List Nat):Option Int:=(l.flatMap Zn).find? (mI t ae a)
def Js (t:Tb)(s:Nat):List Nat:=if 1<=t.aT s then Zl t s 6 else []
def Tb.tk (t:Tb)(ae s aF a draw:Int):Tb×Mp×Bool×Int :=
 if (t.ai.take s a draw).2.2≠0 then (t,cM,false,(t.ai.take s a draw).2.2) else
 (Tb.add ⟨(t.ai.take s a draw).1,t.home.set s.toNat (a+1),t.maps⟩ ⟨ae,s,aF,a,1024+(t.ai.take s a draw).2.1*8⟩,⟨ae,s,aF,a,1024+(t.ai.take s a draw).2.1*8⟩,true,0)
noncomputable def Tb.ca (t:Tb)(ae s aF draw:Int):Tb×Mp×Bool×Int :=
 if Zp t=false\/Yr ae s aF=false then (t,cM,false,2) else
 match t.maps.find? (Xz ae s aF) with
 | some m=>(t,m,false,0)
 | none =>
  if 12<=Yb t.maps s then (t,cM,false,6) else
  match Jl t ae (t.aT s.toNat-1) (Js t s.toNat) with
  | some port=>(t.add ⟨ae,s,aF,t.aT s.toNat-1,port⟩,⟨ae,s,aF,t.aT s.toNat-1,port⟩,false,0)
  | none =>
   if 2<=(Js t s.toNat).length then (t,cM,false,6) else
   if 1<=t.aT s.toNat then t.tk ae s aF (t.aT s.toNat-1) draw else
   if (t.ai.pick draw).2≠0 then (t,cM,false,(t.ai.pick draw).2) else t.tk ae s aF (t.ai.pick draw).1 draw
def Ww (x:Tb×Mp×Bool×Int):AV:=Xr x.1 x.2.1 x.2.2.1 x.2.2.2
set_option maxRecDepth 20000 in
def Xqp (t:Tb)(ht:t.ok)(ae s aF draw:Int)(h:Zp t=false\/Yr ae s aF=false):PS Tryz.prog gl 89 [.agg t.enc,.int .i64 ae,.int .i64 s,.int .i64 aF,.int .i64 draw] (Xr t cM false 2):=by
 refine CI.ps (ap rfl) (by simp[KL]) fun c hN hg=>?_
 conv in aG _ _=>cbv
 have e2:=Tb.au ht.wf;have hG:=Fk c.gl t ht;have hK:=PF c.gl ae s aF;by_cases aV:Zp t=true
 ·rw[aV]at hG;have hk:Yr ae s aF=false:=h.resolve_left (by rw[aV];simp);rw[hk]at hK;refine Qd @e2 ?_;refine Qk hG @e2 ?_;refine Qk hK @e2 ?_;refine Yc ?_;refine Qa ?_;exact Ka (ip [0]) (Af c.gl t ht.wf 2) (An @e2 (An @Xr.eq_1 (An @Mp.enc.eq_1 @cM.eq_1)))
 ·have aV:Zp t=false:=by simpa using aV
  rw[aV]at hG;refine Qd @e2 ?_;refine Qk hG @e2 ?_;refine Xy ?_;refine Yc ?_;refine Qa ?_;exact Ka (ip [0]) (Af c.gl t ht.wf 2) (An @e2 (An @Xr.eq_1 (An @Mp.enc.eq_1 @cM.eq_1)))
def Qmv {β:Type}(ix:β->Nat)(skip:β->Bool)(l:List β)(s:Nat):∀ u:List Int,s<u.length->(l.foldl (fun u b=>if skip b=true then u else u.set (ix b) (u.getD (ix b) 0+1)) u).getD s 0=u.getD s 0+l.countP (fun b=>!skip b&&ix b==s):=by
 induction l with
 | nil=>intro u _;simp
 | cons b l ih =>
  intro u hu;rw[foldl_cons,ih _ (by split<;>simpa using hu),countP_cons];by_cases hk:skip b=true
  ·simp[hk]
  ·have hk:skip b=false:=by simpa using hk
   by_cases hs:ix b=s
   ·subst hs;simp[hk,List.getD,hu];omega
   ·simp[hk,hs,List.getD,List.getElem?_set_ne hs]
def Qy2 (hs:s<8):(lM l).getD s 0=l.countP (fun m=>m.s.toNat==s):=by
 have h:=Qmv (fun m:Mp=>m.s.toNat) (fun _=>false) l s (List.replicate 8 0) (by simpa using hs);rw[Fi,Int.zero_add]at h;have e:lM l=l.foldl (fun u b=>if (fun _:Mp=>false) b=true then u else u.set ((fun m:Mp=>m.s.toNat) b) (u.getD ((fun m:Mp=>m.s.toNat) b) 0+1)) (List.replicate 8 0):=rfl;rw[e,h];simp
def Xde (l:List Int)(s:Nat)(hs:s<8):(Uf l).getD s 0=l.countP (fun o=>!(o==0)&&(o-1).toNat==s):=by
 have h:=Qmv (fun o:Int=>(o-1).toNat) (fun o=>o==0) l s (List.replicate 8 0) (by simpa using hs);rw[Fi,Int.zero_add]at h;have e:Uf l=l.foldl (fun u b=>if (fun o:Int=>o==0) b=true then u else u.set ((fun o:Int=>(o-1).toNat) b) (u.getD ((fun o:Int=>(o-1).toNat) b) 0+1)) (List.replicate 8 0):=by
  unfold Uf;congr 1;funext u o;simp
 rw[e,h]
def PW (hi:i<18):(qs l).getD i false=l.any (fun m=>Yu m==i):=by
 suffices h:∀ (l:List Mp) (u:List Bool),i<u.length->(l.foldl (fun u m=>u.set (Yu m) true) u).getD i false=(u.getD i false||l.any (fun m=>Yu m==i)) by
  have:=h l (List.replicate 18 false) (by simpa using hi);unfold qs;rw[this];have e:(List.replicate 18 false).getD i false=false:=by rw[getD_eq_getElem?_getD,List.getElem?_replicate,am hi];rfl
  rw[e,Bool.false_or]
 intro l
 induction l with
 | nil=>intro u _;simp
 | cons m l ih =>
  intro u hu;rw[foldl_cons,ih _ (by simpa using hu),any_cons];by_cases hm:Yu m=i
  ·subst hm;simp[List.getD,hu]
  ·have e:(Yu m == i)=false:=by simpa using hm
   simp[List.getD,List.getElem?_set_ne hm,e]
def vG (t:Tb):Zp t=true ↔ dx t:=by unfold Zp;simp
def Xqs {t:Tb}(h:dx t){i:Nat}(hi:i<18)(ho:t.ai.own.getD i 0≠0):∃ m ∈ t.maps,Uk t m/\Yu m=i/\t.ai.own.getD i 0=m.s+1/\0<=m.s/\m.s<8:=by
 have h1:=h.used i hi;rw[PW _ _ hi]at h1;have h2:(t.ai.own.getD i 0 != 0)=true:=by simpa using ho
 rw[h2]at h1;obtain ⟨m,hm,he⟩:=List.any_eq_true.1 h1.symm;have he:Yu m=i:=by simpa using he
 obtain ⟨k,hk,rfl⟩:=getElem_of_mem hm;have aS:=h.maps k hk;obtain ⟨_,⟨h3,h4⟩,_⟩:=Jv aS.1.1;refine ⟨_,hm,aS,he,?_,h3,h4⟩;have:=aS.2.2;unfold aq.ow at this;rw[<- this];congr 1;rw[<- he];rfl
def Tb.jE {t:Tb}(h:dx t)(hw:t.wf){s:Nat}(hs:s<8):0<=t.aT s/\t.aT s<=3:=by
 by_cases h0:t.aT s=0
 ·omega
 have h1:=(h.qt s hs).2.2;rw[Xde _ _ hs]at h1;have h2:(t.aT s != 0)=true:=by simpa using h0
 rw[h2]at h1;have h3:=ap h1.symm;have h3:0<t.ai.own.countP (fun o=>!(o==0)&&(o-1).toNat==s):=by omega
 obtain ⟨o,ho,hp⟩:=List.countP_pos_iff.1 h3;obtain ⟨i,hi,rfl⟩:=getElem_of_mem ho;have sE:i<18:=by have:=hw.ai.own;omega
 have aV:t.ai.own.getD i 0=t.ai.own[i]:=by rw[getD_eq_getElem?_getD,getElem?_eq_getElem hi];rfl
 simp at hp;obtain ⟨m,hm,aS,_,he,EW,lG⟩:=Xqs h sE (by rw[aV];exact hp.1);rw[aV]at he;have:m.s=(s:Int):=by omega
 have hh:=aS.2.1;rw[this]at hh;have ha:=aS.1.2.2;simp at hh;omega
def Xg8 (h:∀ m ∈ l,m.s.toNat<8):l.length=((List.range 8).map fun s=>l.countP fun m=>m.s.toNat==s).sum:=by
 induction l with
 | nil=>rfl
 | cons m l ih =>
  have h1:=ih fun m hm=>h m (List.mem_cons_of_mem _ hm);have h2:=h m (List.mem_cons_self ..);have e:(List.range 8)=[0,1,2,3,4,5,6,7]:=rfl;rw[e]at h1 ⊢;simp only[map_cons,map_nil,sum_cons,sum_nil,countP_cons,List.length_cons]at h1 ⊢;generalize m.s.toNat=q at *
  rcases (by omega:q=0\/q=1\/q=2\/q=3\/q=4\/q=5\/q=6\/q=7) with rfl|rfl|rfl|rfl|rfl|rfl|rfl|rfl<;>simp<;>omega
def xF {t:Tb}(h:dx t):t.maps.length<=96:=by
 have hs:∀ m ∈ t.maps,m.s.toNat<8:=fun m hm=>by
  obtain ⟨k,hk,rfl⟩:=getElem_of_mem hm;obtain ⟨_,⟨h3,h4⟩,_⟩:=Jv (h.maps k hk).1.1;omega
 rw[Xg8 _ hs];have hb:∀ s,s<8->t.maps.countP (fun m=>m.s.toNat==s)<=12:=fun s hs=>by
  have:=(h.qt s hs).2.1;rw[Qy2 _ _ hs]at this;omega
 have e:(List.range 8)=[0,1,2,3,4,5,6,7]:=rfl;rw[e];simp only[map_cons,map_nil,sum_cons,sum_nil];have h0:=hb 0 af;have h1:=hb 1 af;have h2:=hb 2 af;have h3:=hb 3 af;have h4:=hb 4 af;have h5:=hb 5 af;have h6:=hb 6 af;have h7:=hb 7 af;omega
def Qu0 (h:k<l.length)(s:Int):Yb (l.take (k+1)) s=Yb (l.take k) s+(if l[k].s=s then 1 else 0):=by
 have e:l.take (k+1)=l.take k++[l[k]]:=by rw[take_add_one,getElem?_eq_getElem h];rfl
 unfold Yb;rw[e,List.countP_append];by_cases h2:l[k].s=s<;>simp[h2]
def PX (s:Int):Yb (l.take k) s<=k:=by
 unfold Yb;have:=List.countP_le_length (p:=fun m:Mp=>m.s==s) (l:=l.take k);rw[length_take]at this;omega
def eK:List AV:=[(.int .i64 0),(.int .i64 0),(.int .i64 0),(.int .i64 0),(.int .i64 0),(.int .i64 0),(.int .i64 0),(.int .i64 0),(.int .i64 0),(.int .i64 0),(.int .i64 0),(.int .i64 0),(.int .i64 0),(.int .i64 0),(.int .i64 0),(.int .i64 0),(.int .i64 0),(.int .i64 0),(.bool false),(.bool false),(.bool false),(.int .i64 0),(.int .i64 0),(.int .i64 0),(.int .i64 0),(.int .i64 0),(.int .i64 0),(.int .i64 0),(.int .i64 0),.nils]
def z5:List AV:=[(.int .i64 0),(.int .i64 0),(.int .i64 0),(.int .i64 0),(.int .i64 0)]
def Yfp:ah n eK=True:=by simp[eK,ah,Qe]
def Yiz:ah n z5=True:=by simp[z5,ah,Qe]
theorem Xwx (ρ:Nat->Nat):ay ρ eK=eK:=by simp[eK,ay,aA]
theorem Ya6 (ρ:Nat->Nat):ay ρ z5=z5:=by simp[z5,ay,aA]
theorem Xxb (s:Int):Yb [] s=0:=rfl
attribute [go_sem] Yfp Yiz Xwx Ya6 Xxb
def Xa9 (t:Tb)(ae a:Int)(r:List Int)(i:Nat)(h:i<8):((Zn k).drop i++r).find? (mI t ae a)=if mI t ae a (1024+(k:Int)*8+i)=true then some (1024+(k:Int)*8+i) else ((Zn k).drop (i+1)++r).find? (mI t ae a):=by
 have hl:i<(Zn k).length:=by simpa [Zn] using h
 rw[drop_eq_getElem_cons hl,List.cons_append,find?_cons];have e:(Zn k)[i]=1024+(k:Int)*8+i:=by simp[Zn]
 rw[e];split<;>rename_i h<;>simp[h]
def Ydi {t:Tb}{s n k:Nat}(h:k ∈ Zl t s n):k<n:=by
 unfold Zl at h;exact mem_range.1 (mem_filter.1 h).1
set_option maxRecDepth 20000 in
def Xv7 (gl:Nat->AV)(t:Tb)(ht:t.ok)(ep:dx t)(ae:Int)(S:Nat)(aF draw:Int)(bh:Yr ae S aF=true)(R:AV)(ik:Qe 0 R)
  (H1:Hid (∀ m,t.maps.find? (Xz ae S aF)=some m->R=Xr t m false 0))
  (H2:Hid (t.maps.find? (Xz ae S aF)=none->12<=Yb t.maps S->R=Xr t cM false 6))
  (H3:Hid (t.maps.find? (Xz ae S aF)=none→¬ 12≤Yb t.maps S→(∀ port,Jl t ae (t.aT S - 1) (Js t S)=some port→R=Xr (t.add ⟨ae,S,aF,t.aT S - 1,port⟩) ⟨ae,S,aF,t.aT S - 1,port⟩ false 0) ∧
   (Jl t ae (t.aT S - 1) (Js t S)=none→(2≤(Js t S).length→R=Xr t cM false 6)∧(¬ 2≤(Js t S).length→(1≤t.aT S→R=Ww (t.tk ae S aF (t.aT S - 1) draw)) ∧
    (¬ 1<=t.aT S->((t.ai.pick draw).2≠0->R=Xr t cM false (t.ai.pick draw).2)/\((t.ai.pick draw).2=0->R=Ww (t.tk ae S aF (t.ai.pick draw).1 draw))))))) :
  PS Tryz.prog gl 89 [.agg t.enc,.int .i64 ae,.int .i64 S,.int .i64 aF,.int .i64 draw] R:=by
 refine CI.ps (ap rfl) ik fun c hN hg=>?_
 conv in aG _ _=>cbv
 have e2:=Tb.au ht.wf;have e3:=Tb.b6 ht.wf;have hG:=Fk c.gl t ht;rw[Fj ep]at hG;have hK:=PF c.gl ae S aF;rw[bh]at hK;have hF:=Qwt c.gl t ht.wf ht.len ae S aF;have aD:=Yl t.maps;obtain ⟨_,⟨_,jb⟩,_⟩:=Jv bh;have jb:S<8:=by omega
 have CN:=Tb.jE ep ht.wf jb;have uf:=xF ep;have eh:=Tb.dR ht.wf jb;have uj:=Qqv c.gl t ht.wf S jb CN;cases jm:t.maps.find? (Xz ae S aF) with
 | some m =>
  have hR:=H1.out m jm;rw[jm]at hF;unfold gb at hF;subst hR;refine Qd @e2 ?_;refine Qk hG @e2 ?_;refine Qk hK @e2 ?_;refine Yc ?_;refine Qd @e2 ?_;unfold Mp.enc at hF;refine Qk hF @e2 ?_;refine Yc ?_;exact Qi (An @e2 (An @Xr.eq_1 @Mp.enc.eq_1))
 | none =>
  rw[jm]at hF;unfold gb cM Mp.enc at hF;dsimp only at hF;refine Qd @e2 ?_;refine Qk hG @e2 ?_;refine Qk hK @e2 ?_;refine Yc ?_;refine Qd @e2 ?_;refine Qk hF @e2 ?_;refine Yc ?_;refine Qd (An @e2 @e3) ?_
  refine Qu (fun k:Nat=>k≤t.maps.length)
   (fun k=>⟨[(1,.int .i64 ae),(2,.int .i64 S),(3,.int .i64 aF),(4,.int .i64 draw),(5,.ptr 0 0),(10,.ptr 1 0),(11,.ptr 2 0),(14,.cl 125 [.ptr 0 0]),(17,.int .i64 (Yb (t.maps.take k) S)),(61,.isl t.maps.length (bH t.maps)),(62,.int .i64 t.maps.length),(63,.int .i64 k)],[(0,.cells t.enc),(1,.cells eK),(2,.cells z5)],3⟩) (fun k=>t.maps.length-k) CI.mixed hN
   ⟨0,by omega,[],by exact Qi (An @eK.eq_1 @z5.eq_1)⟩ fun k hk=>?_
  refine Qa ?_;refine Qb ?_ ?_<;>intro h3
  ·have bh:k < t.maps.length:=by omega
   have aL:=rf t.maps k bh;have ox:=Qu0 t.maps k bh S;have Ag:=PX t.maps k S;generalize t.maps[k]=m at *
   obtain ⟨mp,ms,mi,ma,mt⟩:=m;simp only[Mp.enc]at aL;dsimp only at ox;refine Qd (An @aD @aL) ?_;refine Qb ?_ ?_<;>intro h4
   ·rw[am af]at ox;refine Qa ?_;refine ⟨k+1,by omega,⟨[],?_⟩,by omega⟩;exact Qi @ox
   ·rw[aa af]at ox;refine Qa ?_;refine ⟨k+1,by omega,⟨[],?_⟩,by omega⟩;exact Qi @ox
  ·have:k=t.maps.length:=by omega
   subst this;have dN:t.maps.take t.maps.length=t.maps:=take_length;rw[dN];have hmc:=PX t.maps t.maps.length S;rw[dN]at hmc;have xG:=Lib.hid (H2.out jm);have Ft:=Lib.hid (H3.out jm);clear H1 H2 H3;generalize Yb t.maps S=many at *
   refine Qa ?_;refine Qb ?_ ?_<;>intro h4
   ·have hR:=xG.out af;subst hR;refine Qa ?_;exact Ka (ip [0]) (Af c.gl t ht.wf 6) (An @e2 (An @Xr.eq_1 (An @Mp.enc.eq_1 (An @cM.eq_1 (An @eK.eq_1 @z5.eq_1)))))
   have mJ:=Lib.hid (Ft.out af);clear Ft xG;by_cases ib:1<=t.aT S
   ·have hbl:xD t S=.isl (Zl t S 6).length (Ql (eb (Zl t S 6))):=am ib;have gM:Js t S=Zl t S 6:=am ib;rw[hbl]at uj;rw[gM]at mJ;have Pn:∀ k ∈ Zl t S 6,k < 6:=fun k hk=>Ydi hk;have tN:=PH t S 6;clear hbl gM;generalize Zl t S 6=W at *
    have hWn:=uc W;have CM:=fun port=>Qva c.gl t ht.wf ht.len ae (t.aT S-1) port;generalize m9:Jl t ae (t.aT S-1)=fr at *
    obtain ⟨a,ha⟩:∃ a:Int,a=t.aT S-1:=⟨_,rfl⟩
    rw[<- ha]at mJ CM m9;refine Qd @e2 ?_;refine Qk uj @e2 ?_
    refine Qu (fun k:Nat=>k≤W.length∧fr (W.drop k)=fr W)
     (fun k=>⟨[(1,.int .i64 ae),(2,.int .i64 S),(3,.int .i64 aF),(4,.int .i64 draw),(5,.ptr 0 0),(10,.ptr 1 0),(11,.ptr 2 0),(14,.cl 125 [.ptr 0 0]),(20,.isl W.length (Ql (eb W))),(85,.isl W.length (Ql (eb W))),(86,.int .i64 W.length),(87,.int .i64 k)],[(0,.cells t.enc),(1,.cells eK),(2,.cells z5)],3⟩) (fun k=>W.length-k) CI.mixed hN
     ⟨0,⟨by omega,rfl⟩,[],by exact Qp⟩ fun k hk=>?_
    obtain ⟨hk,eg⟩:=hk;refine Qa ?_;refine Qb ?_ ?_<;>intro h5
    ·have bh:k < W.length:=by omega
     have gP:=Pn _ (getElem_mem bh);have ja:W.drop k=W[k]::W.drop (k+1):=drop_eq_getElem_cons bh;have eQ:=KG W k bh;rw[show W.getD k 0=W[k] by simp[List.getD,bh]]at eQ;rw[ja]at eg;generalize W[k]=q at *
     refine Qd (An @hWn @eQ) ?_
     refine Qu (fun i:Nat=>i≤8∧((Zn q).drop i++(W.drop (k + 1)).flatMap Zn).find? (mI t ae a)=fr W)
      (fun i=>⟨[(1,.int .i64 ae),(2,.int .i64 S),(3,.int .i64 aF),(4,.int .i64 draw),(5,.ptr 0 0),(10,.ptr 1 0),(11,.ptr 2 0),(14,.cl 125 [.ptr 0 0]),(20,.isl W.length (Ql (eb W))),(22,.int .i64 q),(85,.isl W.length (Ql (eb W))),(86,.int .i64 W.length),(87,.int .i64 k),(91,.int .i64 i)],[(0,.cells t.enc),(1,.cells eK),(2,.cells z5)],3⟩) (fun i=>8-i) CI.mixed hN
      ⟨0,⟨by omega,by rw[<- eg,<- m9];rfl⟩,[],by exact Qp⟩ fun i hi=>?_
     obtain ⟨hi,j9⟩:=hi;refine Qa ?_;refine Qb ?_ ?_<;>intro h6
     ·have hi8:i < 8:=by omega
      rw[Xa9 q t ae a _ i hi8]at j9;have hB:=CM (1024+(q:Int)*8+i);unfold mI at j9;cases rh:t.maps.find? (Ja ae a (1024+(q:Int)*8+i)) with
      | none =>
       rw[rh]at j9 hB;simp only[Option.isNone_none,if_true]at j9;unfold gb cM Mp.enc at hB;dsimp only at hB;have hR:=mJ.out.1 _ j9.symm;subst hR;have Fu:=Tb.au (t:=t.add ⟨ae,S,aF,a,1024+(q:Int)*8+i⟩) ⟨ht.wf.ai,ht.wf.home⟩;have jF:=PV c.gl t ht.wf (show t.maps.length<=100000 by omega) ⟨ae,S,aF,a,1024+(q:Int)*8+i⟩ false;unfold Xr Mp.enc at jF;generalize Tb.add _ _=T3 at *
       dsimp only at jF;subst ha;refine Qd (An @e2 @eh) ?_;refine Qk hB @e2 ?_;refine Yc ?_;refine Qd (An @e2 @eh) ?_;exact vi jF (An @e2 (An @Fu (An @Xr.eq_1 (An @Mp.enc.eq_1 (An @eK.eq_1 @z5.eq_1)))))
      | some m =>
       rw[rh]at j9 hB;simp only[Option.isNone_some,Bool.false_eq_true,if_false]at j9;unfold gb Mp.enc at hB;dsimp only at hB;subst ha;refine Qd (An @e2 @eh) ?_;refine Qk hB @e2 ?_;refine Yc ?_;refine Qa ?_;refine ⟨i+1,⟨by omega,j9⟩,⟨[],?_⟩,by omega⟩;exact Qp
     ·have:i=8:=by omega
      subst this;rw[show (Zn q).drop 8=[] by simp[Zn],nil_append]at j9;refine Qa ?_;refine ⟨k+1,⟨by omega,by rw[<- j9,<- m9];rfl⟩,⟨[],?_⟩,by omega⟩;exact Qp
    ·have:k=W.length:=by omega
     subst this;rw[drop_length]at eg;have qw:=mJ.out.2 (by rw[<- eg,<- m9];rfl);have qx:=Lib.hid qw.1;have qy:=Lib.hid qw.2;clear mJ qw;refine Qa ?_;refine Qb ?_ ?_<;>intro h6
     ·have hR:=qx.out af;subst hR;refine Qa ?_;exact Ka (ip [0]) (Af c.gl t ht.wf 6) (An @e2 (An @Xr.eq_1 (An @Mp.enc.eq_1 (An @cM.eq_1 (An @eK.eq_1 @z5.eq_1)))))
     have oA:=Lib.hid ((qy.out af).1 ib);clear qx qy;refine Qd (An @e2 @eh) ?_;have e4:=Tb.dw ht.wf;refine Qb ?_ ?_<;>intro h7
     ·omega
     clear h7;rw[<- ha];have hT:=Qvj c.gl t.ai ht.wf.ai S a draw;have oB:=Ff t.ai ht.wf.ai S a draw;have la:=aq.iX t.ai ht.wf.ai S a draw;generalize hx:t.ai.take S a draw=x at *
     obtain ⟨tp,tk,te⟩:=x;unfold lK at hT;dsimp only at hT la;have vH:=aq.au la;refine Qd (An @e2 @e4) ?_;refine Qk hT (An @e2 @vH) ?_;refine Qb ?_ ?_<;>intro h8
     ·have hR:=oA.out.trans (show Ww (t.tk ae S aF a draw)=Xr t cM false te by unfold Tb.tk Ww;rw[hx];simp[h8]);subst hR;refine Qa ?_;exact Ka (ip [0]) (Af c.gl t ht.wf te) (An @e2 (An @Xr.eq_1 (An @Mp.enc.eq_1 (An @cM.eq_1 (An @eK.eq_1 @z5.eq_1)))))
     have Ah:te=0:=by simpa using h8
     subst Ah;cases oB with
     | no _ he=>exact (he rfl).elim
     | yes b kk _ j3 fg _ _ en _ _ _ =>
     have iA:=la;have PY:=Tb.gN ht.wf iA;have fM:(⟨t.ai.put b kk (S+1),t.home,t.maps⟩:Tb).wf:=⟨iA,ht.wf.home⟩
     have es2:(⟨t.ai.put b kk (S+1),t.home,t.maps⟩:Tb).enc.set (21+S) (.int .i64 (a+1))=(⟨t.ai.put b kk (S+1),t.home.set S (a+1),t.maps⟩:Tb).enc:=Tb.gO fM jb (a+1);have dV:(⟨t.ai.put b kk (S+1),t.home.set S (a+1),t.maps⟩:Tb).wf:=⟨iA,by rw[length_set];exact ht.wf.home⟩
     have PZ:=Tb.au dV;have P0:=Tb.au fM;have jF:=PV c.gl _ dV (show t.maps.length<=100000 by omega) ⟨ae,S,aF,a,1024+(kk:Int)*8⟩ true;have hR:=oA.out.trans (show Ww (t.tk ae S aF a draw)=Xr (Tb.add ⟨t.ai.put b kk (S+1),t.home.set S (a+1),t.maps⟩ ⟨ae,S,aF,a,1024+(kk:Int)*8⟩) ⟨ae,S,aF,a,1024+(kk:Int)*8⟩ true 0 by unfold Tb.tk Ww;rw[hx];rfl);subst hR;clear oA;have Fu:=Tb.au (t:=Tb.add ⟨t.ai.put b kk (S+1),t.home.set S (a+1),t.maps⟩ ⟨ae,S,aF,a,1024+(kk:Int)*8⟩) ⟨dV.ai,dV.home⟩;unfold Xr Mp.enc at jF;generalize Tb.add _ _=T3 at *
     generalize (⟨t.ai.put b kk (S+1),t.home.set S (a+1),t.maps⟩:Tb)=T2 at *
     generalize (⟨t.ai.put b kk (S+1),t.home,t.maps⟩:Tb)=T1 at *
     dsimp only at jF;refine Qd (An @e2 (An @PY (An @es2 (An @PZ @P0)))) ?_;exact vi jF (An @e2 (An @Fu (An @Xr.eq_1 (An @Mp.enc.eq_1 (An @eK.eq_1 @z5.eq_1)))))
   ·have hbl:xD t S=.nils:=aa ib;have gM:Js t S=[]:=aa ib;rw[hbl]at uj;rw[gM]at mJ;refine Qd @e2 ?_;refine Qk uj @e2 ?_
    refine Qu (fun _:Unit=>True)
     (fun _=>⟨[(1,.int .i64 ae),(2,.int .i64 S),(3,.int .i64 aF),(4,.int .i64 draw),(5,.ptr 0 0),(10,.ptr 1 0),(11,.ptr 2 0),(14,.cl 125 [.ptr 0 0]),(20,.nils),(85,.nils),(86,.int .i64 0),(87,.int .i64 0)],[(0,.cells t.enc),(1,.cells eK),(2,.cells z5)],3⟩) (fun _=>0) CI.mixed hN
     ⟨(),trivial,[],by exact Qp⟩ fun _ _=>?_
    refine Qa ?_;refine Yc ?_;refine Qa ?_;refine Yc ?_;refine Qd (An @e2 @eh) ?_;have e4:=Tb.dw ht.wf;have hP:=Xyq c.gl t.ai ht.wf.ai draw;have qw:=(mJ.out.2 rfl).2 aw;have Ai:=qw.2 ib;have qx:=Lib.hid Ai.1;have qy:=Lib.hid Ai.2;clear mJ qw Ai;have lY:=ZS t.ai draw;generalize t.ai.pick draw=pk at *
    obtain ⟨pa,pe⟩:=pk;dsimp only at qx qy hP;refine Qb ?_ ?_<;>intro h7;rotate_left
    ·omega
    refine Qd (An @e2 @e4) ?_;refine Qk hP @e2 ?_;refine Qb ?_ ?_<;>intro h8
    ·have hR:=qx.out h8;subst hR;refine Qa ?_;exact Ka (ip [0]) (Af c.gl t ht.wf pe) (An @e2 (An @Xr.eq_1 (An @Mp.enc.eq_1 (An @cM.eq_1 (An @eK.eq_1 @z5.eq_1)))))
    have ny:pe=0:=by simpa using h8
    subst ny;have oA:=Lib.hid (qy.out rfl);have hT:=Qvj c.gl t.ai ht.wf.ai S pa draw;have oB:=Ff t.ai ht.wf.ai S pa draw;have la:=aq.iX t.ai ht.wf.ai S pa draw;generalize hx:t.ai.take S pa draw=x at *
    obtain ⟨tp,tk,te⟩:=x;unfold lK at hT;dsimp only at hT la;have vH:=aq.au la;clear h8;refine Qd (An @e2 @e4) ?_;refine Qk hT (An @e2 @vH) ?_;refine Qb ?_ ?_<;>intro h8
    ·have hR:=oA.out.trans (show Ww (t.tk ae S aF pa draw)=Xr t cM false te by unfold Tb.tk Ww;rw[hx];simp[h8]);subst hR;refine Qa ?_;exact Ka (ip [0]) (Af c.gl t ht.wf te) (An @e2 (An @Xr.eq_1 (An @Mp.enc.eq_1 (An @cM.eq_1 (An @eK.eq_1 @z5.eq_1)))))
    have Ah:te=0:=by simpa using h8
    subst Ah;cases oB with
    | no _ he=>exact (he rfl).elim
    | yes b kk _ j3 fg _ _ en _ _ _ =>
    have iA:=la;have PY:=Tb.gN ht.wf iA;have fM:(⟨t.ai.put b kk (S+1),t.home,t.maps⟩:Tb).wf:=⟨iA,ht.wf.home⟩
    have es2:(⟨t.ai.put b kk (S+1),t.home,t.maps⟩:Tb).enc.set (21+S) (.int .i64 (pa+1))=(⟨t.ai.put b kk (S+1),t.home.set S (pa+1),t.maps⟩:Tb).enc:=Tb.gO fM jb (pa+1);have dV:(⟨t.ai.put b kk (S+1),t.home.set S (pa+1),t.maps⟩:Tb).wf:=⟨iA,by rw[length_set];exact ht.wf.home⟩
    have PZ:=Tb.au dV;have P0:=Tb.au fM;have jF:=PV c.gl _ dV (show t.maps.length<=100000 by omega) ⟨ae,S,aF,pa,1024+(kk:Int)*8⟩ true;have hR:=oA.out.trans (show Ww (t.tk ae S aF pa draw)=Xr (Tb.add ⟨t.ai.put b kk (S+1),t.home.set S (pa+1),t.maps⟩ ⟨ae,S,aF,pa,1024+(kk:Int)*8⟩) ⟨ae,S,aF,pa,1024+(kk:Int)*8⟩ true 0 by unfold Tb.tk Ww;rw[hx];rfl);subst hR;clear oA qy qx;have Fu:=Tb.au (t:=Tb.add ⟨t.ai.put b kk (S+1),t.home.set S (pa+1),t.maps⟩ ⟨ae,S,aF,pa,1024+(kk:Int)*8⟩) ⟨dV.ai,dV.home⟩;unfold Xr Mp.enc at jF;generalize Tb.add _ _=T3 at *
    generalize (⟨t.ai.put b kk (S+1),t.home.set S (pa+1),t.maps⟩:Tb)=T2 at *
    generalize (⟨t.ai.put b kk (S+1),t.home,t.maps⟩:Tb)=T1 at *
    dsimp only at jF;refine Qd (An @e2 (An @PY (An @es2 (An @PZ @P0)))) ?_;exact vi jF (An @e2 (An @Fu (An @Xr.eq_1 (An @Mp.enc.eq_1 (An @eK.eq_1 @z5.eq_1)))))
theorem P1 (x:Tb×Mp×Bool×Int)(n:Nat):Qe n (Ww x)=True:=KL ..
theorem Xxz (x:Tb×Mp×Bool×Int)(ρ:Nat->Nat):aA ρ (Ww x)=Ww x:=Qys ..
attribute [go_sem] P1 Xxz
def Xus (t:Tb)(ht:t.ok)(ae s aF draw:Int):PS Tryz.prog gl 89 [.agg t.enc,.int .i64 ae,.int .i64 s,.int .i64 aF,.int .i64 draw] (Ww (t.ca ae s aF draw)):=by
 by_cases hb:Zp t=false\/Yr ae s aF=false
 ·have e:t.ca ae s aF draw=(t,cM,false,2):=am hb;rw[e];exact Xqp gl t ht ae s aF draw hb
 have e:t.ca ae s aF draw=match t.maps.find? (Xz ae s aF) with
  | some m=>(t,m,false,0)
  | none =>
   if 12<=Yb t.maps s then (t,cM,false,6) else
   match Jl t ae (t.aT s.toNat-1) (Js t s.toNat) with
   | some port=>(t.add ⟨ae,s,aF,t.aT s.toNat-1,port⟩,⟨ae,s,aF,t.aT s.toNat-1,port⟩,false,0)
   | none =>
    if 2<=(Js t s.toNat).length then (t,cM,false,6) else
    if 1<=t.aT s.toNat then t.tk ae s aF (t.aT s.toNat-1) draw else
    if (t.ai.pick draw).2≠0 then (t,cM,false,(t.ai.pick draw).2) else t.tk ae s aF (t.ai.pick draw).1 draw:=aa hb
 have hg:Zp t=true:=by
  cases h:Zp t
  ·exact (hb (Or.inl h)).elim
  ·rfl
 have hk:Yr ae s aF=true:=by
  cases h:Yr ae s aF
  ·exact (hb (Or.inr h)).elim
  ·rfl
 obtain ⟨_,⟨fL,lO⟩,_⟩:=Jv hk;obtain ⟨S,rfl⟩:=Int.eq_ofNat_of_zero_le fL;rw[Int.toNat_natCast]at e;refine Xv7 gl t ht ((vG t).1 hg) ae S aF draw hk _ (by rw[P1];trivial) (Lib.hid fun m hm=>?_) (Lib.hid fun hm fk=>?_) (Lib.hid fun hm fk=>⟨fun port hp=>?_,fun hp=>⟨fun h2=>?_,fun h2=>⟨fun h1=>?_,fun h1=>⟨fun hz=>?_,fun hz=>?_⟩⟩⟩⟩)
 ·rw[e,hm];rfl
 ·rw[e,hm];dsimp only;rw[am fk];rfl
 ·rw[e,hm];dsimp only;rw[aa fk,hp];rfl
 ·rw[e,hm];dsimp only;rw[aa fk,hp];dsimp only;rw[am h2];rfl
 ·rw[e,hm];dsimp only;rw[aa fk,hp];dsimp only;rw[aa h2,am h1]
 ·rw[e,hm];dsimp only;rw[aa fk,hp];dsimp only;rw[aa h2,aa h1,am hz];rfl
 ·rw[e,hm];dsimp only;rw[aa fk,hp];dsimp only;rw[aa h2,aa h1,aa (by simp[hz])]
def Yda:kK Tryz.prog 100 69=some [.int .i64,.int .i64,.int .i64,.int .i64,.int .i64]:=by kernel_rfl
def Ydf {x y:Mp}:x=y ↔ x.enc=y.enc:=by
 cases x;cases y;simp[Mp.enc]
def Aj {c:Cx}{ne:Bool}(x y:Mp):nh Tryz.prog c (.cA ne 69) [.agg x.enc,.agg y.enc] (.bool (ne != decide (x=y))) :=
 Vn Yda (by kernel_rfl) (by kernel_rfl) rfl rfl (by rw[decide_eq_true_eq];exact Ydf)
def xH:List Mp->Mp->Nat->Int
 | [],_,_=>-1
 | x::l,m,k=>if m=x then k else xH l m (k+1)
def Qy3 (hl:l.length<=4611686018427387904)(m:Mp):PS Tryz.prog gl 140 [.isl l.length (bH l),.agg m.enc] (.int .i64 (xH l m 0)):=by
 refine ZZ.ps (ap rfl) (by simp[Qe]) fun c hN hg=>?_
 conv in aG _ _=>cbv
 have aD:=Yl l;have uf:m.enc.length=5:=rfl;have zf:∀ n,ah n m.enc=True:=fun n=>by simp[Mp.enc,ah,Qe]
 have hmr:∀ ρ,ay ρ m.enc=m.enc:=fun ρ=>by simp[Mp.enc,ay,aA]
 refine Qa ?_
 refine Qu (fun k:Nat=>k≤l.length∧xH (l.drop k) m k=xH l m 0) (fun k=>⟨[(0,.isl l.length (bH l)),(3,.ptr 0 0),(6,.isl l.length (bH l)),(7,.int .i64 l.length),(8,.int .i64 k)],[(0,.cells m.enc)],1⟩) (fun k=>l.length - k) ZZ.mixed hN
  ⟨0,⟨by omega,rfl⟩,[],by exact Qi @zf⟩ fun k hk=>?_
 obtain ⟨hk,cO⟩:=hk;refine Qa ?_;refine Qb ?_ ?_<;>intro h1
 ·have bh:k < l.length:=by omega
  have aL:=rf l k bh;have ja:l.drop k=l[k]::l.drop (k+1):=drop_eq_getElem_cons bh;rw[ja]at cO;rw[xH]at cO;generalize l[k]=x at *
  have heq:=@Aj c false m x;refine Qd (An @aD (An @aL @uf)) ?_;refine Qk heq (An @aD (An @aL @uf)) ?_;refine Qb ?_ ?_<;>intro h2
  ·rw[am (by simpa using h2)]at cO;exact Qi @cO
  ·rw[aa (by simpa using h2)]at cO;refine Qa ?_;refine ⟨k+1,⟨by omega,cO⟩,⟨[],?_⟩,by omega⟩;exact Qi (An @zf @hmr)
 ·have:k=l.length:=by omega
  subst this;rw[drop_length]at cO;have cO:(-1:Int)=xH l m 0:=cO;exact Qi @cO
def Qzn:Ce Tryz.prog 37 5:=Oe (by kernel_rfl)
def Xwu (h:k<=l.length):(bH l).drop (k*5)=bH (l.drop k):=by
 have e:bH l=bH (l.take k)++bH (l.drop k):=by rw[Pu,List.take_append_drop]
 rw[e,List.drop_append_of_le_length (by rw[Yl,length_take];omega),List.drop_of_length_le (by rw[Yl,length_take];omega),nil_append]
def Xpr (hi:i<l.length):(bH l).take (i*5)++(bH l).drop ((i+1)*5)=bH (l.eraseIdx i):=by
 rw[ZT l i af,Xwu l (i+1) af,Pu,List.eraseIdx_eq_take_drop_succ]
def Xoo (hl:l.length<=1000000)(i:Nat)(hi:i<l.length):GS Tryz.prog gl 141 [.sl 5 0 0 l.length l.length,.int .i64 i,.int .i64 ((i:Int)+1)] [(0,.cells (bH l))] 1
  (.sl 5 0 0 (l.length-1) l.length) [(0,.cells (bH (l.eraseIdx i)))] 1:=by
 refine Xir.gs (ap rfl) (by simp[Bk.live]) fun c hN hg=>?_
 conv in aG _ _=>cbv
 have aD:=Yl l;have y1:i-0=i:=by omega
 have y2:l.length-0=l.length:=by omega
 have y3:((i:Int)+1).toNat=i+1:=by omega
 have y4:i+(l.length-(i+1))=l.length-1:=by omega
 have y5:l.length-(l.length-1)=1:=by omega
 have y6:i+0=i:=by omega
 have y7:(0:Nat)*5=0:=by omega
 have oC:=Xpr l i hi;have Ad:=Yl (l.eraseIdx i);rw[List.length_eraseIdx,am hi]at Ad;have cx:(bH (l.eraseIdx i)).take ((l.length-1)*5)=bH (l.eraseIdx i):=take_of_length_le af;refine Qd @aD ?_
 ((first|apply Yw|apply Yf|apply Xn|apply Xg)<;>(first|exact (Ybm (by omega) (by omega) (by omega) (by omega))|(refine XG ?_;first|exact rfl|exact True.intro|((try with_reducible and_intros);all_goals try first|refine zm ?_|exact CL))))
 refine Qb ?_ ?_<;>intro h1
 ·omega
 refine Qd @aD ?_;by_cases h2:i+1<l.length
 ·refine Qd @aD ?_;refine WL (An @aD (An @y1 (An @y2 (An @y3 (An @oC @y4))))) ?_
  (refine IS Qzn ?_;(have aQ:=@aD;have bw:=@y1;have bQ:=@y2;have cy:=@y3;have dh:=@y5;have ff:=@oC;have gu:=@y4;have nk:=@cx;refine XG ?_;clear aQ bw bQ cy dh ff gu nk;((try with_reducible and_intros);all_goals try first|refine zm ?_|exact CL)))
  refine Qa ?_;refine ⟨[],?_⟩;exact Qp
 ·have:i + 1=l.length:=by omega
  have y8:l.length-1=i:=by omega
  have vI:(bH l).take (i*5)=bH (l.eraseIdx i):=by rw[<- oC,List.drop_of_length_le af,append_nil]
  rw[y8]at cx;refine Qd @aD ?_;refine WL (An @aD (An @y1 (An @y2 (An @y6 (An @y7 (An @append_nil.{0} @vI)))))) ?_
  (refine IS Qzn ?_;(have aQ:=@aD;have bw:=@y1;have bQ:=@y2;have cy:=@y3;have dh:=@y5;have ff:=@y8;have gu:=@cx;refine XG ?_;clear aQ bw bQ cy dh ff gu;((try with_reducible and_intros);all_goals try first|refine zm ?_|exact CL)))
  refine Qa ?_;refine ⟨[],?_⟩;exact Qi @y8
def P2 (m:Mp):∀ (l:List Mp) (k:Nat),xH l m k=match l.findIdx? (fun x=>decide (m=x)) with
  | some i=>((i+k:Nat):Int)
  | none=>-1
 | [],k=>rfl
 | x::l,k=>by
  rw[xH,P2 m l (k+1),List.findIdx?_cons];by_cases h:m=x
  ·simp[h]
  ·simp only[h,if_false,decide_false];cases l.findIdx? (fun x=>decide (m=x)) with
   | none=>rfl
   | some i=>simp only[Option.map_some,Bool.false_eq_true,if_false];congr 1;omega
def P3 {l:List Mp}{m:Mp}{i:Nat}(h:l.findIdx? (fun x=>decide (m=x))=some i):∃ hi:i<l.length,l[i]=m:=by
 obtain ⟨hi,h1,_⟩:=List.findIdx?_eq_some_iff_getElem.1 h;exact ⟨hi,(ap h1).symm⟩
def Jo (m o:Mp):Bool:=decide (o.a=m.a)&&decide (Xc o.port=Xc m.port)
noncomputable def Tb.bT (t:Tb)(m:Mp):Tb :=
 if Js ⟨(t.ai.bT m.s m.a (Xc m.port)).1,t.home,t.maps⟩ m.s.toNat=[] then ⟨(t.ai.bT m.s m.a (Xc m.port)).1,t.home.set m.s.toNat 0,t.maps⟩ else ⟨(t.ai.bT m.s m.a (Xc m.port)).1,t.home,t.maps⟩
def Tb.del (t:Tb)(i:Nat):Tb:=⟨t.ai,t.home,t.maps.eraseIdx i⟩
noncomputable def Tb.cls (t:Tb)(m:Mp):Tb×Bool×Int :=
 if Zp t=false then (t,false,2) else
 match t.maps.findIdx? (fun x=>decide (m=x)) with
 | none=>(t,false,7)
 | some i=>if (t.maps.eraseIdx i).any (Jo m)=true then (t.del i,false,0) else ((t.del i).bT m,true,0)
def Wu (x:Tb×Bool×Int):AV:=.aR [.agg x.1.enc,.bool x.2.1,.int .i64 x.2.2]
theorem Ak (x:Tb×Bool×Int)(n:Nat):Qe n (Wu x)=True:=by simp[Qe,ah,Wu,Tb.cg]
theorem Xyk (x:Tb×Bool×Int)(ρ:Nat->Nat):aA ρ (Wu x)=Wu x:=by simp[aA,ay,Wu,Tb.dt]
attribute [go_sem] Ak Xyk
set_option maxRecDepth 20000 in
def Xju (t:Tb)(ht:t.ok)(m:Mp)(h:Zp t=false):PS Tryz.prog gl 102 [.agg t.enc,.agg m.enc] (Wu (t,false,2)):=by
 refine KD.ps (ap rfl) (by simp[Ak]) fun c hN hg=>?_
 conv in aG _ _=>cbv
 have e2:=Tb.au ht.wf;have hG:=Fk c.gl t ht;rw[h]at hG;unfold Mp.enc;refine Qd @e2 ?_;refine Qk hG @e2 ?_;refine Yc ?_;exact Qi (An @e2 @Wu.eq_1)
set_option maxRecDepth 20000 in
def Xd3 (t:Tb)(ht:t.ok)(m:Mp)(h:Zp t=true)(hi:t.maps.findIdx? (fun x=>decide (m=x))=none):PS Tryz.prog gl 102 [.agg t.enc,.agg m.enc] (Wu (t,false,7)):=by
 refine KD.ps (ap rfl) (by simp[Ak]) fun c hN hg=>?_
 conv in aG _ _=>cbv
 have e2:=Tb.au ht.wf;have e3:=Tb.b6 ht.wf;have hG:=Fk c.gl t ht;rw[h]at hG;have hI:=Qy3 c.gl t.maps ht.len m;rw[P2,hi]at hI;dsimp only at hI;unfold Mp.enc at hI ⊢;refine Qd @e2 ?_;refine Qk hG @e2 ?_;refine Yc ?_;refine Qd (An @e2 @e3) ?_;refine Qk hI (An @e2 @e3) ?_;refine Yc ?_;exact Qi (An @e2 @Wu.eq_1)
def Fv {t:Tb}(h:t.wf)(x:AV):(t.hd++[x]).getD 29 .any=x:=by
 rw[getD_eq_getElem?_getD,getElem?_append_right (by rw[Tb.bU h];decide),Tb.bU h];rfl
def Yds {t:Tb}(h:t.wf)(x:AV):(t.hd++[x]).take 21=t.ai.enc:=by
 unfold Tb.hd;rw[append_assoc,take_append_of_le_length (by rw[aq.au h.ai];decide),take_of_length_le (by rw[aq.au h.ai];decide)]
def P4 {t:Tb}(h:t.wf){p:aq}(hp:p.wf)(x:AV):Yj (t.hd++[x]) 0 p.enc=(⟨p,t.home,t.maps⟩:Tb).hd++[x]:=by
 unfold Yj Tb.hd;rw[List.take_zero,nil_append,aq.au hp,append_assoc,append_assoc,Nat.zero_add,<- aq.au h.ai,List.drop_left]
def KM {t:Tb}(h:t.wf){s:Nat}(hs:s<8)(v:Int)(x:AV):(t.hd++[x]).set (21+s) (.int .i64 v)=(⟨t.ai,t.home.set s v,t.maps⟩:Tb).hd++[x]:=by
 unfold Tb.hd;rw[append_assoc,set_append_right _ _ (by rw[aq.au h.ai];omega),aq.au h.ai,show 21+s-21=s by omega,List.set_append_left _ _ (by rw[Xw,h.home];exact hs),append_assoc];simp[Ql,map_set]
def Yjk {g:Nat->GM}{W:Nat->Prop}{w:World}{n:Nat}  {v:Value}(h:VR g W w (.isl n cs) v):VR g W w (.isl n []) v:=by
 obtain ⟨a,cap,us,rfl,h1,h2,_,_⟩:=uP h;exact .isl (us:=us) h1 h2 (fun j hj=>by simp at hj) (fun j hj=>by simp at hj)
def PS.len {P:Program}{gl:Nat->AV}{f:FuncId}{args:List AV}{n:Nat}  (h:PS P gl f args (.isl n cs)):PS P gl f args (.isl n []) :=
 ⟨h.1,fun w vs X hX hg hv=>(h.2 w vs X hX hg hv).mono fun e w' ⟨v,he,hr,hf⟩=>⟨v,he,Yjk hr,hf⟩⟩
def Jn.len:Jn (.isl n []):=fun _ _ _ _ _ _ _ h=>by
 obtain ⟨a,cap,us,rfl,h1,h2,_,_⟩:=uP h;exact .isl (us:=us) h1 h2 (fun j hj=>by simp at hj) (fun j hj=>by simp at hj)
def Wh:List AV:=eK.take 29++[.nils]
def Yan:ah n Wh=True:=by simp[Wh,eK,ah,Qe]
theorem Xtm (ρ:Nat->Nat):ay ρ Wh=Wh:=by simp[Wh,eK,ay,aA]
attribute [go_sem] Yan Xtm
def Xzz (h:k<l.length)(f:Mp->Bool):(l.drop k).any f=(f l[k]||(l.drop (k+1)).any f):=by
 rw[drop_eq_getElem_cons h,any_cons]
set_option maxRecDepth 20000 in
def Xpq (gl:Nat->AV)(t:Tb)(ht:t.ok)(ep:dx t)(m:Mp)(i:Nat)(hi:t.maps.findIdx? (fun x=>decide (m=x))=some i)(R:AV)(ik:Qe 0 R)
  (H1:Hid ((t.maps.eraseIdx i).any (Jo m)=true->R=Wu (t.del i,false,0)))
  (H2:Hid ((t.maps.eraseIdx i).any (Jo m)=false->R=Wu ((t.del i).bT m,true,0))):PS Tryz.prog gl 102 [.agg t.enc,.agg m.enc] R:=by
 refine KD.ps (ap rfl) ik fun c hN hg=>?_
 conv in aG _ _=>cbv
 have e2:=Tb.au ht.wf;have e3:=Tb.b6 ht.wf;have hG:=Fk c.gl t ht;rw[Fj ep]at hG;have hI:=Qy3 c.gl t.maps ht.len m;rw[P2,hi]at hI;dsimp only at hI;rw[Nat.add_zero]at hI;have uf:=xF ep;have aD:=Yl t.maps;have hs:=Tb.jc ht.wf;have iW:=Tb.oz t ht.wf;have aV:=fun x=>Fv ht.wf x;have fP:=Tb.bU ht.wf;obtain ⟨kf,xm⟩:=P3 hi;have aS:=ep.maps i kf;rw[xm]at aS;obtain ⟨⟨bh,vJ,xE,jD⟩,oy,gM⟩:=aS;obtain ⟨_,⟨fL,lO⟩,_⟩:=Jv bh;have Fw:=vJ;unfold Yo at Fw;simp only[Bool.and_eq_true,decide_eq_true_eq]at Fw;have hB:=KJ c.gl m.port af;unfold lL at hB;rw[vJ]at hB;simp only[if_true]at hB;have hD:=Xoo c.gl t.maps af i kf;have hLl:(t.maps.eraseIdx i).length=t.maps.length-1:=by rw[List.length_eraseIdx,am kf]
 have hLb:∀ (k:Nat) (h:k<(t.maps.eraseIdx i).length),-9223372036854775808<=(t.maps.eraseIdx i)[k].port/\(t.maps.eraseIdx i)[k].port<=9223372036854775807:=fun k h=>by
  have hm:=List.mem_of_mem_eraseIdx (getElem_mem h);obtain ⟨j,hj,he⟩:=getElem_of_mem hm;have h2:=(ep.maps j hj).1.2.1;rw[he]at h2;unfold Yo at h2;simp only[Bool.and_eq_true,decide_eq_true_eq]at h2;omega
 have CO:=Xvz c.gl t.ai ht.wf.ai m.s m.a (Xc m.port) af;have KN:((t.ai.bT m.s m.a (Xc m.port)).1).wf:=aq.pw _ ht.wf.ai _ _ _;obtain ⟨S,hS⟩:=Int.eq_ofNat_of_zero_le fL;have P5:m.s.toNat=S:=by omega
 have P6:∀ L,L=t.maps.eraseIdx i->t.del i=⟨t.ai,t.home,L⟩:=fun L h=>by rw[h];rfl
 have vK:=P6 _ rfl;unfold Tb.bT at H2;rw[vK]at H1 H2;rw[<- hLl]at hD;generalize t.maps.eraseIdx i=L at *
 have Fx:=Yl L;have aW:=Yds ht.wf;have e4:=aq.au KN;have dO:(⟨(t.ai.bT m.s m.a (Xc m.port)).1,t.home,L⟩:Tb).wf:=⟨KN,ht.wf.home⟩
 have ef:∀ x,Yj (t.hd++[x]) 0 (t.ai.bT m.s m.a (Xc m.port)).1.enc=(⟨(t.ai.bT m.s m.a (Xc m.port)).1,t.home,L⟩:Tb).hd++[x]:=fun x=>P4 ht.wf KN x;have j3:0<=(⟨(t.ai.bT m.s m.a (Xc m.port)).1,t.home,L⟩:Tb).aT S/\(⟨(t.ai.bT m.s m.a (Xc m.port)).1,t.home,L⟩:Tb).aT S<=3:=by
  have:(⟨(t.ai.bT m.s m.a (Xc m.port)).1,t.home,L⟩:Tb).aT S=t.aT m.s.toNat:=by rw[P5];rfl
  omega
 have ib:1<=(⟨(t.ai.bT m.s m.a (Xc m.port)).1,t.home,L⟩:Tb).aT S:=by
  have:(⟨(t.ai.bT m.s m.a (Xc m.port)).1,t.home,L⟩:Tb).aT S=t.aT m.s.toNat:=by rw[P5];rfl
  omega
 have uj:=Qqv c.gl _ dO S af j3;have hbl:xD _ S=_:=am ib;have P7:Js _ S=_:=am ib;rw[hbl]at uj;rw[P5]at H2;dsimp only at H2;rw[P7]at H2;unfold Km at CO;generalize t.ai.bT m.s m.a (Xc m.port)=gv at *
 obtain ⟨p',ge⟩:=gv;dsimp only at *
 have sF:=fun v x=>KM dO (show S<8 by omega) v x;dsimp only at sF;have e5:∀ x,((⟨p',t.home,L⟩:Tb).hd++[x]).length=30:=fun x=>Tb.oz _ dO x;have Fy:(Zl ⟨p',t.home,L⟩ S 6).length=0 ↔ Zl ⟨p',t.home,L⟩ S 6=[]:=List.length_eq_zero_iff;have gA:=uc (Zl ⟨p',t.home,L⟩ S 6);generalize Zl ⟨p',t.home,L⟩ S 6=W at *
 have cx:(bH L).take (L.length*5)=bH L:=take_of_length_le af;have dM:t.maps.length=L.length+1:=by omega
 have P8:=Qy4 c.gl t.maps af;have um:∀ o:Mp,Jo m o=(decide (o.a=m.a)&&decide (Xc o.port=Xc m.port)):=fun _=>rfl;have P9:(⟨p',t.home,L⟩:Tb).enc=(⟨p',t.home,L⟩:Tb).hd++[.isl L.length (bH L)]:=rfl;rw[P9]at uj;have uj:=uj.len;have vL:=Tb.bU dO;rw[hS]at CO;unfold Mp.enc at hI ⊢;rw[hS]at hI ⊢;refine Qd @e2 ?_;refine Qk hG @e2 ?_;refine Yc ?_;refine Qd (An @e2 @e3) ?_;refine Qk hI (An @e2 @e3) ?_;refine Qb ?_ ?_<;>intro h2
 ·omega
 refine Qd (An @e2 @e3) ?_;refine Zv (ip []) P8 (An @e2 @e3) ?_;refine Zv (ip [3]) hD (An @e2 @e3) ?_;refine Qd (An @hs (An @e2 @iW)) ?_;refine Qk hB (An @fP @aV) ?_
 refine Qu (fun k:Nat=>k≤L.length∧L.any (Jo m)=(L.drop k).any (Jo m))
  (fun k=>⟨[(2,.ptr 0 0),(3,.ptr 1 0),(4,.ptr 2 0),(8,.int .i64 (Xc m.port)),(43,.sl 5 3 0 L.length t.maps.length),(44,.int .i64 L.length),(45,.int .i64 k)],[(0,.cells (t.hd++[.sl 5 3 0 L.length t.maps.length])),(1,.cells [.int .i64 m.ae,.int .i64 S,.int .i64 m.aF,.int .i64 m.a,.int .i64 m.port]),(2,.cells Wh),(3,.cells (bH L))],4⟩) (fun k=>L.length-k) KD.mixed hN
  ⟨0,⟨by omega,rfl⟩,[(3,3)],by exact Qi (An @Wh.eq_1 @eK.eq_1)⟩ fun k hk=>?_
 obtain ⟨hk,xI⟩:=hk;refine Qa ?_;refine Qb ?_ ?_<;>intro h3
 ·have bh:k < L.length:=by omega
  have aL:=rf L k bh;have ic:=KJ c.gl _ (hLb k bh);rw[Xzz L k bh,um]at xI;generalize L[k]=o at *
  obtain ⟨op,os,oi,oa,ot⟩:=o;simp only[Mp.enc]at aL;dsimp only at ic xI;unfold lL at ic;generalize (if Yo ot=true then (ot-1024)%8 else 0)=oj at *
  generalize Xc ot=ob at *
  generalize Yo ot=oq at *
  refine Qd (An @Fx @aL) ?_;refine Qk ic (An @Fx @aL) ?_;refine Qb ?_ ?_<;>intro h4
  ·have hR:=H1.out (by rw[xI];simp[h4]);subst hR;rw[show Wu (⟨t.ai,t.home,L⟩,false,0)=.aR [.agg (t.hd++[.isl L.length (bH L)]),.bool false,.int .i64 0] from rfl];exact Qi (An @fP (An @Wh.eq_1 (An @eK.eq_1 (An @map_append.{0,0} @cx))))
  ·have xI:L.any (Jo m)=(L.drop (k+1)).any (Jo m):=by
    rw[xI];rcases h4 with h5|h5<;>simp[h5]
   refine Qa ?_;refine ⟨k+1,⟨by omega,xI⟩,⟨[(3,3)],?_⟩,by omega⟩;exact Qp
 ·have:k=L.length:=by omega
  subst this;rw[drop_length,List.any_nil]at xI;have hR:=H2.out xI;clear H1 H2;refine Qd (An @fP @aW) ?_;refine Qk CO (An @fP (An @aW (An @ef (An @e4 @vL)))) ?_
  ((first|apply Wi|apply Kd)<;>(first|exact uj|(with_reducible (exact Jn.len _))|(have aQ:=@cx;have bw:=@vL;have bQ:=@map_append.{0,0};refine XG ?_;clear aQ bw bQ;first|exact rfl|exact True.intro|((try with_reducible and_intros);all_goals try first|refine zm ?_|exact CL))))
  have QA:=sF 0 (.sl 5 3 0 L.length t.maps.length);have QB:=Tb.bU (t:=(⟨p',t.home.set S 0,L⟩:Tb)) ⟨KN,by rw[length_set];exact ht.wf.home⟩;refine Qb ?_ ?_<;>intro h5
  ·have hW:W=[]:=Fy.1 af;rw[am hW]at hR;subst hR;rw[show Wu ((⟨p',t.home.set S 0,L⟩:Tb),true,0)=.aR [.agg ((⟨p',t.home.set S 0,L⟩:Tb).hd++[.isl L.length (bH L)]),.bool true,.int .i64 0] from rfl];exact Qi (An @vL (An @QB (An @QA (An @Wh.eq_1 (An @eK.eq_1 (An @map_append.{0,0} @cx))))))
  ·have hW:¬ W=[]:=fun h=>h5 (by have:=Fy.2 h;omega);rw[aa hW]at hR;subst hR;rw[show Wu ((⟨p',t.home,L⟩:Tb),true,0)=.aR [.agg ((⟨p',t.home,L⟩:Tb).hd++[.isl L.length (bH L)]),.bool true,.int .i64 0] from rfl];exact Qi (An @vL (An @Wh.eq_1 (An @eK.eq_1 (An @map_append.{0,0} @cx))))
def Xnr (t:Tb)(ht:t.ok)(m:Mp):PS Tryz.prog gl 102 [.agg t.enc,.agg m.enc] (Wu (t.cls m)):=by
 by_cases hb:Zp t=false
 ·have e:t.cls m=(t,false,2):=am hb;rw[e];exact Xju gl t ht m hb
 have hg:Zp t=true:=by
  cases h:Zp t
  ·exact (hb h).elim
  ·rfl
 have e:t.cls m=match t.maps.findIdx? (fun x=>decide (m=x)) with
  | none=>(t,false,7)
  | some i=>if (t.maps.eraseIdx i).any (Jo m)=true then (t.del i,false,0) else ((t.del i).bT m,true,0):=aa hb
 cases hi:t.maps.findIdx? (fun x=>decide (m=x)) with
 | none=>rw[e,hi];exact Xd3 gl t ht m hg hi
 | some i =>
  refine Xpq gl t ht ((vG t).1 hg) m i hi _ (by rw[Ak];trivial) (Lib.hid fun h=>?_) (Lib.hid fun h=>?_)
  ·rw[e,hi];dsimp only;rw[am h]
  ·rw[e,hi];dsimp only;rw[aa (by rw[h];simp)]
end Go.Proofs.YtogckmommodmhaaGreatDoor
