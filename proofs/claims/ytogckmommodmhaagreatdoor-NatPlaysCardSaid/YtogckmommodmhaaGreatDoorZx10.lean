import Derived.Test.YtogckmommodmhaaGreatDoorZx6
namespace Go.Proofs.YtogckmommodmhaaGreatDoor
open List (take_of_length_le take_add_one countP_cons range_succ filter_append filter_cons getElem?_eq_getElem getElem?_append_right getElem_mem getD_eq_getElem?_getD mem_range mem_filter map_append take_append_of_le_length length_take map_id append_assoc map_set set_append_right drop_eq_getElem_cons find?_cons drop_length append_nil foldl_append foldl_cons length_set take_length nil_append any_cons getElem_of_mem map_cons map_nil sum_cons sum_nil)
open Go.RowKit
set_option linter.all false
set_option maxHeartbeats 8000000
set_option maxRecDepth 100000
def ZQ (k n:Int)(h:0<n):-n<k.tmod n/\k.tmod n<n:=by
 have h1:=Int.tmod_lt_of_pos k h;have h2:=Int.tmod_lt_of_pos (-k) h;rw[Int.neg_tmod]at h2;omega
structure aq where
 own:List Int
 dr:List Bool
structure aq.wf (p:aq):Prop where
 own:p.own.length=18
 dr:p.dr.length=3
def aq.row (p:aq)(a:Nat):List Int:=(p.own.drop (a*6)).take 6
def Ui (n:Int):Bool:=decide (0<=n)&&decide (n<=8)
def aq.bR (p:aq):Bool:=p.own.all Ui
def Zn (p:aq)(h:p.wf)(a:Nat)(ha:a<3):(p.row a).length=6:=by
 simp[aq.row,h.own];omega
def ZR (p:aq)(a j:Nat)(hj:j<6):(p.row a)[j]?=p.own[a*6+j]?:=by
 simp[aq.row,hj]
def ZS (p:aq)(h:(p.own.take (6*3)).all Ui=true)(hp:p.wf):p.bR=true:=by
 rw[take_of_length_le (by rw[hp.own];omega)]at h;exact h
def ZT (p:aq)(i:Nat)(x:Int)(hx:p.own[i]?=some x)(hb:Ui x=false):p.bR=false:=by
 unfold aq.bR;rw[List.all_eq_false];exact ⟨x,List.mem_of_getElem? hx,by simp[hb]⟩
def ZU (p:aq)(i:Nat)(x:Int)(hx:p.own[i]?=some x)(h:(p.own.take i).all Ui=true)(hb:Ui x=true):(p.own.take (i+1)).all Ui=true:=by
 rw[take_add_one,hx];simp only[List.all_append,h,Bool.true_and];simp[hb]
def ZV (x:Int)(h:x<0):Ui x=false:=by unfold Ui;simp;omega
def ZW (x:Int)(h:8<x):Ui x=false:=by unfold Ui;simp;omega
def ZX (x:Int)(h0:¬ x<0)(h:¬ 8<x):Ui x=true:=by unfold Ui;simp;omega
def Kl (a:Int):Bool:=decide (0<=a)&&decide (a<3)
def Qup (k n:Int)(hn:0<n):(if k.tmod n<0 then k.tmod n+n else k.tmod n)=k%n:=by
 rw[Int.tmod_eq_emod];have h1:=Int.emod_nonneg k (show n≠0 by omega);have h2:=Int.emod_lt_of_pos k hn;have e:(n.natAbs:Int)=n:=by omega
 by_cases h:0<=k\/n ∣ k
 ·rw[am h];simp;omega
 ·rw[aa h,e];have:k%n≠0:=fun h0=>h (.inr (Int.dvd_of_emod_eq_zero h0));rw[am af];omega
def lT (l:List Int):Nat:=l.countP (· == 0)
def aq.left (p:aq)(a:Int):Nat:=if Kl a=true then lT (p.row a.toNat) else 0
def Ak (p:aq)(a:Nat)(h:a<3):p.left a=lT (p.row a):=by
 unfold aq.left;rw[am (by unfold Kl;simp;omega)];simp
def Xx3 (p:aq)(a:Int)(h:Kl a=false):p.left a=0:=by unfold aq.left;rw[aa (by rw[h];simp)]
def PA (l:List Int)(m:Nat)(x:Int)(h:l[m]?=some x):lT (l.take (m+1))=lT (l.take m)+(if x=0 then 1 else 0):=by
 unfold lT;rw[take_add_one,h];simp[List.countP_append,countP_cons]
def KO (l:List Int)(m:Nat):lT (l.take m)<=m:=by
 unfold lT;have:=List.countP_le_length (p:=(· == 0)) (l:=l.take m);have:=List.length_take_le m l;omega
def aq.lb (p:aq)(a:Nat):Bool:=p.dr.getD a false
def aq.open_ (p:aq)(a:Nat):Bool:=!p.lb a&&decide (0<p.left a)
def aq.opens (p:aq)(k:Nat):List Nat:=(List.range k).filter p.open_
def ZY (p:aq)(k:Nat):p.opens (k+1)=p.opens k++if p.open_ k then [k] else []:=by
 unfold aq.opens;rw[range_succ,filter_append];simp[filter_cons]
def ZZ (p:aq)(k:Nat):(p.opens k).length<=k:=by
 have:=List.length_filter_le p.open_ (List.range k);simpa [aq.opens] using this
def aq.pick (p:aq)(draw:Int):Int×Int :=
 if p.bR=true then (if (p.opens 3).length=0 then (0,10) else (((p.opens 3).getD (draw%((p.opens 3).length:Int)).toNat 0:Nat),0)) else (0,2)
def Zz (l:List Int)(n:Nat):List Nat:=(List.range n).filter fun k=>l.getD k 1==0
def PB (l:List Int)(n:Nat):Zz l (n+1)=Zz l n++if l.getD n 1=0 then [n] else []:=by
 unfold Zz;rw[range_succ,filter_append];simp[filter_cons]
def Fu (l:List Int):∀ n,n<=l.length->(Zz l n).length=lT (l.take n)
 | 0,_=>by simp[Zz,lT]
 | n+1,h=>by
  rw[PB,List.length_append,Fu l n af,PA l n l[n] (getElem?_eq_getElem af)];have:l.getD n 1=l[n]:=by simp[show n<l.length by omega]
  rw[this];split<;>simp
def Z0 (l:List Int)(m:Nat)(hm:m<l.length)(hx:l[m]?=some 0):∀ n,m<n->(Zz l n)[lT (l.take m)]?=some m
 | 0,h=>by omega
 | n+1,h=>by
  rw[PB];by_cases e:m=n
  ·subst e;have:l.getD m 1=0:=by simp[hx]
   rw[getElem?_append_right (by rw[Fu l m af];omega),Fu l m af,this];simp
  ·have ih:=Z0 l m hm hx n af;rw[List.getElem?_append_left (List.getElem?_eq_some_iff.1 ih).1];exact ih
def aq.put (p:aq)(a k:Nat)(o:Int):aq:={ p with own:=p.own.set (a*6+k) o }
def aq.cL (p:aq)(hp:p.wf)(a k:Nat)(o:Int):(p.put a k o).wf:=⟨by simp[aq.put,hp.own],hp.dr⟩
def aq.nG (p:aq)(a:Nat)(draw:Int):Nat:=(Zz (p.row a) 6).getD (draw%(p.left a:Int)).toNat 0
def aq.take (p:aq)(s a draw:Int):aq×Int×Int :=
 if p.bR=true then
  (if Kl a=true∧0≤s∧s < 8 then
   (if p.lb a.toNat=true then (p,0,9) else
    (if p.left a=0 then (p,0,10) else (p.put a.toNat (p.nG a.toNat draw) (s+1),(p.nG a.toNat draw:Nat),0)))
  else (p,0,7))
 else (p,0,2)
def aq.ow (p:aq)(a k:Nat):Int:=p.own.getD (a*6+k) 0
def aq.lf (p:aq)(h:p.bR=true)(a k:Nat):0<=p.ow a k/\p.ow a k<=8:=by
 unfold aq.ow;by_cases hi:a*6+k<p.own.length
 ·have:=List.all_eq_true.1 h p.own[a*6+k] (getElem_mem hi);unfold Ui at this;simp at this;simp[hi];omega
 ·simp[Nat.le_of_not_lt hi]
def aq.bV (p:aq)(s a b:Int):aq×Int :=
 if p.bR=true then (if Kl a=true/\0<=b/\b<6/\0<=s/\p.ow a.toNat b.toNat=s+1 then (p.put a.toNat b.toNat 0,0) else (p,7)) else (p,2)
def aq.oC (p:aq)(a:Nat)(to:Bool):aq:={ p with dr:=p.dr.set a to }
def aq.lg (p:aq)(hp:p.wf)(a:Nat)(to:Bool):(p.oC a to).wf:=⟨hp.own,by simp[aq.oC,hp.dr]⟩
def aq.drain (p:aq)(a:Int)(to:Bool):aq×Int :=
 if Kl a=true then (if p.lb a.toNat=to then (p,8) else (p.oC a.toNat to,0)) else (p,7)
def aq.eF (p:aq)(hp:p.wf)(a:Int)(to:Bool):(p.drain a to).1.wf:=by
 unfold aq.drain;split
 ·split
  ·exact hp
  ·exact p.lg hp _ _
 ·exact hp
def aq.pB (p:aq)(hp:p.wf)(s a b:Int):(p.bV s a b).1.wf:=by
 unfold aq.bV;split
 ·split
  ·exact p.cL hp _ _ _
  ·exact hp
 ·exact hp
def aq.jc (p:aq)(hp:p.wf)(s a d:Int):(p.take s a d).1.wf:=by
 unfold aq.take;split
 ·split
  ·split
   ·exact hp
   ·split
    ·exact hp
    ·exact p.cL hp _ _ _
  ·exact hp
 ·exact hp
def Al (a:Int)(h:Kl a=true):∃ k:Nat,a=k/\k<3:=by
 unfold Kl at h;simp at h;exact ⟨a.toNat,by omega,by omega⟩
def Yct (l:List Int)(n i:Nat)(h:i<(Zz l n).length):(Zz l n).getD i 0<n:=by
 have h2:(Zz l n).getD i 0 ∈ Zz l n:=by
  rw[getD_eq_getElem?_getD,getElem?_eq_getElem h];exact getElem_mem h
 generalize (Zz l n).getD i 0=x at h2;unfold Zz at h2;exact mem_range.1 (mem_filter.1 h2).1
def KP (p:aq)(hp:p.wf)(a k:Nat)(ha:a<3)(hk:k<6):(p.row a)[k]?=some (p.ow a k):=by
 rw[ZR p a k hk];have:a*6+k<p.own.length:=by rw[hp.own];omega
 unfold aq.ow;simp[this]
def Z4 (p:aq)(hp:p.wf)(a:Nat)(draw:Int)(ha:a<3)(hl:p.left a≠0):p.nG a draw<6/\p.ow a (p.nG a draw)=0:=by
 have hlen:(Zz (p.row a) 6).length=p.left a:=by
  rw[Fu _ 6 (by rw[Zn p hp a ha];omega),Ak p a ha,take_of_length_le (by rw[Zn p hp a ha];omega)]
 have hm:(draw%(p.left a:Int)).toNat<(Zz (p.row a) 6).length:=by
  have m0:=Int.emod_nonneg draw (show (p.left a:Int)≠0 by omega);have m1:=Int.emod_lt_of_pos draw (show (0:Int)<p.left a by omega);rw[hlen];omega
 have hk:p.nG a draw<6:=Yct _ _ _ hm;refine ⟨hk,?_⟩;have h2:p.nG a draw ∈ Zz (p.row a) 6:=by
  unfold aq.nG;rw[getD_eq_getElem?_getD,getElem?_eq_getElem hm];exact getElem_mem hm
 generalize p.nG a draw=x at hk h2 ⊢;unfold Zz at h2;have h3:=(mem_filter.1 h2).2;have h4:=KP p hp a x ha hk;rw[getD_eq_getElem?_getD,h4]at h3;simpa using h3
inductive sE (p:aq)(s a:Int):aq×Int×Int->Prop
 | no (e:Int) (he:e≠0):sE p s a (p,0,e)
 | yes (b k:Nat) (ha:a=b) (hb:b<3) (hk:k<6) (h0:0<=s) (h8:s<8) (hg:p.bR=true) (hd:p.lb b=false) (hl:p.left b≠0) (ho:p.ow b k=0):sE p s a (p.put b k (s+1),(k:Int),0)
def Fv (p:aq)(hp:p.wf)(s a draw:Int):sE p s a (p.take s a draw):=by
 unfold aq.take;split
 ·rename_i hg;split
  ·rename_i h;obtain ⟨b,rfl,hb⟩:=Al a h.1;rw[show ((b:Int)).toNat=b by omega];split
   ·exact .no 9 aJ
   ·rename_i hd;split
    ·exact .no 10 aJ
    ·rename_i hl;obtain ⟨hk,ho⟩:=Z4 p hp b draw hb hl;exact .yes b _ rfl hb hk h.2.1 h.2.2 hg (by simpa using hd) hl ho
  ·exact .no 7 aJ
 ·exact .no 2 aJ
inductive oD (p:aq):Int×Int->Prop
 | no (e:Int) (he:e≠0):oD p (0,e)
 | yes (b:Nat) (hb:b<3) (hg:p.bR=true) (hd:p.lb b=false) (hl:0<p.left b):oD p ((b:Int),0)
def Z5 (p:aq)(draw:Int):oD p (p.pick draw):=by
 unfold aq.pick;split
 ·rename_i hg;split
  ·exact .no 10 aJ
  ·rename_i hl;have hm:(draw%((p.opens 3).length:Int)).toNat<(p.opens 3).length:=by
    have m0:=Int.emod_nonneg draw (show ((p.opens 3).length:Int)≠0 by omega);have m1:=Int.emod_lt_of_pos draw (show (0:Int)<(p.opens 3).length by omega);omega
   have h2:(p.opens 3).getD (draw%((p.opens 3).length:Int)).toNat 0 ∈ p.opens 3:=by
    rw[getD_eq_getElem?_getD,getElem?_eq_getElem hm];exact getElem_mem hm
   generalize (p.opens 3).getD (draw%((p.opens 3).length:Int)).toNat 0=x at h2;unfold aq.opens at h2;have h3:=mem_filter.1 h2;have h4:=h3.2;unfold aq.open_ at h4;simp at h4;exact .yes x (mem_range.1 h3.1) hg h4.1 h4.2
 ·exact .no 2 aJ
def aq.enc (p:aq):List AV:=Ql p.own++Zp p.dr
def aq.au {p:aq}(h:p.wf):p.enc.length=21:=by simp[aq.enc,Ql,Zp,h.own,h.dr]
theorem aq.bY (p:aq)(n:Nat):ah n p.enc=True:=by simp only[aq.enc,B7,Eg,Vt,and_self]
def aq.iw {p:aq}(h:p.wf){b:Nat}(hb:b<3):p.enc.getD (18+b) .any=.bool (p.lb b):=by
 unfold aq.enc aq.lb;have e:(Ql p.own++Zp p.dr)[18+b]?=(Zp p.dr)[b]?:=by
  rw[getElem?_append_right (by rw[Xp,h.own];omega),Xp,h.own,show 18+b-18=b by omega]
 have:=NG (l:=p.dr) (i:=b) (by rw[h.dr];exact hb);simp only[List.getD]at this ⊢;rw[e,this]
def aq.ks:List SK:=List.replicate 18 (.int .i64)++List.replicate 3 .bool
def aq.kp {p:aq}(h:p.wf):p.enc.map Yt=aq.ks.map some:=by
 have e1:(Ql p.own).map Yt=(List.replicate 18 (SK.int .i64)).map some:=by
  rw[<- h.own];apply List.ext_getElem<;>simp[Ql,Yt]
 have e2:(Zp p.dr).map Yt=(List.replicate 3 SK.bool).map some:=by
  rw[<- h.dr];apply List.ext_getElem<;>simp[Zp,Yt]
 rw[aq.enc,aq.ks,map_append,map_append,e1,e2]
theorem aq.dx (p:aq)(ρ:Nat->Nat):ay ρ p.enc=p.enc:=by simp only[aq.enc,B6,Qu,Vr]
theorem aq.jd (p:aq)(s:FS):p.enc.map (Yv s)=p.enc:=by simp only[aq.enc,map_append,NH,Vu]
attribute [go_sem] aq.bY aq.dx aq.jd
structure Mp where
 ae:Int
 s:Int
 aH:Int
 a:Int
 port:Int
 deriving DecidableEq
def Mp.enc (m:Mp):List AV:=[.int .i64 m.ae,.int .i64 m.s,.int .i64 m.aH,.int .i64 m.a,.int .i64 m.port]
def cQ:Mp:=⟨0,0,0,0,0⟩
def bE (l:List Mp):List AV:=l.flatMap Mp.enc
theorem Yi (l:List Mp):(bE l).length=l.length*5:=by
 induction l with
 | nil=>rfl
 | cons e l ih=>simp[bE,Mp.enc]at ih ⊢;omega
def qw (l:List Mp)(k:Nat)(h:k<l.length):((bE l).drop (k*5)).take 5=(l[k]).enc:=by
 induction l generalizing k with
 | nil=>simp at h
 | cons e l ih =>
  cases k with
  | zero=>simp[bE,Mp.enc]
  | succ k =>
   have:=ih k (by simpa using h);have e1:bE (e::l)=e.enc++bE l:=by simp[bE]
   rw[e1,List.drop_append,List.drop_eq_nil_of_le (by simp[Mp.enc];omega)];have e2:(k+1)*5-e.enc.length=k*5:=by simp[Mp.enc];omega
   rw[e2];simpa using this
variable {cs:List AV}(gl:Nat->AV)(l:List Mp)(p:aq)(n k s i:Nat)(m:Mp)
def PD (a b:List Mp):bE a++bE b=bE (a++b):=by simp[bE]
def CR:bE l++[.int .i64 m.ae,.int .i64 m.s,.int .i64 m.aH,.int .i64 m.a,.int .i64 m.port]=bE (l++[m]):=by simp[bE,Mp.enc]
def Z6 (h:k<=l.length):(bE l).take (k*5)=bE (l.take k):=by
 have e:bE l=bE (l.take k)++bE (l.drop k):=by rw[PD,List.take_append_drop]
 rw[e,take_append_of_le_length (by rw[Yi,length_take];omega),take_of_length_le (by rw[Yi,length_take];omega)]
def PE {l:List Mp}{x:AV}(h:x ∈ bE l):∃ n,x=.int .i64 n:=by
 obtain ⟨e,_,he⟩:=List.mem_flatMap.1 h;simp[Mp.enc]at he;rcases he with rfl|rfl|rfl|rfl|rfl<;>exact ⟨_,rfl⟩
theorem PF (l:List Mp):ah n (bE l)=True:=by
 refine eq_true ?_;rw[Xw];intro x hx;obtain ⟨k,rfl⟩:=PE hx;simp[Qe]
theorem Z7 (ρ:Nat->Nat)(l:List Mp):ay ρ (bE l)=bE l:=by
 rw[Zx];refine (List.map_congr_left (g:=id) fun x hx=>?_).trans (map_id _);obtain ⟨k,rfl⟩:=PE hx;simp[aB]
theorem Yde (s:FS)(l:List Mp):(bE l).map (Yv s)=bE l:=by
 refine (List.map_congr_left (g:=id) fun x hx=>?_).trans (map_id _);obtain ⟨k,rfl⟩:=PE hx;rfl
attribute [go_sem] PF Z7 Yde Yi
structure Tb where
 ai:aq
 home:List Int
 maps:List Mp
structure Tb.wf (t:Tb):Prop where
 ai:t.ai.wf
 home:t.home.length=8
def Tb.hd (t:Tb):List AV:=t.ai.enc++Ql t.home
def Tb.bW {t:Tb}(h:t.wf):t.hd.length=29:=by simp[Tb.hd,aq.au h.ai,Xp,h.home]
theorem Tb.xG (t:Tb)(n:Nat):ah n t.hd=True:=by simp only[Tb.hd,B7,aq.bY,Eg,and_self]
theorem Tb.pC (t:Tb)(ρ:Nat->Nat):ay ρ t.hd=t.hd:=by simp only[Tb.hd,B6,aq.dx,Qu]
theorem Tb.sF (t:Tb)(s:FS):t.hd.map (Yv s)=t.hd:=by simp only[Tb.hd,map_append,aq.jd,NH]
attribute [go_sem] Tb.xG Tb.pC Tb.sF
def Tb.enc (t:Tb):List AV:=t.hd++[.isl t.maps.length (bE t.maps)]
def Tb.au {t:Tb}(h:t.wf):t.enc.length=30:=by simp[Tb.enc,Tb.bW h]
theorem Tb.bY (t:Tb)(n:Nat):ah n t.enc=True:=by simp[Tb.enc,B7,Tb.xG,ah,Qe,PF]
theorem Tb.dx (t:Tb)(ρ:Nat->Nat):ay ρ t.enc=t.enc:=by simp[Tb.enc,B6,Tb.pC,ay,aB,Z7]
theorem Tb.jd (t:Tb)(s:FS):t.enc.map (Yv s)=t.enc:=by simp[Tb.enc,map_append,Tb.sF,Yv]
attribute [go_sem] Tb.bY Tb.dx Tb.jd
def Tb.bS {t:Tb}(h:t.wf):t.enc.getD 29 .any=.isl t.maps.length (bE t.maps):=by
 unfold Tb.enc;rw[getD_eq_getElem?_getD,getElem?_append_right (by rw[Tb.bW h];decide),Tb.bW h];rfl
def Tb.cZ {t:Tb}(h:t.wf):t.enc.take 21=t.ai.enc:=by
 unfold Tb.enc Tb.hd;rw[append_assoc,take_append_of_le_length (by rw[aq.au h.ai];decide),take_of_length_le (by rw[aq.au h.ai];decide)]
def Tb.aT (t:Tb)(s:Nat):Int:=t.home.getD s 0
def Tb.dT {t:Tb}(h:t.wf){s:Nat}(hs:s<8):t.enc.getD (21+s) .any=.int .i64 (t.aT s):=by
 unfold Tb.enc Tb.hd Tb.aT;rw[append_assoc,getD_eq_getElem?_getD,getElem?_append_right (by rw[aq.au h.ai];omega),aq.au h.ai,show 21+s-21=s by omega,List.getElem?_append_left (by rw[Xp,h.home];exact hs)];have hl:s<t.home.length:=by rw[h.home];exact hs
 simp[Ql,List.getD,hl]
def Yq (port:Int):Bool:=decide (1024<=port)&&decide (port<1072)
def Xd (port:Int):Int:=if Yq port=true then (port-1024)/8 else 0
def Yu (ae s aH:Int):Bool:=(ae==1||ae==6||ae==17)&&decide (0<=s)&&decide (s<8)&&decide (0<=aH)&&decide (aH<=65535)
def Ya (ae s aH:Int)(m:Mp):Bool:=m.ae==ae&&m.s==s&&m.aH==aH
def Jd (ae a port:Int)(m:Mp):Bool:=m.ae==ae&&m.a==a&&m.port==port
def gu:Option Mp->AV
 | some m=>.aR [.agg m.enc,.bool true]
 | none=>.aR [.agg cQ.enc,.bool false]
def Xt8:FT Tryz.prog 56 Tryz.f56 (aG Tryz.prog Tryz.f56) [.t 2,.t 3,.t 4]:=.of Tryz.func56
def Xtm:FT Tryz.prog 81 Tryz.f81 (aG Tryz.prog Tryz.f81) [.t 6]:=.of Tryz.func81
def CS:FT Tryz.prog 52 Tryz.f52 (aG Tryz.prog Tryz.f52) [.t 2]:=.of Tryz.func52
def Z8:FT Tryz.prog 40 Tryz.f40 (aG Tryz.prog Tryz.f40) [.cell 8 (.ag 5),.t 9]:=.of Tryz.func40
def Z9:FT Tryz.prog 42 Tryz.f42 (aG Tryz.prog Tryz.f42) [.cell 8 (.ag 5),.t 9]:=.of Tryz.func42
def Qq9:FT Tryz.prog 126 Tryz.f126 (aG Tryz.prog Tryz.f126) [.t 4]:=.of Tryz.func126
def CT:FT Tryz.prog 89 Tryz.f89 (aG Tryz.prog Tryz.f89) [.cell 10 (.ag 30),.cell 11 (.ag 5),.t 12,.t 13]:=.of Tryz.func89
def Xi5:FT Tryz.prog 125 Tryz.f125 (aG Tryz.prog Tryz.f125) [.cell 3 (.ag 30),.cell 4 (.ag 5),.t 5,.t 6]:=.of Tryz.func125
def Yaf:FT Tryz.prog 127 Tryz.f127 (aG Tryz.prog Tryz.f127) [.cell 6 (.ag 30),.cell 7 (.ag 5),.t 8,.t 9]:=.of Tryz.func127
def KQ:FT Tryz.prog 102 Tryz.f102 (aG Tryz.prog Tryz.f102) [.cell 4 (.ag 30),.t 5,.t 6]:=.of Tryz.func102
def Qtd:FT Tryz.prog 140 Tryz.f140 (aG Tryz.prog Tryz.f140) [.t 4]:=.of Tryz.func140
def Xih:FT Tryz.prog 141 Tryz.f141 (aG Tryz.prog Tryz.f141) [.t 6]:=.of Tryz.func141
def CU:FT Tryz.prog 64 Tryz.f64 (aG Tryz.prog Tryz.f64) [.t 2]:=.of Tryz.func64
def Xxt:FT Tryz.prog 79 Tryz.f79 (aG Tryz.prog Tryz.f79) [.t 2]:=.of Tryz.func79
def PG:FT Tryz.prog 80 Tryz.f80 (aG Tryz.prog Tryz.f80) [.t 2]:=.of Tryz.func80
def Qwg:FT Tryz.prog 49 Tryz.f49 (aG Tryz.prog Tryz.f49) [.t 4]:=.of Tryz.func49
def Xib:FT Tryz.prog 163 Tryz.f163 (aG Tryz.prog Tryz.f163) [.t 4]:=.of Tryz.func163
def Qvl:FT Tryz.prog 128 Tryz.f128 (aG Tryz.prog Tryz.f128) [.t 4,.t 5]:=.of Tryz.func128
def Qzp:FT Tryz.prog 129 Tryz.f129 (aG Tryz.prog Tryz.f129) [.cell 8 (.ag 21),.t 9,.t 10]:=.of Tryz.func129
def Xyq:FT Tryz.prog 142 Tryz.f142 (aG Tryz.prog Tryz.f142) [.cell 8 (.ag 21),.t 9]:=.of Tryz.func142
def Xpj:FT Tryz.prog 103 Tryz.f103 (aG Tryz.prog Tryz.f103) [.cell 6 (.ag 21),.t 7]:=.of Tryz.func103
def Xma:FT Tryz.prog 61 Tryz.f61 (aG Tryz.prog Tryz.f61) [.cell 4 (.ag 21),.t 5]:=.of Tryz.func61
def Xd6:FT Tryz.prog 62 Tryz.f62 (aG Tryz.prog Tryz.f62) [.cell 4 (.ag 21),.t 5]:=.of Tryz.func62
def KR (a:Int):PS Tryz.prog gl 79 [.int .i64 a] (.bool (Kl a)):=by
 refine Xxt.ps (ap rfl) (by simp[Qe]) fun c hN hg=>?_
 conv in aG _ _=>cbv
 unfold Kl;exact Qp
def PH (hp:p.wf):p.enc.take 18=Ql p.own:=by
 unfold aq.enc;rw[take_append_of_le_length (by rw[Xp,hp.own];decide),take_of_length_le (by rw[Xp,hp.own];decide)]
def Fw (hp:p.wf)(a:Nat)(ha:a<3):(p.enc.drop (a*6)).take 6=Ql (p.row a):=by
 unfold aq.enc aq.row;rw[List.drop_append_of_le_length (by rw[Xp,hp.own];omega),take_append_of_le_length (by rw[List.length_drop,Xp,hp.own];omega)];simp[Ql,List.map_drop,List.map_take]
theorem PJ (a:Nat):(p.own.drop (a*6)).take 6=p.row a:=rfl
def xH (a k:Nat)(hk:k<6):(p.row a).getD k 0=p.ow a k:=by
 unfold aq.ow;rw[getD_eq_getElem?_getD,getD_eq_getElem?_getD,ZR p a k hk]
def KS (hp:p.wf):PS Tryz.prog gl 80 [.agg p.enc] (.bool p.bR):=by
 refine PG.ps (ap rfl) (by simp[Qe]) fun c hN hg=>?_
 conv in aG _ _=>cbv
 have e2:=aq.au hp;have e3:=PH p hp;refine Qd (An @e2 @e3) ?_
 refine Qv (fun a:Nat=>a≤3∧(p.own.take (a * 6)).all Ui=true) (fun a=>⟨[(8,.agg (Ql p.own)),(9,.int .i64 a)],[],0⟩) (fun a=>3 - a) PG.mixed hN
  ⟨0,⟨by omega,rfl⟩,[],by exact Qp⟩ fun a hI=>?_
 obtain ⟨ha,bl⟩:=id hI;clear hI;refine Qa ?_;refine Qc ?_ ?_<;>intro h1
 ·have jG:a < 3:=by omega
  have hr:=PJ p a;have fQ:=Zn p hp a jG;refine Qd (An @hr @hp.own) ?_
  refine Qv (fun k:Nat=>k≤6∧(p.own.take (a * 6 + k)).all Ui=true) (fun k=>⟨[(8,.agg (Ql p.own)),(9,.int .i64 a),(12,.agg (Ql (p.row a))),(13,.int .i64 k)],[],0⟩) (fun k=>6 - k) PG.mixed hN
   ⟨0,⟨by omega,bl⟩,[],by exact Qp⟩ fun k hJ=>?_
  obtain ⟨hk,fY⟩:=id hJ;clear hJ;refine Qa ?_;refine Qc ?_ ?_<;>intro h2
  ·have fo:k < 6:=by omega
   have hv:=xH p a k fo;have ho:p.own[a*6+k]?=some (p.ow a k):=by
    unfold aq.ow;rw[getD_eq_getElem?_getD,getElem?_eq_getElem (by rw[hp.own];omega)];rfl
   generalize p.ow a k=x at *
   refine Qd (An @fQ @hv) ?_;refine Qc ?_ ?_<;>intro h3
   ·have hb:Ui x=false:=h3.elim (ZV x) (ZW x);exact Qi (ZT p _ x ho hb)
   ·refine Qa ?_;refine ⟨k+1,⟨by omega,ZU p _ x ho fY (ZX x h3.1 h3.2)⟩,⟨[],?_⟩,by omega⟩;exact Qp
  ·have:k=6:=by omega
   subst this;refine Qa ?_;refine ⟨a+1,⟨by omega,by rw[show (a+1)*6=a*6+6 by omega];exact fY⟩,⟨[],?_⟩,by omega⟩;exact Qp
 ·have:a=3:=by omega
  subst this;exact Qi (ZS p bl hp)
def Qws (hp:p.wf)(a:Int):PS Tryz.prog gl 49 [.agg p.enc,.int .i64 a] (.int .i64 (p.left a)):=by
 refine Qwg.ps (ap rfl) (by simp[Qe]) fun c hN hg=>?_
 conv in aG _ _=>cbv
 have e2:=aq.au hp;have hA:=KR c.gl a;by_cases ha:Kl a=true
 ·obtain ⟨b,rfl,hb⟩:=Al a ha;rw[ha]at hA;have hr:=Fw p hp b hb;have fQ:=Zn p hp b hb;refine Qd @e2 ?_;refine Xc hA ?_;refine Yc ?_;refine Qd (An @e2 @hr) ?_
  refine Qv (fun k:Nat=>k≤6) (fun k=>⟨[(5,.int .i64 (lT ((p.row b).take k):Nat)),(13,.agg (Ql (p.row b))),(14,.int .i64 k)],[],0⟩) (fun k=>6 - k) Qwg.mixed hN
   ⟨0,by omega,[],by refine Qa ?_;rfl⟩ fun k hk=>?_
  refine Qa ?_;refine Qc ?_ ?_<;>intro h2
  ·have fo:k < 6:=by omega
   have hv:=xH p b k fo;have hs:=PA (p.row b) k (p.ow b k) (KP p hp b k hb fo);have hle:=KO (p.row b) k;generalize p.ow b k=x at *
   refine Qd (An @fQ @hv) ?_;refine Qc ?_ ?_<;>intro h3
   ·rw[am h3]at hs;refine Qa ?_;refine ⟨k+1,by omega,⟨[],?_⟩,by omega⟩;exact Qi @hs
   ·rw[aa h3]at hs;refine Qa ?_;refine ⟨k+1,by omega,⟨[],?_⟩,by omega⟩;exact Qi @hs
  ·have:k=6:=by omega
   subst this;have hf:p.left (b:Int)=lT ((p.row b).take 6):=by rw[Ak p b hb,take_of_length_le af]
   exact Qi @hf
 ·have ha:Kl a=false:=by simpa using ha
  rw[ha]at hA;have h0:=Xx3 p a ha;refine Qd @e2 ?_;refine Xc hA ?_;refine Yc ?_;exact Qi @h0
def Qqw (k n:Int)(hn:0<n)(kZ:n<=4611686018427387904):PS Tryz.prog gl 163 [.int .i64 k,.int .i64 n] (.int .i64 (k%n)):=by
 refine Xib.ps (ap rfl) (by simp[Qe]) fun c hN hg=>?_
 conv in aG _ _=>cbv
 have hb:=ZQ k n hn;have hE:=Lib.hid (Qup k n hn);refine Qa ?_;refine Qc ?_ ?_<;>intro h1
 ·have e:=hE.out;rw[am h1]at e;exact Qp
 ·have e:=hE.out;rw[aa h1]at e;exact Qp
theorem Xhf (l:List Int):lT (l.take 0)=0:=rfl
def ed (l:List Nat):List Int:=l.map fun (a:Nat)=>(a:Int)
def uo (l:List Nat):(ed l).length=l.length:=by simp[ed]
def KT (l:List Nat)(i:Nat)(h:i<l.length):(ed l).getD i 0=((l.getD i 0:Nat):Int):=by simp[ed,List.getD,h]
def KU (l:List Nat)(k:Nat):ed l++[(k:Int)]=ed (l++[k]):=by simp[ed]
def Xzr (hp:p.wf)(draw:Int):PS Tryz.prog gl 128 [.agg p.enc,.int .i64 draw] (.aR [.int .i64 (p.pick draw).1,.int .i64 (p.pick draw).2]):=by
 refine Qvl.ps (ap rfl) (by simp[Qe,ah]) fun c hN hg=>?_
 conv in aG _ _=>cbv
 have e2:=aq.au hp;have hG:=KS c.gl p hp;by_cases aX:p.bR=true;rotate_left
 ·have hr:p.pick draw=(0,2):=aa aX;have aX:p.bR=false:=by simpa using aX
  rw[aX]at hG;rw[hr];refine Qd @e2 ?_;refine Qj hG @e2 ?_;refine Yc ?_;exact Qp
 have hr:p.pick draw=(if (p.opens 3).length=0 then ((0:Int),(10:Int)) else ((((p.opens 3).getD (draw%((p.opens 3).length:Int)).toNat 0:Nat):Int),(0:Int))):=am aX;rw[aX]at hG;rw[hr];clear hr;refine Qd @e2 ?_;refine Qj hG @e2 ?_;refine Yc ?_;refine Qa ?_;refine vB 6 1 rfl rfl ?_
 refine Qv (fun k:Nat=>k≤3) (fun k=>⟨[(1,.int .i64 draw),(2,.ptr 0 0),(6,.sl 1 1 0 (p.opens k).length (p.opens k).length),(11,.int .i64 k)],[(0,.cells p.enc),(1,.cells (Ql (ed (p.opens k))))],2⟩) (fun k=>3 - k) Qvl.mixed hN
  ⟨0,by omega,[],by (have aQ:=@St.named.eq_1;refine XG ?_;clear aQ;((try with_reducible and_intros);all_goals try first|refine zm ?_|exact CL))<;>exact rfl⟩ fun k hk=>?_
 have rj:=ZZ p k;refine Qa ?_;refine Qc ?_ ?_<;>intro h2
 ·have Am:k < 3:=by omega
  have hd:=aq.iw hp Am;have hL:=Qws c.gl p hp k;have ig:=ZY p k;unfold aq.open_ at ig;have gH:=uo (p.opens k);cases vN:p.lb k with
  | true =>
   rw[vN]at hd ig;have ig:p.opens (k+1)=p.opens k:=by simpa using ig
   refine Qd (An @e2 @hd) ?_;refine Yb ?_;refine Yc ?_;refine Qa ?_;refine ⟨k+1,by omega,⟨[],?_⟩,by omega⟩;exact Qi @ig
  | false =>
   rw[vN]at hd ig;refine Qd (An @e2 @hd) ?_;refine Qj hL (An @e2 @hd) ?_;refine Qc ?_ ?_<;>intro h3
   ·have ig:p.opens (k + 1)=p.opens k++[k]:=by rw[ig];simp;omega
    have hsn:=KU (p.opens k) k;have qx:(p.opens k++[k]).length=(p.opens k).length+1:=by simp
    refine Qa ?_;refine Ke ?_;refine Yp @gH ?_;refine ⟨k+1,by omega,⟨[(1,3)],?_⟩,by omega⟩;exact Qi (An @ig (An @hsn @qx))
   ·have ig:p.opens (k + 1)=p.opens k:=by rw[ig];simp;omega
    refine Qa ?_;refine ⟨k+1,by omega,⟨[],?_⟩,by omega⟩;exact Qi @ig
 ·have:k=3:=by omega
  subst this;have gH:=uo (p.opens 3);by_cases hz:(p.opens 3).length=0
  ·rw[am hz];refine Qa ?_;refine Qc ?_ ?_<;>intro h3
   ·exact Qp
   ·omega
  ·rw[aa hz];have hC:=Qqw c.gl draw (p.opens 3).length af af;have m0:=Int.emod_nonneg draw (show ((p.opens 3).length:Int)≠0 by omega);have m1:=Int.emod_lt_of_pos draw (show (0:Int) < (p.opens 3).length by omega);have ep:=KT (p.opens 3) (draw % ((p.opens 3).length:Int)).toNat af;generalize draw % ((p.opens 3).length:Int)=d at *
   refine Qa ?_;refine Qc ?_ ?_<;>intro h3
   ·omega
   refine Qa ?_;exact vw hC (An @gH @ep)
def PL (a k:Nat)(o:Int)(h:a*6+k<p.own.length):p.enc.set (a*6+k) (.int .i64 o)=(p.put a k o).enc:=by
 unfold aq.enc aq.put;rw[List.set_append_left _ _ (by rw[Xp];exact h)];simp[Ql,map_set]
def Qyk (hp:p.wf)(a:Nat)(to:Bool):p.enc.set (18+a) (.bool to)=(p.oC a to).enc:=by
 unfold aq.enc aq.oC;rw[set_append_right _ _ (by rw[Xp,hp.own];omega),Xp,hp.own,show 18+a-18=a by omega];simp[Zp,map_set]
def Xpl (hp:p.wf)(a k:Nat)(ha:a<3)(hk:k<6):p.enc.getD (a*6+k) .any=.int .i64 (p.ow a k):=by
 have h:a*6+k<p.own.length:=by rw[hp.own];omega
 unfold aq.enc aq.ow;rw[getD_eq_getElem?_getD,List.getElem?_append_left (by rw[Xp];exact h),getD_eq_getElem?_getD];simp[Ql,h]
def lU (x:aq×Int×Int):AV:=.aR [.agg x.1.enc,.int .i64 x.2.1,.int .i64 x.2.2]
def Km (x:aq×Int):AV:=.aR [.agg x.1.enc,.int .i64 x.2]
def Qwt (hp:p.wf)(s a draw:Int):PS Tryz.prog gl 129 [.agg p.enc,.int .i64 s,.int .i64 a,.int .i64 draw] (lU (p.take s a draw)):=by
 refine Qzp.ps (ap rfl) (by simp[Qe,ah,lU,aq.bY]) fun c hN hg=>?_
 conv in aG _ _=>cbv
 have e2:=aq.au hp;have hG:=KS c.gl p hp;have hA:=KR c.gl a;by_cases aX:p.bR=true;rotate_left
 ·have hr:p.take s a draw=(p,0,2):=aa aX;have aX:p.bR=false:=by simpa using aX
  rw[aX]at hG;rw[hr];unfold lU;refine Qd @e2 ?_;refine Qj hG @e2 ?_;refine Yc ?_;exact Qi @e2
 by_cases has:Kl a=true/\0<=s/\s<8;rotate_left
 ·have hr:p.take s a draw=(p,0,7):=(am aX).trans (aa has);rw[hr];rw[aX]at hG;unfold lU;have hb:(!Kl a||decide (s<0)||decide (8<=s))=true:=by
   cases ha:Kl a
   ·rfl
   ·have:s<0\/8<=s:=by
     by_cases h1:s<0
     ·exact .inl h1
     ·exact .inr (by have:¬ (0<=s/\s<8):=fun h=>has ⟨ha,h⟩;omega)
    simpa using this
  refine Qd @e2 ?_;refine Qj hG @e2 ?_;refine Yc ?_;refine Qd @e2 ?_;refine Qj hA (An @e2 @hb) ?_;refine Yc ?_;exact Qi @e2
 obtain ⟨ha,fT,ij⟩:=has;obtain ⟨b,rfl,hb⟩:=Al a ha;have hd:=aq.iw hp hb;have hL:=Qws c.gl p hp b;by_cases iy:p.lb b=true
 ·have hr:p.take s b draw=(p,0,9):=(am aX).trans ((am ⟨ha,fT,ij⟩).trans (am (by rw[Int.toNat_natCast];exact iy)));rw[hr];rw[aX]at hG;rw[ha]at hA;rw[iy]at hd;unfold lU;refine Qd @e2 ?_;refine Qj hG @e2 ?_;refine Yc ?_;refine Qd @e2 ?_;refine Qj hA @e2 ?_;refine Qc ?_ ?_<;>intro h2
  ·omega
  refine Qd (An @e2 @hd) ?_;refine Yc ?_;exact Qi @e2
 have iy:p.lb b=false:=by simpa using iy
 by_cases PM:p.left b=0
 ·have hr:p.take s b draw=(p,0,10):=(am aX).trans ((am ⟨ha,fT,ij⟩).trans ((aa (by rw[Int.toNat_natCast,iy];simp)).trans (am PM)));rw[hr];rw[aX]at hG;rw[ha]at hA;rw[iy]at hd;rw[PM]at hL;unfold lU;refine Qd @e2 ?_;refine Qj hG @e2 ?_;refine Yc ?_;refine Qd @e2 ?_;refine Qj hA @e2 ?_;refine Qc ?_ ?_<;>intro h2
  ·omega
  refine Qd (An @e2 @hd) ?_;refine Yc ?_;refine Qd @e2 ?_;refine Qj hL @e2 ?_;refine Yc ?_;exact Qi @e2
 have hr:p.take s b draw=(p.put b (p.nG b draw) (s+1),((p.nG b draw:Nat):Int),0):=(am aX).trans ((am ⟨ha,fT,ij⟩).trans ((aa (by rw[Int.toNat_natCast,iy];simp)).trans ((aa PM).trans (by rw[Int.toNat_natCast]))));rw[hr];rw[aX]at hG;rw[ha]at hA;rw[iy]at hd;clear hr;have hC:=Qqw c.gl draw (p.left b) af (by have:=Ak p b hb;have:=KO (p.row b) 6;rw[take_of_length_le (by rw[Zn p hp b hb];omega)]at this;omega);have m0:=Int.emod_nonneg draw (show (p.left b:Int)≠0 by omega);have m1:=Int.emod_lt_of_pos draw (show (0:Int)<p.left b by omega);have PN:∀ i,i<6->p.ow b i=0->(lT ((p.row b).take i):Int)=draw%(p.left b:Int)->p.nG b draw=i:=fun i hi h0 he=>by
  have h1:=Z0 (p.row b) i (by rw[Zn p hp b hb];exact hi) (by rw[KP p hp b i hb hi,h0]) 6 hi;unfold aq.nG;rw[<- he,Int.toNat_natCast,getD_eq_getElem?_getD,h1];rfl
 have hl6:p.left b<=6:=by
  have h1:=Ak p b hb;have h2:=KO (p.row b) 6;rw[take_of_length_le (by rw[Zn p hp b hb];omega)]at h2;omega
 have qZ:((lT []:Nat):Int)=0:=rfl;have hlf:lT ((p.row b).take 6)=p.left b:=by rw[Ak p b hb,take_of_length_le (by rw[Zn p hp b hb];omega)]
 generalize draw%(p.left b:Int)=D at *
 have sG:=Fw p hp b hb;have fQ:=Zn p hp b hb;unfold lU;refine Qd @e2 ?_;refine Qj hG @e2 ?_;refine Yc ?_;refine Qd @e2 ?_;refine Qj hA @e2 ?_;refine Qc ?_ ?_<;>intro h2
 ·omega
 refine Qd (An @e2 @hd) ?_;refine Yc ?_;refine Qd @e2 ?_;refine Qj hL @e2 ?_;refine Qc ?_ ?_<;>intro h4
 ·omega
 refine Qd @e2 ?_;refine Qj hL @e2 ?_;refine Qj hC @e2 ?_;refine Qd (An @e2 @sG) ?_;have sH:∀ i,i<6->b*6+i<p.own.length:=fun i hi=>by rw[hp.own];omega
 refine Qv (fun i:Nat=>i≤6∧(lT ((p.row b).take i):Int)≤D) (fun i=>⟨[(1,.int .i64 s),(2,.int .i64 b),(4,.ptr 0 0),(8,.ptr 1 0),(11,.int .i64 (D - (lT ((p.row b).take i):Nat))),(52,.agg (Ql (p.row b))),(53,.int .i64 i)],[(0,.cells p.enc),(1,.cells [.int .i64 0,.int .i64 0,.int .i64 0,.int .i64 0,.int .i64 0,.int .i64 0,.int .i64 0,.int .i64 0,.int .i64 0,.int .i64 0,.int .i64 0,.int .i64 0,.int .i64 0,.int .i64 0,.int .i64 0,.int .i64 0,.int .i64 0,.int .i64 0,.bool false,.bool false,.bool false])],2⟩) (fun i=>6 - i) Qzp.mixed hN
  ⟨0,⟨by omega,by rw[Xhf];omega⟩,[],by exact Qi (An @qZ @Int.sub_zero)⟩ fun i hI=>?_
 obtain ⟨hi,hle⟩:=id hI;clear hI;refine Qa ?_;refine Qc ?_ ?_<;>intro h5
 ·have KV:i < 6:=by omega
  have hv:=xH p b i KV;have hs:=PA (p.row b) i (p.ow b i) (KP p hp b i hb KV);have hk2:=PN i KV;have nI:=PL p b i (s+1) (sH i KV);generalize p.ow b i=x at *
  refine Qd (An @fQ @hv) ?_;refine Qc ?_ ?_<;>intro h6
  ·rw[aa h6]at hs;refine Qa ?_;refine ⟨i+1,⟨by omega,by rw[hs];omega⟩,⟨[],?_⟩,by omega⟩;exact Qi @hs
  ·rw[am h6]at hs;refine Qa ?_;refine Qc ?_ ?_<;>intro h7
   ·have Am:=hk2 h6 af;rw[Am];have e3:=aq.au (p.cL hp b i (s+1));exact Qi (An @e2 (An @nI @e3))
   ·refine Qa ?_;refine ⟨i+1,⟨by omega,by rw[hs];omega⟩,⟨[],?_⟩,by omega⟩;exact Qi @hs
 ·have:i=6:=by omega
  subst this;omega
def Xz1 (hp:p.wf)(s a b:Int)(uZ:s<=9223372036854775806):PS Tryz.prog gl 142 [.agg p.enc,.int .i64 s,.int .i64 a,.int .i64 b] (Km (p.bV s a b)):=by
 refine Xyq.ps (ap rfl) (by simp[Qe,ah,Km,aq.bY]) fun c hN hg=>?_
 conv in aG _ _=>cbv
 have e2:=aq.au hp;have hG:=KS c.gl p hp;have hA:=KR c.gl a;by_cases aX:p.bR=true;rotate_left
 ·have hr:p.bV s a b=(p,2):=aa aX;have aX:p.bR=false:=by simpa using aX
  rw[aX]at hG;rw[hr];unfold Km;refine Qd @e2 ?_;refine Qj hG @e2 ?_;refine Yc ?_;exact Qi @e2
 rw[aX]at hG;by_cases aL:Kl a=true/\0<=b/\b<6/\0<=s;rotate_left
 ·have hr:p.bV s a b=(p,7):=(am aX).trans (aa fun h=>aL ⟨h.1,h.2.1,h.2.2.1,h.2.2.2.1⟩);rw[hr];unfold Km;have hb:(!Kl a||decide (b<0)||decide (6<=b)||decide (s<0))=true:=by
   cases ha:Kl a
   ·rfl
   ·have:(b<0\/6<=b)\/s<0:=by
     have:¬ (0<=b/\b<6/\0<=s):=fun h=>aL ⟨ha,h⟩;omega
    simpa using this
  refine Qd @e2 ?_;refine Qj hG @e2 ?_;refine Yc ?_;refine Qd @e2 ?_;refine Qj hA (An @e2 @hb) ?_;refine Yc ?_;exact Qi @e2
 obtain ⟨ha,xl,eO,fT⟩:=aL;rw[ha]at hA;obtain ⟨a,rfl,jG⟩:=Al a ha;obtain ⟨b,rfl⟩:=Int.eq_ofNat_of_zero_le xl;have hb6:b<6:=by omega
 have PO:=Xpl p hp a b jG hb6;have nI:=PL p a b 0 (by rw[hp.own];omega);have e3:=aq.au (p.cL hp a b 0);by_cases ho:p.ow a b=s+1
 ·have hr:p.bV s a b=(p.put a b 0,0):=(am aX).trans (am ⟨ha,xl,eO,fT,by rw[Int.toNat_natCast,Int.toNat_natCast];exact ho⟩);rw[hr];rw[ho]at PO;unfold Km;refine Qd @e2 ?_;refine Qj hG @e2 ?_;refine Yc ?_;refine Qd @e2 ?_;refine Qj hA (An @e2 @PO) ?_;refine Qc ?_ ?_<;>intro h2
  ·omega
  exact Qi (An @e2 (An @nI @e3))
 ·have hr:p.bV s a b=(p,7):=(am aX).trans (aa fun h=>ho (by have:=h.2.2.2.2;rwa [Int.toNat_natCast,Int.toNat_natCast]at this));rw[hr];unfold Km;generalize p.ow a b=o at *
  refine Qd @e2 ?_;refine Qj hG @e2 ?_;refine Yc ?_;refine Qd @e2 ?_;refine Qj hA (An @e2 @PO) ?_;refine Qc ?_ ?_<;>intro h2
  ·exact Qi @e2
  ·omega
def Qtg (hp:p.wf)(a:Int)(to:Bool):PS Tryz.prog gl 103 [.agg p.enc,.int .i64 a,.bool to] (Km (p.drain a to)):=by
 refine Xpj.ps (ap rfl) (by simp[Qe,ah,Km,aq.bY]) fun c hN hg=>?_
 conv in aG _ _=>cbv
 have e2:=aq.au hp;have hA:=KR c.gl a;by_cases ha:Kl a=true;rotate_left
 ·have hr:p.drain a to=(p,7):=aa ha;have ha:Kl a=false:=by simpa using ha
  rw[ha]at hA;rw[hr];unfold Km;refine Qd @e2 ?_;refine Qj hA @e2 ?_;refine Yc ?_;exact Qi @e2
 rw[ha]at hA;obtain ⟨a,rfl,jG⟩:=Al a ha;have hd:=aq.iw hp jG;have nI:=Qyk p hp a to;have e3:=aq.au (p.lg hp a to);by_cases vO:p.lb a=to
 ·have hr:p.drain a to=(p,8):=(am ha).trans (am (by rw[Int.toNat_natCast];exact vO));rw[hr];rw[vO]at hd;unfold Km;refine Qd @e2 ?_;refine Qj hA @e2 ?_;refine Yc ?_;refine Qd (An @e2 @hd) ?_;refine Yc ?_;exact Qi @e2
 ·have hr:p.drain a to=(p.oC a to,0):=(am ha).trans ((aa (by rw[Int.toNat_natCast];exact vO)).trans (by rw[Int.toNat_natCast]));rw[hr];unfold Km;generalize p.lb a=d at *
  refine Qd @e2 ?_;refine Qj hA @e2 ?_;refine Yc ?_;refine Qd (An @e2 @hd) ?_;refine Qc ?_ ?_<;>intro h2
  ·exact (vO h2).elim
  exact Qi (An @e2 (An @nI @e3))
def Xli (hp:p.wf)(a:Int):PS Tryz.prog gl 61 [.agg p.enc,.int .i64 a] (Km (p.drain a true)):=by
 refine Xma.ps (ap rfl) (by simp[Qe,ah,Km,aq.bY]) fun c hN hg=>?_
 conv in aG _ _=>cbv
 have e2:=aq.au hp;have hD:=Qtg c.gl p hp a true;have e3:=aq.au (p.eF hp a true);unfold Km at hD ⊢;refine Qd @e2 ?_;exact vw hD (An @e2 @e3)
def Xcz (hp:p.wf)(a:Int):PS Tryz.prog gl 62 [.agg p.enc,.int .i64 a] (Km (p.drain a false)):=by
 refine Xd6.ps (ap rfl) (by simp[Qe,ah,Km,aq.bY]) fun c hN hg=>?_
 conv in aG _ _=>cbv
 have e2:=aq.au hp;have hD:=Qtg c.gl p hp a false;have e3:=aq.au (p.eF hp a false);unfold Km at hD ⊢;refine Qd @e2 ?_;exact vw hD (An @e2 @e3)
def lV (port:Int):AV:=.aR [.int .i64 (Xd port),.int .i64 (if Yq port=true then (port-1024)%8 else 0),.bool (Yq port)]
def KW (port:Int)(hp:-9223372036854775808<=port/\port<=9223372036854775807):PS Tryz.prog gl 56 [.int .i64 port] (lV port):=by
 refine Xt8.ps (ap rfl) (by simp[lV,Qe,ah]) fun c hN hg=>?_
 conv in aG _ _=>cbv
 by_cases h:Yq port=true
 ·have h':=h;unfold Yq at h';simp at h';have e1:(port - 1024).tdiv 8=(port - 1024) / 8:=Int.tdiv_eq_ediv_of_nonneg af;have e2:(port - 1024).tmod 8=(port - 1024) % 8:=Int.tmod_eq_emod_of_nonneg af;unfold lV Xd;rw[am h,am h,h];refine Qa ?_;refine Qc ?_ ?_<;>intro h1
  ·omega
  exact Qi (An @e1 @e2)
 ·have h':=h;unfold Yq at h';simp at h';have hb:Yq port=false:=by simpa using h
  unfold lV Xd;rw[aa h,aa h,hb];by_cases fH:port<1024
  ·have d1:decide (port < 1024)=true:=by simpa using fH
   have e0:∃ x,IntKind.i64.wrap (port-1024)=x:=⟨_,rfl⟩
   obtain ⟨x,hx⟩:=e0;refine Qd (An @d1 @hx) ?_;refine Yc ?_;exact Qp
  ·refine Qa ?_;refine Qc ?_ ?_<;>intro h1
   ·exact Qp
   ·omega
def PQ (ae s aH:Int):PS Tryz.prog gl 81 [.int .i64 ae,.int .i64 s,.int .i64 aH] (.bool (Yu ae s aH)):=by
 refine Xtm.ps (ap rfl) (by simp[Qe]) fun c hN hg=>?_
 conv in aG _ _=>cbv
 unfold Yu;exact Qp
def Qvv (t:Tb)(ht:t.wf)(hl:t.maps.length<=4611686018427387904)(ae s aH:Int):PS Tryz.prog gl 40 [.agg t.enc,.int .i64 ae,.int .i64 s,.int .i64 aH] (gu (t.maps.find? (Ya ae s aH))):=by
 refine Z8.ps (ap rfl) (by cases t.maps.find? (Ya ae s aH)<;>simp[gu,Qe,ah,Mp.enc]) fun c hN hg=>?_
 conv in aG _ _=>cbv
 have e2:=Tb.au ht;have e3:=Tb.bS ht;have aE:=Yi t.maps;generalize hR:t.maps.find? (Ya ae s aH)=R;refine Qd (An @e2 @e3) ?_
 refine Qv (fun k:Nat=>k≤t.maps.length∧(t.maps.drop k).find? (Ya ae s aH)=R) (fun k=>⟨[(1,.int .i64 ae),(2,.int .i64 s),(3,.int .i64 aH),(8,.ptr 1 0),(13,.isl t.maps.length (bE t.maps)),(14,.int .i64 t.maps.length),(15,.int .i64 k)],[(0,.cells t.enc),(1,.cells [.int .i64 0,.int .i64 0,.int .i64 0,.int .i64 0,.int .i64 0])],2⟩) (fun k=>t.maps.length - k) Z8.mixed hN
  ⟨0,⟨by omega,by rw[List.drop_zero];exact hR⟩,[],by exact Qp⟩ fun k hI=>?_
 obtain ⟨hk,hf⟩:=id hI;clear hI;refine Qa ?_;refine Qc ?_ ?_<;>intro h1
 ·have bg:k < t.maps.length:=by omega
  have aK:=qw t.maps k bg;rw[drop_eq_getElem_cons bg,find?_cons]at hf;generalize t.maps[k]=m at *
  obtain ⟨mp,ms,mi,ma,mt⟩:=m;unfold Ya at hf;simp only[Mp.enc]at aK;dsimp only at hf;refine Qd (An @aE @aK) ?_;refine Qc ?_ ?_<;>intro h2
  ·have hc:(mp == ae && ms == s && mi == aH)=true:=by simp[h2]
   rw[hc]at hf;dsimp only at hf;subst hf;unfold gu Mp.enc;exact Qp
  ·have hc:(mp==ae&&ms==s&&mi==aH)=false:=by
    cases hb:(mp==ae&&ms==s&&mi==aH)
    ·rfl
    ·simp at hb;omega
   rw[hc]at hf;dsimp only at hf;refine Qa ?_;refine ⟨k+1,⟨by omega,hf⟩,⟨[],?_⟩,by omega⟩;exact Qp
 ·have:k=t.maps.length:=by omega
  subst this;rw[drop_length]at hf;subst hf;unfold gu cQ Mp.enc;refine Qa ?_;exact rfl
def Qzu (t:Tb)(ht:t.wf)(hl:t.maps.length<=4611686018427387904)(ae a port:Int):PS Tryz.prog gl 42 [.agg t.enc,.int .i64 ae,.int .i64 a,.int .i64 port] (gu (t.maps.find? (Jd ae a port))):=by
 refine Z9.ps (ap rfl) (by cases t.maps.find? (Jd ae a port)<;>simp[gu,Qe,ah,Mp.enc]) fun c hN hg=>?_
 conv in aG _ _=>cbv
 have e2:=Tb.au ht;have e3:=Tb.bS ht;have aE:=Yi t.maps;generalize hR:t.maps.find? (Jd ae a port)=R;refine Qd (An @e2 @e3) ?_
 refine Qv (fun k:Nat=>k≤t.maps.length∧(t.maps.drop k).find? (Jd ae a port)=R) (fun k=>⟨[(1,.int .i64 ae),(2,.int .i64 a),(3,.int .i64 port),(8,.ptr 1 0),(13,.isl t.maps.length (bE t.maps)),(14,.int .i64 t.maps.length),(15,.int .i64 k)],[(0,.cells t.enc),(1,.cells [.int .i64 0,.int .i64 0,.int .i64 0,.int .i64 0,.int .i64 0])],2⟩) (fun k=>t.maps.length - k) Z9.mixed hN
  ⟨0,⟨by omega,by rw[List.drop_zero];exact hR⟩,[],by exact Qp⟩ fun k hI=>?_
 obtain ⟨hk,hf⟩:=id hI;clear hI;refine Qa ?_;refine Qc ?_ ?_<;>intro h1
 ·have bg:k < t.maps.length:=by omega
  have aK:=qw t.maps k bg;rw[drop_eq_getElem_cons bg,find?_cons]at hf;generalize t.maps[k]=m at *
  obtain ⟨mp,ms,mi,ma,mt⟩:=m;unfold Jd at hf;simp only[Mp.enc]at aK;dsimp only at hf;refine Qd (An @aE @aK) ?_;refine Qc ?_ ?_<;>intro h2
  ·have hc:(mp == ae && ma == a && mt == port)=true:=by simp[h2]
   rw[hc]at hf;dsimp only at hf;subst hf;unfold gu Mp.enc;exact Qp
  ·have hc:(mp==ae&&ma==a&&mt==port)=false:=by
    cases hb:(mp==ae&&ma==a&&mt==port)
    ·rfl
    ·simp at hb;omega
   rw[hc]at hf;dsimp only at hf;refine Qa ?_;refine ⟨k+1,⟨by omega,hf⟩,⟨[],?_⟩,by omega⟩;exact Qp
 ·have:k=t.maps.length:=by omega
  subst this;rw[drop_length]at hf;subst hf;unfold gu cQ Mp.enc;refine Qa ?_;exact rfl
def Tb.vP {t:Tb}(h:t.wf){a:Nat}(ha:a<3):(t.enc.drop (a*6)).take 6=Ql (t.ai.row a):=by
 have e:=Fw t.ai h.ai a ha;unfold Tb.enc Tb.hd;rw[append_assoc,List.drop_append_of_le_length (by rw[aq.au h.ai];omega),take_append_of_le_length (by rw[List.length_drop,aq.au h.ai];omega),e]
def Zo (t:Tb)(s n:Nat):List Nat:=(List.range n).filter fun k=>t.ai.ow (t.aT s-1).toNat k==(s:Int)+1
def PR (t:Tb)(s n:Nat):Zo t s (n+1)=Zo t s n++if t.ai.ow (t.aT s-1).toNat n=(s:Int)+1 then [n] else []:=by
 unfold Zo;rw[range_succ,filter_append];simp[filter_cons]
def PT (t:Tb)(s n:Nat):(Zo t s n).length<=n:=by
 have:=List.length_filter_le (fun k=>t.ai.ow (t.aT s-1).toNat k==(s:Int)+1) (List.range n);simpa [Zo] using this
def xI (t:Tb)(s:Nat):AV:=if 1<=t.aT s then .isl (Zo t s 6).length (Ql (ed (Zo t s 6))) else .nils
def Ybm (t:Tb)(s:Nat):Qe n (xI t s):=by unfold xI;split<;>simp[Qe,Eg]
def Qpv (t:Tb)(ht:t.wf)(s:Nat)(hs:s<8)(h3:0<=t.aT s/\t.aT s<=3):PS Tryz.prog gl 126 [.agg t.enc,.int .i64 s] (xI t s):=by
 refine Qq9.ps (ap rfl) (Ybm 0 t s) fun c hN hg=>?_
 conv in aG _ _=>cbv
 have e2:=Tb.au ht;have eh:=Tb.dT ht hs;by_cases h1:1<=t.aT s;rotate_left
 ·have hr:xI t s=.nils:=aa h1;rw[hr];generalize t.aT s=h at *
  refine Qd (An @e2 @eh) ?_;refine Qc ?_ ?_<;>intro g1
  ·omega
  exact Qp
 have hr:xI t s=.isl (Zo t s 6).length (Ql (ed (Zo t s 6))):=am h1;rw[hr];obtain ⟨a,ha⟩:=Int.eq_ofNat_of_zero_le (show 0<=t.aT s-1 by omega);have jG:a<3:=by omega
 have uf:(t.aT s-1).toNat=a:=by omega
 have sG:=Tb.vP ht jG;have fQ:=Zn t.ai ht.ai a jG;have gR:=PR t s;have hle:=PT t s;rw[uf]at gR;have h0:Zo t s 0=[]:=rfl;generalize Zo t s=W at *
 generalize t.aT s=h at *
 refine Qd (An @e2 (An @eh @ha)) ?_;refine Qc ?_ ?_<;>intro g1;rotate_left
 ·omega
 refine Qd (An @e2 @sG) ?_;refine vB 5 1 rfl rfl ?_
 refine Qv (fun k:Nat=>k≤6) (fun k=>⟨[(1,.int .i64 s),(5,.sl 1 1 0 (W k).length (W k).length),(20,.agg (Ql (t.ai.row a))),(21,.int .i64 k)],[(0,.cells t.enc),(1,.cells (Ql (ed (W k))))],2⟩) (fun k=>6 - k) Qq9.mixed hN
  ⟨0,by omega,[],by refine Qd (An @St.named.eq_1 @h0) ?_<;>exact rfl⟩ fun k hk=>?_
 have lK:=hle k;have gH:=uo (W k);refine Qa ?_;refine Qc ?_ ?_<;>intro g2
 ·have fo:k < 6:=by omega
  have hv:=xH t.ai a k fo;have nJ:=gR k;generalize t.ai.ow a k=x at *
  refine Qd (An @fQ @hv) ?_;refine Qc ?_ ?_<;>intro g3
  ·have nJ:W (k + 1)=W k++[k]:=by rw[nJ,am g3]
   have hsn:=KU (W k) k;have qx:(W k++[k]).length=(W k).length+1:=by simp
   refine Qa ?_;refine Ke ?_;refine Yp @gH ?_;refine ⟨k+1,by omega,⟨[(1,3)],?_⟩,by omega⟩;exact Qi (An @nJ (An @hsn @qx))
  ·have nJ:W (k + 1)=W k:=by rw[nJ,aa g3,append_nil]
   refine Qa ?_;refine ⟨k+1,by omega,⟨[],?_⟩,by omega⟩;exact Qi @nJ
 ·have:k=6:=by omega
  subst this;exact Qi @gH
def Fx (m:Mp):Prop:=(-9223372036854775808<=m.ae/\m.ae<=9223372036854775807)/\(-9223372036854775808<=m.s/\m.s<=9223372036854775807)/\(-9223372036854775808<=m.aH/\m.aH<=9223372036854775807)/\(-9223372036854775808<=m.a/\m.a<=9223372036854775807)/\(-9223372036854775808<=m.port/\m.port<=9223372036854775807)
structure Tb.ok (t:Tb):Prop where
 wf:t.wf
 bd:∀ m ∈ t.maps,Fx m
 len:t.maps.length<=4611686018427387904
def Yx (m:Mp):Nat:=m.a.toNat*6+(Xd m.port).toNat
def qy (l:List Mp):List Bool:=l.foldl (fun u m=>u.set (Yx m) true) (List.replicate 18 false)
def lW (l:List Mp):List Int:=l.foldl (fun u m=>u.set m.s.toNat (u.getD m.s.toNat 0+1)) (List.replicate 8 0)
def Um (l:List Int):List Int:=l.foldl (fun u o=>if o=0 then u else u.set (o-1).toNat (u.getD (o-1).toNat 0+1)) (List.replicate 8 0)
def uq (t:Tb)(m:Mp):Prop:=Yu m.ae m.s m.aH=true/\Yq m.port=true/\0<=m.a/\m.a<3
def Up (t:Tb)(m:Mp):Prop:=uq t m/\t.aT m.s.toNat=m.a+1/\t.ai.ow m.a.toNat (Xd m.port).toNat=m.s+1
def Ys (m o:Mp):Bool:=o.ae==m.ae&&(o.a==m.a&&o.port==m.port||o.s==m.s&&o.aH==m.aH)
structure dy (t:Tb):Prop where
 ai:t.ai.bR=true
 maps:∀ i (h:i<t.maps.length),Up t t.maps[i]
 apart:∀ i j (hi:i<t.maps.length) (hj:j<i),Ys t.maps[i] (t.maps[j]'af)=false
 used:∀ i,i<18->(t.ai.own.getD i 0 != 0)=(qy t.maps).getD i false
 qz:∀ s,s<8->(Um t.ai.own).getD s 0<=2/\(lW t.maps).getD s 0<=12/\((t.aT s != 0)=decide (0<(Um t.ai.own).getD s 0))
open Classical in
noncomputable def Zr (t:Tb):Bool:=decide (dy t)
def Xjf:qy (l++[m])=(qy l).set (Yx m) true:=by unfold qy;rw[foldl_append];rfl
def Xjr:lW (l++[m])=(lW l).set m.s.toNat ((lW l).getD m.s.toNat 0+1):=by unfold lW;rw[foldl_append];rfl
def Xtf (l:List Int)(o:Int):Um (l++[o])=if o=0 then Um l else (Um l).set (o-1).toNat ((Um l).getD (o-1).toNat 0+1):=by unfold Um;rw[foldl_append];rfl
def KX {α β:Type}(f:List α->β->List α)(hf:∀ u b,(f u b).length=u.length):∀ (l:List β) (u:List α),(l.foldl f u).length=u.length
 | [],_=>rfl
 | b::l,u=>by rw[foldl_cons,KX f hf l,hf]
def Xqk:(qy l).length=18:=by unfold qy;rw[KX _ (fun u b=>length_set ..)];rfl
def Xr4:(lW l).length=8:=by unfold lW;rw[KX _ (fun u b=>length_set ..)];rfl
def Qw3 (l:List Int):(Um l).length=8:=by unfold Um;rw[KX _ (fun u b=>by split<;>simp)];rfl
def Qml {β:Type}(ix:β->Nat)(skip:β->Bool)(l:List β)(s:Nat):∀ u:List Int,(l.foldl (fun u b=>if skip b=true then u else u.set (ix b) (u.getD (ix b) 0+1)) u).getD s 0<=u.getD s 0+l.length/\u.getD s 0<=(l.foldl (fun u b=>if skip b=true then u else u.set (ix b) (u.getD (ix b) 0+1)) u).getD s 0:=by
 induction l with
 | nil=>intro u;simp
 | cons b l ih =>
  intro u;rw[foldl_cons];have h:=ih (if skip b=true then u else u.set (ix b) (u.getD (ix b) 0+1));have hu:(if skip b=true then u else u.set (ix b) (u.getD (ix b) 0+1)).getD s 0<=u.getD s 0+1/\u.getD s 0<=(if skip b=true then u else u.set (ix b) (u.getD (ix b) 0+1)).getD s 0:=by
   split
   ·omega
   ·by_cases hs:ix b=s
    ·subst hs;by_cases hl:ix b < u.length
     ·simp[List.getD,hl];omega
     ·simp[List.getD,Nat.le_of_not_lt hl]
    ·simp[List.getD,List.getElem?_set_ne hs];omega
  rw[List.length_cons];omega
def Fy:(List.replicate n (0:Int)).getD s 0=0:=by
 rw[getD_eq_getElem?_getD,List.getElem?_replicate];split<;>rfl
def Xao:0<=(lW l).getD s 0/\(lW l).getD s 0<=l.length:=by
 have:=Qml (fun m:Mp=>m.s.toNat) (fun _=>false) l s (List.replicate 8 0);rw[Fy,Int.zero_add]at this;have e:lW l=l.foldl (fun u b=>if (fun _:Mp=>false) b=true then u else u.set ((fun m:Mp=>m.s.toNat) b) (u.getD ((fun m:Mp=>m.s.toNat) b) 0+1)) (List.replicate 8 0):=rfl;rw[e];exact ⟨this.2,this.1⟩
def Xds (l:List Int)(s:Nat):0<=(Um l).getD s 0/\(Um l).getD s 0<=l.length:=by
 have:=Qml (fun o:Int=>(o-1).toNat) (fun o=>o==0) l s (List.replicate 8 0);rw[Fy,Int.zero_add]at this;have e:Um l=l.foldl (fun u b=>if (fun o:Int=>o==0) b=true then u else u.set ((fun o:Int=>(o-1).toNat) b) (u.getD ((fun o:Int=>(o-1).toNat) b) 0+1)) (List.replicate 8 0):=by
  unfold Um;congr 1;funext u o;simp
 rw[e];exact ⟨this.2,this.1⟩
def Tb.lh {t:Tb}(h:t.wf){a k:Nat}(ha:a<3)(hk:k<6):t.enc.getD (a*6+k) .any=.int .i64 (t.ai.ow a k):=by
 have e:=Xpl t.ai h.ai a k ha hk;unfold Tb.enc Tb.hd;rw[append_assoc,getD_eq_getElem?_getD,List.getElem?_append_left (by rw[aq.au h.ai];omega),<- getD_eq_getElem?_getD];exact e
open Classical in
def Fz {t:Tb}(h:dy t):Zr t=true:=decide_eq_true h
open Classical in
def CV {t:Tb}(h:¬ dy t):Zr t=false:=decide_eq_false h
def Ka {p s i:Int}(h:Yu p s i=true):(p=1\/p=6\/p=17)/\(0<=s/\s<8)/\(0<=i/\i<=65535):=by
 unfold Yu at h;simp at h;omega
def Xoy {port:Int}(h:Yq port=true):0<=Xd port/\Xd port<6/\(1024<=port/\port<1072):=by
 have h':=h;unfold Yq at h';simp at h';unfold Xd;rw[am h];omega
set_option maxRecDepth 20000 in
def FA (t:Tb)(ht:t.ok):PS Tryz.prog gl 52 [.agg t.enc] (.bool (Zr t)):=by
 refine CS.ps (ap rfl) (by simp[Qe]) fun c hN hg=>?_
 conv in aG _ _=>cbv
 have e2:=Tb.au ht.wf;have e3:=Tb.bS ht.wf;have e4:=Tb.cZ ht.wf;have hG:=KS c.gl t.ai ht.wf.ai;have aE:=Yi t.maps;have hlen:=ht.len;by_cases aX:t.ai.bR=true;rotate_left
 ·have hr:=CV (t:=t) fun h=>aX h.ai;have aX:t.ai.bR=false:=by simpa using aX
  rw[aX]at hG;refine Qd (An @e2 @e4) ?_;refine Qj hG (An @e2 @e4) ?_;refine Yc ?_;exact Qi @hr
 rw[aX]at hG;refine Qd (An @e2 @e4) ?_;refine Qj hG (An @e2 @e4) ?_;refine Yc ?_;refine Qd (An @e2 @e3) ?_
 refine Qv (fun k:Nat=>k≤t.maps.length∧(∀ i (h:i < t.maps.length),i < k→Up t t.maps[i])∧(∀ i j (hi:i < t.maps.length) (hj:j < i),i < k→Ys t.maps[i] (t.maps[j]'af)=false))
  (fun k=>⟨[(1,.ptr 0 0),(3,.ptr 1 0),(4,.ptr 2 0),(23,.isl t.maps.length (bE t.maps)),(24,.int .i64 t.maps.length),(25,.int .i64 k)],[(0,.cells t.enc),(1,.cells (Zp (qy (t.maps.take k)))),(2,.cells (Ql (lW (t.maps.take k))))],3⟩) (fun k=>t.maps.length-k) CS.mixed hN
  ⟨0,⟨by omega,fun i h h0=>by omega,fun i j hi hj h0=>by omega⟩,[],by (refine XG ?_;((try with_reducible and_intros);all_goals try first|refine zm ?_|exact CL))<;>exact rfl⟩ fun k hI=>?_
 obtain ⟨hk,aS,CW⟩:=id hI;clear hI;have PU:=Xqk (t.maps.take k);have ur:=Xr4 (t.maps.take k);refine Qa ?_;refine Qc ?_ ?_<;>intro h2
 ·have bg:k < t.maps.length:=by omega
  have aK:=qw t.maps k bg;have n5:=ht.bd _ (getElem_mem bg);have ea:t.maps.take (k+1)=t.maps.take k++[t.maps[k]]:=by rw[take_add_one,getElem?_eq_getElem bg];rfl
  have oY:=Xjf (t.maps.take k) t.maps[k];have oE:=Xjr (t.maps.take k) t.maps[k];have eG:=Xao (t.maps.take k) t.maps[k].s.toNat;rw[length_take]at eG;have FB:¬ Up t t.maps[k]->¬ dy t:=fun h h2=>h (h2.maps k bg);have FC:∀ j (hj:j<k),Ys t.maps[k] (t.maps[j]'af)=true->¬ dy t:=fun j hj h h2=>by
   have:=h2.apart k j bg hj;rw[h]at this;cases this
  have kO:Up t t.maps[k]->∀ i (h:i<t.maps.length),i<k+1->Up t t.maps[i]:=fun h i hi cU=>by
   by_cases e:i=k
   ·subst e;exact h
   ·exact aS i hi af
  have sI:(∀ j (hj:j<k),Ys t.maps[k] (t.maps[j]'af)=false)->∀ i j (hi:i<t.maps.length) (hj:j<i),i<k+1->Ys t.maps[i] (t.maps[j]'af)=false:=fun h i j hi hj cU=>by
   by_cases e:i=k
   ·subst e;exact h j hj
   ·exact CW i j hi hj af
  have PV:=Lib.hid FB;have HAP:=Lib.hid FC;have PX:=Lib.hid kO;have PY:=Lib.hid sI;clear FB FC kO sI aS CW;generalize BW:t.maps[k]=m at *
  obtain ⟨mp,ms,mi,ma,mt⟩:=m;obtain ⟨_,_,_,_,fW⟩:=n5;dsimp only at fW eG;have hB:=KW c.gl mt fW;have hK:=PQ c.gl mp ms mi;unfold lV at hB;simp only[Mp.enc]at aK;by_cases b6:Yu mp ms mi=true/\Yq mt=true/\0<=ma/\ma<3;rotate_left
  ·have eE:=CV (PV.out fun h=>b6 ⟨h.1.1,h.1.2.1,h.1.2.2.1,h.1.2.2.2⟩);have hb:(!Yu mp ms mi || !Yq mt||decide (ma<0)||decide (3<=ma))=true:=by
    cases h1:Yu mp ms mi
    ·rfl
    ·cases h2:Yq mt
     ·rfl
     ·have:ma<0\/3<=ma:=by
       have:¬ (0<=ma/\ma<3):=fun h=>b6 ⟨h1,h2,h⟩;omega
      simpa using this
   refine Qd (An @aE @aK) ?_;refine Qj hB (An @aE @aK) ?_;refine Qj hK (An @aE (An @aK @hb)) ?_;refine Yc ?_;exact Qi @eE
  obtain ⟨po,hk2,xJ,ha1⟩:=b6;obtain ⟨_,⟨fT,ij⟩,_⟩:=Ka po;obtain ⟨xl,eO,_⟩:=Xoy hk2;have b6:uq t ⟨mp,ms,mi,ma,mt⟩:=⟨po,hk2,xJ,ha1⟩
  rw[po]at hK;rw[hk2,am rfl]at hB;obtain ⟨S,rfl⟩:=Int.eq_ofNat_of_zero_le fT;obtain ⟨A,rfl⟩:=Int.eq_ofNat_of_zero_le xJ;obtain ⟨Bk,CX⟩:=Int.eq_ofNat_of_zero_le xl;have je:S<8:=by omega
  have uu:A<3:=by omega
  have PZ:Bk<6:=by omega
  have eh:=Tb.dT ht.wf je;have eo:=Tb.lh ht.wf uu PZ;have Ao:Up t ⟨mp,S,mi,A,mt⟩ ↔ t.aT S=(A:Int)+1/\t.ai.ow A Bk=(S:Int)+1:=by
   unfold Up;dsimp only;rw[Int.toNat_natCast,Int.toNat_natCast,CX,Int.toNat_natCast];exact ⟨fun h=>h.2,fun h=>⟨b6,h⟩⟩
  have uv:Yx ⟨mp,S,mi,A,mt⟩=A*6+Bk:=by
   unfold Yx;dsimp only;rw[CX,Int.toNat_natCast,Int.toNat_natCast]
  rw[uv]at oY;dsimp only at oE;rw[Int.toNat_natCast]at oE eG;rw[CX]at hB;clear b6 uv fW;generalize hUU:qy (t.maps.take k)=U at *
  generalize hMM:lW (t.maps.take k)=M at *
  generalize oF:t.aT S=ho at *
  generalize gT:t.ai.ow A Bk=ow at *
  generalize (mt-1024)%8=q at *
  refine Qd (An @aE @aK) ?_;refine Qj hB (An @aE @aK) ?_;refine Qj hK (An @aE (An @aK (An @e2 (An @eh @eo)))) ?_;refine Qc ?_ ?_<;>intro h3
  ·have eE:=CV (PV.out fun h=>by have:=Ao.1 h;omega);exact Qi @eE
  have P0:=Ao.2 ⟨by omega,by omega⟩;clear PV Ao;have hmg:(Ql M).getD S .any=.int .i64 (M.getD S 0):=B5 af;have pD:=Z6 t.maps k af;refine Qd (An @e3 (An @aE (An @PU (An @ur @hmg)))) ?_
  refine Qv (fun j:Nat=>j≤k∧∀ i (hi:i < k),i < j→Ys ⟨mp,S,mi,A,mt⟩ (t.maps[i]'af)=false)
   (fun j=>⟨[(1,.ptr 0 0),(3,.ptr 1 0),(4,.ptr 2 0),(6,.ptr 3 0),(23,.isl t.maps.length (bE t.maps)),(24,.int .i64 t.maps.length),(25,.int .i64 k),(98,.isl k (bE (t.maps.take k))),(99,.int .i64 k),(100,.int .i64 j)],[(0,.cells t.enc),(1,.cells (Zp (U.set (A*6+Bk) true))),(2,.cells (Ql (M.set S (M.getD S 0+1)))),(3,.cells [.int .i64 mp,.int .i64 S,.int .i64 mi,.int .i64 A,.int .i64 mt])],4⟩) (fun j=>k-j) CS.mixed hN
   ⟨0,⟨by omega,fun i h h0=>by omega⟩,[],by exact Qi (An @Nat.sub_zero @pD)⟩ fun j hJ=>?_
  obtain ⟨hj,br⟩:=id hJ;clear hJ;refine Qa ?_;refine Qc ?_ ?_<;>intro h4
  ·have tO:j < k:=by omega
   have mO:=qw (t.maps.take k) j (by rw[length_take];omega);rw[List.getElem_take]at mO;have Ap:(bE (t.maps.take k)).length=k*5:=by rw[Yi,length_take,Nat.min_eq_left af]
   have eE:=fun h=>CV (HAP.out j tO h);have FD:Ys ⟨mp,S,mi,A,mt⟩ (t.maps[j]'af)=false->∀ i (hi:i<k),i<j+1->Ys ⟨mp,S,mi,A,mt⟩ (t.maps[i]'af)=false:=fun h i hi gn=>by
    by_cases e:i=j
    ·subst e;exact h
    ·exact br i hi af
   have HB:=Lib.hid eE;have HN:=Lib.hid FD;clear eE FD br;generalize t.maps[j]=o at *
   obtain ⟨op,os,oi,oa,ot⟩:=o;unfold Ys at HB HN;simp only[Mp.enc]at mO;dsimp only at HB HN;generalize hKL:(op==mp&&(oa==(A:Int)&&ot==mt||os==(S:Int)&&oi==mi))=kl at *
   (have aQ:=@Ap;have bu:=@mO;have bO:=@hKL;refine XG ?_;clear aQ bu bO;((try with_reducible and_intros);all_goals try first|refine zm ?_|exact CL))
   ·intro h1 h2;rw[h1,h2];rfl
   refine Qc ?_ ?_<;>intro h5
   ·exact Qi (HB.out h5)
   ·refine Qa ?_;refine ⟨j+1,⟨by omega,HN.out h5⟩,⟨[],?_⟩,by omega⟩;exact Qp
  ·have:j=k:=by omega
   subst this;refine Qa ?_;refine ⟨j+1,⟨by omega,PX.out P0,PY.out fun i hi=>br i hi hi⟩,⟨[],?_⟩,by omega⟩;exact Qi (An @ea (An @oY @oE))
 ·have:k=t.maps.length:=by omega
  subst this;have kO:∀ i (h:i<t.maps.length),Up t t.maps[i]:=fun i h=>aS i h h;have sI:∀ i j (hi:i<t.maps.length) (hj:j<i),Ys t.maps[i] (t.maps[j]'af)=false:=fun i j hi hj=>CW i j hi hj hi;clear aS CW;rw[take_length]at PU ur;have dH:t.maps.take t.maps.length=t.maps:=take_length;have eG:=Xao t.maps;have en:(∀ i,i<18->(t.ai.own.getD i 0 != 0)=(qy t.maps).getD i false)->(∀ s,s<8->(Um t.ai.own).getD s 0<=2/\(lW t.maps).getD s 0<=12/\((t.aT s != 0)=decide (0<(Um t.ai.own).getD s 0)))->dy t:=fun a b=>⟨aX,kO,sI,a,b⟩
  have eO:∀ i,i<18->¬ ((t.ai.own.getD i 0 != 0)=(qy t.maps).getD i false)->¬ dy t:=fun i hi h h2=>h (h2.used i hi);have hb2:∀ s,s<8->¬ ((Um t.ai.own).getD s 0<=2/\(lW t.maps).getD s 0<=12/\((t.aT s != 0)=decide (0<(Um t.ai.own).getD s 0)))->¬ dy t:=fun i hi h h2=>h (h2.qz i hi);have P1:=Lib.hid en;have HB1:=Lib.hid eO;have HB2:=Lib.hid hb2;clear en eO hb2 kO sI;have e5:t.enc.take 18=Ql t.ai.own:=by
   have h1:=PH t.ai ht.wf.ai;rw[<- e4,List.take_take]at h1;exact h1
  have rj:=ht.wf.ai.own;refine Qd (An @dH (An @e2 @e5)) ?_;generalize hUU:qy t.maps=U at *
  generalize hMM:lW t.maps=M at *
  refine Qv (fun a:Nat=>a≤3∧∀ i,i < a * 6→(t.ai.own.getD i 0 != 0)=U.getD i false)
   (fun a=>⟨[(1,.ptr 0 0),(3,.ptr 1 0),(4,.ptr 2 0),(12,.ptr 3 0),(141,.agg (Ql t.ai.own)),(142,.int .i64 a)],[(0,.cells t.enc),(1,.cells (Zp U)),(2,.cells (Ql M)),(3,.cells (Ql (Um (t.ai.own.take (a*6)))))],4⟩) (fun a=>3-a) CS.mixed hN
   ⟨0,⟨by omega,fun i h=>by omega⟩,[],by refine Qa ?_<;>exact rfl⟩ fun a hI=>?_
  obtain ⟨ha,oY⟩:=id hI;clear hI;refine Qa ?_;refine Qc ?_ ?_<;>intro h3
  ·have jG:a < 3:=by omega
   have hr:=PJ t.ai a;have fQ:=Zn t.ai ht.wf.ai a jG;refine Qd (An @hr @rj) ?_
   refine Qv (fun k:Nat=>k≤6∧∀ i,i < a * 6 + k→(t.ai.own.getD i 0 != 0)=U.getD i false)
    (fun k=>⟨[(1,.ptr 0 0),(3,.ptr 1 0),(4,.ptr 2 0),(12,.ptr 3 0),(13,.int .i64 a),(141,.agg (Ql t.ai.own)),(142,.int .i64 a),(146,.agg (Ql (t.ai.row a))),(147,.int .i64 k)],[(0,.cells t.enc),(1,.cells (Zp U)),(2,.cells (Ql M)),(3,.cells (Ql (Um (t.ai.own.take (a*6+k)))))],4⟩) (fun k=>6-k) CS.mixed hN
    ⟨0,⟨by omega,fun i h=>oY i af⟩,[],by exact Qi @Nat.add_zero⟩ fun k hJ=>?_
   obtain ⟨hk,qA⟩:=id hJ;clear hJ;refine Qa ?_;refine Qc ?_ ?_<;>intro h4
   ·have fo:k < 6:=by omega
    have sJ:a*6+k<18:=by omega
    have hv:=xH t.ai a k fo;have hog:=aq.lf t.ai aX a k;have eE:=HB1.out (a*6+k) sJ;have hsn:=Xtf (t.ai.own.take (a*6+k)) (t.ai.ow a k);have ea:t.ai.own.take (a*6+k+1)=t.ai.own.take (a*6+k)++[t.ai.ow a k]:=by
     rw[take_add_one,getElem?_eq_getElem (by rw[rj];exact sJ)];unfold aq.ow;rw[getD_eq_getElem?_getD,getElem?_eq_getElem (by rw[rj];exact sJ)];rfl
    have hbl:=Qw3 (t.ai.own.take (a*6+k));have BJ:=Xds (t.ai.own.take (a*6+k)) (t.ai.ow a k-1).toNat;have P2:(t.ai.own.take (a*6+k)).length=a*6+k:=by rw[length_take,rj];omega
    have Aq:(t.ai.own.getD (a*6+k) 0 != 0)=U.getD (a*6+k) false->∀ i,i<a*6+(k+1)->(t.ai.own.getD i 0 != 0)=U.getD i false:=fun h i hi=>by
     by_cases e:i=a*6+k
     ·subst e;exact h
     ·exact qA i af
    have gT:t.ai.own.getD (a*6+k) 0=t.ai.ow a k:=rfl;rw[gT]at eE Aq;rw[<- ea]at hsn;rw[P2]at BJ;have HBD:=Lib.hid eE;have HU3:=Lib.hid Aq;clear eE Aq qA oY gT ea;generalize Um (t.ai.own.take (a*6+k))=W at *
    generalize qg:Um (t.ai.own.take (a*6+k+1))=W2 at *
    generalize t.ai.ow a k=o at *
    have hxu:∀ x,U.getD (a*6+k) false=x->(Zp U).getD (a*6+k) .any=.bool x:=fun x e=>by rw[<- e];exact NG af
    have hug:=hxu _ rfl;generalize U.getD (a*6+k) false=u at *
    refine Qd (An @fQ (An @PU (An @hv @hug))) ?_;refine Qc ?_ ?_<;>intro h5
    ·exact Qi (CV (HBD.out h5))
    have h6:=HU3.out (by simpa using h5);clear HBD HU3;refine Qa ?_;have lX:a*6+(k+1)=a*6+k+1:=by omega
    refine Qc ?_ ?_<;>intro h7
    ·rw[aa h7]at hsn;obtain ⟨N,xj⟩:=Int.eq_ofNat_of_zero_le (show 0≤o - 1 by omega);have hN8:N < 8:=by omega
     rw[xj,Int.toNat_natCast]at hsn BJ;have hwg:(Ql W).getD N .any=.int .i64 (W.getD N 0):=B5 af;refine Qd (An @xj (An @hbl @hwg)) ?_;refine ⟨k+1,⟨by omega,h6⟩,⟨[],?_⟩,by omega⟩;exact Qi (An @lX (An @qg @hsn))
    ·rw[am af]at hsn;refine Qa ?_;refine ⟨k+1,⟨by omega,h6⟩,⟨[],?_⟩,by omega⟩;exact Qi (An @lX (An @qg @hsn))
   ·have:k=6:=by omega
    subst this;refine Qa ?_;refine ⟨a+1,⟨by omega,fun i hi=>qA i af⟩,⟨[],?_⟩,by omega⟩;have e6:(a+1)*6=a*6+6:=by omega
    exact Qi @e6
  ·have:a=3:=by omega
   subst this;have e7:t.ai.own.take (3*6)=t.ai.own:=take_of_length_le af;have n5:=Xds t.ai.own;have hbl:=Qw3 t.ai.own;have qA:∀ i,i<18->(t.ai.own.getD i 0 != 0)=U.getD i false:=fun i h=>oY i af;have FE:=P1.out qA;have P1:=Lib.hid FE;clear FE oY qA HB1 hUU hMM;rw[rj]at n5;generalize hWW:Um t.ai.own=W at *
   have oF:∀ s,s<8->t.enc.getD (21+s) .any=.int .i64 (t.aT s):=fun s hs=>Tb.dT ht.wf hs;refine Qd (An @e7 @hWW) ?_
   refine Qv (fun s:Nat=>s≤8∧∀ i,i < s→(W.getD i 0≤2∧M.getD i 0≤12∧(t.aT i != 0)=decide (0 < W.getD i 0)))
    (fun s=>⟨[(1,.ptr 0 0),(3,.ptr 1 0),(4,.ptr 2 0),(12,.ptr 3 0),(169,.int .i64 s)],[(0,.cells t.enc),(1,.cells (Zp U)),(2,.cells (Ql M)),(3,.cells (Ql W))],4⟩) (fun s=>8-s) CS.mixed hN
    ⟨0,⟨by omega,fun i h=>by omega⟩,[],by exact Qp⟩ fun s hI=>?_
   obtain ⟨hs,uw⟩:=id hI;clear hI;refine Qa ?_;refine Qc ?_ ?_<;>intro h4
   ·have lY:s < 8:=by omega
    have eE:=fun h=>CV (HB2.out s lY h);have FF:(W.getD s 0<=2/\M.getD s 0<=12/\(t.aT s != 0)=decide (0<W.getD s 0))->∀ i,i<s+1->(W.getD i 0<=2/\M.getD i 0<=12/\(t.aT i != 0)=decide (0<W.getD i 0)):=fun h i hi=>by
     by_cases e:i=s
     ·subst e;exact h
     ·exact uw i af
    have HB:=Lib.hid eE;have HN:=Lib.hid FF;clear eE FF uw;have hw:(Ql W).getD s .any=.int .i64 (W.getD s 0):=B5 af;have hm:(Ql M).getD s .any=.int .i64 (M.getD s 0):=B5 af;have hh:=oF s lY;have eO:=n5 s;have hb2:=eG s;generalize W.getD s 0=x at *
    generalize M.getD s 0=y at *
    generalize t.aT s=z at *
    refine Qd (An @hw (An @hm (An @hh (An @hbl (An @ur @e2))))) ?_;refine Qc ?_ ?_<;>intro h5
    ·have h6:¬(x<=2/\y<=12/\(z != 0)=decide (0<x)):=fun ⟨p,q,r⟩=>h5.elim (fun h=>by omega) (fun h=>h r);exact Qi (HB.out h6)
    ·obtain ⟨⟨h6,h7⟩,h8⟩:=h5;refine Qa ?_;refine ⟨s+1,⟨by omega,HN.out ⟨by omega,by omega,h8⟩⟩,⟨[],?_⟩,by omega⟩;exact Qp
   ·have:s=8:=by omega
    subst this;exact Qi (Fz (P1.out uw))
def Xjl:Tryz.prog.underlying 37=some (.slice 69):=by kernel_rfl
def CY {c:Cx}{ne:Bool}{x:TV}{v:AV}{b:Bool}(hb:tY v=some b):EC Tryz.prog c (.cA ne 37) [x,.c .nils] [v,.nils] (.bool (ne != b)):=Xuy Xjl hb
def Xv7 (cap:Nat):GS Tryz.prog gl 64 [.lit (.slice none 0 cap)] [] 0 .nils [] 0:=by
 refine CU.gs (ap rfl) av fun c hN hg=>?_
 conv in aG _ _=>cbv
 refine Qa ?_;refine Cn ?_ (CY (b:=true) (show tY (.lit (.slice none 0 cap))=some true from rfl)) ?_
 ·exact Qp
 refine Qa ?_;refine Yc ?_;refine Qa ?_;exact ⟨[],by exact Qp⟩
def Xhy (a:Addr)(cap:Nat):GS Tryz.prog gl 64 [.lit (.slice (some a) 0 cap)] [] 0 (.sl 5 0 0 0 0) [(0,.cells [])] 1:=by
 refine CU.gs (ap rfl) av fun c hN hg=>?_
 conv in aG _ _=>cbv
 refine Qa ?_;refine Cn ?_ (CY (b:=false) (show tY (.lit (.slice (some a) 0 cap))=some false from rfl)) ?_
 ·exact Qp
 refine Qa ?_;refine Yc ?_;refine Qa ?_;refine Qj I0 @List.length_nil.{0} ?_;refine Ke ?_;refine ⟨[(0,0)],?_⟩;exact Qp
def Qyy (hn:l.length<=1000000):GS Tryz.prog gl 64 [.isl l.length (bE l)] [] 0 (.sl 5 0 0 l.length l.length) [(0,.cells (bE l))] 1:=by
 have hl:=Yi l;cases l with
 | nil=>exact GS.empty (Xv7 gl) (Xhy gl)
 | cons x l =>
 have P3:tY (.isl (x::l).length (bE (x::l)))=some false:=rfl;generalize x::l=l at *
 refine CU.gs (ap rfl) av fun c hN hg=>?_
 conv in aG _ _=>cbv
 refine Qa ?_;refine Cn ?_ (CY (b:=false) P3) ?_
 ·exact Qp
 refine Qa ?_;refine Yc ?_;refine Qa ?_;refine Xc I0 ?_;refine Yp @hl ?_;refine ⟨[(0,0)],?_⟩;exact Qp
def Tb.jf {t:Tb}(h:t.wf)(x:AV):t.enc.set 29 x=t.hd++[x]:=by
 unfold Tb.enc;rw[set_append_right _ _ (by rw[Tb.bW h];exact Nat.le_refl _),Tb.bW h];rfl
def Tb.oG (t:Tb)(h:t.wf)(x:AV):(t.hd++[x]).length=30:=by simp[Tb.bW h]
def Tb.add (t:Tb)(m:Mp):Tb:={ t with maps:=t.maps++[m] }
def Xr (t:Tb)(m:Mp)(b:Bool)(e:Int):AV:=.aR [.agg t.enc,.agg m.enc,.bool b,.int .i64 e]
def P4 (t:Tb)(ht:t.wf)(hl:t.maps.length<=100000)(m:Mp)(b:Bool):PS Tryz.prog gl 127 [.agg t.enc,.agg m.enc,.bool b] (Xr (t.add m) m b 0):=by
 refine Yaf.ps (ap rfl) (by simp[Qe,ah,Xr,Tb.bY,Mp.enc]) fun c hN hg=>?_
 conv in aG _ _=>cbv
 have e2:=Tb.au ht;have e3:=Tb.bS ht;have aE:=Yi t.maps;have hs:=Tb.jf ht;have jb:=Tb.oG t ht;unfold Mp.enc;refine Qd (An @e2 @e3) ?_
 (have zC:=(Qyy c.gl t.maps af);refine Jo (ip []) zC (An @e2 @e3) ?_;clear zC)
 refine Ke ?_;refine Yp @aE ?_;refine Qd (An @hs (An @e2 @jb)) ?_;have hq:Xr (t.add m) m b 0=.aR [.agg (t.hd++[.isl (t.maps.length+1) (bE t.maps++[.int .i64 m.ae,.int .i64 m.s,.int .i64 m.aH,.int .i64 m.a,.int .i64 m.port])]),.agg [.int .i64 m.ae,.int .i64 m.s,.int .i64 m.aH,.int .i64 m.a,.int .i64 m.port],.bool b,.int .i64 0]:=by
  rw[CR];simp[Xr,Tb.add,Tb.enc,Tb.hd,Mp.enc]
 have ea:(bE t.maps++[AV.int .i64 m.ae,.int .i64 m.s,.int .i64 m.aH,.int .i64 m.a,.int .i64 m.port]).take ((t.maps.length+1)*5)=bE t.maps++[.int .i64 m.ae,.int .i64 m.s,.int .i64 m.aH,.int .i64 m.a,.int .i64 m.port]:=take_of_length_le (by simp[Yi];omega);rw[hq,map_append];exact Qi @ea
theorem KY (t:Tb)(m:Mp)(b:Bool)(e:Int)(n:Nat):Qe n (Xr t m b e)=True:=by simp[Qe,ah,Xr,Tb.bY,Mp.enc]
theorem Qzh (t:Tb)(m:Mp)(b:Bool)(e:Int)(ρ:Nat->Nat):aB ρ (Xr t m b e)=Xr t m b e:=by simp[aB,ay,Xr,Tb.dx,Mp.enc]
attribute [go_sem] KY Qzh
def Ar (t:Tb)(ht:t.wf)(e:Int):GS Tryz.prog gl 125 [.int .i64 e,.ptr 0 0] [(0,.cells t.enc)] 1 (Xr t cQ false e) [(0,.cells t.enc)] 1:=by
 refine Xi5.gs (ap rfl) (by simp[Bk.live]) fun c hN hg=>?_
 conv in aG _ _=>cbv
 have e2:=Tb.au ht;refine Qd @e2 ?_;refine ⟨[],?_⟩;refine Qa ?_;rfl
def Tb.gU {t:Tb}(h:t.wf){p:aq}(hp:p.wf):Ym t.enc 0 p.enc=(⟨p,t.home,t.maps⟩:Tb).enc:=by
 unfold Ym Tb.enc Tb.hd;rw[List.take_zero,nil_append,aq.au hp,append_assoc,append_assoc,Nat.zero_add,<- aq.au h.ai,List.drop_left]
def Tb.gV {t:Tb}(h:t.wf){s:Nat}(hs:s<8)(x:Int):t.enc.set (21+s) (.int .i64 x)=(⟨t.ai,t.home.set s x,t.maps⟩:Tb).enc:=by
 unfold Tb.enc Tb.hd;rw[append_assoc,set_append_right _ _ (by rw[aq.au h.ai];omega),aq.au h.ai,show 21+s-21=s by omega,List.set_append_left _ _ (by rw[Xp,h.home];exact hs),append_assoc];simp[Ql,map_set]
def Ye (l:List Mp)(s:Int):Nat:=l.countP fun m=>m.s==s
def Zq (k:Nat):List Int:=(List.range 8).map fun (i:Nat)=>1024+(k:Int)*8+(i:Int)
def mP (t:Tb)(ae a port:Int):Bool:=(t.maps.find? (Jd ae a port)).isNone
def Jm (t:Tb)(ae a:Int)(l:List Nat):Option Int:=(l.flatMap Zq).find? (mP t ae a)
def Jt (t:Tb)(s:Nat):List Nat:=if 1<=t.aT s then Zo t s 6 else []
def Tb.tk (t:Tb)(ae s aH a draw:Int):Tb×Mp×Bool×Int :=
 if (t.ai.take s a draw).2.2≠0 then (t,cQ,false,(t.ai.take s a draw).2.2) else
 (Tb.add ⟨(t.ai.take s a draw).1,t.home.set s.toNat (a+1),t.maps⟩ ⟨ae,s,aH,a,1024+(t.ai.take s a draw).2.1*8⟩,⟨ae,s,aH,a,1024+(t.ai.take s a draw).2.1*8⟩,true,0)
noncomputable def Tb.cd (t:Tb)(ae s aH draw:Int):Tb×Mp×Bool×Int :=
 if Zr t=false\/Yu ae s aH=false then (t,cQ,false,2) else
 match t.maps.find? (Ya ae s aH) with
 | some m=>(t,m,false,0)
 | none =>
  if 12<=Ye t.maps s then (t,cQ,false,6) else
  match Jm t ae (t.aT s.toNat-1) (Jt t s.toNat) with
  | some port=>(t.add ⟨ae,s,aH,t.aT s.toNat-1,port⟩,⟨ae,s,aH,t.aT s.toNat-1,port⟩,false,0)
  | none =>
   if 2<=(Jt t s.toNat).length then (t,cQ,false,6) else
   if 1<=t.aT s.toNat then t.tk ae s aH (t.aT s.toNat-1) draw else
   if (t.ai.pick draw).2≠0 then (t,cQ,false,(t.ai.pick draw).2) else t.tk ae s aH (t.ai.pick draw).1 draw
def Uf (x:Tb×Mp×Bool×Int):AV:=Xr x.1 x.2.1 x.2.2.1 x.2.2.2
set_option maxRecDepth 20000 in
def Xob (t:Tb)(ht:t.ok)(ae s aH draw:Int)(h:Zr t=false\/Yu ae s aH=false):PS Tryz.prog gl 89 [.agg t.enc,.int .i64 ae,.int .i64 s,.int .i64 aH,.int .i64 draw] (Xr t cQ false 2):=by
 refine CT.ps (ap rfl) (by simp[KY]) fun c hN hg=>?_
 conv in aG _ _=>cbv
 have e2:=Tb.au ht.wf;have hG:=FA c.gl t ht;have hK:=PQ c.gl ae s aH;by_cases aX:Zr t=true
 ·rw[aX]at hG;have hk:Yu ae s aH=false:=h.resolve_left (by rw[aX];simp);rw[hk]at hK;refine Qd @e2 ?_;refine Qj hG @e2 ?_;refine Qj hK @e2 ?_;refine Yc ?_;refine Qa ?_;exact Kd (ip [0]) (Ar c.gl t ht.wf 2) (An @e2 (An @Xr.eq_1 (An @Mp.enc.eq_1 @cQ.eq_1)))
 ·have aX:Zr t=false:=by simpa using aX
  rw[aX]at hG;refine Qd @e2 ?_;refine Qj hG @e2 ?_;refine Yb ?_;refine Yc ?_;refine Qa ?_;exact Kd (ip [0]) (Ar c.gl t ht.wf 2) (An @e2 (An @Xr.eq_1 (An @Mp.enc.eq_1 @cQ.eq_1)))
def Qmp {β:Type}(ix:β->Nat)(skip:β->Bool)(l:List β)(s:Nat):∀ u:List Int,s<u.length->(l.foldl (fun u b=>if skip b=true then u else u.set (ix b) (u.getD (ix b) 0+1)) u).getD s 0=u.getD s 0+l.countP (fun b=>!skip b&&ix b==s):=by
 induction l with
 | nil=>intro u _;simp
 | cons b l ih =>
  intro u hu;rw[foldl_cons,ih _ (by split<;>simpa using hu),countP_cons];by_cases hk:skip b=true
  ·simp[hk]
  ·have hk:skip b=false:=by simpa using hk
   by_cases hs:ix b=s
   ·subst hs;simp[hk,List.getD,hu];omega
   ·simp[hk,hs,List.getD,List.getElem?_set_ne hs]
def Qx5 (hs:s<8):(lW l).getD s 0=l.countP (fun m=>m.s.toNat==s):=by
 have h:=Qmp (fun m:Mp=>m.s.toNat) (fun _=>false) l s (List.replicate 8 0) (by simpa using hs);rw[Fy,Int.zero_add]at h;have e:lW l=l.foldl (fun u b=>if (fun _:Mp=>false) b=true then u else u.set ((fun m:Mp=>m.s.toNat) b) (u.getD ((fun m:Mp=>m.s.toNat) b) 0+1)) (List.replicate 8 0):=rfl;rw[e,h];simp
def Xfi (l:List Int)(s:Nat)(hs:s<8):(Um l).getD s 0=l.countP (fun o=>!(o==0)&&(o-1).toNat==s):=by
 have h:=Qmp (fun o:Int=>(o-1).toNat) (fun o=>o==0) l s (List.replicate 8 0) (by simpa using hs);rw[Fy,Int.zero_add]at h;have e:Um l=l.foldl (fun u b=>if (fun o:Int=>o==0) b=true then u else u.set ((fun o:Int=>(o-1).toNat) b) (u.getD ((fun o:Int=>(o-1).toNat) b) 0+1)) (List.replicate 8 0):=by
  unfold Um;congr 1;funext u o;simp
 rw[e,h]
def P5 (hi:i<18):(qy l).getD i false=l.any (fun m=>Yx m==i):=by
 suffices h:∀ (l:List Mp) (u:List Bool),i<u.length->(l.foldl (fun u m=>u.set (Yx m) true) u).getD i false=(u.getD i false||l.any (fun m=>Yx m==i)) by
  have:=h l (List.replicate 18 false) (by simpa using hi);unfold qy;rw[this];have e:(List.replicate 18 false).getD i false=false:=by rw[getD_eq_getElem?_getD,List.getElem?_replicate,am hi];rfl
  rw[e,Bool.false_or]
 intro l
 induction l with
 | nil=>intro u _;simp
 | cons m l ih =>
  intro u hu;rw[foldl_cons,ih _ (by simpa using hu),any_cons];by_cases hm:Yx m=i
  ·subst hm;simp[List.getD,hu]
  ·have e:(Yx m == i)=false:=by simpa using hm
   simp[List.getD,List.getElem?_set_ne hm,e]
def vQ (t:Tb):Zr t=true ↔ dy t:=by unfold Zr;simp
def Xoj {t:Tb}(h:dy t){i:Nat}(hi:i<18)(ho:t.ai.own.getD i 0≠0):∃ m ∈ t.maps,Up t m/\Yx m=i/\t.ai.own.getD i 0=m.s+1/\0<=m.s/\m.s<8:=by
 have h1:=h.used i hi;rw[P5 _ _ hi]at h1;have h2:(t.ai.own.getD i 0 != 0)=true:=by simpa using ho
 rw[h2]at h1;obtain ⟨m,hm,he⟩:=List.any_eq_true.1 h1.symm;have he:Yx m=i:=by simpa using he
 obtain ⟨k,hk,rfl⟩:=getElem_of_mem hm;have aS:=h.maps k hk;obtain ⟨_,⟨h3,h4⟩,_⟩:=Ka aS.1.1;refine ⟨_,hm,aS,he,?_,h3,h4⟩;have:=aS.2.2;unfold aq.ow at this;rw[<- this];congr 1;rw[<- he];rfl
def Tb.jH {t:Tb}(h:dy t)(hw:t.wf){s:Nat}(hs:s<8):0<=t.aT s/\t.aT s<=3:=by
 by_cases h0:t.aT s=0
 ·omega
 have h1:=(h.qz s hs).2.2;rw[Xfi _ _ hs]at h1;have h2:(t.aT s != 0)=true:=by simpa using h0
 rw[h2]at h1;have h3:=ap h1.symm;have h3:0<t.ai.own.countP (fun o=>!(o==0)&&(o-1).toNat==s):=by omega
 obtain ⟨o,ho,hp⟩:=List.countP_pos_iff.1 h3;obtain ⟨i,hi,rfl⟩:=getElem_of_mem ho;have sJ:i<18:=by have:=hw.ai.own;omega
 have aX:t.ai.own.getD i 0=t.ai.own[i]:=by rw[getD_eq_getElem?_getD,getElem?_eq_getElem hi];rfl
 simp at hp;obtain ⟨m,hm,aS,_,he,Fa,lQ⟩:=Xoj h sJ (by rw[aX];exact hp.1);rw[aX]at he;have:m.s=(s:Int):=by omega
 have hh:=aS.2.1;rw[this]at hh;have ha:=aS.1.2.2;simp at hh;omega
def Xkf (h:∀ m ∈ l,m.s.toNat<8):l.length=((List.range 8).map fun s=>l.countP fun m=>m.s.toNat==s).sum:=by
 induction l with
 | nil=>rfl
 | cons m l ih =>
  have h1:=ih fun m hm=>h m (List.mem_cons_of_mem _ hm);have h2:=h m (List.mem_cons_self ..);have e:(List.range 8)=[0,1,2,3,4,5,6,7]:=rfl;rw[e]at h1 ⊢;simp only[map_cons,map_nil,sum_cons,sum_nil,countP_cons,List.length_cons]at h1 ⊢;generalize m.s.toNat=q at *
  rcases (by omega:q=0\/q=1\/q=2\/q=3\/q=4\/q=5\/q=6\/q=7) with rfl|rfl|rfl|rfl|rfl|rfl|rfl|rfl<;>simp<;>omega
def uz {t:Tb}(h:dy t):t.maps.length<=96:=by
 have hs:∀ m ∈ t.maps,m.s.toNat<8:=fun m hm=>by
  obtain ⟨k,hk,rfl⟩:=getElem_of_mem hm;obtain ⟨_,⟨h3,h4⟩,_⟩:=Ka (h.maps k hk).1.1;omega
 rw[Xkf _ hs];have hb:∀ s,s<8->t.maps.countP (fun m=>m.s.toNat==s)<=12:=fun s hs=>by
  have:=(h.qz s hs).2.1;rw[Qx5 _ _ hs]at this;omega
 have e:(List.range 8)=[0,1,2,3,4,5,6,7]:=rfl;rw[e];simp only[map_cons,map_nil,sum_cons,sum_nil];have h0:=hb 0 af;have h1:=hb 1 af;have h2:=hb 2 af;have h3:=hb 3 af;have h4:=hb 4 af;have h5:=hb 5 af;have h6:=hb 6 af;have h7:=hb 7 af;omega
def Qtc (h:k<l.length)(s:Int):Ye (l.take (k+1)) s=Ye (l.take k) s+(if l[k].s=s then 1 else 0):=by
 have e:l.take (k+1)=l.take k++[l[k]]:=by rw[take_add_one,getElem?_eq_getElem h];rfl
 unfold Ye;rw[e,List.countP_append];by_cases h2:l[k].s=s<;>simp[h2]
def P6 (s:Int):Ye (l.take k) s<=k:=by
 unfold Ye;have:=List.countP_le_length (p:=fun m:Mp=>m.s==s) (l:=l.take k);rw[length_take]at this;omega
def eL:List AV:=[(.int .i64 0),(.int .i64 0),(.int .i64 0),(.int .i64 0),(.int .i64 0),(.int .i64 0),(.int .i64 0),(.int .i64 0),(.int .i64 0),(.int .i64 0),(.int .i64 0),(.int .i64 0),(.int .i64 0),(.int .i64 0),(.int .i64 0),(.int .i64 0),(.int .i64 0),(.int .i64 0),(.bool false),(.bool false),(.bool false),(.int .i64 0),(.int .i64 0),(.int .i64 0),(.int .i64 0),(.int .i64 0),(.int .i64 0),(.int .i64 0),(.int .i64 0),.nils]
def z5:List AV:=[(.int .i64 0),(.int .i64 0),(.int .i64 0),(.int .i64 0),(.int .i64 0)]
def Yh6:ah n eL=True:=by simp[eL,ah,Qe]
def Yi2:ah n z5=True:=by simp[z5,ah,Qe]
theorem Xwc (ρ:Nat->Nat):ay ρ eL=eL:=by simp[eL,ay,aB]
theorem Yeh (ρ:Nat->Nat):ay ρ z5=z5:=by simp[z5,ay,aB]
theorem Xzf (s:Int):Ye [] s=0:=rfl
attribute [go_sem] Yh6 Yi2 Xwc Yeh Xzf
def Qwz (t:Tb)(ae a:Int)(r:List Int)(i:Nat)(h:i<8):((Zq k).drop i++r).find? (mP t ae a)=if mP t ae a (1024+(k:Int)*8+i)=true then some (1024+(k:Int)*8+i) else ((Zq k).drop (i+1)++r).find? (mP t ae a):=by
 have hl:i<(Zq k).length:=by simpa [Zq] using h
 rw[drop_eq_getElem_cons hl,List.cons_append,find?_cons];have e:(Zq k)[i]=1024+(k:Int)*8+i:=by simp[Zq]
 rw[e];split<;>rename_i h<;>simp[h]
def Ycr {t:Tb}{s n k:Nat}(h:k ∈ Zo t s n):k<n:=by
 unfold Zo at h;exact mem_range.1 (mem_filter.1 h).1
set_option maxRecDepth 20000 in
def Xzg (gl:Nat->AV)(t:Tb)(ht:t.ok)(ep:dy t)(ae:Int)(S:Nat)(aH draw:Int)(bg:Yu ae S aH=true)(R:AV)(fU:Qe 0 R)
  (H1:Hid (∀ m,t.maps.find? (Ya ae S aH)=some m->R=Xr t m false 0))
  (H2:Hid (t.maps.find? (Ya ae S aH)=none->12<=Ye t.maps S->R=Xr t cQ false 6))
  (H3:Hid (t.maps.find? (Ya ae S aH)=none→¬ 12≤Ye t.maps S→(∀ port,Jm t ae (t.aT S - 1) (Jt t S)=some port→R=Xr (t.add ⟨ae,S,aH,t.aT S - 1,port⟩) ⟨ae,S,aH,t.aT S - 1,port⟩ false 0) ∧
   (Jm t ae (t.aT S - 1) (Jt t S)=none→(2≤(Jt t S).length→R=Xr t cQ false 6)∧(¬ 2≤(Jt t S).length→(1≤t.aT S→R=Uf (t.tk ae S aH (t.aT S - 1) draw)) ∧
    (¬ 1<=t.aT S->((t.ai.pick draw).2≠0->R=Xr t cQ false (t.ai.pick draw).2)/\((t.ai.pick draw).2=0->R=Uf (t.tk ae S aH (t.ai.pick draw).1 draw))))))) :
  PS Tryz.prog gl 89 [.agg t.enc,.int .i64 ae,.int .i64 S,.int .i64 aH,.int .i64 draw] R:=by
 refine CT.ps (ap rfl) fU fun c hN hg=>?_
 conv in aG _ _=>cbv
 have e2:=Tb.au ht.wf;have e3:=Tb.bS ht.wf;have hG:=FA c.gl t ht;rw[Fz ep]at hG;have hK:=PQ c.gl ae S aH;rw[bg]at hK;have hF:=Qvv c.gl t ht.wf ht.len ae S aH;have aE:=Yi t.maps;obtain ⟨_,⟨_,je⟩,_⟩:=Ka bg;have je:S<8:=by omega
 have CZ:=Tb.jH ep ht.wf je;have ur:=uz ep;have eh:=Tb.dT ht.wf je;have uA:=Qpv c.gl t ht.wf S je CZ;cases jq:t.maps.find? (Ya ae S aH) with
 | some m =>
  have hR:=H1.out m jq;rw[jq]at hF;unfold gu at hF;subst hR;refine Qd @e2 ?_;refine Qj hG @e2 ?_;refine Qj hK @e2 ?_;refine Yc ?_;refine Qd @e2 ?_;unfold Mp.enc at hF;refine Qj hF @e2 ?_;refine Yc ?_;exact Qi (An @e2 (An @Xr.eq_1 @Mp.enc.eq_1))
 | none =>
  rw[jq]at hF;unfold gu cQ Mp.enc at hF;dsimp only at hF;refine Qd @e2 ?_;refine Qj hG @e2 ?_;refine Qj hK @e2 ?_;refine Yc ?_;refine Qd @e2 ?_;refine Qj hF @e2 ?_;refine Yc ?_;refine Qd (An @e2 @e3) ?_
  refine Qv (fun k:Nat=>k≤t.maps.length)
   (fun k=>⟨[(1,.int .i64 ae),(2,.int .i64 S),(3,.int .i64 aH),(4,.int .i64 draw),(5,.ptr 0 0),(10,.ptr 1 0),(11,.ptr 2 0),(14,.cl 125 [.ptr 0 0]),(17,.int .i64 (Ye (t.maps.take k) S)),(61,.isl t.maps.length (bE t.maps)),(62,.int .i64 t.maps.length),(63,.int .i64 k)],[(0,.cells t.enc),(1,.cells eL),(2,.cells z5)],3⟩) (fun k=>t.maps.length-k) CT.mixed hN
   ⟨0,by omega,[],by exact Qi (An @eL.eq_1 @z5.eq_1)⟩ fun k hk=>?_
  refine Qa ?_;refine Qc ?_ ?_<;>intro h3
  ·have bg:k < t.maps.length:=by omega
   have aK:=qw t.maps k bg;have oE:=Qtc t.maps k bg S;have As:=P6 t.maps k S;generalize t.maps[k]=m at *
   obtain ⟨mp,ms,mi,ma,mt⟩:=m;simp only[Mp.enc]at aK;dsimp only at oE;refine Qd (An @aE @aK) ?_;refine Qc ?_ ?_<;>intro h4
   ·rw[am af]at oE;refine Qa ?_;refine ⟨k+1,by omega,⟨[],?_⟩,by omega⟩;exact Qi @oE
   ·rw[aa af]at oE;refine Qa ?_;refine ⟨k+1,by omega,⟨[],?_⟩,by omega⟩;exact Qi @oE
  ·have:k=t.maps.length:=by omega
   subst this;have dH:t.maps.take t.maps.length=t.maps:=take_length;rw[dH];have hmc:=P6 t.maps t.maps.length S;rw[dH]at hmc;have xK:=Lib.hid (H2.out jq);have FG:=Lib.hid (H3.out jq);clear H1 H2 H3;generalize Ye t.maps S=many at *
   refine Qa ?_;refine Qc ?_ ?_<;>intro h4
   ·have hR:=xK.out af;subst hR;refine Qa ?_;exact Kd (ip [0]) (Ar c.gl t ht.wf 6) (An @e2 (An @Xr.eq_1 (An @Mp.enc.eq_1 (An @cQ.eq_1 (An @eL.eq_1 @z5.eq_1)))))
   have mQ:=Lib.hid (FG.out af);clear FG xK;by_cases ik:1<=t.aT S
   ·have hbl:xI t S=.isl (Zo t S 6).length (Ql (ed (Zo t S 6))):=am ik;have gT:Jt t S=Zo t S 6:=am ik;rw[hbl]at uA;rw[gT]at mQ;have Pv:∀ k ∈ Zo t S 6,k < 6:=fun k hk=>Ycr hk;have tU:=PT t S 6;clear hbl gT;generalize Zo t S 6=W at *
    have hWn:=uo W;have CX:=fun port=>Qzu c.gl t ht.wf ht.len ae (t.aT S-1) port;generalize nt:Jm t ae (t.aT S-1)=fr at *
    obtain ⟨a,ha⟩:∃ a:Int,a=t.aT S-1:=⟨_,rfl⟩
    rw[<- ha]at mQ CX nt;refine Qd @e2 ?_;refine Qj uA @e2 ?_
    refine Qv (fun k:Nat=>k≤W.length∧fr (W.drop k)=fr W)
     (fun k=>⟨[(1,.int .i64 ae),(2,.int .i64 S),(3,.int .i64 aH),(4,.int .i64 draw),(5,.ptr 0 0),(10,.ptr 1 0),(11,.ptr 2 0),(14,.cl 125 [.ptr 0 0]),(20,.isl W.length (Ql (ed W))),(85,.isl W.length (Ql (ed W))),(86,.int .i64 W.length),(87,.int .i64 k)],[(0,.cells t.enc),(1,.cells eL),(2,.cells z5)],3⟩) (fun k=>W.length-k) CT.mixed hN
     ⟨0,⟨by omega,rfl⟩,[],by exact Qp⟩ fun k hk=>?_
    obtain ⟨hk,ei⟩:=hk;refine Qa ?_;refine Qc ?_ ?_<;>intro h5
    ·have bg:k < W.length:=by omega
     have gW:=Pv _ (getElem_mem bg);have iy:W.drop k=W[k]::W.drop (k+1):=drop_eq_getElem_cons bg;have eS:=KT W k bg;rw[show W.getD k 0=W[k] by simp[List.getD,bg]]at eS;rw[iy]at ei;generalize W[k]=q at *
     refine Qd (An @hWn @eS) ?_
     refine Qv (fun i:Nat=>i≤8∧((Zq q).drop i++(W.drop (k + 1)).flatMap Zq).find? (mP t ae a)=fr W)
      (fun i=>⟨[(1,.int .i64 ae),(2,.int .i64 S),(3,.int .i64 aH),(4,.int .i64 draw),(5,.ptr 0 0),(10,.ptr 1 0),(11,.ptr 2 0),(14,.cl 125 [.ptr 0 0]),(20,.isl W.length (Ql (ed W))),(22,.int .i64 q),(85,.isl W.length (Ql (ed W))),(86,.int .i64 W.length),(87,.int .i64 k),(91,.int .i64 i)],[(0,.cells t.enc),(1,.cells eL),(2,.cells z5)],3⟩) (fun i=>8-i) CT.mixed hN
      ⟨0,⟨by omega,by rw[<- ei,<- nt];rfl⟩,[],by exact Qp⟩ fun i hi=>?_
     obtain ⟨hi,kj⟩:=hi;refine Qa ?_;refine Qc ?_ ?_<;>intro h6
     ·have hi8:i < 8:=by omega
      rw[Qwz q t ae a _ i hi8]at kj;have hB:=CX (1024+(q:Int)*8+i);unfold mP at kj;cases rz:t.maps.find? (Jd ae a (1024+(q:Int)*8+i)) with
      | none =>
       rw[rz]at kj hB;simp only[Option.isNone_none,if_true]at kj;unfold gu cQ Mp.enc at hB;dsimp only at hB;have hR:=mQ.out.1 _ kj.symm;subst hR;have FH:=Tb.au (t:=t.add ⟨ae,S,aH,a,1024+(q:Int)*8+i⟩) ⟨ht.wf.ai,ht.wf.home⟩;have jI:=P4 c.gl t ht.wf (show t.maps.length<=100000 by omega) ⟨ae,S,aH,a,1024+(q:Int)*8+i⟩ false;unfold Xr Mp.enc at jI;generalize Tb.add _ _=T3 at *
       dsimp only at jI;subst ha;refine Qd (An @e2 @eh) ?_;refine Qj hB @e2 ?_;refine Yc ?_;refine Qd (An @e2 @eh) ?_;exact vw jI (An @e2 (An @FH (An @Xr.eq_1 (An @Mp.enc.eq_1 (An @eL.eq_1 @z5.eq_1)))))
      | some m =>
       rw[rz]at kj hB;simp only[Option.isNone_some,Bool.false_eq_true,if_false]at kj;unfold gu Mp.enc at hB;dsimp only at hB;subst ha;refine Qd (An @e2 @eh) ?_;refine Qj hB @e2 ?_;refine Yc ?_;refine Qa ?_;refine ⟨i+1,⟨by omega,kj⟩,⟨[],?_⟩,by omega⟩;exact Qp
     ·have:i=8:=by omega
      subst this;rw[show (Zq q).drop 8=[] by simp[Zq],nil_append]at kj;refine Qa ?_;refine ⟨k+1,⟨by omega,by rw[<- kj,<- nt];rfl⟩,⟨[],?_⟩,by omega⟩;exact Qp
    ·have:k=W.length:=by omega
     subst this;rw[drop_length]at ei;have qB:=mQ.out.2 (by rw[<- ei,<- nt];rfl);have qC:=Lib.hid qB.1;have qD:=Lib.hid qB.2;clear mQ qB;refine Qa ?_;refine Qc ?_ ?_<;>intro h6
     ·have hR:=qC.out af;subst hR;refine Qa ?_;exact Kd (ip [0]) (Ar c.gl t ht.wf 6) (An @e2 (An @Xr.eq_1 (An @Mp.enc.eq_1 (An @cQ.eq_1 (An @eL.eq_1 @z5.eq_1)))))
     have oH:=Lib.hid ((qD.out af).1 ik);clear qC qD;refine Qd (An @e2 @eh) ?_;have e4:=Tb.cZ ht.wf;refine Qc ?_ ?_<;>intro h7
     ·omega
     clear h7;rw[<- ha];have hT:=Qwt c.gl t.ai ht.wf.ai S a draw;have oI:=Fv t.ai ht.wf.ai S a draw;have lj:=aq.jc t.ai ht.wf.ai S a draw;generalize hx:t.ai.take S a draw=x at *
     obtain ⟨tp,tk,te⟩:=x;unfold lU at hT;dsimp only at hT lj;have vR:=aq.au lj;refine Qd (An @e2 @e4) ?_;refine Qj hT (An @e2 @vR) ?_;refine Qc ?_ ?_<;>intro h8
     ·have hR:=oH.out.trans (show Uf (t.tk ae S aH a draw)=Xr t cQ false te by unfold Tb.tk Uf;rw[hx];simp[h8]);subst hR;refine Qa ?_;exact Kd (ip [0]) (Ar c.gl t ht.wf te) (An @e2 (An @Xr.eq_1 (An @Mp.enc.eq_1 (An @cQ.eq_1 (An @eL.eq_1 @z5.eq_1)))))
     have Au:te=0:=by simpa using h8
     subst Au;cases oI with
     | no _ he=>exact (he rfl).elim
     | yes b kk _ j9 fo _ _ en _ _ _ =>
     have iG:=lj;have P7:=Tb.gU ht.wf iG;have fV:(⟨t.ai.put b kk (S+1),t.home,t.maps⟩:Tb).wf:=⟨iG,ht.wf.home⟩
     have es2:(⟨t.ai.put b kk (S+1),t.home,t.maps⟩:Tb).enc.set (21+S) (.int .i64 (a+1))=(⟨t.ai.put b kk (S+1),t.home.set S (a+1),t.maps⟩:Tb).enc:=Tb.gV fV je (a+1);have dW:(⟨t.ai.put b kk (S+1),t.home.set S (a+1),t.maps⟩:Tb).wf:=⟨iG,by rw[length_set];exact ht.wf.home⟩
     have P8:=Tb.au dW;have P9:=Tb.au fV;have jI:=P4 c.gl _ dW (show t.maps.length<=100000 by omega) ⟨ae,S,aH,a,1024+(kk:Int)*8⟩ true;have hR:=oH.out.trans (show Uf (t.tk ae S aH a draw)=Xr (Tb.add ⟨t.ai.put b kk (S+1),t.home.set S (a+1),t.maps⟩ ⟨ae,S,aH,a,1024+(kk:Int)*8⟩) ⟨ae,S,aH,a,1024+(kk:Int)*8⟩ true 0 by unfold Tb.tk Uf;rw[hx];rfl);subst hR;clear oH;have FH:=Tb.au (t:=Tb.add ⟨t.ai.put b kk (S+1),t.home.set S (a+1),t.maps⟩ ⟨ae,S,aH,a,1024+(kk:Int)*8⟩) ⟨dW.ai,dW.home⟩;unfold Xr Mp.enc at jI;generalize Tb.add _ _=T3 at *
     generalize (⟨t.ai.put b kk (S+1),t.home.set S (a+1),t.maps⟩:Tb)=T2 at *
     generalize (⟨t.ai.put b kk (S+1),t.home,t.maps⟩:Tb)=T1 at *
     dsimp only at jI;refine Qd (An @e2 (An @P7 (An @es2 (An @P8 @P9)))) ?_;exact vw jI (An @e2 (An @FH (An @Xr.eq_1 (An @Mp.enc.eq_1 (An @eL.eq_1 @z5.eq_1)))))
   ·have hbl:xI t S=.nils:=aa ik;have gT:Jt t S=[]:=aa ik;rw[hbl]at uA;rw[gT]at mQ;refine Qd @e2 ?_;refine Qj uA @e2 ?_
    refine Qv (fun _:Unit=>True)
     (fun _=>⟨[(1,.int .i64 ae),(2,.int .i64 S),(3,.int .i64 aH),(4,.int .i64 draw),(5,.ptr 0 0),(10,.ptr 1 0),(11,.ptr 2 0),(14,.cl 125 [.ptr 0 0]),(20,.nils),(85,.nils),(86,.int .i64 0),(87,.int .i64 0)],[(0,.cells t.enc),(1,.cells eL),(2,.cells z5)],3⟩) (fun _=>0) CT.mixed hN
     ⟨(),trivial,[],by exact Qp⟩ fun _ _=>?_
    refine Qa ?_;refine Yc ?_;refine Qa ?_;refine Yc ?_;refine Qd (An @e2 @eh) ?_;have e4:=Tb.cZ ht.wf;have hP:=Xzr c.gl t.ai ht.wf.ai draw;have qB:=(mQ.out.2 rfl).2 av;have Av:=qB.2 ik;have qC:=Lib.hid Av.1;have qD:=Lib.hid Av.2;clear mQ qB Av;have mg:=Z5 t.ai draw;generalize t.ai.pick draw=pk at *
    obtain ⟨pa,pe⟩:=pk;dsimp only at qC qD hP;refine Qc ?_ ?_<;>intro h7;rotate_left
    ·omega
    refine Qd (An @e2 @e4) ?_;refine Qj hP @e2 ?_;refine Qc ?_ ?_<;>intro h8
    ·have hR:=qC.out h8;subst hR;refine Qa ?_;exact Kd (ip [0]) (Ar c.gl t ht.wf pe) (An @e2 (An @Xr.eq_1 (An @Mp.enc.eq_1 (An @cQ.eq_1 (An @eL.eq_1 @z5.eq_1)))))
    have nI:pe=0:=by simpa using h8
    subst nI;have oH:=Lib.hid (qD.out rfl);have hT:=Qwt c.gl t.ai ht.wf.ai S pa draw;have oI:=Fv t.ai ht.wf.ai S pa draw;have lj:=aq.jc t.ai ht.wf.ai S pa draw;generalize hx:t.ai.take S pa draw=x at *
    obtain ⟨tp,tk,te⟩:=x;unfold lU at hT;dsimp only at hT lj;have vR:=aq.au lj;clear h8;refine Qd (An @e2 @e4) ?_;refine Qj hT (An @e2 @vR) ?_;refine Qc ?_ ?_<;>intro h8
    ·have hR:=oH.out.trans (show Uf (t.tk ae S aH pa draw)=Xr t cQ false te by unfold Tb.tk Uf;rw[hx];simp[h8]);subst hR;refine Qa ?_;exact Kd (ip [0]) (Ar c.gl t ht.wf te) (An @e2 (An @Xr.eq_1 (An @Mp.enc.eq_1 (An @cQ.eq_1 (An @eL.eq_1 @z5.eq_1)))))
    have Au:te=0:=by simpa using h8
    subst Au;cases oI with
    | no _ he=>exact (he rfl).elim
    | yes b kk _ j9 fo _ _ en _ _ _ =>
    have iG:=lj;have P7:=Tb.gU ht.wf iG;have fV:(⟨t.ai.put b kk (S+1),t.home,t.maps⟩:Tb).wf:=⟨iG,ht.wf.home⟩
    have es2:(⟨t.ai.put b kk (S+1),t.home,t.maps⟩:Tb).enc.set (21+S) (.int .i64 (pa+1))=(⟨t.ai.put b kk (S+1),t.home.set S (pa+1),t.maps⟩:Tb).enc:=Tb.gV fV je (pa+1);have dW:(⟨t.ai.put b kk (S+1),t.home.set S (pa+1),t.maps⟩:Tb).wf:=⟨iG,by rw[length_set];exact ht.wf.home⟩
    have P8:=Tb.au dW;have P9:=Tb.au fV;have jI:=P4 c.gl _ dW (show t.maps.length<=100000 by omega) ⟨ae,S,aH,pa,1024+(kk:Int)*8⟩ true;have hR:=oH.out.trans (show Uf (t.tk ae S aH pa draw)=Xr (Tb.add ⟨t.ai.put b kk (S+1),t.home.set S (pa+1),t.maps⟩ ⟨ae,S,aH,pa,1024+(kk:Int)*8⟩) ⟨ae,S,aH,pa,1024+(kk:Int)*8⟩ true 0 by unfold Tb.tk Uf;rw[hx];rfl);subst hR;clear oH qD qC;have FH:=Tb.au (t:=Tb.add ⟨t.ai.put b kk (S+1),t.home.set S (pa+1),t.maps⟩ ⟨ae,S,aH,pa,1024+(kk:Int)*8⟩) ⟨dW.ai,dW.home⟩;unfold Xr Mp.enc at jI;generalize Tb.add _ _=T3 at *
    generalize (⟨t.ai.put b kk (S+1),t.home.set S (pa+1),t.maps⟩:Tb)=T2 at *
    generalize (⟨t.ai.put b kk (S+1),t.home,t.maps⟩:Tb)=T1 at *
    dsimp only at jI;refine Qd (An @e2 (An @P7 (An @es2 (An @P8 @P9)))) ?_;exact vw jI (An @e2 (An @FH (An @Xr.eq_1 (An @Mp.enc.eq_1 (An @eL.eq_1 @z5.eq_1)))))
theorem QA (x:Tb×Mp×Bool×Int)(n:Nat):Qe n (Uf x)=True:=KY ..
theorem Xzl (x:Tb×Mp×Bool×Int)(ρ:Nat->Nat):aB ρ (Uf x)=Uf x:=Qzh ..
attribute [go_sem] QA Xzl
def Xuq (t:Tb)(ht:t.ok)(ae s aH draw:Int):PS Tryz.prog gl 89 [.agg t.enc,.int .i64 ae,.int .i64 s,.int .i64 aH,.int .i64 draw] (Uf (t.cd ae s aH draw)):=by
 by_cases hb:Zr t=false\/Yu ae s aH=false
 ·have e:t.cd ae s aH draw=(t,cQ,false,2):=am hb;rw[e];exact Xob gl t ht ae s aH draw hb
 have e:t.cd ae s aH draw=match t.maps.find? (Ya ae s aH) with
  | some m=>(t,m,false,0)
  | none =>
   if 12<=Ye t.maps s then (t,cQ,false,6) else
   match Jm t ae (t.aT s.toNat-1) (Jt t s.toNat) with
   | some port=>(t.add ⟨ae,s,aH,t.aT s.toNat-1,port⟩,⟨ae,s,aH,t.aT s.toNat-1,port⟩,false,0)
   | none =>
    if 2<=(Jt t s.toNat).length then (t,cQ,false,6) else
    if 1<=t.aT s.toNat then t.tk ae s aH (t.aT s.toNat-1) draw else
    if (t.ai.pick draw).2≠0 then (t,cQ,false,(t.ai.pick draw).2) else t.tk ae s aH (t.ai.pick draw).1 draw:=aa hb
 have hg:Zr t=true:=by
  cases h:Zr t
  ·exact (hb (Or.inl h)).elim
  ·rfl
 have hk:Yu ae s aH=true:=by
  cases h:Yu ae s aH
  ·exact (hb (Or.inr h)).elim
  ·rfl
 obtain ⟨_,⟨fT,lY⟩,_⟩:=Ka hk;obtain ⟨S,rfl⟩:=Int.eq_ofNat_of_zero_le fT;rw[Int.toNat_natCast]at e;refine Xzg gl t ht ((vQ t).1 hg) ae S aH draw hk _ (by rw[QA];trivial) (Lib.hid fun m hm=>?_) (Lib.hid fun hm fu=>?_) (Lib.hid fun hm fu=>⟨fun port hp=>?_,fun hp=>⟨fun h2=>?_,fun h2=>⟨fun h1=>?_,fun h1=>⟨fun hz=>?_,fun hz=>?_⟩⟩⟩⟩)
 ·rw[e,hm];rfl
 ·rw[e,hm];dsimp only;rw[am fu];rfl
 ·rw[e,hm];dsimp only;rw[aa fu,hp];rfl
 ·rw[e,hm];dsimp only;rw[aa fu,hp];dsimp only;rw[am h2];rfl
 ·rw[e,hm];dsimp only;rw[aa fu,hp];dsimp only;rw[aa h2,am h1]
 ·rw[e,hm];dsimp only;rw[aa fu,hp];dsimp only;rw[aa h2,aa h1,am hz];rfl
 ·rw[e,hm];dsimp only;rw[aa fu,hp];dsimp only;rw[aa h2,aa h1,aa (by simp[hz])]
def Ydo:jT Tryz.prog 100 69=some [.int .i64,.int .i64,.int .i64,.int .i64,.int .i64]:=by kernel_rfl
def Yan {x y:Mp}:x=y ↔ x.enc=y.enc:=by
 cases x;cases y;simp[Mp.enc]
def xL {c:Cx}{ne:Bool}(x y:Mp):kS Tryz.prog c (.cA ne 69) [.agg x.enc,.agg y.enc] (.bool (ne != decide (x=y))) :=
 Ei Ydo (by kernel_rfl) (by kernel_rfl) rfl rfl (by rw[decide_eq_true_eq];exact Yan)
def xM:List Mp->Mp->Nat->Int
 | [],_,_=>-1
 | x::l,m,k=>if m=x then k else xM l m (k+1)
def Xa5 (hl:l.length<=4611686018427387904)(m:Mp):PS Tryz.prog gl 140 [.isl l.length (bE l),.agg m.enc] (.int .i64 (xM l m 0)):=by
 refine Qtd.ps (ap rfl) (by simp[Qe]) fun c hN hg=>?_
 conv in aG _ _=>cbv
 have aE:=Yi l;have ur:m.enc.length=5:=rfl;have zA:∀ n,ah n m.enc=True:=fun n=>by simp[Mp.enc,ah,Qe]
 have hmr:∀ ρ,ay ρ m.enc=m.enc:=fun ρ=>by simp[Mp.enc,ay,aB]
 refine Qa ?_
 refine Qv (fun k:Nat=>k≤l.length∧xM (l.drop k) m k=xM l m 0) (fun k=>⟨[(0,.isl l.length (bE l)),(3,.ptr 0 0),(6,.isl l.length (bE l)),(7,.int .i64 l.length),(8,.int .i64 k)],[(0,.cells m.enc)],1⟩) (fun k=>l.length - k) Qtd.mixed hN
  ⟨0,⟨by omega,rfl⟩,[],by exact Qi @zA⟩ fun k hk=>?_
 obtain ⟨hk,cU⟩:=hk;refine Qa ?_;refine Qc ?_ ?_<;>intro h1
 ·have bg:k < l.length:=by omega
  have aK:=qw l k bg;have iy:l.drop k=l[k]::l.drop (k+1):=drop_eq_getElem_cons bg;rw[iy]at cU;rw[xM]at cU;generalize l[k]=x at *
  have heq:=@xL c false m x;refine Qd (An @aE (An @aK @ur)) ?_;refine Qj heq (An @aE (An @aK @ur)) ?_;refine Qc ?_ ?_<;>intro h2
  ·rw[am (by simpa using h2)]at cU;exact Qi @cU
  ·rw[aa (by simpa using h2)]at cU;refine Qa ?_;refine ⟨k+1,⟨by omega,cU⟩,⟨[],?_⟩,by omega⟩;exact Qi (An @zA @hmr)
 ·have:k=l.length:=by omega
  subst this;rw[drop_length]at cU;have cU:(-1:Int)=xM l m 0:=cU;exact Qi @cU
def Qz2:Co Tryz.prog 37 5:=Oo (by kernel_rfl)
def Xye (h:k<=l.length):(bE l).drop (k*5)=bE (l.drop k):=by
 have e:bE l=bE (l.take k)++bE (l.drop k):=by rw[PD,List.take_append_drop]
 rw[e,List.drop_append_of_le_length (by rw[Yi,length_take];omega),List.drop_of_length_le (by rw[Yi,length_take];omega),nil_append]
def Xnl (hi:i<l.length):(bE l).take (i*5)++(bE l).drop ((i+1)*5)=bE (l.eraseIdx i):=by
 rw[Z6 l i af,Xye l (i+1) af,PD,List.eraseIdx_eq_take_drop_succ]
def Xoi (hl:l.length<=1000000)(i:Nat)(hi:i<l.length):GS Tryz.prog gl 141 [.sl 5 0 0 l.length l.length,.int .i64 i,.int .i64 ((i:Int)+1)] [(0,.cells (bE l))] 1
  (.sl 5 0 0 (l.length-1) l.length) [(0,.cells (bE (l.eraseIdx i)))] 1:=by
 refine Xih.gs (ap rfl) (by simp[Bk.live]) fun c hN hg=>?_
 conv in aG _ _=>cbv
 have aE:=Yi l;have y1:i-0=i:=by omega
 have y2:l.length-0=l.length:=by omega
 have y3:((i:Int)+1).toNat=i+1:=by omega
 have y4:i+(l.length-(i+1))=l.length-1:=by omega
 have y5:l.length-(l.length-1)=1:=by omega
 have y6:i+0=i:=by omega
 have y7:(0:Nat)*5=0:=by omega
 have oJ:=Xnl l i hi;have Ap:=Yi (l.eraseIdx i);rw[List.length_eraseIdx,am hi]at Ap;have cx:(bE (l.eraseIdx i)).take ((l.length-1)*5)=bE (l.eraseIdx i):=take_of_length_le af;refine Qd @aE ?_
 ((first|apply Yy|apply Yh|apply Xo|apply Xg)<;>(first|exact (Yc5 (by omega) (by omega) (by omega) (by omega))|(refine XG ?_;first|exact rfl|exact True.intro|((try with_reducible and_intros);all_goals try first|refine zm ?_|exact CL))))
 refine Qc ?_ ?_<;>intro h1
 ·omega
 refine Qd @aE ?_;by_cases h2:i+1<l.length
 ·refine Qd @aE ?_;refine WX (An @aE (An @y1 (An @y2 (An @y3 (An @oJ @y4))))) ?_
  (refine I6 Qz2 ?_;(have aQ:=@aE;have bu:=@y1;have bO:=@y2;have cy:=@y3;have dc:=@y5;have eT:=@oJ;have gF:=@y4;have nC:=@cx;refine XG ?_;clear aQ bu bO cy dc eT gF nC;((try with_reducible and_intros);all_goals try first|refine zm ?_|exact CL)))
  refine Qa ?_;refine ⟨[],?_⟩;exact Qp
 ·have:i + 1=l.length:=by omega
  have y8:l.length-1=i:=by omega
  have vS:(bE l).take (i*5)=bE (l.eraseIdx i):=by rw[<- oJ,List.drop_of_length_le af,append_nil]
  rw[y8]at cx;refine Qd @aE ?_;refine WX (An @aE (An @y1 (An @y2 (An @y6 (An @y7 (An @append_nil.{0} @vS)))))) ?_
  (refine I6 Qz2 ?_;(have aQ:=@aE;have bu:=@y1;have bO:=@y2;have cy:=@y3;have dc:=@y5;have eT:=@y8;have gF:=@cx;refine XG ?_;clear aQ bu bO cy dc eT gF;((try with_reducible and_intros);all_goals try first|refine zm ?_|exact CL)))
  refine Qa ?_;refine ⟨[],?_⟩;exact Qi @y8
def QB (m:Mp):∀ (l:List Mp) (k:Nat),xM l m k=match l.findIdx? (fun x=>decide (m=x)) with
  | some i=>((i+k:Nat):Int)
  | none=>-1
 | [],k=>rfl
 | x::l,k=>by
  rw[xM,QB m l (k+1),List.findIdx?_cons];by_cases h:m=x
  ·simp[h]
  ·simp only[h,if_false,decide_false];cases l.findIdx? (fun x=>decide (m=x)) with
   | none=>rfl
   | some i=>simp only[Option.map_some,Bool.false_eq_true,if_false];congr 1;omega
def QC {l:List Mp}{m:Mp}{i:Nat}(h:l.findIdx? (fun x=>decide (m=x))=some i):∃ hi:i<l.length,l[i]=m:=by
 obtain ⟨hi,h1,_⟩:=List.findIdx?_eq_some_iff_getElem.1 h;exact ⟨hi,(ap h1).symm⟩
def Jq (m o:Mp):Bool:=decide (o.a=m.a)&&decide (Xd o.port=Xd m.port)
noncomputable def Tb.bV (t:Tb)(m:Mp):Tb :=
 if Jt ⟨(t.ai.bV m.s m.a (Xd m.port)).1,t.home,t.maps⟩ m.s.toNat=[] then ⟨(t.ai.bV m.s m.a (Xd m.port)).1,t.home.set m.s.toNat 0,t.maps⟩ else ⟨(t.ai.bV m.s m.a (Xd m.port)).1,t.home,t.maps⟩
def Tb.del (t:Tb)(i:Nat):Tb:=⟨t.ai,t.home,t.maps.eraseIdx i⟩
noncomputable def Tb.cls (t:Tb)(m:Mp):Tb×Bool×Int :=
 if Zr t=false then (t,false,2) else
 match t.maps.findIdx? (fun x=>decide (m=x)) with
 | none=>(t,false,7)
 | some i=>if (t.maps.eraseIdx i).any (Jq m)=true then (t.del i,false,0) else ((t.del i).bV m,true,0)
def Ud (x:Tb×Bool×Int):AV:=.aR [.agg x.1.enc,.bool x.2.1,.int .i64 x.2.2]
theorem Aw (x:Tb×Bool×Int)(n:Nat):Qe n (Ud x)=True:=by simp[Qe,ah,Ud,Tb.bY]
theorem Xyo (x:Tb×Bool×Int)(ρ:Nat->Nat):aB ρ (Ud x)=Ud x:=by simp[aB,ay,Ud,Tb.dx]
attribute [go_sem] Aw Xyo
set_option maxRecDepth 20000 in
def Xl4 (t:Tb)(ht:t.ok)(m:Mp)(h:Zr t=false):PS Tryz.prog gl 102 [.agg t.enc,.agg m.enc] (Ud (t,false,2)):=by
 refine KQ.ps (ap rfl) (by simp[Aw]) fun c hN hg=>?_
 conv in aG _ _=>cbv
 have e2:=Tb.au ht.wf;have hG:=FA c.gl t ht;rw[h]at hG;unfold Mp.enc;refine Qd @e2 ?_;refine Qj hG @e2 ?_;refine Yc ?_;exact Qi (An @e2 @Ud.eq_1)
set_option maxRecDepth 20000 in
def Xd0 (t:Tb)(ht:t.ok)(m:Mp)(h:Zr t=true)(hi:t.maps.findIdx? (fun x=>decide (m=x))=none):PS Tryz.prog gl 102 [.agg t.enc,.agg m.enc] (Ud (t,false,7)):=by
 refine KQ.ps (ap rfl) (by simp[Aw]) fun c hN hg=>?_
 conv in aG _ _=>cbv
 have e2:=Tb.au ht.wf;have e3:=Tb.bS ht.wf;have hG:=FA c.gl t ht;rw[h]at hG;have hI:=Xa5 c.gl t.maps ht.len m;rw[QB,hi]at hI;dsimp only at hI;unfold Mp.enc at hI ⊢;refine Qd @e2 ?_;refine Qj hG @e2 ?_;refine Yc ?_;refine Qd (An @e2 @e3) ?_;refine Qj hI (An @e2 @e3) ?_;refine Yc ?_;exact Qi (An @e2 @Ud.eq_1)
def FI {t:Tb}(h:t.wf)(x:AV):(t.hd++[x]).getD 29 .any=x:=by
 rw[getD_eq_getElem?_getD,getElem?_append_right (by rw[Tb.bW h];decide),Tb.bW h];rfl
def Ye0 {t:Tb}(h:t.wf)(x:AV):(t.hd++[x]).take 21=t.ai.enc:=by
 unfold Tb.hd;rw[append_assoc,take_append_of_le_length (by rw[aq.au h.ai];decide),take_of_length_le (by rw[aq.au h.ai];decide)]
def QD {t:Tb}(h:t.wf){p:aq}(hp:p.wf)(x:AV):Ym (t.hd++[x]) 0 p.enc=(⟨p,t.home,t.maps⟩:Tb).hd++[x]:=by
 unfold Ym Tb.hd;rw[List.take_zero,nil_append,aq.au hp,append_assoc,append_assoc,Nat.zero_add,<- aq.au h.ai,List.drop_left]
def KZ {t:Tb}(h:t.wf){s:Nat}(hs:s<8)(v:Int)(x:AV):(t.hd++[x]).set (21+s) (.int .i64 v)=(⟨t.ai,t.home.set s v,t.maps⟩:Tb).hd++[x]:=by
 unfold Tb.hd;rw[append_assoc,set_append_right _ _ (by rw[aq.au h.ai];omega),aq.au h.ai,show 21+s-21=s by omega,List.set_append_left _ _ (by rw[Xp,h.home];exact hs),append_assoc];simp[Ql,map_set]
def Ykc {g:Nat->GM}{W:Nat->Prop}{w:World}{n:Nat}  {v:Value}(h:VR g W w (.isl n cs) v):VR g W w (.isl n []) v:=by
 obtain ⟨a,cap,us,rfl,h1,h2,_,_⟩:=tK h;exact .isl (us:=us) h1 h2 (fun j hj=>by simp at hj) (fun j hj=>by simp at hj)
def PS.len {P:Program}{gl:Nat->AV}{f:FuncId}{args:List AV}{n:Nat}  (h:PS P gl f args (.isl n cs)):PS P gl f args (.isl n []) :=
 ⟨h.1,fun w vs X hX hg hv=>(h.2 w vs X hX hg hv).mono fun e w' ⟨v,he,hr,hf⟩=>⟨v,he,Ykc hr,hf⟩⟩
def Ji.len:Ji (.isl n []):=fun _ _ _ _ _ _ _ h=>by
 obtain ⟨a,cap,us,rfl,h1,h2,_,_⟩:=tK h;exact .isl (us:=us) h1 h2 (fun j hj=>by simp at hj) (fun j hj=>by simp at hj)
def Wm:List AV:=eL.take 29++[.nils]
def Ych:ah n Wm=True:=by simp[Wm,eL,ah,Qe]
theorem Xr2 (ρ:Nat->Nat):ay ρ Wm=Wm:=by simp[Wm,eL,ay,aB]
attribute [go_sem] Ych Xr2
def Ydn (h:k<l.length)(f:Mp->Bool):(l.drop k).any f=(f l[k]||(l.drop (k+1)).any f):=by
 rw[drop_eq_getElem_cons h,any_cons]
set_option maxRecDepth 20000 in
def Xsi (gl:Nat->AV)(t:Tb)(ht:t.ok)(ep:dy t)(m:Mp)(i:Nat)(hi:t.maps.findIdx? (fun x=>decide (m=x))=some i)(R:AV)(fU:Qe 0 R)
  (H1:Hid ((t.maps.eraseIdx i).any (Jq m)=true->R=Ud (t.del i,false,0)))
  (H2:Hid ((t.maps.eraseIdx i).any (Jq m)=false->R=Ud ((t.del i).bV m,true,0))):PS Tryz.prog gl 102 [.agg t.enc,.agg m.enc] R:=by
 refine KQ.ps (ap rfl) fU fun c hN hg=>?_
 conv in aG _ _=>cbv
 have e2:=Tb.au ht.wf;have e3:=Tb.bS ht.wf;have hG:=FA c.gl t ht;rw[Fz ep]at hG;have hI:=Xa5 c.gl t.maps ht.len m;rw[QB,hi]at hI;dsimp only at hI;rw[Nat.add_zero]at hI;have ur:=uz ep;have aE:=Yi t.maps;have hs:=Tb.jf ht.wf;have jb:=Tb.oG t ht.wf;have aX:=fun x=>FI ht.wf x;have fX:=Tb.bW ht.wf;obtain ⟨mR,xt⟩:=QC hi;have aS:=ep.maps i mR;rw[xt]at aS;obtain ⟨⟨bg,sK,xJ,jG⟩,oF,gT⟩:=aS;obtain ⟨_,⟨fT,lY⟩,_⟩:=Ka bg;have FJ:=sK;unfold Yq at FJ;simp only[Bool.and_eq_true,decide_eq_true_eq]at FJ;have hB:=KW c.gl m.port af;unfold lV at hB;rw[sK]at hB;simp only[if_true]at hB;have hD:=Xoi c.gl t.maps af i mR;have hLl:(t.maps.eraseIdx i).length=t.maps.length-1:=by rw[List.length_eraseIdx,am mR]
 have hLb:∀ (k:Nat) (h:k<(t.maps.eraseIdx i).length),-9223372036854775808<=(t.maps.eraseIdx i)[k].port/\(t.maps.eraseIdx i)[k].port<=9223372036854775807:=fun k h=>by
  have hm:=List.mem_of_mem_eraseIdx (getElem_mem h);obtain ⟨j,hj,he⟩:=getElem_of_mem hm;have h2:=(ep.maps j hj).1.2.1;rw[he]at h2;unfold Yq at h2;simp only[Bool.and_eq_true,decide_eq_true_eq]at h2;omega
 have C0:=Xz1 c.gl t.ai ht.wf.ai m.s m.a (Xd m.port) af;have La:((t.ai.bV m.s m.a (Xd m.port)).1).wf:=aq.pB _ ht.wf.ai _ _ _;obtain ⟨S,hS⟩:=Int.eq_ofNat_of_zero_le fT;have QE:m.s.toNat=S:=by omega
 have QF:∀ L,L=t.maps.eraseIdx i->t.del i=⟨t.ai,t.home,L⟩:=fun L h=>by rw[h];rfl
 have vT:=QF _ rfl;unfold Tb.bV at H2;rw[vT]at H1 H2;rw[<- hLl]at hD;generalize t.maps.eraseIdx i=L at *
 have FK:=Yi L;have aY:=Ye0 ht.wf;have e4:=aq.au La;have dP:(⟨(t.ai.bV m.s m.a (Xd m.port)).1,t.home,L⟩:Tb).wf:=⟨La,ht.wf.home⟩
 have eg:∀ x,Ym (t.hd++[x]) 0 (t.ai.bV m.s m.a (Xd m.port)).1.enc=(⟨(t.ai.bV m.s m.a (Xd m.port)).1,t.home,L⟩:Tb).hd++[x]:=fun x=>QD ht.wf La x;have j9:0<=(⟨(t.ai.bV m.s m.a (Xd m.port)).1,t.home,L⟩:Tb).aT S/\(⟨(t.ai.bV m.s m.a (Xd m.port)).1,t.home,L⟩:Tb).aT S<=3:=by
  have:(⟨(t.ai.bV m.s m.a (Xd m.port)).1,t.home,L⟩:Tb).aT S=t.aT m.s.toNat:=by rw[QE];rfl
  omega
 have ik:1<=(⟨(t.ai.bV m.s m.a (Xd m.port)).1,t.home,L⟩:Tb).aT S:=by
  have:(⟨(t.ai.bV m.s m.a (Xd m.port)).1,t.home,L⟩:Tb).aT S=t.aT m.s.toNat:=by rw[QE];rfl
  omega
 have uA:=Qpv c.gl _ dP S af j9;have hbl:xI _ S=_:=am ik;have QG:Jt _ S=_:=am ik;rw[hbl]at uA;rw[QE]at H2;dsimp only at H2;rw[QG]at H2;unfold Km at C0;generalize t.ai.bV m.s m.a (Xd m.port)=gv at *
 obtain ⟨p',ge⟩:=gv;dsimp only at *
 have sL:=fun v x=>KZ dP (show S<8 by omega) v x;dsimp only at sL;have e5:∀ x,((⟨p',t.home,L⟩:Tb).hd++[x]).length=30:=fun x=>Tb.oG _ dP x;have FL:(Zo ⟨p',t.home,L⟩ S 6).length=0 ↔ Zo ⟨p',t.home,L⟩ S 6=[]:=List.length_eq_zero_iff;have gH:=uo (Zo ⟨p',t.home,L⟩ S 6);generalize Zo ⟨p',t.home,L⟩ S 6=W at *
 have cx:(bE L).take (L.length*5)=bE L:=take_of_length_le af;have dO:t.maps.length=L.length+1:=by omega
 have QH:=Qyy c.gl t.maps af;have uB:∀ o:Mp,Jq m o=(decide (o.a=m.a)&&decide (Xd o.port=Xd m.port)):=fun _=>rfl;have QI:(⟨p',t.home,L⟩:Tb).enc=(⟨p',t.home,L⟩:Tb).hd++[.isl L.length (bE L)]:=rfl;rw[QI]at uA;have uA:=uA.len;have vU:=Tb.bW dP;rw[hS]at C0;unfold Mp.enc at hI ⊢;rw[hS]at hI ⊢;refine Qd @e2 ?_;refine Qj hG @e2 ?_;refine Yc ?_;refine Qd (An @e2 @e3) ?_;refine Qj hI (An @e2 @e3) ?_;refine Qc ?_ ?_<;>intro h2
 ·omega
 refine Qd (An @e2 @e3) ?_;refine Jo (ip []) QH (An @e2 @e3) ?_;refine Jo (ip [3]) hD (An @e2 @e3) ?_;refine Qd (An @hs (An @e2 @jb)) ?_;refine Qj hB (An @fX @aX) ?_
 refine Qv (fun k:Nat=>k≤L.length∧L.any (Jq m)=(L.drop k).any (Jq m))
  (fun k=>⟨[(2,.ptr 0 0),(3,.ptr 1 0),(4,.ptr 2 0),(8,.int .i64 (Xd m.port)),(43,.sl 5 3 0 L.length t.maps.length),(44,.int .i64 L.length),(45,.int .i64 k)],[(0,.cells (t.hd++[.sl 5 3 0 L.length t.maps.length])),(1,.cells [.int .i64 m.ae,.int .i64 S,.int .i64 m.aH,.int .i64 m.a,.int .i64 m.port]),(2,.cells Wm),(3,.cells (bE L))],4⟩) (fun k=>L.length-k) KQ.mixed hN
  ⟨0,⟨by omega,rfl⟩,[(3,3)],by exact Qi (An @Wm.eq_1 @eL.eq_1)⟩ fun k hk=>?_
 obtain ⟨hk,xN⟩:=hk;refine Qa ?_;refine Qc ?_ ?_<;>intro h3
 ·have bg:k < L.length:=by omega
  have aK:=qw L k bg;have il:=KW c.gl _ (hLb k bg);rw[Ydn L k bg,uB]at xN;generalize L[k]=o at *
  obtain ⟨op,os,oi,oa,ot⟩:=o;simp only[Mp.enc]at aK;dsimp only at il xN;unfold lV at il;generalize (if Yq ot=true then (ot-1024)%8 else 0)=oj at *
  generalize Xd ot=ob at *
  generalize Yq ot=oq at *
  refine Qd (An @FK @aK) ?_;refine Qj il (An @FK @aK) ?_;refine Qc ?_ ?_<;>intro h4
  ·have hR:=H1.out (by rw[xN];simp[h4]);subst hR;rw[show Ud (⟨t.ai,t.home,L⟩,false,0)=.aR [.agg (t.hd++[.isl L.length (bE L)]),.bool false,.int .i64 0] from rfl];exact Qi (An @fX (An @Wm.eq_1 (An @eL.eq_1 (An @map_append.{0,0} @cx))))
  ·have xN:L.any (Jq m)=(L.drop (k+1)).any (Jq m):=by
    rw[xN];rcases h4 with h5|h5<;>simp[h5]
   refine Qa ?_;refine ⟨k+1,⟨by omega,xN⟩,⟨[(3,3)],?_⟩,by omega⟩;exact Qp
 ·have:k=L.length:=by omega
  subst this;rw[drop_length,List.any_nil]at xN;have hR:=H2.out xN;clear H1 H2;refine Qd (An @fX @aY) ?_;refine Qj C0 (An @fX (An @aY (An @eg (An @e4 @vU)))) ?_
  ((first|apply Wc|apply Jw)<;>(first|exact uA|(with_reducible (exact Ji.len _))|(have aQ:=@cx;have bu:=@vU;have bO:=@map_append.{0,0};refine XG ?_;clear aQ bu bO;first|exact rfl|exact True.intro|((try with_reducible and_intros);all_goals try first|refine zm ?_|exact CL))))
  have QJ:=sL 0 (.sl 5 3 0 L.length t.maps.length);have QK:=Tb.bW (t:=(⟨p',t.home.set S 0,L⟩:Tb)) ⟨La,by rw[length_set];exact ht.wf.home⟩;refine Qc ?_ ?_<;>intro h5
  ·have hW:W=[]:=FL.1 af;rw[am hW]at hR;subst hR;rw[show Ud ((⟨p',t.home.set S 0,L⟩:Tb),true,0)=.aR [.agg ((⟨p',t.home.set S 0,L⟩:Tb).hd++[.isl L.length (bE L)]),.bool true,.int .i64 0] from rfl];exact Qi (An @vU (An @QK (An @QJ (An @Wm.eq_1 (An @eL.eq_1 (An @map_append.{0,0} @cx))))))
  ·have hW:¬ W=[]:=fun h=>h5 (by have:=FL.2 h;omega);rw[aa hW]at hR;subst hR;rw[show Ud ((⟨p',t.home,L⟩:Tb),true,0)=.aR [.agg ((⟨p',t.home,L⟩:Tb).hd++[.isl L.length (bE L)]),.bool true,.int .i64 0] from rfl];exact Qi (An @vU (An @Wm.eq_1 (An @eL.eq_1 (An @map_append.{0,0} @cx))))
def Xsl (t:Tb)(ht:t.ok)(m:Mp):PS Tryz.prog gl 102 [.agg t.enc,.agg m.enc] (Ud (t.cls m)):=by
 by_cases hb:Zr t=false
 ·have e:t.cls m=(t,false,2):=am hb;rw[e];exact Xl4 gl t ht m hb
 have hg:Zr t=true:=by
  cases h:Zr t
  ·exact (hb h).elim
  ·rfl
 have e:t.cls m=match t.maps.findIdx? (fun x=>decide (m=x)) with
  | none=>(t,false,7)
  | some i=>if (t.maps.eraseIdx i).any (Jq m)=true then (t.del i,false,0) else ((t.del i).bV m,true,0):=aa hb
 cases hi:t.maps.findIdx? (fun x=>decide (m=x)) with
 | none=>rw[e,hi];exact Xd0 gl t ht m hg hi
 | some i =>
  refine Xsi gl t ht ((vQ t).1 hg) m i hi _ (by rw[Aw];trivial) (Lib.hid fun h=>?_) (Lib.hid fun h=>?_)
  ·rw[e,hi];dsimp only;rw[am h]
  ·rw[e,hi];dsimp only;rw[aa (by rw[h];simp)]
end Go.Proofs.YtogckmommodmhaaGreatDoor
