import Derived.Test.YtogckmommodmhaaGreatDoorZt10
import Derived.Test.YtogckmommodmhaaGreatDoorZt5
import Derived.Test.YtogckmommodmhaaGreatDoorZt1
import Derived.Test.YtogckmommodmhaaGreatDoorRows
import Derived.KernelRfl
set_option maxHeartbeats 16000000
namespace Go.Proofs.YtogckmommodmhaaGreatDoor
open Go.RowKit
set_option linter.all false
set_option linter.unusedSimpArgs false
set_option maxRecDepth 100000
theorem Mt (m:Mp):∀ (l:List Mp) (k:Nat),vM l m k=match l.findIdx? (fun x=>decide (m=x)) with
  | some i=>((i + k:Nat):Int)
  | none=>-1
 | [],k=>rfl
 | x::l,k=>by
  rw[vM,Mt m l (k + 1),List.findIdx?_cons]
  by_cases h:m=x
  ·simp[h]
  ·simp only[h,if_false,decide_false]
   cases l.findIdx? (fun x=>decide (m=x)) with
   | none=>rfl
   | some i=>simp only[Option.map_some,Bool.false_eq_true,if_false];congr 1;omega
theorem Tq {l:List Mp} {m:Mp} {i:Nat} (h:l.findIdx? (fun x=>decide (m=x))=some i):∃ hi:i < l.length,l[i]=m:=by
 obtain ⟨hi,h1,_⟩:=List.findIdx?_eq_some_iff_getElem.1 h
 exact ⟨hi,(of_decide_eq_true h1).symm⟩
def oI (m o:Mp):Bool:=decide (o.a=m.a) && decide (Xx o.port=Xx m.port)
noncomputable def Tb.bW (t:Tb) (m:Mp):Tb :=
 if jU ⟨(t.aq.bW m.s m.a (Xx m.port)).1,t.home,t.maps⟩ m.s.toNat=[] then ⟨(t.aq.bW m.s m.a (Xx m.port)).1,t.home.set m.s.toNat 0,t.maps⟩ else ⟨(t.aq.bW m.s m.a (Xx m.port)).1,t.home,t.maps⟩
def Tb.del (t:Tb) (i:Nat):Tb:=⟨t.aq,t.home,t.maps.eraseIdx i⟩
noncomputable def Tb.cls (t:Tb) (m:Mp):Tb × Bool × Int :=
 if Wi t=false then (t,false,2) else
 match t.maps.findIdx? (fun x=>decide (m=x)) with
 | none=>(t,false,7)
 | some i=>if (t.maps.eraseIdx i).any (oI m)=true then (t.del i,false,0) else ((t.del i).bW m,true,0)
def mf (x:Tb × Bool × Int):AV:=.aX [.agg x.1.enc,.bool x.2.1,.int .i64 x.2.2]
theorem Hb (x:Tb × Bool × Int) (n:Nat):Qe n (mf x)=True:=by simp[Qe,ai,mf,Tb.bw]
theorem Xva (x:Tb × Bool × Int) (ρ:Nat→Nat):aD ρ (mf x)=mf x:=by simp[aD,ay,mf,Tb.dw]
attribute [go_sem] Hb Xva
set_option maxRecDepth 20000 in
theorem Xif (gl:Nat→AV) (t:Tb) (ht:t.ok) (m:Mp) (h:Wi t=false):PS Tryz.prog gl 102 [.agg t.enc,.agg m.enc] (mf (t,false,2)):=by
 refine GR.ps (of_decide_eq_true rfl) (by simp[Hb]) fun c hN hg=>?_
 conv in aO _ _=>cbv
 have e2:=Tb.aC ht.wf
 have hG:=DD c.gl t ht
 rw[h]at hG
 unfold Mp.enc
 refine Qh @e2 ?_
 refine Qy hG @e2 ?_
 (refine Qa (fun h1=>?_) (fun h1=>?_)<;>try exact h1.elim)
 exact Qr (An @e2 @mf.eq_1)
set_option maxRecDepth 20000 in
theorem Qzd (gl:Nat→AV) (t:Tb) (ht:t.ok) (m:Mp) (h:Wi t=true) (hi:t.maps.findIdx? (fun x=>decide (m=x))=none):PS Tryz.prog gl 102 [.agg t.enc,.agg m.enc] (mf (t,false,7)):=by
 refine GR.ps (of_decide_eq_true rfl) (by simp[Hb]) fun c hN hg=>?_
 conv in aO _ _=>cbv
 have e2:=Tb.aC ht.wf
 have e3:=Tb.cO ht.wf
 have hG:=DD c.gl t ht
 rw[h]at hG
 have hI:=Tl c.gl t.maps ht.len m
 rw[Mt,hi]at hI
 dsimp only at hI
 unfold Mp.enc at hI ⊢
 refine Qh @e2 ?_
 refine Qy hG @e2 ?_
 (refine Qa (fun h1=>?_) (fun h1=>?_)<;>try exact h1.elim)
 refine Qh (An @e2 @e3) ?_
 refine Qy hI (An @e2 @e3) ?_
 (refine Qa (fun h2=>?_) (fun h2=>?_)<;>try exact h2.elim)
 exact Qr (An @e2 @mf.eq_1)
theorem Xtb {t:Tb} (h:t.wf) (x:AV):(t.hd++[x]).getD 29 .any=x:=by
 rw[List.getD_eq_getElem?_getD,List.getElem?_append_right (by rw[Tb.dx h];decide),Tb.dx h];rfl
theorem Yag {t:Tb} (h:t.wf) (x:AV):(t.hd++[x]).take 21=t.aq.enc:=by
 unfold Tb.hd
 rw[List.append_assoc,List.take_append_of_le_length (by rw[aw.aC h.aq];decide),List.take_of_length_le (by rw[aw.aC h.aq];decide)]
theorem Qyl {t:Tb} (h:t.wf) {p:aw} (hp:p.wf) (x:AV):Yu (t.hd++[x]) 0 p.enc=(⟨p,t.home,t.maps⟩:Tb).hd++[x]:=by
 unfold Yu Tb.hd
 rw[List.take_zero,List.nil_append,aw.aC hp,List.append_assoc,List.append_assoc,Nat.zero_add,← aw.aC h.aq,List.drop_left]
theorem Xa4 {t:Tb} (h:t.wf) {s:Nat} (hs:s < 8) (v:Int) (x:AV):(t.hd++[x]).set (21 + s) (.int .i64 v)=(⟨t.aq,t.home.set s v,t.maps⟩:Tb).hd++[x]:=by
 unfold Tb.hd
 rw[List.append_assoc,List.set_append_right _ _ (by rw[aw.aC h.aq];omega),aw.aC h.aq,show 21 + s - 21=s by omega,List.set_append_left _ _ (by rw[Ye,h.home];exact hs),List.append_assoc]
 simp[Qp,List.map_set]
theorem Ygd {g:Nat→GM} {W:Nat→Prop} {w:World} {n:Nat} {cs:List AV} {v:Value} (h:VR g W w (.isl n cs) v):VR g W w (.isl n []) v:=by
 obtain ⟨a,cap,us,rfl,h1,h2,_,_⟩:=rZ h
 exact .isl (us:=us) h1 h2 (fun j hj=>by simp at hj) (fun j hj=>by simp at hj)
theorem PS.len {P:Program} {gl:Nat→AV} {f:FuncId} {args:List AV} {n:Nat} {cs:List AV} (h:PS P gl f args (.isl n cs)):PS P gl f args (.isl n []) :=
 ⟨h.1,fun w vs X hX hg hv=>(h.2 w vs X hX hg hv).mono fun e w' ⟨v,he,hr,hf⟩=>⟨v,he,Ygd hr,hf⟩⟩
theorem Jy.len (n:Nat):Jy (.isl n []):=fun _ _ _ _ _ _ _ h=>by
 obtain ⟨a,cap,us,rfl,h1,h2,_,_⟩:=rZ h
 exact .isl (us:=us) h1 h2 (fun j hj=>by simp at hj) (fun j hj=>by simp at hj)
def sP:List AV:=ie.take 29++[.nils]
theorem Ybm (n:Nat):ai n sP=True:=by simp[sP,ie,ai,Qe]
theorem Xog (ρ:Nat→Nat):ay ρ sP=sP:=by simp[sP,ie,ay,aD]
attribute [go_sem] Ybm Xog
theorem Yc8 (l:List Mp) (k:Nat) (h:k < l.length) (f:Mp→Bool):(l.drop k).any f=(f l[k] || (l.drop (k + 1)).any f):=by
 rw[List.drop_eq_getElem_cons h,List.any_cons]
set_option maxRecDepth 20000 in
theorem Xm0 (gl:Nat→AV) (t:Tb) (ht:t.ok) (lK:dy t) (m:Mp) (i:Nat) (hi:t.maps.findIdx? (fun x=>decide (m=x))=some i) (R:AV) (eM:Qe 0 R)
  (H1:Hid ((t.maps.eraseIdx i).any (oI m)=true→R=mf (t.del i,false,0)))
  (H2:Hid ((t.maps.eraseIdx i).any (oI m)=false→R=mf ((t.del i).bW m,true,0))):PS Tryz.prog gl 102 [.agg t.enc,.agg m.enc] R:=by
 refine GR.ps (of_decide_eq_true rfl) eM fun c hN hg=>?_
 conv in aO _ _=>cbv
 have e2:=Tb.aC ht.wf
 have e3:=Tb.cO ht.wf
 have hG:=DD c.gl t ht
 rw[L5 lK]at hG
 have hI:=Tl c.gl t.maps ht.len m
 rw[Mt,hi]at hI
 dsimp only at hI
 rw[Nat.add_zero]at hI
 have vI:=vK lK
 have aJ:=Jo t.maps
 have hs:=Tb.nC ht.wf
 have jD:=Tb.mO t ht.wf
 have bm:=fun x=>Xtb ht.wf x
 have Hc:=Tb.dx ht.wf
 obtain ⟨mS,Lw⟩:=Tq hi
 have aU:=lK.maps i mS
 rw[Lw]at aU
 obtain ⟨⟨bB,vN,Ma,jS⟩,pP,jT⟩:=aU
 obtain ⟨_,⟨lb,xY⟩,_⟩:=Kp bB
 have DO:=vN
 unfold Kb at DO
 simp only[Bool.and_eq_true,decide_eq_true_eq]at DO
 have hB:=GZ c.gl m.port af
 unfold vE at hB
 rw[vN]at hB
 simp only[if_true]at hB
 have hD:=Xme c.gl t.maps af i mS
 have hLl:(t.maps.eraseIdx i).length=t.maps.length - 1:=by rw[List.length_eraseIdx,if_pos mS]
 have hLb:∀ (k:Nat) (h:k < (t.maps.eraseIdx i).length),-9223372036854775808≤(t.maps.eraseIdx i)[k].port∧(t.maps.eraseIdx i)[k].port≤9223372036854775807:=fun k h=>by
  have hm:=List.mem_of_mem_eraseIdx (List.getElem_mem h)
  obtain ⟨j,hj,he⟩:=List.getElem_of_mem hm
  have h2:=(lK.maps j hj).1.2.1
  rw[he]at h2
  unfold Kb at h2
  simp only[Bool.and_eq_true,decide_eq_true_eq]at h2
  omega
 have Mu:=Xv4 c.gl t.aq ht.wf.aq m.s m.a (Xx m.port) af
 have Hd:((t.aq.bW m.s m.a (Xx m.port)).1).wf:=aw.uc _ ht.wf.aq _ _ _
 obtain ⟨S,hS⟩:=Int.eq_ofNat_of_zero_le lb
 have Mv:m.s.toNat=S:=by omega
 have Mw:∀ L,L=t.maps.eraseIdx i→t.del i=⟨t.aq,t.home,L⟩:=fun L h=>by rw[h];rfl
 have uj:=Mw _ rfl
 unfold Tb.bW at H2
 rw[uj]at H1 H2
 rw[← hLl]at hD
 generalize t.maps.eraseIdx i=L at *
 have DP:=Jo L
 have aV:=Yag ht.wf
 have e4:=aw.aC Hd
 have di:(⟨(t.aq.bW m.s m.a (Xx m.port)).1,t.home,L⟩:Tb).wf:=⟨Hd,ht.wf.home⟩
 have dK:∀ x,Yu (t.hd++[x]) 0 (t.aq.bW m.s m.a (Xx m.port)).1.enc=(⟨(t.aq.bW m.s m.a (Xx m.port)).1,t.home,L⟩:Tb).hd++[x]:=fun x=>Qyl ht.wf Hd x
 have kM:0≤(⟨(t.aq.bW m.s m.a (Xx m.port)).1,t.home,L⟩:Tb).bD S∧(⟨(t.aq.bW m.s m.a (Xx m.port)).1,t.home,L⟩:Tb).bD S≤3:=by
  have:(⟨(t.aq.bW m.s m.a (Xx m.port)).1,t.home,L⟩:Tb).bD S=t.bD m.s.toNat:=by rw[Mv];rfl
  omega
 have uh:1≤(⟨(t.aq.bW m.s m.a (Xx m.port)).1,t.home,L⟩:Tb).bD S:=by
  have:(⟨(t.aq.bW m.s m.a (Xx m.port)).1,t.home,L⟩:Tb).bD S=t.bD m.s.toNat:=by rw[Mv];rfl
  omega
 have oH:=SV c.gl _ di S af kM
 have iw:vF _ S=_:=if_pos uh
 have Mx:jU _ S=_:=if_pos uh
 rw[iw]at oH
 rw[Mv]at H2
 dsimp only at H2
 rw[Mx]at H2
 unfold Ub at Mu
 generalize t.aq.bW m.s m.a (Xx m.port)=gv at *
 obtain ⟨p',ge⟩:=gv
 dsimp only at *
 have Tr:=fun v x=>Xa4 di (show S < 8 by omega) v x
 dsimp only at Tr
 have e5:∀ x,((⟨p',t.home,L⟩:Tb).hd++[x]).length=30:=fun x=>Tb.mO _ di x
 have DQ:(Wf ⟨p',t.home,L⟩ S 6).length=0 ↔ Wf ⟨p',t.home,L⟩ S 6=[]:=List.length_eq_zero_iff
 have lJ:=DA (Wf ⟨p',t.home,L⟩ S 6)
 generalize Wf ⟨p',t.home,L⟩ S 6=W at *
 have dV:(cp L).take (L.length * 5)=cp L:=List.take_of_length_le af
 have pC:t.maps.length=L.length + 1:=by omega
 have My:=DJ c.gl t.maps af
 have Mz:∀ o:Mp,oI m o=(decide (o.a=m.a) && decide (Xx o.port=Xx m.port)):=fun _=>rfl
 have MA:(⟨p',t.home,L⟩:Tb).enc=(⟨p',t.home,L⟩:Tb).hd++[.isl L.length (cp L)]:=rfl
 rw[MA]at oH
 have oH:=oH.len
 have uk:=Tb.dx di
 rw[hS]at Mu
 unfold Mp.enc at hI ⊢
 rw[hS]at hI ⊢
 refine Qh @e2 ?_
 refine Qy hG @e2 ?_
 (refine Qa (fun h1=>?_) (fun h1=>?_)<;>try exact h1.elim)
 refine Qh (An @e2 @e3) ?_
 refine Qy hI (An @e2 @e3) ?_
 (refine Qa (fun h2=>?_) (fun h2=>?_)<;>try exact h2.elim)
 ·omega
 refine Qh (An @e2 @e3) ?_
 refine tO (ip []) My (An @e2 @e3) ?_
 refine tO (ip [3]) hD (An @e2 @e3) ?_
 refine Qh (An @hs (An @e2 @jD)) ?_
 refine Qy hB (An @Hc @bm) ?_
 refine Xr (fun k:Nat=>k≤L.length∧L.any (oI m)=(L.drop k).any (oI m))
  (fun k=>⟨[(2,.ptr 0 0),(3,.ptr 1 0),(4,.ptr 2 0),(8,.int .i64 (Xx m.port)),(43,.sl 5 3 0 L.length t.maps.length),(44,.int .i64 L.length),(45,.int .i64 k)],[(0,.cells (t.hd++[.sl 5 3 0 L.length t.maps.length])),(1,.cells [.int .i64 m.ae,.int .i64 S,.int .i64 m.aN,.int .i64 m.a,.int .i64 m.port]),(2,.cells sP),(3,.cells (cp L))],4⟩) (fun k=>L.length - k) GR.mixed hN
  ⟨0,⟨by omega,rfl⟩,[(3,3)],by exact Qr (An @sP.eq_1 @ie.eq_1)⟩ fun k hk=>?_
 obtain ⟨hk,vO⟩:=hk
 refine Qf ?_
 (refine Qa (fun h3=>?_) (fun h3=>?_)<;>try exact h3.elim)
 ·have bB:k < L.length:=by omega
  have bg:=vC L k bB
  have MC:=GZ c.gl _ (hLb k bB)
  rw[Yc8 L k bB,Mz]at vO
  generalize L[k]=o at *
  obtain ⟨op,os,oi,oa,ot⟩:=o
  simp only[Mp.enc]at bg
  dsimp only at MC vO
  unfold vE at MC
  generalize (if Kb ot=true then (ot - 1024) % 8 else 0)=oj at *
  generalize Xx ot=ob at *
  generalize Kb ot=oq at *
  refine Qh (An @DP @bg) ?_
  refine Qy MC (An @DP @bg) ?_
  (refine Qa (fun h4=>?_) (fun h4=>?_)<;>try exact h4.elim)
  ·have hR:=H1.out (by rw[vO];simp[h4])
   subst hR
   rw[show mf (⟨t.aq,t.home,L⟩,false,0)=.aX [.agg (t.hd++[.isl L.length (cp L)]),.bool false,.int .i64 0] from rfl]
   exact Qr (An @Hc (An @sP.eq_1 (An @ie.eq_1 (An @List.map_append.{0,0} @dV))))
  ·have vO:L.any (oI m)=(L.drop (k + 1)).any (oI m):=by
    rw[vO]
    rcases h4 with h5|h5<;>simp[h5]
   refine Qf ?_
   refine ⟨k + 1,⟨by omega,vO⟩,⟨[(3,3)],?_⟩,by omega⟩
   exact Qs
 ·have:k=L.length:=by omega
  subst this
  rw[List.drop_length,List.any_nil]at vO
  have hR:=H2.out vO
  clear H1 H2
  refine Qh (An @Hc @aV) ?_
  refine Qy Mu (An @Hc (An @aV (An @dK (An @e4 @uk)))) ?_
  ((first|apply Wx|apply Ku)<;>(first|exact oH|(with_reducible (exact Jy.len _))|(have aB:=@dV;have aQ:=@uk;have a8:=@List.map_append.{0,0};refine XG ?_;clear aB aQ a8;first|exact rfl|exact True.intro|((try (repeat' with_reducible refine And.intro ?_ ?_));(try any_goals (first|refine zm ?_|exact CL|fail))))))
  have MD:=Tr 0 (.sl 5 3 0 L.length t.maps.length)
  have ME:=Tb.dx (t:=(⟨p',t.home.set S 0,L⟩:Tb)) ⟨Hd,by rw[List.length_set];exact ht.wf.home⟩
  (refine Qa (fun h5=>?_) (fun h5=>?_)<;>try exact h5.elim)
  ·have hW:W=[]:=DQ.1 af
   rw[if_pos hW]at hR
   subst hR
   rw[show mf ((⟨p',t.home.set S 0,L⟩:Tb),true,0)=.aX [.agg ((⟨p',t.home.set S 0,L⟩:Tb).hd++[.isl L.length (cp L)]),.bool true,.int .i64 0] from rfl]
   exact Qr (An @uk (An @ME (An @MD (An @sP.eq_1 (An @ie.eq_1 (An @List.map_append.{0,0} @dV))))))
  ·have hW:¬ W=[]:=fun h=>h5 (by have:=DQ.2 h;omega)
   rw[if_neg hW]at hR
   subst hR
   rw[show mf ((⟨p',t.home,L⟩:Tb),true,0)=.aX [.agg ((⟨p',t.home,L⟩:Tb).hd++[.isl L.length (cp L)]),.bool true,.int .i64 0] from rfl]
   exact Qr (An @uk (An @sP.eq_1 (An @ie.eq_1 (An @List.map_append.{0,0} @dV))))
theorem Xqc (gl:Nat→AV) (t:Tb) (ht:t.ok) (m:Mp):PS Tryz.prog gl 102 [.agg t.enc,.agg m.enc] (mf (t.cls m)):=by
 by_cases hb:Wi t=false
 ·have e:t.cls m=(t,false,2):=if_pos hb
  rw[e]
  exact Xif gl t ht m hb
 have hg:Wi t=true:=by
  cases h:Wi t
  ·exact (hb h).elim
  ·rfl
 have e:t.cls m=match t.maps.findIdx? (fun x=>decide (m=x)) with
  | none=>(t,false,7)
  | some i=>if (t.maps.eraseIdx i).any (oI m)=true then (t.del i,false,0) else ((t.del i).bW m,true,0):=if_neg hb
 cases hi:t.maps.findIdx? (fun x=>decide (m=x)) with
 | none=>rw[e,hi];exact Qzd gl t ht m hg hi
 | some i =>
  refine Xm0 gl t ht ((vJ t).1 hg) m i hi _ (by rw[Hb];trivial) (Lib.hid fun h=>?_) (Lib.hid fun h=>?_)
  ·rw[e,hi];dsimp only;rw[if_pos h]
  ·rw[e,hi];dsimp only;rw[if_neg (by rw[h];simp)]
def Jt (own:List Int) (s:Nat):Nat:=own.countP fun o=>o == (s:Int) + 1
structure GT (t:Tb):Prop where
 aq:t.aq.ca=true
 maps:∀ m ∈ t.maps,nA t m
 apart:t.maps.Pairwise fun x y=>Zv x y=false
 used:∀ i,i < 18→(t.aq.own.getD i 0≠0 ↔ ∃ m ∈ t.maps,Zj m=i)
 two:∀ s,s < 8→Jt t.aq.own s≤2
 many:∀ s:Nat,s < 8→Zz t.maps (s:Int)≤12
 home:∀ s,s < 8→(t.bD s≠0 ↔ 0 < Jt t.aq.own s)
theorem He (x y:Mp):Zv x y=Zv y x:=by
 have hb:∀ a b:Int,(a == b)=(b == a):=fun a b=>by
  by_cases h:a=b
  ·subst h;rfl
  ·have h2:¬ b=a:=fun e=>h e.symm
   rw[beq_eq_false_iff_ne.2 h,beq_eq_false_iff_ne.2 h2]
 unfold Zv
 rw[hb y.ae,hb y.a,hb y.port,hb y.s,hb y.aN]
theorem Xxf {p:aw} (h:p.ca=true) {o:Int} (ho:o ∈ p.own):0≤o∧o≤8:=by
 have:=List.all_eq_true.1 h o ho
 unfold kG at this
 simp at this;omega
theorem Hf {p:aw} (h:p.ca=true) {s:Nat} (hs:s < 8):(Wz p.own).getD s 0=Jt p.own s:=by
 rw[Tf _ _ hs]
 unfold Jt
 congr 1
 refine List.countP_congr fun o ho=>?_
 have:=Xxf h ho
 simp only[Bool.and_eq_true,Bool.not_eq_true',beq_eq_false_iff_ne,beq_iff_eq,ne_eq]
 omega
theorem Tt {l:List Mp} (h:∀ m ∈ l,0≤m.s) {s:Nat} (hs:s < 8):(kJ l).getD s 0=Zz l s:=by
 rw[Te _ _ hs]
 unfold Zz
 congr 1
 refine List.countP_congr fun o ho=>?_
 have:=h o ho
 simp only[beq_iff_eq]
 omega
theorem yg {t:Tb} {m:Mp} (h:nA t m):0≤m.s∧m.s < 8:=by
 obtain ⟨_,h2,_⟩:=Kp h.1.1;exact h2
theorem Wc {t:Tb}:dy t ↔ GT t:=by
 constructor
 ·intro h
  have hm:∀ m ∈ t.maps,nA t m:=fun m hm=>by
   obtain ⟨i,hi,rfl⟩:=List.getElem_of_mem hm
   exact h.maps i hi
  refine ⟨h.aq,hm,List.pairwise_iff_getElem.2 fun i j hi hj iJ=>?_,fun i hi=>?_,fun s hs=>?_,fun s hs=>?_,fun s hs=>?_⟩
  ·rw[He];exact h.apart j i hj iJ
  ·have:=h.used i hi
   rw[Mk _ _ hi]at this
   rw[← bne_iff_ne,this,List.any_eq_true]
   simp
  ·have:=(h.lL s hs).1;rw[Hf h.aq hs]at this;omega
  ·have:=(h.lL s hs).2.1;rw[Tt (fun m yh=>(yg (hm m yh)).1) hs]at this;omega
  ·have:=(h.lL s hs).2.2
   rw[Hf h.aq hs]at this
   rw[← bne_iff_ne,this,decide_eq_true_eq];omega
 ·intro h
  refine ⟨h.aq,fun i hi=>h.maps _ (List.getElem_mem hi),fun i j hi hj=>?_,fun i hi=>?_,fun s hs=>⟨?_,?_,?_⟩⟩
  ·rw[He];exact List.pairwise_iff_getElem.1 h.apart j i af hi hj
  ·rw[Mk _ _ hi]
   have:=h.used i hi
   rw[← bne_iff_ne]at this
   by_cases h2:(t.aq.own.getD i 0 != 0)=true
   ·rw[h2]
    obtain ⟨m,hm,he⟩:=this.1 h2
    exact (List.any_eq_true.2 ⟨m,hm,by simp[he]⟩).symm
   ·have h3:(t.aq.own.getD i 0 != 0)=false:=by simpa using h2
    rw[h3]
    symm
    rw[List.any_eq_false]
    intro m hm he
    exact h2 (this.2 ⟨m,hm,by simpa using he⟩)
  ·rw[Hf h.aq hs];have:=h.two s hs;omega
  ·rw[Tt (fun m yh=>(yg (h.maps m yh)).1) hs];have:=h.many s hs;omega
  ·rw[Hf h.aq hs]
   have:=h.home s hs
   rw[← bne_iff_ne]at this
   by_cases h2:(t.bD s != 0)=true
   ·rw[h2];have:=this.1 h2;simp;omega
   ·have h3:(t.bD s != 0)=false:=by simpa using h2
    rw[h3]
    symm
    rw[decide_eq_false_iff_not]
    intro h4
    exact h2 (this.2 af)
theorem A5 (port:Int):0≤Xx port∧Xx port < 6:=by
 unfold Xx
 split
 ·rename_i h;unfold Kb at h;simp at h;omega
 ·omega
theorem Yba {m o:Mp} (hm:0≤m.a) (ho:0≤o.a):Zj m=Zj o ↔ m.a=o.a∧Xx m.port=Xx o.port:=by
 have h1:=A5 m.port
 have h2:=A5 o.port
 unfold Zj
 constructor
 ·intro h;omega
 ·rintro ⟨h3,h4⟩;rw[h3,h4]
theorem MF {t:Tb} {m:Mp} (h:xT t m):Zj m < 18:=by
 have h1:=A5 m.port
 have:=h.2.2
 unfold Zj
 omega
theorem Hg (t:Tb) (m:Mp):t.aq.ow m.a.toNat (Xx m.port).toNat=t.aq.own.getD (Zj m) 0:=rfl
theorem Xgy {m o:Mp} (h:Zv m o=false):m≠o:=by
 rintro rfl
 simp[Zv]at h
theorem Tu (l:List Mp) (m:Mp) (s:Int):Zz (l++[m]) s=Zz l s + (if m.s=s then 1 else 0):=by
 unfold Zz
 rw[List.countP_append]
 by_cases h:m.s=s<;>simp[h]
theorem Tv {l:List Mp} {m:Mp} (h:l.Pairwise fun x y=>Zv x y=false) (hm:∀ o ∈ l,Zv o m=false):(l++[m]).Pairwise fun x y=>Zv x y=false:=by
 rw[List.pairwise_append]
 exact ⟨h,List.pairwise_singleton _ _,fun a ha b hb=>by rw[List.mem_singleton.1 hb];exact hm a ha⟩
theorem GT.add {t:Tb} (h:GT t) {m:Mp} (hm:nA t m) (hk:∀ o ∈ t.maps,Zv o m=false) (hn:Zz t.maps m.s < 12):GT (t.add m):=by
 refine ⟨h.aq,fun o ho=>?_,Tv h.apart hk,fun i hi=>?_,h.two,fun s hs=>?_,h.home⟩
 ·rcases List.mem_append.1 ho with ho|ho
  ·exact h.maps o ho
  ·rw[List.mem_singleton.1 ho];exact hm
 ·refine (h.used i hi).trans ⟨fun ⟨o,ho,he⟩=>⟨o,List.mem_append_left _ ho,he⟩,fun ⟨o,ho,he⟩=>?_⟩
  rcases List.mem_append.1 ho with ho|ho
  ·exact ⟨o,ho,he⟩
  ·rw[List.mem_singleton.1 ho]at he
   refine (h.used i hi).1 ?_
   rw[← he,← Hg t m,hm.2.2]
   have:=yg hm;omega
 ·show Zz (t.maps++[m]) s≤12
  rw[Tu]
  have:=h.many s hs
  split
  ·rename_i e;rw[e]at hn;omega
  ·omega
theorem yi {l:List Int} {i:Nat} (h:i < l.length) (v:Int) (j:Nat):(l.set i v).getD j 0=if j=i then v else l.getD j 0:=by
 by_cases e:j=i
 ·subst e;simp[List.getD,h]
 ·rw[if_neg e];simp[List.getD,List.getElem?_set_ne (fun q=>e q.symm)]
theorem MG {l:List Int} {i:Nat} (h:i < l.length) (v:Int) (s:Nat):Jt (l.set i v) s=(Jt l s - if l.getD i 0=(s:Int) + 1 then 1 else 0) + if v=(s:Int) + 1 then 1 else 0:=by
 unfold Jt
 rw[List.countP_set h]
 have e:l.getD i 0=l[i]:=by simp[List.getD,h]
 rw[e]
 simp only[beq_iff_eq]
theorem MH {l:List Int} {i s:Nat} (h:i < l.length) (he:l.getD i 0=(s:Int) + 1):0 < Jt l s:=by
 unfold Jt
 rw[List.countP_pos_iff]
 refine ⟨l[i],List.getElem_mem h,?_⟩
 have e:l.getD i 0=l[i]:=by simp[List.getD,h]
 rw[e]at he;simp[he]
theorem MI {p:aw} (h:p.ca=true) (a k:Nat) {o:Int} (ho:0≤o∧o≤8):(p.put a k o).ca=true:=by
 refine List.all_eq_true.2 fun x hx=>?_
 rcases List.mem_or_eq_of_mem_set hx with h2|h2
 ·exact List.all_eq_true.1 h x h2
 ·subst h2;unfold kG;simp;omega
theorem GT.take {t:Tb} (h:GT t) (hw:t.wf) {b k S:Nat} (hb:b < 3) (hk:k < 6) (hS:S < 8) (hz:t.aq.ow b k=0) (hh:t.bD S=0∨t.bD S=b + 1) (hc:Jt t.aq.own S≤1) {m:Mp} (hs:m.s=S) (ha:m.a=b) (eJ:(Xx m.port).toNat=k)
  (bY:xT t m) (iO:∀ o ∈ t.maps,Zv o m=false) (hn:Zz t.maps m.s < 12):GT ((⟨t.aq.put b k (S + 1),t.home.set S (b + 1),t.maps⟩:Tb).add m):=by
 have hl:b * 6 + k < t.aq.own.length:=by rw[hw.aq.own];omega
 have vP:S < t.home.length:=by rw[hw.home];exact hS
 have yj:Zj m=b * 6 + k:=by unfold Zj;rw[eJ,ha,Int.toNat_natCast]
 have A6:t.aq.own.getD (b * 6 + k) 0=0:=hz
 have pP:∀ u,(⟨t.aq.put b k (S + 1),t.home.set S (b + 1),t.maps⟩:Tb).bD u=if u=S then (b:Int) + 1 else t.bD u:=fun u=>yi vP _ _
 have jT:∀ i,(t.aq.own.set (b * 6 + k) ((S:Int) + 1)).getD i 0=if i=b * 6 + k then (S:Int) + 1 else t.aq.own.getD i 0:=fun i=>yi hl _ _
 have hold:∀ o ∈ t.maps,Zj o≠b * 6 + k:=fun o ho he=>by
  exact (h.used _ af).2 ⟨o,ho,he⟩ A6
 refine ⟨MI h.aq _ _ af,fun o ho=>?_,Tv h.apart iO,fun i hi=>?_,fun s qf=>?_,fun s qf=>?_,fun s qf=>?_⟩
 ·rcases List.mem_append.1 ho with ho|ho
  ·have:=h.maps o ho
   have h8:=yg this
   have h3:=this.1.2.2
   refine ⟨this.1,?_,?_⟩
   ·show (⟨t.aq.put b k (S + 1),t.home.set S (b + 1),t.maps⟩:Tb).bD _=_
    rw[pP]
    split
    ·rename_i e
     have:=this.2.1
     rw[e]at this
     omega
    ·exact this.2.1
   ·show (t.aq.own.set (b * 6 + k) ((S:Int) + 1)).getD (Zj o) 0=_
    rw[jT,if_neg (hold o ho)]
    exact this.2.2
  ·rw[List.mem_singleton.1 ho]
   refine ⟨bY,?_,?_⟩
   ·show (⟨t.aq.put b k (S + 1),t.home.set S (b + 1),t.maps⟩:Tb).bD _=_
    rw[pP,if_pos af,ha]
   ·show (t.aq.own.set (b * 6 + k) ((S:Int) + 1)).getD (Zj m) 0=_
    rw[jT,if_pos yj,hs]
 ·show (t.aq.own.set (b * 6 + k) ((S:Int) + 1)).getD i 0≠0 ↔ ∃ o ∈ t.maps++[m],Zj o=i
  rw[jT]
  by_cases e:i=b * 6 + k
  ·rw[if_pos e]
   exact ⟨fun _=>⟨m,by simp,by rw[yj,e]⟩,fun _=>by omega⟩
  ·rw[if_neg e]
   refine (h.used i hi).trans ⟨fun ⟨o,ho,he⟩=>⟨o,List.mem_append_left _ ho,he⟩,fun ⟨o,ho,he⟩=>?_⟩
   rcases List.mem_append.1 ho with ho|ho
   ·exact ⟨o,ho,he⟩
   ·rw[List.mem_singleton.1 ho]at he;exact (e (by rw[← he,yj])).elim
 ·show Jt (t.aq.own.set (b * 6 + k) ((S:Int) + 1)) s≤2
  rw[MG hl,A6,if_neg af]
  have:=h.two s qf
  split
  ·rename_i e;have:s=S:=by omega
   subst this;omega
  ·omega
 ·show Zz (t.maps++[m]) s≤12
  rw[Tu]
  have:=h.many s qf
  split
  ·rename_i e;rw[e]at hn;omega
  ·omega
 ·show (⟨t.aq.put b k (S + 1),t.home.set S (b + 1),t.maps⟩:Tb).bD s≠0 ↔ 0 < Jt (t.aq.own.set (b * 6 + k) ((S:Int) + 1)) s
  rw[pP,MG hl,A6,if_neg (show ¬ (0:Int)=(s:Int) + 1 by omega)]
  by_cases e:s=S
  ·subst e;rw[if_pos rfl,if_pos rfl];omega
  ·rw[if_neg e,if_neg af]
   have:=h.home s qf
   omega
theorem GT.del {t:Tb} (h:GT t) {i:Nat} (hi:i < t.maps.length) (ho:∃ o ∈ t.maps.eraseIdx i,Zj o=Zj t.maps[i]):GT (t.del i):=by
 have cq:∀ o ∈ t.maps.eraseIdx i,o ∈ t.maps:=fun o ho=>List.mem_of_mem_eraseIdx ho
 refine ⟨h.aq,fun o ho=>h.maps o (cq o ho),h.apart.sublist (List.eraseIdx_sublist _ _),fun j hj=>?_,h.two,fun s hs=>?_,h.home⟩
 ·refine (h.used j hj).trans ⟨fun ⟨o,px,he⟩=>?_,fun ⟨o,px,he⟩=>⟨o,cq o px,he⟩⟩
  obtain ⟨n,hn,rfl⟩:=List.getElem_of_mem px
  by_cases e:n=i
  ·subst e
   obtain ⟨q,hq,MJ⟩:=ho
   exact ⟨q,hq,MJ.trans he⟩
  ·exact ⟨_,List.mem_eraseIdx_iff_getElem.2 ⟨n,hn,e,rfl⟩,he⟩
 ·have:=h.many s hs
  exact Nat.le_trans (List.Sublist.countP_le (List.eraseIdx_sublist _ _)) this
def sQ (own:List Int) (s a:Nat):Nat:=(List.range 6).countP fun k=>own.getD (a * 6 + k) 0 == (s:Int) + 1
theorem Xwj {own:List Int} (h:own.length=18) (s:Nat):Jt own s=sQ own s 0 + sQ own s 1 + sQ own s 2:=by
 match own,h with
 | [o0,o1,o2,o3,o4,o5,o6,o7,o8,o9,o10,o11,o12,o13,o14,o15,o16,o17],_ =>
  have e:List.range 6=[0,1,2,3,4,5]:=rfl
  unfold Jt sQ
  rw[e]
  simp only[List.countP_cons,List.countP_nil,List.getD,List.getElem?_cons_zero,List.getElem?_cons_succ,Option.getD_some,Nat.zero_add,Nat.zero_mul,Nat.one_mul,Nat.reduceMul,Nat.reduceAdd,Nat.add_zero]
  ac_rfl
theorem GT.owner {t:Tb} (h:GT t) {i s:Nat} (hi:i < 18) (ho:t.aq.own.getD i 0=(s:Int) + 1):1≤t.bD s∧(t.bD s - 1).toNat=i / 6∧t.bD s≤3:=by
 obtain ⟨m,hm,he⟩:=(h.used i hi).1 af
 have aU:=h.maps m hm
 have hs:=yg aU
 have hb:=A5 m.port
 have h1:=aU.2.2
 rw[Hg,he,ho]at h1
 have h2:=aU.2.1
 rw[show m.s.toNat=s by omega]at h2
 have ha:=aU.1.2.2
 unfold Zj at he
 omega
def dd (t:Tb) (s:Nat):Prop:=∀ i,i < 18→t.aq.own.getD i 0=(s:Int) + 1→1≤t.bD s∧(t.bD s - 1).toNat=i / 6∧t.bD s≤3
theorem GT.dd {t:Tb} (h:GT t) (s:Nat):dd t s:=fun _ hi ho=>h.owner hi ho
theorem A7 {t:Tb} {s:Nat} (h:dd t s) (a:Nat) (ha:a < 3) (hn:¬ (1≤t.bD s∧(t.bD s - 1).toNat=a)):sQ t.aq.own s a=0:=by
 unfold sQ
 rw[List.countP_eq_zero]
 intro k hk he
 have hk:=List.mem_range.1 hk
 have:=h (a * 6 + k) af (by simpa using he)
 omega
theorem DR {t:Tb} {s:Nat} (h:dd t s) (hw:t.wf):Jt t.aq.own s=(jU t s).length:=by
 rw[Xwj hw.aq.own]
 unfold jU
 split
 ·rename_i h1
  have e:(Wf t s 6).length=sQ t.aq.own s (t.bD s - 1).toNat:=by
   unfold Wf sQ
   rw[← List.countP_eq_length_filter];rfl
  rw[e]
  have h0:=A7 h 0 af
  have pz:=A7 h 1 af
  have h2:=A7 h 2 af
  by_cases e0:(t.bD s - 1).toNat=0
  ·rw[e0,pz af,h2 af];omega
  ·by_cases e1:(t.bD s - 1).toNat=1
   ·rw[e1,h0 af,h2 af];omega
   ·by_cases e2:(t.bD s - 1).toNat=2
    ·rw[e2,h0 af,pz af];omega
    ·rw[h0 af,pz af,h2 af]
     have:sQ t.aq.own s (t.bD s - 1).toNat=0:=by
      unfold sQ
      rw[List.countP_eq_zero]
      intro k hk he
      rw[List.getD_eq_getElem?_getD,List.getElem?_eq_none (by have:=hw.aq.own;omega)]at he
      simp at he;omega
     omega
 ·rw[A7 h 0 af af,A7 h 1 af af,A7 h 2 af af];rfl
theorem Tw (m:Mp):Ze m.ae m.s m.aN m=true:=by simp[Ze]
theorem Tx {m o:Mp} (h:Ze m.ae m.s m.aN o=true):Zv o m=true:=by
 unfold Ze at h;unfold Zv
 simp at h ⊢
 exact ⟨h.1.1.symm,Or.inr ⟨h.1.2.symm,h.2.symm⟩⟩
theorem Ty {l:List Mp} (h:l.Pairwise fun x y=>Zv x y=false) {x y:Mp} (hx:x ∈ l) (hy:y ∈ l) (hk:Zv x y=true):x=y:=by
 obtain ⟨i,hi,rfl⟩:=List.getElem_of_mem hx
 obtain ⟨j,hj,rfl⟩:=List.getElem_of_mem hy
 have hp:=List.pairwise_iff_getElem.1 h
 rcases Nat.lt_trichotomy i j with iJ|rfl|iJ
 ·have:=hp i j hi hj iJ;rw[this]at hk;cases hk
 ·rfl
 ·have:=hp j i hj hi iJ;rw[He,this]at hk;cases hk
theorem Tz {l:List Mp} (p:Mp→Bool) (m:Mp) (hm:m ∈ l) (hp:p m=true) (hu:∀ o ∈ l,p o=true→o=m):l.find? p=some m:=by
 cases h:l.find? p with
 | none=>exact absurd hp (by have:=List.find?_eq_none.1 h m hm;simpa using this)
 | some o=>rw[hu o (List.mem_of_find?_eq_some h) (List.find?_some h)]
theorem GT.fwd {t:Tb} (h:GT t) {m:Mp} (hm:m ∈ t.maps):t.maps.find? (Ze m.ae m.s m.aN)=some m :=
 Tz _ m hm (Tw m) fun o ho hp=>Ty h.apart ho hm (Tx hp)
theorem Hh {l:List Mp} {m:Mp} (h1:l.find? (Ze m.ae m.s m.aN)=none) (h2:l.find? (Je m.ae m.a m.port)=none):∀ o ∈ l,Zv o m=false:=by
 intro o ho
 have h1:=List.find?_eq_none.1 h1 o ho
 have h2:=List.find?_eq_none.1 h2 o ho
 cases hk:Zv o m with
 | false=>rfl
 | true =>
  exfalso
  unfold Zv at hk
  unfold Ze at h1
  unfold Je at h2
  simp at hk h1 h2
  rcases hk with ⟨hp,⟨ha,hq⟩|⟨ha,hq⟩⟩
  ·exact h2 hp.symm ha.symm hq.symm
  ·exact h1 hp.symm ha.symm hq.symm
inductive cf (t:Tb) (ae:Int) (S:Nat) (aN:Int):Tb × Mp × Bool × Int→Prop
 | no (e:Int) (he:e≠0):cf t ae S aN (t,fF,false,e)
 | old (m:Mp) (hf:t.maps.find? (Ze ae S aN)=some m):cf t ae S aN (t,m,false,0)
 | own (port:Int) (hf:t.maps.find? (Ze ae S aN)=none) (aU:nA t ⟨ae,S,aN,t.bD S - 1,port⟩) (hb:t.maps.find? (Je ae (t.bD S - 1) port)=none) (hn:Zz t.maps S < 12) :
   cf t ae S aN (t.add ⟨ae,S,aN,t.bD S - 1,port⟩,⟨ae,S,aN,t.bD S - 1,port⟩,false,0)
 | new (b k:Nat) (hf:t.maps.find? (Ze ae S aN)=none) (hb:b < 3) (hk:k < 6) (hz:t.aq.ow b k=0) (hh:t.bD S=0∨t.bD S=b + 1) (hc:Jt t.aq.own S≤1) (hd:t.aq.iy b=false) (hn:Zz t.maps S < 12) :
   cf t ae S aN ((⟨t.aq.put b k (S + 1),t.home.set S (b + 1),t.maps⟩:Tb).add ⟨ae,S,aN,b,1024 + (k:Int) * 8⟩,⟨ae,S,aN,b,1024 + (k:Int) * 8⟩,true,0)
theorem MK {q i:Nat} (hq:q < 6) (hi:i < 8):Kb (1024 + (q:Int) * 8 + i)=true∧Xx (1024 + (q:Int) * 8 + i)=q:=by
 have h:Kb (1024 + (q:Int) * 8 + i)=true:=by unfold Kb;simp;omega
 refine ⟨h,?_⟩
 unfold Xx
 rw[if_pos h];omega
theorem TA {t:Tb} (h:GT t) (hw:t.wf) {ae:Int} {S:Nat} {aN:Int} (hf:t.maps.find? (Ze ae S aN)=none) (hn:Zz t.maps S < 12) (a draw:Int) (hh:t.bD S=0∨t.bD S=a + 1) (hc:Jt t.aq.own S≤1):cf t ae S aN (t.tk ae S aN a draw):=by
 have eW:=LQ t.aq hw.aq S a draw
 unfold Tb.tk
 generalize t.aq.take S a draw=x at *
 cases eW with
 | no e he=>rw[if_pos he];exact .no e he
 | yes b k ha hb hk _ _ _ hd _ ho =>
  rw[if_neg au]
  subst ha
  exact .new b k hf hb hk ho af hc hd hn
theorem opened {t:Tb} (h:GT t) (hw:t.wf) {ae:Int} {S:Nat} {aN:Int} (bB:Zu ae S aN=true) (draw:Int):cf t ae S aN (t.cx ae S aN draw):=by
 have b7:¬ (Wi t=false∨Zu ae S aN=false):=by
  rw[(vJ t).2 (Wc.2 h),bB];simp
 obtain ⟨_,⟨_,nB⟩,_⟩:=Kp bB
 unfold Tb.cx
 rw[if_neg b7]
 cases hf:t.maps.find? (Ze ae S aN) with
 | some m=>exact .old m hf
 | none =>
  dsimp only
  split
  ·exact .no 6 aR
  rename_i hn
  have hn:Zz t.maps S < 12:=by omega
  rw[Int.toNat_natCast]
  cases ML:yb t ae (t.bD S - 1) (jU t S) with
  | some port =>
   dsimp only
   unfold yb at ML
   have hm:=List.mem_of_find?_eq_some ML
   have oc:=List.find?_some ML
   obtain ⟨q,hq,hp⟩:=List.mem_flatMap.1 hm
   have h1:1≤t.bD S:=by
    rcases Int.lt_or_le (t.bD S) 1 with h2|h2
    ·have e:jU t S=[]:=if_neg af
     rw[e]at hq;cases hq
    ·exact h2
   have e:jU t S=Wf t S 6:=if_pos h1
   rw[e]at hq
   unfold Wf at hq
   obtain ⟨MM,hqo⟩:=List.mem_filter.1 hq
   have MM:=List.mem_range.1 MM
   unfold Ud at hp
   obtain ⟨i,hi,rfl⟩:=List.mem_map.1 hp
   have hi:=List.mem_range.1 hi
   obtain ⟨b1,b2⟩:=MK MM hi
   have h3:=(h.dd S)
   have pP:t.aq.ow (t.bD S - 1).toNat q=(S:Int) + 1:=by simpa using hqo
   have h3:t.bD S≤3:=by
    obtain ⟨x,hx⟩:=List.exists_mem_of_ne_nil _ (show jU t S≠[] by rw[e];intro h0;unfold Wf at h0;rw[h0]at hq;cases hq)
    have um:0 < Jt t.aq.own S:=by
     rw[DR (h.dd S) hw,List.length_pos_iff];intro h0;rw[h0]at hx;cases hx
    unfold Jt at um
    obtain ⟨o,ho,he⟩:=List.countP_pos_iff.1 um
    obtain ⟨j,hj,rfl⟩:=List.getElem_of_mem ho
    have MN:j < 18:=by have:=hw.aq.own;omega
    exact (h.dd S j MN (by rw[List.getD_eq_getElem?_getD,List.getElem?_eq_getElem hj];simpa using he)).2.2
   refine .own _ hf ⟨⟨bB,b1,by show 0≤t.bD S - 1;omega,by show t.bD S - 1 < 3;omega⟩,?_,?_⟩ ?_ hn
   ·show t.bD (S:Int).toNat=t.bD S - 1 + 1
    rw[Int.toNat_natCast];omega
   ·show t.aq.ow (t.bD S - 1).toNat (Xx _).toNat=(S:Int) + 1
    rw[b2,Int.toNat_natCast];exact pP
   ·unfold ya at oc
    simpa using oc
  | none =>
   dsimp only
   split
   ·exact .no 6 aR
   rename_i h2
   have hc:Jt t.aq.own S≤1:=by rw[DR (h.dd S) hw];omega
   split
   ·rename_i h1
    exact TA h hw hf hn _ draw af hc
   ·rename_i h1
    have h0:t.bD S=0:=by
     have:=Tb.mQ (Wc.2 h) hw (s:=S) af
     omega
    split
    ·rename_i hp
     exact .no _ hp
    ·exact TA h hw hf hn _ draw (.inl h0) hc
theorem cf.ca {t:Tb} (h:GT t) (hw:t.wf) {ae:Int} {S:Nat} {aN:Int} (bB:Zu ae S aN=true) {x:Tb × Mp × Bool × Int} (ho:cf t ae S aN x):GT x.1:=by
 obtain ⟨_,⟨_,nB⟩,_⟩:=Kp bB
 cases ho with
 | no e he=>exact h
 | old m hf=>exact h
 | own port hf aU hb hn=>exact h.add aU (Hh hf hb) hn
 | new b k hf hb hk hz hh hc hd hn =>
  obtain ⟨b1,b2⟩:=MK (i:=0) hk af
  rw[show (1024 + (k:Int) * 8 + (0:Nat))=1024 + (k:Int) * 8 by omega]at b1 b2
  refine h.take hw hb hk af hz hh hc rfl rfl (by show (Xx (1024 + (k:Int) * 8)).toNat=k;rw[b2];omega) ⟨bB,b1,by show 0≤(b:Int);omega,by show (b:Int) < 3;omega⟩ (Hh hf ?_) hn
  rw[List.find?_eq_none]
  intro o px hp
  unfold Je at hp
  simp at hp
  have aU:=h.maps o px
  have:Zj o=b * 6 + k:=by
   unfold Zj;rw[hp.1.2,hp.2,b2];omega
  exact (h.used _ af).2 ⟨o,px,this⟩ hz
theorem cf.wf {t:Tb} (hw:t.wf) {ae:Int} {S:Nat} {aN:Int} {x:Tb × Mp × Bool × Int} (ho:cf t ae S aN x):x.1.wf:=by
 cases ho with
 | no e he=>exact hw
 | old m hf=>exact hw
 | own port hf aU hb hn=>exact ⟨hw.aq,hw.home⟩
 | new b k hf hb hk hz hh hc hd hn=>exact ⟨aw.dc _ hw.aq _ _ _,by show (t.home.set _ _).length=8;rw[List.length_set];exact hw.home⟩
theorem GT.ok {t:Tb} (h:GT t) (hw:t.wf):t.ok:=by
 refine ⟨hw,fun m hm=>?_,by have:=vK (Wc.2 h);omega⟩
 have aU:=h.maps m hm
 obtain ⟨h1,h2,h3⟩:=Kp aU.1.1
 have h4:=aU.1.2
 have h5:=h4.1
 unfold Kb at h5
 simp only[Bool.and_eq_true,decide_eq_true_eq]at h5
 unfold DB
 refine ⟨?_,?_,?_,?_,?_⟩<;>omega
theorem Hj {t:Tb} {m o:Mp} (hm:xT t m) (ho:xT t o):oI m o=true ↔ Zj o=Zj m:=by
 rw[Yba ho.2.2.1 hm.2.2.1]
 unfold oI
 simp
theorem TD {p:aw} (hg:p.ca=true) {s:Int} {b k:Nat} (hb:b < 3) (hk:k < 6) (hs:0≤s) (ho:p.ow b k=s + 1):p.bW s b k=(p.put b k 0,0):=by
 unfold aw.bW
 rw[if_pos hg,if_pos]
 ·simp
 ·have ha:Jq (b:Int)=true:=by unfold Jq;simp;omega
  exact ⟨ha,by omega,by omega,hs,by simpa using ho⟩
theorem GT.bW {t:Tb} (h:GT t) (hw:t.wf) {i:Nat} (hi:i < t.maps.length) (b9:(t.maps.eraseIdx i).any (oI t.maps[i])=false):GT ((t.del i).bW t.maps[i])∧((t.del i).bW t.maps[i]).wf∧((t.del i).bW t.maps[i]).maps=t.maps.eraseIdx i:=by
 have hm:=List.getElem_mem hi
 have cq:∀ o ∈ t.maps.eraseIdx i,o ∈ t.maps:=fun o ho=>List.mem_of_mem_eraseIdx ho
 have aU:=h.maps _ hm
 have xY:=yg aU
 have iw:=A5 t.maps[i].port
 have nwa:=MF aU.1
 have mF:∀ o ∈ t.maps.eraseIdx i,Zj o≠Zj t.maps[i]:=fun o ho he=>by
  have h1:=List.any_eq_false.1 b9 o ho
  exact h1 ((Hj aU.1 (h.maps o (cq o ho)).1).2 he)
 have aJ:∀ o ∈ t.maps,o≠t.maps[i]→o ∈ t.maps.eraseIdx i:=fun o ho bX=>by
  obtain ⟨n,hn,rfl⟩:=List.getElem_of_mem ho
  exact List.mem_eraseIdx_iff_getElem.2 ⟨n,hn,fun e=>bX (by subst e;rfl),rfl⟩
 generalize t.maps[i]=m at *
 obtain ⟨A,hA⟩:=Int.eq_ofNat_of_zero_le aU.1.2.2.1
 obtain ⟨K,hK⟩:=Int.eq_ofNat_of_zero_le iw.1
 obtain ⟨S,hS⟩:=Int.eq_ofNat_of_zero_le xY.1
 have Mc:A < 3:=by have:=aU.1.2.2.2;omega
 have jT:=aU.2.2
 rw[hA,hK,Int.toNat_natCast,Int.toNat_natCast]at jT
 have MO:t.aq.bW m.s m.a (Xx m.port)=(t.aq.put A K 0,0):=by
  rw[hA,hK];exact TD h.aq Mc af xY.1 jT
 have ug:Zj m=A * 6 + K:=by unfold Zj;rw[hA,hK];simp
 have pP:=aU.2.1
 rw[hS,Int.toNat_natCast]at pP
 have hl:A * 6 + K < t.aq.own.length:=by rw[hw.aq.own];omega
 have vP:S < t.home.length:=by rw[hw.home];omega
 have DS:t.aq.own.getD (A * 6 + K) 0=(S:Int) + 1:=by rw[hS]at jT;exact jT
 have aW:∀ j,(t.aq.own.set (A * 6 + K) 0).getD j 0=if j=A * 6 + K then 0 else t.aq.own.getD j 0:=fun j=>yi hl _ _
 have iV:(t.aq.put A K 0).wf:=aw.dc _ hw.aq _ _ _
 have iv:∀ s,Jt (t.aq.own.set (A * 6 + K) 0) s=Jt t.aq.own s - if s=S then 1 else 0:=fun s=>by
  rw[MG hl,DS,if_neg (show ¬ (0:Int)=(s:Int) + 1 by omega)]
  by_cases e:s=S
  ·subst e;simp
  ·rw[if_neg af,if_neg e];rfl
 have eF:=MH hl DS
 have hH:_root_.Go.Proofs.YtogckmommodmhaaGreatDoor.dd ⟨t.aq.put A K 0,t.home,t.maps.eraseIdx i⟩ S:=fun j hj qj=>by
  have qj:(t.aq.own.set (A * 6 + K) 0).getD j 0=(S:Int) + 1:=qj
  rw[aW]at qj
  split at qj
  ·omega
  ·exact h.dd S j hj qj
 have fH:=DR hH ⟨iV,hw.home⟩
 have fH:Jt (t.aq.own.set (A * 6 + K) 0) S=(jU ⟨t.aq.put A K 0,t.home,t.maps.eraseIdx i⟩ S).length:=fH
 have eM:(t.maps.eraseIdx i).any (fun o=>decide (o.s=(S:Int)))=true→Jt (t.aq.own.set (A * 6 + K) 0) S≠0:=fun ha=>by
  obtain ⟨o,ho,he⟩:=List.any_eq_true.1 ha
  have he:o.s=(S:Int):=by simpa using he
  have vQ:=h.maps o (cq o ho)
  have h1:=vQ.2.2
  rw[Hg,he]at h1
  have h2:=mF o ho
  have h3:(t.aq.own.set (A * 6 + K) 0).getD (Zj o) 0=(S:Int) + 1:=by rw[aW,if_neg (by rw[← ug];exact h2)];exact h1
  have:=MH (by rw[List.length_set,hw.aq.own];exact MF vQ.1) h3
  omega
 -- JG holds DT the homes
 have key:∀ H:List Int,H.length=8→(∀ s,s < 8→s≠S→H.getD s 0=t.bD s)→(H.getD S 0=if Jt (t.aq.own.set (A * 6 + K) 0) S=0 then 0 else t.bD S)→GT ⟨t.aq.put A K 0,H,t.maps.eraseIdx i⟩:=by
  intro H uo DU sF
  refine ⟨MI h.aq _ _ af,fun o ho=>?_,h.apart.sublist (List.eraseIdx_sublist _ _),fun j hj=>?_,fun s hs=>?_,fun s hs=>?_,fun s hs=>?_⟩
  ·have vQ:=h.maps o (cq o ho)
   have DV:=yg vQ
   refine ⟨vQ.1,?_,?_⟩
   ·show H.getD o.s.toNat 0=o.a + 1
    by_cases e:o.s=(S:Int)
    ·have hz:=eM (List.any_eq_true.2 ⟨o,ho,by simp[e]⟩)
     rw[e,Int.toNat_natCast,sF,if_neg hz]
     have:=vQ.2.1;rw[e,Int.toNat_natCast]at this;exact this
    ·rw[DU _ af af];exact vQ.2.1
   ·show (t.aq.own.set (A * 6 + K) 0).getD (Zj o) 0=o.s + 1
    rw[aW,if_neg (by rw[← ug];exact mF o ho)];exact vQ.2.2
  ·show (t.aq.own.set (A * 6 + K) 0).getD j 0≠0 ↔ ∃ o ∈ t.maps.eraseIdx i,Zj o=j
   rw[aW]
   by_cases e:j=A * 6 + K
   ·rw[if_pos e]
    refine ⟨fun h0=>(h0 rfl).elim,fun ⟨o,ho,he⟩=>?_⟩
    exact (mF o ho (by rw[he,ug,e])).elim
   ·rw[if_neg e]
    refine (h.used j hj).trans ⟨fun ⟨o,ho,he⟩=>⟨o,aJ o ho (fun q=>e (by rw[← he,q,ug])),he⟩,fun ⟨o,ho,he⟩=>⟨o,cq o ho,he⟩⟩
  ·show Jt (t.aq.own.set (A * 6 + K) 0) s≤2
   rw[iv];have:=h.two s hs;omega
  ·exact Nat.le_trans (List.Sublist.countP_le (List.eraseIdx_sublist _ _)) (h.many s hs)
  ·show H.getD s 0≠0 ↔ 0 < Jt (t.aq.own.set (A * 6 + K) 0) s
   by_cases e:s=S
   ·subst e
    rw[sF]
    have:=aU.1.2.2.1
    split<;>omega
   ·rw[DU s hs e,iv,if_neg e]
    exact h.home s hs
 unfold Tb.bW
 have e1:(t.del i).aq=t.aq:=rfl
 have e2:(t.del i).home=t.home:=rfl
 have e3:(t.del i).maps=t.maps.eraseIdx i:=rfl
 rw[e1,e2,e3,MO,hS,Int.toNat_natCast]
 dsimp only
 split
 ·rename_i h0
  rw[h0]at fH
  refine ⟨key _ (by rw[List.length_set];exact hw.home) (fun s _ bX=>?_) ?_,⟨iV,by show (t.home.set _ _).length=8;rw[List.length_set];exact hw.home⟩,rfl⟩
  ·rw[yi vP,if_neg bX];rfl
  ·rw[yi vP,if_pos rfl,if_pos (by simpa using fH)]
 ·rename_i h0
  refine ⟨key _ hw.home (fun s _ _=>rfl) ?_,⟨iV,hw.home⟩,rfl⟩
  rw[if_neg]
  ·rfl
  ·rw[fH];intro h1;exact h0 (List.eq_nil_of_length_eq_zero h1)
theorem GT.cls {t:Tb} (h:GT t) (hw:t.wf) {m:Mp} (hm:m ∈ t.maps):∃ i,i < t.maps.length∧t.maps[i]?=some m∧GT (t.cls m).1∧(t.cls m).1.wf∧(t.cls m).1.maps=t.maps.eraseIdx i∧(t.cls m).2.2=0:=by
 have hg:¬ Wi t=false:=by rw[(vJ t).2 (Wc.2 h)];simp
 unfold Tb.cls
 rw[if_neg hg]
 cases hf:t.maps.findIdx? (fun x=>decide (m=x)) with
 | none =>
  have:=List.findIdx?_eq_none_iff.1 hf m hm
  simp at this
 | some i =>
  obtain ⟨hi,he⟩:=Tq hf
  refine ⟨i,hi,by rw[List.getElem?_eq_getElem hi,he],?_⟩
  dsimp only
  split
  ·rename_i ha
   obtain ⟨o,ho,DV⟩:=List.any_eq_true.1 ha
   have:=h.del hi ⟨o,ho,by rw[he];exact (Hj (h.maps m hm).1 (h.maps o (List.mem_of_mem_eraseIdx ho)).1).1 DV⟩
   exact ⟨this,⟨hw.aq,hw.home⟩,rfl,rfl⟩
  ·rename_i ha
   have:=h.bW hw hi (by rw[he];simpa using ha)
   rw[he]at this
   exact ⟨this.1,this.2.1,this.2.2,rfl⟩
theorem round {t:Tb} (h:GT t) (hw:t.wf) {ae:Int} {S:Nat} {aN:Int} (bB:Zu ae S aN=true) {x:Tb × Mp × Bool × Int} (ho:cf t ae S aN x) (hf:t.maps.find? (Ze ae S aN)=none) (he:x.2.2.2=0) :
  x.1.cls x.2.1=(t,x.2.2.1,0):=by
 have Hk:=ho.ca h hw bB
 obtain ⟨_,⟨_,nB⟩,_⟩:=Kp bB
 have last:∀ (T:Tb) (m:Mp),GT (T.add m)→(∀ o ∈ T.maps,Zv o m=false)→(T.add m).cls m=if T.maps.any (oI m)=true then (T,false,0) else (T.bW m,true,0):=by
  intro T m hg hk
  unfold Tb.cls
  rw[if_neg (by rw[(vJ _).2 (Wc.2 hg)];simp)]
  have e1:(T.add m).maps.findIdx? (fun x=>decide (m=x))=some T.maps.length:=by
   show (T.maps++[m]).findIdx? _=_
   rw[List.findIdx?_append]
   have:T.maps.findIdx? (fun x=>decide (m=x))=none:=by
    rw[List.findIdx?_eq_none_iff]
    intro o ho
    have:=Xgy (hk o ho)
    simp;exact fun e=>this e.symm
   rw[this];simp
  have e2:(T.add m).maps.eraseIdx T.maps.length=T.maps:=by
   show (T.maps++[m]).eraseIdx T.maps.length=_
   rw[List.eraseIdx_append_of_length_le (Nat.le_refl _)];simp
  have e3:(T.add m).del T.maps.length=T:=by unfold Tb.del;rw[e2];rfl
  rw[e1]
  dsimp only
  rw[e2,e3]
 cases ho with
 | no e lD=>exact (lD he).elim
 | old m ml=>rw[hf]at ml;cases ml
 | own port ml aU hb hn =>
  dsimp only at Hk ⊢
  rw[last t _ Hk (Hh hf hb),if_pos]
  have h1:t.aq.own.getD (Zj ⟨ae,S,aN,t.bD S - 1,port⟩) 0≠0:=by
   rw[← Hg t,aU.2.2];show (S:Int) + 1≠0;omega
  obtain ⟨o,ho,he⟩:=(h.used _ (MF aU.1)).1 h1
  exact List.any_eq_true.2 ⟨o,ho,(Hj aU.1 (h.maps o ho).1).2 he⟩
 | new b k ml hb hk hz hh hc hd hn =>
  dsimp only at Hk ⊢
  obtain ⟨b1,b2⟩:=MK (i:=0) hk af
  rw[show (1024 + (k:Int) * 8 + (0:Nat))=1024 + (k:Int) * 8 by omega]at b1 b2
  have bY:xT t ⟨ae,S,aN,b,1024 + (k:Int) * 8⟩:=⟨bB,b1,by show 0≤(b:Int);omega,by show (b:Int) < 3;omega⟩
  have ug:Zj ⟨ae,S,aN,b,1024 + (k:Int) * 8⟩=b * 6 + k:=by
   unfold Zj;rw[b2];simp
  have DW:∀ o ∈ t.maps,Zj o≠b * 6 + k:=fun o ho he=>(h.used _ af).2 ⟨o,ho,he⟩ hz
  have iO:∀ o ∈ t.maps,Zv o ⟨ae,S,aN,b,1024 + (k:Int) * 8⟩=false:=by
   refine Hh hf ?_
   rw[List.find?_eq_none]
   intro o px hp
   unfold Je at hp
   simp at hp
   refine DW o px ?_
   unfold Zj;rw[hp.1.2,hp.2,b2];omega
  have hl:b * 6 + k < t.aq.own.length:=by rw[hw.aq.own];omega
  have A6:t.aq.own.getD (b * 6 + k) 0=0:=hz
  rw[last _ _ Hk iO,if_neg]
  ·have hpb:(t.aq.put b k ((S:Int) + 1)).put b k 0=t.aq:=by
    unfold aw.put
    dsimp only
    rw[List.set_set]
    have:t.aq.own.set (b * 6 + k) 0=t.aq.own:=by
     have e:t.aq.own[b * 6 + k]=0:=by rw[List.getD_eq_getElem?_getD,List.getElem?_eq_getElem hl]at A6;exact A6
     rw[← e,List.set_getElem_self]
    rw[this]
   have MO:(t.aq.put b k ((S:Int) + 1)).bW S b k=(t.aq,0):=by
    rw[TD (MI h.aq _ _ af) hb hk af,hpb]
    show (t.aq.own.set (b * 6 + k) ((S:Int) + 1)).getD (b * 6 + k) 0=_
    rw[yi hl,if_pos rfl]
   unfold Tb.bW
   dsimp only
   rw[b2,MO,Int.toNat_natCast]
   dsimp only
   have vP:S < t.home.length:=by rw[hw.home];omega
   have pP:(⟨t.aq,t.home.set S ((b:Int) + 1),t.maps⟩:Tb).bD S=b + 1:=by
    show (t.home.set S ((b:Int) + 1)).getD S 0=_
    rw[yi vP,if_pos rfl]
   have TF:=DR (h.dd S) hw
   rcases hh with hh|hh
   ·have jw:Jt t.aq.own S=0:=by
     have:=h.home S af
     rcases Nat.eq_zero_or_pos (Jt t.aq.own S) with h0|h0
     ·exact h0
     ·exact (this.2 h0 hh).elim
    rw[if_pos]
    ·rw[List.set_set]
     have:t.home.set S 0=t.home:=by
      have e:t.home[S]=0:=by
       unfold Tb.bD at hh
       rw[List.getD_eq_getElem?_getD,List.getElem?_eq_getElem vP]at hh;exact hh
      rw[← e,List.set_getElem_self]
     rw[this]
    ·have tQ:dd ⟨t.aq,t.home.set S ((b:Int) + 1),t.maps⟩ S:=fun j hj qj=>by
      exfalso
      have:=MH (s:=S) (by have:=hw.aq.own;omega:j < t.aq.own.length) qj
      omega
     have:=DR tQ ⟨hw.aq,by show (t.home.set _ _).length=8;rw[List.length_set];exact hw.home⟩
     have e:(jU ⟨t.aq,t.home.set S ((b:Int) + 1),t.maps⟩ S).length=0:=by rw[← this];exact jw
     exact List.eq_nil_of_length_eq_zero e
   ·have dH:t.home.set S ((b:Int) + 1)=t.home:=by
     have e:t.home[S]=(b:Int) + 1:=by
      unfold Tb.bD at hh
      rw[List.getD_eq_getElem?_getD,List.getElem?_eq_getElem vP]at hh;exact hh
     rw[← e,List.set_getElem_self]
    rw[dH,if_neg]
    intro h0
    rw[h0]at TF
    have:=(h.home S af).1 af
    simp at TF;omega
  ·rw[Bool.not_eq_true,List.any_eq_false]
   intro o ho hs
   exact DW o ho (by rw[(Hj bY (h.maps o ho).1).1 hs,ug])
def MP:aw:=⟨List.replicate 18 0,List.replicate 3 false⟩
def MQ:Tb:=⟨MP,List.replicate 8 0,[]⟩
theorem Xvo:MP.wf:=⟨rfl,rfl⟩
theorem Yco:MQ.wf:=⟨Xvo,rfl⟩
theorem TG (n i:Nat):(List.replicate n (0:Int)).getD i 0=0:=DC n i
theorem GT.none {p:aw} (h:p.ca=true) (ho:∀ i,p.own.getD i 0=0) {H:List Int} (hH:∀ i,H.getD i 0=0) (hc:∀ s,Jt p.own s=0):GT ⟨p,H,[]⟩:=by
 refine ⟨h,fun m hm=>(by cases hm),List.Pairwise.nil,fun i _=>⟨fun h=>(h (ho i)).elim,fun ⟨m,hm,_⟩=>(by cases hm)⟩,fun s _=>(by show Jt p.own s≤2;rw[hc];omega),fun s _=>Nat.zero_le _,fun s _=>⟨fun h=>(h (hH s)).elim,fun h=>?_⟩⟩
 have h:0 < Jt p.own s:=h
 rw[hc]at h;omega
theorem Yd1:GT MQ:=GT.none (by decide) (fun i=>TG 18 i) (fun i=>TG 8 i) fun s=>by
 unfold Jt MP
 rw[List.countP_eq_zero]
 intro o ho
 rw[(List.mem_replicate.1 ho).2]
 simp;omega
theorem cf.has {t:Tb} {ae:Int} {S:Nat} {aN:Int} {x:Tb × Mp × Bool × Int} (h:cf t ae S aN x) (he:x.2.2.2=0):x.2.1 ∈ x.1.maps∧x.2.1.ae=ae∧x.2.1.s=S∧x.2.1.aN=aN∧(x.2.2.1=true→∃ b,b < 3∧x.2.1.a=(b:Nat)∧t.aq.iy b=false):=by
 cases h with
 | no e lD=>exact (lD he).elim
 | old m hf =>
  have:=List.find?_some hf
  unfold Ze at this
  simp at this
  exact ⟨List.mem_of_find?_eq_some hf,this.1.1,this.1.2,this.2,fun h=>by cases h⟩
 | own port hf aU hb hn=>exact ⟨List.mem_append_right _ (List.mem_singleton.2 rfl),rfl,rfl,rfl,fun h=>by cases h⟩
 | new b k hf hb hk hz hh hc hd hn=>exact ⟨List.mem_append_right _ (List.mem_singleton.2 rfl),rfl,rfl,rfl,fun _=>⟨b,hb,rfl,hd⟩⟩
theorem Yfv {t:Tb} (h:GT t) {i:Nat} {m:Mp} (hi:t.maps[i]?=some m):(t.maps.eraseIdx i).find? (Ze m.ae m.s m.aN)=none:=by
 rw[List.find?_eq_none]
 intro o ho hp
 obtain ⟨n,hn,bX,rfl⟩:=List.mem_eraseIdx_iff_getElem.1 ho
 obtain ⟨A8,he⟩:=List.getElem?_eq_some_iff.1 hi
 have hk:=Tx hp
 have hp:=List.pairwise_iff_getElem.1 h.apart
 rcases Nat.lt_or_gt_of_ne bX with h1|h1
 ·have:=hp n i hn A8 h1;rw[he]at this;rw[this]at hk;cases hk
 ·have:=hp i n A8 hn h1;rw[he,He]at this;rw[this]at hk;cases hk
theorem GT.drain {t:Tb} (h:GT t) (a:Int) (to:Bool):GT ⟨(t.aq.drain a to).1,t.home,t.maps⟩:=by
 have ho:(t.aq.drain a to).1.own=t.aq.own:=by
  unfold aw.drain
  split
  ·split<;>rfl
  ·rfl
 have jT:∀ a' k,(t.aq.drain a to).1.ow a' k=t.aq.ow a' k:=fun a' k=>by unfold aw.ow;rw[ho]
 refine ⟨?_,fun m hm=>?_,h.apart,fun i hi=>?_,fun s hs=>?_,h.many,fun s hs=>?_⟩
 ·unfold aw.ca;rw[ho];exact h.aq
 ·have:=h.maps m hm
  exact ⟨this.1,this.2.1,by show (t.aq.drain a to).1.ow _ _=_;rw[jT];exact this.2.2⟩
 ·show (t.aq.drain a to).1.own.getD i 0≠0 ↔ _
  rw[ho];exact h.used i hi
 ·show Jt (t.aq.drain a to).1.own s≤2
  rw[ho];exact h.two s hs
 ·show _ ↔ 0 < Jt (t.aq.drain a to).1.own s
  rw[ho];exact h.home s hs
def DX:List AV:=[.int .i64 1,.int .i64 6,.int .i64 17]
theorem Xon (n:Nat):ai n DX=True:=by simp[DX,ai,Qe]
theorem Xa6 (ρ:Nat→Nat):ay ρ DX=DX:=by simp[DX,ay,aD]
attribute [go_sem] Xon Xa6
end Go.Proofs.YtogckmommodmhaaGreatDoor
