import Derived.Test.YtogckmommodmhaaGreatDoorZw10
import Derived.Test.YtogckmommodmhaaGreatDoorZw5
import Derived.Test.YtogckmommodmhaaGreatDoorZw1
import Derived.Test.YtogckmommodmhaaGreatDoorRows
import Derived.KernelRfl
namespace Go.Proofs.YtogckmommodmhaaGreatDoor
open Go.RowKit
set_option linter.all false
set_option linter.unusedSimpArgs false
set_option maxRecDepth 100000
theorem Ms (m:Mp):∀ (l:List Mp) (k:Nat),vX l m k=match l.findIdx? (fun x=>decide (m=x)) with
  | some i=>((i + k:Nat):Int)
  | none=>-1
 | [],k=>rfl
 | x::l,k=>by
  rw[vX,Ms m l (k + 1),List.findIdx?_cons]
  by_cases h:m=x
  ·simp[h]
  ·simp only[h,if_false,decide_false]
   cases l.findIdx? (fun x=>decide (m=x)) with
   | none=>rfl
   | some i=>simp only[Option.map_some,Bool.false_eq_true,if_false];congr 1;omega
theorem Tx {l:List Mp} {m:Mp} {i:Nat} (h:l.findIdx? (fun x=>decide (m=x))=some i):∃ hi:i < l.length,l[i]=m:=by
 obtain ⟨hi,h1,_⟩:=List.findIdx?_eq_some_iff_getElem.1 h
 exact ⟨hi,(of_decide_eq_true h1).symm⟩
def oM (m o:Mp):Bool:=decide (o.a=m.a) && decide (Xb o.port=Xb m.port)
noncomputable def Tb.bX (t:Tb) (m:Mp):Tb :=
 if jT ⟨(t.aq.bX m.s m.a (Xb m.port)).1,t.home,t.maps⟩ m.s.toNat=[] then ⟨(t.aq.bX m.s m.a (Xb m.port)).1,t.home.set m.s.toNat 0,t.maps⟩ else ⟨(t.aq.bX m.s m.a (Xb m.port)).1,t.home,t.maps⟩
def Tb.del (t:Tb) (i:Nat):Tb:=⟨t.aq,t.home,t.maps.eraseIdx i⟩
noncomputable def Tb.cls (t:Tb) (m:Mp):Tb × Bool × Int :=
 if Wr t=false then (t,false,2) else
 match t.maps.findIdx? (fun x=>decide (m=x)) with
 | none=>(t,false,7)
 | some i=>if (t.maps.eraseIdx i).any (oM m)=true then (t.del i,false,0) else ((t.del i).bX m,true,0)
def lU (x:Tb × Bool × Int):AV:=.aU [.agg x.1.enc,.bool x.2.1,.int .i64 x.2.2]
theorem GJ (x:Tb × Bool × Int) (n:Nat):Qf n (lU x)=True:=by simp[Qf,ah,lU,Tb.b8]
theorem Xs5 (x:Tb × Bool × Int) (ρ:Nat→Nat):aD ρ (lU x)=lU x:=by simp[aD,ay,lU,Tb.dA]
attribute [go_sem] GJ Xs5
set_option maxHeartbeats 4000000 in
set_option maxRecDepth 20000 in
theorem Xfz (gl:Nat→AV) (t:Tb) (ht:t.ok) (m:Mp) (h:Wr t=false):PS Tryz.prog gl 102 [.agg t.enc,.agg m.enc] (lU (t,false,2)):=by
 refine Gy.ps (of_decide_eq_true rfl) (by simp[GJ]) fun c hN hg=>?_
 conv in aQ _ _=>cbv
 have e2:=Tb.aA ht.wf
 have hG:=Dr c.gl t ht
 rw[h]at hG
 unfold Mp.enc
 refine Qh @e2 ?_
 refine Qv hG @e2 ?_
 (refine Qa (fun h1=>?_) (fun h1=>?_)<;>try exact h1.elim)
 exact Qq (An @e2 @lU.eq_1)
set_option maxHeartbeats 4000000 in
set_option maxRecDepth 20000 in
theorem Qza (gl:Nat→AV) (t:Tb) (ht:t.ok) (m:Mp) (h:Wr t=true) (hi:t.maps.findIdx? (fun x=>decide (m=x))=none):PS Tryz.prog gl 102 [.agg t.enc,.agg m.enc] (lU (t,false,7)):=by
 refine Gy.ps (of_decide_eq_true rfl) (by simp[GJ]) fun c hN hg=>?_
 conv in aQ _ _=>cbv
 have e2:=Tb.aA ht.wf
 have e3:=Tb.cz ht.wf
 have hG:=Dr c.gl t ht
 rw[h]at hG
 have hI:=Tv c.gl t.maps ht.len m
 rw[Ms,hi]at hI
 dsimp only at hI
 unfold Mp.enc at hI ⊢
 refine Qh @e2 ?_
 refine Qv hG @e2 ?_
 (refine Qa (fun h1=>?_) (fun h1=>?_)<;>try exact h1.elim)
 refine Qh (An @e2 @e3) ?_
 refine Qv hI (An @e2 @e3) ?_
 (refine Qa (fun h2=>?_) (fun h2=>?_)<;>try exact h2.elim)
 exact Qq (An @e2 @lU.eq_1)
theorem Xx2 {t:Tb} (h:t.wf) (x:AV):(t.hd++[x]).getD 29 .any=x:=by
 rw[List.getD_eq_getElem?_getD,List.getElem?_append_right (by rw[Tb.cU h];decide),Tb.cU h];rfl
theorem Xyl {t:Tb} (h:t.wf) (x:AV):(t.hd++[x]).take 21=t.aq.enc:=by
 unfold Tb.hd
 rw[List.append_assoc,List.take_append_of_le_length (by rw[ax.aA h.aq];decide),List.take_of_length_le (by rw[ax.aA h.aq];decide)]
theorem Xab {t:Tb} (h:t.wf) {p:ax} (hp:p.wf) (x:AV):Yp (t.hd++[x]) 0 p.enc=(⟨p,t.home,t.maps⟩:Tb).hd++[x]:=by
 unfold Yp Tb.hd
 rw[List.take_zero,List.nil_append,ax.aA hp,List.append_assoc,List.append_assoc,Nat.zero_add,← ax.aA h.aq,List.drop_left]
theorem Xag {t:Tb} (h:t.wf) {s:Nat} (hs:s < 8) (v:Int) (x:AV):(t.hd++[x]).set (21 + s) (.int .i64 v)=(⟨t.aq,t.home.set s v,t.maps⟩:Tb).hd++[x]:=by
 unfold Tb.hd
 rw[List.append_assoc,List.set_append_right _ _ (by rw[ax.aA h.aq];omega),ax.aA h.aq,show 21 + s - 21=s by omega,List.set_append_left _ _ (by rw[Xv,h.home];exact hs),List.append_assoc]
 simp[Qo,List.map_set]
theorem Yfj {g:Nat→GM} {W:Nat→Prop} {w:World} {n:Nat} {cs:List AV} {v:Value} (h:VR g W w (.isl n cs) v):VR g W w (.isl n []) v:=by
 obtain ⟨a,cap,us,rfl,h1,h2,_,_⟩:=rU h
 exact .isl (us:=us) h1 h2 (fun j hj=>by simp at hj) (fun j hj=>by simp at hj)
theorem PS.len {P:Program} {gl:Nat→AV} {f:FuncId} {args:List AV} {n:Nat} {cs:List AV} (h:PS P gl f args (.isl n cs)):PS P gl f args (.isl n []) :=
 ⟨h.1,fun w vs X hX hg hv=>(h.2 w vs X hX hg hv).mono fun e w' ⟨v,he,hr,hf⟩=>⟨v,he,Yfj hr,hf⟩⟩
theorem Jo.len (n:Nat):Jo (.isl n []):=fun _ _ _ _ _ _ _ h=>by
 obtain ⟨a,cap,us,rfl,h1,h2,_,_⟩:=rU h
 exact .isl (us:=us) h1 h2 (fun j hj=>by simp at hj) (fun j hj=>by simp at hj)
def sK:List AV:=ig.take 29++[.nils]
theorem Ybc (n:Nat):ah n sK=True:=by simp[sK,ig,ah,Qf]
theorem Xq1 (ρ:Nat→Nat):ay ρ sK=sK:=by simp[sK,ig,ay,aD]
attribute [go_sem] Ybc Xq1
theorem Yb1 (l:List Mp) (k:Nat) (h:k < l.length) (f:Mp→Bool):(l.drop k).any f=(f l[k] || (l.drop (k + 1)).any f):=by
 rw[List.drop_eq_getElem_cons h,List.any_cons]
set_option maxHeartbeats 8000000 in
set_option maxRecDepth 20000 in
theorem Xmx (gl:Nat→AV) (t:Tb) (ht:t.ok) (lz:dB t) (m:Mp) (i:Nat) (hi:t.maps.findIdx? (fun x=>decide (m=x))=some i) (R:AV) (eE:Qf 0 R)
  (H1:Hid ((t.maps.eraseIdx i).any (oM m)=true→R=lU (t.del i,false,0)))
  (H2:Hid ((t.maps.eraseIdx i).any (oM m)=false→R=lU ((t.del i).bX m,true,0))):PS Tryz.prog gl 102 [.agg t.enc,.agg m.enc] R:=by
 refine Gy.ps (of_decide_eq_true rfl) eE fun c hN hg=>?_
 conv in aQ _ _=>cbv
 have e2:=Tb.aA ht.wf
 have e3:=Tb.cz ht.wf
 have hG:=Dr c.gl t ht
 rw[LX lz]at hG
 have hI:=Tv c.gl t.maps ht.len m
 rw[Ms,hi]at hI
 dsimp only at hI
 rw[Nat.add_zero]at hI
 have oK:=vV lz
 have aH:=Jg t.maps
 have hs:=Tb.nF ht.wf
 have ie:=Tb.mO t ht.wf
 have bc:=fun x=>Xx2 ht.wf x
 have uw:=Tb.cU ht.wf
 obtain ⟨qT,Lm⟩:=Tx hi
 have aX:=lz.maps i qT
 rw[Lm]at aX
 obtain ⟨⟨bw,AU,L8,qM⟩,pL,gR⟩:=aX
 obtain ⟨_,⟨kW,xP⟩,_⟩:=Kx bw
 have DA:=AU
 unfold Jr at DA
 simp only[Bool.and_eq_true,decide_eq_true_eq]at DA
 have hB:=Dn c.gl m.port ae
 unfold uo at hB
 rw[AU]at hB
 simp only[if_true]at hB
 have hD:=Xof c.gl t.maps ae i qT
 have hLl:(t.maps.eraseIdx i).length=t.maps.length - 1:=by rw[List.length_eraseIdx,if_pos qT]
 have hLb:∀ (k:Nat) (h:k < (t.maps.eraseIdx i).length),-9223372036854775808≤(t.maps.eraseIdx i)[k].port∧(t.maps.eraseIdx i)[k].port≤9223372036854775807:=fun k h=>by
  have hm:=List.mem_of_mem_eraseIdx (List.getElem_mem h)
  obtain ⟨j,hj,he⟩:=List.getElem_of_mem hm
  have h2:=(lz.maps j hj).1.2.1
  rw[he]at h2
  unfold Jr at h2
  simp only[Bool.and_eq_true,decide_eq_true_eq]at h2
  omega
 have Mt:=Xsb c.gl t.aq ht.wf.aq m.s m.a (Xb m.port) ae
 have GK:((t.aq.bX m.s m.a (Xb m.port)).1).wf:=ax.uj _ ht.wf.aq _ _ _
 obtain ⟨S,hS⟩:=Int.eq_ofNat_of_zero_le kW
 have Mu:m.s.toNat=S:=by omega
 have Mv:∀ L,L=t.maps.eraseIdx i→t.del i=⟨t.aq,t.home,L⟩:=fun L h=>by rw[h];rfl
 have uz:=Mv _ rfl
 unfold Tb.bX at H2
 rw[uz]at H1 H2
 rw[← hLl]at hD
 generalize t.maps.eraseIdx i=L at *
 have DB:=Jg L
 have aW:=Xyl ht.wf
 have e4:=ax.aA GK
 have dH:(⟨(t.aq.bX m.s m.a (Xb m.port)).1,t.home,L⟩:Tb).wf:=⟨GK,ht.wf.home⟩
 have eg:∀ x,Yp (t.hd++[x]) 0 (t.aq.bX m.s m.a (Xb m.port)).1.enc=(⟨(t.aq.bX m.s m.a (Xb m.port)).1,t.home,L⟩:Tb).hd++[x]:=fun x=>Xab ht.wf GK x
 have jU:0≤(⟨(t.aq.bX m.s m.a (Xb m.port)).1,t.home,L⟩:Tb).bC S∧(⟨(t.aq.bX m.s m.a (Xb m.port)).1,t.home,L⟩:Tb).bC S≤3:=by
  have:(⟨(t.aq.bX m.s m.a (Xb m.port)).1,t.home,L⟩:Tb).bC S=t.bC m.s.toNat:=by rw[Mu];rfl
  omega
 have uu:1≤(⟨(t.aq.bX m.s m.a (Xb m.port)).1,t.home,L⟩:Tb).bC S:=by
  have:(⟨(t.aq.bX m.s m.a (Xb m.port)).1,t.home,L⟩:Tb).bC S=t.bC m.s.toNat:=by rw[Mu];rfl
  omega
 have sJ:=S5 c.gl _ dH S ae jU
 have fk:vS _ S=_:=if_pos uu
 have Mw:jT _ S=_:=if_pos uu
 rw[fk]at sJ
 rw[Mu]at H2
 dsimp only at H2
 rw[Mw]at H2
 unfold Wy at Mt
 generalize t.aq.bX m.s m.a (Xb m.port)=gv at *
 obtain ⟨p',ge⟩:=gv
 dsimp only at *
 have Ty:=fun v x=>Xag dH (show S < 8 by omega) v x
 dsimp only at Ty
 have e5:∀ x,((⟨p',t.home,L⟩:Tb).hd++[x]).length=30:=fun x=>Tb.mO _ dH x
 have DC:(Wg ⟨p',t.home,L⟩ S 6).length=0 ↔ Wg ⟨p',t.home,L⟩ S 6=[]:=List.length_eq_zero_iff
 have kf:=Dm (Wg ⟨p',t.home,L⟩ S 6)
 generalize Wg ⟨p',t.home,L⟩ S 6=W at *
 have ec:(ca L).take (L.length * 5)=ca L:=List.take_of_length_le ae
 have tO:t.maps.length=L.length + 1:=by omega
 have Mx:=Me c.gl t.maps ae
 have My:∀ o:Mp,oM m o=(decide (o.a=m.a) && decide (Xb o.port=Xb m.port)):=fun _=>rfl
 have Mz:(⟨p',t.home,L⟩:Tb).enc=(⟨p',t.home,L⟩:Tb).hd++[.isl L.length (ca L)]:=rfl
 rw[Mz]at sJ
 have sJ:=sJ.len
 have uA:=Tb.cU dH
 rw[hS]at Mt
 unfold Mp.enc at hI ⊢
 rw[hS]at hI ⊢
 refine Qh @e2 ?_
 refine Qv hG @e2 ?_
 (refine Qa (fun h1=>?_) (fun h1=>?_)<;>try exact h1.elim)
 refine Qh (An @e2 @e3) ?_
 refine Qv hI (An @e2 @e3) ?_
 (refine Qa (fun h2=>?_) (fun h2=>?_)<;>try exact h2.elim)
 ·omega
 refine Qh (An @e2 @e3) ?_
 refine Xm (ip []) Mx (An @e2 @e3) ?_
 refine Xm (ip [3]) hD (An @e2 @e3) ?_
 refine Qh (An @hs (An @e2 @ie)) ?_
 refine Qv hB (An @uw @bc) ?_
 refine Xd (fun k:Nat=>k≤L.length∧L.any (oM m)=(L.drop k).any (oM m))
  (fun k=>⟨[(2,.ptr 0 0),(3,.ptr 1 0),(4,.ptr 2 0),(8,.int .i64 (Xb m.port)),(43,.sl 5 3 0 L.length t.maps.length),(44,.int .i64 L.length),(45,.int .i64 k)],[(0,.cells (t.hd++[.sl 5 3 0 L.length t.maps.length])),(1,.cells [.int .i64 m.af,.int .i64 S,.int .i64 m.aR,.int .i64 m.a,.int .i64 m.port]),(2,.cells sK),(3,.cells (ca L))],4⟩) (fun k=>L.length - k) Gy.mixed hN
  ⟨0,⟨by omega,rfl⟩,[(3,3)],by exact Qq (An @sK.eq_1 @ig.eq_1)⟩ fun k hk=>?_
 obtain ⟨hk,vY⟩:=hk
 refine Qe ?_
 (refine Qa (fun h3=>?_) (fun h3=>?_)<;>try exact h3.elim)
 ·have bw:k < L.length:=by omega
  have a7:=vQ L k bw
  have MA:=Dn c.gl _ (hLb k bw)
  rw[Yb1 L k bw,My]at vY
  generalize L[k]=o at *
  obtain ⟨op,os,oi,oa,ot⟩:=o
  simp only[Mp.enc]at a7
  dsimp only at MA vY
  unfold uo at MA
  generalize (if Jr ot=true then (ot - 1024) % 8 else 0)=oj at *
  generalize Xb ot=ob at *
  generalize Jr ot=oq at *
  refine Qh (An @DB @a7) ?_
  refine Qv MA (An @DB @a7) ?_
  (refine Qa (fun h4=>?_) (fun h4=>?_)<;>try exact h4.elim)
  ·have hR:=H1.out (by rw[vY];simp[h4])
   subst hR
   rw[show lU (⟨t.aq,t.home,L⟩,false,0)=.aU [.agg (t.hd++[.isl L.length (ca L)]),.bool false,.int .i64 0] from rfl]
   exact Qq (An @uw (An @sK.eq_1 (An @ig.eq_1 (An @List.map_append.{0,0} @ec))))
  ·have vY:L.any (oM m)=(L.drop (k + 1)).any (oM m):=by
    rw[vY]
    rcases h4 with h5|h5<;>simp[h5]
   refine Qe ?_
   refine ⟨k + 1,⟨by omega,vY⟩,⟨[(3,3)],?_⟩,by omega⟩
   exact Qr
 ·have:k=L.length:=by omega
  subst this
  rw[List.drop_length,List.any_nil]at vY
  have hR:=H2.out vY
  clear H1 H2
  refine Qh (An @uw @aW) ?_
  refine Qv Mt (An @uw (An @aW (An @eg (An @e4 @uA)))) ?_
  ((first|apply Kz|apply Jx)<;>(first|exact sJ|(with_reducible (exact Jo.len _))|(have aJ:=@ec;have bm:=@uA;have bL:=@List.map_append.{0,0};refine XG ?_;clear aJ bm bL;first|exact rfl|exact True.intro|((try (repeat' with_reducible refine And.intro ?_ ?_));(try any_goals (first|refine zm ?_|exact CL|fail))))))
  have MC:=Ty 0 (.sl 5 3 0 L.length t.maps.length)
  have MD:=Tb.cU (t:=(⟨p',t.home.set S 0,L⟩:Tb)) ⟨GK,by rw[List.length_set];exact ht.wf.home⟩
  (refine Qa (fun h5=>?_) (fun h5=>?_)<;>try exact h5.elim)
  ·have hW:W=[]:=DC.1 ae
   rw[if_pos hW]at hR
   subst hR
   rw[show lU ((⟨p',t.home.set S 0,L⟩:Tb),true,0)=.aU [.agg ((⟨p',t.home.set S 0,L⟩:Tb).hd++[.isl L.length (ca L)]),.bool true,.int .i64 0] from rfl]
   exact Qq (An @uA (An @MD (An @MC (An @sK.eq_1 (An @ig.eq_1 (An @List.map_append.{0,0} @ec))))))
  ·have hW:¬ W=[]:=fun h=>h5 (by have:=DC.2 h;omega)
   rw[if_neg hW]at hR
   subst hR
   rw[show lU ((⟨p',t.home,L⟩:Tb),true,0)=.aU [.agg ((⟨p',t.home,L⟩:Tb).hd++[.isl L.length (ca L)]),.bool true,.int .i64 0] from rfl]
   exact Qq (An @uA (An @sK.eq_1 (An @ig.eq_1 (An @List.map_append.{0,0} @ec))))
theorem Xjr (gl:Nat→AV) (t:Tb) (ht:t.ok) (m:Mp):PS Tryz.prog gl 102 [.agg t.enc,.agg m.enc] (lU (t.cls m)):=by
 by_cases hb:Wr t=false
 ·have e:t.cls m=(t,false,2):=if_pos hb
  rw[e]
  exact Xfz gl t ht m hb
 have hg:Wr t=true:=by
  cases h:Wr t
  ·exact (hb h).elim
  ·rfl
 have e:t.cls m=match t.maps.findIdx? (fun x=>decide (m=x)) with
  | none=>(t,false,7)
  | some i=>if (t.maps.eraseIdx i).any (oM m)=true then (t.del i,false,0) else ((t.del i).bX m,true,0):=if_neg hb
 cases hi:t.maps.findIdx? (fun x=>decide (m=x)) with
 | none=>rw[e,hi];exact Qza gl t ht m hg hi
 | some i =>
  refine Xmx gl t ht ((AQ t).1 hg) m i hi _ (by rw[GJ];trivial) (Lib.hid fun h=>?_) (Lib.hid fun h=>?_)
  ·rw[e,hi];dsimp only;rw[if_pos h]
  ·rw[e,hi];dsimp only;rw[if_neg (by rw[h];simp)]
def Jq (own:List Int) (s:Nat):Nat:=own.countP fun o=>o == (s:Int) + 1
structure GT (t:Tb):Prop where
 aq:t.aq.bQ=true
 maps:∀ m ∈ t.maps,nE t m
 apart:t.maps.Pairwise fun x y=>Je x y=false
 used:∀ i,i < 18→(t.aq.own.getD i 0≠0 ↔ ∃ m ∈ t.maps,Zf m=i)
 two:∀ s,s < 8→Jq t.aq.own s≤2
 many:∀ s:Nat,s < 8→Zt t.maps (s:Int)≤12
 home:∀ s,s < 8→(t.bC s≠0 ↔ 0 < Jq t.aq.own s)
theorem GL (x y:Mp):Je x y=Je y x:=by
 have hb:∀ a b:Int,(a == b)=(b == a):=fun a b=>by
  by_cases h:a=b
  ·subst h;rfl
  ·have h2:¬ b=a:=fun e=>h e.symm
   rw[beq_eq_false_iff_ne.2 h,beq_eq_false_iff_ne.2 h2]
 unfold Je
 rw[hb y.af,hb y.a,hb y.port,hb y.s,hb y.aR]
theorem Xse {p:ax} (h:p.bQ=true) {o:Int} (ho:o ∈ p.own):0≤o∧o≤8:=by
 have:=List.all_eq_true.1 h o ho
 unfold Ux at this
 simp at this;omega
theorem GN {p:ax} (h:p.bQ=true) {s:Nat} (hs:s < 8):(Wt p.own).getD s 0=Jq p.own s:=by
 rw[Tl _ _ hs]
 unfold Jq
 congr 1
 refine List.countP_congr fun o ho=>?_
 have:=Xse h ho
 simp only[Bool.and_eq_true,Bool.not_eq_true',beq_eq_false_iff_ne,beq_iff_eq,ne_eq]
 omega
theorem Tz {l:List Mp} (h:∀ m ∈ l,0≤m.s) {s:Nat} (hs:s < 8):(kD l).getD s 0=Zt l s:=by
 rw[Tj _ _ hs]
 unfold Zt
 congr 1
 refine List.countP_congr fun o ho=>?_
 have:=h o ho
 simp only[beq_iff_eq]
 omega
theorem xW {t:Tb} {m:Mp} (h:nE t m):0≤m.s∧m.s < 8:=by
 obtain ⟨_,h2,_⟩:=Kx h.1.1;exact h2
theorem Uu {t:Tb}:dB t ↔ GT t:=by
 constructor
 ·intro h
  have hm:∀ m ∈ t.maps,nE t m:=fun m hm=>by
   obtain ⟨i,hi,rfl⟩:=List.getElem_of_mem hm
   exact h.maps i hi
  refine ⟨h.aq,hm,List.pairwise_iff_getElem.2 fun i j hi hj iM=>?_,fun i hi=>?_,fun s hs=>?_,fun s hs=>?_,fun s hs=>?_⟩
  ·rw[GL];exact h.apart j i hj iM
  ·have:=h.used i hi
   rw[Mi _ _ hi]at this
   rw[← bne_iff_ne,this,List.any_eq_true]
   simp
  ·have:=(h.lA s hs).1;rw[GN h.aq hs]at this;omega
  ·have:=(h.lA s hs).2.1;rw[Tz (fun m xX=>(xW (hm m xX)).1) hs]at this;omega
  ·have:=(h.lA s hs).2.2
   rw[GN h.aq hs]at this
   rw[← bne_iff_ne,this,decide_eq_true_eq];omega
 ·intro h
  refine ⟨h.aq,fun i hi=>h.maps _ (List.getElem_mem hi),fun i j hi hj=>?_,fun i hi=>?_,fun s hs=>⟨?_,?_,?_⟩⟩
  ·rw[GL];exact List.pairwise_iff_getElem.1 h.apart j i ae hi hj
  ·rw[Mi _ _ hi]
   have:=h.used i hi
   rw[← bne_iff_ne]at this
   by_cases h2:(t.aq.own.getD i 0 != 0)=true
   ·rw[h2]
    obtain ⟨m,hm,he⟩:=this.1 h2
    exact (List.any_eq_true.2 ⟨m,hm,by simp[he]⟩).symm
   ·have h3:(t.aq.own.getD i 0 != 0)=false:=by simpa using h2
    rw[h3]
    symm
    rw[List.any_eq_false]
    intro m hm he
    exact h2 (this.2 ⟨m,hm,by simpa using he⟩)
  ·rw[GN h.aq hs];have:=h.two s hs;omega
  ·rw[Tz (fun m xX=>(xW (h.maps m xX)).1) hs];have:=h.many s hs;omega
  ·rw[GN h.aq hs]
   have:=h.home s hs
   rw[← bne_iff_ne]at this
   by_cases h2:(t.bC s != 0)=true
   ·rw[h2];have:=this.1 h2;simp;omega
   ·have h3:(t.bC s != 0)=false:=by simpa using h2
    rw[h3]
    symm
    rw[decide_eq_false_iff_not]
    intro h4
    exact h2 (this.2 ae)
theorem vZ (port:Int):0≤Xb port∧Xb port < 6:=by
 unfold Xb
 split
 ·rename_i h;unfold Jr at h;simp at h;omega
 ·omega
theorem Xz2 {m o:Mp} (hm:0≤m.a) (ho:0≤o.a):Zf m=Zf o ↔ m.a=o.a∧Xb m.port=Xb o.port:=by
 have h1:=vZ m.port
 have h2:=vZ o.port
 unfold Zf
 constructor
 ·intro h;omega
 ·rintro ⟨h3,h4⟩;rw[h3,h4]
theorem ME {t:Tb} {m:Mp} (h:xK t m):Zf m < 18:=by
 have h1:=vZ m.port
 have:=h.2.2
 unfold Zf
 omega
theorem GR (t:Tb) (m:Mp):t.aq.ow m.a.toNat (Xb m.port).toNat=t.aq.own.getD (Zf m) 0:=rfl
theorem Xfw {m o:Mp} (h:Je m o=false):m≠o:=by
 rintro rfl
 simp[Je]at h
theorem TA (l:List Mp) (m:Mp) (s:Int):Zt (l++[m]) s=Zt l s + (if m.s=s then 1 else 0):=by
 unfold Zt
 rw[List.countP_append]
 by_cases h:m.s=s<;>simp[h]
theorem TD {l:List Mp} {m:Mp} (h:l.Pairwise fun x y=>Je x y=false) (hm:∀ o ∈ l,Je o m=false):(l++[m]).Pairwise fun x y=>Je x y=false:=by
 rw[List.pairwise_append]
 exact ⟨h,List.pairwise_singleton _ _,fun a ha b hb=>by rw[List.mem_singleton.1 hb];exact hm a ha⟩
theorem GT.add {t:Tb} (h:GT t) {m:Mp} (hm:nE t m) (hk:∀ o ∈ t.maps,Je o m=false) (hn:Zt t.maps m.s < 12):GT (t.add m):=by
 refine ⟨h.aq,fun o ho=>?_,TD h.apart hk,fun i hi=>?_,h.two,fun s hs=>?_,h.home⟩
 ·rcases List.mem_append.1 ho with ho|ho
  ·exact h.maps o ho
  ·rw[List.mem_singleton.1 ho];exact hm
 ·refine (h.used i hi).trans ⟨fun ⟨o,ho,he⟩=>⟨o,List.mem_append_left _ ho,he⟩,fun ⟨o,ho,he⟩=>?_⟩
  rcases List.mem_append.1 ho with ho|ho
  ·exact ⟨o,ho,he⟩
  ·rw[List.mem_singleton.1 ho]at he
   refine (h.used i hi).1 ?_
   rw[← he,← GR t m,hm.2.2]
   have:=xW hm;omega
 ·show Zt (t.maps++[m]) s≤12
  rw[TA]
  have:=h.many s hs
  split
  ·rename_i e;rw[e]at hn;omega
  ·omega
theorem xY {l:List Int} {i:Nat} (h:i < l.length) (v:Int) (j:Nat):(l.set i v).getD j 0=if j=i then v else l.getD j 0:=by
 by_cases e:j=i
 ·subst e;simp[List.getD,h]
 ·rw[if_neg e];simp[List.getD,List.getElem?_set_ne (fun q=>e q.symm)]
theorem MF {l:List Int} {i:Nat} (h:i < l.length) (v:Int) (s:Nat):Jq (l.set i v) s=(Jq l s - if l.getD i 0=(s:Int) + 1 then 1 else 0) + if v=(s:Int) + 1 then 1 else 0:=by
 unfold Jq
 rw[List.countP_set h]
 have e:l.getD i 0=l[i]:=by simp[List.getD,h]
 rw[e]
 simp only[beq_iff_eq]
theorem MG {l:List Int} {i s:Nat} (h:i < l.length) (he:l.getD i 0=(s:Int) + 1):0 < Jq l s:=by
 unfold Jq
 rw[List.countP_pos_iff]
 refine ⟨l[i],List.getElem_mem h,?_⟩
 have e:l.getD i 0=l[i]:=by simp[List.getD,h]
 rw[e]at he;simp[he]
theorem MH {p:ax} (h:p.bQ=true) (a k:Nat) {o:Int} (ho:0≤o∧o≤8):(p.put a k o).bQ=true:=by
 refine List.all_eq_true.2 fun x hx=>?_
 rcases List.mem_or_eq_of_mem_set hx with h2|h2
 ·exact List.all_eq_true.1 h x h2
 ·subst h2;unfold Ux;simp;omega
theorem GT.take {t:Tb} (h:GT t) (hw:t.wf) {b k S:Nat} (hb:b < 3) (hk:k < 6) (hS:S < 8) (hz:t.aq.ow b k=0) (hh:t.bC S=0∨t.bC S=b + 1) (hc:Jq t.aq.own S≤1) {m:Mp} (hs:m.s=S) (ha:m.a=b) (eS:(Xb m.port).toNat=k)
  (bW:xK t m) (ib:∀ o ∈ t.maps,Je o m=false) (hn:Zt t.maps m.s < 12):GT ((⟨t.aq.put b k (S + 1),t.home.set S (b + 1),t.maps⟩:Tb).add m):=by
 have hl:b * 6 + k < t.aq.own.length:=by rw[hw.aq.own];omega
 have v7:S < t.home.length:=by rw[hw.home];exact hS
 have xZ:Zf m=b * 6 + k:=by unfold Zf;rw[eS,ha,Int.toNat_natCast]
 have AX:t.aq.own.getD (b * 6 + k) 0=0:=hz
 have pL:∀ u,(⟨t.aq.put b k (S + 1),t.home.set S (b + 1),t.maps⟩:Tb).bC u=if u=S then (b:Int) + 1 else t.bC u:=fun u=>xY v7 _ _
 have gR:∀ i,(t.aq.own.set (b * 6 + k) ((S:Int) + 1)).getD i 0=if i=b * 6 + k then (S:Int) + 1 else t.aq.own.getD i 0:=fun i=>xY hl _ _
 have hold:∀ o ∈ t.maps,Zf o≠b * 6 + k:=fun o ho he=>by
  exact (h.used _ ae).2 ⟨o,ho,he⟩ AX
 refine ⟨MH h.aq _ _ ae,fun o ho=>?_,TD h.apart ib,fun i hi=>?_,fun s qc=>?_,fun s qc=>?_,fun s qc=>?_⟩
 ·rcases List.mem_append.1 ho with ho|ho
  ·have:=h.maps o ho
   have h8:=xW this
   have h3:=this.1.2.2
   refine ⟨this.1,?_,?_⟩
   ·show (⟨t.aq.put b k (S + 1),t.home.set S (b + 1),t.maps⟩:Tb).bC _=_
    rw[pL]
    split
    ·rename_i e
     have:=this.2.1
     rw[e]at this
     omega
    ·exact this.2.1
   ·show (t.aq.own.set (b * 6 + k) ((S:Int) + 1)).getD (Zf o) 0=_
    rw[gR,if_neg (hold o ho)]
    exact this.2.2
  ·rw[List.mem_singleton.1 ho]
   refine ⟨bW,?_,?_⟩
   ·show (⟨t.aq.put b k (S + 1),t.home.set S (b + 1),t.maps⟩:Tb).bC _=_
    rw[pL,if_pos ae,ha]
   ·show (t.aq.own.set (b * 6 + k) ((S:Int) + 1)).getD (Zf m) 0=_
    rw[gR,if_pos xZ,hs]
 ·show (t.aq.own.set (b * 6 + k) ((S:Int) + 1)).getD i 0≠0 ↔ ∃ o ∈ t.maps++[m],Zf o=i
  rw[gR]
  by_cases e:i=b * 6 + k
  ·rw[if_pos e]
   exact ⟨fun _=>⟨m,by simp,by rw[xZ,e]⟩,fun _=>by omega⟩
  ·rw[if_neg e]
   refine (h.used i hi).trans ⟨fun ⟨o,ho,he⟩=>⟨o,List.mem_append_left _ ho,he⟩,fun ⟨o,ho,he⟩=>?_⟩
   rcases List.mem_append.1 ho with ho|ho
   ·exact ⟨o,ho,he⟩
   ·rw[List.mem_singleton.1 ho]at he;exact (e (by rw[← he,xZ])).elim
 ·show Jq (t.aq.own.set (b * 6 + k) ((S:Int) + 1)) s≤2
  rw[MF hl,AX,if_neg ae]
  have:=h.two s qc
  split
  ·rename_i e;have:s=S:=by omega
   subst this;omega
  ·omega
 ·show Zt (t.maps++[m]) s≤12
  rw[TA]
  have:=h.many s qc
  split
  ·rename_i e;rw[e]at hn;omega
  ·omega
 ·show (⟨t.aq.put b k (S + 1),t.home.set S (b + 1),t.maps⟩:Tb).bC s≠0 ↔ 0 < Jq (t.aq.own.set (b * 6 + k) ((S:Int) + 1)) s
  rw[pL,MF hl,AX,if_neg (show ¬ (0:Int)=(s:Int) + 1 by omega)]
  by_cases e:s=S
  ·subst e;rw[if_pos rfl,if_pos rfl];omega
  ·rw[if_neg e,if_neg ae]
   have:=h.home s qc
   omega
theorem GT.del {t:Tb} (h:GT t) {i:Nat} (hi:i < t.maps.length) (ho:∃ o ∈ t.maps.eraseIdx i,Zf o=Zf t.maps[i]):GT (t.del i):=by
 have ct:∀ o ∈ t.maps.eraseIdx i,o ∈ t.maps:=fun o ho=>List.mem_of_mem_eraseIdx ho
 refine ⟨h.aq,fun o ho=>h.maps o (ct o ho),h.apart.sublist (List.eraseIdx_sublist _ _),fun j hj=>?_,h.two,fun s hs=>?_,h.home⟩
 ·refine (h.used j hj).trans ⟨fun ⟨o,px,he⟩=>?_,fun ⟨o,px,he⟩=>⟨o,ct o px,he⟩⟩
  obtain ⟨n,hn,rfl⟩:=List.getElem_of_mem px
  by_cases e:n=i
  ·subst e
   obtain ⟨q,hq,MI⟩:=ho
   exact ⟨q,hq,MI.trans he⟩
  ·exact ⟨_,List.mem_eraseIdx_iff_getElem.2 ⟨n,hn,e,rfl⟩,he⟩
 ·have:=h.many s hs
  exact Nat.le_trans (List.Sublist.countP_le (List.eraseIdx_sublist _ _)) this
def sL (own:List Int) (s a:Nat):Nat:=(List.range 6).countP fun k=>own.getD (a * 6 + k) 0 == (s:Int) + 1
theorem Xs1 {own:List Int} (h:own.length=18) (s:Nat):Jq own s=sL own s 0 + sL own s 1 + sL own s 2:=by
 match own,h with
 | [o0,o1,o2,o3,o4,o5,o6,o7,o8,o9,o10,o11,o12,o13,o14,o15,o16,o17],_ =>
  have e:List.range 6=[0,1,2,3,4,5]:=rfl
  unfold Jq sL
  rw[e]
  simp only[List.countP_cons,List.countP_nil,List.getD,List.getElem?_cons_zero,List.getElem?_cons_succ,Option.getD_some,Nat.zero_add,Nat.zero_mul,Nat.one_mul,Nat.reduceMul,Nat.reduceAdd,Nat.add_zero]
  ac_rfl
theorem GT.owner {t:Tb} (h:GT t) {i s:Nat} (hi:i < 18) (ho:t.aq.own.getD i 0=(s:Int) + 1):1≤t.bC s∧(t.bC s - 1).toNat=i / 6∧t.bC s≤3:=by
 obtain ⟨m,hm,he⟩:=(h.used i hi).1 ae
 have aX:=h.maps m hm
 have hs:=xW aX
 have hb:=vZ m.port
 have h1:=aX.2.2
 rw[GR,he,ho]at h1
 have h2:=aX.2.1
 rw[show m.s.toNat=s by omega]at h2
 have ha:=aX.1.2.2
 unfold Zf at he
 omega
def dg (t:Tb) (s:Nat):Prop:=∀ i,i < 18→t.aq.own.getD i 0=(s:Int) + 1→1≤t.bC s∧(t.bC s - 1).toNat=i / 6∧t.bC s≤3
theorem GT.dg {t:Tb} (h:GT t) (s:Nat):dg t s:=fun _ hi ho=>h.owner hi ho
theorem AY {t:Tb} {s:Nat} (h:dg t s) (a:Nat) (ha:a < 3) (hn:¬ (1≤t.bC s∧(t.bC s - 1).toNat=a)):sL t.aq.own s a=0:=by
 unfold sL
 rw[List.countP_eq_zero]
 intro k hk he
 have hk:=List.mem_range.1 hk
 have:=h (a * 6 + k) ae (by simpa using he)
 omega
theorem DD {t:Tb} {s:Nat} (h:dg t s) (hw:t.wf):Jq t.aq.own s=(jT t s).length:=by
 rw[Xs1 hw.aq.own]
 unfold jT
 split
 ·rename_i h1
  have e:(Wg t s 6).length=sL t.aq.own s (t.bC s - 1).toNat:=by
   unfold Wg sL
   rw[← List.countP_eq_length_filter];rfl
  rw[e]
  have h0:=AY h 0 ae
  have pB:=AY h 1 ae
  have h2:=AY h 2 ae
  by_cases e0:(t.bC s - 1).toNat=0
  ·rw[e0,pB ae,h2 ae];omega
  ·by_cases e1:(t.bC s - 1).toNat=1
   ·rw[e1,h0 ae,h2 ae];omega
   ·by_cases e2:(t.bC s - 1).toNat=2
    ·rw[e2,h0 ae,pB ae];omega
    ·rw[h0 ae,pB ae,h2 ae]
     have:sL t.aq.own s (t.bC s - 1).toNat=0:=by
      unfold sL
      rw[List.countP_eq_zero]
      intro k hk he
      rw[List.getD_eq_getElem?_getD,List.getElem?_eq_none (by have:=hw.aq.own;omega)]at he
      simp at he;omega
     omega
 ·rw[AY h 0 ae ae,AY h 1 ae ae,AY h 2 ae ae];rfl
theorem TF (m:Mp):Zd m.af m.s m.aR m=true:=by simp[Zd]
theorem TG {m o:Mp} (h:Zd m.af m.s m.aR o=true):Je o m=true:=by
 unfold Zd at h;unfold Je
 simp at h ⊢
 exact ⟨h.1.1.symm,Or.inr ⟨h.1.2.symm,h.2.symm⟩⟩
theorem Xud {l:List Mp} (h:l.Pairwise fun x y=>Je x y=false) {x y:Mp} (hx:x ∈ l) (hy:y ∈ l) (hk:Je x y=true):x=y:=by
 obtain ⟨i,hi,rfl⟩:=List.getElem_of_mem hx
 obtain ⟨j,hj,rfl⟩:=List.getElem_of_mem hy
 have hp:=List.pairwise_iff_getElem.1 h
 rcases Nat.lt_trichotomy i j with iM|rfl|iM
 ·have:=hp i j hi hj iM;rw[this]at hk;cases hk
 ·rfl
 ·have:=hp j i hj hi iM;rw[GL,this]at hk;cases hk
theorem Xui {l:List Mp} (p:Mp→Bool) (m:Mp) (hm:m ∈ l) (hp:p m=true) (hu:∀ o ∈ l,p o=true→o=m):l.find? p=some m:=by
 cases h:l.find? p with
 | none=>exact absurd hp (by have:=List.find?_eq_none.1 h m hm;simpa using this)
 | some o=>rw[hu o (List.mem_of_find?_eq_some h) (List.find?_some h)]
theorem GT.fwd {t:Tb} (h:GT t) {m:Mp} (hm:m ∈ t.maps):t.maps.find? (Zd m.af m.s m.aR)=some m :=
 Xui _ m hm (TF m) fun o ho hp=>Xud h.apart ho hm (TG hp)
theorem GU {l:List Mp} {m:Mp} (h1:l.find? (Zd m.af m.s m.aR)=none) (h2:l.find? (Wa m.af m.a m.port)=none):∀ o ∈ l,Je o m=false:=by
 intro o ho
 have h1:=List.find?_eq_none.1 h1 o ho
 have h2:=List.find?_eq_none.1 h2 o ho
 cases hk:Je o m with
 | false=>rfl
 | true =>
  exfalso
  unfold Je at hk
  unfold Zd at h1
  unfold Wa at h2
  simp at hk h1 h2
  rcases hk with ⟨hp,⟨ha,hq⟩|⟨ha,hq⟩⟩
  ·exact h2 hp.symm ha.symm hq.symm
  ·exact h1 hp.symm ha.symm hq.symm
inductive cj (t:Tb) (af:Int) (S:Nat) (aR:Int):Tb × Mp × Bool × Int→Prop
 | no (e:Int) (he:e≠0):cj t af S aR (t,fI,false,e)
 | old (m:Mp) (hf:t.maps.find? (Zd af S aR)=some m):cj t af S aR (t,m,false,0)
 | own (port:Int) (hf:t.maps.find? (Zd af S aR)=none) (aX:nE t ⟨af,S,aR,t.bC S - 1,port⟩) (hb:t.maps.find? (Wa af (t.bC S - 1) port)=none) (hn:Zt t.maps S < 12) :
   cj t af S aR (t.add ⟨af,S,aR,t.bC S - 1,port⟩,⟨af,S,aR,t.bC S - 1,port⟩,false,0)
 | new (b k:Nat) (hf:t.maps.find? (Zd af S aR)=none) (hb:b < 3) (hk:k < 6) (hz:t.aq.ow b k=0) (hh:t.bC S=0∨t.bC S=b + 1) (hc:Jq t.aq.own S≤1) (hd:t.aq.nA b=false) (hn:Zt t.maps S < 12) :
   cj t af S aR ((⟨t.aq.put b k (S + 1),t.home.set S (b + 1),t.maps⟩:Tb).add ⟨af,S,aR,b,1024 + (k:Int) * 8⟩,⟨af,S,aR,b,1024 + (k:Int) * 8⟩,true,0)
theorem GV {q i:Nat} (hq:q < 6) (hi:i < 8):Jr (1024 + (q:Int) * 8 + i)=true∧Xb (1024 + (q:Int) * 8 + i)=q:=by
 have h:Jr (1024 + (q:Int) * 8 + i)=true:=by unfold Jr;simp;omega
 refine ⟨h,?_⟩
 unfold Xb
 rw[if_pos h];omega
theorem TH {t:Tb} (h:GT t) (hw:t.wf) {af:Int} {S:Nat} {aR:Int} (hf:t.maps.find? (Zd af S aR)=none) (hn:Zt t.maps S < 12) (a draw:Int) (hh:t.bC S=0∨t.bC S=a + 1) (hc:Jq t.aq.own S≤1):cj t af S aR (t.tk af S aR a draw):=by
 have eQ:=LK t.aq hw.aq S a draw
 unfold Tb.tk
 generalize t.aq.take S a draw=x at *
 cases eQ with
 | no e he=>rw[if_pos he];exact .no e he
 | yes b k ha hb hk _ _ _ hd _ ho =>
  rw[if_neg au]
  subst ha
  exact .new b k hf hb hk ho ae hc hd hn
theorem opened {t:Tb} (h:GT t) (hw:t.wf) {af:Int} {S:Nat} {aR:Int} (bw:Jk af S aR=true) (draw:Int):cj t af S aR (t.cE af S aR draw):=by
 have b9:¬ (Wr t=false∨Jk af S aR=false):=by
  rw[(AQ t).2 (Uu.2 h),bw];simp
 obtain ⟨_,⟨_,qP⟩,_⟩:=Kx bw
 unfold Tb.cE
 rw[if_neg b9]
 cases hf:t.maps.find? (Zd af S aR) with
 | some m=>exact .old m hf
 | none =>
  dsimp only
  split
  ·exact .no 6 aI
  rename_i hn
  have hn:Zt t.maps S < 12:=by omega
  rw[Int.toNat_natCast]
  cases MJ:xS t af (t.bC S - 1) (jT t S) with
  | some port =>
   dsimp only
   unfold xS at MJ
   have hm:=List.mem_of_find?_eq_some MJ
   have mg:=List.find?_some MJ
   obtain ⟨q,hq,hp⟩:=List.mem_flatMap.1 hm
   have h1:1≤t.bC S:=by
    rcases Int.lt_or_le (t.bC S) 1 with h2|h2
    ·have e:jT t S=[]:=if_neg ae
     rw[e]at hq;cases hq
    ·exact h2
   have e:jT t S=Wg t S 6:=if_pos h1
   rw[e]at hq
   unfold Wg at hq
   obtain ⟨MK,hqo⟩:=List.mem_filter.1 hq
   have MK:=List.mem_range.1 MK
   unfold Ua at hp
   obtain ⟨i,hi,rfl⟩:=List.mem_map.1 hp
   have hi:=List.mem_range.1 hi
   obtain ⟨b1,b2⟩:=GV MK hi
   have h3:=(h.dg S)
   have pL:t.aq.ow (t.bC S - 1).toNat q=(S:Int) + 1:=by simpa using hqo
   have h3:t.bC S≤3:=by
    obtain ⟨x,hx⟩:=List.exists_mem_of_ne_nil _ (show jT t S≠[] by rw[e];intro h0;unfold Wg at h0;rw[h0]at hq;cases hq)
    have uB:0 < Jq t.aq.own S:=by
     rw[DD (h.dg S) hw,List.length_pos_iff];intro h0;rw[h0]at hx;cases hx
    unfold Jq at uB
    obtain ⟨o,ho,he⟩:=List.countP_pos_iff.1 uB
    obtain ⟨j,hj,rfl⟩:=List.getElem_of_mem ho
    have ML:j < 18:=by have:=hw.aq.own;omega
    exact (h.dg S j ML (by rw[List.getD_eq_getElem?_getD,List.getElem?_eq_getElem hj];simpa using he)).2.2
   refine .own _ hf ⟨⟨bw,b1,by show 0≤t.bC S - 1;omega,by show t.bC S - 1 < 3;omega⟩,?_,?_⟩ ?_ hn
   ·show t.bC (S:Int).toNat=t.bC S - 1 + 1
    rw[Int.toNat_natCast];omega
   ·show t.aq.ow (t.bC S - 1).toNat (Xb _).toNat=(S:Int) + 1
    rw[b2,Int.toNat_natCast];exact pL
   ·unfold xR at mg
    simpa using mg
  | none =>
   dsimp only
   split
   ·exact .no 6 aI
   rename_i h2
   have hc:Jq t.aq.own S≤1:=by rw[DD (h.dg S) hw];omega
   split
   ·rename_i h1
    exact TH h hw hf hn _ draw ae hc
   ·rename_i h1
    have h0:t.bC S=0:=by
     have:=Tb.qS (Uu.2 h) hw (s:=S) ae
     omega
    split
    ·rename_i hp
     exact .no _ hp
    ·exact TH h hw hf hn _ draw (.inl h0) hc
theorem cj.bQ {t:Tb} (h:GT t) (hw:t.wf) {af:Int} {S:Nat} {aR:Int} (bw:Jk af S aR=true) {x:Tb × Mp × Bool × Int} (ho:cj t af S aR x):GT x.1:=by
 obtain ⟨_,⟨_,qP⟩,_⟩:=Kx bw
 cases ho with
 | no e he=>exact h
 | old m hf=>exact h
 | own port hf aX hb hn=>exact h.add aX (GU hf hb) hn
 | new b k hf hb hk hz hh hc hd hn =>
  obtain ⟨b1,b2⟩:=GV (i:=0) hk ae
  rw[show (1024 + (k:Int) * 8 + (0:Nat))=1024 + (k:Int) * 8 by omega]at b1 b2
  refine h.take hw hb hk ae hz hh hc rfl rfl (by show (Xb (1024 + (k:Int) * 8)).toNat=k;rw[b2];omega) ⟨bw,b1,by show 0≤(b:Int);omega,by show (b:Int) < 3;omega⟩ (GU hf ?_) hn
  rw[List.find?_eq_none]
  intro o px hp
  unfold Wa at hp
  simp at hp
  have aX:=h.maps o px
  have:Zf o=b * 6 + k:=by
   unfold Zf;rw[hp.1.2,hp.2,b2];omega
  exact (h.used _ ae).2 ⟨o,px,this⟩ hz
theorem cj.wf {t:Tb} (hw:t.wf) {af:Int} {S:Nat} {aR:Int} {x:Tb × Mp × Bool × Int} (ho:cj t af S aR x):x.1.wf:=by
 cases ho with
 | no e he=>exact hw
 | old m hf=>exact hw
 | own port hf aX hb hn=>exact ⟨hw.aq,hw.home⟩
 | new b k hf hb hk hz hh hc hd hn=>exact ⟨ax.df _ hw.aq _ _ _,by show (t.home.set _ _).length=8;rw[List.length_set];exact hw.home⟩
theorem GT.ok {t:Tb} (h:GT t) (hw:t.wf):t.ok:=by
 refine ⟨hw,fun m hm=>?_,by have:=vV (Uu.2 h);omega⟩
 have aX:=h.maps m hm
 obtain ⟨h1,h2,h3⟩:=Kx aX.1.1
 have h4:=aX.1.2
 have h5:=h4.1
 unfold Jr at h5
 simp only[Bool.and_eq_true,decide_eq_true_eq]at h5
 unfold Dp
 refine ⟨?_,?_,?_,?_,?_⟩<;>omega
theorem GX {t:Tb} {m o:Mp} (hm:xK t m) (ho:xK t o):oM m o=true ↔ Zf o=Zf m:=by
 rw[Xz2 ho.2.2.1 hm.2.2.1]
 unfold oM
 simp
theorem TI {p:ax} (hg:p.bQ=true) {s:Int} {b k:Nat} (hb:b < 3) (hk:k < 6) (hs:0≤s) (ho:p.ow b k=s + 1):p.bX s b k=(p.put b k 0,0):=by
 unfold ax.bX
 rw[if_pos hg,if_pos]
 ·simp
 ·have ha:Wb (b:Int)=true:=by unfold Wb;simp;omega
  exact ⟨ha,by omega,by omega,hs,by simpa using ho⟩
theorem GT.bX {t:Tb} (h:GT t) (hw:t.wf) {i:Nat} (hi:i < t.maps.length) (cd:(t.maps.eraseIdx i).any (oM t.maps[i])=false):GT ((t.del i).bX t.maps[i])∧((t.del i).bX t.maps[i]).wf∧((t.del i).bX t.maps[i]).maps=t.maps.eraseIdx i:=by
 have hm:=List.getElem_mem hi
 have ct:∀ o ∈ t.maps.eraseIdx i,o ∈ t.maps:=fun o ho=>List.mem_of_mem_eraseIdx ho
 have aX:=h.maps _ hm
 have xP:=xW aX
 have fk:=vZ t.maps[i].port
 have nFa:=ME aX.1
 have mA:∀ o ∈ t.maps.eraseIdx i,Zf o≠Zf t.maps[i]:=fun o ho he=>by
  have h1:=List.any_eq_false.1 cd o ho
  exact h1 ((GX aX.1 (h.maps o (ct o ho)).1).2 he)
 have aH:∀ o ∈ t.maps,o≠t.maps[i]→o ∈ t.maps.eraseIdx i:=fun o ho bY=>by
  obtain ⟨n,hn,rfl⟩:=List.getElem_of_mem ho
  exact List.mem_eraseIdx_iff_getElem.2 ⟨n,hn,fun e=>bY (by subst e;rfl),rfl⟩
 generalize t.maps[i]=m at *
 obtain ⟨A,hA⟩:=Int.eq_ofNat_of_zero_le aX.1.2.2.1
 obtain ⟨K,hK⟩:=Int.eq_ofNat_of_zero_le fk.1
 obtain ⟨S,hS⟩:=Int.eq_ofNat_of_zero_le xP.1
 have L9:A < 3:=by have:=aX.1.2.2.2;omega
 have gR:=aX.2.2
 rw[hA,hK,Int.toNat_natCast,Int.toNat_natCast]at gR
 have DE:t.aq.bX m.s m.a (Xb m.port)=(t.aq.put A K 0,0):=by
  rw[hA,hK];exact TI h.aq L9 ae xP.1 gR
 have jS:Zf m=A * 6 + K:=by unfold Zf;rw[hA,hK];simp
 have pL:=aX.2.1
 rw[hS,Int.toNat_natCast]at pL
 have hl:A * 6 + K < t.aq.own.length:=by rw[hw.aq.own];omega
 have v7:S < t.home.length:=by rw[hw.home];omega
 have DF:t.aq.own.getD (A * 6 + K) 0=(S:Int) + 1:=by rw[hS]at gR;exact gR
 have aV:∀ j,(t.aq.own.set (A * 6 + K) 0).getD j 0=if j=A * 6 + K then 0 else t.aq.own.getD j 0:=fun j=>xY hl _ _
 have iX:(t.aq.put A K 0).wf:=ax.df _ hw.aq _ _ _
 have iw:∀ s,Jq (t.aq.own.set (A * 6 + K) 0) s=Jq t.aq.own s - if s=S then 1 else 0:=fun s=>by
  rw[MF hl,DF,if_neg (show ¬ (0:Int)=(s:Int) + 1 by omega)]
  by_cases e:s=S
  ·subst e;simp
  ·rw[if_neg ae,if_neg e];rfl
 have dS:=MG hl DF
 have hH:_root_.Go.Proofs.YtogckmommodmhaaGreatDoor.dg ⟨t.aq.put A K 0,t.home,t.maps.eraseIdx i⟩ S:=fun j hj qf=>by
  have qf:(t.aq.own.set (A * 6 + K) 0).getD j 0=(S:Int) + 1:=qf
  rw[aV]at qf
  split at qf
  ·omega
  ·exact h.dg S j hj qf
 have kG:=DD hH ⟨iX,hw.home⟩
 have kG:Jq (t.aq.own.set (A * 6 + K) 0) S=(jT ⟨t.aq.put A K 0,t.home,t.maps.eraseIdx i⟩ S).length:=kG
 have eE:(t.maps.eraseIdx i).any (fun o=>decide (o.s=(S:Int)))=true→Jq (t.aq.own.set (A * 6 + K) 0) S≠0:=fun ha=>by
  obtain ⟨o,ho,he⟩:=List.any_eq_true.1 ha
  have he:o.s=(S:Int):=by simpa using he
  have v8:=h.maps o (ct o ho)
  have h1:=v8.2.2
  rw[GR,he]at h1
  have h2:=mA o ho
  have h3:(t.aq.own.set (A * 6 + K) 0).getD (Zf o) 0=(S:Int) + 1:=by rw[aV,if_neg (by rw[← jS];exact h2)];exact h1
  have:=MG (by rw[List.length_set,hw.aq.own];exact ME v8.1) h3
  omega
 -- JC holds DG the homes
 have key:∀ H:List Int,H.length=8→(∀ s,s < 8→s≠S→H.getD s 0=t.bC s)→(H.getD S 0=if Jq (t.aq.own.set (A * 6 + K) 0) S=0 then 0 else t.bC S)→GT ⟨t.aq.put A K 0,H,t.maps.eraseIdx i⟩:=by
  intro H TJ DH sx
  refine ⟨MH h.aq _ _ ae,fun o ho=>?_,h.apart.sublist (List.eraseIdx_sublist _ _),fun j hj=>?_,fun s hs=>?_,fun s hs=>?_,fun s hs=>?_⟩
  ·have v8:=h.maps o (ct o ho)
   have DI:=xW v8
   refine ⟨v8.1,?_,?_⟩
   ·show H.getD o.s.toNat 0=o.a + 1
    by_cases e:o.s=(S:Int)
    ·have hz:=eE (List.any_eq_true.2 ⟨o,ho,by simp[e]⟩)
     rw[e,Int.toNat_natCast,sx,if_neg hz]
     have:=v8.2.1;rw[e,Int.toNat_natCast]at this;exact this
    ·rw[DH _ ae ae];exact v8.2.1
   ·show (t.aq.own.set (A * 6 + K) 0).getD (Zf o) 0=o.s + 1
    rw[aV,if_neg (by rw[← jS];exact mA o ho)];exact v8.2.2
  ·show (t.aq.own.set (A * 6 + K) 0).getD j 0≠0 ↔ ∃ o ∈ t.maps.eraseIdx i,Zf o=j
   rw[aV]
   by_cases e:j=A * 6 + K
   ·rw[if_pos e]
    refine ⟨fun h0=>(h0 rfl).elim,fun ⟨o,ho,he⟩=>?_⟩
    exact (mA o ho (by rw[he,jS,e])).elim
   ·rw[if_neg e]
    refine (h.used j hj).trans ⟨fun ⟨o,ho,he⟩=>⟨o,aH o ho (fun q=>e (by rw[← he,q,jS])),he⟩,fun ⟨o,ho,he⟩=>⟨o,ct o ho,he⟩⟩
  ·show Jq (t.aq.own.set (A * 6 + K) 0) s≤2
   rw[iw];have:=h.two s hs;omega
  ·exact Nat.le_trans (List.Sublist.countP_le (List.eraseIdx_sublist _ _)) (h.many s hs)
  ·show H.getD s 0≠0 ↔ 0 < Jq (t.aq.own.set (A * 6 + K) 0) s
   by_cases e:s=S
   ·subst e
    rw[sx]
    have:=aX.1.2.2.1
    split<;>omega
   ·rw[DH s hs e,iw,if_neg e]
    exact h.home s hs
 unfold Tb.bX
 have e1:(t.del i).aq=t.aq:=rfl
 have e2:(t.del i).home=t.home:=rfl
 have e3:(t.del i).maps=t.maps.eraseIdx i:=rfl
 rw[e1,e2,e3,DE,hS,Int.toNat_natCast]
 dsimp only
 split
 ·rename_i h0
  rw[h0]at kG
  refine ⟨key _ (by rw[List.length_set];exact hw.home) (fun s _ bY=>?_) ?_,⟨iX,by show (t.home.set _ _).length=8;rw[List.length_set];exact hw.home⟩,rfl⟩
  ·rw[xY v7,if_neg bY];rfl
  ·rw[xY v7,if_pos rfl,if_pos (by simpa using kG)]
 ·rename_i h0
  refine ⟨key _ hw.home (fun s _ _=>rfl) ?_,⟨iX,hw.home⟩,rfl⟩
  rw[if_neg]
  ·rfl
  ·rw[kG];intro h1;exact h0 (List.eq_nil_of_length_eq_zero h1)
theorem GT.cls {t:Tb} (h:GT t) (hw:t.wf) {m:Mp} (hm:m ∈ t.maps):∃ i,i < t.maps.length∧t.maps[i]?=some m∧GT (t.cls m).1∧(t.cls m).1.wf∧(t.cls m).1.maps=t.maps.eraseIdx i∧(t.cls m).2.2=0:=by
 have hg:¬ Wr t=false:=by rw[(AQ t).2 (Uu.2 h)];simp
 unfold Tb.cls
 rw[if_neg hg]
 cases hf:t.maps.findIdx? (fun x=>decide (m=x)) with
 | none =>
  have:=List.findIdx?_eq_none_iff.1 hf m hm
  simp at this
 | some i =>
  obtain ⟨hi,he⟩:=Tx hf
  refine ⟨i,hi,by rw[List.getElem?_eq_getElem hi,he],?_⟩
  dsimp only
  split
  ·rename_i ha
   obtain ⟨o,ho,DI⟩:=List.any_eq_true.1 ha
   have:=h.del hi ⟨o,ho,by rw[he];exact (GX (h.maps m hm).1 (h.maps o (List.mem_of_mem_eraseIdx ho)).1).1 DI⟩
   exact ⟨this,⟨hw.aq,hw.home⟩,rfl,rfl⟩
  ·rename_i ha
   have:=h.bX hw hi (by rw[he];simpa using ha)
   rw[he]at this
   exact ⟨this.1,this.2.1,this.2.2,rfl⟩
theorem round {t:Tb} (h:GT t) (hw:t.wf) {af:Int} {S:Nat} {aR:Int} (bw:Jk af S aR=true) {x:Tb × Mp × Bool × Int} (ho:cj t af S aR x) (hf:t.maps.find? (Zd af S aR)=none) (he:x.2.2.2=0) :
  x.1.cls x.2.1=(t,x.2.2.1,0):=by
 have GY:=ho.bQ h hw bw
 obtain ⟨_,⟨_,qP⟩,_⟩:=Kx bw
 have last:∀ (T:Tb) (m:Mp),GT (T.add m)→(∀ o ∈ T.maps,Je o m=false)→(T.add m).cls m=if T.maps.any (oM m)=true then (T,false,0) else (T.bX m,true,0):=by
  intro T m hg hk
  unfold Tb.cls
  rw[if_neg (by rw[(AQ _).2 (Uu.2 hg)];simp)]
  have e1:(T.add m).maps.findIdx? (fun x=>decide (m=x))=some T.maps.length:=by
   show (T.maps++[m]).findIdx? _=_
   rw[List.findIdx?_append]
   have:T.maps.findIdx? (fun x=>decide (m=x))=none:=by
    rw[List.findIdx?_eq_none_iff]
    intro o ho
    have:=Xfw (hk o ho)
    simp;exact fun e=>this e.symm
   rw[this];simp
  have e2:(T.add m).maps.eraseIdx T.maps.length=T.maps:=by
   show (T.maps++[m]).eraseIdx T.maps.length=_
   rw[List.eraseIdx_append_of_length_le (Nat.le_refl _)];simp
  have e3:(T.add m).del T.maps.length=T:=by unfold Tb.del;rw[e2];rfl
  rw[e1]
  dsimp only
  rw[e2,e3]
 cases ho with
 | no e lj=>exact (lj he).elim
 | old m l9=>rw[hf]at l9;cases l9
 | own port l9 aX hb hn =>
  dsimp only at GY ⊢
  rw[last t _ GY (GU hf hb),if_pos]
  have h1:t.aq.own.getD (Zf ⟨af,S,aR,t.bC S - 1,port⟩) 0≠0:=by
   rw[← GR t,aX.2.2];show (S:Int) + 1≠0;omega
  obtain ⟨o,ho,he⟩:=(h.used _ (ME aX.1)).1 h1
  exact List.any_eq_true.2 ⟨o,ho,(GX aX.1 (h.maps o ho).1).2 he⟩
 | new b k l9 hb hk hz hh hc hd hn =>
  dsimp only at GY ⊢
  obtain ⟨b1,b2⟩:=GV (i:=0) hk ae
  rw[show (1024 + (k:Int) * 8 + (0:Nat))=1024 + (k:Int) * 8 by omega]at b1 b2
  have bW:xK t ⟨af,S,aR,b,1024 + (k:Int) * 8⟩:=⟨bw,b1,by show 0≤(b:Int);omega,by show (b:Int) < 3;omega⟩
  have jS:Zf ⟨af,S,aR,b,1024 + (k:Int) * 8⟩=b * 6 + k:=by
   unfold Zf;rw[b2];simp
  have DJ:∀ o ∈ t.maps,Zf o≠b * 6 + k:=fun o ho he=>(h.used _ ae).2 ⟨o,ho,he⟩ hz
  have ib:∀ o ∈ t.maps,Je o ⟨af,S,aR,b,1024 + (k:Int) * 8⟩=false:=by
   refine GU hf ?_
   rw[List.find?_eq_none]
   intro o px hp
   unfold Wa at hp
   simp at hp
   refine DJ o px ?_
   unfold Zf;rw[hp.1.2,hp.2,b2];omega
  have hl:b * 6 + k < t.aq.own.length:=by rw[hw.aq.own];omega
  have AX:t.aq.own.getD (b * 6 + k) 0=0:=hz
  rw[last _ _ GY ib,if_neg]
  ·have MM:(t.aq.put b k ((S:Int) + 1)).put b k 0=t.aq:=by
    unfold ax.put
    dsimp only
    rw[List.set_set]
    have:t.aq.own.set (b * 6 + k) 0=t.aq.own:=by
     have e:t.aq.own[b * 6 + k]=0:=by rw[List.getD_eq_getElem?_getD,List.getElem?_eq_getElem hl]at AX;exact AX
     rw[← e,List.set_getElem_self]
    rw[this]
   have DE:(t.aq.put b k ((S:Int) + 1)).bX S b k=(t.aq,0):=by
    rw[TI (MH h.aq _ _ ae) hb hk ae,MM]
    show (t.aq.own.set (b * 6 + k) ((S:Int) + 1)).getD (b * 6 + k) 0=_
    rw[xY hl,if_pos rfl]
   unfold Tb.bX
   dsimp only
   rw[b2,DE,Int.toNat_natCast]
   dsimp only
   have v7:S < t.home.length:=by rw[hw.home];omega
   have pL:(⟨t.aq,t.home.set S ((b:Int) + 1),t.maps⟩:Tb).bC S=b + 1:=by
    show (t.home.set S ((b:Int) + 1)).getD S 0=_
    rw[xY v7,if_pos rfl]
   have TK:=DD (h.dg S) hw
   rcases hh with hh|hh
   ·have jy:Jq t.aq.own S=0:=by
     have:=h.home S ae
     rcases Nat.eq_zero_or_pos (Jq t.aq.own S) with h0|h0
     ·exact h0
     ·exact (this.2 h0 hh).elim
    rw[if_pos]
    ·rw[List.set_set]
     have:t.home.set S 0=t.home:=by
      have e:t.home[S]=0:=by
       unfold Tb.bC at hh
       rw[List.getD_eq_getElem?_getD,List.getElem?_eq_getElem v7]at hh;exact hh
      rw[← e,List.set_getElem_self]
     rw[this]
    ·have tX:dg ⟨t.aq,t.home.set S ((b:Int) + 1),t.maps⟩ S:=fun j hj qf=>by
      exfalso
      have:=MG (s:=S) (by have:=hw.aq.own;omega:j < t.aq.own.length) qf
      omega
     have:=DD tX ⟨hw.aq,by show (t.home.set _ _).length=8;rw[List.length_set];exact hw.home⟩
     have e:(jT ⟨t.aq,t.home.set S ((b:Int) + 1),t.maps⟩ S).length=0:=by rw[← this];exact jy
     exact List.eq_nil_of_length_eq_zero e
   ·have dI:t.home.set S ((b:Int) + 1)=t.home:=by
     have e:t.home[S]=(b:Int) + 1:=by
      unfold Tb.bC at hh
      rw[List.getD_eq_getElem?_getD,List.getElem?_eq_getElem v7]at hh;exact hh
     rw[← e,List.set_getElem_self]
    rw[dI,if_neg]
    intro h0
    rw[h0]at TK
    have:=(h.home S ae).1 ae
    simp at TK;omega
  ·rw[Bool.not_eq_true,List.any_eq_false]
   intro o ho hs
   exact DJ o ho (by rw[(GX bW (h.maps o ho).1).1 hs,jS])
def MN:ax:=⟨List.replicate 18 0,List.replicate 3 false⟩
def TL:Tb:=⟨MN,List.replicate 8 0,[]⟩
theorem Xvr:MN.wf:=⟨rfl,rfl⟩
theorem Ycy:TL.wf:=⟨Xvr,rfl⟩
theorem TM (n i:Nat):(List.replicate n (0:Int)).getD i 0=0:=Dq n i
theorem GT.none {p:ax} (h:p.bQ=true) (ho:∀ i,p.own.getD i 0=0) {H:List Int} (hH:∀ i,H.getD i 0=0) (hc:∀ s,Jq p.own s=0):GT ⟨p,H,[]⟩:=by
 refine ⟨h,fun m hm=>(by cases hm),List.Pairwise.nil,fun i _=>⟨fun h=>(h (ho i)).elim,fun ⟨m,hm,_⟩=>(by cases hm)⟩,fun s _=>(by show Jq p.own s≤2;rw[hc];omega),fun s _=>Nat.zero_le _,fun s _=>⟨fun h=>(h (hH s)).elim,fun h=>?_⟩⟩
 have h:0 < Jq p.own s:=h
 rw[hc]at h;omega
theorem Ycx:GT TL:=GT.none (by decide) (fun i=>TM 18 i) (fun i=>TM 8 i) fun s=>by
 unfold Jq MN
 rw[List.countP_eq_zero]
 intro o ho
 rw[(List.mem_replicate.1 ho).2]
 simp;omega
theorem cj.has {t:Tb} {af:Int} {S:Nat} {aR:Int} {x:Tb × Mp × Bool × Int} (h:cj t af S aR x) (he:x.2.2.2=0):x.2.1 ∈ x.1.maps∧x.2.1.af=af∧x.2.1.s=S∧x.2.1.aR=aR∧(x.2.2.1=true→∃ b,b < 3∧x.2.1.a=(b:Nat)∧t.aq.nA b=false):=by
 cases h with
 | no e lj=>exact (lj he).elim
 | old m hf =>
  have:=List.find?_some hf
  unfold Zd at this
  simp at this
  exact ⟨List.mem_of_find?_eq_some hf,this.1.1,this.1.2,this.2,fun h=>by cases h⟩
 | own port hf aX hb hn=>exact ⟨List.mem_append_right _ (List.mem_singleton.2 rfl),rfl,rfl,rfl,fun h=>by cases h⟩
 | new b k hf hb hk hz hh hc hd hn=>exact ⟨List.mem_append_right _ (List.mem_singleton.2 rfl),rfl,rfl,rfl,fun _=>⟨b,hb,rfl,hd⟩⟩
theorem Yfm {t:Tb} (h:GT t) {i:Nat} {m:Mp} (hi:t.maps[i]?=some m):(t.maps.eraseIdx i).find? (Zd m.af m.s m.aR)=none:=by
 rw[List.find?_eq_none]
 intro o ho hp
 obtain ⟨n,hn,bY,rfl⟩:=List.mem_eraseIdx_iff_getElem.1 ho
 obtain ⟨TN,he⟩:=List.getElem?_eq_some_iff.1 hi
 have hk:=TG hp
 have hp:=List.pairwise_iff_getElem.1 h.apart
 rcases Nat.lt_or_gt_of_ne bY with h1|h1
 ·have:=hp n i hn TN h1;rw[he]at this;rw[this]at hk;cases hk
 ·have:=hp i n TN hn h1;rw[he,GL]at this;rw[this]at hk;cases hk
theorem GT.drain {t:Tb} (h:GT t) (a:Int) (to:Bool):GT ⟨(t.aq.drain a to).1,t.home,t.maps⟩:=by
 have ho:(t.aq.drain a to).1.own=t.aq.own:=by
  unfold ax.drain
  split
  ·split<;>rfl
  ·rfl
 have gR:∀ a' k,(t.aq.drain a to).1.ow a' k=t.aq.ow a' k:=fun a' k=>by unfold ax.ow;rw[ho]
 refine ⟨?_,fun m hm=>?_,h.apart,fun i hi=>?_,fun s hs=>?_,h.many,fun s hs=>?_⟩
 ·unfold ax.bQ;rw[ho];exact h.aq
 ·have:=h.maps m hm
  exact ⟨this.1,this.2.1,by show (t.aq.drain a to).1.ow _ _=_;rw[gR];exact this.2.2⟩
 ·show (t.aq.drain a to).1.own.getD i 0≠0 ↔ _
  rw[ho];exact h.used i hi
 ·show Jq (t.aq.drain a to).1.own s≤2
  rw[ho];exact h.two s hs
 ·show _ ↔ 0 < Jq (t.aq.drain a to).1.own s
  rw[ho];exact h.home s hs
def DK:List AV:=[.int .i64 1,.int .i64 6,.int .i64 17]
theorem Xqb (n:Nat):ah n DK=True:=by simp[DK,ah,Qf]
theorem Qz9 (ρ:Nat→Nat):ay ρ DK=DK:=by simp[DK,ay,aD]
attribute [go_sem] Xqb Qz9
end Go.Proofs.YtogckmommodmhaaGreatDoor
