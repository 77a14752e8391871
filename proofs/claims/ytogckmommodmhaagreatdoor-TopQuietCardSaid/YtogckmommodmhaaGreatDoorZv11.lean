import Derived.Test.YtogckmommodmhaaGreatDoorZv10
import Derived.Test.YtogckmommodmhaaGreatDoorZv5
import Derived.Test.YtogckmommodmhaaGreatDoorZv1
import Derived.Test.YtogckmommodmhaaGreatDoorRows
import Derived.KernelRfl
namespace Go.Proofs.YtogckmommodmhaaGreatDoor
open Go.RowKit
set_option linter.all false
set_option linter.unusedSimpArgs false
set_option maxRecDepth 100000
theorem Mf (m:Mp):∀ (l:List Mp) (k:Nat),vQ l m k=match l.findIdx? (fun x=>decide (m=x)) with
  | some i=>((i + k:Nat):Int)
  | none=>-1
 | [],k=>rfl
 | x::l,k=>by
  rw[vQ,Mf m l (k + 1),List.findIdx?_cons]
  by_cases h:m=x
  ·simp[h]
  ·simp only[h,if_false,decide_false]
   cases l.findIdx? (fun x=>decide (m=x)) with
   | none=>rfl
   | some i=>simp only[Option.map_some,Bool.false_eq_true,if_false];congr 1;omega
theorem Tp {l:List Mp} {m:Mp} {i:Nat} (h:l.findIdx? (fun x=>decide (m=x))=some i):∃ hi:i < l.length,l[i]=m:=by
 obtain ⟨hi,h1,_⟩:=List.findIdx?_eq_some_iff_getElem.1 h
 exact ⟨hi,(of_decide_eq_true h1).symm⟩
def oQ (m o:Mp):Bool:=decide (o.a=m.a) && decide (Xk o.port=Xk m.port)
noncomputable def Tb.bX (t:Tb) (m:Mp):Tb :=
 if jS ⟨(t.aq.bX m.s m.a (Xk m.port)).1,t.home,t.maps⟩ m.s.toNat=[] then ⟨(t.aq.bX m.s m.a (Xk m.port)).1,t.home.set m.s.toNat 0,t.maps⟩ else ⟨(t.aq.bX m.s m.a (Xk m.port)).1,t.home,t.maps⟩
def Tb.del (t:Tb) (i:Nat):Tb:=⟨t.aq,t.home,t.maps.eraseIdx i⟩
noncomputable def Tb.cls (t:Tb) (m:Mp):Tb × Bool × Int :=
 if Wu t=false then (t,false,2) else
 match t.maps.findIdx? (fun x=>decide (m=x)) with
 | none=>(t,false,7)
 | some i=>if (t.maps.eraseIdx i).any (oQ m)=true then (t.del i,false,0) else ((t.del i).bX m,true,0)
def lV (x:Tb × Bool × Int):AV:=.aU [.agg x.1.enc,.bool x.2.1,.int .i64 x.2.2]
theorem Gz (x:Tb × Bool × Int) (n:Nat):Qe n (lV x)=True:=by simp[Qe,ai,lV,Tb.b9]
theorem Xu9 (x:Tb × Bool × Int) (ρ:Nat→Nat):aE ρ (lV x)=lV x:=by simp[aE,az,lV,Tb.da]
attribute [go_sem] Gz Xu9
set_option maxHeartbeats 4000000 in
set_option maxRecDepth 20000 in
theorem Xhw (gl:Nat→AV) (t:Tb) (ht:t.ok) (m:Mp) (h:Wu t=false):PS Tryz.prog gl 102 [.agg t.enc,.agg m.enc] (lV (t,false,2)):=by
 refine Gn.ps (of_decide_eq_true rfl) (by simp[Gz]) fun c hN hg=>?_
 conv in aQ _ _=>cbv
 have e2:=Tb.aD ht.wf
 have hG:=AF c.gl t ht
 rw[h]at hG
 unfold Mp.enc
 refine Qh @e2 ?_
 refine Xf hG @e2 ?_
 (refine Qa (fun h1=>?_) (fun h1=>?_)<;>try exact h1.elim)
 exact Qu (An @e2 @lV.eq_1)
set_option maxHeartbeats 4000000 in
set_option maxRecDepth 20000 in
theorem Qzy (gl:Nat→AV) (t:Tb) (ht:t.ok) (m:Mp) (h:Wu t=true) (hi:t.maps.findIdx? (fun x=>decide (m=x))=none):PS Tryz.prog gl 102 [.agg t.enc,.agg m.enc] (lV (t,false,7)):=by
 refine Gn.ps (of_decide_eq_true rfl) (by simp[Gz]) fun c hN hg=>?_
 conv in aQ _ _=>cbv
 have e2:=Tb.aD ht.wf
 have e3:=Tb.cO ht.wf
 have hG:=AF c.gl t ht
 rw[h]at hG
 have hI:=Tj c.gl t.maps ht.len m
 rw[Mf,hi]at hI
 dsimp only at hI
 unfold Mp.enc at hI ⊢
 refine Qh @e2 ?_
 refine Xf hG @e2 ?_
 (refine Qa (fun h1=>?_) (fun h1=>?_)<;>try exact h1.elim)
 refine Qh (An @e2 @e3) ?_
 refine Xf hI (An @e2 @e3) ?_
 (refine Qa (fun h2=>?_) (fun h2=>?_)<;>try exact h2.elim)
 exact Qu (An @e2 @lV.eq_1)
theorem Xv8 {t:Tb} (h:t.wf) (x:AV):(t.hd++[x]).getD 29 .any=x:=by
 rw[List.getD_eq_getElem?_getD,List.getElem?_append_right (by rw[Tb.dA h];decide),Tb.dA h];rfl
theorem Xxg {t:Tb} (h:t.wf) (x:AV):(t.hd++[x]).take 21=t.aq.enc:=by
 unfold Tb.hd
 rw[List.append_assoc,List.take_append_of_le_length (by rw[ay.aD h.aq];decide),List.take_of_length_le (by rw[ay.aD h.aq];decide)]
theorem Qzj {t:Tb} (h:t.wf) {p:ay} (hp:p.wf) (x:AV):Yx (t.hd++[x]) 0 p.enc=(⟨p,t.home,t.maps⟩:Tb).hd++[x]:=by
 unfold Yx Tb.hd
 rw[List.take_zero,List.nil_append,ay.aD hp,List.append_assoc,List.append_assoc,Nat.zero_add,← ay.aD h.aq,List.drop_left]
theorem Qym {t:Tb} (h:t.wf) {s:Nat} (hs:s < 8) (v:Int) (x:AV):(t.hd++[x]).set (21 + s) (.int .i64 v)=(⟨t.aq,t.home.set s v,t.maps⟩:Tb).hd++[x]:=by
 unfold Tb.hd
 rw[List.append_assoc,List.set_append_right _ _ (by rw[ay.aD h.aq];omega),ay.aD h.aq,show 21 + s - 21=s by omega,List.set_append_left _ _ (by rw[Yj,h.home];exact hs),List.append_assoc]
 simp[Qp,List.map_set]
theorem Yfj {g:Nat→GM} {W:Nat→Prop} {w:World} {n:Nat} {cs:List AV} {v:Value} (h:VR g W w (.isl n cs) v):VR g W w (.isl n []) v:=by
 obtain ⟨a,cap,us,rfl,h1,h2,_,_⟩:=sm h
 exact .isl (us:=us) h1 h2 (fun j hj=>by simp at hj) (fun j hj=>by simp at hj)
theorem PS.len {P:Program} {gl:Nat→AV} {f:FuncId} {args:List AV} {n:Nat} {cs:List AV} (h:PS P gl f args (.isl n cs)):PS P gl f args (.isl n []) :=
 ⟨h.1,fun w vs X hX hg hv=>(h.2 w vs X hX hg hv).mono fun e w' ⟨v,he,hr,hf⟩=>⟨v,he,Yfj hr,hf⟩⟩
theorem Kd.len (n:Nat):Kd (.isl n []):=fun _ _ _ _ _ _ _ h=>by
 obtain ⟨a,cap,us,rfl,h1,h2,_,_⟩:=sm h
 exact .isl (us:=us) h1 h2 (fun j hj=>by simp at hj) (fun j hj=>by simp at hj)
def sX:List AV:=ik.take 29++[.nils]
theorem Xye (n:Nat):ai n sX=True:=by simp[sX,ik,ai,Qe]
theorem Xm3 (ρ:Nat→Nat):az ρ sX=sX:=by simp[sX,ik,az,aE]
attribute [go_sem] Xye Xm3
theorem Xzy (l:List Mp) (k:Nat) (h:k < l.length) (f:Mp→Bool):(l.drop k).any f=(f l[k] || (l.drop (k + 1)).any f):=by
 rw[List.drop_eq_getElem_cons h,List.any_cons]
set_option maxHeartbeats 8000000 in
set_option maxRecDepth 20000 in
theorem Xnh (gl:Nat→AV) (t:Tb) (ht:t.ok) (ka:dB t) (m:Mp) (i:Nat) (hi:t.maps.findIdx? (fun x=>decide (m=x))=some i) (R:AV) (fc:Qe 0 R)
  (H1:Hid ((t.maps.eraseIdx i).any (oQ m)=true→R=lV (t.del i,false,0)))
  (H2:Hid ((t.maps.eraseIdx i).any (oQ m)=false→R=lV ((t.del i).bX m,true,0))):PS Tryz.prog gl 102 [.agg t.enc,.agg m.enc] R:=by
 refine Gn.ps (of_decide_eq_true rfl) fc fun c hN hg=>?_
 conv in aQ _ _=>cbv
 have e2:=Tb.aD ht.wf
 have e3:=Tb.cO ht.wf
 have hG:=AF c.gl t ht
 rw[LO ka]at hG
 have hI:=Tj c.gl t.maps ht.len m
 rw[Mf,hi]at hI
 dsimp only at hI
 rw[Nat.add_zero]at hI
 have pN:=xP ka
 have aJ:=Jp t.maps
 have hs:=Tb.nH ht.wf
 have jk:=Tb.mM t ht.wf
 have bf:=fun x=>Xv8 ht.wf x
 have GA:=Tb.dA ht.wf
 obtain ⟨rm,Lf⟩:=Tp hi
 have aY:=ka.maps i rm
 rw[Lf]at aY
 obtain ⟨⟨bF,AM,LV,qZ⟩,pO,gQ⟩:=aY
 obtain ⟨_,⟨kX,xK⟩,_⟩:=Wd bF
 have Dh:=AM
 unfold Js at Dh
 simp only[Bool.and_eq_true,decide_eq_true_eq]at Dh
 have hB:=C4 c.gl m.port af
 unfold uv at hB
 rw[AM]at hB
 simp only[if_true]at hB
 have hD:=Xkb c.gl t.maps af i rm
 have hLl:(t.maps.eraseIdx i).length=t.maps.length - 1:=by rw[List.length_eraseIdx,if_pos rm]
 have hLb:∀ (k:Nat) (h:k < (t.maps.eraseIdx i).length),-9223372036854775808≤(t.maps.eraseIdx i)[k].port∧(t.maps.eraseIdx i)[k].port≤9223372036854775807:=fun k h=>by
  have hm:=List.mem_of_mem_eraseIdx (List.getElem_mem h)
  obtain ⟨j,hj,he⟩:=List.getElem_of_mem hm
  have h2:=(ka.maps j hj).1.2.1
  rw[he]at h2
  unfold Js at h2
  simp only[Bool.and_eq_true,decide_eq_true_eq]at h2
  omega
 have Mg:=Xvz c.gl t.aq ht.wf.aq m.s m.a (Xk m.port) af
 have GB:((t.aq.bX m.s m.a (Xk m.port)).1).wf:=ay.uq _ ht.wf.aq _ _ _
 obtain ⟨S,hS⟩:=Int.eq_ofNat_of_zero_le kX
 have Mh:m.s.toNat=S:=by omega
 have Mi:∀ L,L=t.maps.eraseIdx i→t.del i=⟨t.aq,t.home,L⟩:=fun L h=>by rw[h];rfl
 have oR:=Mi _ rfl
 unfold Tb.bX at H2
 rw[oR]at H1 H2
 rw[← hLl]at hD
 generalize t.maps.eraseIdx i=L at *
 have Di:=Jp L
 have aX:=Xxg ht.wf
 have e4:=ay.aD GB
 have dp:(⟨(t.aq.bX m.s m.a (Xk m.port)).1,t.home,L⟩:Tb).wf:=⟨GB,ht.wf.home⟩
 have ec:∀ x,Yx (t.hd++[x]) 0 (t.aq.bX m.s m.a (Xk m.port)).1.enc=(⟨(t.aq.bX m.s m.a (Xk m.port)).1,t.home,L⟩:Tb).hd++[x]:=fun x=>Qzj ht.wf GB x
 have jT:0≤(⟨(t.aq.bX m.s m.a (Xk m.port)).1,t.home,L⟩:Tb).bC S∧(⟨(t.aq.bX m.s m.a (Xk m.port)).1,t.home,L⟩:Tb).bC S≤3:=by
  have:(⟨(t.aq.bX m.s m.a (Xk m.port)).1,t.home,L⟩:Tb).bC S=t.bC m.s.toNat:=by rw[Mh];rfl
  omega
 have uA:1≤(⟨(t.aq.bX m.s m.a (Xk m.port)).1,t.home,L⟩:Tb).bC S:=by
  have:(⟨(t.aq.bX m.s m.a (Xk m.port)).1,t.home,L⟩:Tb).bC S=t.bC m.s.toNat:=by rw[Mh];rfl
  omega
 have sW:=SS c.gl _ dp S af jT
 have fo:vM _ S=_:=if_pos uA
 have Mj:jS _ S=_:=if_pos uA
 rw[fo]at sW
 rw[Mh]at H2
 dsimp only at H2
 rw[Mj]at H2
 unfold Ua at Mg
 generalize t.aq.bX m.s m.a (Xk m.port)=gv at *
 obtain ⟨p',ge⟩:=gv
 dsimp only at *
 have Tq:=fun v x=>Qym dp (show S < 8 by omega) v x
 dsimp only at Tq
 have e5:∀ x,((⟨p',t.home,L⟩:Tb).hd++[x]).length=30:=fun x=>Tb.mM _ dp x
 have Dj:(Wi ⟨p',t.home,L⟩ S 6).length=0 ↔ Wi ⟨p',t.home,L⟩ S 6=[]:=List.length_eq_zero_iff
 have lC:=C3 (Wi ⟨p',t.home,L⟩ S 6)
 generalize Wi ⟨p',t.home,L⟩ S 6=W at *
 have ea:(cq L).take (L.length * 5)=cq L:=List.take_of_length_le af
 have tV:t.maps.length=L.length + 1:=by omega
 have Mk:=Dc c.gl t.maps af
 have hsm:∀ o:Mp,oQ m o=(decide (o.a=m.a) && decide (Xk o.port=Xk m.port)):=fun _=>rfl
 have Ml:(⟨p',t.home,L⟩:Tb).enc=(⟨p',t.home,L⟩:Tb).hd++[.isl L.length (cq L)]:=rfl
 rw[Ml]at sW
 have sW:=sW.len
 have uC:=Tb.dA dp
 rw[hS]at Mg
 unfold Mp.enc at hI ⊢
 rw[hS]at hI ⊢
 refine Qh @e2 ?_
 refine Xf hG @e2 ?_
 (refine Qa (fun h1=>?_) (fun h1=>?_)<;>try exact h1.elim)
 refine Qh (An @e2 @e3) ?_
 refine Xf hI (An @e2 @e3) ?_
 (refine Qa (fun h2=>?_) (fun h2=>?_)<;>try exact h2.elim)
 ·omega
 refine Qh (An @e2 @e3) ?_
 refine xc (ip []) Mk (An @e2 @e3) ?_
 refine xc (ip [3]) hD (An @e2 @e3) ?_
 refine Qh (An @hs (An @e2 @jk)) ?_
 refine Xf hB (An @GA @bf) ?_
 refine Xs (fun k:Nat=>k≤L.length∧L.any (oQ m)=(L.drop k).any (oQ m))
  (fun k=>⟨[(2,.ptr 0 0),(3,.ptr 1 0),(4,.ptr 2 0),(8,.int .i64 (Xk m.port)),(43,.sl 5 3 0 L.length t.maps.length),(44,.int .i64 L.length),(45,.int .i64 k)],[(0,.cells (t.hd++[.sl 5 3 0 L.length t.maps.length])),(1,.cells [.int .i64 m.ae,.int .i64 S,.int .i64 m.aR,.int .i64 m.a,.int .i64 m.port]),(2,.cells sX),(3,.cells (cq L))],4⟩) (fun k=>L.length - k) Gn.mixed hN
  ⟨0,⟨by omega,rfl⟩,[(3,3)],by exact Qu (An @sX.eq_1 @ik.eq_1)⟩ fun k hk=>?_
 obtain ⟨hk,vR⟩:=hk
 refine Qg ?_
 (refine Qa (fun h3=>?_) (fun h3=>?_)<;>try exact h3.elim)
 ·have bF:k < L.length:=by omega
  have a8:=vK L k bF
  have Mm:=C4 c.gl _ (hLb k bF)
  rw[Xzy L k bF,hsm]at vR
  generalize L[k]=o at *
  obtain ⟨op,os,oi,oa,ot⟩:=o
  simp only[Mp.enc]at a8
  dsimp only at Mm vR
  unfold uv at Mm
  generalize (if Js ot=true then (ot - 1024) % 8 else 0)=oj at *
  generalize Xk ot=ob at *
  generalize Js ot=oq at *
  refine Qh (An @Di @a8) ?_
  refine Xf Mm (An @Di @a8) ?_
  (refine Qa (fun h4=>?_) (fun h4=>?_)<;>try exact h4.elim)
  ·have hR:=H1.out (by rw[vR];simp[h4])
   subst hR
   rw[show lV (⟨t.aq,t.home,L⟩,false,0)=.aU [.agg (t.hd++[.isl L.length (cq L)]),.bool false,.int .i64 0] from rfl]
   exact Qu (An @GA (An @sX.eq_1 (An @ik.eq_1 (An @List.map_append.{0,0} @ea))))
  ·have vR:L.any (oQ m)=(L.drop (k + 1)).any (oQ m):=by
    rw[vR]
    rcases h4 with h5|h5<;>simp[h5]
   refine Qg ?_
   refine ⟨k + 1,⟨by omega,vR⟩,⟨[(3,3)],?_⟩,by omega⟩
   exact Qw
 ·have:k=L.length:=by omega
  subst this
  rw[List.drop_length,List.any_nil]at vR
  have hR:=H2.out vR
  clear H1 H2
  refine Qh (An @GA @aX) ?_
  refine Xf Mg (An @GA (An @aX (An @ec (An @e4 @uC)))) ?_
  ((first|apply Wy|apply Kv)<;>(first|exact sW|(with_reducible (exact Kd.len _))|(have au:=@ea;have aH:=@uC;have aV:=@List.map_append.{0,0};refine XG ?_;clear au aH aV;first|exact rfl|exact True.intro|((try (repeat' with_reducible refine And.intro ?_ ?_));(try any_goals (first|refine zm ?_|exact CL|fail))))))
  have Mn:=Tq 0 (.sl 5 3 0 L.length t.maps.length)
  have Mo:=Tb.dA (t:=(⟨p',t.home.set S 0,L⟩:Tb)) ⟨GB,by rw[List.length_set];exact ht.wf.home⟩
  (refine Qa (fun h5=>?_) (fun h5=>?_)<;>try exact h5.elim)
  ·have hW:W=[]:=Dj.1 af
   rw[if_pos hW]at hR
   subst hR
   rw[show lV ((⟨p',t.home.set S 0,L⟩:Tb),true,0)=.aU [.agg ((⟨p',t.home.set S 0,L⟩:Tb).hd++[.isl L.length (cq L)]),.bool true,.int .i64 0] from rfl]
   exact Qu (An @uC (An @Mo (An @Mn (An @sX.eq_1 (An @ik.eq_1 (An @List.map_append.{0,0} @ea))))))
  ·have hW:¬ W=[]:=fun h=>h5 (by have:=Dj.2 h;omega)
   rw[if_neg hW]at hR
   subst hR
   rw[show lV ((⟨p',t.home,L⟩:Tb),true,0)=.aU [.agg ((⟨p',t.home,L⟩:Tb).hd++[.isl L.length (cq L)]),.bool true,.int .i64 0] from rfl]
   exact Qu (An @uC (An @sX.eq_1 (An @ik.eq_1 (An @List.map_append.{0,0} @ea))))
theorem Xlg (gl:Nat→AV) (t:Tb) (ht:t.ok) (m:Mp):PS Tryz.prog gl 102 [.agg t.enc,.agg m.enc] (lV (t.cls m)):=by
 by_cases hb:Wu t=false
 ·have e:t.cls m=(t,false,2):=if_pos hb
  rw[e]
  exact Xhw gl t ht m hb
 have hg:Wu t=true:=by
  cases h:Wu t
  ·exact (hb h).elim
  ·rfl
 have e:t.cls m=match t.maps.findIdx? (fun x=>decide (m=x)) with
  | none=>(t,false,7)
  | some i=>if (t.maps.eraseIdx i).any (oQ m)=true then (t.del i,false,0) else ((t.del i).bX m,true,0):=if_neg hb
 cases hi:t.maps.findIdx? (fun x=>decide (m=x)) with
 | none=>rw[e,hi];exact Qzy gl t ht m hg hi
 | some i =>
  refine Xnh gl t ht ((xO t).1 hg) m i hi _ (by rw[Gz];trivial) (Lib.hid fun h=>?_) (Lib.hid fun h=>?_)
  ·rw[e,hi];dsimp only;rw[if_pos h]
  ·rw[e,hi];dsimp only;rw[if_neg (by rw[h];simp)]
def Jn (own:List Int) (s:Nat):Nat:=own.countP fun o=>o == (s:Int) + 1
structure GT (t:Tb):Prop where
 aq:t.aq.bR=true
 maps:∀ m ∈ t.maps,nG t m
 apart:t.maps.Pairwise fun x y=>Zy x y=false
 used:∀ i,i < 18→(t.aq.own.getD i 0≠0 ↔ ∃ m ∈ t.maps,Zj m=i)
 two:∀ s,s < 8→Jn t.aq.own s≤2
 many:∀ s:Nat,s < 8→Zw t.maps (s:Int)≤12
 home:∀ s,s < 8→(t.bC s≠0 ↔ 0 < Jn t.aq.own s)
theorem GC (x y:Mp):Zy x y=Zy y x:=by
 have hb:∀ a b:Int,(a == b)=(b == a):=fun a b=>by
  by_cases h:a=b
  ·subst h;rfl
  ·have h2:¬ b=a:=fun e=>h e.symm
   rw[beq_eq_false_iff_ne.2 h,beq_eq_false_iff_ne.2 h2]
 unfold Zy
 rw[hb y.ae,hb y.a,hb y.port,hb y.s,hb y.aR]
theorem Xvk {p:ay} (h:p.bR=true) {o:Int} (ho:o ∈ p.own):0≤o∧o≤8:=by
 have:=List.all_eq_true.1 h o ho
 unfold kG at this
 simp at this;omega
theorem GF {p:ay} (h:p.bR=true) {s:Nat} (hs:s < 8):(Wx p.own).getD s 0=Jn p.own s:=by
 rw[Tc _ _ hs]
 unfold Jn
 congr 1
 refine List.countP_congr fun o ho=>?_
 have:=Xvk h ho
 simp only[Bool.and_eq_true,Bool.not_eq_true',beq_eq_false_iff_ne,beq_iff_eq,ne_eq]
 omega
theorem Tr {l:List Mp} (h:∀ m ∈ l,0≤m.s) {s:Nat} (hs:s < 8):(kH l).getD s 0=Zw l s:=by
 rw[Ta _ _ hs]
 unfold Zw
 congr 1
 refine List.countP_congr fun o ho=>?_
 have:=h o ho
 simp only[beq_iff_eq]
 omega
theorem xT {t:Tb} {m:Mp} (h:nG t m):0≤m.s∧m.s < 8:=by
 obtain ⟨_,h2,_⟩:=Wd h.1.1;exact h2
theorem Ur {t:Tb}:dB t ↔ GT t:=by
 constructor
 ·intro h
  have hm:∀ m ∈ t.maps,nG t m:=fun m hm=>by
   obtain ⟨i,hi,rfl⟩:=List.getElem_of_mem hm
   exact h.maps i hi
  refine ⟨h.aq,hm,List.pairwise_iff_getElem.2 fun i j hi hj iG=>?_,fun i hi=>?_,fun s hs=>?_,fun s hs=>?_,fun s hs=>?_⟩
  ·rw[GC];exact h.apart j i hj iG
  ·have:=h.used i hi
   rw[L9 _ _ hi]at this
   rw[← bne_iff_ne,this,List.any_eq_true]
   simp
  ·have:=(h.lD s hs).1;rw[GF h.aq hs]at this;omega
  ·have:=(h.lD s hs).2.1;rw[Tr (fun m sY=>(xT (hm m sY)).1) hs]at this;omega
  ·have:=(h.lD s hs).2.2
   rw[GF h.aq hs]at this
   rw[← bne_iff_ne,this,decide_eq_true_eq];omega
 ·intro h
  refine ⟨h.aq,fun i hi=>h.maps _ (List.getElem_mem hi),fun i j hi hj=>?_,fun i hi=>?_,fun s hs=>⟨?_,?_,?_⟩⟩
  ·rw[GC];exact List.pairwise_iff_getElem.1 h.apart j i af hi hj
  ·rw[L9 _ _ hi]
   have:=h.used i hi
   rw[← bne_iff_ne]at this
   by_cases h2:(t.aq.own.getD i 0 != 0)=true
   ·rw[h2]
    obtain ⟨m,hm,he⟩:=this.1 h2
    exact (List.any_eq_true.2 ⟨m,hm,by simp[he]⟩).symm
   ·have h3:(t.aq.own.getD i 0 != 0)=false:=by simpa using h2
    rw[h3]
    symm
    rw[List.any_eq_false]
    intro m hm he
    exact h2 (this.2 ⟨m,hm,by simpa using he⟩)
  ·rw[GF h.aq hs];have:=h.two s hs;omega
  ·rw[Tr (fun m sY=>(xT (h.maps m sY)).1) hs];have:=h.many s hs;omega
  ·rw[GF h.aq hs]
   have:=h.home s hs
   rw[← bne_iff_ne]at this
   by_cases h2:(t.bC s != 0)=true
   ·rw[h2];have:=this.1 h2;simp;omega
   ·have h3:(t.bC s != 0)=false:=by simpa using h2
    rw[h3]
    symm
    rw[decide_eq_false_iff_not]
    intro h4
    exact h2 (this.2 af)
theorem vS (port:Int):0≤Xk port∧Xk port < 6:=by
 unfold Xk
 split
 ·rename_i h;unfold Js at h;simp at h;omega
 ·omega
theorem Xz1 {m o:Mp} (hm:0≤m.a) (ho:0≤o.a):Zj m=Zj o ↔ m.a=o.a∧Xk m.port=Xk o.port:=by
 have h1:=vS m.port
 have h2:=vS o.port
 unfold Zj
 constructor
 ·intro h;omega
 ·rintro ⟨h3,h4⟩;rw[h3,h4]
theorem Mq {t:Tb} {m:Mp} (h:xF t m):Zj m < 18:=by
 have h1:=vS m.port
 have:=h.2.2
 unfold Zj
 omega
theorem GG (t:Tb) (m:Mp):t.aq.ow m.a.toNat (Xk m.port).toNat=t.aq.own.getD (Zj m) 0:=rfl
theorem Xfy {m o:Mp} (h:Zy m o=false):m≠o:=by
 rintro rfl
 simp[Zy]at h
theorem Tt (l:List Mp) (m:Mp) (s:Int):Zw (l++[m]) s=Zw l s + (if m.s=s then 1 else 0):=by
 unfold Zw
 rw[List.countP_append]
 by_cases h:m.s=s<;>simp[h]
theorem Tu {l:List Mp} {m:Mp} (h:l.Pairwise fun x y=>Zy x y=false) (hm:∀ o ∈ l,Zy o m=false):(l++[m]).Pairwise fun x y=>Zy x y=false:=by
 rw[List.pairwise_append]
 exact ⟨h,List.pairwise_singleton _ _,fun a ha b hb=>by rw[List.mem_singleton.1 hb];exact hm a ha⟩
theorem GT.add {t:Tb} (h:GT t) {m:Mp} (hm:nG t m) (hk:∀ o ∈ t.maps,Zy o m=false) (hn:Zw t.maps m.s < 12):GT (t.add m):=by
 refine ⟨h.aq,fun o ho=>?_,Tu h.apart hk,fun i hi=>?_,h.two,fun s hs=>?_,h.home⟩
 ·rcases List.mem_append.1 ho with ho|ho
  ·exact h.maps o ho
  ·rw[List.mem_singleton.1 ho];exact hm
 ·refine (h.used i hi).trans ⟨fun ⟨o,ho,he⟩=>⟨o,List.mem_append_left _ ho,he⟩,fun ⟨o,ho,he⟩=>?_⟩
  rcases List.mem_append.1 ho with ho|ho
  ·exact ⟨o,ho,he⟩
  ·rw[List.mem_singleton.1 ho]at he
   refine (h.used i hi).1 ?_
   rw[← he,← GG t m,hm.2.2]
   have:=xT hm;omega
 ·show Zw (t.maps++[m]) s≤12
  rw[Tt]
  have:=h.many s hs
  split
  ·rename_i e;rw[e]at hn;omega
  ·omega
theorem xU {l:List Int} {i:Nat} (h:i < l.length) (v:Int) (j:Nat):(l.set i v).getD j 0=if j=i then v else l.getD j 0:=by
 by_cases e:j=i
 ·subst e;simp[List.getD,h]
 ·rw[if_neg e];simp[List.getD,List.getElem?_set_ne (fun q=>e q.symm)]
theorem Mr {l:List Int} {i:Nat} (h:i < l.length) (v:Int) (s:Nat):Jn (l.set i v) s=(Jn l s - if l.getD i 0=(s:Int) + 1 then 1 else 0) + if v=(s:Int) + 1 then 1 else 0:=by
 unfold Jn
 rw[List.countP_set h]
 have e:l.getD i 0=l[i]:=by simp[List.getD,h]
 rw[e]
 simp only[beq_iff_eq]
theorem Ms {l:List Int} {i s:Nat} (h:i < l.length) (he:l.getD i 0=(s:Int) + 1):0 < Jn l s:=by
 unfold Jn
 rw[List.countP_pos_iff]
 refine ⟨l[i],List.getElem_mem h,?_⟩
 have e:l.getD i 0=l[i]:=by simp[List.getD,h]
 rw[e]at he;simp[he]
theorem Mt {p:ay} (h:p.bR=true) (a k:Nat) {o:Int} (ho:0≤o∧o≤8):(p.put a k o).bR=true:=by
 refine List.all_eq_true.2 fun x hx=>?_
 rcases List.mem_or_eq_of_mem_set hx with h2|h2
 ·exact List.all_eq_true.1 h x h2
 ·subst h2;unfold kG;simp;omega
theorem GT.take {t:Tb} (h:GT t) (hw:t.wf) {b k S:Nat} (hb:b < 3) (hk:k < 6) (hS:S < 8) (hz:t.aq.ow b k=0) (hh:t.bC S=0∨t.bC S=b + 1) (hc:Jn t.aq.own S≤1) {m:Mp} (hs:m.s=S) (ha:m.a=b) (eR:(Xk m.port).toNat=k)
  (bW:xF t m) (iM:∀ o ∈ t.maps,Zy o m=false) (hn:Zw t.maps m.s < 12):GT ((⟨t.aq.put b k (S + 1),t.home.set S (b + 1),t.maps⟩:Tb).add m):=by
 have hl:b * 6 + k < t.aq.own.length:=by rw[hw.aq.own];omega
 have vT:S < t.home.length:=by rw[hw.home];exact hS
 have xV:Zj m=b * 6 + k:=by unfold Zj;rw[eR,ha,Int.toNat_natCast]
 have AN:t.aq.own.getD (b * 6 + k) 0=0:=hz
 have pO:∀ u,(⟨t.aq.put b k (S + 1),t.home.set S (b + 1),t.maps⟩:Tb).bC u=if u=S then (b:Int) + 1 else t.bC u:=fun u=>xU vT _ _
 have gQ:∀ i,(t.aq.own.set (b * 6 + k) ((S:Int) + 1)).getD i 0=if i=b * 6 + k then (S:Int) + 1 else t.aq.own.getD i 0:=fun i=>xU hl _ _
 have hold:∀ o ∈ t.maps,Zj o≠b * 6 + k:=fun o ho he=>by
  exact (h.used _ af).2 ⟨o,ho,he⟩ AN
 refine ⟨Mt h.aq _ _ af,fun o ho=>?_,Tu h.apart iM,fun i hi=>?_,fun s qh=>?_,fun s qh=>?_,fun s qh=>?_⟩
 ·rcases List.mem_append.1 ho with ho|ho
  ·have:=h.maps o ho
   have h8:=xT this
   have h3:=this.1.2.2
   refine ⟨this.1,?_,?_⟩
   ·show (⟨t.aq.put b k (S + 1),t.home.set S (b + 1),t.maps⟩:Tb).bC _=_
    rw[pO]
    split
    ·rename_i e
     have:=this.2.1
     rw[e]at this
     omega
    ·exact this.2.1
   ·show (t.aq.own.set (b * 6 + k) ((S:Int) + 1)).getD (Zj o) 0=_
    rw[gQ,if_neg (hold o ho)]
    exact this.2.2
  ·rw[List.mem_singleton.1 ho]
   refine ⟨bW,?_,?_⟩
   ·show (⟨t.aq.put b k (S + 1),t.home.set S (b + 1),t.maps⟩:Tb).bC _=_
    rw[pO,if_pos af,ha]
   ·show (t.aq.own.set (b * 6 + k) ((S:Int) + 1)).getD (Zj m) 0=_
    rw[gQ,if_pos xV,hs]
 ·show (t.aq.own.set (b * 6 + k) ((S:Int) + 1)).getD i 0≠0 ↔ ∃ o ∈ t.maps++[m],Zj o=i
  rw[gQ]
  by_cases e:i=b * 6 + k
  ·rw[if_pos e]
   exact ⟨fun _=>⟨m,by simp,by rw[xV,e]⟩,fun _=>by omega⟩
  ·rw[if_neg e]
   refine (h.used i hi).trans ⟨fun ⟨o,ho,he⟩=>⟨o,List.mem_append_left _ ho,he⟩,fun ⟨o,ho,he⟩=>?_⟩
   rcases List.mem_append.1 ho with ho|ho
   ·exact ⟨o,ho,he⟩
   ·rw[List.mem_singleton.1 ho]at he;exact (e (by rw[← he,xV])).elim
 ·show Jn (t.aq.own.set (b * 6 + k) ((S:Int) + 1)) s≤2
  rw[Mr hl,AN,if_neg af]
  have:=h.two s qh
  split
  ·rename_i e;have:s=S:=by omega
   subst this;omega
  ·omega
 ·show Zw (t.maps++[m]) s≤12
  rw[Tt]
  have:=h.many s qh
  split
  ·rename_i e;rw[e]at hn;omega
  ·omega
 ·show (⟨t.aq.put b k (S + 1),t.home.set S (b + 1),t.maps⟩:Tb).bC s≠0 ↔ 0 < Jn (t.aq.own.set (b * 6 + k) ((S:Int) + 1)) s
  rw[pO,Mr hl,AN,if_neg (show ¬ (0:Int)=(s:Int) + 1 by omega)]
  by_cases e:s=S
  ·subst e;rw[if_pos rfl,if_pos rfl];omega
  ·rw[if_neg e,if_neg af]
   have:=h.home s qh
   omega
theorem GT.del {t:Tb} (h:GT t) {i:Nat} (hi:i < t.maps.length) (ho:∃ o ∈ t.maps.eraseIdx i,Zj o=Zj t.maps[i]):GT (t.del i):=by
 have ct:∀ o ∈ t.maps.eraseIdx i,o ∈ t.maps:=fun o ho=>List.mem_of_mem_eraseIdx ho
 refine ⟨h.aq,fun o ho=>h.maps o (ct o ho),h.apart.sublist (List.eraseIdx_sublist _ _),fun j hj=>?_,h.two,fun s hs=>?_,h.home⟩
 ·refine (h.used j hj).trans ⟨fun ⟨o,pC,he⟩=>?_,fun ⟨o,pC,he⟩=>⟨o,ct o pC,he⟩⟩
  obtain ⟨n,hn,rfl⟩:=List.getElem_of_mem pC
  by_cases e:n=i
  ·subst e
   obtain ⟨q,hq,Mu⟩:=ho
   exact ⟨q,hq,Mu.trans he⟩
  ·exact ⟨_,List.mem_eraseIdx_iff_getElem.2 ⟨n,hn,e,rfl⟩,he⟩
 ·have:=h.many s hs
  exact Nat.le_trans (List.Sublist.countP_le (List.eraseIdx_sublist _ _)) this
def sZ (own:List Int) (s a:Nat):Nat:=(List.range 6).countP fun k=>own.getD (a * 6 + k) 0 == (s:Int) + 1
theorem Xv2 {own:List Int} (h:own.length=18) (s:Nat):Jn own s=sZ own s 0 + sZ own s 1 + sZ own s 2:=by
 match own,h with
 | [o0,o1,o2,o3,o4,o5,o6,o7,o8,o9,o10,o11,o12,o13,o14,o15,o16,o17],_ =>
  have e:List.range 6=[0,1,2,3,4,5]:=rfl
  unfold Jn sZ
  rw[e]
  simp only[List.countP_cons,List.countP_nil,List.getD,List.getElem?_cons_zero,List.getElem?_cons_succ,Option.getD_some,Nat.zero_add,Nat.zero_mul,Nat.one_mul,Nat.reduceMul,Nat.reduceAdd,Nat.add_zero]
  ac_rfl
theorem GT.owner {t:Tb} (h:GT t) {i s:Nat} (hi:i < 18) (ho:t.aq.own.getD i 0=(s:Int) + 1):1≤t.bC s∧(t.bC s - 1).toNat=i / 6∧t.bC s≤3:=by
 obtain ⟨m,hm,he⟩:=(h.used i hi).1 af
 have aY:=h.maps m hm
 have hs:=xT aY
 have hb:=vS m.port
 have h1:=aY.2.2
 rw[GG,he,ho]at h1
 have h2:=aY.2.1
 rw[show m.s.toNat=s by omega]at h2
 have ha:=aY.1.2.2
 unfold Zj at he
 omega
def df (t:Tb) (s:Nat):Prop:=∀ i,i < 18→t.aq.own.getD i 0=(s:Int) + 1→1≤t.bC s∧(t.bC s - 1).toNat=i / 6∧t.bC s≤3
theorem GT.df {t:Tb} (h:GT t) (s:Nat):df t s:=fun _ hi ho=>h.owner hi ho
theorem AO {t:Tb} {s:Nat} (h:df t s) (a:Nat) (ha:a < 3) (hn:¬ (1≤t.bC s∧(t.bC s - 1).toNat=a)):sZ t.aq.own s a=0:=by
 unfold sZ
 rw[List.countP_eq_zero]
 intro k hk he
 have hk:=List.mem_range.1 hk
 have:=h (a * 6 + k) af (by simpa using he)
 omega
theorem Dk {t:Tb} {s:Nat} (h:df t s) (hw:t.wf):Jn t.aq.own s=(jS t s).length:=by
 rw[Xv2 hw.aq.own]
 unfold jS
 split
 ·rename_i h1
  have e:(Wi t s 6).length=sZ t.aq.own s (t.bC s - 1).toNat:=by
   unfold Wi sZ
   rw[← List.countP_eq_length_filter];rfl
  rw[e]
  have h0:=AO h 0 af
  have pF:=AO h 1 af
  have h2:=AO h 2 af
  by_cases e0:(t.bC s - 1).toNat=0
  ·rw[e0,pF af,h2 af];omega
  ·by_cases e1:(t.bC s - 1).toNat=1
   ·rw[e1,h0 af,h2 af];omega
   ·by_cases e2:(t.bC s - 1).toNat=2
    ·rw[e2,h0 af,pF af];omega
    ·rw[h0 af,pF af,h2 af]
     have:sZ t.aq.own s (t.bC s - 1).toNat=0:=by
      unfold sZ
      rw[List.countP_eq_zero]
      intro k hk he
      rw[List.getD_eq_getElem?_getD,List.getElem?_eq_none (by have:=hw.aq.own;omega)]at he
      simp at he;omega
     omega
 ·rw[AO h 0 af af,AO h 1 af af,AO h 2 af af];rfl
theorem Tv (m:Mp):Zi m.ae m.s m.aR m=true:=by simp[Zi]
theorem Tw {m o:Mp} (h:Zi m.ae m.s m.aR o=true):Zy o m=true:=by
 unfold Zi at h;unfold Zy
 simp at h ⊢
 exact ⟨h.1.1.symm,Or.inr ⟨h.1.2.symm,h.2.symm⟩⟩
theorem Xvw {l:List Mp} (h:l.Pairwise fun x y=>Zy x y=false) {x y:Mp} (hx:x ∈ l) (hy:y ∈ l) (hk:Zy x y=true):x=y:=by
 obtain ⟨i,hi,rfl⟩:=List.getElem_of_mem hx
 obtain ⟨j,hj,rfl⟩:=List.getElem_of_mem hy
 have hp:=List.pairwise_iff_getElem.1 h
 rcases Nat.lt_trichotomy i j with iG|rfl|iG
 ·have:=hp i j hi hj iG;rw[this]at hk;cases hk
 ·rfl
 ·have:=hp j i hj hi iG;rw[GC,this]at hk;cases hk
theorem Xwa {l:List Mp} (p:Mp→Bool) (m:Mp) (hm:m ∈ l) (hp:p m=true) (hu:∀ o ∈ l,p o=true→o=m):l.find? p=some m:=by
 cases h:l.find? p with
 | none=>exact absurd hp (by have:=List.find?_eq_none.1 h m hm;simpa using this)
 | some o=>rw[hu o (List.mem_of_find?_eq_some h) (List.find?_some h)]
theorem GT.fwd {t:Tb} (h:GT t) {m:Mp} (hm:m ∈ t.maps):t.maps.find? (Zi m.ae m.s m.aR)=some m :=
 Xwa _ m hm (Tv m) fun o ho hp=>Xvw h.apart ho hm (Tw hp)
theorem GH {l:List Mp} {m:Mp} (h1:l.find? (Zi m.ae m.s m.aR)=none) (h2:l.find? (Wc m.ae m.a m.port)=none):∀ o ∈ l,Zy o m=false:=by
 intro o ho
 have h1:=List.find?_eq_none.1 h1 o ho
 have h2:=List.find?_eq_none.1 h2 o ho
 cases hk:Zy o m with
 | false=>rfl
 | true =>
  exfalso
  unfold Zy at hk
  unfold Zi at h1
  unfold Wc at h2
  simp at hk h1 h2
  rcases hk with ⟨hp,⟨ha,hq⟩|⟨ha,hq⟩⟩
  ·exact h2 hp.symm ha.symm hq.symm
  ·exact h1 hp.symm ha.symm hq.symm
inductive cf (t:Tb) (ae:Int) (S:Nat) (aR:Int):Tb × Mp × Bool × Int→Prop
 | no (e:Int) (he:e≠0):cf t ae S aR (t,ff,false,e)
 | old (m:Mp) (hf:t.maps.find? (Zi ae S aR)=some m):cf t ae S aR (t,m,false,0)
 | own (port:Int) (hf:t.maps.find? (Zi ae S aR)=none) (aY:nG t ⟨ae,S,aR,t.bC S - 1,port⟩) (hb:t.maps.find? (Wc ae (t.bC S - 1) port)=none) (hn:Zw t.maps S < 12) :
   cf t ae S aR (t.add ⟨ae,S,aR,t.bC S - 1,port⟩,⟨ae,S,aR,t.bC S - 1,port⟩,false,0)
 | new (b k:Nat) (hf:t.maps.find? (Zi ae S aR)=none) (hb:b < 3) (hk:k < 6) (hz:t.aq.ow b k=0) (hh:t.bC S=0∨t.bC S=b + 1) (hc:Jn t.aq.own S≤1) (hd:t.aq.nC b=false) (hn:Zw t.maps S < 12) :
   cf t ae S aR ((⟨t.aq.put b k (S + 1),t.home.set S (b + 1),t.maps⟩:Tb).add ⟨ae,S,aR,b,1024 + (k:Int) * 8⟩,⟨ae,S,aR,b,1024 + (k:Int) * 8⟩,true,0)
theorem GI {q i:Nat} (hq:q < 6) (hi:i < 8):Js (1024 + (q:Int) * 8 + i)=true∧Xk (1024 + (q:Int) * 8 + i)=q:=by
 have h:Js (1024 + (q:Int) * 8 + i)=true:=by unfold Js;simp;omega
 refine ⟨h,?_⟩
 unfold Xk
 rw[if_pos h];omega
theorem Tx {t:Tb} (h:GT t) (hw:t.wf) {ae:Int} {S:Nat} {aR:Int} (hf:t.maps.find? (Zi ae S aR)=none) (hn:Zw t.maps S < 12) (a draw:Int) (hh:t.bC S=0∨t.bC S=a + 1) (hc:Jn t.aq.own S≤1):cf t ae S aR (t.tk ae S aR a draw):=by
 have eQ:=LB t.aq hw.aq S a draw
 unfold Tb.tk
 generalize t.aq.take S a draw=x at *
 cases eQ with
 | no e he=>rw[if_pos he];exact .no e he
 | yes b k ha hb hk _ _ _ hd _ ho =>
  rw[if_neg av]
  subst ha
  exact .new b k hf hb hk ho af hc hd hn
theorem opened {t:Tb} (h:GT t) (hw:t.wf) {ae:Int} {S:Nat} {aR:Int} (bF:Jm ae S aR=true) (draw:Int):cf t ae S aR (t.cz ae S aR draw):=by
 have ca:¬ (Wu t=false∨Jm ae S aR=false):=by
  rw[(xO t).2 (Ur.2 h),bF];simp
 obtain ⟨_,⟨_,rf⟩,_⟩:=Wd bF
 unfold Tb.cz
 rw[if_neg ca]
 cases hf:t.maps.find? (Zi ae S aR) with
 | some m=>exact .old m hf
 | none =>
  dsimp only
  split
  ·exact .no 6 aP
  rename_i hn
  have hn:Zw t.maps S < 12:=by omega
  rw[Int.toNat_natCast]
  cases Mv:xN t ae (t.bC S - 1) (jS t S) with
  | some port =>
   dsimp only
   unfold xN at Mv
   have hm:=List.mem_of_find?_eq_some Mv
   have kx:=List.find?_some Mv
   obtain ⟨q,hq,hp⟩:=List.mem_flatMap.1 hm
   have h1:1≤t.bC S:=by
    rcases Int.lt_or_le (t.bC S) 1 with h2|h2
    ·have e:jS t S=[]:=if_neg af
     rw[e]at hq;cases hq
    ·exact h2
   have e:jS t S=Wi t S 6:=if_pos h1
   rw[e]at hq
   unfold Wi at hq
   obtain ⟨Mw,hqo⟩:=List.mem_filter.1 hq
   have Mw:=List.mem_range.1 Mw
   unfold Ue at hp
   obtain ⟨i,hi,rfl⟩:=List.mem_map.1 hp
   have hi:=List.mem_range.1 hi
   obtain ⟨b1,b2⟩:=GI Mw hi
   have h3:=(h.df S)
   have pO:t.aq.ow (t.bC S - 1).toNat q=(S:Int) + 1:=by simpa using hqo
   have h3:t.bC S≤3:=by
    obtain ⟨x,hx⟩:=List.exists_mem_of_ne_nil _ (show jS t S≠[] by rw[e];intro h0;unfold Wi at h0;rw[h0]at hq;cases hq)
    have uD:0 < Jn t.aq.own S:=by
     rw[Dk (h.df S) hw,List.length_pos_iff];intro h0;rw[h0]at hx;cases hx
    unfold Jn at uD
    obtain ⟨o,ho,he⟩:=List.countP_pos_iff.1 uD
    obtain ⟨j,hj,rfl⟩:=List.getElem_of_mem ho
    have Mx:j < 18:=by have:=hw.aq.own;omega
    exact (h.df S j Mx (by rw[List.getD_eq_getElem?_getD,List.getElem?_eq_getElem hj];simpa using he)).2.2
   refine .own _ hf ⟨⟨bF,b1,by show 0≤t.bC S - 1;omega,by show t.bC S - 1 < 3;omega⟩,?_,?_⟩ ?_ hn
   ·show t.bC (S:Int).toNat=t.bC S - 1 + 1
    rw[Int.toNat_natCast];omega
   ·show t.aq.ow (t.bC S - 1).toNat (Xk _).toNat=(S:Int) + 1
    rw[b2,Int.toNat_natCast];exact pO
   ·unfold xM at kx
    simpa using kx
  | none =>
   dsimp only
   split
   ·exact .no 6 aP
   rename_i h2
   have hc:Jn t.aq.own S≤1:=by rw[Dk (h.df S) hw];omega
   split
   ·rename_i h1
    exact Tx h hw hf hn _ draw af hc
   ·rename_i h1
    have h0:t.bC S=0:=by
     have:=Tb.rk (Ur.2 h) hw (s:=S) af
     omega
    split
    ·rename_i hp
     exact .no _ hp
    ·exact Tx h hw hf hn _ draw (.inl h0) hc
theorem cf.bR {t:Tb} (h:GT t) (hw:t.wf) {ae:Int} {S:Nat} {aR:Int} (bF:Jm ae S aR=true) {x:Tb × Mp × Bool × Int} (ho:cf t ae S aR x):GT x.1:=by
 obtain ⟨_,⟨_,rf⟩,_⟩:=Wd bF
 cases ho with
 | no e he=>exact h
 | old m hf=>exact h
 | own port hf aY hb hn=>exact h.add aY (GH hf hb) hn
 | new b k hf hb hk hz hh hc hd hn =>
  obtain ⟨b1,b2⟩:=GI (i:=0) hk af
  rw[show (1024 + (k:Int) * 8 + (0:Nat))=1024 + (k:Int) * 8 by omega]at b1 b2
  refine h.take hw hb hk af hz hh hc rfl rfl (by show (Xk (1024 + (k:Int) * 8)).toNat=k;rw[b2];omega) ⟨bF,b1,by show 0≤(b:Int);omega,by show (b:Int) < 3;omega⟩ (GH hf ?_) hn
  rw[List.find?_eq_none]
  intro o pC hp
  unfold Wc at hp
  simp at hp
  have aY:=h.maps o pC
  have:Zj o=b * 6 + k:=by
   unfold Zj;rw[hp.1.2,hp.2,b2];omega
  exact (h.used _ af).2 ⟨o,pC,this⟩ hz
theorem cf.wf {t:Tb} (hw:t.wf) {ae:Int} {S:Nat} {aR:Int} {x:Tb × Mp × Bool × Int} (ho:cf t ae S aR x):x.1.wf:=by
 cases ho with
 | no e he=>exact hw
 | old m hf=>exact hw
 | own port hf aY hb hn=>exact ⟨hw.aq,hw.home⟩
 | new b k hf hb hk hz hh hc hd hn=>exact ⟨ay.de _ hw.aq _ _ _,by show (t.home.set _ _).length=8;rw[List.length_set];exact hw.home⟩
theorem GT.ok {t:Tb} (h:GT t) (hw:t.wf):t.ok:=by
 refine ⟨hw,fun m hm=>?_,by have:=xP (Ur.2 h);omega⟩
 have aY:=h.maps m hm
 obtain ⟨h1,h2,h3⟩:=Wd aY.1.1
 have h4:=aY.1.2
 have h5:=h4.1
 unfold Js at h5
 simp only[Bool.and_eq_true,decide_eq_true_eq]at h5
 unfold C5
 refine ⟨?_,?_,?_,?_,?_⟩<;>omega
theorem GJ {t:Tb} {m o:Mp} (hm:xF t m) (ho:xF t o):oQ m o=true ↔ Zj o=Zj m:=by
 rw[Xz1 ho.2.2.1 hm.2.2.1]
 unfold oQ
 simp
theorem Ty {p:ay} (hg:p.bR=true) {s:Int} {b k:Nat} (hb:b < 3) (hk:k < 6) (hs:0≤s) (ho:p.ow b k=s + 1):p.bX s b k=(p.put b k 0,0):=by
 unfold ay.bX
 rw[if_pos hg,if_pos]
 ·simp
 ·have ha:Wa (b:Int)=true:=by unfold Wa;simp;omega
  exact ⟨ha,by omega,by omega,hs,by simpa using ho⟩
theorem GT.bX {t:Tb} (h:GT t) (hw:t.wf) {i:Nat} (hi:i < t.maps.length) (cd:(t.maps.eraseIdx i).any (oQ t.maps[i])=false):GT ((t.del i).bX t.maps[i])∧((t.del i).bX t.maps[i]).wf∧((t.del i).bX t.maps[i]).maps=t.maps.eraseIdx i:=by
 have hm:=List.getElem_mem hi
 have ct:∀ o ∈ t.maps.eraseIdx i,o ∈ t.maps:=fun o ho=>List.mem_of_mem_eraseIdx ho
 have aY:=h.maps _ hm
 have xK:=xT aY
 have fo:=vS t.maps[i].port
 have nBa:=Mq aY.1
 have mB:∀ o ∈ t.maps.eraseIdx i,Zj o≠Zj t.maps[i]:=fun o ho he=>by
  have h1:=List.any_eq_false.1 cd o ho
  exact h1 ((GJ aY.1 (h.maps o (ct o ho)).1).2 he)
 have aJ:∀ o ∈ t.maps,o≠t.maps[i]→o ∈ t.maps.eraseIdx i:=fun o ho bN=>by
  obtain ⟨n,hn,rfl⟩:=List.getElem_of_mem ho
  exact List.mem_eraseIdx_iff_getElem.2 ⟨n,hn,fun e=>bN (by subst e;rfl),rfl⟩
 generalize t.maps[i]=m at *
 obtain ⟨A,hA⟩:=Int.eq_ofNat_of_zero_le aY.1.2.2.1
 obtain ⟨K,hK⟩:=Int.eq_ofNat_of_zero_le fo.1
 obtain ⟨S,hS⟩:=Int.eq_ofNat_of_zero_le xK.1
 have LW:A < 3:=by have:=aY.1.2.2.2;omega
 have gQ:=aY.2.2
 rw[hA,hK,Int.toNat_natCast,Int.toNat_natCast]at gQ
 have Dl:t.aq.bX m.s m.a (Xk m.port)=(t.aq.put A K 0,0):=by
  rw[hA,hK];exact Ty h.aq LW af xK.1 gQ
 have jR:Zj m=A * 6 + K:=by unfold Zj;rw[hA,hK];simp
 have pO:=aY.2.1
 rw[hS,Int.toNat_natCast]at pO
 have hl:A * 6 + K < t.aq.own.length:=by rw[hw.aq.own];omega
 have vT:S < t.home.length:=by rw[hw.home];omega
 have Dm:t.aq.own.getD (A * 6 + K) 0=(S:Int) + 1:=by rw[hS]at gQ;exact gQ
 have aW:∀ j,(t.aq.own.set (A * 6 + K) 0).getD j 0=if j=A * 6 + K then 0 else t.aq.own.getD j 0:=fun j=>xU hl _ _
 have iT:(t.aq.put A K 0).wf:=ay.de _ hw.aq _ _ _
 have iw:∀ s,Jn (t.aq.own.set (A * 6 + K) 0) s=Jn t.aq.own s - if s=S then 1 else 0:=fun s=>by
  rw[Mr hl,Dm,if_neg (show ¬ (0:Int)=(s:Int) + 1 by omega)]
  by_cases e:s=S
  ·subst e;simp
  ·rw[if_neg af,if_neg e];rfl
 have dU:=Ms hl Dm
 have hH:_root_.Go.Proofs.YtogckmommodmhaaGreatDoor.df ⟨t.aq.put A K 0,t.home,t.maps.eraseIdx i⟩ S:=fun j hj qk=>by
  have qk:(t.aq.own.set (A * 6 + K) 0).getD j 0=(S:Int) + 1:=qk
  rw[aW]at qk
  split at qk
  ·omega
  ·exact h.df S j hj qk
 have kK:=Dk hH ⟨iT,hw.home⟩
 have kK:Jn (t.aq.own.set (A * 6 + K) 0) S=(jS ⟨t.aq.put A K 0,t.home,t.maps.eraseIdx i⟩ S).length:=kK
 have fc:(t.maps.eraseIdx i).any (fun o=>decide (o.s=(S:Int)))=true→Jn (t.aq.own.set (A * 6 + K) 0) S≠0:=fun ha=>by
  obtain ⟨o,ho,he⟩:=List.any_eq_true.1 ha
  have he:o.s=(S:Int):=by simpa using he
  have vU:=h.maps o (ct o ho)
  have h1:=vU.2.2
  rw[GG,he]at h1
  have h2:=mB o ho
  have h3:(t.aq.own.set (A * 6 + K) 0).getD (Zj o) 0=(S:Int) + 1:=by rw[aW,if_neg (by rw[← jR];exact h2)];exact h1
  have:=Ms (by rw[List.length_set,hw.aq.own];exact Mq vU.1) h3
  omega
 -- I0 holds Dn the homes
 have key:∀ H:List Int,H.length=8→(∀ s,s < 8→s≠S→H.getD s 0=t.bC s)→(H.getD S 0=if Jn (t.aq.own.set (A * 6 + K) 0) S=0 then 0 else t.bC S)→GT ⟨t.aq.put A K 0,H,t.maps.eraseIdx i⟩:=by
  intro H Tz Dp sM
  refine ⟨Mt h.aq _ _ af,fun o ho=>?_,h.apart.sublist (List.eraseIdx_sublist _ _),fun j hj=>?_,fun s hs=>?_,fun s hs=>?_,fun s hs=>?_⟩
  ·have vU:=h.maps o (ct o ho)
   have Dq:=xT vU
   refine ⟨vU.1,?_,?_⟩
   ·show H.getD o.s.toNat 0=o.a + 1
    by_cases e:o.s=(S:Int)
    ·have hz:=fc (List.any_eq_true.2 ⟨o,ho,by simp[e]⟩)
     rw[e,Int.toNat_natCast,sM,if_neg hz]
     have:=vU.2.1;rw[e,Int.toNat_natCast]at this;exact this
    ·rw[Dp _ af af];exact vU.2.1
   ·show (t.aq.own.set (A * 6 + K) 0).getD (Zj o) 0=o.s + 1
    rw[aW,if_neg (by rw[← jR];exact mB o ho)];exact vU.2.2
  ·show (t.aq.own.set (A * 6 + K) 0).getD j 0≠0 ↔ ∃ o ∈ t.maps.eraseIdx i,Zj o=j
   rw[aW]
   by_cases e:j=A * 6 + K
   ·rw[if_pos e]
    refine ⟨fun h0=>(h0 rfl).elim,fun ⟨o,ho,he⟩=>?_⟩
    exact (mB o ho (by rw[he,jR,e])).elim
   ·rw[if_neg e]
    refine (h.used j hj).trans ⟨fun ⟨o,ho,he⟩=>⟨o,aJ o ho (fun q=>e (by rw[← he,q,jR])),he⟩,fun ⟨o,ho,he⟩=>⟨o,ct o ho,he⟩⟩
  ·show Jn (t.aq.own.set (A * 6 + K) 0) s≤2
   rw[iw];have:=h.two s hs;omega
  ·exact Nat.le_trans (List.Sublist.countP_le (List.eraseIdx_sublist _ _)) (h.many s hs)
  ·show H.getD s 0≠0 ↔ 0 < Jn (t.aq.own.set (A * 6 + K) 0) s
   by_cases e:s=S
   ·subst e
    rw[sM]
    have:=aY.1.2.2.1
    split<;>omega
   ·rw[Dp s hs e,iw,if_neg e]
    exact h.home s hs
 unfold Tb.bX
 have e1:(t.del i).aq=t.aq:=rfl
 have e2:(t.del i).home=t.home:=rfl
 have e3:(t.del i).maps=t.maps.eraseIdx i:=rfl
 rw[e1,e2,e3,Dl,hS,Int.toNat_natCast]
 dsimp only
 split
 ·rename_i h0
  rw[h0]at kK
  refine ⟨key _ (by rw[List.length_set];exact hw.home) (fun s _ bN=>?_) ?_,⟨iT,by show (t.home.set _ _).length=8;rw[List.length_set];exact hw.home⟩,rfl⟩
  ·rw[xU vT,if_neg bN];rfl
  ·rw[xU vT,if_pos rfl,if_pos (by simpa using kK)]
 ·rename_i h0
  refine ⟨key _ hw.home (fun s _ _=>rfl) ?_,⟨iT,hw.home⟩,rfl⟩
  rw[if_neg]
  ·rfl
  ·rw[kK];intro h1;exact h0 (List.eq_nil_of_length_eq_zero h1)
theorem GT.cls {t:Tb} (h:GT t) (hw:t.wf) {m:Mp} (hm:m ∈ t.maps):∃ i,i < t.maps.length∧t.maps[i]?=some m∧GT (t.cls m).1∧(t.cls m).1.wf∧(t.cls m).1.maps=t.maps.eraseIdx i∧(t.cls m).2.2=0:=by
 have hg:¬ Wu t=false:=by rw[(xO t).2 (Ur.2 h)];simp
 unfold Tb.cls
 rw[if_neg hg]
 cases hf:t.maps.findIdx? (fun x=>decide (m=x)) with
 | none =>
  have:=List.findIdx?_eq_none_iff.1 hf m hm
  simp at this
 | some i =>
  obtain ⟨hi,he⟩:=Tp hf
  refine ⟨i,hi,by rw[List.getElem?_eq_getElem hi,he],?_⟩
  dsimp only
  split
  ·rename_i ha
   obtain ⟨o,ho,Dq⟩:=List.any_eq_true.1 ha
   have:=h.del hi ⟨o,ho,by rw[he];exact (GJ (h.maps m hm).1 (h.maps o (List.mem_of_mem_eraseIdx ho)).1).1 Dq⟩
   exact ⟨this,⟨hw.aq,hw.home⟩,rfl,rfl⟩
  ·rename_i ha
   have:=h.bX hw hi (by rw[he];simpa using ha)
   rw[he]at this
   exact ⟨this.1,this.2.1,this.2.2,rfl⟩
theorem round {t:Tb} (h:GT t) (hw:t.wf) {ae:Int} {S:Nat} {aR:Int} (bF:Jm ae S aR=true) {x:Tb × Mp × Bool × Int} (ho:cf t ae S aR x) (hf:t.maps.find? (Zi ae S aR)=none) (he:x.2.2.2=0) :
  x.1.cls x.2.1=(t,x.2.2.1,0):=by
 have GK:=ho.bR h hw bF
 obtain ⟨_,⟨_,rf⟩,_⟩:=Wd bF
 have last:∀ (T:Tb) (m:Mp),GT (T.add m)→(∀ o ∈ T.maps,Zy o m=false)→(T.add m).cls m=if T.maps.any (oQ m)=true then (T,false,0) else (T.bX m,true,0):=by
  intro T m hg hk
  unfold Tb.cls
  rw[if_neg (by rw[(xO _).2 (Ur.2 hg)];simp)]
  have e1:(T.add m).maps.findIdx? (fun x=>decide (m=x))=some T.maps.length:=by
   show (T.maps++[m]).findIdx? _=_
   rw[List.findIdx?_append]
   have:T.maps.findIdx? (fun x=>decide (m=x))=none:=by
    rw[List.findIdx?_eq_none_iff]
    intro o ho
    have:=Xfy (hk o ho)
    simp;exact fun e=>this e.symm
   rw[this];simp
  have e2:(T.add m).maps.eraseIdx T.maps.length=T.maps:=by
   show (T.maps++[m]).eraseIdx T.maps.length=_
   rw[List.eraseIdx_append_of_length_le (Nat.le_refl _)];simp
  have e3:(T.add m).del T.maps.length=T:=by unfold Tb.del;rw[e2];rfl
  rw[e1]
  dsimp only
  rw[e2,e3]
 cases ho with
 | no e lp=>exact (lp he).elim
 | old m me=>rw[hf]at me;cases me
 | own port me aY hb hn =>
  dsimp only at GK ⊢
  rw[last t _ GK (GH hf hb),if_pos]
  have h1:t.aq.own.getD (Zj ⟨ae,S,aR,t.bC S - 1,port⟩) 0≠0:=by
   rw[← GG t,aY.2.2];show (S:Int) + 1≠0;omega
  obtain ⟨o,ho,he⟩:=(h.used _ (Mq aY.1)).1 h1
  exact List.any_eq_true.2 ⟨o,ho,(GJ aY.1 (h.maps o ho).1).2 he⟩
 | new b k me hb hk hz hh hc hd hn =>
  dsimp only at GK ⊢
  obtain ⟨b1,b2⟩:=GI (i:=0) hk af
  rw[show (1024 + (k:Int) * 8 + (0:Nat))=1024 + (k:Int) * 8 by omega]at b1 b2
  have bW:xF t ⟨ae,S,aR,b,1024 + (k:Int) * 8⟩:=⟨bF,b1,by show 0≤(b:Int);omega,by show (b:Int) < 3;omega⟩
  have jR:Zj ⟨ae,S,aR,b,1024 + (k:Int) * 8⟩=b * 6 + k:=by
   unfold Zj;rw[b2];simp
  have Dr:∀ o ∈ t.maps,Zj o≠b * 6 + k:=fun o ho he=>(h.used _ af).2 ⟨o,ho,he⟩ hz
  have iM:∀ o ∈ t.maps,Zy o ⟨ae,S,aR,b,1024 + (k:Int) * 8⟩=false:=by
   refine GH hf ?_
   rw[List.find?_eq_none]
   intro o pC hp
   unfold Wc at hp
   simp at hp
   refine Dr o pC ?_
   unfold Zj;rw[hp.1.2,hp.2,b2];omega
  have hl:b * 6 + k < t.aq.own.length:=by rw[hw.aq.own];omega
  have AN:t.aq.own.getD (b * 6 + k) 0=0:=hz
  rw[last _ _ GK iM,if_neg]
  ·have My:(t.aq.put b k ((S:Int) + 1)).put b k 0=t.aq:=by
    unfold ay.put
    dsimp only
    rw[List.set_set]
    have:t.aq.own.set (b * 6 + k) 0=t.aq.own:=by
     have e:t.aq.own[b * 6 + k]=0:=by rw[List.getD_eq_getElem?_getD,List.getElem?_eq_getElem hl]at AN;exact AN
     rw[← e,List.set_getElem_self]
    rw[this]
   have Dl:(t.aq.put b k ((S:Int) + 1)).bX S b k=(t.aq,0):=by
    rw[Ty (Mt h.aq _ _ af) hb hk af,My]
    show (t.aq.own.set (b * 6 + k) ((S:Int) + 1)).getD (b * 6 + k) 0=_
    rw[xU hl,if_pos rfl]
   unfold Tb.bX
   dsimp only
   rw[b2,Dl,Int.toNat_natCast]
   dsimp only
   have vT:S < t.home.length:=by rw[hw.home];omega
   have pO:(⟨t.aq,t.home.set S ((b:Int) + 1),t.maps⟩:Tb).bC S=b + 1:=by
    show (t.home.set S ((b:Int) + 1)).getD S 0=_
    rw[xU vT,if_pos rfl]
   have TA:=Dk (h.df S) hw
   rcases hh with hh|hh
   ·have jr:Jn t.aq.own S=0:=by
     have:=h.home S af
     rcases Nat.eq_zero_or_pos (Jn t.aq.own S) with h0|h0
     ·exact h0
     ·exact (this.2 h0 hh).elim
    rw[if_pos]
    ·rw[List.set_set]
     have:t.home.set S 0=t.home:=by
      have e:t.home[S]=0:=by
       unfold Tb.bC at hh
       rw[List.getD_eq_getElem?_getD,List.getElem?_eq_getElem vT]at hh;exact hh
      rw[← e,List.set_getElem_self]
     rw[this]
    ·have uc:df ⟨t.aq,t.home.set S ((b:Int) + 1),t.maps⟩ S:=fun j hj qk=>by
      exfalso
      have:=Ms (s:=S) (by have:=hw.aq.own;omega:j < t.aq.own.length) qk
      omega
     have:=Dk uc ⟨hw.aq,by show (t.home.set _ _).length=8;rw[List.length_set];exact hw.home⟩
     have e:(jS ⟨t.aq,t.home.set S ((b:Int) + 1),t.maps⟩ S).length=0:=by rw[← this];exact jr
     exact List.eq_nil_of_length_eq_zero e
   ·have dJ:t.home.set S ((b:Int) + 1)=t.home:=by
     have e:t.home[S]=(b:Int) + 1:=by
      unfold Tb.bC at hh
      rw[List.getD_eq_getElem?_getD,List.getElem?_eq_getElem vT]at hh;exact hh
     rw[← e,List.set_getElem_self]
    rw[dJ,if_neg]
    intro h0
    rw[h0]at TA
    have:=(h.home S af).1 af
    simp at TA;omega
  ·rw[Bool.not_eq_true,List.any_eq_false]
   intro o ho hs
   exact Dr o ho (by rw[(GJ bW (h.maps o ho).1).1 hs,jR])
def Mz:ay:=⟨List.replicate 18 0,List.replicate 3 false⟩
def TD:Tb:=⟨Mz,List.replicate 8 0,[]⟩
theorem Xtm:Mz.wf:=⟨rfl,rfl⟩
theorem Ycq:TD.wf:=⟨Xtm,rfl⟩
theorem TF (n i:Nat):(List.replicate n (0:Int)).getD i 0=0:=C6 n i
theorem GT.none {p:ay} (h:p.bR=true) (ho:∀ i,p.own.getD i 0=0) {H:List Int} (hH:∀ i,H.getD i 0=0) (hc:∀ s,Jn p.own s=0):GT ⟨p,H,[]⟩:=by
 refine ⟨h,fun m hm=>(by cases hm),List.Pairwise.nil,fun i _=>⟨fun h=>(h (ho i)).elim,fun ⟨m,hm,_⟩=>(by cases hm)⟩,fun s _=>(by show Jn p.own s≤2;rw[hc];omega),fun s _=>Nat.zero_le _,fun s _=>⟨fun h=>(h (hH s)).elim,fun h=>?_⟩⟩
 have h:0 < Jn p.own s:=h
 rw[hc]at h;omega
theorem Ye2:GT TD:=GT.none (by decide) (fun i=>TF 18 i) (fun i=>TF 8 i) fun s=>by
 unfold Jn Mz
 rw[List.countP_eq_zero]
 intro o ho
 rw[(List.mem_replicate.1 ho).2]
 simp;omega
theorem cf.has {t:Tb} {ae:Int} {S:Nat} {aR:Int} {x:Tb × Mp × Bool × Int} (h:cf t ae S aR x) (he:x.2.2.2=0):x.2.1 ∈ x.1.maps∧x.2.1.ae=ae∧x.2.1.s=S∧x.2.1.aR=aR∧(x.2.2.1=true→∃ b,b < 3∧x.2.1.a=(b:Nat)∧t.aq.nC b=false):=by
 cases h with
 | no e lp=>exact (lp he).elim
 | old m hf =>
  have:=List.find?_some hf
  unfold Zi at this
  simp at this
  exact ⟨List.mem_of_find?_eq_some hf,this.1.1,this.1.2,this.2,fun h=>by cases h⟩
 | own port hf aY hb hn=>exact ⟨List.mem_append_right _ (List.mem_singleton.2 rfl),rfl,rfl,rfl,fun h=>by cases h⟩
 | new b k hf hb hk hz hh hc hd hn=>exact ⟨List.mem_append_right _ (List.mem_singleton.2 rfl),rfl,rfl,rfl,fun _=>⟨b,hb,rfl,hd⟩⟩
theorem Yfn {t:Tb} (h:GT t) {i:Nat} {m:Mp} (hi:t.maps[i]?=some m):(t.maps.eraseIdx i).find? (Zi m.ae m.s m.aR)=none:=by
 rw[List.find?_eq_none]
 intro o ho hp
 obtain ⟨n,hn,bN,rfl⟩:=List.mem_eraseIdx_iff_getElem.1 ho
 obtain ⟨AP,he⟩:=List.getElem?_eq_some_iff.1 hi
 have hk:=Tw hp
 have hp:=List.pairwise_iff_getElem.1 h.apart
 rcases Nat.lt_or_gt_of_ne bN with h1|h1
 ·have:=hp n i hn AP h1;rw[he]at this;rw[this]at hk;cases hk
 ·have:=hp i n AP hn h1;rw[he,GC]at this;rw[this]at hk;cases hk
theorem GT.drain {t:Tb} (h:GT t) (a:Int) (to:Bool):GT ⟨(t.aq.drain a to).1,t.home,t.maps⟩:=by
 have ho:(t.aq.drain a to).1.own=t.aq.own:=by
  unfold ay.drain
  split
  ·split<;>rfl
  ·rfl
 have gQ:∀ a' k,(t.aq.drain a to).1.ow a' k=t.aq.ow a' k:=fun a' k=>by unfold ay.ow;rw[ho]
 refine ⟨?_,fun m hm=>?_,h.apart,fun i hi=>?_,fun s hs=>?_,h.many,fun s hs=>?_⟩
 ·unfold ay.bR;rw[ho];exact h.aq
 ·have:=h.maps m hm
  exact ⟨this.1,this.2.1,by show (t.aq.drain a to).1.ow _ _=_;rw[gQ];exact this.2.2⟩
 ·show (t.aq.drain a to).1.own.getD i 0≠0 ↔ _
  rw[ho];exact h.used i hi
 ·show Jn (t.aq.drain a to).1.own s≤2
  rw[ho];exact h.two s hs
 ·show _ ↔ 0 < Jn (t.aq.drain a to).1.own s
  rw[ho];exact h.home s hs
def Ds:List AV:=[.int .i64 1,.int .i64 6,.int .i64 17]
theorem Xml (n:Nat):ai n Ds=True:=by simp[Ds,ai,Qe]
theorem Qyl (ρ:Nat→Nat):az ρ Ds=Ds:=by simp[Ds,az,aE]
attribute [go_sem] Xml Qyl
end Go.Proofs.YtogckmommodmhaaGreatDoor
