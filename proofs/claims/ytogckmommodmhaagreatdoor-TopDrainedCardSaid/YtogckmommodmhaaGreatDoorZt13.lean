import Derived.Test.YtogckmommodmhaaGreatDoorZt12
set_option maxHeartbeats 16000000
namespace Go.Proofs.YtogckmommodmhaaGreatDoor
open Go.RowKit
set_option linter.all false
set_option linter.unusedSimpArgs false
set_option maxRecDepth 100000
theorem RI.T {rows:List (List Tm)} {D:List Tm} (hl:rows.length=65) (hp:rows.flatten.Perm D):RI (fun _ _=>True) rows D:=⟨hl,hp,fun _ _ _ _=>trivial⟩
def WT.uB (T:WT):WT:={ T with now:=T.now + 1,rows:=Jl (T.now + 1) 4 1 T.rows }
theorem Hu {now:Nat} {rows:List (List Tm)} {D l:List Tm} (h:RI (fun _ _=>True) rows D) (k:Nat):RI (fun _ _=>True) ((l.take k).foldl (Xe now) rows) ((l.take k).reverse++D):=RI.jG _ h fun _ _=>trivial
theorem WT.iD (T:WT) (t:Tm):(T.lay t)={ T with rows:=Xe T.now T.rows t }:=rfl
set_option maxRecDepth 20000 in
theorem Xvx (gl:Nat→AV) (T:WT) (D:List Tm) (hT:T.wf) (hp:T.rows.flatten.Perm D) (hD:D.length≤100000) (ra:∀ t ∈ D,t.due≤1099511627776) (hn:T.now < 1099511627776) :
  GQ Tryz.prog gl 139 [.ptr 0 0] T.h 67 [0,1] (fun _:Unit=>True) (fun _=>.aX []) (fun _=>T.uB.h):=by
 refine Bc.gq (of_decide_eq_true rfl) (fun q hq=>Xf (((WT.HL hT).mem q hq).2)) au fun c aY hg=>?_
 conv in aO _ _=>cbv
 have h0:=WT.ig T
 have aV:=WT.len hT
 have nI:T.h=(0,.cells T.cells)::(1,T.mb)::Kd T.rows 0:=rfl
 have dN:T.cells.set 0 (.int .i64 ((T.now:Int) + 1))=WT.cells { T with now:=T.now + 1 }:=WT.M3 T (T.now + 1)
 have jn:WT.wf { T with now:=T.now + 1 }:=⟨hT.len,hT.mb⟩
 rw[nI]
 refine Qh (An @h0 @dN) ?_
 refine Yi (fun y:Nat × List (List Tm)=>1≤y.1∧y.1≤5∧RI (fun _ _=>True) y.2 D∧Jl (T.now + 1) (5 - y.1) y.1 y.2=Jl (T.now + 1) 4 1 T.rows) (fun y=>⟨[(0,.ptr 0 0),(2,.int .i64 ((16 ^ y.1:Nat):Int)),(3,.int .i64 y.1)],WT.h { T with now:=T.now + 1,rows:=y.2 },67⟩) (fun y=>5 - y.1) Bc.mixed [0,1] aY
  ⟨(1,T.rows),⟨by simp,by simp,RI.T hT.len hp,rfl⟩,To.c6 (by exact Qs) fun b=>?_⟩ fun y hy=>?_
 ·show Qc ((0,.cells (WT.cells { T with now:=T.now + 1 }))::(1,T.mb)::Kd T.rows 0) 67 b=Qc ((0,.cells (WT.cells { T with now:=T.now + 1 }))::(0,.cells T.cells)::(1,T.mb)::Kd T.rows 0) 67 b
  simp only[Qd]
  (repeat' split)<;>first|rfl|omega
 obtain ⟨L,rows⟩:=y
 obtain ⟨eA,hL5,pV,bE⟩:=hy
 dsimp only at eA hL5 pV bE ⊢
 have eN:WT.wf { T with now:=T.now + 1,rows:=rows }:=⟨pV.len,hT.mb⟩
 have im:WT.now { T with now:=T.now + 1,rows:=rows }=T.now + 1:=rfl
 have AU:WT.rows { T with now:=T.now + 1,rows:=rows }=rows:=rfl
 have oHa:WT.mb { T with now:=T.now + 1,rows:=rows }=T.mb:=rfl
 have D8:T.uB={ T with now:=T.now + 1,rows:=Jl (T.now + 1) (5 - L) L rows }:=by unfold WT.uB;rw[bE]
 have nM:∀ i,i < 65→(WT.row { T with now:=T.now + 1,rows:=rows } i).length≤D.length:=fun i hi=>pV.ef hi
 have hrel:=fun i (hi:i < 65)=>RI.cb pV (now:=T.now + 1) hi fun _ _=>trivial
 have nN:∀ i,i < 65→RI (fun _ _=>True) (rows.set i []) (rows.set i []).flatten:=fun i hi=>⟨by simp[pV.len],List.Perm.refl _,fun _ _ _ _=>trivial⟩
 have kh:=fun i (hi:i < 65)=>((yk rows i (by have:=pV.len;omega)).symm.trans pV.perm)
 have bH:∀ i,i < 65→∀ t ∈ rows.getD i [],t.due≤1099511627776:=fun i hi t ht=>ra t (MT pV hi ht)
 rw[D8]
 generalize bj:({ T with now:=T.now + 1,rows:=rows }:WT)=T1 at *
 have Nb:T1.now=T.now + 1:=by rw[← bj]
 have oIa:T1.mb=T.mb:=by rw[← bj]
 have g0:=WT.ig T1
 rw[Nb]at g0
 have iX:=WT.len eN
 have gC:T1.h=(0,.cells T1.cells)::(1,T1.mb)::Kd T1.rows 0:=rfl
 have aH:=fun n b hb=>WT.gV eN n (b:=b) hb
 obtain rfl|rfl|rfl|rfl|rfl:L=1∨L=2∨L=3∨L=4∨L=5:=by omega
 ·have om:((16 ^ 1:Nat):Int)=16:=rfl
  have fb:((16 ^ 2:Nat):Int)=256:=rfl
  have hm:Int.tmod ((T.now + 1:Nat):Int) 16=(((T.now + 1) % 16:Nat):Int):=oL (T.now + 1) 16
  have hq:Int.tdiv ((T.now + 1:Nat):Int) 16=(((T.now + 1) / 16:Nat):Int):=pT (T.now + 1) 16
  have iE:Int.tmod (((T.now + 1) / 16:Nat):Int) 16=(((T.now + 1) / 16 % 16:Nat):Int):=oL _ 16
  rw[gC,om]
  refine Qh (An @aH (An @g0 @hm)) ?_
  (refine Qa (fun h1=>?_) (fun h1=>?_)<;>try exact h1.elim)
  ·refine Qf ?_
   (refine Qa (fun h2=>?_) (fun h2=>?_)<;>try exact h2.elim)
   have oM:(T.now + 1) / 16 % 16 < 16:=Nat.mod_lt _ af
   have yv:nE (T.now + 1) 1=16 + (T.now + 1) / 16 % 16:=rfl
   generalize (T.now + 1) / 16 % 16=sp at *
   have aW:=WT.fI eN (i:=16 + sp) af
   have cD:16 + sp < 65:=by omega
   have eM:2 + (16 + sp)=18 + sp:=by omega
   have vT:16 + sp + 1=17 + sp:=by omega
   rw[vT,eM]at aW
   have hl:T1.row (16 + sp)=rows.getD (16 + sp) []:=by rw[← bj];rfl
   have Nc:=nM _ cD
   generalize mU:T1.row (16 + sp)=l at *
   refine Qh (An @aH (An @g0 (An @hq (An @iE @aW)))) ?_
   refine Yi (fun k:Nat=>k≤l.length) (fun k=>⟨[(0,.ptr 0 0),(2,.int .i64 16),(3,.int .i64 1),(55,.isl l.length (a6 l)),(56,.int .i64 l.length),(57,.int .i64 k)],WT.h { T with now:=T.now + 1,rows:=(l.take k).foldl (Xe (T.now + 1)) (rows.set (16 + sp) []) },67⟩) (fun k=>l.length - k) Bc.mixed [0,1] aY
    ⟨0,by omega,?_⟩ fun k hk=>?_
   ·have eS:T1.put (16 + sp) []={ T with now:=T.now + 1,rows:=rows.set (16 + sp) [] }:=by rw[← bj];rfl
    show To _ _ ⟨_,WT.h { T with now:=T.now + 1,rows:=rows.set (16 + sp) [] },67⟩
    rw[← eS]
    refine To.off (k:=55) eN cD mU ?_ (fun b h1 h2=>?_) ?_ (by dsimp only;omega) ?_ au ?_
    ·show Qc ((0,_)::_) 67 0=_
     rw[Qd,if_pos rfl,vT]
    ·show Qc ((0,_)::(0,_)::(1,_)::_) 67 b=_
     rw[gC,Qd,if_neg af]
    ·exact Qr @aH
    ·exact Qr @eM
    ·have h1:=uu (Kr (16 + sp) 67) l
     have lh:=pR 67 l
     exact Qr (An @h1 @lh)
   have nh:=Hu (now:=T.now + 1) (l:=l) (nN (16 + sp) cD) k
   have iY:∀ j,j < 65→((l.take k).foldl (Xe (T.now + 1)) (rows.set (16 + sp) []) |>.getD j []).length≤1000000:=fun j hj=>by
    have h1:=nh.ef hj
    have h2:=(kh (16 + sp) cD).length_eq
    rw[List.length_append]at h1 h2
    rw[← hl]at h2
    simp only[List.length_reverse,List.length_take]at h1
    omega
   have iZ:WT.wf { T with now:=T.now + 1,rows:=(l.take k).foldl (Xe (T.now + 1)) (rows.set (16 + sp) []) }:=⟨nh.len,hT.mb⟩
   have eX:k < l.length→∀ x,l[k]?=some x→(l.take (k + 1)).foldl (Xe (T.now + 1)) (rows.set (16 + sp) [])=Xe (T.now + 1) ((l.take k).foldl (Xe (T.now + 1)) (rows.set (16 + sp) [])) x:=fun _ x hx=>by
    rw[List.take_succ,hx];simp
   have cn:∀ x:Tm,(WT.row { T with now:=T.now + 1,rows:=(l.take k).foldl (Xe (T.now + 1)) (rows.set (16 + sp) []) } (Yv (T.now + 1) x.due)).length≤1000000:=fun x=>iY _ (vR _ _)
   have rf:WT.now { T with now:=T.now + 1,rows:=(l.take k).foldl (Xe (T.now + 1)) (rows.set (16 + sp) []) }=T.now + 1:=rfl
   generalize jH:({ T with now:=T.now + 1,rows:=(l.take k).foldl (Xe (T.now + 1)) (rows.set (16 + sp) []) }:WT)=Tk at *
   have lP:=WT.aH iZ
   have dD:=Zp l
   refine Qf ?_
   (refine Qa (fun h3=>?_) (fun h3=>?_)<;>try exact h3.elim)
   ·have bB:k < l.length:=by omega
    have bg:=vS l k bB
    have dN:=eX bB l[k] (by simp[bB])
    have sO:l[k].due≤1099511627776:=bH (16 + sp) cD l[k] (by rw[← hl];exact List.getElem_mem _)
    generalize l[k]=x at *
    have cN:=yq c.gl Tk iZ x (by rw[rf];omega) sO (by rw[rf];exact cn x)
    refine Qh (An @dD (An @bg @lP)) ?_
    refine qY cN iZ (fun _ _=>WT.eg iZ x) aY (by simp[ik]) [(0,.ptr 0 0),(2,.int .i64 16),(3,.int .i64 1),(55,.isl l.length (a6 l)),(56,.int .i64 l.length),(57,.int .i64 k),(61,.ptr 0 0),(62,.agg [.int .i64 x.id,.int .i64 x.due])] [(67,.cells [.int .i64 x.id,.int .i64 x.due])] 68 (To.c6 (by exact Qs) fun b=>?_) (by simp[nk,cU,cQ]) ?_ (by simp[Qe,ai]) fun _ _=>?_
    ·simp only[List.cons_append,List.nil_append,Qd];(repeat' split)<;>rfl
    ·exact Qs
    ·refine Qf ?_
     refine ⟨k + 1,by omega,?_,by omega⟩
     have oO:Tk.lay x={ T with now:=T.now + 1,rows:=(l.take (k + 1)).foldl (Xe (T.now + 1)) (rows.set (16 + sp) []) }:=by rw[WT.iD,dN,← jH]
     rw[← oO]
     refine To.dz (ex:=[(67,.cells [.int .i64 x.id,.int .i64 x.due])]) (WT.eg iZ x) au au ?_
     have h1:=pR 67 l
     have h2:ay id (a6 l)=a6 l:=Jp _
     have h3:id 0=0:=rfl
     exact Qr (An @h1 (An @h2 @h3))
   ·obtain rfl:k=l.length:=by omega
    rw[List.take_length]at jH
    have ft:(l.foldl (Xe (T.now + 1)) (rows.set (16 + sp) []))=cb (T.now + 1) rows (16 + sp):=by unfold cb;rw[← hl]
    have ji:Jl (T.now + 1) (5 - 1) 1 rows=Jl (T.now + 1) (5 - (1 + 1)) (1 + 1) (cb (T.now + 1) rows (16 + sp)):=by
     rw[← yv]
     show (if (T.now + 1) % 16 ^ 1=0 then _ else _)=_
     rw[if_pos (by simp only[Nat.reducePow];omega)]
    refine Ux ?_
    refine ⟨(1 + 1,cb (T.now + 1) rows (16 + sp)),⟨by simp,by simp,hrel _ cD,by dsimp only;rw[← ji];exact bE⟩,?_,by dsimp only;omega⟩
    rw[ft]at jH
    dsimp only
    rw[jH]
    refine To.c6 ?_ fun b=>rfl
    exact Qr @fb
  ·have ji:Jl (T.now + 1) (5 - 1) 1 rows=rows:=by
    show (if (T.now + 1) % 16 ^ 1=0 then _ else _)=_
    rw[if_neg (by simp only[Nat.reducePow];omega)]
   rw[ji,bj]
   refine Qf ?_
   refine ⟨(),?_⟩
   rw[← gC]
   exact To.c6 (by exact Qs) fun b=>rfl
 ·have om:((16 ^ 2:Nat):Int)=256:=rfl
  have fb:((16 ^ 3:Nat):Int)=4096:=rfl
  have hm:Int.tmod ((T.now + 1:Nat):Int) 256=(((T.now + 1) % 256:Nat):Int):=oL (T.now + 1) 256
  have hq:Int.tdiv ((T.now + 1:Nat):Int) 256=(((T.now + 1) / 256:Nat):Int):=pT (T.now + 1) 256
  have iE:Int.tmod (((T.now + 1) / 256:Nat):Int) 16=(((T.now + 1) / 256 % 16:Nat):Int):=oL _ 16
  rw[gC,om]
  refine Qh (An @aH (An @g0 @hm)) ?_
  (refine Qa (fun h1=>?_) (fun h1=>?_)<;>try exact h1.elim)
  ·refine Qf ?_
   (refine Qa (fun h2=>?_) (fun h2=>?_)<;>try exact h2.elim)
   have oM:(T.now + 1) / 256 % 16 < 16:=Nat.mod_lt _ af
   have yv:nE (T.now + 1) 2=32 + (T.now + 1) / 256 % 16:=rfl
   generalize (T.now + 1) / 256 % 16=sp at *
   have aW:=WT.fI eN (i:=32 + sp) af
   have cD:32 + sp < 65:=by omega
   have eM:2 + (32 + sp)=34 + sp:=by omega
   have vT:32 + sp + 1=33 + sp:=by omega
   rw[vT,eM]at aW
   have hl:T1.row (32 + sp)=rows.getD (32 + sp) []:=by rw[← bj];rfl
   have Nc:=nM _ cD
   generalize mU:T1.row (32 + sp)=l at *
   refine Qh (An @aH (An @g0 (An @hq (An @iE @aW)))) ?_
   refine Yi (fun k:Nat=>k≤l.length) (fun k=>⟨[(0,.ptr 0 0),(2,.int .i64 256),(3,.int .i64 2),(55,.isl l.length (a6 l)),(56,.int .i64 l.length),(57,.int .i64 k)],WT.h { T with now:=T.now + 1,rows:=(l.take k).foldl (Xe (T.now + 1)) (rows.set (32 + sp) []) },67⟩) (fun k=>l.length - k) Bc.mixed [0,1] aY
    ⟨0,by omega,?_⟩ fun k hk=>?_
   ·have eS:T1.put (32 + sp) []={ T with now:=T.now + 1,rows:=rows.set (32 + sp) [] }:=by rw[← bj];rfl
    show To _ _ ⟨_,WT.h { T with now:=T.now + 1,rows:=rows.set (32 + sp) [] },67⟩
    rw[← eS]
    refine To.off (k:=55) eN cD mU ?_ (fun b h1 h2=>?_) ?_ (by dsimp only;omega) ?_ au ?_
    ·show Qc ((0,_)::_) 67 0=_
     rw[Qd,if_pos rfl,vT]
    ·show Qc ((0,_)::(0,_)::(1,_)::_) 67 b=_
     rw[gC,Qd,if_neg af]
    ·exact Qr @aH
    ·exact Qr @eM
    ·have h1:=uu (Kr (32 + sp) 67) l
     have lh:=pR 67 l
     exact Qr (An @h1 @lh)
   have nh:=Hu (now:=T.now + 1) (l:=l) (nN (32 + sp) cD) k
   have iY:∀ j,j < 65→((l.take k).foldl (Xe (T.now + 1)) (rows.set (32 + sp) []) |>.getD j []).length≤1000000:=fun j hj=>by
    have h1:=nh.ef hj
    have h2:=(kh (32 + sp) cD).length_eq
    rw[List.length_append]at h1 h2
    rw[← hl]at h2
    simp only[List.length_reverse,List.length_take]at h1
    omega
   have iZ:WT.wf { T with now:=T.now + 1,rows:=(l.take k).foldl (Xe (T.now + 1)) (rows.set (32 + sp) []) }:=⟨nh.len,hT.mb⟩
   have eX:k < l.length→∀ x,l[k]?=some x→(l.take (k + 1)).foldl (Xe (T.now + 1)) (rows.set (32 + sp) [])=Xe (T.now + 1) ((l.take k).foldl (Xe (T.now + 1)) (rows.set (32 + sp) [])) x:=fun _ x hx=>by
    rw[List.take_succ,hx];simp
   have cn:∀ x:Tm,(WT.row { T with now:=T.now + 1,rows:=(l.take k).foldl (Xe (T.now + 1)) (rows.set (32 + sp) []) } (Yv (T.now + 1) x.due)).length≤1000000:=fun x=>iY _ (vR _ _)
   have rf:WT.now { T with now:=T.now + 1,rows:=(l.take k).foldl (Xe (T.now + 1)) (rows.set (32 + sp) []) }=T.now + 1:=rfl
   generalize jH:({ T with now:=T.now + 1,rows:=(l.take k).foldl (Xe (T.now + 1)) (rows.set (32 + sp) []) }:WT)=Tk at *
   have lP:=WT.aH iZ
   have dD:=Zp l
   refine Qf ?_
   (refine Qa (fun h3=>?_) (fun h3=>?_)<;>try exact h3.elim)
   ·have bB:k < l.length:=by omega
    have bg:=vS l k bB
    have dN:=eX bB l[k] (by simp[bB])
    have sO:l[k].due≤1099511627776:=bH (32 + sp) cD l[k] (by rw[← hl];exact List.getElem_mem _)
    generalize l[k]=x at *
    have cN:=yq c.gl Tk iZ x (by rw[rf];omega) sO (by rw[rf];exact cn x)
    refine Qh (An @dD (An @bg @lP)) ?_
    refine qY cN iZ (fun _ _=>WT.eg iZ x) aY (by simp[ik]) [(0,.ptr 0 0),(2,.int .i64 256),(3,.int .i64 2),(55,.isl l.length (a6 l)),(56,.int .i64 l.length),(57,.int .i64 k),(61,.ptr 0 0),(62,.agg [.int .i64 x.id,.int .i64 x.due])] [(67,.cells [.int .i64 x.id,.int .i64 x.due])] 68 (To.c6 (by exact Qs) fun b=>?_) (by simp[nk,cU,cQ]) ?_ (by simp[Qe,ai]) fun _ _=>?_
    ·simp only[List.cons_append,List.nil_append,Qd];(repeat' split)<;>rfl
    ·exact Qs
    ·refine Qf ?_
     refine ⟨k + 1,by omega,?_,by omega⟩
     have oO:Tk.lay x={ T with now:=T.now + 1,rows:=(l.take (k + 1)).foldl (Xe (T.now + 1)) (rows.set (32 + sp) []) }:=by rw[WT.iD,dN,← jH]
     rw[← oO]
     refine To.dz (ex:=[(67,.cells [.int .i64 x.id,.int .i64 x.due])]) (WT.eg iZ x) au au ?_
     have h1:=pR 67 l
     have h2:ay id (a6 l)=a6 l:=Jp _
     have h3:id 0=0:=rfl
     exact Qr (An @h1 (An @h2 @h3))
   ·obtain rfl:k=l.length:=by omega
    rw[List.take_length]at jH
    have ft:(l.foldl (Xe (T.now + 1)) (rows.set (32 + sp) []))=cb (T.now + 1) rows (32 + sp):=by unfold cb;rw[← hl]
    have ji:Jl (T.now + 1) (5 - 2) 2 rows=Jl (T.now + 1) (5 - (2 + 1)) (2 + 1) (cb (T.now + 1) rows (32 + sp)):=by
     rw[← yv]
     show (if (T.now + 1) % 16 ^ 2=0 then _ else _)=_
     rw[if_pos (by simp only[Nat.reducePow];omega)]
    refine Ux ?_
    refine ⟨(2 + 1,cb (T.now + 1) rows (32 + sp)),⟨by simp,by simp,hrel _ cD,by dsimp only;rw[← ji];exact bE⟩,?_,by dsimp only;omega⟩
    rw[ft]at jH
    dsimp only
    rw[jH]
    refine To.c6 ?_ fun b=>rfl
    exact Qr @fb
  ·have ji:Jl (T.now + 1) (5 - 2) 2 rows=rows:=by
    show (if (T.now + 1) % 16 ^ 2=0 then _ else _)=_
    rw[if_neg (by simp only[Nat.reducePow];omega)]
   rw[ji,bj]
   refine Qf ?_
   refine ⟨(),?_⟩
   rw[← gC]
   exact To.c6 (by exact Qs) fun b=>rfl
 ·have om:((16 ^ 3:Nat):Int)=4096:=rfl
  have fb:((16 ^ 4:Nat):Int)=65536:=rfl
  have hm:Int.tmod ((T.now + 1:Nat):Int) 4096=(((T.now + 1) % 4096:Nat):Int):=oL (T.now + 1) 4096
  have hq:Int.tdiv ((T.now + 1:Nat):Int) 4096=(((T.now + 1) / 4096:Nat):Int):=pT (T.now + 1) 4096
  have iE:Int.tmod (((T.now + 1) / 4096:Nat):Int) 16=(((T.now + 1) / 4096 % 16:Nat):Int):=oL _ 16
  rw[gC,om]
  refine Qh (An @aH (An @g0 @hm)) ?_
  (refine Qa (fun h1=>?_) (fun h1=>?_)<;>try exact h1.elim)
  ·refine Qf ?_
   (refine Qa (fun h2=>?_) (fun h2=>?_)<;>try exact h2.elim)
   have oM:(T.now + 1) / 4096 % 16 < 16:=Nat.mod_lt _ af
   have yv:nE (T.now + 1) 3=48 + (T.now + 1) / 4096 % 16:=rfl
   generalize (T.now + 1) / 4096 % 16=sp at *
   have aW:=WT.fI eN (i:=48 + sp) af
   have cD:48 + sp < 65:=by omega
   have eM:2 + (48 + sp)=50 + sp:=by omega
   have vT:48 + sp + 1=49 + sp:=by omega
   rw[vT,eM]at aW
   have hl:T1.row (48 + sp)=rows.getD (48 + sp) []:=by rw[← bj];rfl
   have Nc:=nM _ cD
   generalize mU:T1.row (48 + sp)=l at *
   refine Qh (An @aH (An @g0 (An @hq (An @iE @aW)))) ?_
   refine Yi (fun k:Nat=>k≤l.length) (fun k=>⟨[(0,.ptr 0 0),(2,.int .i64 4096),(3,.int .i64 3),(55,.isl l.length (a6 l)),(56,.int .i64 l.length),(57,.int .i64 k)],WT.h { T with now:=T.now + 1,rows:=(l.take k).foldl (Xe (T.now + 1)) (rows.set (48 + sp) []) },67⟩) (fun k=>l.length - k) Bc.mixed [0,1] aY
    ⟨0,by omega,?_⟩ fun k hk=>?_
   ·have eS:T1.put (48 + sp) []={ T with now:=T.now + 1,rows:=rows.set (48 + sp) [] }:=by rw[← bj];rfl
    show To _ _ ⟨_,WT.h { T with now:=T.now + 1,rows:=rows.set (48 + sp) [] },67⟩
    rw[← eS]
    refine To.off (k:=55) eN cD mU ?_ (fun b h1 h2=>?_) ?_ (by dsimp only;omega) ?_ au ?_
    ·show Qc ((0,_)::_) 67 0=_
     rw[Qd,if_pos rfl,vT]
    ·show Qc ((0,_)::(0,_)::(1,_)::_) 67 b=_
     rw[gC,Qd,if_neg af]
    ·exact Qr @aH
    ·exact Qr @eM
    ·have h1:=uu (Kr (48 + sp) 67) l
     have lh:=pR 67 l
     exact Qr (An @h1 @lh)
   have nh:=Hu (now:=T.now + 1) (l:=l) (nN (48 + sp) cD) k
   have iY:∀ j,j < 65→((l.take k).foldl (Xe (T.now + 1)) (rows.set (48 + sp) []) |>.getD j []).length≤1000000:=fun j hj=>by
    have h1:=nh.ef hj
    have h2:=(kh (48 + sp) cD).length_eq
    rw[List.length_append]at h1 h2
    rw[← hl]at h2
    simp only[List.length_reverse,List.length_take]at h1
    omega
   have iZ:WT.wf { T with now:=T.now + 1,rows:=(l.take k).foldl (Xe (T.now + 1)) (rows.set (48 + sp) []) }:=⟨nh.len,hT.mb⟩
   have eX:k < l.length→∀ x,l[k]?=some x→(l.take (k + 1)).foldl (Xe (T.now + 1)) (rows.set (48 + sp) [])=Xe (T.now + 1) ((l.take k).foldl (Xe (T.now + 1)) (rows.set (48 + sp) [])) x:=fun _ x hx=>by
    rw[List.take_succ,hx];simp
   have cn:∀ x:Tm,(WT.row { T with now:=T.now + 1,rows:=(l.take k).foldl (Xe (T.now + 1)) (rows.set (48 + sp) []) } (Yv (T.now + 1) x.due)).length≤1000000:=fun x=>iY _ (vR _ _)
   have rf:WT.now { T with now:=T.now + 1,rows:=(l.take k).foldl (Xe (T.now + 1)) (rows.set (48 + sp) []) }=T.now + 1:=rfl
   generalize jH:({ T with now:=T.now + 1,rows:=(l.take k).foldl (Xe (T.now + 1)) (rows.set (48 + sp) []) }:WT)=Tk at *
   have lP:=WT.aH iZ
   have dD:=Zp l
   refine Qf ?_
   (refine Qa (fun h3=>?_) (fun h3=>?_)<;>try exact h3.elim)
   ·have bB:k < l.length:=by omega
    have bg:=vS l k bB
    have dN:=eX bB l[k] (by simp[bB])
    have sO:l[k].due≤1099511627776:=bH (48 + sp) cD l[k] (by rw[← hl];exact List.getElem_mem _)
    generalize l[k]=x at *
    have cN:=yq c.gl Tk iZ x (by rw[rf];omega) sO (by rw[rf];exact cn x)
    refine Qh (An @dD (An @bg @lP)) ?_
    refine qY cN iZ (fun _ _=>WT.eg iZ x) aY (by simp[ik]) [(0,.ptr 0 0),(2,.int .i64 4096),(3,.int .i64 3),(55,.isl l.length (a6 l)),(56,.int .i64 l.length),(57,.int .i64 k),(61,.ptr 0 0),(62,.agg [.int .i64 x.id,.int .i64 x.due])] [(67,.cells [.int .i64 x.id,.int .i64 x.due])] 68 (To.c6 (by exact Qs) fun b=>?_) (by simp[nk,cU,cQ]) ?_ (by simp[Qe,ai]) fun _ _=>?_
    ·simp only[List.cons_append,List.nil_append,Qd];(repeat' split)<;>rfl
    ·exact Qs
    ·refine Qf ?_
     refine ⟨k + 1,by omega,?_,by omega⟩
     have oO:Tk.lay x={ T with now:=T.now + 1,rows:=(l.take (k + 1)).foldl (Xe (T.now + 1)) (rows.set (48 + sp) []) }:=by rw[WT.iD,dN,← jH]
     rw[← oO]
     refine To.dz (ex:=[(67,.cells [.int .i64 x.id,.int .i64 x.due])]) (WT.eg iZ x) au au ?_
     have h1:=pR 67 l
     have h2:ay id (a6 l)=a6 l:=Jp _
     have h3:id 0=0:=rfl
     exact Qr (An @h1 (An @h2 @h3))
   ·obtain rfl:k=l.length:=by omega
    rw[List.take_length]at jH
    have ft:(l.foldl (Xe (T.now + 1)) (rows.set (48 + sp) []))=cb (T.now + 1) rows (48 + sp):=by unfold cb;rw[← hl]
    have ji:Jl (T.now + 1) (5 - 3) 3 rows=Jl (T.now + 1) (5 - (3 + 1)) (3 + 1) (cb (T.now + 1) rows (48 + sp)):=by
     rw[← yv]
     show (if (T.now + 1) % 16 ^ 3=0 then _ else _)=_
     rw[if_pos (by simp only[Nat.reducePow];omega)]
    refine Ux ?_
    refine ⟨(3 + 1,cb (T.now + 1) rows (48 + sp)),⟨by simp,by simp,hrel _ cD,by dsimp only;rw[← ji];exact bE⟩,?_,by dsimp only;omega⟩
    rw[ft]at jH
    dsimp only
    rw[jH]
    refine To.c6 ?_ fun b=>rfl
    exact Qr @fb
  ·have ji:Jl (T.now + 1) (5 - 3) 3 rows=rows:=by
    show (if (T.now + 1) % 16 ^ 3=0 then _ else _)=_
    rw[if_neg (by simp only[Nat.reducePow];omega)]
   rw[ji,bj]
   refine Qf ?_
   refine ⟨(),?_⟩
   rw[← gC]
   exact To.c6 (by exact Qs) fun b=>rfl
 ·have om:((16 ^ 4:Nat):Int)=65536:=rfl
  have fb:((16 ^ 5:Nat):Int)=1048576:=rfl
  have hm:Int.tmod ((T.now + 1:Nat):Int) 65536=(((T.now + 1) % 65536:Nat):Int):=oL (T.now + 1) 65536
  have hq:Int.tdiv ((T.now + 1:Nat):Int) 65536=(((T.now + 1) / 65536:Nat):Int):=pT (T.now + 1) 65536
  have iE:Int.tmod (((T.now + 1) / 65536:Nat):Int) 16=(((T.now + 1) / 65536 % 16:Nat):Int):=oL _ 16
  rw[gC,om]
  refine Qh (An @aH (An @g0 @hm)) ?_
  (refine Qa (fun h1=>?_) (fun h1=>?_)<;>try exact h1.elim)
  ·refine Qf ?_
   (refine Qa (fun h2=>?_) (fun h2=>?_)<;>try exact h2.elim)
   have yv:nE (T.now + 1) 4=64:=rfl
   have aW:=WT.fI eN (i:=64) af
   have cD:64 < 65:=by omega
   simp only[Nat.reduceAdd]at aW
   have hl:T1.row 64=rows.getD 64 []:=by rw[← bj];rfl
   have Nc:=nM _ cD
   generalize mU:T1.row 64=l at *
   refine Qh (An @aH (An @g0 @aW)) ?_
   refine Yi (fun k:Nat=>k≤l.length) (fun k=>⟨[(0,.ptr 0 0),(2,.int .i64 65536),(3,.int .i64 4),(55,.isl l.length (a6 l)),(56,.int .i64 l.length),(57,.int .i64 k)],WT.h { T with now:=T.now + 1,rows:=(l.take k).foldl (Xe (T.now + 1)) (rows.set 64 []) },67⟩) (fun k=>l.length - k) Bc.mixed [0,1] aY
    ⟨0,by omega,?_⟩ fun k hk=>?_
   ·have eS:T1.put 64 []={ T with now:=T.now + 1,rows:=rows.set 64 [] }:=by rw[← bj];rfl
    show To _ _ ⟨_,WT.h { T with now:=T.now + 1,rows:=rows.set 64 [] },67⟩
    rw[← eS]
    refine To.off (k:=55) eN cD mU ?_ (fun b h1 h2=>?_) ?_ (by dsimp only;omega) ?_ au ?_
    ·show Qc ((0,_)::_) 67 0=_
     rw[Qd,if_pos rfl]
    ·show Qc ((0,_)::(0,_)::(1,_)::_) 67 b=_
     rw[gC,Qd,if_neg af]
    ·exact Qr @aH
    ·exact Qs
    ·have h1:=uu (Kr 64 67) l
     have lh:=pR 67 l
     exact Qr (An @h1 @lh)
   have nh:=Hu (now:=T.now + 1) (l:=l) (nN 64 cD) k
   have iY:∀ j,j < 65→((l.take k).foldl (Xe (T.now + 1)) (rows.set 64 []) |>.getD j []).length≤1000000:=fun j hj=>by
    have h1:=nh.ef hj
    have h2:=(kh 64 cD).length_eq
    rw[List.length_append]at h1 h2
    rw[← hl]at h2
    simp only[List.length_reverse,List.length_take]at h1
    omega
   have iZ:WT.wf { T with now:=T.now + 1,rows:=(l.take k).foldl (Xe (T.now + 1)) (rows.set 64 []) }:=⟨nh.len,hT.mb⟩
   have eX:k < l.length→∀ x,l[k]?=some x→(l.take (k + 1)).foldl (Xe (T.now + 1)) (rows.set 64 [])=Xe (T.now + 1) ((l.take k).foldl (Xe (T.now + 1)) (rows.set 64 [])) x:=fun _ x hx=>by
    rw[List.take_succ,hx];simp
   have cn:∀ x:Tm,(WT.row { T with now:=T.now + 1,rows:=(l.take k).foldl (Xe (T.now + 1)) (rows.set 64 []) } (Yv (T.now + 1) x.due)).length≤1000000:=fun x=>iY _ (vR _ _)
   have rf:WT.now { T with now:=T.now + 1,rows:=(l.take k).foldl (Xe (T.now + 1)) (rows.set 64 []) }=T.now + 1:=rfl
   generalize jH:({ T with now:=T.now + 1,rows:=(l.take k).foldl (Xe (T.now + 1)) (rows.set 64 []) }:WT)=Tk at *
   have lP:=WT.aH iZ
   have dD:=Zp l
   refine Qf ?_
   (refine Qa (fun h3=>?_) (fun h3=>?_)<;>try exact h3.elim)
   ·have bB:k < l.length:=by omega
    have bg:=vS l k bB
    have dN:=eX bB l[k] (by simp[bB])
    have sO:l[k].due≤1099511627776:=bH 64 cD l[k] (by rw[← hl];exact List.getElem_mem _)
    generalize l[k]=x at *
    have cN:=yq c.gl Tk iZ x (by rw[rf];omega) sO (by rw[rf];exact cn x)
    refine Qh (An @dD (An @bg @lP)) ?_
    refine qY cN iZ (fun _ _=>WT.eg iZ x) aY (by simp[ik]) [(0,.ptr 0 0),(2,.int .i64 65536),(3,.int .i64 4),(55,.isl l.length (a6 l)),(56,.int .i64 l.length),(57,.int .i64 k),(61,.ptr 0 0),(62,.agg [.int .i64 x.id,.int .i64 x.due])] [(67,.cells [.int .i64 x.id,.int .i64 x.due])] 68 (To.c6 (by exact Qs) fun b=>?_) (by simp[nk,cU,cQ]) ?_ (by simp[Qe,ai]) fun _ _=>?_
    ·simp only[List.cons_append,List.nil_append,Qd];(repeat' split)<;>rfl
    ·exact Qs
    ·refine Qf ?_
     refine ⟨k + 1,by omega,?_,by omega⟩
     have oO:Tk.lay x={ T with now:=T.now + 1,rows:=(l.take (k + 1)).foldl (Xe (T.now + 1)) (rows.set 64 []) }:=by rw[WT.iD,dN,← jH]
     rw[← oO]
     refine To.dz (ex:=[(67,.cells [.int .i64 x.id,.int .i64 x.due])]) (WT.eg iZ x) au au ?_
     have h1:=pR 67 l
     have h2:ay id (a6 l)=a6 l:=Jp _
     have h3:id 0=0:=rfl
     exact Qr (An @h1 (An @h2 @h3))
   ·obtain rfl:k=l.length:=by omega
    rw[List.take_length]at jH
    have ft:(l.foldl (Xe (T.now + 1)) (rows.set 64 []))=cb (T.now + 1) rows 64:=by unfold cb;rw[← hl]
    have ji:Jl (T.now + 1) (5 - 4) 4 rows=Jl (T.now + 1) (5 - (4 + 1)) (4 + 1) (cb (T.now + 1) rows 64):=by
     rw[← yv]
     show (if (T.now + 1) % 16 ^ 4=0 then _ else _)=_
     rw[if_pos (by simp only[Nat.reducePow];omega)]
    refine Ux ?_
    refine ⟨(4 + 1,cb (T.now + 1) rows 64),⟨by simp,by simp,hrel _ cD,by dsimp only;rw[← ji];exact bE⟩,?_,by dsimp only;omega⟩
    rw[ft]at jH
    dsimp only
    rw[jH]
    refine To.c6 ?_ fun b=>rfl
    exact Qr @fb
  ·have ji:Jl (T.now + 1) (5 - 4) 4 rows=rows:=by
    show (if (T.now + 1) % 16 ^ 4=0 then _ else _)=_
    rw[if_neg (by simp only[Nat.reducePow];omega)]
   rw[ji,bj]
   refine Qf ?_
   refine ⟨(),?_⟩
   rw[← gC]
   exact To.c6 (by exact Qs) fun b=>rfl
 ·have ji:Jl (T.now + 1) (5 - 5) 5 rows=rows:=rfl
  rw[ji,bj,gC]
  refine Qf ?_
  (refine Qa (fun h1=>?_) (fun h1=>?_)<;>try exact h1.elim)
  refine Qf ?_
  refine ⟨(),?_⟩
  rw[← gC]
  exact To.c6 (by exact Qs) fun b=>rfl
def Km (D:List Tm) (to:Nat):Nat:=D.foldl (fun m t=>min m t.due) to
theorem D9:∀ (D:List Tm) (to:Nat),Km D to≤to∧(∀ t ∈ D,Km D to≤t.due)∧(Km D to=to∨∃ t ∈ D,t.due=Km D to)
 | [],to=>⟨Nat.le_refl _,fun t ht=>(by cases ht),.inl rfl⟩
 | a::D,to=>by
  obtain ⟨h1,h2,h3⟩:=D9 D (min to a.due)
  have e:Km (a::D) to=Km D (min to a.due):=rfl
  rw[e]
  refine ⟨by omega,fun t ht=>?_,?_⟩
  ·rcases List.mem_cons.1 ht with rfl|ht
   ·omega
   ·exact h2 t ht
  ·rcases h3 with h3|⟨t,ht,h3⟩
   ·by_cases h:to≤a.due
    ·left;omega
    ·right;exact ⟨a,by simp,by omega⟩
   ·right;exact ⟨t,by simp[ht],h3⟩
theorem Xfl {D:List Tm} {to m:Nat} (h1:m≤to) (h2:∀ t ∈ D,m≤t.due) (h3:m=to∨∃ t ∈ D,t.due=m):m=Km D to:=by
 obtain ⟨g1,g2,g3⟩:=D9 D to
 rcases h3 with h3|⟨t,ht,h3⟩<;>rcases g3 with g3|⟨t',mz,g3⟩
 ·omega
 ·have:=h2 t' mz;omega
 ·have:=g2 t ht;omega
 ·have:=h2 t' mz;have:=g2 t ht;omega
theorem Ea:∀ (n:Nat) (S:List Nat),S.Nodup→(∀ i ∈ S,i < n)→S.length≤n
 | 0,S,_,h=>by
  cases S with
  | nil=>simp
  | cons a S=>have:=h a au;omega
 | n + 1,S,hd,h=>by
  have:=Ea n (S.erase n) (hd.erase n) fun i hi=>by
   have:=(hd.mem_erase_iff).1 hi
   have:=h i this.2;omega
  rw[List.length_erase]at this
  split at this<;>omega
theorem Xo8 {S:List Nat} {n:Nat} (hd:S.Nodup) (h:∀ i ∈ S,i < n) (bO:∀ i,i < n→i ∈ S):S.Perm (List.range n):=by
 rw[List.perm_iff_count]
 intro a
 rw[hd.count,(List.nodup_range).count]
 by_cases ha:a < n
 ·rw[if_pos (bO a ha),if_pos (List.mem_range.2 ha)]
 ·rw[if_neg fun hm=>ha (h a hm),if_neg fun hm=>ha (List.mem_range.1 hm)]
theorem Xmw (D:List Tm):(List.range D.length).map (fun i=>D.getD i default)=D:=by
 refine List.ext_getElem au fun i h1 h2=>?_
 simp[List.getD,h2]
theorem UG {bs:List Nat} {n ck:Nat} (h:Ll bs n ck) {i j:Nat} (hi:i < n) (hj:j < n) (e:bs.getD i 0=bs.getD j 0):i=j:=by
 by_cases h1:i < j
 ·have:=h.2.1 i j h1 hj;omega
 by_cases h2:j < i
 ·have:=h.2.1 j i h2 hi;omega
 omega
theorem UH (D:List Tm) (i:Nat) (h:i < D.length):(br D).getD i (.any,.any)=(.int .i64 (D.getD i default).id,.int .i64 (D.getD i default).due):=by
 simp[br,List.getD,h]
def Kc (m:Nat) (mb:Bk):WT:={ now:=m,rows:=List.replicate 65 [],mb:=mb }
theorem UI (m:Nat) (mb:Bk) (i:Nat):(Kc m mb).row i=[]:=by
 unfold WT.row Kc
 simp only[List.getD,List.getElem?_replicate]
 split<;>rfl
def nO (m:Int):List AV:=.int .i64 m::(List.replicate 65 .nils++[.mp 1])
theorem UJ (m:Int) (j:Nat) (h:j < 65):(nO m)[j + 1]?=some .nils:=by
 unfold nO
 rw[List.getElem?_cons_succ,List.getElem?_append_left (by simpa using h),List.getElem?_replicate,if_pos h]
theorem UK (m:Int):(nO m).length=67:=by simp[nO]
theorem Xkl (m:Int):(nO m).getD 0 .any=.int .i64 m:=rfl
theorem UL (m:Int):(nO m).getD 66 .any=.mp 1:=rfl
theorem To.vU {p:List Nat} {s:St} {m:Int} (h0:Qc s.h s.n 0=.cells (nO m)) (hf:∀ j,Qc s.h (s.n + j) (s.n + j)=.free) (hn:2≤s.n):∀ j,j≤65→∃ h cs,To p s ⟨s.t,h,s.n + j⟩∧Qc h (s.n + j) 0=.cells cs∧cs.length=67∧(∀ i,i < 67→cs.getD i .any=if 1≤i∧i≤j then .sl 2 (s.n + (i - 1)) 0 0 0 else (nO m).getD i .any)∧(∀ i,i < j→Qc h (s.n + j) (s.n + i)=.cells [])∧(∀ b,b≠0→b < s.n→Qc h (s.n + j) b=Qc s.h s.n b)∧∀ k,j≤k→Qc h (s.n + k) (s.n + k)=.free
 | 0,_=>⟨s.h,nO m,To.refl _ _,h0,UK m,fun i hi=>by rw[if_neg af],fun i hi=>by omega,fun b _ _=>rfl,fun k _=>hf k⟩
 | j + 1,hj=>by
  obtain ⟨h,cs,g1,g2,g3,g4,g5,g6,g7⟩:=To.vU (p:=p) h0 hf hn j af
  have hcj:cs[j + 1]?=some .nils:=by
   have:=g4 (j + 1) af
   rw[if_neg af]at this
   have hn:=UJ m j af
   have e1:(nO m).getD (j + 1) .any=.nils:=by simp[List.getD,hn]
   rw[e1]at this
   have hl:j + 1 < cs.length:=by omega
   simpa [List.getD,hl] using this
  refine ⟨(0,.cells (cs.set (j + 1) (.sl 2 (s.n + j) 0 0 0)))::(s.n + j,.cells [])::h,cs.set (j + 1) (.sl 2 (s.n + j) 0 0 0),g1.trans (To.kU (s:=⟨s.t,h,s.n + j⟩) g2 hcj (g7 j (Nat.le_refl j))),?_,by simp[g3],fun i hi=>?_,fun i hi=>?_,fun b hb dO=>?_,fun k hk=>?_⟩
  ·rw[Qd,if_pos rfl]
  ·have bu:∀ v,(cs.set (j + 1) v).getD i .any=if i=j + 1 then v else cs.getD i .any:=fun v=>by
    simp only[List.getD,List.getElem?_set]
    by_cases e:j + 1=i
    ·subst e;rw[if_pos rfl,if_pos af,if_pos rfl];rfl
    ·rw[if_neg e,if_neg fun q=>e q.symm]
   rw[bu,g4 i hi]
   by_cases e:i=j + 1
   ·subst e;rw[if_pos rfl,if_pos af];rfl
   ·rw[if_neg e]
    by_cases e2:1≤i∧i≤j
    ·rw[if_pos e2,if_pos af]
    ·rw[if_neg e2,if_neg af]
  ·rw[Qd,if_neg af,Qd]
   by_cases e:i=j
   ·subst e;rw[if_pos rfl]
   ·rw[if_neg af,show s.n + (j + 1)=s.n + j + 1 by omega,Kz _ _ _ af]
    exact g5 i af
  ·rw[Qd,if_neg fun e=>hb e.symm,Qd,if_neg af,show s.n + (j + 1)=s.n + j + 1 by omega,Kz _ _ _ af]
   exact g6 b hb dO
  ·rw[Qd,if_neg af,Qd,if_neg af]
   exact g7 k af
def kN (N b:Nat):Nat:=if 2≤b∧b < 67 then N + (b - 2) else b
theorem To.nils {p:List Nat} {s:St} {m:Nat} {mb:Bk} {t':List (Nat × AV)} (h0:Qc s.h s.n 0=.cells (nO m)) (hf:∀ j,Qc s.h (s.n + j) (s.n + j)=.free) (hn:2≤s.n) (h1:Qc s.h s.n 1=mb) (eJ:bG 2 mb) (hp:∀ b,b ∈ p→b < 2) (ht:Qu (kN s.n) 67 s.t t'):To p s ⟨t',(Kc m mb).h,67⟩:=by
 obtain ⟨h,cs,g1,g2,g3,g4,g5,g6,g7⟩:=To.vU (p:=p) h0 hf af 65 (Nat.le_refl _)
 have hw:(Kc m mb).wf:=⟨by simp[Kc],eJ⟩
 refine g1.trans (To.wh (ex:=[]) hw (kN s.n) (fun b hb=>⟨by unfold kN;rw[if_neg (by have:=hp b hb;omega)],by have:=hp b hb;omega⟩) af (fun b b' hb bJ e=>?_) ?_ ?_ (fun i hi=>?_) ht trivial (fun q hq=>by cases hq))
 ·unfold kN at e
  (repeat' split at e)<;>omega
 ·show Qc h (s.n + 65) (kN s.n 0)=_
  rw[show kN s.n 0=0 by unfold kN;rw[if_neg af],g2]
  congr 1
  refine Hn (by rw[Ys,g3,WT.len hw]) fun j hj=>?_
  rw[g3]at hj
  rw[g4 j hj,Kq]
  rcases WT.fJ hw j hj with rfl|rfl|⟨i,hi,rfl⟩
  ·rw[if_neg af,WT.ig,Xkl];simp[aD,Kc]
  ·rw[if_neg af,WT.eB hw,UL];simp[aD,kN]
  ·rw[if_pos af,WT.fI hw hi,UI]
   simp only[aD,kN,List.length_nil]
   rw[if_pos af]
   congr 1
   omega
 ·show Qc h (s.n + 65) (kN s.n 1)=_
  rw[show kN s.n 1=1 by unfold kN;rw[if_neg af],g6 1 af af,h1]
  exact (Be (fun b hb=>by unfold kN;rw[if_neg af]) eJ).symm
 ·show Qc h (s.n + 65) (kN s.n (2 + i))=_
  rw[UI]
  unfold kN
  rw[if_pos af,show 2 + i - 2=i by omega]
  exact g5 i hi
theorem Xkj (cs vs:List AV) (off j:Nat) (h:off≤cs.length):(Yu cs off vs).getD j .any=if j < off then cs.getD j .any else if j < off + vs.length then vs.getD (j - off) .any else cs.getD j .any:=by
 unfold Yu
 simp only[List.getD,List.append_assoc,List.getElem?_append,List.length_take]
 by_cases h1:j < off
 ·rw[if_pos af,if_pos h1,List.getElem?_take_of_lt h1]
 ·rw[if_neg af,if_neg h1,show min off cs.length=off by omega]
  by_cases h2:j < off + vs.length
  ·rw[if_pos af,if_pos h2]
  ·rw[if_neg af,if_neg h2,List.getElem?_drop]
   congr 2;omega
theorem Yb5 {T:WT} (hT:T.wf) (m:Int):(Yu (T.cells.set 0 (.int .i64 m)) 1 [.nils,.nils,.nils,.nils,.nils,.nils,.nils,.nils,.nils,.nils,.nils,.nils,.nils,.nils,.nils,.nils,.nils,.nils,.nils,.nils,.nils,.nils,.nils,.nils,.nils,.nils,.nils,.nils,.nils,.nils,.nils,.nils,.nils,.nils,.nils,.nils,.nils,.nils,.nils,.nils,.nils,.nils,.nils,.nils,.nils,.nils,.nils,.nils,.nils,.nils,.nils,.nils,.nils,.nils,.nils,.nils,.nils,.nils,.nils,.nils,.nils,.nils,.nils,.nils]).set 65 .nils=nO m:=by
 have hl:=WT.len hT
 have e:([.nils,.nils,.nils,.nils,.nils,.nils,.nils,.nils,.nils,.nils,.nils,.nils,.nils,.nils,.nils,.nils,.nils,.nils,.nils,.nils,.nils,.nils,.nils,.nils,.nils,.nils,.nils,.nils,.nils,.nils,.nils,.nils,.nils,.nils,.nils,.nils,.nils,.nils,.nils,.nils,.nils,.nils,.nils,.nils,.nils,.nils,.nils,.nils,.nils,.nils,.nils,.nils,.nils,.nils,.nils,.nils,.nils,.nils,.nils,.nils,.nils,.nils,.nils,.nils]:List AV)=List.replicate 64 .nils:=rfl
 rw[e]
 have hlen:(Yu (T.cells.set 0 (.int .i64 m)) 1 (List.replicate 64 .nils)).length=67:=by simp[Yu,hl]
 refine Hn (by rw[List.length_set,hlen,UK]) fun j hj=>?_
 rw[List.length_set,hlen]at hj
 have bu:∀ (l:List AV) (i:Nat) (v:AV),i < l.length→(l.set i v).getD j .any=if j=i then v else l.getD j .any:=fun l i v hi=>by
  simp only[List.getD,List.getElem?_set]
  by_cases e:i=j
  ·subst e;rw[if_pos rfl,if_pos hi,if_pos rfl];rfl
  ·rw[if_neg e,if_neg fun q=>e q.symm]
 rw[bu _ _ _ af,Xkj _ _ _ _ (by simp[hl])]
 rcases WT.fJ hT j hj with rfl|rfl|⟨i,hi,rfl⟩
 ·rw[if_neg af,if_pos af,bu _ _ _ af,if_pos rfl];rfl
 ·rw[if_neg af,if_neg af,if_neg au,bu _ _ _ af,if_neg af,WT.eB hT];rfl
 ·have hn:=UJ m i hi
  have e1:(nO m).getD (i + 1) .any=.nils:=by simp[List.getD,hn]
  rw[e1]
  by_cases e2:i + 1=65
  ·rw[if_pos e2]
  ·rw[if_neg e2,if_neg af,if_pos (by rw[List.length_replicate];omega)]
   simp only[List.getD,List.getElem?_replicate]
   rw[if_pos af];rfl
def WT.yw (D:List Tm) (m:Nat) (T':WT):Prop:=∃ l:List Tm,l.Perm D∧T'={ now:=m,rows:=l.foldl (Xe m) (List.replicate 65 []),mb:=.aE (br D) false }
set_option maxRecDepth 20000 in
theorem Xs7 (gl:Nat→AV) (T:WT) (D:List Tm) (dn:Bool) (hlen:T.rows.length=65) (eJ:T.mb=.aE (br D) dn) (hD:D.length≤100000) (ra:∀ t ∈ D,t.due≤1099511627776) (to:Nat) (il:to≤1099511627776) :
  GQ Tryz.prog gl 138 [.ptr 0 0,.int .i64 to] T.h 67 [0,1] (fun T':WT=>T'.yw D (Km D to)) (fun _=>.aX []) WT.h:=by
 have hT:=uA hlen eJ
 refine MX.gq (of_decide_eq_true rfl) (fun q hq=>Xf (((WT.HL hT).mem q hq).2)) au fun c aY hg=>?_
 conv in aO _ _=>cbv
 have aH:=fun n b hb=>WT.gV hT n (b:=b) hb
 have kK:=WT.eB hT
 have aV:=WT.len hT
 have nI:T.h=(0,.cells T.cells)::(1,.aE (br D) dn)::Kd T.rows 0:=by rw[← eJ];rfl
 rw[nI]
 refine Qh @kK ?_
 refine RZ ke rfl rfl (by exact Qr @aH) fun bs ck dN=>?_
 rw[qZ]at dN
 refine Qf ?_
 refine Yi (fun y:List Nat × Nat=>y.1.Nodup∧(∀ i ∈ y.1,i < D.length)∧y.2≤to∧(∀ i ∈ y.1,y.2≤(D.getD i default).due)∧(y.2=to∨∃ t ∈ D,t.due=y.2))
  (fun y=>⟨[(0,.ptr 0 0),(4,.int .i64 y.2),(14,.ptr 67 0)],(67,.iter 1 ck (y.1.map fun i=>bs.getD i 0))::(0,.cells T.cells)::(1,.bl (br D) bs ck)::Kd T.rows 0,68⟩) (fun y=>D.length - y.1.length) MX.mixed [0,1] aY
  ⟨([],to),⟨by simp,by simp,by simp,by simp,.inl rfl⟩,To.c6 (by exact Qs) fun b=>?_⟩ fun y hy=>?_
 ·simp only[List.map_nil,Qd]
  (repeat' split)<;>first|rfl|omega
 obtain ⟨S,m⟩:=y
 obtain ⟨qB,sR,Eb,Hv,Hw⟩:=hy
 dsimp only at qB sR Eb Hv Hw ⊢
 have Nd:=Ea _ S qB sR
 refine Qf ?_
 refine R0 (bi:=67) (b:=1) (ck:=ck) (seen:=S.map fun i=>bs.getD i 0) (bs:=bs) (kvs:=br D) rfl (by exact Qs) (by exact Qs) (fun bO=>?_) (fun i cJ BS=>?_)
 ·rw[qZ]at bO
  have nP:∀ i,i < D.length→i ∈ S:=fun i hi=>by
   obtain ⟨j,hj,e⟩:=List.mem_map.1 (bO i hi)
   rw[UG dN hi (sR j hj) e.symm];exact hj
  have hm:m=Km D to:=Xfl Eb (fun t ht=>by
   obtain ⟨i,hi,rfl⟩:=List.mem_iff_getElem.1 ht
   have:=Hv i (nP i hi)
   simpa [List.getD,hi] using this) Hw
  subst hm
  clear nP bO Hv qB sR Nd Hw
  have DK:Km D to≤1099511627776:=by omega
  generalize Km D to=m at *
  refine Qf ?_
  (refine Qa (fun h1=>?_) (fun h1=>?_)<;>try exact h1.elim)
  refine Qh (An @aH @kK) ?_
  rw[Yb5 hT m]
  refine nn aY (s':=⟨[(0,.ptr 0 0),(36,.mp 1)],(Kc m (.aE (br D) false)).h,67⟩) (To.trans (To.Gv (b:=1) rfl) (To.nils (m:=m) (mb:=.aE (br D) false) rfl (fun j=>?_) (by show 2≤68;omega) rfl (Uv 2 D) au ?_)) ?_
  ·show Qc ((1,_)::(0,_)::(0,_)::(0,_)::(67,_)::(0,_)::(1,_)::Kd T.rows 0) (68 + j) (68 + j)=.free
   (repeat rw[Qd,if_neg af])
   rw[aH _ _ af,if_neg af]
  ·have h1:kN 68 0=0:=rfl
   have h2:kN 68 1=1:=rfl
   exact Qr (An @h1 (An @h2 @UL))
  have hwe:(Kc m (.aE (br D) false)).wf:=⟨by simp[Kc],Uv 2 D⟩
  have hHe:=WT.aH hwe
  refine RZ ke (b:=1) (kvs:=br D) (dn:=false) rfl rfl (by exact Qr @hHe) fun fQ gD Ec=>?_
  rw[qZ]at Ec
  refine Qf ?_
  refine Yi (fun S:List Nat=>S.Nodup∧(∀ i ∈ S,i < D.length))
   (fun S=>⟨[(0,.ptr 0 0),(37,.ptr 67 0)],(67,.iter 1 gD (S.map fun i=>fQ.getD i 0))::WT.h { now:=m,rows:=(S.map fun i=>D.getD i default).foldl (Xe m) (List.replicate 65 []),mb:=.bl (br D) fQ gD },68⟩) (fun S=>D.length - S.length) MX.mixed [0,1] aY
   ⟨[],⟨by simp,by simp⟩,To.c6 (by exact Qs) fun b=>?_⟩ fun S hy=>?_
  ·show Qc ((67,.iter 1 gD [])::WT.h { now:=m,rows:=List.replicate 65 [],mb:=.bl (br D) fQ gD }) 68 b=Qc ((67,.iter 1 gD [])::(1,.bl (br D) fQ gD)::(Kc m (.aE (br D) false)).h) 68 b
   have yx:WT.cells { now:=m,rows:=List.replicate 65 [],mb:=.bl (br D) fQ gD }=(Kc m (.aE (br D) false)).cells:=rfl
   have q1:(Kc m (.aE (br D) false)).rows.length=65:=by simp[Kc]
   have q2:(List.replicate 65 ([]:List Tm)).length=65:=by simp
   simp only[Qd,WT.bA,yx]
   (repeat' split)<;>first|rfl|omega
  obtain ⟨qB,sR⟩:=hy
  have Nd:=Ea _ S qB sR
  have pV:RI (fun _ _=>True) ((S.map fun i=>D.getD i default).foldl (Xe m) (List.replicate 65 [])) ((S.map fun i=>D.getD i default).reverse++[]):=RI.jG _ ⟨by simp,by simp,fun _ _ _ _=>trivial⟩ fun _ _=>trivial
  have Hx:WT.wf { now:=m,rows:=(S.map fun i=>D.getD i default).foldl (Xe m) (List.replicate 65 []),mb:=.bl (br D) fQ gD }:=⟨pV.len,Uv 2 D⟩
  have yy:∀ n,Qc (WT.h { now:=m,rows:=(S.map fun i=>D.getD i default).foldl (Xe m) (List.replicate 65 []),mb:=.bl (br D) fQ gD }) n 1=.bl (br D) fQ gD:=fun n=>rfl
  have Nf:∀ i,i < 65→(WT.row { now:=m,rows:=(S.map fun i=>D.getD i default).foldl (Xe m) (List.replicate 65 []),mb:=.bl (br D) fQ gD } i).length≤1000000:=fun i hi=>by
   have:=pV.ef hi
   simp only[List.append_nil,List.length_reverse,List.length_map]at this
   exact Nat.le_trans this af
  have eX:∀ j,Xe m ((S.map fun i=>D.getD i default).foldl (Xe m) (List.replicate 65 [])) (D.getD j default)=((S++[j]).map fun i=>D.getD i default).foldl (Xe m) (List.replicate 65 []):=fun j=>by simp
  have bE:(∀ i,i < D.length→i ∈ S)→WT.yw D m { now:=m,rows:=(S.map fun i=>D.getD i default).foldl (Xe m) (List.replicate 65 []),mb:=.aE (br D) false }:=fun h=>⟨_,by
   have:=(Xo8 qB sR h).map fun i=>D.getD i default
   rwa [Xmw]at this,rfl⟩
  have hHS:=WT.aH Hx
  have hnS:WT.now { now:=m,rows:=(S.map fun i=>D.getD i default).foldl (Xe m) (List.replicate 65 []),mb:=.bl (br D) fQ gD }=m:=rfl
  have ei:∀ x,WT.lay { now:=m,rows:=(S.map fun i=>D.getD i default).foldl (Xe m) (List.replicate 65 []),mb:=.bl (br D) fQ gD } x={ now:=m,rows:=Xe m ((S.map fun i=>D.getD i default).foldl (Xe m) (List.replicate 65 [])) x,mb:=.bl (br D) fQ gD }:=fun x=>rfl
  have og:∀ b,Qc (WT.h { now:=m,rows:=(S.map fun i=>D.getD i default).foldl (Xe m) (List.replicate 65 []),mb:=.aE (br D) false }) 68 b=Qc ((1,.aE (br D) false)::WT.h { now:=m,rows:=(S.map fun i=>D.getD i default).foldl (Xe m) (List.replicate 65 []),mb:=.bl (br D) fQ gD }) 68 b:=fun b=>by
   have yx:WT.cells { now:=m,rows:=(S.map fun i=>D.getD i default).foldl (Xe m) (List.replicate 65 []),mb:=.aE (br D) false }=WT.cells { now:=m,rows:=(S.map fun i=>D.getD i default).foldl (Xe m) (List.replicate 65 []),mb:=.bl (br D) fQ gD }:=rfl
   simp only[Qd,WT.bA,yx]
   (repeat' split)<;>first|rfl|omega
  generalize hTS:({ now:=m,rows:=(S.map fun i=>D.getD i default).foldl (Xe m) (List.replicate 65 []),mb:=.bl (br D) fQ gD }:WT)=TS at *
  refine Qf ?_
  refine R0 (bi:=67) (b:=1) (ck:=gD) (seen:=S.map fun i=>fQ.getD i 0) (bs:=fQ) (kvs:=br D) rfl (by exact Qs) (by exact Qr @yy) (fun bO=>?_) (fun i cJ BS=>?_)
  ·rw[qZ]at bO
   have nP:∀ i,i < D.length→i ∈ S:=fun i hi=>by
    obtain ⟨j,hj,e⟩:=List.mem_map.1 (bO i hi)
    rw[UG Ec hi (sR j hj) e.symm];exact hj
   refine Qf ?_
   (refine Qa (fun h2=>?_) (fun h2=>?_)<;>try exact h2.elim)
   refine Qf ?_
   refine ⟨_,bE nP,To.trans (To.Gv (b:=1) (kvs:=br D) (bs:=fQ) (ck:=gD) ?_) (To.trans (To.c6 (t':=[(0,.aX [])]) (h':=(67,.iter 1 gD (S.map fun i=>fQ.getD i 0))::WT.h { now:=m,rows:=(S.map fun i=>D.getD i default).foldl (Xe m) (List.replicate 65 []),mb:=.aE (br D) false }) (n':=68) ?_ fun b=>?_) (To.dz (ex:=[(67,.iter 1 gD (S.map fun i=>fQ.getD i 0))]) ⟨pV.len,Uv 2 D⟩ au au (by simp[Qu,Qe,ai,look,aD,ay])))⟩
   ·show Qc ((67,.iter 1 gD (S.map fun i=>fQ.getD i 0))::TS.h) 68 1=_
    rw[Qd,if_neg af,yy]
   ·exact Qs
   ·have:=og b
    show Qc ((67,.iter 1 gD (S.map fun i=>fQ.getD i 0))::WT.h { now:=m,rows:=(S.map fun i=>D.getD i default).foldl (Xe m) (List.replicate 65 []),mb:=.aE (br D) false }) 68 b=Qc ((1,.aE (br D) false)::(67,.iter 1 gD (S.map fun i=>fQ.getD i 0))::TS.h) 68 b
    rw[Qd,Qd,Qd,this,Qd]
    (repeat' split)<;>first|rfl|omega
  ·rw[qZ]at cJ
   have Ng:i ∉ S:=fun h=>BS (List.mem_map.2 ⟨i,h,rfl⟩)
   have aW:=UH D i cJ
   have Hy:D.getD i default ∈ D:=by simp[List.getD,cJ]
   have Gh:=ra _ Hy
   have Nh:=eX i
   generalize hx:D.getD i default=x at *
   have cN:=yq c.gl TS Hx x (by rw[hnS];exact DK) Gh (Nf _ (vR _ _))
   have rh:(S++[i]).Nodup:=by
    rw[List.nodup_append]
    exact ⟨qB,by simp,fun a ha b hb e=>by
     obtain rfl:=List.mem_singleton.1 hb
     exact Ng (e ▸ ha)⟩
   have rj:∀ j ∈ S++[i],j < D.length:=fun j hj=>by
    rcases List.mem_append.1 hj with h|h
    ·exact sR j h
    ·obtain rfl:=List.mem_singleton.1 h;exact cJ
   have rk:=Ea _ _ rh rj
   rw[List.length_append]at rk
   simp only[List.length_cons,List.length_nil]at rk
   refine Qh @aW ?_
   (refine Qa (fun h2=>?_) (fun h2=>?_)<;>try exact h2.elim)
   refine Qf ?_
   refine R3 (bi:=67) (b:=1) (ck:=gD) (i:=i) (seen:=S.map fun i=>fQ.getD i 0) (bs:=fQ) (kvs:=br D) rfl (by exact Qs) (by exact Qr @yy) (by rw[qZ];exact cJ) ?_
   refine Qh @aW ?_
   refine qY cN Hx (fun _ _=>WT.eg Hx x) aY (by simp[ik]) [(0,.ptr 0 0),(37,.ptr 67 0),(43,.ptr 0 0),(46,.agg [.int .i64 x.id,.int .i64 x.due])] [(67,.iter 1 gD ((S++[i]).map fun i=>fQ.getD i 0))] 68 (To.c6 (by exact Qs) fun b=>?_) (by simp[nk,ik]) ?_ (by simp[Qe,ai]) fun _ _=>?_
   ·show Qc ((67,.iter 1 gD ((S++[i]).map fun i=>fQ.getD i 0))::TS.h) 68 b=Qc ((67,.iter 1 gD ((S.map fun i=>fQ.getD i 0)++[fQ.getD i 0]))::(67,.iter 1 gD (S.map fun i=>fQ.getD i 0))::TS.h) 68 b
    simp only[Qd,List.map_append,List.map_cons,List.map_nil];(repeat' split)<;>rfl
   ·exact Qs
   ·refine Qf ?_
    refine ⟨S++[i],⟨rh,rj⟩,?_,?_⟩
    ·rw[ei,Nh]
     exact To.c6 (by exact Qs) fun b=>rfl
    ·rw[List.length_append];simp only[List.length_cons,List.length_nil];omega
 ·rw[qZ]at cJ
  have Ng:i ∉ S:=fun h=>BS (List.mem_map.2 ⟨i,h,rfl⟩)
  have aW:=UH D i cJ
  have Hy:D.getD i default ∈ D:=by simp[List.getD,cJ]
  have Gh:=ra _ Hy
  have rh:(S++[i]).Nodup:=by
   rw[List.nodup_append]
   exact ⟨qB,by simp,fun a ha b hb e=>by
    obtain rfl:=List.mem_singleton.1 hb
    exact Ng (e ▸ ha)⟩
  have rj:∀ j ∈ S++[i],j < D.length:=fun j hj=>by
   rcases List.mem_append.1 hj with h|h
   ·exact sR j h
   ·obtain rfl:=List.mem_singleton.1 h;exact cJ
  have rk:=Ea _ _ rh rj
  rw[List.length_append]at rk
  simp only[List.length_cons,List.length_nil]at rk
  refine Qh @aW ?_
  (refine Qa (fun h1=>?_) (fun h1=>?_)<;>try exact h1.elim)
  refine Qf ?_
  refine R3 (bi:=67) (b:=1) (ck:=ck) (i:=i) (seen:=S.map fun i=>bs.getD i 0) (bs:=bs) (kvs:=br D) rfl (by exact Qs) (by exact Qs) (by rw[qZ];exact cJ) ?_
  have xS:min (m:Int) ((D.getD i default).due:Int)=((min m (D.getD i default).due:Nat):Int):=by omega
  refine Qh @aW ?_
  refine ⟨(S++[i],min m (D.getD i default).due),⟨rh,rj,by dsimp only;omega,fun j hj=>?_,?_⟩,To.c6 (by exact Qr @xS) fun b=>?_,?_⟩
  ·dsimp only at hj ⊢
   rcases List.mem_append.1 hj with h|h
   ·have:=Hv j h;omega
   ·obtain rfl:=List.mem_singleton.1 h;omega
  ·dsimp only
   by_cases h:m≤(D.getD i default).due
   ·rw[Nat.min_eq_left h];exact Hw
   ·exact .inr ⟨_,Hy,by omega⟩
  ·simp only[Qd,List.map_append,List.map_cons,List.map_nil]
   (repeat' split)<;>first|rfl|omega
  ·dsimp only;rw[List.length_append];simp only[List.length_cons,List.length_nil];omega
def Jf (r' r:List (List Tm)):Prop:=r'.length=r.length∧∀ i,(r'.getD i []).Perm (r.getD i [])
theorem Jf.refl (r:List (List Tm)):Jf r r:=⟨rfl,fun _=>List.Perm.refl _⟩
theorem Jf.trans {a b c:List (List Tm)} (h:Jf a b) (k:Jf b c):Jf a c:=⟨h.1.trans k.1,fun i=>(h.2 i).trans (k.2 i)⟩
theorem Ni (r:List (List Tm)) (i:Nat) (l:List Tm) (j:Nat):(r.set i l).getD j []=if j=i∧i < r.length then l else r.getD j []:=by
 by_cases hi:i < r.length
 ·rw[Ba r hi]
  by_cases e:j=i<;>simp[e,hi]
 ·rw[List.set_eq_of_length_le af,if_neg af]
theorem Jf.set {r' r:List (List Tm)} (h:Jf r' r) (i:Nat) {l' l:List Tm} (hl:l'.Perm l):Jf (r'.set i l') (r.set i l):=by
 refine ⟨by simp[h.1],fun j=>?_⟩
 rw[Ni,Ni,h.1]
 split
 ·exact hl
 ·exact h.2 j
theorem Jf.lay {r' r:List (List Tm)} (h:Jf r' r) (n:Nat) (t:Tm):Jf (Xe n r' t) (Xe n r t):=h.set _ ((h.2 _).append_right _)
theorem Xrg (n:Nat) (r:List (List Tm)) (a b:Tm):Jf (Xe n (Xe n r a) b) (Xe n (Xe n r b) a):=by
 refine ⟨by simp[Xe],fun j=>?_⟩
 unfold Xe
 simp only[Ni,List.length_set]
 by_cases ha:Yv n a.due < r.length<;>by_cases hb:Yv n b.due < r.length<;>by_cases h1:j=Yv n a.due<;>by_cases h2:j=Yv n b.due<;>by_cases h3:Yv n a.due=Yv n b.due<;>simp_all<;>first|omega|(exact List.Perm.append_left _ (List.Perm.swap _ _ _))|(rw[if_neg (by omega),if_neg (by omega)])|skip
theorem Jf.jG {n:Nat} {l' l:List Tm} (hl:l'.Perm l):∀ {r' r:List (List Tm)},Jf r' r→Jf (l'.foldl (Xe n) r') (l.foldl (Xe n) r):=by
 induction hl with
 | nil=>exact fun h=>h
 | cons x h ih=>exact fun hr=>ih (hr.lay n x)
 | swap x y l =>
  intro r' r hr
  have Nj:∀ (l:List Tm) {r' r:List (List Tm)},Jf r' r→Jf (l.foldl (Xe n) r') (l.foldl (Xe n) r):=fun l=>by
   induction l with
   | nil=>exact fun h=>h
   | cons t l ih=>exact fun h=>ih (h.lay n t)
  exact Nj l (((hr.lay n y).lay n x).trans (Xrg n r y x))
 | trans h1 h2 MZ M0=>exact fun hr=>(MZ hr).trans (M0 (Jf.refl _))
theorem Jf.cb {r' r:List (List Tm)} (h:Jf r' r) (n i:Nat):Jf (Proofs.YtogckmommodmhaaGreatDoor.cb n r' i) (Proofs.YtogckmommodmhaaGreatDoor.cb n r i):=Jf.jG (h.2 i) (h.set i (List.Perm.refl _))
theorem Jf.step {n:Nat}:∀ (f L:Nat) {r' r:List (List Tm)},Jf r' r→Jf (Jl n f L r') (Jl n f L r)
 | 0,_,_,_,h=>h
 | f + 1,L,r',r,h=>by
  unfold Jl
  split
  ·exact Jf.step f (L + 1) (h.cb _ _)
  ·exact h
theorem UM:∀ {r' r:List (List Tm)},r'.length=r.length→(∀ i,(r'.getD i []).Perm (r.getD i []))→r'.flatten.Perm r.flatten
 | [],[],_,_=>List.Perm.refl _
 | a::r',b::r,hl,h=>by
  have h0:=h 0
  simp only[List.getD_cons_zero]at h0
  simp only[List.flatten_cons]
  exact h0.append (UM (by simpa using hl) fun i=>by have:=h (i + 1);simpa only[List.getD_cons_succ] using this)
theorem RI.iC {P:Nat→Nat→Prop} {r' r:List (List Tm)} {D:List Tm} (h:RI P r D) (hs:Jf r' r):RI P r' D :=
 ⟨hs.1.trans h.len,(UM hs.1 hs.2).trans h.perm,fun i hi t ht=>h.pl i hi t ((hs.2 i).mem_iff.1 ht)⟩
theorem UN:∀ (l D:List Tm),kg l D=D.filter fun t=>l.all fun x=>!(t.id == x.id)
 | [],D=>(List.filter_eq_self.2 fun t _=>by simp).symm
 | a::l,D=>by
  have e:kg (a::l) D=kg l (Yd a.id D):=rfl
  rw[e,UN l]
  unfold Yd
  rw[List.filter_filter]
  refine List.filter_congr fun t _=>?_
  rw[List.all_cons,Bool.and_comm]
def Xv (n:Nat) (D:List Tm):List Tm:=D.filter fun t=>!(t.due == n)
theorem Xuj {D:List Tm} (hd:D.Pairwise fun a b=>a.id≠b.id) {a b:Tm} (ha:a ∈ D) (hb:b ∈ D) (e:a.id=b.id):a=b:=by
 induction D with
 | nil=>cases ha
 | cons x D ih =>
  have h1:=List.Pairwise.of_cons hd
  have h2:=fun y hy=>List.rel_of_pairwise_cons hd (a':=y) hy
  rcases List.mem_cons.1 ha with h3|h3<;>rcases List.mem_cons.1 hb with h4|h4
  ·rw[h3,h4]
  ·rw[h3]at e;exact absurd e (h2 b h4)
  ·rw[h4]at e;exact absurd e.symm (h2 a h3)
  ·exact ih h1 h3 h4
theorem Xq0 {D l:List Tm} {n:Nat} (hd:D.Pairwise fun a b=>a.id≠b.id) (hl:l.Perm (D.filter fun t=>t.due == n)):kg l D=Xv n D:=by
 rw[UN]
 unfold Xv
 refine List.filter_congr fun t ht=>?_
 have bH:∀ x,x ∈ l ↔ x ∈ D∧x.due=n:=fun x=>by rw[hl.mem_iff,List.mem_filter];simp
 cases h:t.due == n with
 | true =>
  have aI:t ∈ l:=(bH t).2 ⟨ht,by simpa using h⟩
  simp only[Bool.not_true]
  rw[← Bool.not_eq_true,List.all_eq_true]
  intro bO
  have:=bO t aI
  simp at this
 | false =>
  simp only[Bool.not_false]
  rw[List.all_eq_true]
  intro x hx
  obtain ⟨h1,h2⟩:=(bH x).1 hx
  have:t.id≠x.id:=fun e=>by
   have:=Xuj hd ht h1 e
   subst this
   simp[h2]at h
  simpa using this
def lQ:Nat→Nat→List (List Tm)→List Tm→Nat→List (List Tm) × List Tm
 | 0,_,rows,D,_=>(rows,D)
 | f + 1,n,rows,D,to =>
  if n=to then (rows.set (n % 16) [],Xv n D)
  else if 4096 < to - n∨(Xv n D).length=0 then lQ f (Km (Xv n D) to) ((Xv n D).foldl (Xe (Km (Xv n D) to)) (List.replicate 65 [])) (Xv n D) to
  else lQ f (n + 1) (Jl (n + 1) 4 1 (rows.set (n % 16) [])) (Xv n D) to
structure WG (n:Nat) (rows:List (List Tm)) (D:List Tm):Prop where
 ri:RI (Pl n) rows D
 lo:∀ t ∈ D,n≤t.due
 hi:∀ t ∈ D,t.due≤1099511627776
 dM:D.Pairwise fun a b=>a.id≠b.id
 len:D.length≤100000
theorem vV {n:Nat} {D:List Tm}:(Xv n D).Sublist D:=List.filter_sublist
theorem yz {n:Nat} {D:List Tm} (h:∀ t ∈ D,n≤t.due):∀ t ∈ Xv n D,n < t.due:=fun t ht=>by
 obtain ⟨h1,h2⟩:=List.mem_filter.1 ht
 have:=h t h1
 have:t.due≠n:=by simpa using h2
 omega
theorem WG.nQ {n:Nat} {rows:List (List Tm)} {D:List Tm} (h:WG n rows D):RI (Pl n) (rows.set (n % 16) []) (Xv n D):=h.ri.nF.2
theorem WG.Ed {n m:Nat} {rows:List (List Tm)} {D:List Tm} (h:WG n rows D) (hm:∀ t ∈ Xv n D,m≤t.due):WG m ((Xv n D).foldl (Xe m) (List.replicate 65 [])) (Xv n D) :=
 ⟨RI.DY (List.Perm.refl _) hm,hm,fun t ht=>h.hi t (vV.subset ht),h.dM.sublist vV,Nat.le_trans vV.length_le h.len⟩
theorem WG.tick {n:Nat} {rows:List (List Tm)} {D:List Tm} (h:WG n rows D):WG (n + 1) (Jl (n + 1) 4 1 (rows.set (n % 16) [])) (Xv n D) :=
 ⟨h.nQ.tick (yz h.lo),yz h.lo,fun t ht=>h.hi t (vV.subset ht),h.dM.sublist vV,Nat.le_trans vV.length_le h.len⟩
theorem Nk (D0:List Tm) (n m:Nat) (eM:n < m) (h:∀ t ∈ D0,n < t.due→m≤t.due):Xv n (D0.filter fun t=>decide (n≤t.due))=D0.filter fun t=>decide (m≤t.due):=by
 unfold Xv
 rw[List.filter_filter]
 refine List.filter_congr fun t ht=>?_
 have:=h t ht
 rw[Bool.eq_iff_iff]
 simp only[Bool.and_eq_true,Bool.not_eq_true',beq_eq_false_iff_ne,ne_eq,decide_eq_true_eq]
 omega
theorem Nl (D0:List Tm):∀ (f n:Nat) (rows:List (List Tm)) (D:List Tm) (to:Nat),n≤to→to - n < f→WG n rows D→D=D0.filter (fun t=>decide (n≤t.due))→(lQ f n rows D to).2=D0.filter (fun t=>decide (to < t.due))∧RI (Pl to) (lQ f n rows D to).1 (lQ f n rows D to).2
 | 0,_,_,_,_,_,h,_,_=>by omega
 | f + 1,n,rows,D,to,hn,hf,hw,hD=>by
  unfold lQ
  have bB:∀ m,n < m→(∀ t ∈ Xv n D,m≤t.due)→Xv n D=D0.filter fun t=>decide (m≤t.due):=fun m hm hk=>by
   rw[hD]
   refine Nk D0 n m hm fun t ht hlt=>?_
   refine hk t ?_
   rw[hD]
   exact List.mem_filter.2 ⟨List.mem_filter.2 ⟨ht,by simpa using Nat.le_of_lt hlt⟩,by simp;omega⟩
  split
  ·rename_i e
   subst e
   exact ⟨bB (n + 1) af (yz hw.lo),hw.nQ⟩
  ·rename_i bX
   split
   ·obtain ⟨h1,h2,h3⟩:=D9 (Xv n D) to
    have hlt:n < Km (Xv n D) to:=by
     rcases h3 with h3|⟨t,ht,h3⟩
     ·omega
     ·have:=yz hw.lo t ht;omega
    exact Nl D0 f _ _ _ to h1 af (hw.Ed h2) (bB _ hlt h2)
   ·exact Nl D0 f (n + 1) _ _ to af af hw.tick (bB (n + 1) af (yz hw.lo))
theorem Hz:∀ (f f' n:Nat) (rows:List (List Tm)) (D:List Tm) (to:Nat),n≤to→(∀ t ∈ D,n≤t.due)→to - n < f→to - n < f'→lQ f n rows D to=lQ f' n rows D to
 | 0,_,_,_,_,_,_,_,h,_=>by omega
 | _ + 1,0,_,_,_,_,_,_,_,h=>by omega
 | f + 1,f' + 1,n,rows,D,to,hn,fq,h1,h2=>by
  unfold lQ
  split
  ·rfl
  ·rename_i bX
   have hk:=yz fq
   split
   ·obtain ⟨g1,g2,g3⟩:=D9 (Xv n D) to
    have hlt:n < Km (Xv n D) to:=by
     rcases g3 with g3|⟨t,ht,g3⟩
     ·omega
     ·have:=hk t ht;omega
    exact Hz f f' _ _ _ to g1 g2 af af
   ·exact Hz f f' (n + 1) _ _ to af hk af af
theorem To.Nn {p:List Nat} {s:St} {T:WT} {i k:Nat} {l:List Tm} {t':List (Nat × AV)} {x:Bk} (hT:T.wf) (hi:i < 65) (hl:T.row i=l) (h0:Qc s.h s.n 0=.cells (T.cells.set (i + 1) .nils)) (hs:∀ b,b≠0→b < 67→Qc s.h s.n b=Qc T.h 67 b)
  (hf:s.fs.H s.n=.free) (hn:68≤s.n) (hk:look s.t k=.sl 2 (2 + i) 0 l.length l.length) (hp:∀ b,b ∈ p→b < 2) (hx:Qc s.h s.n 67=x) (yA:bG 0 x) (ht:Qu (Kr i s.n) 68 ((k,.isl l.length (a6 l))::s.t) t'):To p s ⟨t',(67,x)::(T.put i []).h,68⟩:=by
 have ft:=hT.len
 have aV:=WT.len hT
 refine To.trans (To.kU (b:=0) (j:=i + 1) (es:=2) h0 (by rw[List.getElem?_set_self af]) hf) ?_
 rw[List.set_set]
 have cn:Qc s.h (s.n + 1) (2 + i)=.cells (a6 l):=by
  rw[Kz _ _ _ af,hs _ af af,WT.bA,if_neg af,if_neg af,if_pos af,show 2 + i - 2=i by omega,hl]
 refine To.trans (To.fC (b:=2 + i) (i:=k) (cs:=a6 l) (es:=2) (off:=0) (n:=l.length) (k:=l.length) ?_ hk) ?_
 ·show Qc ((0,_)::(s.n,_)::s.h) (s.n + 1) (2 + i)=_
  rw[Qd,if_neg af,Qd,if_neg af];exact cn
 have eW:((a6 l).drop 0).take (l.length * 2)=a6 l:=by rw[List.drop_zero,List.take_of_length_le (by rw[Zp];omega)]
 rw[eW]
 have No:Kr i s.n 67=67:=by unfold Kr;rw[if_neg af]
 refine To.put (ex:=[(67,x)]) hT hi (N:=s.n) af af (fun b hb=>by have:=hp b hb;omega) hn ?_ ?_ ?_ (fun j hj bX=>?_) ht ⟨⟨by show 67 < 68;omega,nH (Nat.zero_le _) yA,?_,trivial⟩,trivial⟩ (fun q hq=>by obtain rfl:=List.mem_singleton.1 hq;exact Nat.le_refl 67)
 ·show Qc ((2 + i,_)::(0,_)::(s.n,_)::s.h) (s.n + 1) 0=_
  rw[Qd,if_neg af,Qd,if_pos rfl];rfl
 ·show Qc ((2 + i,_)::(0,_)::(s.n,_)::s.h) (s.n + 1) 1=_
  rw[Qd,if_neg af,Qd,if_neg af,Qd,if_neg af,Kz _ _ _ af,hs 1 af af,WT.bA,if_neg af,if_pos rfl]
 ·show Qc ((2 + i,_)::(0,_)::(s.n,_)::s.h) (s.n + 1) s.n=_
  rw[Qd,if_neg af,Qd,if_neg af,Qd,if_pos rfl];rfl
 ·show Qc ((2 + i,_)::(0,_)::(s.n,_)::s.h) (s.n + 1) (2 + j)=_
  rw[Qd,if_neg af,Qd,if_neg af,Qd,if_neg af,Kz _ _ _ af,hs _ af af,WT.bA,if_neg af,if_neg af,if_pos af,show 2 + j - 2=j by omega]
 ·show Qc ((2 + i,_)::(0,_)::(s.n,_)::s.h) (s.n + 1) (Kr i s.n 67)=_
  rw[No,Qd,if_neg af,Qd,if_neg af,Qd,if_neg af,Kz _ _ _ af,hx]
  exact (Be (fun b hb=>by omega) yA).symm
theorem WT.l0 (T:WT) (n:Nat):Qc T.h n 0=.cells T.cells:=by rw[WT.bA,if_pos rfl]
theorem WT.l1 (T:WT) (n:Nat):Qc T.h n 1=T.mb:=by rw[WT.bA,if_neg (by omega),if_pos rfl]
theorem pW (n:Nat) (l:List Int):ai n (Qp l)=True:=by simp[Xj,Qp,Qe]
theorem UO (D:List Tm) (n:Nat):(bf D n).length≤D.length:=by
 unfold bf
 rw[List.length_map,(Wq _).length_eq]
 exact List.length_filter_le _ _
theorem Yd0 {T':WT} {n:Nat} {rows:List (List Tm)} {mb:Bk} (h1:T'.now=n) (h2:Jf T'.rows rows) (h3:T'.mb=mb):T'.iC { now:=n,rows:=rows,mb:=mb }:=⟨h1,h3,h2.1,h2.2⟩
set_option maxRecDepth 20000 in
theorem Xz9 (gl:Nat→AV) (T:WT) (jX:List (List Tm)) (D0:List Tm) (dn:Bool) (UP:Jf T.rows jX) (eJ:T.mb=.aE (br D0) dn) (hW:WG T.now jX D0) (to:Nat) (il:T.now≤to) (Np:to≤1099511627776) :
  GQ Tryz.prog gl 98 [.ptr 0 0,.int .i64 to] T.h 67 [0,1] (fun T':WT=>T'.iC { now:=to,rows:=(lQ (to - T.now + 1) T.now jX D0 to).1,mb:=.aE (br (lQ (to - T.now + 1) T.now jX D0 to).2) false })
   (fun _=>.aX [.isl (bf D0 (to + 1)).length (Qp (bf D0 (to + 1))),.int .i64 0]) WT.h:=by
 have hlen:T.rows.length=65:=UP.1.trans hW.ri.len
 have hT:=uA hlen eJ
 refine MW.gq (of_decide_eq_true rfl) (fun q hq=>Xf (((WT.HL hT).mem q hq).2)) au fun c aY hg=>?_
 conv in aO _ _=>cbv
 have aH:=WT.aH hT
 have oP:=WT.l0 T
 have g0:=WT.ig T
 have aV:=WT.len hT
 generalize bE:lQ (to - T.now + 1) T.now jX D0 to=fin
 refine Qf ?_
 (refine Qa (fun h1=>?_) (fun h1=>?_)<;>try exact h1.elim)
 refine Qh (An @oP @g0) ?_
 (refine Qa (fun h2=>?_) (fun h2=>?_)<;>try exact h2.elim)
 ·omega
 refine Qf ?_
 refine xA 6 1 rfl (by exact Qr @aH) ?_
 unfold St.named
 refine Yi (fun y:WT × List (List Tm) × List Tm × Bool=>Jf y.1.rows y.2.1∧y.1.mb=.aE (br y.2.2.1) y.2.2.2∧WG y.1.now y.2.1 y.2.2.1∧y.1.now≤to∧T.now≤y.1.now∧lQ (to - y.1.now + 1) y.1.now y.2.1 y.2.2.1 to=fin∧y.2.2.1=D0.filter fun t=>decide (y.1.now≤t.due))
  (fun y=>⟨[(0,.ptr 0 0),(1,.int .i64 to),(6,.sl 1 67 0 (bf D0 y.1.now).length (bf D0 y.1.now).length)],(67,.cells (Qp (bf D0 y.1.now)))::y.1.h,68⟩) (fun y=>to - y.1.now) MW.mixed [0,1] aY
  ⟨(T,jX,D0,dn),⟨UP,eJ,hW,il,Nat.le_refl _,bE,(List.filter_eq_self.2 fun t ht=>by simpa using hW.lo t ht).symm⟩,?_⟩ fun y hy=>?_
 ·have e:bf D0 T.now=[]:=Xls D0 _ hW.lo
  dsimp only
  rw[e]
  exact To.c6 (by exact Qs) fun b=>rfl
 obtain ⟨T1,rows,D,dn1⟩:=y
 obtain ⟨iA,nD,di,hnt,nL,qE,pX⟩:=hy
 dsimp only at iA nD di hnt nL qE pX ⊢
 have nR:T1.rows.length=65:=iA.1.trans di.ri.len
 have bj:=uA nR nD
 have Ee:=WT.aH bj
 have uC:=WT.l0 T1
 have yB:=WT.ig T1
 have iX:=WT.len bj
 have oM:T1.now % 16 < 16:=Nat.mod_lt _ af
 have hm:Int.tmod (T1.now:Int) 16=((T1.now % 16:Nat):Int):=oL _ 16
 have aW:=WT.fI bj (i:=T1.now % 16) af
 have uD:=di.ri.iC iA
 have rm:(T1.row (T1.now % 16)).Perm (D.filter fun t=>t.due == T1.now):=(uD.nF).1
 have dY:=Xq0 di.dM rm
 have ft:(T1.row (T1.now % 16)).length≤100000:=Nat.le_trans (uD.ef af) di.len
 have ax:=Xki D0 T1.now (T1.row (T1.now % 16)) (by
  rw[pX,List.filter_filter]at rm
  refine rm.trans (List.Perm.of_eq (List.filter_congr fun t _=>?_))
  rw[Bool.eq_iff_iff];simp;omega)
 have vi:=UO D0 T1.now
 have o1a:=UO D0 (T1.now + 1)
 have hDl:=hW.len
 have vr:WT.put T1 (T1.now % 16) []={ T1 with rows:=T1.rows.set (T1.now % 16) [] }:=rfl
 have IQ:Jf (T1.rows.set (T1.now % 16) []) (rows.set (T1.now % 16) []):=iA.set _ (List.Perm.refl _)
 have Ef:(uq (ids (T1.row (T1.now % 16)))).length=(T1.row (T1.now % 16)).length:=by simp[uq,ids]
 generalize AU:T1.row (T1.now % 16)=l at *
 have rn:=Xxh c.gl (T1.put (T1.now % 16) []) D l dn1 (by simp[WT.put,nR]) nD di.dM af
 rw[dY]at rn
 have hwp:=WT.dc bj (T1.now % 16) []
 rw[show T1.now % 16 + 1=1 + T1.now % 16 by omega]at aW
 refine Qh (An @Ee (An @uC (An @yB (An @hm @aW)))) ?_
 have yC:Xv T1.now D=D0.filter fun t=>decide (T1.now + 1≤t.due):=by
  rw[pX];exact Nk D0 _ _ af fun t _ h=>h
 have fG:WT.wf { T1 with rows:=T1.rows.set (T1.now % 16) [],mb:=.aE (br (Xv T1.now D)) false }:=⟨by simp[nR],Uv 2 _⟩
 have Eg:bf D0 T1.now++uq (ids l)=bf D0 (T1.now + 1):=ax.symm
 have yD:(bf D0 T1.now).length + l.length=(bf D0 (T1.now + 1)).length:=by rw[← Eg,List.length_append,Ef]
 have Nq:=Ye (bf D0 T1.now)
 have Nr:=Ye (uq (ids l))
 refine qY (W:=fun _:Unit=>{ T1 with rows:=T1.rows.set (T1.now % 16) [],mb:=.aE (br (Xv T1.now D)) false }) rn hwp (fun _ _=>fG) aY (by simp[ik]) [(0,.ptr 0 0),(1,.int .i64 to),(36,.sl 1 67 0 (bf D0 T1.now).length (bf D0 T1.now).length),(37,.ptr 0 0),(38,.isl l.length (a6 l))] [(67,.cells (Qp (bf D0 T1.now)))] 68
  (To.Nn (k:=38) bj (i:=T1.now % 16) af AU ?_ (fun b h1 h2=>?_) ?_ (by show 68≤68;omega) ?_ au rfl ?_ ?_) (by simp[nk,ik,C3,Qp,cQ]) ?_ (by simp[Qe,pW]) fun _ _=>?_
 ·show Qc ((0,_)::_) 68 0=_
  rw[Qd,if_pos rfl,show 1 + T1.now % 16=T1.now % 16 + 1 by omega]
 ·show Qc ((0,_)::(67,_)::T1.h) 68 b=_
  rw[Qd,if_neg af,Qd,if_neg af,WT.bA,WT.bA]
  (repeat' split)<;>first|rfl|omega
 ·exact Qr @Ee
 ·exact Qs
 ·exact Xj.2 fun x hx=>by
   obtain ⟨n,_,rfl⟩:=List.mem_map.1 hx
   simp[Qe]
 ·have h1:=uu (Kr (T1.now % 16) 68) l
  have lh:=pR 68 l
  have bI:Kr (T1.now % 16) 68 67=67:=by unfold Kr;rw[if_neg af]
  exact Qr (An @h1 (An @lh @bI))
 ·exact Qs
 clear rn
 generalize jn:({ T1 with rows:=T1.rows.set (T1.now % 16) [],mb:=.aE (br (Xv T1.now D)) false }:WT)=T2 at *
 have rq:=WT.aH fG
 have Eh:=WT.l0 T2
 have Ei:=WT.l1 T2
 have iE:T2.mb=.aE (br (Xv T1.now D)) false:=by rw[← jn]
 rw[iE]at Ei
 have oE:T2.now=T1.now:=by rw[← jn]
 have Bi:Jf T2.rows (rows.set (T1.now % 16) []):=by rw[← jn];exact IQ
 have Ns:=WT.ig T2
 rw[oE]at Ns
 have Nt:=WT.eB fG
 have oQ:=WT.len fG
 have iO:=qZ (Xv T1.now D)
 refine Qf ?_
 refine Zm (An @rq (An @Nq (An @Nr (An @Eg (An @yD (An @Ef (An @Eh @Ns))))))) ?_
 have kz:∀ {f:Nat},to - T1.now + 1=f + 1→lQ (f + 1) T1.now rows D to=fin:=fun e=>by rw[← e];exact qE
 have gY:=kz (f:=to - T1.now) rfl
 unfold lQ at gY
 (refine Qa (fun h3=>?_) (fun h3=>?_)<;>try exact h3.elim)
 ·have e:T1.now=to:=by omega
  rw[if_pos e]at gY
  subst e
  refine Qf ?_
  refine ⟨T2,?_,(To.Lr (b:=68) (i:=0) rfl rfl).trans (To.dz (ex:=[(68,.dead),(68,.cells (Qp (bf D0 (T1.now + 1)))),(67,.dead),(67,.cells (Qp (bf D0 T1.now)))]) fG au au ?_)⟩
  ·rw[← gY];exact Yd0 oE Bi iE
  ·have bg:((Qp (bf D0 (T1.now + 1))).drop 0).take ((bf D0 (T1.now + 1)).length * 1)=Qp (bf D0 (T1.now + 1)):=by
    rw[List.drop_zero,List.take_of_length_le (by rw[Nat.mul_one];simp[Qp])]
   rw[bg]
   have h2:∀ q,ay id (Qp q)=Qp q:=fun q=>Jp _
   exact Qr (An @pW @h2)
 have bX:¬ T1.now=to:=by omega
 rw[if_neg bX]at gY
 have Ej:=Nat.le_trans (vV (n:=T1.now) (D:=D)).length_le di.len
 have HA:∀ t ∈ Xv T1.now D,t.due≤1099511627776:=fun t ht=>di.hi t (vV.subset ht)
 have yE:=yz di.lo
 refine Qh (An @Eh (An @Ns (An @Ei (An @Nt @iO)))) ?_
 (refine Qa (fun h4=>?_) (fun h4=>?_)<;>try exact h4.elim)
 ·rw[if_pos (by rcases h4 with h4|h4<;>omega)]at gY
  have Ek:=Xs7 c.gl T2 (Xv T1.now D) false (by rw[← jn];simp[nR]) iE Ej HA to Np
  obtain ⟨q1,q2,q3⟩:=D9 (Xv T1.now D) to
  have hlt:T1.now < Km (Xv T1.now D) to:=by
   rcases q3 with q3|⟨t,ht,q3⟩
   ·omega
   ·have:=yE t ht;omega
  have ss:=di.Ed q2
  have vH:=Xk7 D0 (n:=T1.now + 1) (m:=Km (Xv T1.now D) to) af fun t ht h=>q2 t (by rw[yC];exact List.mem_filter.2 ⟨ht,by simpa using h⟩)
  have hD3:Xv T1.now D=D0.filter fun t=>decide (Km (Xv T1.now D) to≤t.due):=by
   have:=Nk D0 T1.now (Km (Xv T1.now D) to) hlt fun t ht h=>q2 t (by rw[yC];exact List.mem_filter.2 ⟨ht,decide_eq_true h⟩)
   rw[← pX]at this;exact this
  have DQ:∀ x:WT,x.yw (Xv T1.now D) (Km (Xv T1.now D) to)→x.wf:=fun x ⟨l,_,e⟩=>by
   subst e
   exact ⟨(RI.jG (P:=fun _ _=>True) (now:=Km (Xv T1.now D) to) l (rows:=List.replicate 65 []) (D:=[]) ⟨by simp,by simp,fun _ _ _ _=>trivial⟩ fun _ _=>trivial).len,Uv 2 _⟩
  rw[Hz _ (to - Km (Xv T1.now D) to + 1) _ _ _ to q1 q2 af af]at gY
  refine Qf ?_
  refine qY (W:=fun x:WT=>x) Ek fG DQ aY (by simp[ik]) [(0,.ptr 0 0),(1,.int .i64 to),(6,.sl 1 68 0 (bf D0 (T1.now + 1)).length (bf D0 (T1.now + 1)).length),(63,.ptr 0 0),(64,.int .i64 to)] [(68,.cells (Qp (bf D0 (T1.now + 1))))] 69 (To.c6 (by exact Qs) fun b=>?_) (by simp[nk,ik,C3,Qp,cQ]) ?_ (by simp[Qe,ai]) fun T3 h3=>?_
  ·show Qc ((68,_)::T2.h) 69 b=Qc ((68,.cells (Qp (bf D0 (T1.now + 1))))::(67,.dead)::(67,.cells (Qp (bf D0 T1.now)))::T2.h) 69 b
   simp only[Qd]
   (repeat' split)<;>first|rfl|omega|(subst_vars;rw[rq 69 67 (by omega)];rfl)
  ·exact Qs
  obtain ⟨l3,p3,rfl⟩:=h3
  refine Qf ?_
  refine ⟨({ now:=Km (Xv T1.now D) to,rows:=l3.foldl (Xe (Km (Xv T1.now D) to)) (List.replicate 65 []),mb:=.aE (br (Xv T1.now D)) false },(Xv T1.now D).foldl (Xe (Km (Xv T1.now D) to)) (List.replicate 65 []),Xv T1.now D,false),⟨Jf.jG p3 (Jf.refl _),rfl,ss,q1,by dsimp only;omega,gY,hD3⟩,?_,by dsimp only;omega⟩
  dsimp only
  rw[vH]
  refine To.M7 (ex:=[(67,.cells (Qp (bf D0 (T1.now + 1))))]) [(67,68)] (DQ _ ⟨l3,p3,rfl⟩) au af rfl rfl (fun b hb=>?_) ?_ ?_ au
  ·show Qc ((68,_)::WT.h _) 69 b=_
   rw[Qd,if_neg af,WT.bA,WT.bA]
   (repeat' split)<;>first|rfl|omega
  ·exact Qs
  ·exact Qr @pW
 ·rw[if_neg af]at gY
  have fb:T2.rows.flatten.Perm (Xv T1.now D):=(di.nQ.iC Bi).perm
  have eX:=Xvx c.gl T2 (Xv T1.now D) fG fb Ej HA af
  have UQ:T2.uB.wf:=⟨((di.nQ.iC Bi).tick yE |>.len:(Jl (T1.now + 1) 4 1 T2.rows).length=65) |> fun h=>by unfold WT.uB;rw[oE];exact h,fG.mb⟩
  have hWt:=di.tick
  rw[Hz _ (to - (T1.now + 1) + 1) _ _ _ to af yE af af]at gY
  refine Qf ?_
  refine qY (W:=fun _:Unit=>T2.uB) eX fG (fun _ _=>UQ) aY (by simp[ik]) [(0,.ptr 0 0),(1,.int .i64 to),(6,.sl 1 68 0 (bf D0 (T1.now + 1)).length (bf D0 (T1.now + 1)).length),(66,.ptr 0 0)] [(68,.cells (Qp (bf D0 (T1.now + 1))))] 69 (To.c6 (by exact Qs) fun b=>?_) (by simp[nk,ik,C3,Qp,cQ]) ?_ (by simp[Qe,ai]) fun _ _=>?_
  ·show Qc ((68,_)::T2.h) 69 b=Qc ((68,.cells (Qp (bf D0 (T1.now + 1))))::(67,.dead)::(67,.cells (Qp (bf D0 T1.now)))::T2.h) 69 b
   simp only[Qd]
   (repeat' split)<;>first|rfl|omega|(subst_vars;rw[rq 69 67 (by omega)];rfl)
  ·exact Qs
  refine Qf ?_
  have ec:T2.uB.now=T1.now + 1:=by unfold WT.uB;rw[oE]
  refine ⟨(T2.uB,Jl (T1.now + 1) 4 1 (rows.set (T1.now % 16) []),Xv T1.now D,false),⟨?_,iE,by dsimp only;rw[ec];exact hWt,by dsimp only;omega,by dsimp only;omega,by dsimp only;rw[ec];exact gY,by dsimp only;rw[ec];exact yC⟩,?_,by dsimp only;omega⟩
  ·show Jf (Jl (T2.now + 1) 4 1 T2.rows) _
   rw[oE];exact Bi.step 4 1
  dsimp only
  rw[ec]
  refine To.M7 (ex:=[(67,.cells (Qp (bf D0 (T1.now + 1))))]) [(67,68)] UQ au af rfl rfl (fun b hb=>?_) ?_ ?_ au
  ·show Qc ((68,_)::WT.h _) 69 b=_
   rw[Qd,if_neg af,WT.bA,WT.bA]
   (repeat' split)<;>first|rfl|omega
  ·exact Qs
  ·exact Qr @pW
theorem Qwk (gl:Nat→AV) (T:WT) (D:List Tm) (dn:Bool) (hlen:T.rows.length=65) (eJ:T.mb=.aE (br D) dn) (x:Int) (hx:jV D x=false) :
  GQ Tryz.prog gl 164 [.ptr 0 0,.int .i64 x] T.h 67 [0,1] (fun _:Unit=>True) (fun _=>.int .i64 7) (fun _=>T.h):=by
 have hT:=uA hlen eJ
 refine Hm.gq (of_decide_eq_true rfl) (fun q hq=>Xf (((WT.HL hT).mem q hq).2)) au fun c aY hg=>?_
 conv in aO _ _=>cbv
 have aH:=WT.aH hT
 have oP:=WT.l0 T
 have eA:=WT.l1 T
 rw[eJ]at eA
 have kK:=WT.eB hT
 have aV:=WT.len hT
 have dZ:=Bg D
 have dW:=pU x
 have yr:=Hp D x
 have eK:=Hq D x
 refine Qh @aH ?_
 (refine Qa (fun h1=>?_) (fun h1=>?_)<;>try exact h1.elim)
 refine Qh (An @aH (An @oP @kK)) ?_
 ((first|refine oz ke ?_|refine Ut ke ?_);(have aB:=@aH;have aQ:=@eA;have a8:=@dZ;have bU:=@dW;have cI:=@eK;have dC:=@yr;have fc:=@hx;refine XG ?_;clear aB aQ a8 bU cI dC fc;((try (repeat' with_reducible refine And.intro ?_ ?_));(try any_goals (first|refine zm ?_|exact CL|fail)))))
 (refine Qa (fun h2=>?_) (fun h2=>?_)<;>try exact h2.elim)
 refine Qf ?_
 refine ⟨(),To.dz (ex:=[(67,.cells [.int .i64 x])]) hT au au (by simp[Qu,Qe,look,aD])⟩
theorem Xzq (gl:Nat→AV) (T:WT) (hT:T.wf):GQ Tryz.prog gl 63 [.ptr 0 0] T.h 67 (List.range 67) (fun _:Unit=>True) (fun _=>.int .i64 T.now) (fun _=>T.h):=by
 refine Yay.gq (of_decide_eq_true rfl) (fun q hq=>Xf (((WT.HL hT).mem q hq).2)) (fun b hb=>List.mem_range.1 hb) fun c aY hg=>?_
 conv in aO _ _=>cbv
 have oP:=WT.l0 T
 have g0:=WT.ig T
 have aV:=WT.len hT
 refine Qf ?_
 (refine Qa (fun h1=>?_) (fun h1=>?_)<;>try exact h1.elim)
 refine Qh (An @oP @g0) ?_
 exact ⟨(),To.dz (ex:=[]) hT (fun b hb=>List.mem_range.1 hb) au (by simp[Qu,Qe,look,aD])⟩
def Uf (D:List Tm) (x:Int) (d:Nat):List Tm:=Yd x D++[⟨x,d⟩]
def WT.arm (T:WT) (D:List Tm) (x:Int) (d:Nat):WT:={ T with rows:=Xe T.now (T.rows.map (Yd x)) ⟨x,d⟩,mb:=.aE (br (Uf D x d)) false }
theorem Xec {D:List Tm} {x:Int} (h:jV D x=false):∀ t ∈ D,t.id≠x:=fun t ht e=>by
 unfold jV at h
 rw[List.any_eq_false]at h
 exact h t ht (by simpa using e)
theorem UR {D:List Tm} {x:Int}:∀ t ∈ Yd x D,t.id≠x:=fun t ht=>by simpa using (List.mem_filter.1 ht).2
theorem Qyc {rows:List (List Tm)} {x:Int} (h:∀ t ∈ rows.flatten,t.id≠x):rows.map (Yd x)=rows:=by
 refine (List.map_congr_left fun r hr=>?_).trans (List.map_id rows)
 exact Hr fun t ht=>h t (List.mem_flatten.2 ⟨r,hr,ht⟩)
def WT.pY (T:WT) (D:List Tm) (dn:Bool) (x:Int):WT:={ T with rows:=T.rows.map (Yd x),mb:=.aE (br (Yd x D)) (!jV D x && dn) }
def Nu (D:List Tm) (x:Int):Int:=bif jV D x then 0 else 7
theorem Xaw (gl:Nat→AV) (T:WT) (D:List Tm) (dn:Bool) (hlen:T.rows.length=65) (eJ:T.mb=.aE (br D) dn) (hd:D.Pairwise fun a b=>a.id≠b.id) (hp:T.rows.flatten.Perm D) (ft:∀ i,(T.row i).length≤1000000) (x:Int) :
  GQ Tryz.prog gl 164 [.ptr 0 0,.int .i64 x] T.h 67 [0,1] (fun _:Unit=>True) (fun _=>.int .i64 (Nu D x)) (fun _=>(T.pY D dn x).h):=by
 cases hx:jV D x with
 | true =>
  have:=Xde gl T D dn hlen eJ hd ft x hx
  unfold WT.pY Nu
  rw[hx];exact this
 | false =>
  have:=Qwk gl T D dn hlen eJ x hx
  have b9:=Xec hx
  have e:T.pY D dn x=T:=by
   unfold WT.pY
   rw[hx,Qyc fun t ht=>b9 t (hp.mem_iff.1 ht),Hr b9]
   show ({ T with mb:=.aE (br D) dn }:WT)=T
   rw[← eJ]
  rw[e]
  unfold Nu
  rw[hx];exact this
theorem Xya (gl:Nat→AV) (T:WT) (D:List Tm) (dn:Bool) (hlen:T.rows.length=65) (eJ:T.mb=.aE (br D) dn) (hd:D.Pairwise fun a b=>a.id≠b.id) (hp:T.rows.flatten.Perm D) (hD:D.length≤100000) (hn:T.now≤1099511627776) (x:Int) (d:Nat) (hdm:d≤1099511627776) (dV:jV D x=true∨D.length < 400) :
  GQ Tryz.prog gl 131 [.ptr 0 0,.int .i64 x,.int .i64 d] T.h 67 [0,1] (fun _:Unit=>True) (fun _=>.int .i64 0) (fun _=>(T.arm D x (max d T.now)).h):=by
 have hT:=uA hlen eJ
 refine MV.gq (of_decide_eq_true rfl) (fun q hq=>Xf (((WT.HL hT).mem q hq).2)) au fun c aY hg=>?_
 conv in aO _ _=>cbv
 have aH:=WT.aH hT
 have oP:=WT.l0 T
 have eA:=WT.l1 T
 rw[eJ]at eA
 have kK:=WT.eB hT
 have aV:=WT.len hT
 have dZ:=Bg D
 have dW:=pU x
 have yr:=Hp D x
 have eK:=Hq D x
 have iO:=qZ D
 have US:RI (fun _ _=>True) T.rows D:=RI.T hlen hp
 have ft:∀ i,(T.row i).length≤1000000:=fun i=>by
  by_cases hi:i < 65
  ·exact Nat.le_trans (US.ef hi) af
  ·have:T.row i=[]:=by unfold WT.row;simp[List.getD,hlen,show 65≤i by omega]
   rw[this];simp
 refine Qf ?_
 (refine Qa (fun h1=>?_) (fun h1=>?_)<;>try exact h1.elim)
 refine Qf ?_
 (refine Qa (fun h2=>?_) (fun h2=>?_)<;>try exact h2.elim)
 ·omega
 refine Qh (An @oP @kK) ?_
 ((first|refine oz ke ?_|refine Ut ke ?_);(have aB:=@eA;have aQ:=@dZ;have a8:=@dW;have bU:=@eK;have cI:=@yr;have dC:=@oP;have fc:=@kK;have jk:=@iO;refine XG ?_;clear aB aQ a8 bU cI dC fc jk;((try (repeat' with_reducible refine And.intro ?_ ?_));(try any_goals (first|refine zm ?_|exact CL|fail)))))
 (refine Qa (fun h3=>?_) (fun h3=>?_)<;>try exact h3.elim)
 ·rcases dV with h|h
  ·rw[h]at h3;simp at h3
  ·omega
 refine Qf ?_
 have fH:=Xaw c.gl T D dn hlen eJ hd hp ft x
 have mL:(T.pY D dn x).wf:=⟨by simp[WT.pY,hlen],Uv 2 _⟩
 have nD:(T.pY D dn x).mb=.aE (br (Yd x D)) (!jV D x && dn):=rfl
 have sS:(T.pY D dn x).now=T.now:=rfl
 have uD:=US.filter fun t=>!(t.id == x)
 have oN:∀ i,i < 65→((T.pY D dn x).row i).length≤1000000:=fun i hi=>by
  have:=uD.ef hi
  have h2:=List.length_filter_le (fun t:Tm=>!(t.id == x)) D
  exact Nat.le_trans this af
 have gN:∀ m,WT.lay { T.pY D dn x with mb:=.aE (br (Uf D x m)) false } ⟨x,m⟩=T.arm D x m:=fun m=>rfl
 refine qY (W:=fun _:Unit=>T.pY D dn x) fH hT (fun _ _=>mL) aY (by simp[ik]) [(36,.ptr 0 0),(37,.int .i64 x),(0,.ptr 0 0),(1,.int .i64 x),(2,.int .i64 d)] [] 67 (To.c6 (by exact Qs) fun b=>rfl) au ?_ (by simp[Qe]) fun _ _=>?_
 ·exact Qs
 generalize bj:T.pY D dn x=T1 at *
 have uC:=WT.l0 T1
 have yF:=WT.l1 T1
 rw[nD]at yF
 have yB:=WT.ig T1
 rw[sS]at yB
 have El:=WT.eB mL
 have iX:=WT.len mL
 have Em:=Bg (Yd x D)
 obtain ⟨M,hM,hMv,lK⟩:∃ M,max d T.now=M∧M≤1099511627776∧((((T.now:Int) > (d:Int))=True∧M=T.now)∨(((T.now:Int) > (d:Int))=False∧M=d)):=⟨_,rfl,by omega,by
  by_cases h:d < T.now
  ·left;exact ⟨eq_true af,by omega⟩
  ·right;exact ⟨eq_false af,by omega⟩⟩
 rw[hM]
 have ki:=Xuq (UR (D:=D) (x:=x)) M
 have ru:=hMv
 rcases lK with ⟨lK,HC⟩|⟨lK,HC⟩
 ·have yB:T1.cells.getD 0 .any=.int .i64 (M:Int):=by rw[yB,HC]
  rw[← HC]at lK
  refine Qh (An @uC (An @yB (An @El @lK))) ?_
  ((first|refine CZ ke ?_|refine C0 ke ?_);(have aB:=@yF;have aQ:=@Em;have a8:=@dW;have bU:=@ki;refine XG ?_;clear aB aQ a8 bU;((try (repeat' with_reducible refine And.intro ?_ ?_));(try any_goals (first|refine zm ?_|exact CL|fail)))))
  have fG:WT.wf { T1 with mb:=.aE (br (Uf D x M)) false }:=⟨mL.len,Uv 2 _⟩
  have ei:=yq c.gl { T1 with mb:=.aE (br (Uf D x M)) false } fG ⟨x,M⟩ (by show T1.now≤_;omega) ru (oN _ (vR _ _))
  rw[gN]at ei
  have En:(T.arm D x M).wf:=⟨by simp[WT.arm,Xe,hlen],Uv 2 _⟩
  refine qY (W:=fun _:Unit=>T.arm D x M) ei fG (fun _ _=>En) aY (by simp[ik]) [(51,.ptr 0 0),(54,.agg [.int .i64 x,.int .i64 (M:Int)])] [] 67 (To.trans (To.gf (b:=1) (kvs:=br (Uf D x M)) (dn:=!jV D x && dn) rfl) (To.c6 (by exact Qs) fun b=>?_)) au ?_ (by simp[Qe,ai]) fun _ _=>?_
  ·have yx:WT.cells { T1 with mb:=.aE (br (Uf D x M)) false }=T1.cells:=rfl
   show Qc (WT.h { T1 with mb:=.aE (br (Uf D x M)) false }) 67 b=Qc ((1,.aE (br (Uf D x M)) false)::(1,_)::T1.h) 67 b
   simp only[Qd,WT.bA,yx]
   (repeat' split)<;>first|rfl|omega
  ·exact Qs
  refine Qf ?_
  exact ⟨(),To.dz (ex:=[]) En au au (by simp[Qu,Qe,look,aD])⟩
 ·subst HC
  refine Qh (An @uC (An @yB (An @El @lK))) ?_
  ((first|refine CZ ke ?_|refine C0 ke ?_);(have aB:=@yF;have aQ:=@Em;have a8:=@dW;have bU:=@ki;refine XG ?_;clear aB aQ a8 bU;((try (repeat' with_reducible refine And.intro ?_ ?_));(try any_goals (first|refine zm ?_|exact CL|fail)))))
  have fG:WT.wf { T1 with mb:=.aE (br (Uf D x M)) false }:=⟨mL.len,Uv 2 _⟩
  have ei:=yq c.gl { T1 with mb:=.aE (br (Uf D x M)) false } fG ⟨x,M⟩ (by show T1.now≤_;omega) ru (oN _ (vR _ _))
  rw[gN]at ei
  have En:(T.arm D x M).wf:=⟨by simp[WT.arm,Xe,hlen],Uv 2 _⟩
  refine qY (W:=fun _:Unit=>T.arm D x M) ei fG (fun _ _=>En) aY (by simp[ik]) [(51,.ptr 0 0),(54,.agg [.int .i64 x,.int .i64 (M:Int)])] [] 67 (To.trans (To.gf (b:=1) (kvs:=br (Uf D x M)) (dn:=!jV D x && dn) rfl) (To.c6 (by exact Qs) fun b=>?_)) au ?_ (by simp[Qe,ai]) fun _ _=>?_
  ·have yx:WT.cells { T1 with mb:=.aE (br (Uf D x M)) false }=T1.cells:=rfl
   show Qc (WT.h { T1 with mb:=.aE (br (Uf D x M)) false }) 67 b=Qc ((1,.aE (br (Uf D x M)) false)::(1,_)::T1.h) 67 b
   simp only[Qd,WT.bA,yx]
   (repeat' split)<;>first|rfl|omega
  ·exact Qs
  refine Qf ?_
  exact ⟨(),To.dz (ex:=[]) En au au (by simp[Qu,Qe,look,aD])⟩
theorem Xfg (gl:Nat→AV) (T:WT) (hT:T.wf) (x d:Int) (hd:d < 0∨1099511627776 < d):GQ Tryz.prog gl 131 [.ptr 0 0,.int .i64 x,.int .i64 d] T.h 67 [0,1] (fun _:Unit=>True) (fun _=>.int .i64 2) (fun _=>T.h):=by
 refine MV.gq (of_decide_eq_true rfl) (fun q hq=>Xf (((WT.HL hT).mem q hq).2)) au fun c aY hg=>?_
 conv in aO _ _=>cbv
 refine Qf ?_
 (refine Qa (fun h1=>?_) (fun h1=>?_)<;>try exact h1.elim)
 refine Qf ?_
 (refine Qa (fun h2=>?_) (fun h2=>?_)<;>try exact h2.elim)
 ·refine Qf ?_
  exact ⟨(),To.dz (ex:=[]) hT au au (by simp[Qu,Qe,look,aD])⟩
 ·omega
theorem Xpn (gl:Nat→AV) (T:WT) (D:List Tm) (dn:Bool) (hlen:T.rows.length=65) (eJ:T.mb=.aE (br D) dn) (x d:Int) (hd:0≤d) (hdm:d≤1099511627776) (hx:jV D x=false) (hD:400≤D.length):GQ Tryz.prog gl 131 [.ptr 0 0,.int .i64 x,.int .i64 d] T.h 67 [0,1] (fun _:Unit=>True) (fun _=>.int .i64 6) (fun _=>T.h):=by
 have hT:=uA hlen eJ
 refine MV.gq (of_decide_eq_true rfl) (fun q hq=>Xf (((WT.HL hT).mem q hq).2)) au fun c aY hg=>?_
 conv in aO _ _=>cbv
 have oP:=WT.l0 T
 have eA:=WT.l1 T
 rw[eJ]at eA
 have kK:=WT.eB hT
 have aV:=WT.len hT
 have dZ:=Bg D
 have dW:=pU x
 have yr:=Hp D x
 have eK:=Hq D x
 have iO:=qZ D
 refine Qf ?_
 (refine Qa (fun h1=>?_) (fun h1=>?_)<;>try exact h1.elim)
 refine Qf ?_
 (refine Qa (fun h2=>?_) (fun h2=>?_)<;>try exact h2.elim)
 ·omega
 refine Qh (An @oP @kK) ?_
 ((first|refine oz ke ?_|refine Ut ke ?_);(have aB:=@eA;have aQ:=@dZ;have a8:=@dW;have bU:=@eK;have cI:=@yr;have dC:=@oP;have fc:=@kK;have jk:=@iO;refine XG ?_;clear aB aQ a8 bU cI dC fc jk;((try (repeat' with_reducible refine And.intro ?_ ?_));(try any_goals (first|refine zm ?_|exact CL|fail)))))
 (refine Qa (fun h3=>?_) (fun h3=>?_)<;>try exact h3.elim)
 ·refine Qf ?_
  exact ⟨(),To.dz (ex:=[]) hT au au (by simp[Qu,Qe,look,aD])⟩
 ·rw[hx]at h3;simp at h3;omega
theorem Xfe (gl:Nat→AV) (T:WT) (hT:T.wf) (d:Int) (hd:d < T.now∨1099511627776 < d):GQ Tryz.prog gl 98 [.ptr 0 0,.int .i64 d] T.h 67 [0,1] (fun _:Unit=>True) (fun _=>.aX [.nils,.int .i64 2]) (fun _=>T.h):=by
 refine MW.gq (of_decide_eq_true rfl) (fun q hq=>Xf (((WT.HL hT).mem q hq).2)) au fun c aY hg=>?_
 conv in aO _ _=>cbv
 have oP:=WT.l0 T
 have g0:=WT.ig T
 have aV:=WT.len hT
 refine Qf ?_
 (refine Qa (fun h1=>?_) (fun h1=>?_)<;>try exact h1.elim)
 refine Qh (An @oP @g0) ?_
 (refine Qa (fun h2=>?_) (fun h2=>?_)<;>try exact h2.elim)
 ·refine Qf ?_
  exact ⟨(),To.dz (ex:=[]) hT au au (by simp[Qu,Qe,ai,look,aD,ay])⟩
 ·omega
theorem GQ.mV {P:Program} {gl:Nat→AV} {f:FuncId} {args:List AV} {aI:List (Nat × Bk)} {m:Nat} {p:List Nat} {r:AV} {T2:WT} {Q:WT→Prop} (h:GQ P gl f args aI m p (fun _:Unit=>True) (fun _=>r) (fun _=>T2.h)) (hQ:Q T2):GQ P gl f args aI m p Q (fun _=>r) WT.h :=
 ⟨h.1,fun w vs G X g hR hv=>(h.2 w vs G X g hR hv).mono fun e w' ⟨_,v,g',q1,q2,q3,q4,q5⟩=>⟨T2,v,g',hQ,q2,q3,q4,q5⟩⟩
theorem GQ.wk {P:Program} {gl:Nat→AV} {f:FuncId} {args:List AV} {aI:List (Nat × Bk)} {m:Nat} {p:List Nat} {ι:Type} {Q:ι→Prop} {r r':ι→AV} {ax:ι→List (Nat × Bk)} (h:GQ P gl f args aI m p Q r ax) (hr:∀ x,Wk (r x) (r' x)):GQ P gl f args aI m p Q r' ax :=
 ⟨h.1,fun w vs G X g hR hv=>(h.2 w vs G X g hR hv).mono fun e w' ⟨x,v,g',q1,q2,q3,q4,q5⟩=>⟨x,v,g',q1,q2,q3,q4,hr x _ _ _ _ q5⟩⟩
structure WI (T:WT) (n:Nat) (D:List Tm):Prop where
 now:T.now=n
 mb:∃ dn,T.mb=.aE (br D) dn
 wg:WG n T.rows D
 cap:D.length≤400
 hi:n≤1099511627776
theorem WI.wf {T:WT} {n:Nat} {D:List Tm} (h:WI T n D):T.wf:=by
 obtain ⟨dn,e⟩:=h.mb
 exact uA h.wg.ri.len e
theorem WI.iC {T T':WT} {n:Nat} {D:List Tm} (h:WI T n D) (hs:T'.iC T):WI T' n D :=
 ⟨hs.now.trans h.now,by obtain ⟨dn,e⟩:=h.mb;exact ⟨dn,hs.mb.trans e⟩,⟨h.wg.ri.iC ⟨hs.len,hs.row⟩,h.wg.lo,h.wg.hi,h.wg.dM,h.wg.len⟩,h.cap,h.hi⟩
theorem WI.gO {T:WT} {n:Nat} {D:List Tm} (h:WI T n D) (gl:Nat→AV):GD Tryz.prog gl 63 [.ptr 0 0] T.hb 67 (List.range 67) (.int .i64 n) T.hb :=
 Bf fun T' hs=>by
  have:=Xzq gl T' (h.iC hs).wf
  rw[(h.iC hs).now]at this
  exact this.mV hs
theorem Xtl {r' r:List (List Tm)} (h:Jf r' r) (x:Int):Jf (r'.map (Yd x)) (r.map (Yd x)):=by
 refine ⟨by simp[h.1],fun i=>?_⟩
 have e:∀ l:List (List Tm),(l.map (Yd x)).getD i []=Yd x (l.getD i []):=fun l=>by
  simp only[List.getD,List.getElem?_map]
  cases l[i]?<;>rfl
 rw[e,e]
 exact (h.2 i).filter _
theorem Xu4 (x:Int) (D:List Tm):(Yd x D).length≤D.length:=List.length_filter_le _ _
def yG (n:Nat) (D:List Tm) (x d:Int):Int × List Tm:=if d < 0∨1099511627776 < d then (2,D) else if jV D x=false∧400≤D.length then (6,D) else (0,Uf D x (max d.toNat n))
theorem Xrc (D:List Tm) (x:Int) (d:Nat):((⟨x,d⟩:Tm)::Yd x D).Perm (Uf D x d):=(List.perm_append_singleton _ _).symm
theorem WI.ry {T:WT} {n:Nat} {D:List Tm} (h:WI T n D) (gl:Nat→AV) (x d:Int):∃ T',WI T' n (yG n D x d).2∧GD Tryz.prog gl 131 [.ptr 0 0,.int .i64 x,.int .i64 d] T.hb 67 [0,1] (.int .i64 (yG n D x d).1) T'.hb:=by
 unfold yG
 by_cases h1:d < 0∨1099511627776 < d
 ·rw[if_pos h1]
  exact ⟨T,h,Bf fun T' hs=>(Xfg gl T' (h.iC hs).wf x d h1).mV hs⟩
 rw[if_neg h1]
 obtain ⟨dn,e⟩:=h.mb
 obtain ⟨k,rfl⟩:∃ k:Nat,d=k:=⟨d.toNat,by omega⟩
 by_cases h2:jV D x=false∧400≤D.length
 ·rw[if_pos h2]
  exact ⟨T,h,Bf fun T' hs=>(Xpn gl T' D dn (h.iC hs).wg.ri.len (hs.mb.trans e) x k af af h2.1 h2.2).mV hs⟩
 rw[if_neg h2]
 rw[show (k:Int).toNat=k by omega]
 have dV:jV D x=true∨D.length < 400:=by
  cases hx:jV D x with
  | true=>exact .inl rfl
  | false=>exact .inr (by simp[hx]at h2;omega)
 have cq:=h.wg.ri.filter fun t=>!(t.id == x)
 have ei:RI (Pl n) (Xe T.now (T.rows.map (Yd x)) ⟨x,max k n⟩) (Uf D x (max k n)):=by
  rw[h.now]
  exact (RI.lay (now:=n) (t:=⟨x,max k n⟩) cq (MR (by show n≤max k n;omega))).iB (Xrc D x _)
 have bH:∀ t ∈ Uf D x (max k n),t ∈ Yd x D∨t=⟨x,max k n⟩:=fun t ht=>by
  rcases List.mem_append.1 ht with h|h
  ·exact .inl h
  ·exact .inr (List.mem_singleton.1 h)
 have hlen:(Uf D x (max k n)).length≤400:=by
  unfold Uf
  rw[List.length_append]
  have h3:=Xu4 x D
  have h4:=h.cap
  simp only[List.length_cons,List.length_nil]
  rcases dV with h5|h5
  ·have:(Yd x D).length < D.length:=by
    unfold jV at h5
    rw[List.any_eq_true]at h5
    obtain ⟨t,ht,hx⟩:=h5
    unfold Yd
    rw[List.length_filter_lt_length_iff_exists]
    exact ⟨t,ht,by simp[hx]⟩
   omega
  ·omega
 refine ⟨T.arm D x (max k n),⟨h.now,⟨_,rfl⟩,⟨ei,fun t ht=>?_,fun t ht=>?_,?_,by dsimp only;omega⟩,hlen,h.hi⟩,Bf fun T' hs=>?_⟩
 ·rcases bH t ht with ht|rfl
  ·exact h.wg.lo t (Ht.subset ht)
  ·show n≤max k n;omega
 ·rcases bH t ht with ht|rfl
  ·exact h.wg.hi t (Ht.subset ht)
  ·show max k n≤1099511627776;have:=h.hi;omega
 ·unfold Uf
  rw[List.pairwise_append]
  refine ⟨h.wg.dM.sublist Ht,by simp,fun a ha b hb=>?_⟩
  obtain rfl:=List.mem_singleton.1 hb
  exact UR a ha
 ·have h':=h.iC hs
  have mA:T'.now=n:=h'.now
  have:=Xya gl T' D dn h'.wg.ri.len (hs.mb.trans e) h'.wg.dM h'.wg.ri.perm h'.wg.len (by rw[mA];exact h.hi) x k af dV
  rw[mA]at this
  refine this.mV ?_
  have hr:=(Xtl (r':=T'.rows) (r:=T.rows) ⟨hs.len,hs.row⟩ x).lay T.now ⟨x,max k n⟩
  refine ⟨hs.now,rfl,?_,?_⟩
  ·have:=hr.1
   unfold WT.arm;rw[hs.now];exact this
  ·have:=hr.2
   unfold WT.arm;rw[hs.now];exact this
def vW (n:Nat) (D:List Tm) (to:Int):Int × List Int × Nat × List Tm:=if to < n∨1099511627776 < to then (2,[],n,D) else (0,bf D (to.toNat + 1),to.toNat,D.filter fun t=>decide (to.toNat < t.due))
theorem WI.yH {T:WT} {n:Nat} {D:List Tm} (h:WI T n D) (gl:Nat→AV) (to:Int):∃ T',WI T' (vW n D to).2.2.1 (vW n D to).2.2.2∧GD Tryz.prog gl 98 [.ptr 0 0,.int .i64 to] T.hb 67 [0,1] (.aX [.isl (vW n D to).2.1.length (Qp (vW n D to).2.1),.int .i64 (vW n D to).1]) T'.hb:=by
 unfold vW
 by_cases h1:to < n∨1099511627776 < to
 ·rw[if_pos h1]
  exact ⟨T,h,Bf fun T' hs=>((Xfe gl T' (h.iC hs).wf to (by rw[(h.iC hs).now];exact h1)).wk (r':=fun _=>.aX [.isl 0 (Qp []),.int .i64 2]) fun _=>Wk.Lq Wk.nils (Wk.refl _)).mV hs⟩
 rw[if_neg h1]
 obtain ⟨dn,e⟩:=h.mb
 obtain ⟨k,rfl⟩:∃ k:Nat,to=k:=⟨to.toNat,by omega⟩
 rw[show (k:Int).toNat=k by omega]
 have hD:=Nl D (k - n + 1) n T.rows D k af af h.wg (List.filter_eq_self.2 fun t ht=>by simpa using h.wg.lo t ht).symm
 have cq:(D.filter fun t=>decide (k < t.due)).Sublist D:=List.filter_sublist
 refine ⟨{ now:=k,rows:=(lQ (k - n + 1) n T.rows D k).1,mb:=.aE (br (lQ (k - n + 1) n T.rows D k).2) false },⟨rfl,⟨false,by rw[hD.1]⟩,⟨?_,fun t ht=>?_,fun t ht=>h.wg.hi t (cq.subset ht),h.wg.dM.sublist cq,Nat.le_trans cq.length_le h.wg.len⟩,Nat.le_trans cq.length_le h.cap,by dsimp only;omega⟩,Bf fun T' hs=>?_⟩
 ·have:=hD.2
  rw[hD.1]at this ⊢;exact this
 ·have:=(List.mem_filter.1 ht).2
  simp at this;show k≤t.due;omega
 ·have h':=h.iC hs
  have mA:T'.now=n:=h'.now
  have vX:WG T'.now T.rows D:=by rw[mA];exact h.wg
  have:=Xz9 gl T' T.rows D dn ⟨hs.len,hs.row⟩ (hs.mb.trans e) vX k af af
  rw[mA]at this
  exact this
theorem GS.vY {P:Program} {gl:Nat→AV} {f:FuncId} {args:List AV} {n n':Nat} {r r':AV} {ax lz:List (Nat × Bk)} (h:GS P gl f args [] 0 r ax n) (il:To [] ⟨[(0,r)],ax,n⟩ ⟨[(0,r')],lz,n'⟩):GS P gl f args [] 0 r' lz n':=by
 refine ⟨h.1,fun w vs G X g hR hv=>(h.2 w vs G X g hR hv).mono ?_⟩
 rintro e w' ⟨v,g',q1,q2,q3,q4⟩
 have cy:R ⟨1,w,G,X,gl,[]⟩ g' (⟨[(0,r)],ax,n⟩:St).fs ⟨#[v],[]⟩ w':=by
  refine ⟨rfl,rfl,fun i=>?_,q2.gl,q2.h,q2.inj,q2.old,q2.fr,q2.xs,q2.gX⟩
  show VR g' _ w' (look [(0,r)] i) _
  rw[Zo]
  split
  ·rename_i hi;subst hi;exact q4
  ·exact .any _
 obtain ⟨g2,bV⟩:=il _ g' _ w' (fun q hq=>by cases hq) cy
 exact ⟨v,g2,q1,⟨rfl,rfl,fun i=>.any _,bV.gl,bV.h,bV.inj,bV.old,bV.fr,bV.xs,fun q hq=>by cases hq⟩,fun b hb=>by omega,bV.t 0⟩
theorem To.c7 {p:List Nat} {t:List (Nat × AV)} {ex:List (Nat × Bk)} {T:WT} {n:Nat} (hex:∀ q ∈ ex,67≤q.1) (hT:T.wf):To p ⟨t,ex++T.h,n⟩ ⟨t,ex++T.hb,n⟩:=fun c g a w _ hR=>by
 have hl:=hT.len
 have key:∀ b,(Qc (ex++T.hb) n b=Qc (ex++T.h) n b)∨∃ l,Qc (ex++T.h) n b=.cells (a6 l)∧Qc (ex++T.hb) n b=.c7 (oJ l):=fun b=>by
  by_cases hb:b < 67
  ·rw[Xm fun q hq e=>by have:=hex q hq;omega,Xm fun q hq e=>by have:=hex q hq;omega,WT.bA,WT.dL]
   by_cases h0:0=b
   ·rw[if_pos h0,if_pos h0];exact .inl rfl
   by_cases h1:1=b
   ·rw[if_neg h0,if_neg h0,if_pos h1,if_pos h1];exact .inl rfl
   rw[if_neg h0,if_neg h0,if_neg h1,if_neg h1,if_pos af,if_pos af]
   exact .inr ⟨_,rfl,rfl⟩
  ·exact .inl (C6 (by rw[WT.bA,WT.dL,if_neg af,if_neg af,if_neg af,if_neg (show ¬ 0=b by omega),if_neg (show ¬ 1=b by omega),if_neg (show ¬ (2≤b∧b < 2 + T.rows.length) by omega)]))
 refine ⟨g,hR.gj (fun i v hv=>hv) (fun b hb=>?_) fun b=>?_⟩
 ·show BR _ _ _ _ (Qc (ex++T.hb) n b)
  have e:(⟨t,ex++T.h,n⟩:St).fs.H b=Qc (ex++T.h) n b:=rfl
  rw[e]at hb
  rcases key b with h|⟨l,h1,h2⟩
  ·rw[h];exact hb
  ·rw[h1]at hb;rw[h2];exact TP hb (List.Perm.refl _)
 ·show (Qc (ex++T.hb) n b).live ↔ (Qc (ex++T.h) n b).live
  rcases key b with h|⟨l,h1,h2⟩
  ·rw[h]
  ·rw[h1,h2];exact ⟨fun _=>trivial,fun _=>trivial⟩
theorem Xke (m:Nat) (mb:Bk) (h:bG 2 mb):(Kc m mb).wf:=⟨by simp[Kc],h⟩
theorem Nv (n:Nat) (hn:n≤1099511627776):WI (Kc n (.aE [] true)) n [] :=
 ⟨rfl,⟨true,rfl⟩,⟨RI.DY (D:=[]) (l:=[]) (List.Perm.refl _) au,by simp,by simp,by simp,by simp⟩,by simp,hn⟩
theorem Xwa (gl:Nat→AV) (n:Nat) (hn:n≤1099511627776):GS Tryz.prog gl 70 [.int .i64 n] [] 0 (.aX [.ptr 0 0,.int .i64 0]) (Kc n (.aE [] true)).hb 67:=by
 have h0:GS Tryz.prog gl 70 [.int .i64 n] [] 0 (.aX [.ptr 0 0,.int .i64 0]) [(0,.cells (nO n)),(1,.aE [] true)] 2:=Yak gl n af af
 refine h0.vY (To.trans (To.nils (m:=n) (mb:=.aE [] true) (t':=[(0,.aX [.ptr 0 0,.int .i64 0])]) rfl (fun j=>?_) (Nat.le_refl 2) rfl (fun q hq=>by cases hq) au ?_) (To.c7 (ex:=[]) au (Xke n (.aE [] true) fun q hq=>by cases hq)))
 ·show Qc [(0,_),(1,_)] (2 + j) (2 + j)=.free
  rw[Qd,if_neg af,Qd,if_neg af,FM,if_neg af]
 ·simp[Qu,Qe,ai,look,aD,ay,kN]
open Classical in
noncomputable def oR (s:St):Nat→List (Nat × Bk)
 | 0=>[]
 | k + 1=>if (Qc s.h s.n k).live then (k,Qc s.h s.n k)::oR s k else oR s k
theorem HD {s:St}:∀ {k:Nat} {q:Nat × Bk},q ∈ oR s k ↔ q.1 < k∧(Qc s.h s.n q.1).live∧q.2=Qc s.h s.n q.1
 | 0,q=>by simp[oR]
 | k + 1,q=>by
  unfold oR
  split
  ·rename_i h
   rw[List.mem_cons,HD]
   constructor
   ·rintro (rfl|⟨h1,h2⟩)
    ·exact ⟨by dsimp only;omega,h,rfl⟩
    ·exact ⟨by omega,h2⟩
   ·rintro ⟨h1,h2,h3⟩
    by_cases e:q.1=k
    ·left;rw[e]at h3;exact Prod.ext e h3
    ·right;exact ⟨by omega,h2,h3⟩
  ·rename_i h
   rw[HD]
   constructor
   ·rintro ⟨h1,h2⟩;exact ⟨by omega,h2⟩
   ·rintro ⟨h1,h2,h3⟩
    refine ⟨?_,h2,h3⟩
    by_cases e:q.1=k
    ·rw[e]at h2;exact (h h2).elim
    ·omega
open Classical in
theorem Nw {s:St} {n b:Nat}:∀ {k:Nat},Qc (oR s k) n b=if b < k∧(Qc s.h s.n b).live then Qc s.h s.n b else if b < n then .dead else .free
 | 0=>by rw[if_neg af];rfl
 | k + 1=>by
  unfold oR
  split
  ·rename_i h
   rw[Qd,Nw]
   by_cases e:k=b
   ·subst e;rw[if_pos rfl,if_pos ⟨by omega,h⟩]
   ·rw[if_neg e]
    by_cases h2:b < k∧(Qc s.h s.n b).live
    ·rw[if_pos h2,if_pos ⟨by omega,h2.2⟩]
    ·rw[if_neg h2,if_neg (show ¬ (b < k + 1∧(Qc s.h s.n b).live) by rintro ⟨h3,h4⟩;exact h2 ⟨by omega,h4⟩)]
  ·rename_i h
   rw[Nw]
   by_cases h2:b < k∧(Qc s.h s.n b).live
   ·rw[if_pos h2,if_pos ⟨by omega,h2.2⟩]
   ·have h5:¬ (b < k + 1∧(Qc s.h s.n b).live):=by
     rintro ⟨h3,h4⟩
     by_cases e:b=k
     ·subst e;exact h h4
     ·exact h2 ⟨by omega,h4⟩
    rw[if_neg h2,if_neg h5]
theorem Nx {ρ:Nat→Nat} {n':Nat} {s s':St} (bT:∀ b b',b < n'→b' < n'→(Qc s'.h s'.n b).live→(Qc s'.h s'.n b').live→ρ b=ρ b'→b=b') (hl:∀ b,b < n'→(Qc s'.h s'.n b).live→bG n' (Qc s'.h s'.n b)∧Qc s.h s.n (ρ b)=Xg ρ (Qc s'.h s'.n b)):∀ k,k≤n'→oh ρ n' s (oR s' k)
 | 0,_=>trivial
 | k + 1,hk=>by
  unfold oR
  split
  ·rename_i h
   obtain ⟨h1,h2⟩:=hl k af h
   have not:∀ l:List (Nat × Bk),(∀ q ∈ l,q.1 < k∧(Qc s'.h s'.n q.1).live)→tC ρ k l:=fun l=>by
    induction l with
    | nil=>intro _;trivial
    | cons q l ih =>
     intro hq
     obtain ⟨i,x⟩:=q
     obtain ⟨g1,g2⟩:=hq (i,x) au
     refine ⟨fun e=>?_,ih fun q cF=>hq q (by simp[cF])⟩
     have g1:i < k:=g1
     have:=bT i k af af g2 h e
     omega
   exact ⟨⟨by omega,h1,h2,not _ fun q hq=>⟨(HD.1 hq).1,(HD.1 hq).2.1⟩⟩,Nx bT hl k af⟩
  ·exact Nx bT hl k af
open Classical in
theorem UT {s':St} (hd:∀ b,b < s'.n→¬ (Qc s'.h s'.n b).live→Qc s'.h s'.n b=.dead) (hf:∀ b,s'.n≤b→Qc s'.h s'.n b=.free) (b:Nat):Qc (oR s' s'.n) s'.n b=Qc s'.h s'.n b:=by
 rw[Nw]
 by_cases h1:b < s'.n
 ·by_cases h2:(Qc s'.h s'.n b).live
  ·rw[if_pos ⟨h1,h2⟩]
  ·rw[if_neg fun h=>h2 h.2,if_pos h1,hd b h1 h2]
 ·rw[if_neg fun h=>h1 h.1,if_neg h1,hf b af]
theorem To.lk {p:List Nat} {s s':St} (ρ:Nat→Nat) (hp:∀ b ∈ p,ρ b=b∧b < s'.n) (aI:∀ b,(Qc s'.h s'.n b).live→b < s'.n) (hd:∀ b,b < s'.n→¬ (Qc s'.h s'.n b).live→Qc s'.h s'.n b=.dead) (hf:∀ b,s'.n≤b→Qc s'.h s'.n b=.free)
  (bT:∀ b b',b < s'.n→b' < s'.n→(Qc s'.h s'.n b).live→(Qc s'.h s'.n b').live→ρ b=ρ b'→b=b') (hl:∀ b,b < s'.n→(Qc s'.h s'.n b).live→bG s'.n (Qc s'.h s'.n b)∧Qc s.h s.n (ρ b)=Xg ρ (Qc s'.h s'.n b)) (ht:Qu ρ s'.n s.t s'.t):To p s s':=by
 have h1:To p s ⟨s'.t,oR s' s'.n,s'.n⟩:=To.C4 (ρ:=ρ) hp ⟨ht,Nx bT hl _ (Nat.le_refl _)⟩
 refine h1.trans fun c g a w _ hR=>⟨g,hR.gj (fun _ _ h=>h) (fun b h=>?_) fun b=>?_⟩
 ·have e:=UT hd hf b
  have h:BR g _ w (g b) (Qc (oR s' s'.n) s'.n b):=h
  rw[e]at h;exact h
 ·have e:=UT hd hf b
  show (Qc s'.h s'.n b).live ↔ (Qc (oR s' s'.n) s'.n b).live
  rw[e]
section
variable {P:Program} {c:Cx}
theorem Xmm {s:St} {d:Option Nat} {f:FuncId} {xs:List TV} {args:List AV} {r:AV} {ax:List (Nat × Bk)} {m:Nat} (eG:GS P c.gl f args [] 0 r ax m) (yI:HL ax m) (hc:Qv none (aG c.gl s.fs xs)) (aM:(aG c.gl s.fs xs).map Qk=args) (wQ:ai 0 args) (KH:Qe m r) (hs:∀ q ∈ s.h,q.1 < s.n) :
  Ky P c (.pd d (.call f) xs none) s.fs ⟨Xp xs,(List.range m).map fun b=>s.n + b,d.toList,(List.range m).map fun b=>s.n + b⟩ (St.bQ ⟨s.t,s.h++Xc (fun b=>s.n + b) ax,s.n + m⟩ d (aD (fun b=>s.n + b) r)).fs:=by
 have hn:∀ b b',b < m→b' < m→s.n + b=s.n + b'→b=b':=fun b b' _ _ e=>by omega
 have hm:∀ q ∈ ax,q.1 < m:=fun q hq=>(yI.mem q hq).1
 have dY:∀ b,∀ q ∈ s.h,q.1≠s.n + b:=fun b q hq=>by have:=hs q hq;omega
 have bp:∀ b,s.fs.H (s.n + b)=.free:=fun b=>by
  show Qc s.h s.n (s.n + b)=_
  have:∀ l:List (Nat × Bk),(∀ q ∈ l,q.1≠s.n + b)→Qc l s.n (s.n + b)=.free:=fun l=>by
   induction l with
   | nil=>intro _;rw[FM,if_neg af]
   | cons q l ih =>
    obtain ⟨i,x⟩:=q
    intro h
    rw[Qd,if_neg (h (i,x) au),ih fun q hq=>h q (by simp[hq])]
  exact this s.h (dY b)
 have hH:∀ y j,(St.bQ ⟨s.t,s.h++Xc (fun b=>s.n + b) ax,s.n + m⟩ d y).fs.H j=Qc (s.h++Xc (fun b=>s.n + b) ax) (s.n + m) j:=fun y j=>by cases d<;>rfl
 refine KG (σ:=fun b=>s.n + b) eG (fun o ys aJ tM s2 g a w hT hR=>?_) hn (fun p hp=>by cases hp) (fun b hb=>by omega) (Nat.zero_le _) (fun b _ _=>bp b) (fun p hp=>yI.mem p hp) KH wQ (fun b hb=>List.mem_map.2 ⟨b,List.mem_range.2 hb,rfl⟩) (fun j hj=>?_) (fun i=>?_) (fun b hb=>?_) fun j hj=>?_
 ·obtain ⟨ts,bh⟩:=xd aJ
  subst tM
  have bn:aG c.gl s2 (ys.map aT)=aG c.gl s.fs (ys.map aT):=Yj fun i hi=>hT i hi
  have hv:=Yp (hR.aG ys) (by rw[bn];exact hc)
  rw[bn,aM]at hv
  have hr:ay (fun b=>s.n + b) args=args:=by
   rw[Yf]
   exact (List.map_congr_left fun v hv=>uw (n:=0) (fun b hb=>by omega) v (Xj.1 wQ v hv)).trans (List.map_id _)
  rw[hr]
  exact ⟨_,xe eG.1 bh a w,hv⟩
 ·obtain ⟨b,hb,rfl⟩:=List.mem_map.1 hj
  exact ⟨b,List.mem_range.1 hb,rfl⟩
 ·cases d with
  | none=>rfl
  | some d=>show look ((d,_)::s.t) i=_;rw[Zo];rfl
 ·rw[hH,Xm (dY b),Kk hn hb hm (yI.fN b hb)]
  obtain ⟨_,q,hq,_,e⟩:=yI.live hb m
  rw[e]
  have:=(yI.mem q hq).2
  cases hx:q.2<;>first|rfl|(rw[hx]at this;exact this.elim)
 ·rw[hH]
  show _=Qc s.h s.n j
  have cV:∀ b,b < m→s.n + b≠j:=fun b hb e=>hj (List.mem_map.2 ⟨b,List.mem_range.2 hb,e⟩)
  have key:∀ l:List (Nat × Bk),Qc (l++Xc (fun b=>s.n + b) ax) (s.n + m) j=Qc l s.n j:=fun l=>by
   induction l with
   | nil =>
    rw[List.nil_append,Ww cV hm,FM]
    by_cases h:j < s.n
    ·rw[if_pos h,if_pos af]
    ·rw[if_neg h,if_neg]
     intro h2
     exact cV (j - s.n) af af
   | cons q l ih=>obtain ⟨i,x⟩:=q;rw[List.cons_append,Qd,Qd,ih]
  exact key s.h
theorem uE {r0:List bF} {K:St→Prop} {s:St} {d:Option Nat} {f:FuncId} {xs:List TV} {args:List AV} {r:AV} {ax:List (Nat × Bk)} {m:Nat} (eG:GS P c.gl f args [] 0 r ax m) (yI:HL ax m) (hc:Qv none (aG c.gl s.fs xs)∧(aG c.gl s.fs xs).map Qk=args∧ai 0 args∧Qe m r) (hs:∀ q ∈ s.h,q.1 < s.n)
  (h:XP P c r0 K (St.bQ ⟨s.t,s.h++Xc (fun b=>s.n + b) ax,s.n + m⟩ d (aD (fun b=>s.n + b) r))):Yl P c (.pd d (.call f) xs none) r0 K s :=
 .inl ⟨_,_,Xmm eG yI hc.1 hc.2.1 hc.2.2.1 hc.2.2.2 hs,h⟩
end
theorem UU {ex:List (Nat × Bk)} {σ:Nat→Nat} {T:WT} {n b:Nat} (hT:T.wf) (bT:∀ b b',b < 67→b' < 67→σ b=σ b'→b=b') (hex:∀ q ∈ ex,∀ b,b < 67→σ b≠q.1) (hb:b < 67):Qc (ex++Xc σ T.hb) n (σ b)=Xg σ (Qc T.hb 67 b):=by
 rw[Xm fun q hq e=>hex q hq b hb e.symm]
 exact Kk bT hb (fun q hq=>((WT.gM hT).mem q hq).1) ((WT.gM hT).fN b hb)
theorem Ny {T:WT} (hT:T.wf) {b:Nat} (hb:b < 67):(Qc T.hb 67 b).live∧bG 67 (Qc T.hb 67 b):=by
 obtain ⟨_,q,hq,_,e⟩:=(WT.gM hT).live hb 67
 rw[e]
 exact ⟨Xf ((WT.gM hT).mem q hq).2,((WT.gM hT).mem q hq).2⟩
theorem Wv {f g:Nat→Nat} {n:Nat} (h:∀ b,b < n→f b=g b) {x:Bk} (hx:bG n x):Xg f x=Xg g x:=by
 have hv:∀ v,Qe n v→aD f v=aD g v:=fun v=>AV.rec (motive_1:=fun v=>Qe n v→aD f v=aD g v) (motive_2:=fun l=>ai n l→ay f l=ay g l) (by simp[aD]) (fun b v h1 h2=>by simp only[Qe]at h2;simp only[aD,h1 h2]) (fun _ _=>by simp[aD]) (fun _=>by simp[aD]) (fun _=>by simp[aD])
  (fun cs h1 h2=>by simp only[Qe]at h2;simp only[aD,h1 h2]) (fun cs h1 h2=>by simp only[Qe]at h2;simp only[aD,h1 h2]) (fun b _ h2=>by simp only[Qe]at h2;simp only[aD,h b h2]) (fun cs _ h1 h2=>by simp only[Qe]at h2;simp only[aD,h1 h2]) (fun _ b _ _ _ h2=>by simp only[Qe]at h2;simp only[aD,h b h2]) (fun _ cs h1 h2=>by simp only[Qe]at h2;simp only[aD,h1 h2]) (by simp[aD])
  (fun _ cs h1 h2=>by simp only[Qe]at h2;simp only[aD,h1 h2]) (fun b h2=>by simp only[Qe]at h2;simp only[aD,h b h2]) (fun _=>by simp[aD]) (by simp[ay]) (fun x xs h1 h2=>by simp only[ai,ay];exact fun ⟨a,b⟩=>by rw[h1 a,h2 b]) v
 cases x with
 | free=>rfl
 | dead=>rfl
 | cells cs =>
  simp only[Xg,Yf]
  congr 1
  exact List.map_congr_left fun v h=>hv v (Xj.1 hx v h)
 | aE kvs dn =>
  simp only[Xg]
  congr 1
  exact List.map_congr_left fun q hq=>by rw[hv _ (hx q hq).1,hv _ (hx q hq).2]
 | bl kvs bs ck =>
  simp only[Xg]
  congr 1
  exact List.map_congr_left fun q hq=>by rw[hv _ (hx q hq).1,hv _ (hx q hq).2]
 | iter b ck seen=>simp only[Xg];rw[h b hx]
 | c7 ls=>rfl
theorem Xee {f g:Nat→Nat} {T:WT} (hT:T.wf) (h:∀ b,b < 67→f b=g b):Xc f T.hb=Xc g T.hb:=by
 unfold Xc
 exact List.map_congr_left fun q hq=>by
  obtain ⟨h1,h2⟩:=(WT.gM hT).mem q hq
  rw[h q.1 h1,Wv h h2]
def gH (n b:Nat):Nat:=if b < 2 then b else n + b
theorem Ydx (n:Nat):cC id [0,1] n=gH n:=by
 funext b
 unfold gH
 by_cases h:b < 2
 ·rw[if_pos h,Wm (by have:b=0∨b=1:=by omega
                     simpa using this)];rfl
 ·rw[if_neg h,Wp (by simp;omega)]
theorem Nz {n:Nat} (hn:67≤n) {b b':Nat} (h:b < 67) (h':b' < 67) (e:gH n b=gH n b'):b=b':=by
 unfold gH at e
 (repeat' split at e)<;>omega
theorem Yet (n:Nat):gH n 0=0:=rfl
theorem Yfx {T:WT} (hT:T.wf) {σ:Nat→Nat} {m:Nat} (hσ:∀ b,b < 67→σ b < m) (n b:Nat) (hb:m≤b):Qc (Xc σ T.hb) n b=if b < n then .dead else .free :=
 Ww (m:=67) (fun b' bJ e=>by have:=hσ b' bJ;omega) fun q hq=>((WT.gM hT).mem q hq).1
theorem Ks {σ:Nat→Nat} {v:AV} (h:Qe 0 v):aD σ v=v:=uw (n:=0) (fun b hb=>by omega) v h
theorem UW {gl:Nat→AV} {xs:List TV} {v:Bool} {f:FuncId} {args:List AV} {t:List (Nat × AV)} {ex:List (Nat × Bk)} {T:WT} {n:Nat} {p:List Nat} (hT:T.wf) (hp:∀ b ∈ p,b < 67) (hn:67≤n) (hex:∀ q ∈ ex,67≤q.1∧q.1 < n)
  (hc:Qv none (aG gl (⟨t,ex++Xc id T.hb,n⟩:St).fs xs)∧mK v f ((aG gl (⟨t,ex++Xc id T.hb,n⟩:St).fs xs).map Qk)=some (f,args)∧ai 67 args):oB gl xs v f args id p 67 t ex T.hb n :=
 ⟨fun b b' _ _ e=>e,fun b hb=>by show b < n;omega,WT.gM hT,hp,fun q hq=>⟨fun b hb e=>by have:=(hex q hq).1;have e:b=q.1:=e;omega,(hex q hq).2⟩,hc.1,by rw[Jp];exact hc.2.1,hc.2.2⟩
theorem UX {t:List (Nat × AV)} {ex:List (Nat × Bk)} {σ:Nat→Nat} {T:WT} {n:Nat} {d:Option Nat} {r:AV} (hT:T.wf) (hr:Qe 0 r):Zq t ex T.hb σ (List.range 67) 67 n d r=St.bQ ⟨t,ex++Xc σ T.hb,n + 67⟩ d r:=by
 unfold Zq
 rw[Xee hT (f:=cC σ (List.range 67) n) (g:=σ) fun b hb=>Wm (List.mem_range.2 hb),Ks hr]
theorem NA {t:List (Nat × AV)} {ex:List (Nat × Bk)} {T:WT} {n:Nat} {d:Option Nat} {r:AV} (hr:Qe 0 r):Zq t ex T.hb id [0,1] 67 n d r=St.bQ ⟨t,ex++Xc (gH n) T.hb,n + 67⟩ d r:=by
 unfold Zq
 rw[Ydx,Ks hr]
end Go.Proofs.YtogckmommodmhaaGreatDoor
