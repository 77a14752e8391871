import Derived.Test.YtogckmommodmhaaGreatDoorZv12
namespace Go.Proofs.YtogckmommodmhaaGreatDoor
open Go.RowKit
set_option linter.all false
set_option linter.unusedSimpArgs false
set_option maxRecDepth 100000
theorem RI.T {rows:List (List Tm)} {D:List Tm} (hl:rows.length=65) (hp:rows.flatten.Perm D):RI (fun _ _=>True) rows D:=⟨hl,hp,fun _ _ _ _=>trivial⟩
def WT.uL (T:WT):WT:={ T with now:=T.now + 1,rows:=Jl (T.now + 1) 4 1 T.rows }
theorem Ha {now:Nat} {rows:List (List Tm)} {D l:List Tm} (h:RI (fun _ _=>True) rows D) (k:Nat):RI (fun _ _=>True) ((l.take k).foldl (Xh now) rows) ((l.take k).reverse++D):=RI.jz _ h fun _ _=>trivial
theorem WT.iD (T:WT) (t:Tm):(T.lay t)={ T with rows:=Xh T.now T.rows t }:=rfl
set_option maxHeartbeats 4000000 in
set_option maxRecDepth 20000 in
theorem Xsv (gl:Nat→AV) (T:WT) (D:List Tm) (hT:T.wf) (hp:T.rows.flatten.Perm D) (hD:D.length≤100000) (mQ:∀ t ∈ D,t.due≤1099511627776) (hn:T.now < 1099511627776) :
  GQ Tryz.prog gl 139 [.ptr 0 0] T.h 67 [0,1] (fun _:Unit=>True) (fun _=>.aU []) (fun _=>T.uL.h):=by
 refine AT.gq (of_decide_eq_true rfl) (fun q hq=>Xj (((WT.HL hT).mem q hq).2)) av fun c a7 hg=>?_
 conv in aQ _ _=>cbv
 have h0:=WT.il T
 have aX:=WT.len hT
 have nM:T.h=(0,.cells T.cells)::(1,T.mb)::Kg T.rows 0:=rfl
 have ep:T.cells.set 0 (.int .i64 ((T.now:Int) + 1))=WT.cells { T with now:=T.now + 1 }:=WT.MM T (T.now + 1)
 have mG:WT.wf { T with now:=T.now + 1 }:=⟨hT.len,hT.mb⟩
 rw[nM]
 refine Qh (An @h0 @ep) ?_
 refine Yk (fun y:Nat × List (List Tm)=>1≤y.1∧y.1≤5∧RI (fun _ _=>True) y.2 D∧Jl (T.now + 1) (5 - y.1) y.1 y.2=Jl (T.now + 1) 4 1 T.rows) (fun y=>⟨[(0,.ptr 0 0),(2,.int .i64 ((16 ^ y.1:Nat):Int)),(3,.int .i64 y.1)],WT.h { T with now:=T.now + 1,rows:=y.2 },67⟩) (fun y=>5 - y.1) AT.mixed [0,1] a7
  ⟨(1,T.rows),⟨by simp,by simp,RI.T hT.len hp,rfl⟩,To.dH (by exact Qw) fun b=>?_⟩ fun y hy=>?_
 ·show Qc ((0,.cells (WT.cells { T with now:=T.now + 1 }))::(1,T.mb)::Kg T.rows 0) 67 b=Qc ((0,.cells (WT.cells { T with now:=T.now + 1 }))::(0,.cells T.cells)::(1,T.mb)::Kg T.rows 0) 67 b
  simp only[Qd]
  (repeat' split)<;>first|rfl|omega
 obtain ⟨L,rows⟩:=y
 obtain ⟨dS,hL5,pV,bE⟩:=hy
 dsimp only at dS hL5 pV bE ⊢
 have jB:WT.wf { T with now:=T.now + 1,rows:=rows }:=⟨pV.len,hT.mb⟩
 have dO:WT.now { T with now:=T.now + 1,rows:=rows }=T.now + 1:=rfl
 have AD:WT.rows { T with now:=T.now + 1,rows:=rows }=rows:=rfl
 have oLa:WT.mb { T with now:=T.now + 1,rows:=rows }=T.mb:=rfl
 have DA:T.uL={ T with now:=T.now + 1,rows:=Jl (T.now + 1) (5 - L) L rows }:=by unfold WT.uL;rw[bE]
 have nR:∀ i,i < 65→(WT.row { T with now:=T.now + 1,rows:=rows } i).length≤D.length:=fun i hi=>pV.eA hi
 have hrel:=fun i (hi:i < 65)=>RI.cb pV (now:=T.now + 1) hi fun _ _=>trivial
 have nS:∀ i,i < 65→RI (fun _ _=>True) (rows.set i []) (rows.set i []).flatten:=fun i hi=>⟨by simp[pV.len],List.Perm.refl _,fun _ _ _ _=>trivial⟩
 have kh:=fun i (hi:i < 65)=>((xW rows i (by have:=pV.len;omega)).symm.trans pV.perm)
 have bI:∀ i,i < 65→∀ t ∈ rows.getD i [],t.due≤1099511627776:=fun i hi t ht=>mQ t (MD pV hi ht)
 rw[DA]
 generalize bu:({ T with now:=T.now + 1,rows:=rows }:WT)=T1 at *
 have MU:T1.now=T.now + 1:=by rw[← bu]
 have oMa:T1.mb=T.mb:=by rw[← bu]
 have g0:=WT.il T1
 rw[MU]at g0
 have iV:=WT.len jB
 have gC:T1.h=(0,.cells T1.cells)::(1,T1.mb)::Kg T1.rows 0:=rfl
 have aM:=fun n b hb=>WT.gX jB n (b:=b) hb
 obtain rfl|rfl|rfl|rfl|rfl:L=1∨L=2∨L=3∨L=4∨L=5:=by omega
 ·have oE:((16 ^ 1:Nat):Int)=16:=rfl
  have fb:((16 ^ 2:Nat):Int)=256:=rfl
  have hm:Int.tmod ((T.now + 1:Nat):Int) 16=(((T.now + 1) % 16:Nat):Int):=oV (T.now + 1) 16
  have hq:Int.tdiv ((T.now + 1:Nat):Int) 16=(((T.now + 1) / 16:Nat):Int):=pT (T.now + 1) 16
  have jC:Int.tmod (((T.now + 1) / 16:Nat):Int) 16=(((T.now + 1) / 16 % 16:Nat):Int):=oV _ 16
  rw[gC,oE]
  refine Qh (An @aM (An @g0 @hm)) ?_
  (refine Qa (fun h1=>?_) (fun h1=>?_)<;>try exact h1.elim)
  ·refine Qg ?_
   (refine Qa (fun h2=>?_) (fun h2=>?_)<;>try exact h2.elim)
   have nO:(T.now + 1) / 16 % 16 < 16:=Nat.mod_lt _ af
   have yg:nJ (T.now + 1) 1=16 + (T.now + 1) / 16 % 16:=rfl
   generalize (T.now + 1) / 16 % 16=sp at *
   have aW:=WT.fH jB (i:=16 + sp) af
   have cy:16 + sp < 65:=by omega
   have fc:2 + (16 + sp)=18 + sp:=by omega
   have vX:16 + sp + 1=17 + sp:=by omega
   rw[vX,fc]at aW
   have hl:T1.row (16 + sp)=rows.getD (16 + sp) []:=by rw[← bu];rfl
   have MV:=nR _ cy
   generalize mR:T1.row (16 + sp)=l at *
   refine Qh (An @aM (An @g0 (An @hq (An @jC @aW)))) ?_
   refine Yk (fun k:Nat=>k≤l.length) (fun k=>⟨[(0,.ptr 0 0),(2,.int .i64 16),(3,.int .i64 1),(55,.isl l.length (bb l)),(56,.int .i64 l.length),(57,.int .i64 k)],WT.h { T with now:=T.now + 1,rows:=(l.take k).foldl (Xh (T.now + 1)) (rows.set (16 + sp) []) },67⟩) (fun k=>l.length - k) AT.mixed [0,1] a7
    ⟨0,by omega,?_⟩ fun k hk=>?_
   ·have eU:T1.put (16 + sp) []={ T with now:=T.now + 1,rows:=rows.set (16 + sp) [] }:=by rw[← bu];rfl
    show To _ _ ⟨_,WT.h { T with now:=T.now + 1,rows:=rows.set (16 + sp) [] },67⟩
    rw[← eU]
    refine To.off (k:=55) jB cy mR ?_ (fun b h1 h2=>?_) ?_ (by dsimp only;omega) ?_ av ?_
    ·show Qc ((0,_)::_) 67 0=_
     rw[Qd,if_pos rfl,vX]
    ·show Qc ((0,_)::(0,_)::(1,_)::_) 67 b=_
     rw[gC,Qd,if_neg af]
    ·exact Qu @aM
    ·exact Qu @fc
    ·have h1:=uG (Kt (16 + sp) 67) l
     have gF:=pR 67 l
     exact Qu (An @h1 @gF)
   have nh:=Ha (now:=T.now + 1) (l:=l) (nS (16 + sp) cy) k
   have iW:∀ j,j < 65→((l.take k).foldl (Xh (T.now + 1)) (rows.set (16 + sp) []) |>.getD j []).length≤1000000:=fun j hj=>by
    have h1:=nh.eA hj
    have h2:=(kh (16 + sp) cy).length_eq
    rw[List.length_append]at h1 h2
    rw[← hl]at h2
    simp only[List.length_reverse,List.length_take]at h1
    omega
   have iX:WT.wf { T with now:=T.now + 1,rows:=(l.take k).foldl (Xh (T.now + 1)) (rows.set (16 + sp) []) }:=⟨nh.len,hT.mb⟩
   have eY:k < l.length→∀ x,l[k]?=some x→(l.take (k + 1)).foldl (Xh (T.now + 1)) (rows.set (16 + sp) [])=Xh (T.now + 1) ((l.take k).foldl (Xh (T.now + 1)) (rows.set (16 + sp) [])) x:=fun _ x hx=>by
    rw[List.take_succ,hx];simp
   have cr:∀ x:Tm,(WT.row { T with now:=T.now + 1,rows:=(l.take k).foldl (Xh (T.now + 1)) (rows.set (16 + sp) []) } (Yy (T.now + 1) x.due)).length≤1000000:=fun x=>iW _ (vV _ _)
   have rB:WT.now { T with now:=T.now + 1,rows:=(l.take k).foldl (Xh (T.now + 1)) (rows.set (16 + sp) []) }=T.now + 1:=rfl
   generalize jA:({ T with now:=T.now + 1,rows:=(l.take k).foldl (Xh (T.now + 1)) (rows.set (16 + sp) []) }:WT)=Tk at *
   have tc:=WT.aM iX
   have dz:=Zq l
   refine Qg ?_
   (refine Qa (fun h3=>?_) (fun h3=>?_)<;>try exact h3.elim)
   ·have bF:k < l.length:=by omega
    have a8:=vW l k bF
    have ep:=eY bF l[k] (by simp[bF])
    have sV:l[k].due≤1099511627776:=bI (16 + sp) cy l[k] (by rw[← hl];exact List.getElem_mem _)
    generalize l[k]=x at *
    have cN:=yb c.gl Tk iX x (by rw[rB];omega) sV (by rw[rB];exact cr x)
    refine Qh (An @dz (An @a8 @tc)) ?_
    refine ru cN iX (fun _ _=>WT.eB iX x) a7 (by simp[iq]) [(0,.ptr 0 0),(2,.int .i64 16),(3,.int .i64 1),(55,.isl l.length (bb l)),(56,.int .i64 l.length),(57,.int .i64 k),(61,.ptr 0 0),(62,.agg [.int .i64 x.id,.int .i64 x.due])] [(67,.cells [.int .i64 x.id,.int .i64 x.due])] 68 (To.dH (by exact Qw) fun b=>?_) (by simp[ny,cT,cP]) ?_ (by simp[Qe,ai]) fun _ _=>?_
    ·simp only[List.cons_append,List.nil_append,Qd];(repeat' split)<;>rfl
    ·exact Qw
    ·refine Qg ?_
     refine ⟨k + 1,by omega,?_,by omega⟩
     have yh:Tk.lay x={ T with now:=T.now + 1,rows:=(l.take (k + 1)).foldl (Xh (T.now + 1)) (rows.set (16 + sp) []) }:=by rw[WT.iD,ep,← jA]
     rw[← yh]
     refine To.dC (ex:=[(67,.cells [.int .i64 x.id,.int .i64 x.due])]) (WT.eB iX x) av av ?_
     have h1:=pR 67 l
     have h2:az id (bb l)=bb l:=Jy _
     have h3:id 0=0:=rfl
     exact Qu (An @h1 (An @h2 @h3))
   ·obtain rfl:k=l.length:=by omega
    rw[List.take_length]at jA
    have fM:(l.foldl (Xh (T.now + 1)) (rows.set (16 + sp) []))=cb (T.now + 1) rows (16 + sp):=by unfold cb;rw[← hl]
    have jf:Jl (T.now + 1) (5 - 1) 1 rows=Jl (T.now + 1) (5 - (1 + 1)) (1 + 1) (cb (T.now + 1) rows (16 + sp)):=by
     rw[← yg]
     show (if (T.now + 1) % 16 ^ 1=0 then _ else _)=_
     rw[if_pos (by simp only[Nat.reducePow];omega)]
    refine Ut ?_
    refine ⟨(1 + 1,cb (T.now + 1) rows (16 + sp)),⟨by simp,by simp,hrel _ cy,by dsimp only;rw[← jf];exact bE⟩,?_,by dsimp only;omega⟩
    rw[fM]at jA
    dsimp only
    rw[jA]
    refine To.dH ?_ fun b=>rfl
    exact Qu @fb
  ·have jf:Jl (T.now + 1) (5 - 1) 1 rows=rows:=by
    show (if (T.now + 1) % 16 ^ 1=0 then _ else _)=_
    rw[if_neg (by simp only[Nat.reducePow];omega)]
   rw[jf,bu]
   refine Qg ?_
   refine ⟨(),?_⟩
   rw[← gC]
   exact To.dH (by exact Qw) fun b=>rfl
 ·have oE:((16 ^ 2:Nat):Int)=256:=rfl
  have fb:((16 ^ 3:Nat):Int)=4096:=rfl
  have hm:Int.tmod ((T.now + 1:Nat):Int) 256=(((T.now + 1) % 256:Nat):Int):=oV (T.now + 1) 256
  have hq:Int.tdiv ((T.now + 1:Nat):Int) 256=(((T.now + 1) / 256:Nat):Int):=pT (T.now + 1) 256
  have jC:Int.tmod (((T.now + 1) / 256:Nat):Int) 16=(((T.now + 1) / 256 % 16:Nat):Int):=oV _ 16
  rw[gC,oE]
  refine Qh (An @aM (An @g0 @hm)) ?_
  (refine Qa (fun h1=>?_) (fun h1=>?_)<;>try exact h1.elim)
  ·refine Qg ?_
   (refine Qa (fun h2=>?_) (fun h2=>?_)<;>try exact h2.elim)
   have nO:(T.now + 1) / 256 % 16 < 16:=Nat.mod_lt _ af
   have yg:nJ (T.now + 1) 2=32 + (T.now + 1) / 256 % 16:=rfl
   generalize (T.now + 1) / 256 % 16=sp at *
   have aW:=WT.fH jB (i:=32 + sp) af
   have cy:32 + sp < 65:=by omega
   have fc:2 + (32 + sp)=34 + sp:=by omega
   have vX:32 + sp + 1=33 + sp:=by omega
   rw[vX,fc]at aW
   have hl:T1.row (32 + sp)=rows.getD (32 + sp) []:=by rw[← bu];rfl
   have MV:=nR _ cy
   generalize mR:T1.row (32 + sp)=l at *
   refine Qh (An @aM (An @g0 (An @hq (An @jC @aW)))) ?_
   refine Yk (fun k:Nat=>k≤l.length) (fun k=>⟨[(0,.ptr 0 0),(2,.int .i64 256),(3,.int .i64 2),(55,.isl l.length (bb l)),(56,.int .i64 l.length),(57,.int .i64 k)],WT.h { T with now:=T.now + 1,rows:=(l.take k).foldl (Xh (T.now + 1)) (rows.set (32 + sp) []) },67⟩) (fun k=>l.length - k) AT.mixed [0,1] a7
    ⟨0,by omega,?_⟩ fun k hk=>?_
   ·have eU:T1.put (32 + sp) []={ T with now:=T.now + 1,rows:=rows.set (32 + sp) [] }:=by rw[← bu];rfl
    show To _ _ ⟨_,WT.h { T with now:=T.now + 1,rows:=rows.set (32 + sp) [] },67⟩
    rw[← eU]
    refine To.off (k:=55) jB cy mR ?_ (fun b h1 h2=>?_) ?_ (by dsimp only;omega) ?_ av ?_
    ·show Qc ((0,_)::_) 67 0=_
     rw[Qd,if_pos rfl,vX]
    ·show Qc ((0,_)::(0,_)::(1,_)::_) 67 b=_
     rw[gC,Qd,if_neg af]
    ·exact Qu @aM
    ·exact Qu @fc
    ·have h1:=uG (Kt (32 + sp) 67) l
     have gF:=pR 67 l
     exact Qu (An @h1 @gF)
   have nh:=Ha (now:=T.now + 1) (l:=l) (nS (32 + sp) cy) k
   have iW:∀ j,j < 65→((l.take k).foldl (Xh (T.now + 1)) (rows.set (32 + sp) []) |>.getD j []).length≤1000000:=fun j hj=>by
    have h1:=nh.eA hj
    have h2:=(kh (32 + sp) cy).length_eq
    rw[List.length_append]at h1 h2
    rw[← hl]at h2
    simp only[List.length_reverse,List.length_take]at h1
    omega
   have iX:WT.wf { T with now:=T.now + 1,rows:=(l.take k).foldl (Xh (T.now + 1)) (rows.set (32 + sp) []) }:=⟨nh.len,hT.mb⟩
   have eY:k < l.length→∀ x,l[k]?=some x→(l.take (k + 1)).foldl (Xh (T.now + 1)) (rows.set (32 + sp) [])=Xh (T.now + 1) ((l.take k).foldl (Xh (T.now + 1)) (rows.set (32 + sp) [])) x:=fun _ x hx=>by
    rw[List.take_succ,hx];simp
   have cr:∀ x:Tm,(WT.row { T with now:=T.now + 1,rows:=(l.take k).foldl (Xh (T.now + 1)) (rows.set (32 + sp) []) } (Yy (T.now + 1) x.due)).length≤1000000:=fun x=>iW _ (vV _ _)
   have rB:WT.now { T with now:=T.now + 1,rows:=(l.take k).foldl (Xh (T.now + 1)) (rows.set (32 + sp) []) }=T.now + 1:=rfl
   generalize jA:({ T with now:=T.now + 1,rows:=(l.take k).foldl (Xh (T.now + 1)) (rows.set (32 + sp) []) }:WT)=Tk at *
   have tc:=WT.aM iX
   have dz:=Zq l
   refine Qg ?_
   (refine Qa (fun h3=>?_) (fun h3=>?_)<;>try exact h3.elim)
   ·have bF:k < l.length:=by omega
    have a8:=vW l k bF
    have ep:=eY bF l[k] (by simp[bF])
    have sV:l[k].due≤1099511627776:=bI (32 + sp) cy l[k] (by rw[← hl];exact List.getElem_mem _)
    generalize l[k]=x at *
    have cN:=yb c.gl Tk iX x (by rw[rB];omega) sV (by rw[rB];exact cr x)
    refine Qh (An @dz (An @a8 @tc)) ?_
    refine ru cN iX (fun _ _=>WT.eB iX x) a7 (by simp[iq]) [(0,.ptr 0 0),(2,.int .i64 256),(3,.int .i64 2),(55,.isl l.length (bb l)),(56,.int .i64 l.length),(57,.int .i64 k),(61,.ptr 0 0),(62,.agg [.int .i64 x.id,.int .i64 x.due])] [(67,.cells [.int .i64 x.id,.int .i64 x.due])] 68 (To.dH (by exact Qw) fun b=>?_) (by simp[ny,cT,cP]) ?_ (by simp[Qe,ai]) fun _ _=>?_
    ·simp only[List.cons_append,List.nil_append,Qd];(repeat' split)<;>rfl
    ·exact Qw
    ·refine Qg ?_
     refine ⟨k + 1,by omega,?_,by omega⟩
     have yh:Tk.lay x={ T with now:=T.now + 1,rows:=(l.take (k + 1)).foldl (Xh (T.now + 1)) (rows.set (32 + sp) []) }:=by rw[WT.iD,ep,← jA]
     rw[← yh]
     refine To.dC (ex:=[(67,.cells [.int .i64 x.id,.int .i64 x.due])]) (WT.eB iX x) av av ?_
     have h1:=pR 67 l
     have h2:az id (bb l)=bb l:=Jy _
     have h3:id 0=0:=rfl
     exact Qu (An @h1 (An @h2 @h3))
   ·obtain rfl:k=l.length:=by omega
    rw[List.take_length]at jA
    have fM:(l.foldl (Xh (T.now + 1)) (rows.set (32 + sp) []))=cb (T.now + 1) rows (32 + sp):=by unfold cb;rw[← hl]
    have jf:Jl (T.now + 1) (5 - 2) 2 rows=Jl (T.now + 1) (5 - (2 + 1)) (2 + 1) (cb (T.now + 1) rows (32 + sp)):=by
     rw[← yg]
     show (if (T.now + 1) % 16 ^ 2=0 then _ else _)=_
     rw[if_pos (by simp only[Nat.reducePow];omega)]
    refine Ut ?_
    refine ⟨(2 + 1,cb (T.now + 1) rows (32 + sp)),⟨by simp,by simp,hrel _ cy,by dsimp only;rw[← jf];exact bE⟩,?_,by dsimp only;omega⟩
    rw[fM]at jA
    dsimp only
    rw[jA]
    refine To.dH ?_ fun b=>rfl
    exact Qu @fb
  ·have jf:Jl (T.now + 1) (5 - 2) 2 rows=rows:=by
    show (if (T.now + 1) % 16 ^ 2=0 then _ else _)=_
    rw[if_neg (by simp only[Nat.reducePow];omega)]
   rw[jf,bu]
   refine Qg ?_
   refine ⟨(),?_⟩
   rw[← gC]
   exact To.dH (by exact Qw) fun b=>rfl
 ·have oE:((16 ^ 3:Nat):Int)=4096:=rfl
  have fb:((16 ^ 4:Nat):Int)=65536:=rfl
  have hm:Int.tmod ((T.now + 1:Nat):Int) 4096=(((T.now + 1) % 4096:Nat):Int):=oV (T.now + 1) 4096
  have hq:Int.tdiv ((T.now + 1:Nat):Int) 4096=(((T.now + 1) / 4096:Nat):Int):=pT (T.now + 1) 4096
  have jC:Int.tmod (((T.now + 1) / 4096:Nat):Int) 16=(((T.now + 1) / 4096 % 16:Nat):Int):=oV _ 16
  rw[gC,oE]
  refine Qh (An @aM (An @g0 @hm)) ?_
  (refine Qa (fun h1=>?_) (fun h1=>?_)<;>try exact h1.elim)
  ·refine Qg ?_
   (refine Qa (fun h2=>?_) (fun h2=>?_)<;>try exact h2.elim)
   have nO:(T.now + 1) / 4096 % 16 < 16:=Nat.mod_lt _ af
   have yg:nJ (T.now + 1) 3=48 + (T.now + 1) / 4096 % 16:=rfl
   generalize (T.now + 1) / 4096 % 16=sp at *
   have aW:=WT.fH jB (i:=48 + sp) af
   have cy:48 + sp < 65:=by omega
   have fc:2 + (48 + sp)=50 + sp:=by omega
   have vX:48 + sp + 1=49 + sp:=by omega
   rw[vX,fc]at aW
   have hl:T1.row (48 + sp)=rows.getD (48 + sp) []:=by rw[← bu];rfl
   have MV:=nR _ cy
   generalize mR:T1.row (48 + sp)=l at *
   refine Qh (An @aM (An @g0 (An @hq (An @jC @aW)))) ?_
   refine Yk (fun k:Nat=>k≤l.length) (fun k=>⟨[(0,.ptr 0 0),(2,.int .i64 4096),(3,.int .i64 3),(55,.isl l.length (bb l)),(56,.int .i64 l.length),(57,.int .i64 k)],WT.h { T with now:=T.now + 1,rows:=(l.take k).foldl (Xh (T.now + 1)) (rows.set (48 + sp) []) },67⟩) (fun k=>l.length - k) AT.mixed [0,1] a7
    ⟨0,by omega,?_⟩ fun k hk=>?_
   ·have eU:T1.put (48 + sp) []={ T with now:=T.now + 1,rows:=rows.set (48 + sp) [] }:=by rw[← bu];rfl
    show To _ _ ⟨_,WT.h { T with now:=T.now + 1,rows:=rows.set (48 + sp) [] },67⟩
    rw[← eU]
    refine To.off (k:=55) jB cy mR ?_ (fun b h1 h2=>?_) ?_ (by dsimp only;omega) ?_ av ?_
    ·show Qc ((0,_)::_) 67 0=_
     rw[Qd,if_pos rfl,vX]
    ·show Qc ((0,_)::(0,_)::(1,_)::_) 67 b=_
     rw[gC,Qd,if_neg af]
    ·exact Qu @aM
    ·exact Qu @fc
    ·have h1:=uG (Kt (48 + sp) 67) l
     have gF:=pR 67 l
     exact Qu (An @h1 @gF)
   have nh:=Ha (now:=T.now + 1) (l:=l) (nS (48 + sp) cy) k
   have iW:∀ j,j < 65→((l.take k).foldl (Xh (T.now + 1)) (rows.set (48 + sp) []) |>.getD j []).length≤1000000:=fun j hj=>by
    have h1:=nh.eA hj
    have h2:=(kh (48 + sp) cy).length_eq
    rw[List.length_append]at h1 h2
    rw[← hl]at h2
    simp only[List.length_reverse,List.length_take]at h1
    omega
   have iX:WT.wf { T with now:=T.now + 1,rows:=(l.take k).foldl (Xh (T.now + 1)) (rows.set (48 + sp) []) }:=⟨nh.len,hT.mb⟩
   have eY:k < l.length→∀ x,l[k]?=some x→(l.take (k + 1)).foldl (Xh (T.now + 1)) (rows.set (48 + sp) [])=Xh (T.now + 1) ((l.take k).foldl (Xh (T.now + 1)) (rows.set (48 + sp) [])) x:=fun _ x hx=>by
    rw[List.take_succ,hx];simp
   have cr:∀ x:Tm,(WT.row { T with now:=T.now + 1,rows:=(l.take k).foldl (Xh (T.now + 1)) (rows.set (48 + sp) []) } (Yy (T.now + 1) x.due)).length≤1000000:=fun x=>iW _ (vV _ _)
   have rB:WT.now { T with now:=T.now + 1,rows:=(l.take k).foldl (Xh (T.now + 1)) (rows.set (48 + sp) []) }=T.now + 1:=rfl
   generalize jA:({ T with now:=T.now + 1,rows:=(l.take k).foldl (Xh (T.now + 1)) (rows.set (48 + sp) []) }:WT)=Tk at *
   have tc:=WT.aM iX
   have dz:=Zq l
   refine Qg ?_
   (refine Qa (fun h3=>?_) (fun h3=>?_)<;>try exact h3.elim)
   ·have bF:k < l.length:=by omega
    have a8:=vW l k bF
    have ep:=eY bF l[k] (by simp[bF])
    have sV:l[k].due≤1099511627776:=bI (48 + sp) cy l[k] (by rw[← hl];exact List.getElem_mem _)
    generalize l[k]=x at *
    have cN:=yb c.gl Tk iX x (by rw[rB];omega) sV (by rw[rB];exact cr x)
    refine Qh (An @dz (An @a8 @tc)) ?_
    refine ru cN iX (fun _ _=>WT.eB iX x) a7 (by simp[iq]) [(0,.ptr 0 0),(2,.int .i64 4096),(3,.int .i64 3),(55,.isl l.length (bb l)),(56,.int .i64 l.length),(57,.int .i64 k),(61,.ptr 0 0),(62,.agg [.int .i64 x.id,.int .i64 x.due])] [(67,.cells [.int .i64 x.id,.int .i64 x.due])] 68 (To.dH (by exact Qw) fun b=>?_) (by simp[ny,cT,cP]) ?_ (by simp[Qe,ai]) fun _ _=>?_
    ·simp only[List.cons_append,List.nil_append,Qd];(repeat' split)<;>rfl
    ·exact Qw
    ·refine Qg ?_
     refine ⟨k + 1,by omega,?_,by omega⟩
     have yh:Tk.lay x={ T with now:=T.now + 1,rows:=(l.take (k + 1)).foldl (Xh (T.now + 1)) (rows.set (48 + sp) []) }:=by rw[WT.iD,ep,← jA]
     rw[← yh]
     refine To.dC (ex:=[(67,.cells [.int .i64 x.id,.int .i64 x.due])]) (WT.eB iX x) av av ?_
     have h1:=pR 67 l
     have h2:az id (bb l)=bb l:=Jy _
     have h3:id 0=0:=rfl
     exact Qu (An @h1 (An @h2 @h3))
   ·obtain rfl:k=l.length:=by omega
    rw[List.take_length]at jA
    have fM:(l.foldl (Xh (T.now + 1)) (rows.set (48 + sp) []))=cb (T.now + 1) rows (48 + sp):=by unfold cb;rw[← hl]
    have jf:Jl (T.now + 1) (5 - 3) 3 rows=Jl (T.now + 1) (5 - (3 + 1)) (3 + 1) (cb (T.now + 1) rows (48 + sp)):=by
     rw[← yg]
     show (if (T.now + 1) % 16 ^ 3=0 then _ else _)=_
     rw[if_pos (by simp only[Nat.reducePow];omega)]
    refine Ut ?_
    refine ⟨(3 + 1,cb (T.now + 1) rows (48 + sp)),⟨by simp,by simp,hrel _ cy,by dsimp only;rw[← jf];exact bE⟩,?_,by dsimp only;omega⟩
    rw[fM]at jA
    dsimp only
    rw[jA]
    refine To.dH ?_ fun b=>rfl
    exact Qu @fb
  ·have jf:Jl (T.now + 1) (5 - 3) 3 rows=rows:=by
    show (if (T.now + 1) % 16 ^ 3=0 then _ else _)=_
    rw[if_neg (by simp only[Nat.reducePow];omega)]
   rw[jf,bu]
   refine Qg ?_
   refine ⟨(),?_⟩
   rw[← gC]
   exact To.dH (by exact Qw) fun b=>rfl
 ·have oE:((16 ^ 4:Nat):Int)=65536:=rfl
  have fb:((16 ^ 5:Nat):Int)=1048576:=rfl
  have hm:Int.tmod ((T.now + 1:Nat):Int) 65536=(((T.now + 1) % 65536:Nat):Int):=oV (T.now + 1) 65536
  have hq:Int.tdiv ((T.now + 1:Nat):Int) 65536=(((T.now + 1) / 65536:Nat):Int):=pT (T.now + 1) 65536
  have jC:Int.tmod (((T.now + 1) / 65536:Nat):Int) 16=(((T.now + 1) / 65536 % 16:Nat):Int):=oV _ 16
  rw[gC,oE]
  refine Qh (An @aM (An @g0 @hm)) ?_
  (refine Qa (fun h1=>?_) (fun h1=>?_)<;>try exact h1.elim)
  ·refine Qg ?_
   (refine Qa (fun h2=>?_) (fun h2=>?_)<;>try exact h2.elim)
   have yg:nJ (T.now + 1) 4=64:=rfl
   have aW:=WT.fH jB (i:=64) af
   have cy:64 < 65:=by omega
   simp only[Nat.reduceAdd]at aW
   have hl:T1.row 64=rows.getD 64 []:=by rw[← bu];rfl
   have MV:=nR _ cy
   generalize mR:T1.row 64=l at *
   refine Qh (An @aM (An @g0 @aW)) ?_
   refine Yk (fun k:Nat=>k≤l.length) (fun k=>⟨[(0,.ptr 0 0),(2,.int .i64 65536),(3,.int .i64 4),(55,.isl l.length (bb l)),(56,.int .i64 l.length),(57,.int .i64 k)],WT.h { T with now:=T.now + 1,rows:=(l.take k).foldl (Xh (T.now + 1)) (rows.set 64 []) },67⟩) (fun k=>l.length - k) AT.mixed [0,1] a7
    ⟨0,by omega,?_⟩ fun k hk=>?_
   ·have eU:T1.put 64 []={ T with now:=T.now + 1,rows:=rows.set 64 [] }:=by rw[← bu];rfl
    show To _ _ ⟨_,WT.h { T with now:=T.now + 1,rows:=rows.set 64 [] },67⟩
    rw[← eU]
    refine To.off (k:=55) jB cy mR ?_ (fun b h1 h2=>?_) ?_ (by dsimp only;omega) ?_ av ?_
    ·show Qc ((0,_)::_) 67 0=_
     rw[Qd,if_pos rfl]
    ·show Qc ((0,_)::(0,_)::(1,_)::_) 67 b=_
     rw[gC,Qd,if_neg af]
    ·exact Qu @aM
    ·exact Qw
    ·have h1:=uG (Kt 64 67) l
     have gF:=pR 67 l
     exact Qu (An @h1 @gF)
   have nh:=Ha (now:=T.now + 1) (l:=l) (nS 64 cy) k
   have iW:∀ j,j < 65→((l.take k).foldl (Xh (T.now + 1)) (rows.set 64 []) |>.getD j []).length≤1000000:=fun j hj=>by
    have h1:=nh.eA hj
    have h2:=(kh 64 cy).length_eq
    rw[List.length_append]at h1 h2
    rw[← hl]at h2
    simp only[List.length_reverse,List.length_take]at h1
    omega
   have iX:WT.wf { T with now:=T.now + 1,rows:=(l.take k).foldl (Xh (T.now + 1)) (rows.set 64 []) }:=⟨nh.len,hT.mb⟩
   have eY:k < l.length→∀ x,l[k]?=some x→(l.take (k + 1)).foldl (Xh (T.now + 1)) (rows.set 64 [])=Xh (T.now + 1) ((l.take k).foldl (Xh (T.now + 1)) (rows.set 64 [])) x:=fun _ x hx=>by
    rw[List.take_succ,hx];simp
   have cr:∀ x:Tm,(WT.row { T with now:=T.now + 1,rows:=(l.take k).foldl (Xh (T.now + 1)) (rows.set 64 []) } (Yy (T.now + 1) x.due)).length≤1000000:=fun x=>iW _ (vV _ _)
   have rB:WT.now { T with now:=T.now + 1,rows:=(l.take k).foldl (Xh (T.now + 1)) (rows.set 64 []) }=T.now + 1:=rfl
   generalize jA:({ T with now:=T.now + 1,rows:=(l.take k).foldl (Xh (T.now + 1)) (rows.set 64 []) }:WT)=Tk at *
   have tc:=WT.aM iX
   have dz:=Zq l
   refine Qg ?_
   (refine Qa (fun h3=>?_) (fun h3=>?_)<;>try exact h3.elim)
   ·have bF:k < l.length:=by omega
    have a8:=vW l k bF
    have ep:=eY bF l[k] (by simp[bF])
    have sV:l[k].due≤1099511627776:=bI 64 cy l[k] (by rw[← hl];exact List.getElem_mem _)
    generalize l[k]=x at *
    have cN:=yb c.gl Tk iX x (by rw[rB];omega) sV (by rw[rB];exact cr x)
    refine Qh (An @dz (An @a8 @tc)) ?_
    refine ru cN iX (fun _ _=>WT.eB iX x) a7 (by simp[iq]) [(0,.ptr 0 0),(2,.int .i64 65536),(3,.int .i64 4),(55,.isl l.length (bb l)),(56,.int .i64 l.length),(57,.int .i64 k),(61,.ptr 0 0),(62,.agg [.int .i64 x.id,.int .i64 x.due])] [(67,.cells [.int .i64 x.id,.int .i64 x.due])] 68 (To.dH (by exact Qw) fun b=>?_) (by simp[ny,cT,cP]) ?_ (by simp[Qe,ai]) fun _ _=>?_
    ·simp only[List.cons_append,List.nil_append,Qd];(repeat' split)<;>rfl
    ·exact Qw
    ·refine Qg ?_
     refine ⟨k + 1,by omega,?_,by omega⟩
     have yh:Tk.lay x={ T with now:=T.now + 1,rows:=(l.take (k + 1)).foldl (Xh (T.now + 1)) (rows.set 64 []) }:=by rw[WT.iD,ep,← jA]
     rw[← yh]
     refine To.dC (ex:=[(67,.cells [.int .i64 x.id,.int .i64 x.due])]) (WT.eB iX x) av av ?_
     have h1:=pR 67 l
     have h2:az id (bb l)=bb l:=Jy _
     have h3:id 0=0:=rfl
     exact Qu (An @h1 (An @h2 @h3))
   ·obtain rfl:k=l.length:=by omega
    rw[List.take_length]at jA
    have fM:(l.foldl (Xh (T.now + 1)) (rows.set 64 []))=cb (T.now + 1) rows 64:=by unfold cb;rw[← hl]
    have jf:Jl (T.now + 1) (5 - 4) 4 rows=Jl (T.now + 1) (5 - (4 + 1)) (4 + 1) (cb (T.now + 1) rows 64):=by
     rw[← yg]
     show (if (T.now + 1) % 16 ^ 4=0 then _ else _)=_
     rw[if_pos (by simp only[Nat.reducePow];omega)]
    refine Ut ?_
    refine ⟨(4 + 1,cb (T.now + 1) rows 64),⟨by simp,by simp,hrel _ cy,by dsimp only;rw[← jf];exact bE⟩,?_,by dsimp only;omega⟩
    rw[fM]at jA
    dsimp only
    rw[jA]
    refine To.dH ?_ fun b=>rfl
    exact Qu @fb
  ·have jf:Jl (T.now + 1) (5 - 4) 4 rows=rows:=by
    show (if (T.now + 1) % 16 ^ 4=0 then _ else _)=_
    rw[if_neg (by simp only[Nat.reducePow];omega)]
   rw[jf,bu]
   refine Qg ?_
   refine ⟨(),?_⟩
   rw[← gC]
   exact To.dH (by exact Qw) fun b=>rfl
 ·have jf:Jl (T.now + 1) (5 - 5) 5 rows=rows:=rfl
  rw[jf,bu,gC]
  refine Qg ?_
  (refine Qa (fun h1=>?_) (fun h1=>?_)<;>try exact h1.elim)
  refine Qg ?_
  refine ⟨(),?_⟩
  rw[← gC]
  exact To.dH (by exact Qw) fun b=>rfl
def Ks (D:List Tm) (to:Nat):Nat:=D.foldl (fun m t=>min m t.due) to
theorem DB:∀ (D:List Tm) (to:Nat),Ks D to≤to∧(∀ t ∈ D,Ks D to≤t.due)∧(Ks D to=to∨∃ t ∈ D,t.due=Ks D to)
 | [],to=>⟨Nat.le_refl _,fun t ht=>(by cases ht),.inl rfl⟩
 | a::D,to=>by
  obtain ⟨h1,h2,h3⟩:=DB D (min to a.due)
  have e:Ks (a::D) to=Ks D (min to a.due):=rfl
  rw[e]
  refine ⟨by omega,fun t ht=>?_,?_⟩
  ·rcases List.mem_cons.1 ht with rfl|ht
   ·omega
   ·exact h2 t ht
  ·rcases h3 with h3|⟨t,ht,h3⟩
   ·by_cases h:to≤a.due
    ·left;omega
    ·right;exact ⟨a,by simp,by omega⟩
   ·right;exact ⟨t,by simp[ht],h3⟩
theorem Xek {D:List Tm} {to m:Nat} (h1:m≤to) (h2:∀ t ∈ D,m≤t.due) (h3:m=to∨∃ t ∈ D,t.due=m):m=Ks D to:=by
 obtain ⟨g1,g2,g3⟩:=DB D to
 rcases h3 with h3|⟨t,ht,h3⟩<;>rcases g3 with g3|⟨t',mq,g3⟩
 ·omega
 ·have:=h2 t' mq;omega
 ·have:=g2 t ht;omega
 ·have:=h2 t' mq;have:=g2 t ht;omega
theorem DC:∀ (n:Nat) (S:List Nat),S.Nodup→(∀ i ∈ S,i < n)→S.length≤n
 | 0,S,_,h=>by
  cases S with
  | nil=>simp
  | cons a S=>have:=h a av;omega
 | n + 1,S,hd,h=>by
  have:=DC n (S.erase n) (hd.erase n) fun i hi=>by
   have:=(hd.mem_erase_iff).1 hi
   have:=h i this.2;omega
  rw[List.length_erase]at this
  split at this<;>omega
theorem Xqm {S:List Nat} {n:Nat} (hd:S.Nodup) (h:∀ i ∈ S,i < n) (b8:∀ i,i < n→i ∈ S):S.Perm (List.range n):=by
 rw[List.perm_iff_count]
 intro a
 rw[hd.count,(List.nodup_range).count]
 by_cases ha:a < n
 ·rw[if_pos (b8 a ha),if_pos (List.mem_range.2 ha)]
 ·rw[if_neg fun hm=>ha (h a hm),if_neg fun hm=>ha (List.mem_range.1 hm)]
theorem Xor (D:List Tm):(List.range D.length).map (fun i=>D.getD i default)=D:=by
 refine List.ext_getElem av fun i h1 h2=>?_
 simp[List.getD,h2]
theorem UF {bs:List Nat} {n ck:Nat} (h:KW bs n ck) {i j:Nat} (hi:i < n) (hj:j < n) (e:bs.getD i 0=bs.getD j 0):i=j:=by
 by_cases h1:i < j
 ·have:=h.2.1 i j h1 hj;omega
 by_cases h2:j < i
 ·have:=h.2.1 j i h2 hi;omega
 omega
theorem UG (D:List Tm) (i:Nat) (h:i < D.length):(br D).getD i (.any,.any)=(.int .i64 (D.getD i default).id,.int .i64 (D.getD i default).due):=by
 simp[br,List.getD,h]
def Ke (m:Nat) (mb:Bk):WT:={ now:=m,rows:=List.replicate 65 [],mb:=mb }
theorem UH (m:Nat) (mb:Bk) (i:Nat):(Ke m mb).row i=[]:=by
 unfold WT.row Ke
 simp only[List.getD,List.getElem?_replicate]
 split<;>rfl
def nT (m:Int):List AV:=.int .i64 m::(List.replicate 65 .nils++[.mp 1])
theorem UI (m:Int) (j:Nat) (h:j < 65):(nT m)[j + 1]?=some .nils:=by
 unfold nT
 rw[List.getElem?_cons_succ,List.getElem?_append_left (by simpa using h),List.getElem?_replicate,if_pos h]
theorem UJ (m:Int):(nT m).length=67:=by simp[nT]
theorem Xpz (m:Int):(nT m).getD 0 .any=.int .i64 m:=rfl
theorem UK (m:Int):(nT m).getD 66 .any=.mp 1:=rfl
theorem To.vY {p:List Nat} {s:St} {m:Int} (h0:Qc s.h s.n 0=.cells (nT m)) (hf:∀ j,Qc s.h (s.n + j) (s.n + j)=.free) (hn:2≤s.n):∀ j,j≤65→∃ h cs,To p s ⟨s.t,h,s.n + j⟩∧Qc h (s.n + j) 0=.cells cs∧cs.length=67∧(∀ i,i < 67→cs.getD i .any=if 1≤i∧i≤j then .sl 2 (s.n + (i - 1)) 0 0 0 else (nT m).getD i .any)∧(∀ i,i < j→Qc h (s.n + j) (s.n + i)=.cells [])∧(∀ b,b≠0→b < s.n→Qc h (s.n + j) b=Qc s.h s.n b)∧∀ k,j≤k→Qc h (s.n + k) (s.n + k)=.free
 | 0,_=>⟨s.h,nT m,To.refl _ _,h0,UJ m,fun i hi=>by rw[if_neg af],fun i hi=>by omega,fun b _ _=>rfl,fun k _=>hf k⟩
 | j + 1,hj=>by
  obtain ⟨h,cs,g1,g2,g3,g4,g5,g6,g7⟩:=To.vY (p:=p) h0 hf hn j af
  have DD:cs[j + 1]?=some .nils:=by
   have:=g4 (j + 1) af
   rw[if_neg af]at this
   have hn:=UI m j af
   have e1:(nT m).getD (j + 1) .any=.nils:=by simp[List.getD,hn]
   rw[e1]at this
   have hl:j + 1 < cs.length:=by omega
   simpa [List.getD,hl] using this
  refine ⟨(0,.cells (cs.set (j + 1) (.sl 2 (s.n + j) 0 0 0)))::(s.n + j,.cells [])::h,cs.set (j + 1) (.sl 2 (s.n + j) 0 0 0),g1.trans (To.kP (s:=⟨s.t,h,s.n + j⟩) g2 DD (g7 j (Nat.le_refl j))),?_,by simp[g3],fun i hi=>?_,fun i hi=>?_,fun b hb dR=>?_,fun k hk=>?_⟩
  ·rw[Qd,if_pos rfl]
  ·have bw:∀ v,(cs.set (j + 1) v).getD i .any=if i=j + 1 then v else cs.getD i .any:=fun v=>by
    simp only[List.getD,List.getElem?_set]
    by_cases e:j + 1=i
    ·subst e;rw[if_pos rfl,if_pos af,if_pos rfl];rfl
    ·rw[if_neg e,if_neg fun q=>e q.symm]
   rw[bw,g4 i hi]
   by_cases e:i=j + 1
   ·subst e;rw[if_pos rfl,if_pos af];rfl
   ·rw[if_neg e]
    by_cases e2:1≤i∧i≤j
    ·rw[if_pos e2,if_pos af]
    ·rw[if_neg e2,if_neg af]
  ·rw[Qd,if_neg af,Qd]
   by_cases e:i=j
   ·subst e;rw[if_pos rfl]
   ·rw[if_neg af,show s.n + (j + 1)=s.n + j + 1 by omega,We _ _ _ af]
    exact g5 i af
  ·rw[Qd,if_neg fun e=>hb e.symm,Qd,if_neg af,show s.n + (j + 1)=s.n + j + 1 by omega,We _ _ _ af]
   exact g6 b hb dR
  ·rw[Qd,if_neg af,Qd,if_neg af]
   exact g7 k af
def kL (N b:Nat):Nat:=if 2≤b∧b < 67 then N + (b - 2) else b
theorem To.nils {p:List Nat} {s:St} {m:Nat} {mb:Bk} {t':List (Nat × AV)} (h0:Qc s.h s.n 0=.cells (nT m)) (hf:∀ j,Qc s.h (s.n + j) (s.n + j)=.free) (hn:2≤s.n) (h1:Qc s.h s.n 1=mb) (eR:bJ 2 mb) (hp:∀ b,b ∈ p→b < 2) (ht:Qy (kL s.n) 67 s.t t'):To p s ⟨t',(Ke m mb).h,67⟩:=by
 obtain ⟨h,cs,g1,g2,g3,g4,g5,g6,g7⟩:=To.vY (p:=p) h0 hf af 65 (Nat.le_refl _)
 have hw:(Ke m mb).wf:=⟨by simp[Ke],eR⟩
 refine g1.trans (To.wh (ex:=[]) hw (kL s.n) (fun b hb=>⟨by unfold kL;rw[if_neg (by have:=hp b hb;omega)],by have:=hp b hb;omega⟩) af (fun b b' hb bL e=>?_) ?_ ?_ (fun i hi=>?_) ht trivial (fun q hq=>by cases hq))
 ·unfold kL at e
  (repeat' split at e)<;>omega
 ·show Qc h (s.n + 65) (kL s.n 0)=_
  rw[show kL s.n 0=0 by unfold kL;rw[if_neg af],g2]
  congr 1
  refine GR (by rw[Ys,g3,WT.len hw]) fun j hj=>?_
  rw[g3]at hj
  rw[g4 j hj,Ku]
  rcases WT.fI hw j hj with rfl|rfl|⟨i,hi,rfl⟩
  ·rw[if_neg af,WT.il,Xpz];simp[aE,Ke]
  ·rw[if_neg af,WT.eJ hw,UK];simp[aE,kL]
  ·rw[if_pos af,WT.fH hw hi,UH]
   simp only[aE,kL,List.length_nil]
   rw[if_pos af]
   congr 1
   omega
 ·show Qc h (s.n + 65) (kL s.n 1)=_
  rw[show kL s.n 1=1 by unfold kL;rw[if_neg af],g6 1 af af,h1]
  exact (Dw (fun b hb=>by unfold kL;rw[if_neg af]) eR).symm
 ·show Qc h (s.n + 65) (kL s.n (2 + i))=_
  rw[UH]
  unfold kL
  rw[if_pos af,show 2 + i - 2=i by omega]
  exact g5 i hi
theorem Xkj (cs vs:List AV) (off j:Nat) (h:off≤cs.length):(Yx cs off vs).getD j .any=if j < off then cs.getD j .any else if j < off + vs.length then vs.getD (j - off) .any else cs.getD j .any:=by
 unfold Yx
 simp only[List.getD,List.append_assoc,List.getElem?_append,List.length_take]
 by_cases h1:j < off
 ·rw[if_pos af,if_pos h1,List.getElem?_take_of_lt h1]
 ·rw[if_neg af,if_neg h1,show min off cs.length=off by omega]
  by_cases h2:j < off + vs.length
  ·rw[if_pos af,if_pos h2]
  ·rw[if_neg af,if_neg h2,List.getElem?_drop]
   congr 2;omega
theorem Yad {T:WT} (hT:T.wf) (m:Int):(Yx (T.cells.set 0 (.int .i64 m)) 1 [.nils,.nils,.nils,.nils,.nils,.nils,.nils,.nils,.nils,.nils,.nils,.nils,.nils,.nils,.nils,.nils,.nils,.nils,.nils,.nils,.nils,.nils,.nils,.nils,.nils,.nils,.nils,.nils,.nils,.nils,.nils,.nils,.nils,.nils,.nils,.nils,.nils,.nils,.nils,.nils,.nils,.nils,.nils,.nils,.nils,.nils,.nils,.nils,.nils,.nils,.nils,.nils,.nils,.nils,.nils,.nils,.nils,.nils,.nils,.nils,.nils,.nils,.nils,.nils]).set 65 .nils=nT m:=by
 have hl:=WT.len hT
 have e:([.nils,.nils,.nils,.nils,.nils,.nils,.nils,.nils,.nils,.nils,.nils,.nils,.nils,.nils,.nils,.nils,.nils,.nils,.nils,.nils,.nils,.nils,.nils,.nils,.nils,.nils,.nils,.nils,.nils,.nils,.nils,.nils,.nils,.nils,.nils,.nils,.nils,.nils,.nils,.nils,.nils,.nils,.nils,.nils,.nils,.nils,.nils,.nils,.nils,.nils,.nils,.nils,.nils,.nils,.nils,.nils,.nils,.nils,.nils,.nils,.nils,.nils,.nils,.nils]:List AV)=List.replicate 64 .nils:=rfl
 rw[e]
 have hlen:(Yx (T.cells.set 0 (.int .i64 m)) 1 (List.replicate 64 .nils)).length=67:=by simp[Yx,hl]
 refine GR (by rw[List.length_set,hlen,UJ]) fun j hj=>?_
 rw[List.length_set,hlen]at hj
 have bw:∀ (l:List AV) (i:Nat) (v:AV),i < l.length→(l.set i v).getD j .any=if j=i then v else l.getD j .any:=fun l i v hi=>by
  simp only[List.getD,List.getElem?_set]
  by_cases e:i=j
  ·subst e;rw[if_pos rfl,if_pos hi,if_pos rfl];rfl
  ·rw[if_neg e,if_neg fun q=>e q.symm]
 rw[bw _ _ _ af,Xkj _ _ _ _ (by simp[hl])]
 rcases WT.fI hT j hj with rfl|rfl|⟨i,hi,rfl⟩
 ·rw[if_neg af,if_pos af,bw _ _ _ af,if_pos rfl];rfl
 ·rw[if_neg af,if_neg af,if_neg av,bw _ _ _ af,if_neg af,WT.eJ hT];rfl
 ·have hn:=UI m i hi
  have e1:(nT m).getD (i + 1) .any=.nils:=by simp[List.getD,hn]
  rw[e1]
  by_cases e2:i + 1=65
  ·rw[if_pos e2]
  ·rw[if_neg e2,if_neg af,if_pos (by rw[List.length_replicate];omega)]
   simp only[List.getD,List.getElem?_replicate]
   rw[if_pos af];rfl
def WT.yi (D:List Tm) (m:Nat) (T':WT):Prop:=∃ l:List Tm,l.Perm D∧T'={ now:=m,rows:=l.foldl (Xh m) (List.replicate 65 []),mb:=.aC (br D) false }
set_option maxHeartbeats 4000000 in
set_option maxRecDepth 20000 in
theorem Xvj (gl:Nat→AV) (T:WT) (D:List Tm) (dn:Bool) (hlen:T.rows.length=65) (eR:T.mb=.aC (br D) dn) (hD:D.length≤100000) (mQ:∀ t ∈ D,t.due≤1099511627776) (to:Nat) (gT:to≤1099511627776) :
  GQ Tryz.prog gl 138 [.ptr 0 0,.int .i64 to] T.h 67 [0,1] (fun T':WT=>T'.yi D (Ks D to)) (fun _=>.aU []) WT.h:=by
 have hT:=uK hlen eR
 refine MH.gq (of_decide_eq_true rfl) (fun q hq=>Xj (((WT.HL hT).mem q hq).2)) av fun c a7 hg=>?_
 conv in aQ _ _=>cbv
 have aM:=fun n b hb=>WT.gX hT n (b:=b) hb
 have kJ:=WT.eJ hT
 have aX:=WT.len hT
 have nM:T.h=(0,.cells T.cells)::(1,.aC (br D) dn)::Kg T.rows 0:=by rw[← eR];rfl
 rw[nM]
 refine Qh @kJ ?_
 refine RW ke rfl rfl (by exact Qu @aM) fun bs ck ep=>?_
 rw[ry]at ep
 refine Qg ?_
 refine Yk (fun y:List Nat × Nat=>y.1.Nodup∧(∀ i ∈ y.1,i < D.length)∧y.2≤to∧(∀ i ∈ y.1,y.2≤(D.getD i default).due)∧(y.2=to∨∃ t ∈ D,t.due=y.2))
  (fun y=>⟨[(0,.ptr 0 0),(4,.int .i64 y.2),(14,.ptr 67 0)],(67,.iter 1 ck (y.1.map fun i=>bs.getD i 0))::(0,.cells T.cells)::(1,.bm (br D) bs ck)::Kg T.rows 0,68⟩) (fun y=>D.length - y.1.length) MH.mixed [0,1] a7
  ⟨([],to),⟨by simp,by simp,by simp,by simp,.inl rfl⟩,To.dH (by exact Qw) fun b=>?_⟩ fun y hy=>?_
 ·simp only[List.map_nil,Qd]
  (repeat' split)<;>first|rfl|omega
 obtain ⟨S,m⟩:=y
 obtain ⟨oG,td,DE,Hb,Hc⟩:=hy
 dsimp only at oG td DE Hb Hc ⊢
 have MW:=DC _ S oG td
 refine Qg ?_
 refine RX (bi:=67) (b:=1) (ck:=ck) (seen:=S.map fun i=>bs.getD i 0) (bs:=bs) (kvs:=br D) rfl (by exact Qw) (by exact Qw) (fun b8=>?_) (fun i cJ Br=>?_)
 ·rw[ry]at b8
  have nU:∀ i,i < D.length→i ∈ S:=fun i hi=>by
   obtain ⟨j,hj,e⟩:=List.mem_map.1 (b8 i hi)
   rw[UF ep hi (td j hj) e.symm];exact hj
  have hm:m=Ks D to:=Xek DE (fun t ht=>by
   obtain ⟨i,hi,rfl⟩:=List.mem_iff_getElem.1 ht
   have:=Hb i (nU i hi)
   simpa [List.getD,hi] using this) Hc
  subst hm
  clear nU b8 Hb oG td MW Hc
  have Dd:Ks D to≤1099511627776:=by omega
  generalize Ks D to=m at *
  refine Qg ?_
  (refine Qa (fun h1=>?_) (fun h1=>?_)<;>try exact h1.elim)
  refine Qh (An @aM @kJ) ?_
  rw[Yad hT m]
  refine pJ a7 (s':=⟨[(0,.ptr 0 0),(36,.mp 1)],(Ke m (.aC (br D) false)).h,67⟩) (To.trans (To.F5 (b:=1) rfl) (To.nils (m:=m) (mb:=.aC (br D) false) rfl (fun j=>?_) (by show 2≤68;omega) rfl (Uw 2 D) av ?_)) ?_
  ·show Qc ((1,_)::(0,_)::(0,_)::(0,_)::(67,_)::(0,_)::(1,_)::Kg T.rows 0) (68 + j) (68 + j)=.free
   (repeat rw[Qd,if_neg af])
   rw[aM _ _ af,if_neg af]
  ·have h1:kL 68 0=0:=rfl
   have h2:kL 68 1=1:=rfl
   exact Qu (An @h1 (An @h2 @UK))
  have hwe:(Ke m (.aC (br D) false)).wf:=⟨by simp[Ke],Uw 2 D⟩
  have hHe:=WT.aM hwe
  refine RW ke (b:=1) (kvs:=br D) (dn:=false) rfl rfl (by exact Qu @hHe) fun fQ gD DF=>?_
  rw[ry]at DF
  refine Qg ?_
  refine Yk (fun S:List Nat=>S.Nodup∧(∀ i ∈ S,i < D.length))
   (fun S=>⟨[(0,.ptr 0 0),(37,.ptr 67 0)],(67,.iter 1 gD (S.map fun i=>fQ.getD i 0))::WT.h { now:=m,rows:=(S.map fun i=>D.getD i default).foldl (Xh m) (List.replicate 65 []),mb:=.bm (br D) fQ gD },68⟩) (fun S=>D.length - S.length) MH.mixed [0,1] a7
   ⟨[],⟨by simp,by simp⟩,To.dH (by exact Qw) fun b=>?_⟩ fun S hy=>?_
  ·show Qc ((67,.iter 1 gD [])::WT.h { now:=m,rows:=List.replicate 65 [],mb:=.bm (br D) fQ gD }) 68 b=Qc ((67,.iter 1 gD [])::(1,.bm (br D) fQ gD)::(Ke m (.aC (br D) false)).h) 68 b
   have yj:WT.cells { now:=m,rows:=List.replicate 65 [],mb:=.bm (br D) fQ gD }=(Ke m (.aC (br D) false)).cells:=rfl
   have q1:(Ke m (.aC (br D) false)).rows.length=65:=by simp[Ke]
   have q2:(List.replicate 65 ([]:List Tm)).length=65:=by simp
   simp only[Qd,WT.bA,yj]
   (repeat' split)<;>first|rfl|omega
  obtain ⟨oG,td⟩:=hy
  have MW:=DC _ S oG td
  have pV:RI (fun _ _=>True) ((S.map fun i=>D.getD i default).foldl (Xh m) (List.replicate 65 [])) ((S.map fun i=>D.getD i default).reverse++[]):=RI.jz _ ⟨by simp,by simp,fun _ _ _ _=>trivial⟩ fun _ _=>trivial
  have Hd:WT.wf { now:=m,rows:=(S.map fun i=>D.getD i default).foldl (Xh m) (List.replicate 65 []),mb:=.bm (br D) fQ gD }:=⟨pV.len,Uw 2 D⟩
  have yk:∀ n,Qc (WT.h { now:=m,rows:=(S.map fun i=>D.getD i default).foldl (Xh m) (List.replicate 65 []),mb:=.bm (br D) fQ gD }) n 1=.bm (br D) fQ gD:=fun n=>rfl
  have MX:∀ i,i < 65→(WT.row { now:=m,rows:=(S.map fun i=>D.getD i default).foldl (Xh m) (List.replicate 65 []),mb:=.bm (br D) fQ gD } i).length≤1000000:=fun i hi=>by
   have:=pV.eA hi
   simp only[List.append_nil,List.length_reverse,List.length_map]at this
   exact Nat.le_trans this af
  have eY:∀ j,Xh m ((S.map fun i=>D.getD i default).foldl (Xh m) (List.replicate 65 [])) (D.getD j default)=((S++[j]).map fun i=>D.getD i default).foldl (Xh m) (List.replicate 65 []):=fun j=>by simp
  have bE:(∀ i,i < D.length→i ∈ S)→WT.yi D m { now:=m,rows:=(S.map fun i=>D.getD i default).foldl (Xh m) (List.replicate 65 []),mb:=.aC (br D) false }:=fun h=>⟨_,by
   have:=(Xqm oG td h).map fun i=>D.getD i default
   rwa [Xor]at this,rfl⟩
  have hHS:=WT.aM Hd
  have hnS:WT.now { now:=m,rows:=(S.map fun i=>D.getD i default).foldl (Xh m) (List.replicate 65 []),mb:=.bm (br D) fQ gD }=m:=rfl
  have eC:∀ x,WT.lay { now:=m,rows:=(S.map fun i=>D.getD i default).foldl (Xh m) (List.replicate 65 []),mb:=.bm (br D) fQ gD } x={ now:=m,rows:=Xh m ((S.map fun i=>D.getD i default).foldl (Xh m) (List.replicate 65 [])) x,mb:=.bm (br D) fQ gD }:=fun x=>rfl
  have oC:∀ b,Qc (WT.h { now:=m,rows:=(S.map fun i=>D.getD i default).foldl (Xh m) (List.replicate 65 []),mb:=.aC (br D) false }) 68 b=Qc ((1,.aC (br D) false)::WT.h { now:=m,rows:=(S.map fun i=>D.getD i default).foldl (Xh m) (List.replicate 65 []),mb:=.bm (br D) fQ gD }) 68 b:=fun b=>by
   have yj:WT.cells { now:=m,rows:=(S.map fun i=>D.getD i default).foldl (Xh m) (List.replicate 65 []),mb:=.aC (br D) false }=WT.cells { now:=m,rows:=(S.map fun i=>D.getD i default).foldl (Xh m) (List.replicate 65 []),mb:=.bm (br D) fQ gD }:=rfl
   simp only[Qd,WT.bA,yj]
   (repeat' split)<;>first|rfl|omega
  generalize hTS:({ now:=m,rows:=(S.map fun i=>D.getD i default).foldl (Xh m) (List.replicate 65 []),mb:=.bm (br D) fQ gD }:WT)=TS at *
  refine Qg ?_
  refine RX (bi:=67) (b:=1) (ck:=gD) (seen:=S.map fun i=>fQ.getD i 0) (bs:=fQ) (kvs:=br D) rfl (by exact Qw) (by exact Qu @yk) (fun b8=>?_) (fun i cJ Br=>?_)
  ·rw[ry]at b8
   have nU:∀ i,i < D.length→i ∈ S:=fun i hi=>by
    obtain ⟨j,hj,e⟩:=List.mem_map.1 (b8 i hi)
    rw[UF DF hi (td j hj) e.symm];exact hj
   refine Qg ?_
   (refine Qa (fun h2=>?_) (fun h2=>?_)<;>try exact h2.elim)
   refine Qg ?_
   refine ⟨_,bE nU,To.trans (To.F5 (b:=1) (kvs:=br D) (bs:=fQ) (ck:=gD) ?_) (To.trans (To.dH (t':=[(0,.aU [])]) (h':=(67,.iter 1 gD (S.map fun i=>fQ.getD i 0))::WT.h { now:=m,rows:=(S.map fun i=>D.getD i default).foldl (Xh m) (List.replicate 65 []),mb:=.aC (br D) false }) (n':=68) ?_ fun b=>?_) (To.dC (ex:=[(67,.iter 1 gD (S.map fun i=>fQ.getD i 0))]) ⟨pV.len,Uw 2 D⟩ av av (by simp[Qy,Qe,ai,look,aE,az])))⟩
   ·show Qc ((67,.iter 1 gD (S.map fun i=>fQ.getD i 0))::TS.h) 68 1=_
    rw[Qd,if_neg af,yk]
   ·exact Qw
   ·have:=oC b
    show Qc ((67,.iter 1 gD (S.map fun i=>fQ.getD i 0))::WT.h { now:=m,rows:=(S.map fun i=>D.getD i default).foldl (Xh m) (List.replicate 65 []),mb:=.aC (br D) false }) 68 b=Qc ((1,.aC (br D) false)::(67,.iter 1 gD (S.map fun i=>fQ.getD i 0))::TS.h) 68 b
    rw[Qd,Qd,Qd,this,Qd]
    (repeat' split)<;>first|rfl|omega
  ·rw[ry]at cJ
   have MY:i ∉ S:=fun h=>Br (List.mem_map.2 ⟨i,h,rfl⟩)
   have aW:=UG D i cJ
   have He:D.getD i default ∈ D:=by simp[List.getD,cJ]
   have FN:=mQ _ He
   have MZ:=eY i
   generalize hx:D.getD i default=x at *
   have cN:=yb c.gl TS Hd x (by rw[hnS];exact Dd) FN (MX _ (vV _ _))
   have rC:(S++[i]).Nodup:=by
    rw[List.nodup_append]
    exact ⟨oG,by simp,fun a ha b hb e=>by
     obtain rfl:=List.mem_singleton.1 hb
     exact MY (e ▸ ha)⟩
   have rD:∀ j ∈ S++[i],j < D.length:=fun j hj=>by
    rcases List.mem_append.1 hj with h|h
    ·exact td j h
    ·obtain rfl:=List.mem_singleton.1 h;exact cJ
   have rE:=DC _ _ rC rD
   rw[List.length_append]at rE
   simp only[List.length_cons,List.length_nil]at rE
   refine Qh @aW ?_
   (refine Qa (fun h2=>?_) (fun h2=>?_)<;>try exact h2.elim)
   refine Qg ?_
   refine R0 (bi:=67) (b:=1) (ck:=gD) (i:=i) (seen:=S.map fun i=>fQ.getD i 0) (bs:=fQ) (kvs:=br D) rfl (by exact Qw) (by exact Qu @yk) (by rw[ry];exact cJ) ?_
   refine Qh @aW ?_
   refine ru cN Hd (fun _ _=>WT.eB Hd x) a7 (by simp[iq]) [(0,.ptr 0 0),(37,.ptr 67 0),(43,.ptr 0 0),(46,.agg [.int .i64 x.id,.int .i64 x.due])] [(67,.iter 1 gD ((S++[i]).map fun i=>fQ.getD i 0))] 68 (To.dH (by exact Qw) fun b=>?_) (by simp[ny,iq]) ?_ (by simp[Qe,ai]) fun _ _=>?_
   ·show Qc ((67,.iter 1 gD ((S++[i]).map fun i=>fQ.getD i 0))::TS.h) 68 b=Qc ((67,.iter 1 gD ((S.map fun i=>fQ.getD i 0)++[fQ.getD i 0]))::(67,.iter 1 gD (S.map fun i=>fQ.getD i 0))::TS.h) 68 b
    simp only[Qd,List.map_append,List.map_cons,List.map_nil];(repeat' split)<;>rfl
   ·exact Qw
   ·refine Qg ?_
    refine ⟨S++[i],⟨rC,rD⟩,?_,?_⟩
    ·rw[eC,MZ]
     exact To.dH (by exact Qw) fun b=>rfl
    ·rw[List.length_append];simp only[List.length_cons,List.length_nil];omega
 ·rw[ry]at cJ
  have MY:i ∉ S:=fun h=>Br (List.mem_map.2 ⟨i,h,rfl⟩)
  have aW:=UG D i cJ
  have He:D.getD i default ∈ D:=by simp[List.getD,cJ]
  have FN:=mQ _ He
  have rC:(S++[i]).Nodup:=by
   rw[List.nodup_append]
   exact ⟨oG,by simp,fun a ha b hb e=>by
    obtain rfl:=List.mem_singleton.1 hb
    exact MY (e ▸ ha)⟩
  have rD:∀ j ∈ S++[i],j < D.length:=fun j hj=>by
   rcases List.mem_append.1 hj with h|h
   ·exact td j h
   ·obtain rfl:=List.mem_singleton.1 h;exact cJ
  have rE:=DC _ _ rC rD
  rw[List.length_append]at rE
  simp only[List.length_cons,List.length_nil]at rE
  refine Qh @aW ?_
  (refine Qa (fun h1=>?_) (fun h1=>?_)<;>try exact h1.elim)
  refine Qg ?_
  refine R0 (bi:=67) (b:=1) (ck:=ck) (i:=i) (seen:=S.map fun i=>bs.getD i 0) (bs:=bs) (kvs:=br D) rfl (by exact Qw) (by exact Qw) (by rw[ry];exact cJ) ?_
  have xD:min (m:Int) ((D.getD i default).due:Int)=((min m (D.getD i default).due:Nat):Int):=by omega
  refine Qh @aW ?_
  refine ⟨(S++[i],min m (D.getD i default).due),⟨rC,rD,by dsimp only;omega,fun j hj=>?_,?_⟩,To.dH (by exact Qu @xD) fun b=>?_,?_⟩
  ·dsimp only at hj ⊢
   rcases List.mem_append.1 hj with h|h
   ·have:=Hb j h;omega
   ·obtain rfl:=List.mem_singleton.1 h;omega
  ·dsimp only
   by_cases h:m≤(D.getD i default).due
   ·rw[Nat.min_eq_left h];exact Hc
   ·exact .inr ⟨_,He,by omega⟩
  ·simp only[Qd,List.map_append,List.map_cons,List.map_nil]
   (repeat' split)<;>first|rfl|omega
  ·dsimp only;rw[List.length_append];simp only[List.length_cons,List.length_nil];omega
def Jc (r' r:List (List Tm)):Prop:=r'.length=r.length∧∀ i,(r'.getD i []).Perm (r.getD i [])
theorem Jc.refl (r:List (List Tm)):Jc r r:=⟨rfl,fun _=>List.Perm.refl _⟩
theorem Jc.trans {a b c:List (List Tm)} (h:Jc a b) (k:Jc b c):Jc a c:=⟨h.1.trans k.1,fun i=>(h.2 i).trans (k.2 i)⟩
theorem M0 (r:List (List Tm)) (i:Nat) (l:List Tm) (j:Nat):(r.set i l).getD j []=if j=i∧i < r.length then l else r.getD j []:=by
 by_cases hi:i < r.length
 ·rw[AR r hi]
  by_cases e:j=i<;>simp[e,hi]
 ·rw[List.set_eq_of_length_le af,if_neg af]
theorem Jc.set {r' r:List (List Tm)} (h:Jc r' r) (i:Nat) {l' l:List Tm} (hl:l'.Perm l):Jc (r'.set i l') (r.set i l):=by
 refine ⟨by simp[h.1],fun j=>?_⟩
 rw[M0,M0,h.1]
 split
 ·exact hl
 ·exact h.2 j
theorem Jc.lay {r' r:List (List Tm)} (h:Jc r' r) (n:Nat) (t:Tm):Jc (Xh n r' t) (Xh n r t):=h.set _ ((h.2 _).append_right _)
theorem Xmj (n:Nat) (r:List (List Tm)) (a b:Tm):Jc (Xh n (Xh n r a) b) (Xh n (Xh n r b) a):=by
 refine ⟨by simp[Xh],fun j=>?_⟩
 unfold Xh
 simp only[M0,List.length_set]
 by_cases ha:Yy n a.due < r.length<;>by_cases hb:Yy n b.due < r.length<;>by_cases h1:j=Yy n a.due<;>by_cases h2:j=Yy n b.due<;>by_cases h3:Yy n a.due=Yy n b.due<;>simp_all<;>first|omega|(exact List.Perm.append_left _ (List.Perm.swap _ _ _))|(rw[if_neg (by omega),if_neg (by omega)])|skip
theorem Jc.jz {n:Nat} {l' l:List Tm} (hl:l'.Perm l):∀ {r' r:List (List Tm)},Jc r' r→Jc (l'.foldl (Xh n) r') (l.foldl (Xh n) r):=by
 induction hl with
 | nil=>exact fun h=>h
 | cons x h ih=>exact fun hr=>ih (hr.lay n x)
 | swap x y l =>
  intro r' r hr
  have M1:∀ (l:List Tm) {r' r:List (List Tm)},Jc r' r→Jc (l.foldl (Xh n) r') (l.foldl (Xh n) r):=fun l=>by
   induction l with
   | nil=>exact fun h=>h
   | cons t l ih=>exact fun h=>ih (h.lay n t)
  exact M1 l (((hr.lay n y).lay n x).trans (Xmj n r y x))
 | trans h1 h2 MJ MK=>exact fun hr=>(MJ hr).trans (MK (Jc.refl _))
theorem Jc.cb {r' r:List (List Tm)} (h:Jc r' r) (n i:Nat):Jc (Proofs.YtogckmommodmhaaGreatDoor.cb n r' i) (Proofs.YtogckmommodmhaaGreatDoor.cb n r i):=Jc.jz (h.2 i) (h.set i (List.Perm.refl _))
theorem Jc.step {n:Nat}:∀ (f L:Nat) {r' r:List (List Tm)},Jc r' r→Jc (Jl n f L r') (Jl n f L r)
 | 0,_,_,_,h=>h
 | f + 1,L,r',r,h=>by
  unfold Jl
  split
  ·exact Jc.step f (L + 1) (h.cb _ _)
  ·exact h
theorem UL:∀ {r' r:List (List Tm)},r'.length=r.length→(∀ i,(r'.getD i []).Perm (r.getD i []))→r'.flatten.Perm r.flatten
 | [],[],_,_=>List.Perm.refl _
 | a::r',b::r,hl,h=>by
  have h0:=h 0
  simp only[List.getD_cons_zero]at h0
  simp only[List.flatten_cons]
  exact h0.append (UL (by simpa using hl) fun i=>by have:=h (i + 1);simpa only[List.getD_cons_succ] using this)
theorem RI.iC {P:Nat→Nat→Prop} {r' r:List (List Tm)} {D:List Tm} (h:RI P r D) (hs:Jc r' r):RI P r' D :=
 ⟨hs.1.trans h.len,(UL hs.1 hs.2).trans h.perm,fun i hi t ht=>h.pl i hi t ((hs.2 i).mem_iff.1 ht)⟩
theorem UM:∀ (l D:List Tm),kg l D=D.filter fun t=>l.all fun x=>!(t.id == x.id)
 | [],D=>(List.filter_eq_self.2 fun t _=>by simp).symm
 | a::l,D=>by
  have e:kg (a::l) D=kg l (Yc a.id D):=rfl
  rw[e,UM l]
  unfold Yc
  rw[List.filter_filter]
  refine List.filter_congr fun t _=>?_
  rw[List.all_cons,Bool.and_comm]
def Xy (n:Nat) (D:List Tm):List Tm:=D.filter fun t=>!(t.due == n)
theorem Xue {D:List Tm} (hd:D.Pairwise fun a b=>a.id≠b.id) {a b:Tm} (ha:a ∈ D) (hb:b ∈ D) (e:a.id=b.id):a=b:=by
 induction D with
 | nil=>cases ha
 | cons x D ih =>
  have h1:=List.Pairwise.of_cons hd
  have h2:=fun y hy=>List.rel_of_pairwise_cons hd (a':=y) hy
  rcases List.mem_cons.1 ha with h3|h3<;>rcases List.mem_cons.1 hb with h4|h4
  ·rw[h3,h4]
  ·rw[h3]at e;exact absurd e (h2 b h4)
  ·rw[h4]at e;exact absurd e.symm (h2 a h3)
  ·exact ih h1 h3 h4
theorem Xm0 {D l:List Tm} {n:Nat} (hd:D.Pairwise fun a b=>a.id≠b.id) (hl:l.Perm (D.filter fun t=>t.due == n)):kg l D=Xy n D:=by
 rw[UM]
 unfold Xy
 refine List.filter_congr fun t ht=>?_
 have bI:∀ x,x ∈ l ↔ x ∈ D∧x.due=n:=fun x=>by rw[hl.mem_iff,List.mem_filter];simp
 cases h:t.due == n with
 | true =>
  have aI:t ∈ l:=(bI t).2 ⟨ht,by simpa using h⟩
  simp only[Bool.not_true]
  rw[← Bool.not_eq_true,List.all_eq_true]
  intro b8
  have:=b8 t aI
  simp at this
 | false =>
  simp only[Bool.not_false]
  rw[List.all_eq_true]
  intro x hx
  obtain ⟨h1,h2⟩:=(bI x).1 hx
  have:t.id≠x.id:=fun e=>by
   have:=Xue hd ht h1 e
   subst this
   simp[h2]at h
  simpa using this
def lH:Nat→Nat→List (List Tm)→List Tm→Nat→List (List Tm) × List Tm
 | 0,_,rows,D,_=>(rows,D)
 | f + 1,n,rows,D,to =>
  if n=to then (rows.set (n % 16) [],Xy n D)
  else if 4096 < to - n∨(Xy n D).length=0 then lH f (Ks (Xy n D) to) ((Xy n D).foldl (Xh (Ks (Xy n D) to)) (List.replicate 65 [])) (Xy n D) to
  else lH f (n + 1) (Jl (n + 1) 4 1 (rows.set (n % 16) [])) (Xy n D) to
structure WG (n:Nat) (rows:List (List Tm)) (D:List Tm):Prop where
 ri:RI (Pl n) rows D
 lo:∀ t ∈ D,n≤t.due
 hi:∀ t ∈ D,t.due≤1099511627776
 dP:D.Pairwise fun a b=>a.id≠b.id
 len:D.length≤100000
theorem vZ {n:Nat} {D:List Tm}:(Xy n D).Sublist D:=List.filter_sublist
theorem yl {n:Nat} {D:List Tm} (h:∀ t ∈ D,n≤t.due):∀ t ∈ Xy n D,n < t.due:=fun t ht=>by
 obtain ⟨h1,h2⟩:=List.mem_filter.1 ht
 have:=h t h1
 have:t.due≠n:=by simpa using h2
 omega
theorem WG.nV {n:Nat} {rows:List (List Tm)} {D:List Tm} (h:WG n rows D):RI (Pl n) (rows.set (n % 16) []) (Xy n D):=h.ri.nK.2
theorem WG.DG {n m:Nat} {rows:List (List Tm)} {D:List Tm} (h:WG n rows D) (hm:∀ t ∈ Xy n D,m≤t.due):WG m ((Xy n D).foldl (Xh m) (List.replicate 65 [])) (Xy n D) :=
 ⟨RI.Dt (List.Perm.refl _) hm,hm,fun t ht=>h.hi t (vZ.subset ht),h.dP.sublist vZ,Nat.le_trans vZ.length_le h.len⟩
theorem WG.tick {n:Nat} {rows:List (List Tm)} {D:List Tm} (h:WG n rows D):WG (n + 1) (Jl (n + 1) 4 1 (rows.set (n % 16) [])) (Xy n D) :=
 ⟨h.nV.tick (yl h.lo),yl h.lo,fun t ht=>h.hi t (vZ.subset ht),h.dP.sublist vZ,Nat.le_trans vZ.length_le h.len⟩
theorem M3 (D0:List Tm) (n m:Nat) (fc:n < m) (h:∀ t ∈ D0,n < t.due→m≤t.due):Xy n (D0.filter fun t=>decide (n≤t.due))=D0.filter fun t=>decide (m≤t.due):=by
 unfold Xy
 rw[List.filter_filter]
 refine List.filter_congr fun t ht=>?_
 have:=h t ht
 rw[Bool.eq_iff_iff]
 simp only[Bool.and_eq_true,Bool.not_eq_true',beq_eq_false_iff_ne,ne_eq,decide_eq_true_eq]
 omega
theorem M4 (D0:List Tm):∀ (f n:Nat) (rows:List (List Tm)) (D:List Tm) (to:Nat),n≤to→to - n < f→WG n rows D→D=D0.filter (fun t=>decide (n≤t.due))→(lH f n rows D to).2=D0.filter (fun t=>decide (to < t.due))∧RI (Pl to) (lH f n rows D to).1 (lH f n rows D to).2
 | 0,_,_,_,_,_,h,_,_=>by omega
 | f + 1,n,rows,D,to,hn,hf,hw,hD=>by
  unfold lH
  have bF:∀ m,n < m→(∀ t ∈ Xy n D,m≤t.due)→Xy n D=D0.filter fun t=>decide (m≤t.due):=fun m hm hk=>by
   rw[hD]
   refine M3 D0 n m hm fun t ht hlt=>?_
   refine hk t ?_
   rw[hD]
   exact List.mem_filter.2 ⟨List.mem_filter.2 ⟨ht,by simpa using Nat.le_of_lt hlt⟩,by simp;omega⟩
  split
  ·rename_i e
   subst e
   exact ⟨bF (n + 1) af (yl hw.lo),hw.nV⟩
  ·rename_i bN
   split
   ·obtain ⟨h1,h2,h3⟩:=DB (Xy n D) to
    have hlt:n < Ks (Xy n D) to:=by
     rcases h3 with h3|⟨t,ht,h3⟩
     ·omega
     ·have:=yl hw.lo t ht;omega
    exact M4 D0 f _ _ _ to h1 af (hw.DG h2) (bF _ hlt h2)
   ·exact M4 D0 f (n + 1) _ _ to af af hw.tick (bF (n + 1) af (yl hw.lo))
theorem Hf:∀ (f f' n:Nat) (rows:List (List Tm)) (D:List Tm) (to:Nat),n≤to→(∀ t ∈ D,n≤t.due)→to - n < f→to - n < f'→lH f n rows D to=lH f' n rows D to
 | 0,_,_,_,_,_,_,_,h,_=>by omega
 | _ + 1,0,_,_,_,_,_,_,_,h=>by omega
 | f + 1,f' + 1,n,rows,D,to,hn,fw,h1,h2=>by
  unfold lH
  split
  ·rfl
  ·rename_i bN
   have hk:=yl fw
   split
   ·obtain ⟨g1,g2,g3⟩:=DB (Xy n D) to
    have hlt:n < Ks (Xy n D) to:=by
     rcases g3 with g3|⟨t,ht,g3⟩
     ·omega
     ·have:=hk t ht;omega
    exact Hf f f' _ _ _ to g1 g2 af af
   ·exact Hf f f' (n + 1) _ _ to af hk af af
theorem To.M5 {p:List Nat} {s:St} {T:WT} {i k:Nat} {l:List Tm} {t':List (Nat × AV)} {x:Bk} (hT:T.wf) (hi:i < 65) (hl:T.row i=l) (h0:Qc s.h s.n 0=.cells (T.cells.set (i + 1) .nils)) (hs:∀ b,b≠0→b < 67→Qc s.h s.n b=Qc T.h 67 b)
  (hf:s.fs.H s.n=.free) (hn:68≤s.n) (hk:look s.t k=.sl 2 (2 + i) 0 l.length l.length) (hp:∀ b,b ∈ p→b < 2) (hx:Qc s.h s.n 67=x) (ym:bJ 0 x) (ht:Qy (Kt i s.n) 68 ((k,.isl l.length (bb l))::s.t) t'):To p s ⟨t',(67,x)::(T.put i []).h,68⟩:=by
 have fM:=hT.len
 have aX:=WT.len hT
 refine To.trans (To.kP (b:=0) (j:=i + 1) (es:=2) h0 (by rw[List.getElem?_set_self af]) hf) ?_
 rw[List.set_set]
 have cr:Qc s.h (s.n + 1) (2 + i)=.cells (bb l):=by
  rw[We _ _ _ af,hs _ af af,WT.bA,if_neg af,if_neg af,if_pos af,show 2 + i - 2=i by omega,hl]
 refine To.trans (To.fZ (b:=2 + i) (i:=k) (cs:=bb l) (es:=2) (off:=0) (n:=l.length) (k:=l.length) ?_ hk) ?_
 ·show Qc ((0,_)::(s.n,_)::s.h) (s.n + 1) (2 + i)=_
  rw[Qd,if_neg af,Qd,if_neg af];exact cr
 have eQ:((bb l).drop 0).take (l.length * 2)=bb l:=by rw[List.drop_zero,List.take_of_length_le (by rw[Zq];omega)]
 rw[eQ]
 have M6:Kt i s.n 67=67:=by unfold Kt;rw[if_neg af]
 refine To.put (ex:=[(67,x)]) hT hi (N:=s.n) af af (fun b hb=>by have:=hp b hb;omega) hn ?_ ?_ ?_ (fun j hj bN=>?_) ht ⟨⟨by show 67 < 68;omega,oT (Nat.zero_le _) ym,?_,trivial⟩,trivial⟩ (fun q hq=>by obtain rfl:=List.mem_singleton.1 hq;exact Nat.le_refl 67)
 ·show Qc ((2 + i,_)::(0,_)::(s.n,_)::s.h) (s.n + 1) 0=_
  rw[Qd,if_neg af,Qd,if_pos rfl];rfl
 ·show Qc ((2 + i,_)::(0,_)::(s.n,_)::s.h) (s.n + 1) 1=_
  rw[Qd,if_neg af,Qd,if_neg af,Qd,if_neg af,We _ _ _ af,hs 1 af af,WT.bA,if_neg af,if_pos rfl]
 ·show Qc ((2 + i,_)::(0,_)::(s.n,_)::s.h) (s.n + 1) s.n=_
  rw[Qd,if_neg af,Qd,if_neg af,Qd,if_pos rfl];rfl
 ·show Qc ((2 + i,_)::(0,_)::(s.n,_)::s.h) (s.n + 1) (2 + j)=_
  rw[Qd,if_neg af,Qd,if_neg af,Qd,if_neg af,We _ _ _ af,hs _ af af,WT.bA,if_neg af,if_neg af,if_pos af,show 2 + j - 2=j by omega]
 ·show Qc ((2 + i,_)::(0,_)::(s.n,_)::s.h) (s.n + 1) (Kt i s.n 67)=_
  rw[M6,Qd,if_neg af,Qd,if_neg af,Qd,if_neg af,We _ _ _ af,hx]
  exact (Dw (fun b hb=>by omega) ym).symm
theorem WT.l0 (T:WT) (n:Nat):Qc T.h n 0=.cells T.cells:=by rw[WT.bA,if_pos rfl]
theorem WT.l1 (T:WT) (n:Nat):Qc T.h n 1=T.mb:=by rw[WT.bA,if_neg (by omega),if_pos rfl]
theorem pW (n:Nat) (l:List Int):ai n (Qp l)=True:=by simp[Xv,Qp,Qe]
theorem UN (D:List Tm) (n:Nat):(bj D n).length≤D.length:=by
 unfold bj
 rw[List.length_map,(Wq _).length_eq]
 exact List.length_filter_le _ _
theorem Ycw {T':WT} {n:Nat} {rows:List (List Tm)} {mb:Bk} (h1:T'.now=n) (h2:Jc T'.rows rows) (h3:T'.mb=mb):T'.iC { now:=n,rows:=rows,mb:=mb }:=⟨h1,h3,h2.1,h2.2⟩
set_option maxHeartbeats 4000000 in
set_option maxRecDepth 20000 in
theorem Yb8 (gl:Nat→AV) (T:WT) (jW:List (List Tm)) (D0:List Tm) (dn:Bool) (UO:Jc T.rows jW) (eR:T.mb=.aC (br D0) dn) (hW:WG T.now jW D0) (to:Nat) (gT:T.now≤to) (M7:to≤1099511627776) :
  GQ Tryz.prog gl 98 [.ptr 0 0,.int .i64 to] T.h 67 [0,1] (fun T':WT=>T'.iC { now:=to,rows:=(lH (to - T.now + 1) T.now jW D0 to).1,mb:=.aC (br (lH (to - T.now + 1) T.now jW D0 to).2) false })
   (fun _=>.aU [.isl (bj D0 (to + 1)).length (Qp (bj D0 (to + 1))),.int .i64 0]) WT.h:=by
 have hlen:T.rows.length=65:=UO.1.trans hW.ri.len
 have hT:=uK hlen eR
 refine MG.gq (of_decide_eq_true rfl) (fun q hq=>Xj (((WT.HL hT).mem q hq).2)) av fun c a7 hg=>?_
 conv in aQ _ _=>cbv
 have aM:=WT.aM hT
 have oX:=WT.l0 T
 have g0:=WT.il T
 have aX:=WT.len hT
 generalize bE:lH (to - T.now + 1) T.now jW D0 to=fin
 refine Qg ?_
 (refine Qa (fun h1=>?_) (fun h1=>?_)<;>try exact h1.elim)
 refine Qh (An @oX @g0) ?_
 (refine Qa (fun h2=>?_) (fun h2=>?_)<;>try exact h2.elim)
 ·omega
 refine Qg ?_
 refine xe 6 1 rfl (by exact Qu @aM) ?_
 unfold St.named
 refine Yk (fun y:WT × List (List Tm) × List Tm × Bool=>Jc y.1.rows y.2.1∧y.1.mb=.aC (br y.2.2.1) y.2.2.2∧WG y.1.now y.2.1 y.2.2.1∧y.1.now≤to∧T.now≤y.1.now∧lH (to - y.1.now + 1) y.1.now y.2.1 y.2.2.1 to=fin∧y.2.2.1=D0.filter fun t=>decide (y.1.now≤t.due))
  (fun y=>⟨[(0,.ptr 0 0),(1,.int .i64 to),(6,.sl 1 67 0 (bj D0 y.1.now).length (bj D0 y.1.now).length)],(67,.cells (Qp (bj D0 y.1.now)))::y.1.h,68⟩) (fun y=>to - y.1.now) MG.mixed [0,1] a7
  ⟨(T,jW,D0,dn),⟨UO,eR,hW,gT,Nat.le_refl _,bE,(List.filter_eq_self.2 fun t ht=>by simpa using hW.lo t ht).symm⟩,?_⟩ fun y hy=>?_
 ·have e:bj D0 T.now=[]:=Xo1 D0 _ hW.lo
  dsimp only
  rw[e]
  exact To.dH (by exact Qw) fun b=>rfl
 obtain ⟨T1,rows,D,dn1⟩:=y
 obtain ⟨iA,nI,dp,hnt,nQ,xk,lX⟩:=hy
 dsimp only at iA nI dp hnt nQ xk lX ⊢
 have nW:T1.rows.length=65:=iA.1.trans dp.ri.len
 have bu:=uK nW nI
 have DH:=WT.aM bu
 have uM:=WT.l0 T1
 have yn:=WT.il T1
 have iV:=WT.len bu
 have nO:T1.now % 16 < 16:=Nat.mod_lt _ af
 have hm:Int.tmod (T1.now:Int) 16=((T1.now % 16:Nat):Int):=oV _ 16
 have aW:=WT.fH bu (i:=T1.now % 16) af
 have uN:=dp.ri.iC iA
 have rF:(T1.row (T1.now % 16)).Perm (D.filter fun t=>t.due == T1.now):=(uN.nK).1
 have ew:=Xm0 dp.dP rF
 have fM:(T1.row (T1.now % 16)).length≤100000:=Nat.le_trans (uN.eA af) dp.len
 have ax:=Xl9 D0 T1.now (T1.row (T1.now % 16)) (by
  rw[lX,List.filter_filter]at rF
  refine rF.trans (List.Perm.of_eq (List.filter_congr fun t _=>?_))
  rw[Bool.eq_iff_iff];simp;omega)
 have vt:=UN D0 T1.now
 have o4a:=UN D0 (T1.now + 1)
 have hDl:=hW.len
 have vE:WT.put T1 (T1.now % 16) []={ T1 with rows:=T1.rows.set (T1.now % 16) [] }:=rfl
 have E6:Jc (T1.rows.set (T1.now % 16) []) (rows.set (T1.now % 16) []):=iA.set _ (List.Perm.refl _)
 have DI:(uE (ids (T1.row (T1.now % 16)))).length=(T1.row (T1.now % 16)).length:=by simp[uE,ids]
 generalize AD:T1.row (T1.now % 16)=l at *
 have rG:=Xwj c.gl (T1.put (T1.now % 16) []) D l dn1 (by simp[WT.put,nW]) nI dp.dP af
 rw[ew]at rG
 have hwp:=WT.de bu (T1.now % 16) []
 rw[show T1.now % 16 + 1=1 + T1.now % 16 by omega]at aW
 refine Qh (An @DH (An @uM (An @yn (An @hm @aW)))) ?_
 have uO:Xy T1.now D=D0.filter fun t=>decide (T1.now + 1≤t.due):=by
  rw[lX];exact M3 D0 _ _ af fun t _ h=>h
 have fG:WT.wf { T1 with rows:=T1.rows.set (T1.now % 16) [],mb:=.aC (br (Xy T1.now D)) false }:=⟨by simp[nW],Uw 2 _⟩
 have DJ:bj D0 T1.now++uE (ids l)=bj D0 (T1.now + 1):=ax.symm
 have yo:(bj D0 T1.now).length + l.length=(bj D0 (T1.now + 1)).length:=by rw[← DJ,List.length_append,DI]
 have M8:=Yj (bj D0 T1.now)
 have M9:=Yj (uE (ids l))
 refine ru (W:=fun _:Unit=>{ T1 with rows:=T1.rows.set (T1.now % 16) [],mb:=.aC (br (Xy T1.now D)) false }) rG hwp (fun _ _=>fG) a7 (by simp[iq]) [(0,.ptr 0 0),(1,.int .i64 to),(36,.sl 1 67 0 (bj D0 T1.now).length (bj D0 T1.now).length),(37,.ptr 0 0),(38,.isl l.length (bb l))] [(67,.cells (Qp (bj D0 T1.now)))] 68
  (To.M5 (k:=38) bu (i:=T1.now % 16) af AD ?_ (fun b h1 h2=>?_) ?_ (by show 68≤68;omega) ?_ av rfl ?_ ?_) (by simp[ny,iq,Cz,Qp,cP]) ?_ (by simp[Qe,pW]) fun _ _=>?_
 ·show Qc ((0,_)::_) 68 0=_
  rw[Qd,if_pos rfl,show 1 + T1.now % 16=T1.now % 16 + 1 by omega]
 ·show Qc ((0,_)::(67,_)::T1.h) 68 b=_
  rw[Qd,if_neg af,Qd,if_neg af,WT.bA,WT.bA]
  (repeat' split)<;>first|rfl|omega
 ·exact Qu @DH
 ·exact Qw
 ·exact Xv.2 fun x hx=>by
   obtain ⟨n,_,rfl⟩:=List.mem_map.1 hx
   simp[Qe]
 ·have h1:=uG (Kt (T1.now % 16) 68) l
  have gF:=pR 68 l
  have bH:Kt (T1.now % 16) 68 67=67:=by unfold Kt;rw[if_neg af]
  exact Qu (An @h1 (An @gF @bH))
 ·exact Qw
 clear rG
 generalize mG:({ T1 with rows:=T1.rows.set (T1.now % 16) [],mb:=.aC (br (Xy T1.now D)) false }:WT)=T2 at *
 have rH:=WT.aM fG
 have DK:=WT.l0 T2
 have DL:=WT.l1 T2
 have jC:T2.mb=.aC (br (Xy T1.now D)) false:=by rw[← mG]
 rw[jC]at DL
 have oN:T2.now=T1.now:=by rw[← mG]
 have Hg:Jc T2.rows (rows.set (T1.now % 16) []):=by rw[← mG];exact E6
 have Na:=WT.il T2
 rw[oN]at Na
 have Nb:=WT.eJ fG
 have oY:=WT.len fG
 have iM:=ry (Xy T1.now D)
 refine Qg ?_
 refine Jd (An @rH (An @M8 (An @M9 (An @DJ (An @yo (An @DI (An @DK @Na))))))) ?_
 have iJ:∀ {f:Nat},to - T1.now + 1=f + 1→lH (f + 1) T1.now rows D to=fin:=fun e=>by rw[← e];exact xk
 have jq:=iJ (f:=to - T1.now) rfl
 unfold lH at jq
 (refine Qa (fun h3=>?_) (fun h3=>?_)<;>try exact h3.elim)
 ·have e:T1.now=to:=by omega
  rw[if_pos e]at jq
  subst e
  refine Qg ?_
  refine ⟨T2,?_,(To.La (b:=68) (i:=0) rfl rfl).trans (To.dC (ex:=[(68,.dead),(68,.cells (Qp (bj D0 (T1.now + 1)))),(67,.dead),(67,.cells (Qp (bj D0 T1.now)))]) fG av av ?_)⟩
  ·rw[← jq];exact Ycw oN Hg jC
  ·have a8:((Qp (bj D0 (T1.now + 1))).drop 0).take ((bj D0 (T1.now + 1)).length * 1)=Qp (bj D0 (T1.now + 1)):=by
    rw[List.drop_zero,List.take_of_length_le (by rw[Nat.mul_one];simp[Qp])]
   rw[a8]
   have h2:∀ q,az id (Qp q)=Qp q:=fun q=>Jy _
   exact Qu (An @pW @h2)
 have bN:¬ T1.now=to:=by omega
 rw[if_neg bN]at jq
 have DM:=Nat.le_trans (vZ (n:=T1.now) (D:=D)).length_le dp.len
 have UP:∀ t ∈ Xy T1.now D,t.due≤1099511627776:=fun t ht=>dp.hi t (vZ.subset ht)
 have yq:=yl dp.lo
 refine Qh (An @DK (An @Na (An @DL (An @Nb @iM)))) ?_
 (refine Qa (fun h4=>?_) (fun h4=>?_)<;>try exact h4.elim)
 ·rw[if_pos (by rcases h4 with h4|h4<;>omega)]at jq
  have DN:=Xvj c.gl T2 (Xy T1.now D) false (by rw[← mG];simp[nW]) jC DM UP to M7
  obtain ⟨q1,q2,q3⟩:=DB (Xy T1.now D) to
  have hlt:T1.now < Ks (Xy T1.now D) to:=by
   rcases q3 with q3|⟨t,ht,q3⟩
   ·omega
   ·have:=yq t ht;omega
  have sD:=dp.DG q2
  have vO:=Xo2 D0 (n:=T1.now + 1) (m:=Ks (Xy T1.now D) to) af fun t ht h=>q2 t (by rw[uO];exact List.mem_filter.2 ⟨ht,by simpa using h⟩)
  have hD3:Xy T1.now D=D0.filter fun t=>decide (Ks (Xy T1.now D) to≤t.due):=by
   have:=M3 D0 T1.now (Ks (Xy T1.now D) to) hlt fun t ht h=>q2 t (by rw[uO];exact List.mem_filter.2 ⟨ht,decide_eq_true h⟩)
   rw[← lX]at this;exact this
  have Dj:∀ x:WT,x.yi (Xy T1.now D) (Ks (Xy T1.now D) to)→x.wf:=fun x ⟨l,_,e⟩=>by
   subst e
   exact ⟨(RI.jz (P:=fun _ _=>True) (now:=Ks (Xy T1.now D) to) l (rows:=List.replicate 65 []) (D:=[]) ⟨by simp,by simp,fun _ _ _ _=>trivial⟩ fun _ _=>trivial).len,Uw 2 _⟩
  rw[Hf _ (to - Ks (Xy T1.now D) to + 1) _ _ _ to q1 q2 af af]at jq
  refine Qg ?_
  refine ru (W:=fun x:WT=>x) DN fG Dj a7 (by simp[iq]) [(0,.ptr 0 0),(1,.int .i64 to),(6,.sl 1 68 0 (bj D0 (T1.now + 1)).length (bj D0 (T1.now + 1)).length),(63,.ptr 0 0),(64,.int .i64 to)] [(68,.cells (Qp (bj D0 (T1.now + 1))))] 69 (To.dH (by exact Qw) fun b=>?_) (by simp[ny,iq,Cz,Qp,cP]) ?_ (by simp[Qe,ai]) fun T3 h3=>?_
  ·show Qc ((68,_)::T2.h) 69 b=Qc ((68,.cells (Qp (bj D0 (T1.now + 1))))::(67,.dead)::(67,.cells (Qp (bj D0 T1.now)))::T2.h) 69 b
   simp only[Qd]
   (repeat' split)<;>first|rfl|omega|(subst_vars;rw[rH 69 67 (by omega)];rfl)
  ·exact Qw
  obtain ⟨l3,p3,rfl⟩:=h3
  refine Qg ?_
  refine ⟨({ now:=Ks (Xy T1.now D) to,rows:=l3.foldl (Xh (Ks (Xy T1.now D) to)) (List.replicate 65 []),mb:=.aC (br (Xy T1.now D)) false },(Xy T1.now D).foldl (Xh (Ks (Xy T1.now D) to)) (List.replicate 65 []),Xy T1.now D,false),⟨Jc.jz p3 (Jc.refl _),rfl,sD,q1,by dsimp only;omega,jq,hD3⟩,?_,by dsimp only;omega⟩
  dsimp only
  rw[vO]
  refine To.MQ (ex:=[(67,.cells (Qp (bj D0 (T1.now + 1))))]) [(67,68)] (Dj _ ⟨l3,p3,rfl⟩) av af rfl rfl (fun b hb=>?_) ?_ ?_ av
  ·show Qc ((68,_)::WT.h _) 69 b=_
   rw[Qd,if_neg af,WT.bA,WT.bA]
   (repeat' split)<;>first|rfl|omega
  ·exact Qw
  ·exact Qu @pW
 ·rw[if_neg af]at jq
  have fb:T2.rows.flatten.Perm (Xy T1.now D):=(dp.nV.iC Hg).perm
  have eY:=Xsv c.gl T2 (Xy T1.now D) fG fb DM UP af
  have UQ:T2.uL.wf:=⟨((dp.nV.iC Hg).tick yq |>.len:(Jl (T1.now + 1) 4 1 T2.rows).length=65) |> fun h=>by unfold WT.uL;rw[oN];exact h,fG.mb⟩
  have hWt:=dp.tick
  rw[Hf _ (to - (T1.now + 1) + 1) _ _ _ to af yq af af]at jq
  refine Qg ?_
  refine ru (W:=fun _:Unit=>T2.uL) eY fG (fun _ _=>UQ) a7 (by simp[iq]) [(0,.ptr 0 0),(1,.int .i64 to),(6,.sl 1 68 0 (bj D0 (T1.now + 1)).length (bj D0 (T1.now + 1)).length),(66,.ptr 0 0)] [(68,.cells (Qp (bj D0 (T1.now + 1))))] 69 (To.dH (by exact Qw) fun b=>?_) (by simp[ny,iq,Cz,Qp,cP]) ?_ (by simp[Qe,ai]) fun _ _=>?_
  ·show Qc ((68,_)::T2.h) 69 b=Qc ((68,.cells (Qp (bj D0 (T1.now + 1))))::(67,.dead)::(67,.cells (Qp (bj D0 T1.now)))::T2.h) 69 b
   simp only[Qd]
   (repeat' split)<;>first|rfl|omega|(subst_vars;rw[rH 69 67 (by omega)];rfl)
  ·exact Qw
  refine Qg ?_
  have eG:T2.uL.now=T1.now + 1:=by unfold WT.uL;rw[oN]
  refine ⟨(T2.uL,Jl (T1.now + 1) 4 1 (rows.set (T1.now % 16) []),Xy T1.now D,false),⟨?_,jC,by dsimp only;rw[eG];exact hWt,by dsimp only;omega,by dsimp only;omega,by dsimp only;rw[eG];exact jq,by dsimp only;rw[eG];exact uO⟩,?_,by dsimp only;omega⟩
  ·show Jc (Jl (T2.now + 1) 4 1 T2.rows) _
   rw[oN];exact Hg.step 4 1
  dsimp only
  rw[eG]
  refine To.MQ (ex:=[(67,.cells (Qp (bj D0 (T1.now + 1))))]) [(67,68)] UQ av af rfl rfl (fun b hb=>?_) ?_ ?_ av
  ·show Qc ((68,_)::WT.h _) 69 b=_
   rw[Qd,if_neg af,WT.bA,WT.bA]
   (repeat' split)<;>first|rfl|omega
  ·exact Qw
  ·exact Qu @pW
set_option maxHeartbeats 2000000 in
theorem Qxi (gl:Nat→AV) (T:WT) (D:List Tm) (dn:Bool) (hlen:T.rows.length=65) (eR:T.mb=.aC (br D) dn) (x:Int) (hx:jU D x=false) :
  GQ Tryz.prog gl 164 [.ptr 0 0,.int .i64 x] T.h 67 [0,1] (fun _:Unit=>True) (fun _=>.int .i64 7) (fun _=>T.h):=by
 have hT:=uK hlen eR
 refine GN.gq (of_decide_eq_true rfl) (fun q hq=>Xj (((WT.HL hT).mem q hq).2)) av fun c a7 hg=>?_
 conv in aQ _ _=>cbv
 have aM:=WT.aM hT
 have oX:=WT.l0 T
 have dS:=WT.l1 T
 rw[eR]at dS
 have kJ:=WT.eJ hT
 have aX:=WT.len hT
 have dK:=AY D
 have dI:=pU x
 have yc:=GV D x
 have dT:=GX D x
 refine Qh @aM ?_
 (refine Qa (fun h1=>?_) (fun h1=>?_)<;>try exact h1.elim)
 refine Qh (An @aM (An @oX @kJ)) ?_
 ((first|refine nv ke ?_|refine Ud ke ?_);(have au:=@aM;have aH:=@dS;have aV:=@dK;have bD:=@dI;have cC:=@dT;have dE:=@yc;have fe:=@hx;refine XG ?_;clear au aH aV bD cC dE fe;((try (repeat' with_reducible refine And.intro ?_ ?_));(try any_goals (first|refine zm ?_|exact CL|fail)))))
 (refine Qa (fun h2=>?_) (fun h2=>?_)<;>try exact h2.elim)
 refine Qg ?_
 refine ⟨(),To.dC (ex:=[(67,.cells [.int .i64 x])]) hT av av (by simp[Qy,Qe,look,aE])⟩
set_option maxHeartbeats 1000000 in
theorem Xxs (gl:Nat→AV) (T:WT) (hT:T.wf):GQ Tryz.prog gl 63 [.ptr 0 0] T.h 67 (List.range 67) (fun _:Unit=>True) (fun _=>.int .i64 T.now) (fun _=>T.h):=by
 refine Xyw.gq (of_decide_eq_true rfl) (fun q hq=>Xj (((WT.HL hT).mem q hq).2)) (fun b hb=>List.mem_range.1 hb) fun c a7 hg=>?_
 conv in aQ _ _=>cbv
 have oX:=WT.l0 T
 have g0:=WT.il T
 have aX:=WT.len hT
 refine Qg ?_
 (refine Qa (fun h1=>?_) (fun h1=>?_)<;>try exact h1.elim)
 refine Qh (An @oX @g0) ?_
 exact ⟨(),To.dC (ex:=[]) hT (fun b hb=>List.mem_range.1 hb) av (by simp[Qy,Qe,look,aE])⟩
def Uf (D:List Tm) (x:Int) (d:Nat):List Tm:=Yc x D++[⟨x,d⟩]
def WT.arm (T:WT) (D:List Tm) (x:Int) (d:Nat):WT:={ T with rows:=Xh T.now (T.rows.map (Yc x)) ⟨x,d⟩,mb:=.aC (br (Uf D x d)) false }
theorem Xin {D:List Tm} {x:Int} (h:jU D x=false):∀ t ∈ D,t.id≠x:=fun t ht e=>by
 unfold jU at h
 rw[List.any_eq_false]at h
 exact h t ht (by simpa using e)
theorem UR {D:List Tm} {x:Int}:∀ t ∈ Yc x D,t.id≠x:=fun t ht=>by simpa using (List.mem_filter.1 ht).2
theorem Qv0 {rows:List (List Tm)} {x:Int} (h:∀ t ∈ rows.flatten,t.id≠x):rows.map (Yc x)=rows:=by
 refine (List.map_congr_left fun r hr=>?_).trans (List.map_id rows)
 exact GY fun t ht=>h t (List.mem_flatten.2 ⟨r,hr,ht⟩)
def WT.pX (T:WT) (D:List Tm) (dn:Bool) (x:Int):WT:={ T with rows:=T.rows.map (Yc x),mb:=.aC (br (Yc x D)) (!jU D x && dn) }
def Nc (D:List Tm) (x:Int):Int:=bif jU D x then 0 else 7
theorem Qz6 (gl:Nat→AV) (T:WT) (D:List Tm) (dn:Bool) (hlen:T.rows.length=65) (eR:T.mb=.aC (br D) dn) (hd:D.Pairwise fun a b=>a.id≠b.id) (hp:T.rows.flatten.Perm D) (fM:∀ i,(T.row i).length≤1000000) (x:Int) :
  GQ Tryz.prog gl 164 [.ptr 0 0,.int .i64 x] T.h 67 [0,1] (fun _:Unit=>True) (fun _=>.int .i64 (Nc D x)) (fun _=>(T.pX D dn x).h):=by
 cases hx:jU D x with
 | true =>
  have:=Xeg gl T D dn hlen eR hd fM x hx
  unfold WT.pX Nc
  rw[hx];exact this
 | false =>
  have:=Qxi gl T D dn hlen eR x hx
  have cd:=Xin hx
  have e:T.pX D dn x=T:=by
   unfold WT.pX
   rw[hx,Qv0 fun t ht=>cd t (hp.mem_iff.1 ht),GY cd]
   show ({ T with mb:=.aC (br D) dn }:WT)=T
   rw[← eR]
  rw[e]
  unfold Nc
  rw[hx];exact this
set_option maxHeartbeats 2000000 in
theorem Xzt (gl:Nat→AV) (T:WT) (D:List Tm) (dn:Bool) (hlen:T.rows.length=65) (eR:T.mb=.aC (br D) dn) (hd:D.Pairwise fun a b=>a.id≠b.id) (hp:T.rows.flatten.Perm D) (hD:D.length≤100000) (hn:T.now≤1099511627776) (x:Int) (d:Nat) (hdm:d≤1099511627776) (ea:jU D x=true∨D.length < 400) :
  GQ Tryz.prog gl 131 [.ptr 0 0,.int .i64 x,.int .i64 d] T.h 67 [0,1] (fun _:Unit=>True) (fun _=>.int .i64 0) (fun _=>(T.arm D x (max d T.now)).h):=by
 have hT:=uK hlen eR
 refine MF.gq (of_decide_eq_true rfl) (fun q hq=>Xj (((WT.HL hT).mem q hq).2)) av fun c a7 hg=>?_
 conv in aQ _ _=>cbv
 have aM:=WT.aM hT
 have oX:=WT.l0 T
 have dS:=WT.l1 T
 rw[eR]at dS
 have kJ:=WT.eJ hT
 have aX:=WT.len hT
 have dK:=AY D
 have dI:=pU x
 have yc:=GV D x
 have dT:=GX D x
 have iM:=ry D
 have US:RI (fun _ _=>True) T.rows D:=RI.T hlen hp
 have fM:∀ i,(T.row i).length≤1000000:=fun i=>by
  by_cases hi:i < 65
  ·exact Nat.le_trans (US.eA hi) af
  ·have:T.row i=[]:=by unfold WT.row;simp[List.getD,hlen,show 65≤i by omega]
   rw[this];simp
 refine Qg ?_
 (refine Qa (fun h1=>?_) (fun h1=>?_)<;>try exact h1.elim)
 refine Qg ?_
 (refine Qa (fun h2=>?_) (fun h2=>?_)<;>try exact h2.elim)
 ·omega
 refine Qh (An @oX @kJ) ?_
 ((first|refine nv ke ?_|refine Ud ke ?_);(have au:=@dS;have aH:=@dK;have aV:=@dI;have bD:=@dT;have cC:=@yc;have dE:=@oX;have fe:=@kJ;have jh:=@iM;refine XG ?_;clear au aH aV bD cC dE fe jh;((try (repeat' with_reducible refine And.intro ?_ ?_));(try any_goals (first|refine zm ?_|exact CL|fail)))))
 (refine Qa (fun h3=>?_) (fun h3=>?_)<;>try exact h3.elim)
 ·rcases ea with h|h
  ·rw[h]at h3;simp at h3
  ·omega
 refine Qg ?_
 have kK:=Qz6 c.gl T D dn hlen eR hd hp fM x
 have mH:(T.pX D dn x).wf:=⟨by simp[WT.pX,hlen],Uw 2 _⟩
 have nI:(T.pX D dn x).mb=.aC (br (Yc x D)) (!jU D x && dn):=rfl
 have tg:(T.pX D dn x).now=T.now:=rfl
 have uN:=US.filter fun t=>!(t.id == x)
 have oW:∀ i,i < 65→((T.pX D dn x).row i).length≤1000000:=fun i hi=>by
  have:=uN.eA hi
  have h2:=List.length_filter_le (fun t:Tm=>!(t.id == x)) D
  exact Nat.le_trans this af
 have gU:∀ m,WT.lay { T.pX D dn x with mb:=.aC (br (Uf D x m)) false } ⟨x,m⟩=T.arm D x m:=fun m=>rfl
 refine ru (W:=fun _:Unit=>T.pX D dn x) kK hT (fun _ _=>mH) a7 (by simp[iq]) [(36,.ptr 0 0),(37,.int .i64 x),(0,.ptr 0 0),(1,.int .i64 x),(2,.int .i64 d)] [] 67 (To.dH (by exact Qw) fun b=>rfl) av ?_ (by simp[Qe]) fun _ _=>?_
 ·exact Qw
 generalize bu:T.pX D dn x=T1 at *
 have uM:=WT.l0 T1
 have yr:=WT.l1 T1
 rw[nI]at yr
 have yn:=WT.il T1
 rw[tg]at yn
 have DO:=WT.eJ mH
 have iV:=WT.len mH
 have DP:=AY (Yc x D)
 obtain ⟨M,hM,hMv,ka⟩:∃ M,max d T.now=M∧M≤1099511627776∧((((T.now:Int) > (d:Int))=True∧M=T.now)∨(((T.now:Int) > (d:Int))=False∧M=d)):=⟨_,rfl,by omega,by
  by_cases h:d < T.now
  ·left;exact ⟨eq_true af,by omega⟩
  ·right;exact ⟨eq_false af,by omega⟩⟩
 rw[hM]
 have iY:=Xtv (UR (D:=D) (x:=x)) M
 have rI:=hMv
 rcases ka with ⟨ka,Hh⟩|⟨ka,Hh⟩
 ·have yn:T1.cells.getD 0 .any=.int .i64 (M:Int):=by rw[yn,Hh]
  rw[← Hh]at ka
  refine Qh (An @uM (An @yn (An @DO @ka))) ?_
  ((first|refine z6 ke ?_|refine z7 ke ?_);(have au:=@yr;have aH:=@DP;have aV:=@dI;have bD:=@iY;refine XG ?_;clear au aH aV bD;((try (repeat' with_reducible refine And.intro ?_ ?_));(try any_goals (first|refine zm ?_|exact CL|fail)))))
  have fG:WT.wf { T1 with mb:=.aC (br (Uf D x M)) false }:=⟨mH.len,Uw 2 _⟩
  have eC:=yb c.gl { T1 with mb:=.aC (br (Uf D x M)) false } fG ⟨x,M⟩ (by show T1.now≤_;omega) rI (oW _ (vV _ _))
  rw[gU]at eC
  have DQ:(T.arm D x M).wf:=⟨by simp[WT.arm,Xh,hlen],Uw 2 _⟩
  refine ru (W:=fun _:Unit=>T.arm D x M) eC fG (fun _ _=>DQ) a7 (by simp[iq]) [(51,.ptr 0 0),(54,.agg [.int .i64 x,.int .i64 (M:Int)])] [] 67 (To.trans (To.gb (b:=1) (kvs:=br (Uf D x M)) (dn:=!jU D x && dn) rfl) (To.dH (by exact Qw) fun b=>?_)) av ?_ (by simp[Qe,ai]) fun _ _=>?_
  ·have yj:WT.cells { T1 with mb:=.aC (br (Uf D x M)) false }=T1.cells:=rfl
   show Qc (WT.h { T1 with mb:=.aC (br (Uf D x M)) false }) 67 b=Qc ((1,.aC (br (Uf D x M)) false)::(1,_)::T1.h) 67 b
   simp only[Qd,WT.bA,yj]
   (repeat' split)<;>first|rfl|omega
  ·exact Qw
  refine Qg ?_
  exact ⟨(),To.dC (ex:=[]) DQ av av (by simp[Qy,Qe,look,aE])⟩
 ·subst Hh
  refine Qh (An @uM (An @yn (An @DO @ka))) ?_
  ((first|refine z6 ke ?_|refine z7 ke ?_);(have au:=@yr;have aH:=@DP;have aV:=@dI;have bD:=@iY;refine XG ?_;clear au aH aV bD;((try (repeat' with_reducible refine And.intro ?_ ?_));(try any_goals (first|refine zm ?_|exact CL|fail)))))
  have fG:WT.wf { T1 with mb:=.aC (br (Uf D x M)) false }:=⟨mH.len,Uw 2 _⟩
  have eC:=yb c.gl { T1 with mb:=.aC (br (Uf D x M)) false } fG ⟨x,M⟩ (by show T1.now≤_;omega) rI (oW _ (vV _ _))
  rw[gU]at eC
  have DQ:(T.arm D x M).wf:=⟨by simp[WT.arm,Xh,hlen],Uw 2 _⟩
  refine ru (W:=fun _:Unit=>T.arm D x M) eC fG (fun _ _=>DQ) a7 (by simp[iq]) [(51,.ptr 0 0),(54,.agg [.int .i64 x,.int .i64 (M:Int)])] [] 67 (To.trans (To.gb (b:=1) (kvs:=br (Uf D x M)) (dn:=!jU D x && dn) rfl) (To.dH (by exact Qw) fun b=>?_)) av ?_ (by simp[Qe,ai]) fun _ _=>?_
  ·have yj:WT.cells { T1 with mb:=.aC (br (Uf D x M)) false }=T1.cells:=rfl
   show Qc (WT.h { T1 with mb:=.aC (br (Uf D x M)) false }) 67 b=Qc ((1,.aC (br (Uf D x M)) false)::(1,_)::T1.h) 67 b
   simp only[Qd,WT.bA,yj]
   (repeat' split)<;>first|rfl|omega
  ·exact Qw
  refine Qg ?_
  exact ⟨(),To.dC (ex:=[]) DQ av av (by simp[Qy,Qe,look,aE])⟩
set_option maxHeartbeats 1000000 in
theorem Xik (gl:Nat→AV) (T:WT) (hT:T.wf) (x d:Int) (hd:d < 0∨1099511627776 < d):GQ Tryz.prog gl 131 [.ptr 0 0,.int .i64 x,.int .i64 d] T.h 67 [0,1] (fun _:Unit=>True) (fun _=>.int .i64 2) (fun _=>T.h):=by
 refine MF.gq (of_decide_eq_true rfl) (fun q hq=>Xj (((WT.HL hT).mem q hq).2)) av fun c a7 hg=>?_
 conv in aQ _ _=>cbv
 refine Qg ?_
 (refine Qa (fun h1=>?_) (fun h1=>?_)<;>try exact h1.elim)
 refine Qg ?_
 (refine Qa (fun h2=>?_) (fun h2=>?_)<;>try exact h2.elim)
 ·refine Qg ?_
  exact ⟨(),To.dC (ex:=[]) hT av av (by simp[Qy,Qe,look,aE])⟩
 ·omega
set_option maxHeartbeats 1000000 in
theorem Xlq (gl:Nat→AV) (T:WT) (D:List Tm) (dn:Bool) (hlen:T.rows.length=65) (eR:T.mb=.aC (br D) dn) (x d:Int) (hd:0≤d) (hdm:d≤1099511627776) (hx:jU D x=false) (hD:400≤D.length):GQ Tryz.prog gl 131 [.ptr 0 0,.int .i64 x,.int .i64 d] T.h 67 [0,1] (fun _:Unit=>True) (fun _=>.int .i64 6) (fun _=>T.h):=by
 have hT:=uK hlen eR
 refine MF.gq (of_decide_eq_true rfl) (fun q hq=>Xj (((WT.HL hT).mem q hq).2)) av fun c a7 hg=>?_
 conv in aQ _ _=>cbv
 have oX:=WT.l0 T
 have dS:=WT.l1 T
 rw[eR]at dS
 have kJ:=WT.eJ hT
 have aX:=WT.len hT
 have dK:=AY D
 have dI:=pU x
 have yc:=GV D x
 have dT:=GX D x
 have iM:=ry D
 refine Qg ?_
 (refine Qa (fun h1=>?_) (fun h1=>?_)<;>try exact h1.elim)
 refine Qg ?_
 (refine Qa (fun h2=>?_) (fun h2=>?_)<;>try exact h2.elim)
 ·omega
 refine Qh (An @oX @kJ) ?_
 ((first|refine nv ke ?_|refine Ud ke ?_);(have au:=@dS;have aH:=@dK;have aV:=@dI;have bD:=@dT;have cC:=@yc;have dE:=@oX;have fe:=@kJ;have jh:=@iM;refine XG ?_;clear au aH aV bD cC dE fe jh;((try (repeat' with_reducible refine And.intro ?_ ?_));(try any_goals (first|refine zm ?_|exact CL|fail)))))
 (refine Qa (fun h3=>?_) (fun h3=>?_)<;>try exact h3.elim)
 ·refine Qg ?_
  exact ⟨(),To.dC (ex:=[]) hT av av (by simp[Qy,Qe,look,aE])⟩
 ·rw[hx]at h3;simp at h3;omega
set_option maxHeartbeats 1000000 in
theorem Xih (gl:Nat→AV) (T:WT) (hT:T.wf) (d:Int) (hd:d < T.now∨1099511627776 < d):GQ Tryz.prog gl 98 [.ptr 0 0,.int .i64 d] T.h 67 [0,1] (fun _:Unit=>True) (fun _=>.aU [.nils,.int .i64 2]) (fun _=>T.h):=by
 refine MG.gq (of_decide_eq_true rfl) (fun q hq=>Xj (((WT.HL hT).mem q hq).2)) av fun c a7 hg=>?_
 conv in aQ _ _=>cbv
 have oX:=WT.l0 T
 have g0:=WT.il T
 have aX:=WT.len hT
 refine Qg ?_
 (refine Qa (fun h1=>?_) (fun h1=>?_)<;>try exact h1.elim)
 refine Qh (An @oX @g0) ?_
 (refine Qa (fun h2=>?_) (fun h2=>?_)<;>try exact h2.elim)
 ·refine Qg ?_
  exact ⟨(),To.dC (ex:=[]) hT av av (by simp[Qy,Qe,ai,look,aE,az])⟩
 ·omega
theorem GQ.lY {P:Program} {gl:Nat→AV} {f:FuncId} {args:List AV} {aI:List (Nat × Bk)} {m:Nat} {p:List Nat} {r:AV} {T2:WT} {Q:WT→Prop} (h:GQ P gl f args aI m p (fun _:Unit=>True) (fun _=>r) (fun _=>T2.h)) (hQ:Q T2):GQ P gl f args aI m p Q (fun _=>r) WT.h :=
 ⟨h.1,fun w vs G X g hR hv=>(h.2 w vs G X g hR hv).mono fun e w' ⟨_,v,g',q1,q2,q3,q4,q5⟩=>⟨T2,v,g',hQ,q2,q3,q4,q5⟩⟩
theorem GQ.wk {P:Program} {gl:Nat→AV} {f:FuncId} {args:List AV} {aI:List (Nat × Bk)} {m:Nat} {p:List Nat} {ι:Type} {Q:ι→Prop} {r r':ι→AV} {ax:ι→List (Nat × Bk)} (h:GQ P gl f args aI m p Q r ax) (hr:∀ x,Wk (r x) (r' x)):GQ P gl f args aI m p Q r' ax :=
 ⟨h.1,fun w vs G X g hR hv=>(h.2 w vs G X g hR hv).mono fun e w' ⟨x,v,g',q1,q2,q3,q4,q5⟩=>⟨x,v,g',q1,q2,q3,q4,hr x _ _ _ _ q5⟩⟩
structure WI (T:WT) (n:Nat) (D:List Tm):Prop where
 now:T.now=n
 mb:∃ dn,T.mb=.aC (br D) dn
 wg:WG n T.rows D
 cap:D.length≤400
 hi:n≤1099511627776
theorem WI.wf {T:WT} {n:Nat} {D:List Tm} (h:WI T n D):T.wf:=by
 obtain ⟨dn,e⟩:=h.mb
 exact uK h.wg.ri.len e
theorem WI.iC {T T':WT} {n:Nat} {D:List Tm} (h:WI T n D) (hs:T'.iC T):WI T' n D :=
 ⟨hs.now.trans h.now,by obtain ⟨dn,e⟩:=h.mb;exact ⟨dn,hs.mb.trans e⟩,⟨h.wg.ri.iC ⟨hs.len,hs.row⟩,h.wg.lo,h.wg.hi,h.wg.dP,h.wg.len⟩,h.cap,h.hi⟩
theorem WI.fJ {T:WT} {n:Nat} {D:List Tm} (h:WI T n D) (gl:Nat→AV):GD Tryz.prog gl 63 [.ptr 0 0] T.hb 67 (List.range 67) (.int .i64 n) T.hb :=
 AX fun T' hs=>by
  have:=Xxs gl T' (h.iC hs).wf
  rw[(h.iC hs).now]at this
  exact this.lY hs
theorem Xrm {r' r:List (List Tm)} (h:Jc r' r) (x:Int):Jc (r'.map (Yc x)) (r.map (Yc x)):=by
 refine ⟨by simp[h.1],fun i=>?_⟩
 have e:∀ l:List (List Tm),(l.map (Yc x)).getD i []=Yc x (l.getD i []):=fun l=>by
  simp only[List.getD,List.getElem?_map]
  cases l[i]?<;>rfl
 rw[e,e]
 exact (h.2 i).filter _
theorem Xum (x:Int) (D:List Tm):(Yc x D).length≤D.length:=List.length_filter_le _ _
def yt (n:Nat) (D:List Tm) (x d:Int):Int × List Tm:=if d < 0∨1099511627776 < d then (2,D) else if jU D x=false∧400≤D.length then (6,D) else (0,Uf D x (max d.toNat n))
theorem Xpc (D:List Tm) (x:Int) (d:Nat):((⟨x,d⟩:Tm)::Yc x D).Perm (Uf D x d):=(List.perm_append_singleton _ _).symm
theorem WI.rJ {T:WT} {n:Nat} {D:List Tm} (h:WI T n D) (gl:Nat→AV) (x d:Int):∃ T',WI T' n (yt n D x d).2∧GD Tryz.prog gl 131 [.ptr 0 0,.int .i64 x,.int .i64 d] T.hb 67 [0,1] (.int .i64 (yt n D x d).1) T'.hb:=by
 unfold yt
 by_cases h1:d < 0∨1099511627776 < d
 ·rw[if_pos h1]
  exact ⟨T,h,AX fun T' hs=>(Xik gl T' (h.iC hs).wf x d h1).lY hs⟩
 rw[if_neg h1]
 obtain ⟨dn,e⟩:=h.mb
 obtain ⟨k,rfl⟩:∃ k:Nat,d=k:=⟨d.toNat,by omega⟩
 by_cases h2:jU D x=false∧400≤D.length
 ·rw[if_pos h2]
  exact ⟨T,h,AX fun T' hs=>(Xlq gl T' D dn (h.iC hs).wg.ri.len (hs.mb.trans e) x k af af h2.1 h2.2).lY hs⟩
 rw[if_neg h2]
 rw[show (k:Int).toNat=k by omega]
 have ea:jU D x=true∨D.length < 400:=by
  cases hx:jU D x with
  | true=>exact .inl rfl
  | false=>exact .inr (by simp[hx]at h2;omega)
 have ct:=h.wg.ri.filter fun t=>!(t.id == x)
 have eC:RI (Pl n) (Xh T.now (T.rows.map (Yc x)) ⟨x,max k n⟩) (Uf D x (max k n)):=by
  rw[h.now]
  exact (RI.lay (now:=n) (t:=⟨x,max k n⟩) ct (MA (by show n≤max k n;omega))).iB (Xpc D x _)
 have bI:∀ t ∈ Uf D x (max k n),t ∈ Yc x D∨t=⟨x,max k n⟩:=fun t ht=>by
  rcases List.mem_append.1 ht with h|h
  ·exact .inl h
  ·exact .inr (List.mem_singleton.1 h)
 have hlen:(Uf D x (max k n)).length≤400:=by
  unfold Uf
  rw[List.length_append]
  have h3:=Xum x D
  have h4:=h.cap
  simp only[List.length_cons,List.length_nil]
  rcases ea with h5|h5
  ·have:(Yc x D).length < D.length:=by
    unfold jU at h5
    rw[List.any_eq_true]at h5
    obtain ⟨t,ht,hx⟩:=h5
    unfold Yc
    rw[List.length_filter_lt_length_iff_exists]
    exact ⟨t,ht,by simp[hx]⟩
   omega
  ·omega
 refine ⟨T.arm D x (max k n),⟨h.now,⟨_,rfl⟩,⟨eC,fun t ht=>?_,fun t ht=>?_,?_,by dsimp only;omega⟩,hlen,h.hi⟩,AX fun T' hs=>?_⟩
 ·rcases bI t ht with ht|rfl
  ·exact h.wg.lo t (G0.subset ht)
  ·show n≤max k n;omega
 ·rcases bI t ht with ht|rfl
  ·exact h.wg.hi t (G0.subset ht)
  ·show max k n≤1099511627776;have:=h.hi;omega
 ·unfold Uf
  rw[List.pairwise_append]
  refine ⟨h.wg.dP.sublist G0,by simp,fun a ha b hb=>?_⟩
  obtain rfl:=List.mem_singleton.1 hb
  exact UR a ha
 ·have h':=h.iC hs
  have mr:T'.now=n:=h'.now
  have:=Xzt gl T' D dn h'.wg.ri.len (hs.mb.trans e) h'.wg.dP h'.wg.ri.perm h'.wg.len (by rw[mr];exact h.hi) x k af ea
  rw[mr]at this
  refine this.lY ?_
  have hr:=(Xrm (r':=T'.rows) (r:=T.rows) ⟨hs.len,hs.row⟩ x).lay T.now ⟨x,max k n⟩
  refine ⟨hs.now,rfl,?_,?_⟩
  ·have:=hr.1
   unfold WT.arm;rw[hs.now];exact this
  ·have:=hr.2
   unfold WT.arm;rw[hs.now];exact this
def v7 (n:Nat) (D:List Tm) (to:Int):Int × List Int × Nat × List Tm:=if to < n∨1099511627776 < to then (2,[],n,D) else (0,bj D (to.toNat + 1),to.toNat,D.filter fun t=>decide (to.toNat < t.due))
theorem WI.yu {T:WT} {n:Nat} {D:List Tm} (h:WI T n D) (gl:Nat→AV) (to:Int):∃ T',WI T' (v7 n D to).2.2.1 (v7 n D to).2.2.2∧GD Tryz.prog gl 98 [.ptr 0 0,.int .i64 to] T.hb 67 [0,1] (.aU [.isl (v7 n D to).2.1.length (Qp (v7 n D to).2.1),.int .i64 (v7 n D to).1]) T'.hb:=by
 unfold v7
 by_cases h1:to < n∨1099511627776 < to
 ·rw[if_pos h1]
  exact ⟨T,h,AX fun T' hs=>((Xih gl T' (h.iC hs).wf to (by rw[(h.iC hs).now];exact h1)).wk (r':=fun _=>.aU [.isl 0 (Qp []),.int .i64 2]) fun _=>Wk.KZ Wk.nils (Wk.refl _)).lY hs⟩
 rw[if_neg h1]
 obtain ⟨dn,e⟩:=h.mb
 obtain ⟨k,rfl⟩:∃ k:Nat,to=k:=⟨to.toNat,by omega⟩
 rw[show (k:Int).toNat=k by omega]
 have hD:=M4 D (k - n + 1) n T.rows D k af af h.wg (List.filter_eq_self.2 fun t ht=>by simpa using h.wg.lo t ht).symm
 have ct:(D.filter fun t=>decide (k < t.due)).Sublist D:=List.filter_sublist
 refine ⟨{ now:=k,rows:=(lH (k - n + 1) n T.rows D k).1,mb:=.aC (br (lH (k - n + 1) n T.rows D k).2) false },⟨rfl,⟨false,by rw[hD.1]⟩,⟨?_,fun t ht=>?_,fun t ht=>h.wg.hi t (ct.subset ht),h.wg.dP.sublist ct,Nat.le_trans ct.length_le h.wg.len⟩,Nat.le_trans ct.length_le h.cap,by dsimp only;omega⟩,AX fun T' hs=>?_⟩
 ·have:=hD.2
  rw[hD.1]at this ⊢;exact this
 ·have:=(List.mem_filter.1 ht).2
  simp at this;show k≤t.due;omega
 ·have h':=h.iC hs
  have mr:T'.now=n:=h'.now
  have v8:WG T'.now T.rows D:=by rw[mr];exact h.wg
  have:=Yb8 gl T' T.rows D dn ⟨hs.len,hs.row⟩ (hs.mb.trans e) v8 k af af
  rw[mr]at this
  exact this
theorem GS.to0 {P:Program} {gl:Nat→AV} {f:FuncId} {args:List AV} {n n':Nat} {r r':AV} {ax lj:List (Nat × Bk)} (h:GS P gl f args [] 0 r ax n) (gT:To [] ⟨[(0,r)],ax,n⟩ ⟨[(0,r')],lj,n'⟩):GS P gl f args [] 0 r' lj n':=by
 refine ⟨h.1,fun w vs G X g hR hv=>(h.2 w vs G X g hR hv).mono ?_⟩
 rintro e w' ⟨v,g',q1,q2,q3,q4⟩
 have cu:R ⟨1,w,G,X,gl,[]⟩ g' (⟨[(0,r)],ax,n⟩:St).fs ⟨#[v],[]⟩ w':=by
  refine ⟨rfl,rfl,fun i=>?_,q2.gl,q2.h,q2.inj,q2.old,q2.fr,q2.xs,q2.ib⟩
  show VR g' _ w' (look [(0,r)] i) _
  rw[Zn]
  split
  ·rename_i hi;subst hi;exact q4
  ·exact .any _
 obtain ⟨g2,bV⟩:=gT _ g' _ w' (fun q hq=>by cases hq) cu
 exact ⟨v,g2,q1,⟨rfl,rfl,fun i=>.any _,bV.gl,bV.h,bV.inj,bV.old,bV.fr,bV.xs,fun q hq=>by cases hq⟩,fun b hb=>by omega,bV.t 0⟩
theorem To.db {p:List Nat} {t:List (Nat × AV)} {ex:List (Nat × Bk)} {T:WT} {n:Nat} (hex:∀ q ∈ ex,67≤q.1) (hT:T.wf):To p ⟨t,ex++T.h,n⟩ ⟨t,ex++T.hb,n⟩:=fun c g a w _ hR=>by
 have hl:=hT.len
 have key:∀ b,(Qc (ex++T.hb) n b=Qc (ex++T.h) n b)∨∃ l,Qc (ex++T.h) n b=.cells (bb l)∧Qc (ex++T.hb) n b=.db (oS l):=fun b=>by
  by_cases hb:b < 67
  ·rw[Xn fun q hq e=>by have:=hex q hq;omega,Xn fun q hq e=>by have:=hex q hq;omega,WT.bA,WT.dN]
   by_cases h0:0=b
   ·rw[if_pos h0,if_pos h0];exact .inl rfl
   by_cases h1:1=b
   ·rw[if_neg h0,if_neg h0,if_pos h1,if_pos h1];exact .inl rfl
   rw[if_neg h0,if_neg h0,if_neg h1,if_neg h1,if_pos af,if_pos af]
   exact .inr ⟨_,rfl,rfl⟩
  ·exact .inl (CC (by rw[WT.bA,WT.dN,if_neg af,if_neg af,if_neg af,if_neg (show ¬ 0=b by omega),if_neg (show ¬ 1=b by omega),if_neg (show ¬ (2≤b∧b < 2 + T.rows.length) by omega)]))
 refine ⟨g,hR.gg (fun i v hv=>hv) (fun b hb=>?_) fun b=>?_⟩
 ·show BR _ _ _ _ (Qc (ex++T.hb) n b)
  have e:(⟨t,ex++T.h,n⟩:St).fs.H b=Qc (ex++T.h) n b:=rfl
  rw[e]at hb
  rcases key b with h|⟨l,h1,h2⟩
  ·rw[h];exact hb
  ·rw[h1]at hb;rw[h2];exact TO hb (List.Perm.refl _)
 ·show (Qc (ex++T.hb) n b).live ↔ (Qc (ex++T.h) n b).live
  rcases key b with h|⟨l,h1,h2⟩
  ·rw[h]
  ·rw[h1,h2];exact ⟨fun _=>trivial,fun _=>trivial⟩
theorem Xnk (m:Nat) (mb:Bk) (h:bJ 2 mb):(Ke m mb).wf:=⟨by simp[Ke],h⟩
theorem Nd (n:Nat) (hn:n≤1099511627776):WI (Ke n (.aC [] true)) n [] :=
 ⟨rfl,⟨true,rfl⟩,⟨RI.Dt (D:=[]) (l:=[]) (List.Perm.refl _) av,by simp,by simp,by simp,by simp⟩,by simp,hn⟩
theorem Xwy (gl:Nat→AV) (n:Nat) (hn:n≤1099511627776):GS Tryz.prog gl 70 [.int .i64 n] [] 0 (.aU [.ptr 0 0,.int .i64 0]) (Ke n (.aC [] true)).hb 67:=by
 have h0:GS Tryz.prog gl 70 [.int .i64 n] [] 0 (.aU [.ptr 0 0,.int .i64 0]) [(0,.cells (nT n)),(1,.aC [] true)] 2:=Yag gl n af af
 refine h0.to0 (To.trans (To.nils (m:=n) (mb:=.aC [] true) (t':=[(0,.aU [.ptr 0 0,.int .i64 0])]) rfl (fun j=>?_) (Nat.le_refl 2) rfl (fun q hq=>by cases hq) av ?_) (To.db (ex:=[]) av (Xnk n (.aC [] true) fun q hq=>by cases hq)))
 ·show Qc [(0,_),(1,_)] (2 + j) (2 + j)=.free
  rw[Qd,if_neg af,Qd,if_neg af,Fq,if_neg af]
 ·simp[Qy,Qe,ai,look,aE,az,kL]
open Classical in
noncomputable def oZ (s:St):Nat→List (Nat × Bk)
 | 0=>[]
 | k + 1=>if (Qc s.h s.n k).live then (k,Qc s.h s.n k)::oZ s k else oZ s k
theorem Hj {s:St}:∀ {k:Nat} {q:Nat × Bk},q ∈ oZ s k ↔ q.1 < k∧(Qc s.h s.n q.1).live∧q.2=Qc s.h s.n q.1
 | 0,q=>by simp[oZ]
 | k + 1,q=>by
  unfold oZ
  split
  ·rename_i h
   rw[List.mem_cons,Hj]
   constructor
   ·rintro (rfl|⟨h1,h2⟩)
    ·exact ⟨by dsimp only;omega,h,rfl⟩
    ·exact ⟨by omega,h2⟩
   ·rintro ⟨h1,h2,h3⟩
    by_cases e:q.1=k
    ·left;rw[e]at h3;exact Prod.ext e h3
    ·right;exact ⟨by omega,h2,h3⟩
  ·rename_i h
   rw[Hj]
   constructor
   ·rintro ⟨h1,h2⟩;exact ⟨by omega,h2⟩
   ·rintro ⟨h1,h2,h3⟩
    refine ⟨?_,h2,h3⟩
    by_cases e:q.1=k
    ·rw[e]at h2;exact (h h2).elim
    ·omega
open Classical in
theorem Nf {s:St} {n b:Nat}:∀ {k:Nat},Qc (oZ s k) n b=if b < k∧(Qc s.h s.n b).live then Qc s.h s.n b else if b < n then .dead else .free
 | 0=>by rw[if_neg af];rfl
 | k + 1=>by
  unfold oZ
  split
  ·rename_i h
   rw[Qd,Nf]
   by_cases e:k=b
   ·subst e;rw[if_pos rfl,if_pos ⟨by omega,h⟩]
   ·rw[if_neg e]
    by_cases h2:b < k∧(Qc s.h s.n b).live
    ·rw[if_pos h2,if_pos ⟨by omega,h2.2⟩]
    ·rw[if_neg h2,if_neg (show ¬ (b < k + 1∧(Qc s.h s.n b).live) by rintro ⟨h3,h4⟩;exact h2 ⟨by omega,h4⟩)]
  ·rename_i h
   rw[Nf]
   by_cases h2:b < k∧(Qc s.h s.n b).live
   ·rw[if_pos h2,if_pos ⟨by omega,h2.2⟩]
   ·have h5:¬ (b < k + 1∧(Qc s.h s.n b).live):=by
     rintro ⟨h3,h4⟩
     by_cases e:b=k
     ·subst e;exact h h4
     ·exact h2 ⟨by omega,h4⟩
    rw[if_neg h2,if_neg h5]
theorem Ng {ρ:Nat→Nat} {n':Nat} {s s':St} (bU:∀ b b',b < n'→b' < n'→(Qc s'.h s'.n b).live→(Qc s'.h s'.n b').live→ρ b=ρ b'→b=b') (hl:∀ b,b < n'→(Qc s'.h s'.n b).live→bJ n' (Qc s'.h s'.n b)∧Qc s.h s.n (ρ b)=Xg ρ (Qc s'.h s'.n b)):∀ k,k≤n'→oD ρ n' s (oZ s' k)
 | 0,_=>trivial
 | k + 1,hk=>by
  unfold oZ
  split
  ·rename_i h
   obtain ⟨h1,h2⟩:=hl k af h
   have not:∀ l:List (Nat × Bk),(∀ q ∈ l,q.1 < k∧(Qc s'.h s'.n q.1).live)→tM ρ k l:=fun l=>by
    induction l with
    | nil=>intro _;trivial
    | cons q l ih =>
     intro hq
     obtain ⟨i,x⟩:=q
     obtain ⟨g1,g2⟩:=hq (i,x) av
     refine ⟨fun e=>?_,ih fun q cF=>hq q (by simp[cF])⟩
     have g1:i < k:=g1
     have:=bU i k af af g2 h e
     omega
   exact ⟨⟨by omega,h1,h2,not _ fun q hq=>⟨(Hj.1 hq).1,(Hj.1 hq).2.1⟩⟩,Ng bU hl k af⟩
  ·exact Ng bU hl k af
open Classical in
theorem UT {s':St} (hd:∀ b,b < s'.n→¬ (Qc s'.h s'.n b).live→Qc s'.h s'.n b=.dead) (hf:∀ b,s'.n≤b→Qc s'.h s'.n b=.free) (b:Nat):Qc (oZ s' s'.n) s'.n b=Qc s'.h s'.n b:=by
 rw[Nf]
 by_cases h1:b < s'.n
 ·by_cases h2:(Qc s'.h s'.n b).live
  ·rw[if_pos ⟨h1,h2⟩]
  ·rw[if_neg fun h=>h2 h.2,if_pos h1,hd b h1 h2]
 ·rw[if_neg fun h=>h1 h.1,if_neg h1,hf b af]
theorem To.lk {p:List Nat} {s s':St} (ρ:Nat→Nat) (hp:∀ b ∈ p,ρ b=b∧b < s'.n) (aI:∀ b,(Qc s'.h s'.n b).live→b < s'.n) (hd:∀ b,b < s'.n→¬ (Qc s'.h s'.n b).live→Qc s'.h s'.n b=.dead) (hf:∀ b,s'.n≤b→Qc s'.h s'.n b=.free)
  (bU:∀ b b',b < s'.n→b' < s'.n→(Qc s'.h s'.n b).live→(Qc s'.h s'.n b').live→ρ b=ρ b'→b=b') (hl:∀ b,b < s'.n→(Qc s'.h s'.n b).live→bJ s'.n (Qc s'.h s'.n b)∧Qc s.h s.n (ρ b)=Xg ρ (Qc s'.h s'.n b)) (ht:Qy ρ s'.n s.t s'.t):To p s s':=by
 have h1:To p s ⟨s'.t,oZ s' s'.n,s'.n⟩:=To.CA (ρ:=ρ) hp ⟨ht,Ng bU hl _ (Nat.le_refl _)⟩
 refine h1.trans fun c g a w _ hR=>⟨g,hR.gg (fun _ _ h=>h) (fun b h=>?_) fun b=>?_⟩
 ·have e:=UT hd hf b
  have h:BR g _ w (g b) (Qc (oZ s' s'.n) s'.n b):=h
  rw[e]at h;exact h
 ·have e:=UT hd hf b
  show (Qc s'.h s'.n b).live ↔ (Qc (oZ s' s'.n) s'.n b).live
  rw[e]
section
variable {P:Program} {c:Cx}
theorem Xl8 {s:St} {d:Option Nat} {f:FuncId} {xs:List TV} {args:List AV} {r:AV} {ax:List (Nat × Bk)} {m:Nat} (eM:GS P c.gl f args [] 0 r ax m) (yv:HL ax m) (hc:Qv none (aG c.gl s.fs xs)) (aN:(aG c.gl s.fs xs).map Qk=args) (wL:ai 0 args) (J1:Qe m r) (hs:∀ q ∈ s.h,q.1 < s.n) :
  Ky P c (.pd d (.call f) xs none) s.fs ⟨Xr xs,(List.range m).map fun b=>s.n + b,d.toList,(List.range m).map fun b=>s.n + b⟩ (St.bQ ⟨s.t,s.h++Xc (fun b=>s.n + b) ax,s.n + m⟩ d (aE (fun b=>s.n + b) r)).fs:=by
 have hn:∀ b b',b < m→b' < m→s.n + b=s.n + b'→b=b':=fun b b' _ _ e=>by omega
 have hm:∀ q ∈ ax,q.1 < m:=fun q hq=>(yv.mem q hq).1
 have ew:∀ b,∀ q ∈ s.h,q.1≠s.n + b:=fun b q hq=>by have:=hs q hq;omega
 have bq:∀ b,s.fs.H (s.n + b)=.free:=fun b=>by
  show Qc s.h s.n (s.n + b)=_
  have:∀ l:List (Nat × Bk),(∀ q ∈ l,q.1≠s.n + b)→Qc l s.n (s.n + b)=.free:=fun l=>by
   induction l with
   | nil=>intro _;rw[Fq,if_neg af]
   | cons q l ih =>
    obtain ⟨i,x⟩:=q
    intro h
    rw[Qd,if_neg (h (i,x) av),ih fun q hq=>h q (by simp[hq])]
  exact this s.h (ew b)
 have hH:∀ y j,(St.bQ ⟨s.t,s.h++Xc (fun b=>s.n + b) ax,s.n + m⟩ d y).fs.H j=Qc (s.h++Xc (fun b=>s.n + b) ax) (s.n + m) j:=fun y j=>by cases d<;>rfl
 refine J0 (σ:=fun b=>s.n + b) eM (fun o ys aJ tX s2 g a w hT hR=>?_) hn (fun p hp=>by cases hp) (fun b hb=>by omega) (Nat.zero_le _) (fun b _ _=>bq b) (fun p hp=>yv.mem p hp) J1 wL (fun b hb=>List.mem_map.2 ⟨b,List.mem_range.2 hb,rfl⟩) (fun j hj=>?_) (fun i=>?_) (fun b hb=>?_) fun j hj=>?_
 ·obtain ⟨ts,bl⟩:=wV aJ
  subst tX
  have bp:aG c.gl s2 (ys.map aT)=aG c.gl s.fs (ys.map aT):=Yi fun i hi=>hT i hi
  have hv:=Yn (hR.aG ys) (by rw[bp];exact hc)
  rw[bp,aN]at hv
  have hr:az (fun b=>s.n + b) args=args:=by
   rw[Yu]
   exact (List.map_congr_left fun v hv=>uI (n:=0) (fun b hb=>by omega) v (Xv.1 wL v hv)).trans (List.map_id _)
  rw[hr]
  exact ⟨_,wW eM.1 bl a w,hv⟩
 ·obtain ⟨b,hb,rfl⟩:=List.mem_map.1 hj
  exact ⟨b,List.mem_range.1 hb,rfl⟩
 ·cases d with
  | none=>rfl
  | some d=>show look ((d,_)::s.t) i=_;rw[Zn];rfl
 ·rw[hH,Xn (ew b),Kb hn hb hm (yv.fN b hb)]
  obtain ⟨_,q,hq,_,e⟩:=yv.live hb m
  rw[e]
  have:=(yv.mem q hq).2
  cases hx:q.2<;>first|rfl|(rw[hx]at this;exact this.elim)
 ·rw[hH]
  show _=Qc s.h s.n j
  have cU:∀ b,b < m→s.n + b≠j:=fun b hb e=>hj (List.mem_map.2 ⟨b,List.mem_range.2 hb,e⟩)
  have key:∀ l:List (Nat × Bk),Qc (l++Xc (fun b=>s.n + b) ax) (s.n + m) j=Qc l s.n j:=fun l=>by
   induction l with
   | nil =>
    rw[List.nil_append,Wv cU hm,Fq]
    by_cases h:j < s.n
    ·rw[if_pos h,if_pos af]
    ·rw[if_neg h,if_neg]
     intro h2
     exact cU (j - s.n) af af
   | cons q l ih=>obtain ⟨i,x⟩:=q;rw[List.cons_append,Qd,Qd,ih]
  exact key s.h
theorem DR {r0:List bG} {K:St→Prop} {s:St} {d:Option Nat} {f:FuncId} {xs:List TV} {args:List AV} {r:AV} {ax:List (Nat × Bk)} {m:Nat} (eM:GS P c.gl f args [] 0 r ax m) (yv:HL ax m) (hc:Qv none (aG c.gl s.fs xs)∧(aG c.gl s.fs xs).map Qk=args∧ai 0 args∧Qe m r) (hs:∀ q ∈ s.h,q.1 < s.n)
  (h:XP P c r0 K (St.bQ ⟨s.t,s.h++Xc (fun b=>s.n + b) ax,s.n + m⟩ d (aE (fun b=>s.n + b) r))):Yh P c (.pd d (.call f) xs none) r0 K s :=
 .inl ⟨_,_,Xl8 eM yv hc.1 hc.2.1 hc.2.2.1 hc.2.2.2 hs,h⟩
end
theorem UU {ex:List (Nat × Bk)} {σ:Nat→Nat} {T:WT} {n b:Nat} (hT:T.wf) (bU:∀ b b',b < 67→b' < 67→σ b=σ b'→b=b') (hex:∀ q ∈ ex,∀ b,b < 67→σ b≠q.1) (hb:b < 67):Qc (ex++Xc σ T.hb) n (σ b)=Xg σ (Qc T.hb 67 b):=by
 rw[Xn fun q hq e=>hex q hq b hb e.symm]
 exact Kb bU hb (fun q hq=>((WT.gR hT).mem q hq).1) ((WT.gR hT).fN b hb)
theorem Nh {T:WT} (hT:T.wf) {b:Nat} (hb:b < 67):(Qc T.hb 67 b).live∧bJ 67 (Qc T.hb 67 b):=by
 obtain ⟨_,q,hq,_,e⟩:=(WT.gR hT).live hb 67
 rw[e]
 exact ⟨Xj ((WT.gR hT).mem q hq).2,((WT.gR hT).mem q hq).2⟩
theorem Ko {f g:Nat→Nat} {n:Nat} (h:∀ b,b < n→f b=g b) {x:Bk} (hx:bJ n x):Xg f x=Xg g x:=by
 have hv:∀ v,Qe n v→aE f v=aE g v:=fun v=>AV.rec (motive_1:=fun v=>Qe n v→aE f v=aE g v) (motive_2:=fun l=>ai n l→az f l=az g l) (by simp[aE]) (fun b v h1 h2=>by simp only[Qe]at h2;simp only[aE,h1 h2]) (fun _ _=>by simp[aE]) (fun _=>by simp[aE]) (fun _=>by simp[aE])
  (fun cs h1 h2=>by simp only[Qe]at h2;simp only[aE,h1 h2]) (fun cs h1 h2=>by simp only[Qe]at h2;simp only[aE,h1 h2]) (fun b _ h2=>by simp only[Qe]at h2;simp only[aE,h b h2]) (fun cs _ h1 h2=>by simp only[Qe]at h2;simp only[aE,h1 h2]) (fun _ b _ _ _ h2=>by simp only[Qe]at h2;simp only[aE,h b h2]) (fun _ cs h1 h2=>by simp only[Qe]at h2;simp only[aE,h1 h2]) (by simp[aE])
  (fun _ cs h1 h2=>by simp only[Qe]at h2;simp only[aE,h1 h2]) (fun b h2=>by simp only[Qe]at h2;simp only[aE,h b h2]) (fun _=>by simp[aE]) (by simp[az]) (fun x xs h1 h2=>by simp only[ai,az];exact fun ⟨a,b⟩=>by rw[h1 a,h2 b]) v
 cases x with
 | free=>rfl
 | dead=>rfl
 | cells cs =>
  simp only[Xg,Yu]
  congr 1
  exact List.map_congr_left fun v h=>hv v (Xv.1 hx v h)
 | aC kvs dn =>
  simp only[Xg]
  congr 1
  exact List.map_congr_left fun q hq=>by rw[hv _ (hx q hq).1,hv _ (hx q hq).2]
 | bm kvs bs ck =>
  simp only[Xg]
  congr 1
  exact List.map_congr_left fun q hq=>by rw[hv _ (hx q hq).1,hv _ (hx q hq).2]
 | iter b ck seen=>simp only[Xg];rw[h b hx]
 | db ls=>rfl
theorem Xgf {f g:Nat→Nat} {T:WT} (hT:T.wf) (h:∀ b,b < 67→f b=g b):Xc f T.hb=Xc g T.hb:=by
 unfold Xc
 exact List.map_congr_left fun q hq=>by
  obtain ⟨h1,h2⟩:=(WT.gR hT).mem q hq
  rw[h q.1 h1,Ko h h2]
def gK (n b:Nat):Nat:=if b < 2 then b else n + b
theorem Yc0 (n:Nat):cD id [0,1] n=gK n:=by
 funext b
 unfold gK
 by_cases h:b < 2
 ·rw[if_pos h,Wm (by have:b=0∨b=1:=by omega
                     simpa using this)];rfl
 ·rw[if_neg h,Wr (by simp;omega)]
theorem Ni {n:Nat} (hn:67≤n) {b b':Nat} (h:b < 67) (h':b' < 67) (e:gK n b=gK n b'):b=b':=by
 unfold gK at e
 (repeat' split at e)<;>omega
theorem Yf7 (n:Nat):gK n 0=0:=rfl
theorem Yfc {T:WT} (hT:T.wf) {σ:Nat→Nat} {m:Nat} (hσ:∀ b,b < 67→σ b < m) (n b:Nat) (hb:m≤b):Qc (Xc σ T.hb) n b=if b < n then .dead else .free :=
 Wv (m:=67) (fun b' bL e=>by have:=hσ b' bL;omega) fun q hq=>((WT.gR hT).mem q hq).1
theorem ti {σ:Nat→Nat} {v:AV} (h:Qe 0 v):aE σ v=v:=uI (n:=0) (fun b hb=>by omega) v h
theorem UW {gl:Nat→AV} {xs:List TV} {v:Bool} {f:FuncId} {args:List AV} {t:List (Nat × AV)} {ex:List (Nat × Bk)} {T:WT} {n:Nat} {p:List Nat} (hT:T.wf) (hp:∀ b ∈ p,b < 67) (hn:67≤n) (hex:∀ q ∈ ex,67≤q.1∧q.1 < n)
  (hc:Qv none (aG gl (⟨t,ex++Xc id T.hb,n⟩:St).fs xs)∧lR v f ((aG gl (⟨t,ex++Xc id T.hb,n⟩:St).fs xs).map Qk)=some (f,args)∧ai 67 args):oI gl xs v f args id p 67 t ex T.hb n :=
 ⟨fun b b' _ _ e=>e,fun b hb=>by show b < n;omega,WT.gR hT,hp,fun q hq=>⟨fun b hb e=>by have:=(hex q hq).1;have e:b=q.1:=e;omega,(hex q hq).2⟩,hc.1,by rw[Jy];exact hc.2.1,hc.2.2⟩
theorem UX {t:List (Nat × AV)} {ex:List (Nat × Bk)} {σ:Nat→Nat} {T:WT} {n:Nat} {d:Option Nat} {r:AV} (hT:T.wf) (hr:Qe 0 r):Jb t ex T.hb σ (List.range 67) 67 n d r=St.bQ ⟨t,ex++Xc σ T.hb,n + 67⟩ d r:=by
 unfold Jb
 rw[Xgf hT (f:=cD σ (List.range 67) n) (g:=σ) fun b hb=>Wm (List.mem_range.2 hb),ti hr]
theorem Nj {t:List (Nat × AV)} {ex:List (Nat × Bk)} {T:WT} {n:Nat} {d:Option Nat} {r:AV} (hr:Qe 0 r):Jb t ex T.hb id [0,1] 67 n d r=St.bQ ⟨t,ex++Xc (gK n) T.hb,n + 67⟩ d r:=by
 unfold Jb
 rw[Yc0,ti hr]
end Go.Proofs.YtogckmommodmhaaGreatDoor
