import Derived.Test.YtogckmommodmhaaGreatDoorZw12
namespace Go.Proofs.YtogckmommodmhaaGreatDoor
open Go.RowKit
set_option linter.all false
set_option linter.unusedSimpArgs false
set_option maxRecDepth 100000
theorem RI.T {rows:List (List Tm)} {D:List Tm} (hl:rows.length=65) (hp:rows.flatten.Perm D):RI (fun _ _=>True) rows D:=⟨hl,hp,fun _ _ _ _=>trivial⟩
def WT.uJ (T:WT):WT:={ T with now:=T.now + 1,rows:=Jj (T.now + 1) 4 1 T.rows }
theorem Hh {now:Nat} {rows:List (List Tm)} {D l:List Tm} (h:RI (fun _ _=>True) rows D) (k:Nat):RI (fun _ _=>True) ((l.take k).foldl (Xa now) rows) ((l.take k).reverse++D):=RI.jG _ h fun _ _=>trivial
theorem WT.iG (T:WT) (t:Tm):(T.lay t)={ T with rows:=Xa T.now T.rows t }:=rfl
set_option maxHeartbeats 4000000 in
set_option maxRecDepth 20000 in
theorem Xrg (gl:Nat→AV) (T:WT) (D:List Tm) (hT:T.wf) (hp:T.rows.flatten.Perm D) (hD:D.length≤100000) (q8:∀ t ∈ D,t.due≤1099511627776) (hn:T.now < 1099511627776) :
  GQ Tryz.prog gl 139 [.ptr 0 0] T.h 67 [0,1] (fun _:Unit=>True) (fun _=>.aU []) (fun _=>T.uJ.h):=by
 refine A2.gq (of_decide_eq_true rfl) (fun q hq=>Xc (((WT.HL hT).mem q hq).2)) au fun c aY hg=>?_
 conv in aQ _ _=>cbv
 have h0:=WT.ij T
 have aW:=WT.len hT
 have nK:T.h=(0,.cells T.cells)::(1,T.mb)::Ke T.rows 0:=rfl
 have ep:T.cells.set 0 (.int .i64 ((T.now:Int) + 1))=WT.cells { T with now:=T.now + 1 }:=WT.MZ T (T.now + 1)
 have fA:WT.wf { T with now:=T.now + 1 }:=⟨hT.len,hT.mb⟩
 rw[nK]
 refine Qh (An @h0 @ep) ?_
 refine Yf (fun y:Nat × List (List Tm)=>1≤y.1∧y.1≤5∧RI (fun _ _=>True) y.2 D∧Jj (T.now + 1) (5 - y.1) y.1 y.2=Jj (T.now + 1) 4 1 T.rows) (fun y=>⟨[(0,.ptr 0 0),(2,.int .i64 ((16 ^ y.1:Nat):Int)),(3,.int .i64 y.1)],WT.h { T with now:=T.now + 1,rows:=y.2 },67⟩) (fun y=>5 - y.1) A2.mixed [0,1] aY
  ⟨(1,T.rows),⟨by simp,by simp,RI.T hT.len hp,rfl⟩,To.dk (by exact Qr) fun b=>?_⟩ fun y hy=>?_
 ·show Qc ((0,.cells (WT.cells { T with now:=T.now + 1 }))::(1,T.mb)::Ke T.rows 0) 67 b=Qc ((0,.cells (WT.cells { T with now:=T.now + 1 }))::(0,.cells T.cells)::(1,T.mb)::Ke T.rows 0) 67 b
  simp only[Qd]
  (repeat' split)<;>first|rfl|omega
 obtain ⟨L,rows⟩:=y
 obtain ⟨eH,hL5,pR,bF⟩:=hy
 dsimp only at eH hL5 pR bF ⊢
 have gE:WT.wf { T with now:=T.now + 1,rows:=rows }:=⟨pR.len,hT.mb⟩
 have eY:WT.now { T with now:=T.now + 1,rows:=rows }=T.now + 1:=rfl
 have AL:WT.rows { T with now:=T.now + 1,rows:=rows }=rows:=rfl
 have oPa:WT.mb { T with now:=T.now + 1,rows:=rows }=T.mb:=rfl
 have DS:T.uJ={ T with now:=T.now + 1,rows:=Jj (T.now + 1) (5 - L) L rows }:=by unfold WT.uJ;rw[bF]
 have nP:∀ i,i < 65→(WT.row { T with now:=T.now + 1,rows:=rows } i).length≤D.length:=fun i hi=>pR.eA hi
 have hrel:=fun i (hi:i < 65)=>RI.cb pR (now:=T.now + 1) hi fun _ _=>trivial
 have nQ:∀ i,i < 65→RI (fun _ _=>True) (rows.set i []) (rows.set i []).flatten:=fun i hi=>⟨by simp[pR.len],List.Perm.refl _,fun _ _ _ _=>trivial⟩
 have kj:=fun i (hi:i < 65)=>((ya rows i (by have:=pR.len;omega)).symm.trans pR.perm)
 have bJ:∀ i,i < 65→∀ t ∈ rows.getD i [],t.due≤1099511627776:=fun i hi t ht=>q8 t (MQ pR hi ht)
 rw[DS]
 generalize bI:({ T with now:=T.now + 1,rows:=rows }:WT)=T1 at *
 have M8:T1.now=T.now + 1:=by rw[← bI]
 have oQa:T1.mb=T.mb:=by rw[← bI]
 have g0:=WT.ij T1
 rw[M8]at g0
 have iZ:=WT.len gE
 have gF:T1.h=(0,.cells T1.cells)::(1,T1.mb)::Ke T1.rows 0:=rfl
 have aM:=fun n b hb=>WT.gY gE n (b:=b) hb
 obtain rfl|rfl|rfl|rfl|rfl:L=1∨L=2∨L=3∨L=4∨L=5:=by omega
 ·have oA:((16 ^ 1:Nat):Int)=16:=rfl
  have fb:((16 ^ 2:Nat):Int)=256:=rfl
  have hm:Int.tmod ((T.now + 1:Nat):Int) 16=(((T.now + 1) % 16:Nat):Int):=oP (T.now + 1) 16
  have hq:Int.tdiv ((T.now + 1:Nat):Int) 16=(((T.now + 1) / 16:Nat):Int):=pQ (T.now + 1) 16
  have jI:Int.tmod (((T.now + 1) / 16:Nat):Int) 16=(((T.now + 1) / 16 % 16:Nat):Int):=oP _ 16
  rw[gF,oA]
  refine Qh (An @aM (An @g0 @hm)) ?_
  (refine Qa (fun h1=>?_) (fun h1=>?_)<;>try exact h1.elim)
  ·refine Qe ?_
   (refine Qa (fun h2=>?_) (fun h2=>?_)<;>try exact h2.elim)
   have nM:(T.now + 1) / 16 % 16 < 16:=Nat.mod_lt _ ae
   have yk:nH (T.now + 1) 1=16 + (T.now + 1) / 16 % 16:=rfl
   generalize (T.now + 1) / 16 % 16=sp at *
   have aV:=WT.fK gE (i:=16 + sp) ae
   have cC:16 + sp < 65:=by omega
   have eE:2 + (16 + sp)=18 + sp:=by omega
   have we:16 + sp + 1=17 + sp:=by omega
   rw[we,eE]at aV
   have hl:T1.row (16 + sp)=rows.getD (16 + sp) []:=by rw[← bI];rfl
   have M9:=nP _ cC
   generalize mS:T1.row (16 + sp)=l at *
   refine Qh (An @aM (An @g0 (An @hq (An @jI @aV)))) ?_
   refine Yf (fun k:Nat=>k≤l.length) (fun k=>⟨[(0,.ptr 0 0),(2,.int .i64 16),(3,.int .i64 1),(55,.isl l.length (a8 l)),(56,.int .i64 l.length),(57,.int .i64 k)],WT.h { T with now:=T.now + 1,rows:=(l.take k).foldl (Xa (T.now + 1)) (rows.set (16 + sp) []) },67⟩) (fun k=>l.length - k) A2.mixed [0,1] aY
    ⟨0,by omega,?_⟩ fun k hk=>?_
   ·have eV:T1.put (16 + sp) []={ T with now:=T.now + 1,rows:=rows.set (16 + sp) [] }:=by rw[← bI];rfl
    show To _ _ ⟨_,WT.h { T with now:=T.now + 1,rows:=rows.set (16 + sp) [] },67⟩
    rw[← eV]
    refine To.off (k:=55) gE cC mS ?_ (fun b h1 h2=>?_) ?_ (by dsimp only;omega) ?_ au ?_
    ·show Qc ((0,_)::_) 67 0=_
     rw[Qd,if_pos rfl,we]
    ·show Qc ((0,_)::(0,_)::(1,_)::_) 67 b=_
     rw[gF,Qd,if_neg ae]
    ·exact Qq @aM
    ·exact Qq @eE
    ·have h1:=uE (Kp (16 + sp) 67) l
     have iy:=pO 67 l
     exact Qq (An @h1 @iy)
   have nh:=Hh (now:=T.now + 1) (l:=l) (nQ (16 + sp) cC) k
   have ja:∀ j,j < 65→((l.take k).foldl (Xa (T.now + 1)) (rows.set (16 + sp) []) |>.getD j []).length≤1000000:=fun j hj=>by
    have h1:=nh.eA hj
    have h2:=(kj (16 + sp) cC).length_eq
    rw[List.length_append]at h1 h2
    rw[← hl]at h2
    simp only[List.length_reverse,List.length_take]at h1
    omega
   have jb:WT.wf { T with now:=T.now + 1,rows:=(l.take k).foldl (Xa (T.now + 1)) (rows.set (16 + sp) []) }:=⟨nh.len,hT.mb⟩
   have eZ:k < l.length→∀ x,l[k]?=some x→(l.take (k + 1)).foldl (Xa (T.now + 1)) (rows.set (16 + sp) [])=Xa (T.now + 1) ((l.take k).foldl (Xa (T.now + 1)) (rows.set (16 + sp) [])) x:=fun _ x hx=>by
    rw[List.take_succ,hx];simp
   have cr:∀ x:Tm,(WT.row { T with now:=T.now + 1,rows:=(l.take k).foldl (Xa (T.now + 1)) (rows.set (16 + sp) []) } (Yr (T.now + 1) x.due)).length≤1000000:=fun x=>ja _ (wa _ _)
   have q9:WT.now { T with now:=T.now + 1,rows:=(l.take k).foldl (Xa (T.now + 1)) (rows.set (16 + sp) []) }=T.now + 1:=rfl
   generalize jH:({ T with now:=T.now + 1,rows:=(l.take k).foldl (Xa (T.now + 1)) (rows.set (16 + sp) []) }:WT)=Tk at *
   have sM:=WT.aM jb
   have dq:=Zm l
   refine Qe ?_
   (refine Qa (fun h3=>?_) (fun h3=>?_)<;>try exact h3.elim)
   ·have bw:k < l.length:=by omega
    have a7:=wc l k bw
    have ep:=eZ bw l[k] (by simp[bw])
    have sH:l[k].due≤1099511627776:=bJ (16 + sp) cC l[k] (by rw[← hl];exact List.getElem_mem _)
    generalize l[k]=x at *
    have cO:=yg c.gl Tk jb x (by rw[q9];omega) sH (by rw[q9];exact cr x)
    refine Qh (An @dq (An @a7 @sM)) ?_
    refine qW cO jb (fun _ _=>WT.eB jb x) aY (by simp[il]) [(0,.ptr 0 0),(2,.int .i64 16),(3,.int .i64 1),(55,.isl l.length (a8 l)),(56,.int .i64 l.length),(57,.int .i64 k),(61,.ptr 0 0),(62,.agg [.int .i64 x.id,.int .i64 x.due])] [(67,.cells [.int .i64 x.id,.int .i64 x.due])] 68 (To.dk (by exact Qr) fun b=>?_) (by simp[nu,cT,cP]) ?_ (by simp[Qf,ah]) fun _ _=>?_
    ·simp only[List.cons_append,List.nil_append,Qd];(repeat' split)<;>rfl
    ·exact Qr
    ·refine Qe ?_
     refine ⟨k + 1,by omega,?_,by omega⟩
     have yl:Tk.lay x={ T with now:=T.now + 1,rows:=(l.take (k + 1)).foldl (Xa (T.now + 1)) (rows.set (16 + sp) []) }:=by rw[WT.iG,ep,← jH]
     rw[← yl]
     refine To.dC (ex:=[(67,.cells [.int .i64 x.id,.int .i64 x.due])]) (WT.eB jb x) au au ?_
     have h1:=pO 67 l
     have h2:ay id (a8 l)=a8 l:=Jf _
     have h3:id 0=0:=rfl
     exact Qq (An @h1 (An @h2 @h3))
   ·obtain rfl:k=l.length:=by omega
    rw[List.take_length]at jH
    have fO:(l.foldl (Xa (T.now + 1)) (rows.set (16 + sp) []))=cb (T.now + 1) rows (16 + sp):=by unfold cb;rw[← hl]
    have jl:Jj (T.now + 1) (5 - 1) 1 rows=Jj (T.now + 1) (5 - (1 + 1)) (1 + 1) (cb (T.now + 1) rows (16 + sp)):=by
     rw[← yk]
     show (if (T.now + 1) % 16 ^ 1=0 then _ else _)=_
     rw[if_pos (by simp only[Nat.reducePow];omega)]
    refine Uo ?_
    refine ⟨(1 + 1,cb (T.now + 1) rows (16 + sp)),⟨by simp,by simp,hrel _ cC,by dsimp only;rw[← jl];exact bF⟩,?_,by dsimp only;omega⟩
    rw[fO]at jH
    dsimp only
    rw[jH]
    refine To.dk ?_ fun b=>rfl
    exact Qq @fb
  ·have jl:Jj (T.now + 1) (5 - 1) 1 rows=rows:=by
    show (if (T.now + 1) % 16 ^ 1=0 then _ else _)=_
    rw[if_neg (by simp only[Nat.reducePow];omega)]
   rw[jl,bI]
   refine Qe ?_
   refine ⟨(),?_⟩
   rw[← gF]
   exact To.dk (by exact Qr) fun b=>rfl
 ·have oA:((16 ^ 2:Nat):Int)=256:=rfl
  have fb:((16 ^ 3:Nat):Int)=4096:=rfl
  have hm:Int.tmod ((T.now + 1:Nat):Int) 256=(((T.now + 1) % 256:Nat):Int):=oP (T.now + 1) 256
  have hq:Int.tdiv ((T.now + 1:Nat):Int) 256=(((T.now + 1) / 256:Nat):Int):=pQ (T.now + 1) 256
  have jI:Int.tmod (((T.now + 1) / 256:Nat):Int) 16=(((T.now + 1) / 256 % 16:Nat):Int):=oP _ 16
  rw[gF,oA]
  refine Qh (An @aM (An @g0 @hm)) ?_
  (refine Qa (fun h1=>?_) (fun h1=>?_)<;>try exact h1.elim)
  ·refine Qe ?_
   (refine Qa (fun h2=>?_) (fun h2=>?_)<;>try exact h2.elim)
   have nM:(T.now + 1) / 256 % 16 < 16:=Nat.mod_lt _ ae
   have yk:nH (T.now + 1) 2=32 + (T.now + 1) / 256 % 16:=rfl
   generalize (T.now + 1) / 256 % 16=sp at *
   have aV:=WT.fK gE (i:=32 + sp) ae
   have cC:32 + sp < 65:=by omega
   have eE:2 + (32 + sp)=34 + sp:=by omega
   have we:32 + sp + 1=33 + sp:=by omega
   rw[we,eE]at aV
   have hl:T1.row (32 + sp)=rows.getD (32 + sp) []:=by rw[← bI];rfl
   have M9:=nP _ cC
   generalize mS:T1.row (32 + sp)=l at *
   refine Qh (An @aM (An @g0 (An @hq (An @jI @aV)))) ?_
   refine Yf (fun k:Nat=>k≤l.length) (fun k=>⟨[(0,.ptr 0 0),(2,.int .i64 256),(3,.int .i64 2),(55,.isl l.length (a8 l)),(56,.int .i64 l.length),(57,.int .i64 k)],WT.h { T with now:=T.now + 1,rows:=(l.take k).foldl (Xa (T.now + 1)) (rows.set (32 + sp) []) },67⟩) (fun k=>l.length - k) A2.mixed [0,1] aY
    ⟨0,by omega,?_⟩ fun k hk=>?_
   ·have eV:T1.put (32 + sp) []={ T with now:=T.now + 1,rows:=rows.set (32 + sp) [] }:=by rw[← bI];rfl
    show To _ _ ⟨_,WT.h { T with now:=T.now + 1,rows:=rows.set (32 + sp) [] },67⟩
    rw[← eV]
    refine To.off (k:=55) gE cC mS ?_ (fun b h1 h2=>?_) ?_ (by dsimp only;omega) ?_ au ?_
    ·show Qc ((0,_)::_) 67 0=_
     rw[Qd,if_pos rfl,we]
    ·show Qc ((0,_)::(0,_)::(1,_)::_) 67 b=_
     rw[gF,Qd,if_neg ae]
    ·exact Qq @aM
    ·exact Qq @eE
    ·have h1:=uE (Kp (32 + sp) 67) l
     have iy:=pO 67 l
     exact Qq (An @h1 @iy)
   have nh:=Hh (now:=T.now + 1) (l:=l) (nQ (32 + sp) cC) k
   have ja:∀ j,j < 65→((l.take k).foldl (Xa (T.now + 1)) (rows.set (32 + sp) []) |>.getD j []).length≤1000000:=fun j hj=>by
    have h1:=nh.eA hj
    have h2:=(kj (32 + sp) cC).length_eq
    rw[List.length_append]at h1 h2
    rw[← hl]at h2
    simp only[List.length_reverse,List.length_take]at h1
    omega
   have jb:WT.wf { T with now:=T.now + 1,rows:=(l.take k).foldl (Xa (T.now + 1)) (rows.set (32 + sp) []) }:=⟨nh.len,hT.mb⟩
   have eZ:k < l.length→∀ x,l[k]?=some x→(l.take (k + 1)).foldl (Xa (T.now + 1)) (rows.set (32 + sp) [])=Xa (T.now + 1) ((l.take k).foldl (Xa (T.now + 1)) (rows.set (32 + sp) [])) x:=fun _ x hx=>by
    rw[List.take_succ,hx];simp
   have cr:∀ x:Tm,(WT.row { T with now:=T.now + 1,rows:=(l.take k).foldl (Xa (T.now + 1)) (rows.set (32 + sp) []) } (Yr (T.now + 1) x.due)).length≤1000000:=fun x=>ja _ (wa _ _)
   have q9:WT.now { T with now:=T.now + 1,rows:=(l.take k).foldl (Xa (T.now + 1)) (rows.set (32 + sp) []) }=T.now + 1:=rfl
   generalize jH:({ T with now:=T.now + 1,rows:=(l.take k).foldl (Xa (T.now + 1)) (rows.set (32 + sp) []) }:WT)=Tk at *
   have sM:=WT.aM jb
   have dq:=Zm l
   refine Qe ?_
   (refine Qa (fun h3=>?_) (fun h3=>?_)<;>try exact h3.elim)
   ·have bw:k < l.length:=by omega
    have a7:=wc l k bw
    have ep:=eZ bw l[k] (by simp[bw])
    have sH:l[k].due≤1099511627776:=bJ (32 + sp) cC l[k] (by rw[← hl];exact List.getElem_mem _)
    generalize l[k]=x at *
    have cO:=yg c.gl Tk jb x (by rw[q9];omega) sH (by rw[q9];exact cr x)
    refine Qh (An @dq (An @a7 @sM)) ?_
    refine qW cO jb (fun _ _=>WT.eB jb x) aY (by simp[il]) [(0,.ptr 0 0),(2,.int .i64 256),(3,.int .i64 2),(55,.isl l.length (a8 l)),(56,.int .i64 l.length),(57,.int .i64 k),(61,.ptr 0 0),(62,.agg [.int .i64 x.id,.int .i64 x.due])] [(67,.cells [.int .i64 x.id,.int .i64 x.due])] 68 (To.dk (by exact Qr) fun b=>?_) (by simp[nu,cT,cP]) ?_ (by simp[Qf,ah]) fun _ _=>?_
    ·simp only[List.cons_append,List.nil_append,Qd];(repeat' split)<;>rfl
    ·exact Qr
    ·refine Qe ?_
     refine ⟨k + 1,by omega,?_,by omega⟩
     have yl:Tk.lay x={ T with now:=T.now + 1,rows:=(l.take (k + 1)).foldl (Xa (T.now + 1)) (rows.set (32 + sp) []) }:=by rw[WT.iG,ep,← jH]
     rw[← yl]
     refine To.dC (ex:=[(67,.cells [.int .i64 x.id,.int .i64 x.due])]) (WT.eB jb x) au au ?_
     have h1:=pO 67 l
     have h2:ay id (a8 l)=a8 l:=Jf _
     have h3:id 0=0:=rfl
     exact Qq (An @h1 (An @h2 @h3))
   ·obtain rfl:k=l.length:=by omega
    rw[List.take_length]at jH
    have fO:(l.foldl (Xa (T.now + 1)) (rows.set (32 + sp) []))=cb (T.now + 1) rows (32 + sp):=by unfold cb;rw[← hl]
    have jl:Jj (T.now + 1) (5 - 2) 2 rows=Jj (T.now + 1) (5 - (2 + 1)) (2 + 1) (cb (T.now + 1) rows (32 + sp)):=by
     rw[← yk]
     show (if (T.now + 1) % 16 ^ 2=0 then _ else _)=_
     rw[if_pos (by simp only[Nat.reducePow];omega)]
    refine Uo ?_
    refine ⟨(2 + 1,cb (T.now + 1) rows (32 + sp)),⟨by simp,by simp,hrel _ cC,by dsimp only;rw[← jl];exact bF⟩,?_,by dsimp only;omega⟩
    rw[fO]at jH
    dsimp only
    rw[jH]
    refine To.dk ?_ fun b=>rfl
    exact Qq @fb
  ·have jl:Jj (T.now + 1) (5 - 2) 2 rows=rows:=by
    show (if (T.now + 1) % 16 ^ 2=0 then _ else _)=_
    rw[if_neg (by simp only[Nat.reducePow];omega)]
   rw[jl,bI]
   refine Qe ?_
   refine ⟨(),?_⟩
   rw[← gF]
   exact To.dk (by exact Qr) fun b=>rfl
 ·have oA:((16 ^ 3:Nat):Int)=4096:=rfl
  have fb:((16 ^ 4:Nat):Int)=65536:=rfl
  have hm:Int.tmod ((T.now + 1:Nat):Int) 4096=(((T.now + 1) % 4096:Nat):Int):=oP (T.now + 1) 4096
  have hq:Int.tdiv ((T.now + 1:Nat):Int) 4096=(((T.now + 1) / 4096:Nat):Int):=pQ (T.now + 1) 4096
  have jI:Int.tmod (((T.now + 1) / 4096:Nat):Int) 16=(((T.now + 1) / 4096 % 16:Nat):Int):=oP _ 16
  rw[gF,oA]
  refine Qh (An @aM (An @g0 @hm)) ?_
  (refine Qa (fun h1=>?_) (fun h1=>?_)<;>try exact h1.elim)
  ·refine Qe ?_
   (refine Qa (fun h2=>?_) (fun h2=>?_)<;>try exact h2.elim)
   have nM:(T.now + 1) / 4096 % 16 < 16:=Nat.mod_lt _ ae
   have yk:nH (T.now + 1) 3=48 + (T.now + 1) / 4096 % 16:=rfl
   generalize (T.now + 1) / 4096 % 16=sp at *
   have aV:=WT.fK gE (i:=48 + sp) ae
   have cC:48 + sp < 65:=by omega
   have eE:2 + (48 + sp)=50 + sp:=by omega
   have we:48 + sp + 1=49 + sp:=by omega
   rw[we,eE]at aV
   have hl:T1.row (48 + sp)=rows.getD (48 + sp) []:=by rw[← bI];rfl
   have M9:=nP _ cC
   generalize mS:T1.row (48 + sp)=l at *
   refine Qh (An @aM (An @g0 (An @hq (An @jI @aV)))) ?_
   refine Yf (fun k:Nat=>k≤l.length) (fun k=>⟨[(0,.ptr 0 0),(2,.int .i64 4096),(3,.int .i64 3),(55,.isl l.length (a8 l)),(56,.int .i64 l.length),(57,.int .i64 k)],WT.h { T with now:=T.now + 1,rows:=(l.take k).foldl (Xa (T.now + 1)) (rows.set (48 + sp) []) },67⟩) (fun k=>l.length - k) A2.mixed [0,1] aY
    ⟨0,by omega,?_⟩ fun k hk=>?_
   ·have eV:T1.put (48 + sp) []={ T with now:=T.now + 1,rows:=rows.set (48 + sp) [] }:=by rw[← bI];rfl
    show To _ _ ⟨_,WT.h { T with now:=T.now + 1,rows:=rows.set (48 + sp) [] },67⟩
    rw[← eV]
    refine To.off (k:=55) gE cC mS ?_ (fun b h1 h2=>?_) ?_ (by dsimp only;omega) ?_ au ?_
    ·show Qc ((0,_)::_) 67 0=_
     rw[Qd,if_pos rfl,we]
    ·show Qc ((0,_)::(0,_)::(1,_)::_) 67 b=_
     rw[gF,Qd,if_neg ae]
    ·exact Qq @aM
    ·exact Qq @eE
    ·have h1:=uE (Kp (48 + sp) 67) l
     have iy:=pO 67 l
     exact Qq (An @h1 @iy)
   have nh:=Hh (now:=T.now + 1) (l:=l) (nQ (48 + sp) cC) k
   have ja:∀ j,j < 65→((l.take k).foldl (Xa (T.now + 1)) (rows.set (48 + sp) []) |>.getD j []).length≤1000000:=fun j hj=>by
    have h1:=nh.eA hj
    have h2:=(kj (48 + sp) cC).length_eq
    rw[List.length_append]at h1 h2
    rw[← hl]at h2
    simp only[List.length_reverse,List.length_take]at h1
    omega
   have jb:WT.wf { T with now:=T.now + 1,rows:=(l.take k).foldl (Xa (T.now + 1)) (rows.set (48 + sp) []) }:=⟨nh.len,hT.mb⟩
   have eZ:k < l.length→∀ x,l[k]?=some x→(l.take (k + 1)).foldl (Xa (T.now + 1)) (rows.set (48 + sp) [])=Xa (T.now + 1) ((l.take k).foldl (Xa (T.now + 1)) (rows.set (48 + sp) [])) x:=fun _ x hx=>by
    rw[List.take_succ,hx];simp
   have cr:∀ x:Tm,(WT.row { T with now:=T.now + 1,rows:=(l.take k).foldl (Xa (T.now + 1)) (rows.set (48 + sp) []) } (Yr (T.now + 1) x.due)).length≤1000000:=fun x=>ja _ (wa _ _)
   have q9:WT.now { T with now:=T.now + 1,rows:=(l.take k).foldl (Xa (T.now + 1)) (rows.set (48 + sp) []) }=T.now + 1:=rfl
   generalize jH:({ T with now:=T.now + 1,rows:=(l.take k).foldl (Xa (T.now + 1)) (rows.set (48 + sp) []) }:WT)=Tk at *
   have sM:=WT.aM jb
   have dq:=Zm l
   refine Qe ?_
   (refine Qa (fun h3=>?_) (fun h3=>?_)<;>try exact h3.elim)
   ·have bw:k < l.length:=by omega
    have a7:=wc l k bw
    have ep:=eZ bw l[k] (by simp[bw])
    have sH:l[k].due≤1099511627776:=bJ (48 + sp) cC l[k] (by rw[← hl];exact List.getElem_mem _)
    generalize l[k]=x at *
    have cO:=yg c.gl Tk jb x (by rw[q9];omega) sH (by rw[q9];exact cr x)
    refine Qh (An @dq (An @a7 @sM)) ?_
    refine qW cO jb (fun _ _=>WT.eB jb x) aY (by simp[il]) [(0,.ptr 0 0),(2,.int .i64 4096),(3,.int .i64 3),(55,.isl l.length (a8 l)),(56,.int .i64 l.length),(57,.int .i64 k),(61,.ptr 0 0),(62,.agg [.int .i64 x.id,.int .i64 x.due])] [(67,.cells [.int .i64 x.id,.int .i64 x.due])] 68 (To.dk (by exact Qr) fun b=>?_) (by simp[nu,cT,cP]) ?_ (by simp[Qf,ah]) fun _ _=>?_
    ·simp only[List.cons_append,List.nil_append,Qd];(repeat' split)<;>rfl
    ·exact Qr
    ·refine Qe ?_
     refine ⟨k + 1,by omega,?_,by omega⟩
     have yl:Tk.lay x={ T with now:=T.now + 1,rows:=(l.take (k + 1)).foldl (Xa (T.now + 1)) (rows.set (48 + sp) []) }:=by rw[WT.iG,ep,← jH]
     rw[← yl]
     refine To.dC (ex:=[(67,.cells [.int .i64 x.id,.int .i64 x.due])]) (WT.eB jb x) au au ?_
     have h1:=pO 67 l
     have h2:ay id (a8 l)=a8 l:=Jf _
     have h3:id 0=0:=rfl
     exact Qq (An @h1 (An @h2 @h3))
   ·obtain rfl:k=l.length:=by omega
    rw[List.take_length]at jH
    have fO:(l.foldl (Xa (T.now + 1)) (rows.set (48 + sp) []))=cb (T.now + 1) rows (48 + sp):=by unfold cb;rw[← hl]
    have jl:Jj (T.now + 1) (5 - 3) 3 rows=Jj (T.now + 1) (5 - (3 + 1)) (3 + 1) (cb (T.now + 1) rows (48 + sp)):=by
     rw[← yk]
     show (if (T.now + 1) % 16 ^ 3=0 then _ else _)=_
     rw[if_pos (by simp only[Nat.reducePow];omega)]
    refine Uo ?_
    refine ⟨(3 + 1,cb (T.now + 1) rows (48 + sp)),⟨by simp,by simp,hrel _ cC,by dsimp only;rw[← jl];exact bF⟩,?_,by dsimp only;omega⟩
    rw[fO]at jH
    dsimp only
    rw[jH]
    refine To.dk ?_ fun b=>rfl
    exact Qq @fb
  ·have jl:Jj (T.now + 1) (5 - 3) 3 rows=rows:=by
    show (if (T.now + 1) % 16 ^ 3=0 then _ else _)=_
    rw[if_neg (by simp only[Nat.reducePow];omega)]
   rw[jl,bI]
   refine Qe ?_
   refine ⟨(),?_⟩
   rw[← gF]
   exact To.dk (by exact Qr) fun b=>rfl
 ·have oA:((16 ^ 4:Nat):Int)=65536:=rfl
  have fb:((16 ^ 5:Nat):Int)=1048576:=rfl
  have hm:Int.tmod ((T.now + 1:Nat):Int) 65536=(((T.now + 1) % 65536:Nat):Int):=oP (T.now + 1) 65536
  have hq:Int.tdiv ((T.now + 1:Nat):Int) 65536=(((T.now + 1) / 65536:Nat):Int):=pQ (T.now + 1) 65536
  have jI:Int.tmod (((T.now + 1) / 65536:Nat):Int) 16=(((T.now + 1) / 65536 % 16:Nat):Int):=oP _ 16
  rw[gF,oA]
  refine Qh (An @aM (An @g0 @hm)) ?_
  (refine Qa (fun h1=>?_) (fun h1=>?_)<;>try exact h1.elim)
  ·refine Qe ?_
   (refine Qa (fun h2=>?_) (fun h2=>?_)<;>try exact h2.elim)
   have yk:nH (T.now + 1) 4=64:=rfl
   have aV:=WT.fK gE (i:=64) ae
   have cC:64 < 65:=by omega
   simp only[Nat.reduceAdd]at aV
   have hl:T1.row 64=rows.getD 64 []:=by rw[← bI];rfl
   have M9:=nP _ cC
   generalize mS:T1.row 64=l at *
   refine Qh (An @aM (An @g0 @aV)) ?_
   refine Yf (fun k:Nat=>k≤l.length) (fun k=>⟨[(0,.ptr 0 0),(2,.int .i64 65536),(3,.int .i64 4),(55,.isl l.length (a8 l)),(56,.int .i64 l.length),(57,.int .i64 k)],WT.h { T with now:=T.now + 1,rows:=(l.take k).foldl (Xa (T.now + 1)) (rows.set 64 []) },67⟩) (fun k=>l.length - k) A2.mixed [0,1] aY
    ⟨0,by omega,?_⟩ fun k hk=>?_
   ·have eV:T1.put 64 []={ T with now:=T.now + 1,rows:=rows.set 64 [] }:=by rw[← bI];rfl
    show To _ _ ⟨_,WT.h { T with now:=T.now + 1,rows:=rows.set 64 [] },67⟩
    rw[← eV]
    refine To.off (k:=55) gE cC mS ?_ (fun b h1 h2=>?_) ?_ (by dsimp only;omega) ?_ au ?_
    ·show Qc ((0,_)::_) 67 0=_
     rw[Qd,if_pos rfl]
    ·show Qc ((0,_)::(0,_)::(1,_)::_) 67 b=_
     rw[gF,Qd,if_neg ae]
    ·exact Qq @aM
    ·exact Qr
    ·have h1:=uE (Kp 64 67) l
     have iy:=pO 67 l
     exact Qq (An @h1 @iy)
   have nh:=Hh (now:=T.now + 1) (l:=l) (nQ 64 cC) k
   have ja:∀ j,j < 65→((l.take k).foldl (Xa (T.now + 1)) (rows.set 64 []) |>.getD j []).length≤1000000:=fun j hj=>by
    have h1:=nh.eA hj
    have h2:=(kj 64 cC).length_eq
    rw[List.length_append]at h1 h2
    rw[← hl]at h2
    simp only[List.length_reverse,List.length_take]at h1
    omega
   have jb:WT.wf { T with now:=T.now + 1,rows:=(l.take k).foldl (Xa (T.now + 1)) (rows.set 64 []) }:=⟨nh.len,hT.mb⟩
   have eZ:k < l.length→∀ x,l[k]?=some x→(l.take (k + 1)).foldl (Xa (T.now + 1)) (rows.set 64 [])=Xa (T.now + 1) ((l.take k).foldl (Xa (T.now + 1)) (rows.set 64 [])) x:=fun _ x hx=>by
    rw[List.take_succ,hx];simp
   have cr:∀ x:Tm,(WT.row { T with now:=T.now + 1,rows:=(l.take k).foldl (Xa (T.now + 1)) (rows.set 64 []) } (Yr (T.now + 1) x.due)).length≤1000000:=fun x=>ja _ (wa _ _)
   have q9:WT.now { T with now:=T.now + 1,rows:=(l.take k).foldl (Xa (T.now + 1)) (rows.set 64 []) }=T.now + 1:=rfl
   generalize jH:({ T with now:=T.now + 1,rows:=(l.take k).foldl (Xa (T.now + 1)) (rows.set 64 []) }:WT)=Tk at *
   have sM:=WT.aM jb
   have dq:=Zm l
   refine Qe ?_
   (refine Qa (fun h3=>?_) (fun h3=>?_)<;>try exact h3.elim)
   ·have bw:k < l.length:=by omega
    have a7:=wc l k bw
    have ep:=eZ bw l[k] (by simp[bw])
    have sH:l[k].due≤1099511627776:=bJ 64 cC l[k] (by rw[← hl];exact List.getElem_mem _)
    generalize l[k]=x at *
    have cO:=yg c.gl Tk jb x (by rw[q9];omega) sH (by rw[q9];exact cr x)
    refine Qh (An @dq (An @a7 @sM)) ?_
    refine qW cO jb (fun _ _=>WT.eB jb x) aY (by simp[il]) [(0,.ptr 0 0),(2,.int .i64 65536),(3,.int .i64 4),(55,.isl l.length (a8 l)),(56,.int .i64 l.length),(57,.int .i64 k),(61,.ptr 0 0),(62,.agg [.int .i64 x.id,.int .i64 x.due])] [(67,.cells [.int .i64 x.id,.int .i64 x.due])] 68 (To.dk (by exact Qr) fun b=>?_) (by simp[nu,cT,cP]) ?_ (by simp[Qf,ah]) fun _ _=>?_
    ·simp only[List.cons_append,List.nil_append,Qd];(repeat' split)<;>rfl
    ·exact Qr
    ·refine Qe ?_
     refine ⟨k + 1,by omega,?_,by omega⟩
     have yl:Tk.lay x={ T with now:=T.now + 1,rows:=(l.take (k + 1)).foldl (Xa (T.now + 1)) (rows.set 64 []) }:=by rw[WT.iG,ep,← jH]
     rw[← yl]
     refine To.dC (ex:=[(67,.cells [.int .i64 x.id,.int .i64 x.due])]) (WT.eB jb x) au au ?_
     have h1:=pO 67 l
     have h2:ay id (a8 l)=a8 l:=Jf _
     have h3:id 0=0:=rfl
     exact Qq (An @h1 (An @h2 @h3))
   ·obtain rfl:k=l.length:=by omega
    rw[List.take_length]at jH
    have fO:(l.foldl (Xa (T.now + 1)) (rows.set 64 []))=cb (T.now + 1) rows 64:=by unfold cb;rw[← hl]
    have jl:Jj (T.now + 1) (5 - 4) 4 rows=Jj (T.now + 1) (5 - (4 + 1)) (4 + 1) (cb (T.now + 1) rows 64):=by
     rw[← yk]
     show (if (T.now + 1) % 16 ^ 4=0 then _ else _)=_
     rw[if_pos (by simp only[Nat.reducePow];omega)]
    refine Uo ?_
    refine ⟨(4 + 1,cb (T.now + 1) rows 64),⟨by simp,by simp,hrel _ cC,by dsimp only;rw[← jl];exact bF⟩,?_,by dsimp only;omega⟩
    rw[fO]at jH
    dsimp only
    rw[jH]
    refine To.dk ?_ fun b=>rfl
    exact Qq @fb
  ·have jl:Jj (T.now + 1) (5 - 4) 4 rows=rows:=by
    show (if (T.now + 1) % 16 ^ 4=0 then _ else _)=_
    rw[if_neg (by simp only[Nat.reducePow];omega)]
   rw[jl,bI]
   refine Qe ?_
   refine ⟨(),?_⟩
   rw[← gF]
   exact To.dk (by exact Qr) fun b=>rfl
 ·have jl:Jj (T.now + 1) (5 - 5) 5 rows=rows:=rfl
  rw[jl,bI,gF]
  refine Qe ?_
  (refine Qa (fun h1=>?_) (fun h1=>?_)<;>try exact h1.elim)
  refine Qe ?_
  refine ⟨(),?_⟩
  rw[← gF]
  exact To.dk (by exact Qr) fun b=>rfl
def Kl (D:List Tm) (to:Nat):Nat:=D.foldl (fun m t=>min m t.due) to
theorem DT:∀ (D:List Tm) (to:Nat),Kl D to≤to∧(∀ t ∈ D,Kl D to≤t.due)∧(Kl D to=to∨∃ t ∈ D,t.due=Kl D to)
 | [],to=>⟨Nat.le_refl _,fun t ht=>(by cases ht),.inl rfl⟩
 | a::D,to=>by
  obtain ⟨h1,h2,h3⟩:=DT D (min to a.due)
  have e:Kl (a::D) to=Kl D (min to a.due):=rfl
  rw[e]
  refine ⟨by omega,fun t ht=>?_,?_⟩
  ·rcases List.mem_cons.1 ht with rfl|ht
   ·omega
   ·exact h2 t ht
  ·rcases h3 with h3|⟨t,ht,h3⟩
   ·by_cases h:to≤a.due
    ·left;omega
    ·right;exact ⟨a,by simp,by omega⟩
   ·right;exact ⟨t,by simp[ht],h3⟩
theorem Xhi {D:List Tm} {to m:Nat} (h1:m≤to) (h2:∀ t ∈ D,m≤t.due) (h3:m=to∨∃ t ∈ D,t.due=m):m=Kl D to:=by
 obtain ⟨g1,g2,g3⟩:=DT D to
 rcases h3 with h3|⟨t,ht,h3⟩<;>rcases g3 with g3|⟨t',ml,g3⟩
 ·omega
 ·have:=h2 t' ml;omega
 ·have:=g2 t ht;omega
 ·have:=h2 t' ml;have:=g2 t ht;omega
theorem DU:∀ (n:Nat) (S:List Nat),S.Nodup→(∀ i ∈ S,i < n)→S.length≤n
 | 0,S,_,h=>by
  cases S with
  | nil=>simp
  | cons a S=>have:=h a au;omega
 | n + 1,S,hd,h=>by
  have:=DU n (S.erase n) (hd.erase n) fun i hi=>by
   have:=(hd.mem_erase_iff).1 hi
   have:=h i this.2;omega
  rw[List.length_erase]at this
  split at this<;>omega
theorem Xqd {S:List Nat} {n:Nat} (hd:S.Nodup) (h:∀ i ∈ S,i < n) (cg:∀ i,i < n→i ∈ S):S.Perm (List.range n):=by
 rw[List.perm_iff_count]
 intro a
 rw[hd.count,(List.nodup_range).count]
 by_cases ha:a < n
 ·rw[if_pos (cg a ha),if_pos (List.mem_range.2 ha)]
 ·rw[if_neg fun hm=>ha (h a hm),if_neg fun hm=>ha (List.mem_range.1 hm)]
theorem Xka (D:List Tm):(List.range D.length).map (fun i=>D.getD i default)=D:=by
 refine List.ext_getElem au fun i h1 h2=>?_
 simp[List.getD,h2]
theorem UO {bs:List Nat} {n ck:Nat} (h:Le bs n ck) {i j:Nat} (hi:i < n) (hj:j < n) (e:bs.getD i 0=bs.getD j 0):i=j:=by
 by_cases h1:i < j
 ·have:=h.2.1 i j h1 hj;omega
 by_cases h2:j < i
 ·have:=h.2.1 j i h2 hi;omega
 omega
theorem UP (D:List Tm) (i:Nat) (h:i < D.length):(bu D).getD i (.any,.any)=(.int .i64 (D.getD i default).id,.int .i64 (D.getD i default).due):=by
 simp[bu,List.getD,h]
def Kd (m:Nat) (mb:Bk):WT:={ now:=m,rows:=List.replicate 65 [],mb:=mb }
theorem UQ (m:Nat) (mb:Bk) (i:Nat):(Kd m mb).row i=[]:=by
 unfold WT.row Kd
 simp only[List.getD,List.getElem?_replicate]
 split<;>rfl
def nR (m:Int):List AV:=.int .i64 m::(List.replicate 65 .nils++[.mp 1])
theorem UR (m:Int) (j:Nat) (h:j < 65):(nR m)[j + 1]?=some .nils:=by
 unfold nR
 rw[List.getElem?_cons_succ,List.getElem?_append_left (by simpa using h),List.getElem?_replicate,if_pos h]
theorem US (m:Int):(nR m).length=67:=by simp[nR]
theorem Xk1 (m:Int):(nR m).getD 0 .any=.int .i64 m:=rfl
theorem UT (m:Int):(nR m).getD 66 .any=.mp 1:=rfl
theorem To.wi {p:List Nat} {s:St} {m:Int} (h0:Qc s.h s.n 0=.cells (nR m)) (hf:∀ j,Qc s.h (s.n + j) (s.n + j)=.free) (hn:2≤s.n):∀ j,j≤65→∃ h cs,To p s ⟨s.t,h,s.n + j⟩∧Qc h (s.n + j) 0=.cells cs∧cs.length=67∧(∀ i,i < 67→cs.getD i .any=if 1≤i∧i≤j then .sl 2 (s.n + (i - 1)) 0 0 0 else (nR m).getD i .any)∧(∀ i,i < j→Qc h (s.n + j) (s.n + i)=.cells [])∧(∀ b,b≠0→b < s.n→Qc h (s.n + j) b=Qc s.h s.n b)∧∀ k,j≤k→Qc h (s.n + k) (s.n + k)=.free
 | 0,_=>⟨s.h,nR m,To.refl _ _,h0,US m,fun i hi=>by rw[if_neg ae],fun i hi=>by omega,fun b _ _=>rfl,fun k _=>hf k⟩
 | j + 1,hj=>by
  obtain ⟨h,cs,g1,g2,g3,g4,g5,g6,g7⟩:=To.wi (p:=p) h0 hf hn j ae
  have hcj:cs[j + 1]?=some .nils:=by
   have:=g4 (j + 1) ae
   rw[if_neg ae]at this
   have hn:=UR m j ae
   have e1:(nR m).getD (j + 1) .any=.nils:=by simp[List.getD,hn]
   rw[e1]at this
   have hl:j + 1 < cs.length:=by omega
   simpa [List.getD,hl] using this
  refine ⟨(0,.cells (cs.set (j + 1) (.sl 2 (s.n + j) 0 0 0)))::(s.n + j,.cells [])::h,cs.set (j + 1) (.sl 2 (s.n + j) 0 0 0),g1.trans (To.kN (s:=⟨s.t,h,s.n + j⟩) g2 hcj (g7 j (Nat.le_refl j))),?_,by simp[g3],fun i hi=>?_,fun i hi=>?_,fun b hb dQ=>?_,fun k hk=>?_⟩
  ·rw[Qd,if_pos rfl]
  ·have br:∀ v,(cs.set (j + 1) v).getD i .any=if i=j + 1 then v else cs.getD i .any:=fun v=>by
    simp only[List.getD,List.getElem?_set]
    by_cases e:j + 1=i
    ·subst e;rw[if_pos rfl,if_pos ae,if_pos rfl];rfl
    ·rw[if_neg e,if_neg fun q=>e q.symm]
   rw[br,g4 i hi]
   by_cases e:i=j + 1
   ·subst e;rw[if_pos rfl,if_pos ae];rfl
   ·rw[if_neg e]
    by_cases e2:1≤i∧i≤j
    ·rw[if_pos e2,if_pos ae]
    ·rw[if_neg e2,if_neg ae]
  ·rw[Qd,if_neg ae,Qd]
   by_cases e:i=j
   ·subst e;rw[if_pos rfl]
   ·rw[if_neg ae,show s.n + (j + 1)=s.n + j + 1 by omega,Wd _ _ _ ae]
    exact g5 i ae
  ·rw[Qd,if_neg fun e=>hb e.symm,Qd,if_neg ae,show s.n + (j + 1)=s.n + j + 1 by omega,Wd _ _ _ ae]
   exact g6 b hb dQ
  ·rw[Qd,if_neg ae,Qd,if_neg ae]
   exact g7 k ae
def kH (N b:Nat):Nat:=if 2≤b∧b < 67 then N + (b - 2) else b
theorem To.nils {p:List Nat} {s:St} {m:Nat} {mb:Bk} {t':List (Nat × AV)} (h0:Qc s.h s.n 0=.cells (nR m)) (hf:∀ j,Qc s.h (s.n + j) (s.n + j)=.free) (hn:2≤s.n) (h1:Qc s.h s.n 1=mb) (eS:bP 2 mb) (hp:∀ b,b ∈ p→b < 2) (ht:Qu (kH s.n) 67 s.t t'):To p s ⟨t',(Kd m mb).h,67⟩:=by
 obtain ⟨h,cs,g1,g2,g3,g4,g5,g6,g7⟩:=To.wi (p:=p) h0 hf ae 65 (Nat.le_refl _)
 have hw:(Kd m mb).wf:=⟨by simp[Kd],eS⟩
 refine g1.trans (To.wh (ex:=[]) hw (kH s.n) (fun b hb=>⟨by unfold kH;rw[if_neg (by have:=hp b hb;omega)],by have:=hp b hb;omega⟩) ae (fun b b' hb bH e=>?_) ?_ ?_ (fun i hi=>?_) ht trivial (fun q hq=>by cases hq))
 ·unfold kH at e
  (repeat' split at e)<;>omega
 ·show Qc h (s.n + 65) (kH s.n 0)=_
  rw[show kH s.n 0=0 by unfold kH;rw[if_neg ae],g2]
  congr 1
  refine Ha (by rw[Yg,g3,WT.len hw]) fun j hj=>?_
  rw[g3]at hj
  rw[g4 j hj,Ko]
  rcases WT.fL hw j hj with rfl|rfl|⟨i,hi,rfl⟩
  ·rw[if_neg ae,WT.ij,Xk1];simp[aD,Kd]
  ·rw[if_neg ae,WT.eI hw,UT];simp[aD,kH]
  ·rw[if_pos ae,WT.fK hw hi,UQ]
   simp only[aD,kH,List.length_nil]
   rw[if_pos ae]
   congr 1
   omega
 ·show Qc h (s.n + 65) (kH s.n 1)=_
  rw[show kH s.n 1=1 by unfold kH;rw[if_neg ae],g6 1 ae ae,h1]
  exact (DO (fun b hb=>by unfold kH;rw[if_neg ae]) eS).symm
 ·show Qc h (s.n + 65) (kH s.n (2 + i))=_
  rw[UQ]
  unfold kH
  rw[if_pos ae,show 2 + i - 2=i by omega]
  exact g5 i hi
theorem Xkf (cs vs:List AV) (off j:Nat) (h:off≤cs.length):(Yp cs off vs).getD j .any=if j < off then cs.getD j .any else if j < off + vs.length then vs.getD (j - off) .any else cs.getD j .any:=by
 unfold Yp
 simp only[List.getD,List.append_assoc,List.getElem?_append,List.length_take]
 by_cases h1:j < off
 ·rw[if_pos ae,if_pos h1,List.getElem?_take_of_lt h1]
 ·rw[if_neg ae,if_neg h1,show min off cs.length=off by omega]
  by_cases h2:j < off + vs.length
  ·rw[if_pos ae,if_pos h2]
  ·rw[if_neg ae,if_neg h2,List.getElem?_drop]
   congr 2;omega
theorem Xzj {T:WT} (hT:T.wf) (m:Int):(Yp (T.cells.set 0 (.int .i64 m)) 1 [.nils,.nils,.nils,.nils,.nils,.nils,.nils,.nils,.nils,.nils,.nils,.nils,.nils,.nils,.nils,.nils,.nils,.nils,.nils,.nils,.nils,.nils,.nils,.nils,.nils,.nils,.nils,.nils,.nils,.nils,.nils,.nils,.nils,.nils,.nils,.nils,.nils,.nils,.nils,.nils,.nils,.nils,.nils,.nils,.nils,.nils,.nils,.nils,.nils,.nils,.nils,.nils,.nils,.nils,.nils,.nils,.nils,.nils,.nils,.nils,.nils,.nils,.nils,.nils]).set 65 .nils=nR m:=by
 have hl:=WT.len hT
 have e:([.nils,.nils,.nils,.nils,.nils,.nils,.nils,.nils,.nils,.nils,.nils,.nils,.nils,.nils,.nils,.nils,.nils,.nils,.nils,.nils,.nils,.nils,.nils,.nils,.nils,.nils,.nils,.nils,.nils,.nils,.nils,.nils,.nils,.nils,.nils,.nils,.nils,.nils,.nils,.nils,.nils,.nils,.nils,.nils,.nils,.nils,.nils,.nils,.nils,.nils,.nils,.nils,.nils,.nils,.nils,.nils,.nils,.nils,.nils,.nils,.nils,.nils,.nils,.nils]:List AV)=List.replicate 64 .nils:=rfl
 rw[e]
 have hlen:(Yp (T.cells.set 0 (.int .i64 m)) 1 (List.replicate 64 .nils)).length=67:=by simp[Yp,hl]
 refine Ha (by rw[List.length_set,hlen,US]) fun j hj=>?_
 rw[List.length_set,hlen]at hj
 have br:∀ (l:List AV) (i:Nat) (v:AV),i < l.length→(l.set i v).getD j .any=if j=i then v else l.getD j .any:=fun l i v hi=>by
  simp only[List.getD,List.getElem?_set]
  by_cases e:i=j
  ·subst e;rw[if_pos rfl,if_pos hi,if_pos rfl];rfl
  ·rw[if_neg e,if_neg fun q=>e q.symm]
 rw[br _ _ _ ae,Xkf _ _ _ _ (by simp[hl])]
 rcases WT.fL hT j hj with rfl|rfl|⟨i,hi,rfl⟩
 ·rw[if_neg ae,if_pos ae,br _ _ _ ae,if_pos rfl];rfl
 ·rw[if_neg ae,if_neg ae,if_neg au,br _ _ _ ae,if_neg ae,WT.eI hT];rfl
 ·have hn:=UR m i hi
  have e1:(nR m).getD (i + 1) .any=.nils:=by simp[List.getD,hn]
  rw[e1]
  by_cases e2:i + 1=65
  ·rw[if_pos e2]
  ·rw[if_neg e2,if_neg ae,if_pos (by rw[List.length_replicate];omega)]
   simp only[List.getD,List.getElem?_replicate]
   rw[if_pos ae];rfl
def WT.ym (D:List Tm) (m:Nat) (T':WT):Prop:=∃ l:List Tm,l.Perm D∧T'={ now:=m,rows:=l.foldl (Xa m) (List.replicate 65 []),mb:=.aC (bu D) false }
set_option maxHeartbeats 4000000 in
set_option maxRecDepth 20000 in
theorem Xvf (gl:Nat→AV) (T:WT) (D:List Tm) (dn:Bool) (hlen:T.rows.length=65) (eS:T.mb=.aC (bu D) dn) (hD:D.length≤100000) (q8:∀ t ∈ D,t.due≤1099511627776) (to:Nat) (gC:to≤1099511627776) :
  GQ Tryz.prog gl 138 [.ptr 0 0,.int .i64 to] T.h 67 [0,1] (fun T':WT=>T'.ym D (Kl D to)) (fun _=>.aU []) WT.h:=by
 have hT:=uI hlen eS
 refine MU.gq (of_decide_eq_true rfl) (fun q hq=>Xc (((WT.HL hT).mem q hq).2)) au fun c aY hg=>?_
 conv in aQ _ _=>cbv
 have aM:=fun n b hb=>WT.gY hT n (b:=b) hb
 have kE:=WT.eI hT
 have aW:=WT.len hT
 have nK:T.h=(0,.cells T.cells)::(1,.aC (bu D) dn)::Ke T.rows 0:=by rw[← eS];rfl
 rw[nK]
 refine Qh @kE ?_
 refine R6 kg rfl rfl (by exact Qq @aM) fun bs ck ep=>?_
 rw[qX]at ep
 refine Qe ?_
 refine Yf (fun y:List Nat × Nat=>y.1.Nodup∧(∀ i ∈ y.1,i < D.length)∧y.2≤to∧(∀ i ∈ y.1,y.2≤(D.getD i default).due)∧(y.2=to∨∃ t ∈ D,t.due=y.2))
  (fun y=>⟨[(0,.ptr 0 0),(4,.int .i64 y.2),(14,.ptr 67 0)],(67,.iter 1 ck (y.1.map fun i=>bs.getD i 0))::(0,.cells T.cells)::(1,.bn (bu D) bs ck)::Ke T.rows 0,68⟩) (fun y=>D.length - y.1.length) MU.mixed [0,1] aY
  ⟨([],to),⟨by simp,by simp,by simp,by simp,.inl rfl⟩,To.dk (by exact Qr) fun b=>?_⟩ fun y hy=>?_
 ·simp only[List.map_nil,Qd]
  (repeat' split)<;>first|rfl|omega
 obtain ⟨S,m⟩:=y
 obtain ⟨qx,sN,DV,Hj,Hk⟩:=hy
 dsimp only at qx sN DV Hj Hk ⊢
 have Na:=DU _ S qx sN
 refine Qe ?_
 refine R7 (bi:=67) (b:=1) (ck:=ck) (seen:=S.map fun i=>bs.getD i 0) (bs:=bs) (kvs:=bu D) rfl (by exact Qr) (by exact Qr) (fun cg=>?_) (fun i cK BE=>?_)
 ·rw[qX]at cg
  have nS:∀ i,i < D.length→i ∈ S:=fun i hi=>by
   obtain ⟨j,hj,e⟩:=List.mem_map.1 (cg i hi)
   rw[UO ep hi (sN j hj) e.symm];exact hj
  have hm:m=Kl D to:=Xhi DV (fun t ht=>by
   obtain ⟨i,hi,rfl⟩:=List.mem_iff_getElem.1 ht
   have:=Hj i (nS i hi)
   simpa [List.getD,hi] using this) Hk
  subst hm
  clear nS cg Hj qx sN Na Hk
  have Dx:Kl D to≤1099511627776:=by omega
  generalize Kl D to=m at *
  refine Qe ?_
  (refine Qa (fun h1=>?_) (fun h1=>?_)<;>try exact h1.elim)
  refine Qh (An @aM @kE) ?_
  rw[Xzj hT m]
  refine qA aY (s':=⟨[(0,.ptr 0 0),(36,.mp 1)],(Kd m (.aC (bu D) false)).h,67⟩) (To.trans (To.Gf (b:=1) rfl) (To.nils (m:=m) (mb:=.aC (bu D) false) rfl (fun j=>?_) (by show 2≤68;omega) rfl (Ur 2 D) au ?_)) ?_
  ·show Qc ((1,_)::(0,_)::(0,_)::(0,_)::(67,_)::(0,_)::(1,_)::Ke T.rows 0) (68 + j) (68 + j)=.free
   (repeat rw[Qd,if_neg ae])
   rw[aM _ _ ae,if_neg ae]
  ·have h1:kH 68 0=0:=rfl
   have h2:kH 68 1=1:=rfl
   exact Qq (An @h1 (An @h2 @UT))
  have hwe:(Kd m (.aC (bu D) false)).wf:=⟨by simp[Kd],Ur 2 D⟩
  have hHe:=WT.aM hwe
  refine R6 kg (b:=1) (kvs:=bu D) (dn:=false) rfl rfl (by exact Qq @hHe) fun fR gG DW=>?_
  rw[qX]at DW
  refine Qe ?_
  refine Yf (fun S:List Nat=>S.Nodup∧(∀ i ∈ S,i < D.length))
   (fun S=>⟨[(0,.ptr 0 0),(37,.ptr 67 0)],(67,.iter 1 gG (S.map fun i=>fR.getD i 0))::WT.h { now:=m,rows:=(S.map fun i=>D.getD i default).foldl (Xa m) (List.replicate 65 []),mb:=.bn (bu D) fR gG },68⟩) (fun S=>D.length - S.length) MU.mixed [0,1] aY
   ⟨[],⟨by simp,by simp⟩,To.dk (by exact Qr) fun b=>?_⟩ fun S hy=>?_
  ·show Qc ((67,.iter 1 gG [])::WT.h { now:=m,rows:=List.replicate 65 [],mb:=.bn (bu D) fR gG }) 68 b=Qc ((67,.iter 1 gG [])::(1,.bn (bu D) fR gG)::(Kd m (.aC (bu D) false)).h) 68 b
   have yn:WT.cells { now:=m,rows:=List.replicate 65 [],mb:=.bn (bu D) fR gG }=(Kd m (.aC (bu D) false)).cells:=rfl
   have q1:(Kd m (.aC (bu D) false)).rows.length=65:=by simp[Kd]
   have q2:(List.replicate 65 ([]:List Tm)).length=65:=by simp
   simp only[Qd,WT.bA,yn]
   (repeat' split)<;>first|rfl|omega
  obtain ⟨qx,sN⟩:=hy
  have Na:=DU _ S qx sN
  have pR:RI (fun _ _=>True) ((S.map fun i=>D.getD i default).foldl (Xa m) (List.replicate 65 [])) ((S.map fun i=>D.getD i default).reverse++[]):=RI.jG _ ⟨by simp,by simp,fun _ _ _ _=>trivial⟩ fun _ _=>trivial
  have Hl:WT.wf { now:=m,rows:=(S.map fun i=>D.getD i default).foldl (Xa m) (List.replicate 65 []),mb:=.bn (bu D) fR gG }:=⟨pR.len,Ur 2 D⟩
  have yo:∀ n,Qc (WT.h { now:=m,rows:=(S.map fun i=>D.getD i default).foldl (Xa m) (List.replicate 65 []),mb:=.bn (bu D) fR gG }) n 1=.bn (bu D) fR gG:=fun n=>rfl
  have Nb:∀ i,i < 65→(WT.row { now:=m,rows:=(S.map fun i=>D.getD i default).foldl (Xa m) (List.replicate 65 []),mb:=.bn (bu D) fR gG } i).length≤1000000:=fun i hi=>by
   have:=pR.eA hi
   simp only[List.append_nil,List.length_reverse,List.length_map]at this
   exact Nat.le_trans this ae
  have eZ:∀ j,Xa m ((S.map fun i=>D.getD i default).foldl (Xa m) (List.replicate 65 [])) (D.getD j default)=((S++[j]).map fun i=>D.getD i default).foldl (Xa m) (List.replicate 65 []):=fun j=>by simp
  have bF:(∀ i,i < D.length→i ∈ S)→WT.ym D m { now:=m,rows:=(S.map fun i=>D.getD i default).foldl (Xa m) (List.replicate 65 []),mb:=.aC (bu D) false }:=fun h=>⟨_,by
   have:=(Xqd qx sN h).map fun i=>D.getD i default
   rwa [Xka]at this,rfl⟩
  have hHS:=WT.aM Hl
  have hnS:WT.now { now:=m,rows:=(S.map fun i=>D.getD i default).foldl (Xa m) (List.replicate 65 []),mb:=.bn (bu D) fR gG }=m:=rfl
  have eC:∀ x,WT.lay { now:=m,rows:=(S.map fun i=>D.getD i default).foldl (Xa m) (List.replicate 65 []),mb:=.bn (bu D) fR gG } x={ now:=m,rows:=Xa m ((S.map fun i=>D.getD i default).foldl (Xa m) (List.replicate 65 [])) x,mb:=.bn (bu D) fR gG }:=fun x=>rfl
  have oy:∀ b,Qc (WT.h { now:=m,rows:=(S.map fun i=>D.getD i default).foldl (Xa m) (List.replicate 65 []),mb:=.aC (bu D) false }) 68 b=Qc ((1,.aC (bu D) false)::WT.h { now:=m,rows:=(S.map fun i=>D.getD i default).foldl (Xa m) (List.replicate 65 []),mb:=.bn (bu D) fR gG }) 68 b:=fun b=>by
   have yn:WT.cells { now:=m,rows:=(S.map fun i=>D.getD i default).foldl (Xa m) (List.replicate 65 []),mb:=.aC (bu D) false }=WT.cells { now:=m,rows:=(S.map fun i=>D.getD i default).foldl (Xa m) (List.replicate 65 []),mb:=.bn (bu D) fR gG }:=rfl
   simp only[Qd,WT.bA,yn]
   (repeat' split)<;>first|rfl|omega
  generalize hTS:({ now:=m,rows:=(S.map fun i=>D.getD i default).foldl (Xa m) (List.replicate 65 []),mb:=.bn (bu D) fR gG }:WT)=TS at *
  refine Qe ?_
  refine R7 (bi:=67) (b:=1) (ck:=gG) (seen:=S.map fun i=>fR.getD i 0) (bs:=fR) (kvs:=bu D) rfl (by exact Qr) (by exact Qq @yo) (fun cg=>?_) (fun i cK BE=>?_)
  ·rw[qX]at cg
   have nS:∀ i,i < D.length→i ∈ S:=fun i hi=>by
    obtain ⟨j,hj,e⟩:=List.mem_map.1 (cg i hi)
    rw[UO DW hi (sN j hj) e.symm];exact hj
   refine Qe ?_
   (refine Qa (fun h2=>?_) (fun h2=>?_)<;>try exact h2.elim)
   refine Qe ?_
   refine ⟨_,bF nS,To.trans (To.Gf (b:=1) (kvs:=bu D) (bs:=fR) (ck:=gG) ?_) (To.trans (To.dk (t':=[(0,.aU [])]) (h':=(67,.iter 1 gG (S.map fun i=>fR.getD i 0))::WT.h { now:=m,rows:=(S.map fun i=>D.getD i default).foldl (Xa m) (List.replicate 65 []),mb:=.aC (bu D) false }) (n':=68) ?_ fun b=>?_) (To.dC (ex:=[(67,.iter 1 gG (S.map fun i=>fR.getD i 0))]) ⟨pR.len,Ur 2 D⟩ au au (by simp[Qu,Qf,ah,look,aD,ay])))⟩
   ·show Qc ((67,.iter 1 gG (S.map fun i=>fR.getD i 0))::TS.h) 68 1=_
    rw[Qd,if_neg ae,yo]
   ·exact Qr
   ·have:=oy b
    show Qc ((67,.iter 1 gG (S.map fun i=>fR.getD i 0))::WT.h { now:=m,rows:=(S.map fun i=>D.getD i default).foldl (Xa m) (List.replicate 65 []),mb:=.aC (bu D) false }) 68 b=Qc ((1,.aC (bu D) false)::(67,.iter 1 gG (S.map fun i=>fR.getD i 0))::TS.h) 68 b
    rw[Qd,Qd,Qd,this,Qd]
    (repeat' split)<;>first|rfl|omega
  ·rw[qX]at cK
   have Nc:i ∉ S:=fun h=>BE (List.mem_map.2 ⟨i,h,rfl⟩)
   have aV:=UP D i cK
   have Hm:D.getD i default ∈ D:=by simp[List.getD,cK]
   have F4:=q8 _ Hm
   have Nd:=eZ i
   generalize hx:D.getD i default=x at *
   have cO:=yg c.gl TS Hl x (by rw[hnS];exact Dx) F4 (Nb _ (wa _ _))
   have ra:(S++[i]).Nodup:=by
    rw[List.nodup_append]
    exact ⟨qx,by simp,fun a ha b hb e=>by
     obtain rfl:=List.mem_singleton.1 hb
     exact Nc (e ▸ ha)⟩
   have rf:∀ j ∈ S++[i],j < D.length:=fun j hj=>by
    rcases List.mem_append.1 hj with h|h
    ·exact sN j h
    ·obtain rfl:=List.mem_singleton.1 h;exact cK
   have rh:=DU _ _ ra rf
   rw[List.length_append]at rh
   simp only[List.length_cons,List.length_nil]at rh
   refine Qh @aV ?_
   (refine Qa (fun h2=>?_) (fun h2=>?_)<;>try exact h2.elim)
   refine Qe ?_
   refine Sa (bi:=67) (b:=1) (ck:=gG) (i:=i) (seen:=S.map fun i=>fR.getD i 0) (bs:=fR) (kvs:=bu D) rfl (by exact Qr) (by exact Qq @yo) (by rw[qX];exact cK) ?_
   refine Qh @aV ?_
   refine qW cO Hl (fun _ _=>WT.eB Hl x) aY (by simp[il]) [(0,.ptr 0 0),(37,.ptr 67 0),(43,.ptr 0 0),(46,.agg [.int .i64 x.id,.int .i64 x.due])] [(67,.iter 1 gG ((S++[i]).map fun i=>fR.getD i 0))] 68 (To.dk (by exact Qr) fun b=>?_) (by simp[nu,il]) ?_ (by simp[Qf,ah]) fun _ _=>?_
   ·show Qc ((67,.iter 1 gG ((S++[i]).map fun i=>fR.getD i 0))::TS.h) 68 b=Qc ((67,.iter 1 gG ((S.map fun i=>fR.getD i 0)++[fR.getD i 0]))::(67,.iter 1 gG (S.map fun i=>fR.getD i 0))::TS.h) 68 b
    simp only[Qd,List.map_append,List.map_cons,List.map_nil];(repeat' split)<;>rfl
   ·exact Qr
   ·refine Qe ?_
    refine ⟨S++[i],⟨ra,rf⟩,?_,?_⟩
    ·rw[eC,Nd]
     exact To.dk (by exact Qr) fun b=>rfl
    ·rw[List.length_append];simp only[List.length_cons,List.length_nil];omega
 ·rw[qX]at cK
  have Nc:i ∉ S:=fun h=>BE (List.mem_map.2 ⟨i,h,rfl⟩)
  have aV:=UP D i cK
  have Hm:D.getD i default ∈ D:=by simp[List.getD,cK]
  have F4:=q8 _ Hm
  have ra:(S++[i]).Nodup:=by
   rw[List.nodup_append]
   exact ⟨qx,by simp,fun a ha b hb e=>by
    obtain rfl:=List.mem_singleton.1 hb
    exact Nc (e ▸ ha)⟩
  have rf:∀ j ∈ S++[i],j < D.length:=fun j hj=>by
   rcases List.mem_append.1 hj with h|h
   ·exact sN j h
   ·obtain rfl:=List.mem_singleton.1 h;exact cK
  have rh:=DU _ _ ra rf
  rw[List.length_append]at rh
  simp only[List.length_cons,List.length_nil]at rh
  refine Qh @aV ?_
  (refine Qa (fun h1=>?_) (fun h1=>?_)<;>try exact h1.elim)
  refine Qe ?_
  refine Sa (bi:=67) (b:=1) (ck:=ck) (i:=i) (seen:=S.map fun i=>bs.getD i 0) (bs:=bs) (kvs:=bu D) rfl (by exact Qr) (by exact Qr) (by rw[qX];exact cK) ?_
  have xI:min (m:Int) ((D.getD i default).due:Int)=((min m (D.getD i default).due:Nat):Int):=by omega
  refine Qh @aV ?_
  refine ⟨(S++[i],min m (D.getD i default).due),⟨ra,rf,by dsimp only;omega,fun j hj=>?_,?_⟩,To.dk (by exact Qq @xI) fun b=>?_,?_⟩
  ·dsimp only at hj ⊢
   rcases List.mem_append.1 hj with h|h
   ·have:=Hj j h;omega
   ·obtain rfl:=List.mem_singleton.1 h;omega
  ·dsimp only
   by_cases h:m≤(D.getD i default).due
   ·rw[Nat.min_eq_left h];exact Hk
   ·exact .inr ⟨_,Hm,by omega⟩
  ·simp only[Qd,List.map_append,List.map_cons,List.map_nil]
   (repeat' split)<;>first|rfl|omega
  ·dsimp only;rw[List.length_append];simp only[List.length_cons,List.length_nil];omega
def Zz (r' r:List (List Tm)):Prop:=r'.length=r.length∧∀ i,(r'.getD i []).Perm (r.getD i [])
theorem Zz.refl (r:List (List Tm)):Zz r r:=⟨rfl,fun _=>List.Perm.refl _⟩
theorem Zz.trans {a b c:List (List Tm)} (h:Zz a b) (k:Zz b c):Zz a c:=⟨h.1.trans k.1,fun i=>(h.2 i).trans (k.2 i)⟩
theorem Nf (r:List (List Tm)) (i:Nat) (l:List Tm) (j:Nat):(r.set i l).getD j []=if j=i∧i < r.length then l else r.getD j []:=by
 by_cases hi:i < r.length
 ·rw[A0 r hi]
  by_cases e:j=i<;>simp[e,hi]
 ·rw[List.set_eq_of_length_le ae,if_neg ae]
theorem Zz.set {r' r:List (List Tm)} (h:Zz r' r) (i:Nat) {l' l:List Tm} (hl:l'.Perm l):Zz (r'.set i l') (r.set i l):=by
 refine ⟨by simp[h.1],fun j=>?_⟩
 rw[Nf,Nf,h.1]
 split
 ·exact hl
 ·exact h.2 j
theorem Zz.lay {r' r:List (List Tm)} (h:Zz r' r) (n:Nat) (t:Tm):Zz (Xa n r' t) (Xa n r t):=h.set _ ((h.2 _).append_right _)
theorem Xrd (n:Nat) (r:List (List Tm)) (a b:Tm):Zz (Xa n (Xa n r a) b) (Xa n (Xa n r b) a):=by
 refine ⟨by simp[Xa],fun j=>?_⟩
 unfold Xa
 simp only[Nf,List.length_set]
 by_cases ha:Yr n a.due < r.length<;>by_cases hb:Yr n b.due < r.length<;>by_cases h1:j=Yr n a.due<;>by_cases h2:j=Yr n b.due<;>by_cases h3:Yr n a.due=Yr n b.due<;>simp_all<;>first|omega|(exact List.Perm.append_left _ (List.Perm.swap _ _ _))|(rw[if_neg (by omega),if_neg (by omega)])|skip
theorem Zz.jG {n:Nat} {l' l:List Tm} (hl:l'.Perm l):∀ {r' r:List (List Tm)},Zz r' r→Zz (l'.foldl (Xa n) r') (l.foldl (Xa n) r):=by
 induction hl with
 | nil=>exact fun h=>h
 | cons x h ih=>exact fun hr=>ih (hr.lay n x)
 | swap x y l =>
  intro r' r hr
  have Ng:∀ (l:List Tm) {r' r:List (List Tm)},Zz r' r→Zz (l.foldl (Xa n) r') (l.foldl (Xa n) r):=fun l=>by
   induction l with
   | nil=>exact fun h=>h
   | cons t l ih=>exact fun h=>ih (h.lay n t)
  exact Ng l (((hr.lay n y).lay n x).trans (Xrd n r y x))
 | trans h1 h2 MW MX=>exact fun hr=>(MW hr).trans (MX (Zz.refl _))
theorem Zz.cb {r' r:List (List Tm)} (h:Zz r' r) (n i:Nat):Zz (Proofs.YtogckmommodmhaaGreatDoor.cb n r' i) (Proofs.YtogckmommodmhaaGreatDoor.cb n r i):=Zz.jG (h.2 i) (h.set i (List.Perm.refl _))
theorem Zz.step {n:Nat}:∀ (f L:Nat) {r' r:List (List Tm)},Zz r' r→Zz (Jj n f L r') (Jj n f L r)
 | 0,_,_,_,h=>h
 | f + 1,L,r',r,h=>by
  unfold Jj
  split
  ·exact Zz.step f (L + 1) (h.cb _ _)
  ·exact h
theorem UU:∀ {r' r:List (List Tm)},r'.length=r.length→(∀ i,(r'.getD i []).Perm (r.getD i []))→r'.flatten.Perm r.flatten
 | [],[],_,_=>List.Perm.refl _
 | a::r',b::r,hl,h=>by
  have h0:=h 0
  simp only[List.getD_cons_zero]at h0
  simp only[List.flatten_cons]
  exact h0.append (UU (by simpa using hl) fun i=>by have:=h (i + 1);simpa only[List.getD_cons_succ] using this)
theorem RI.iF {P:Nat→Nat→Prop} {r' r:List (List Tm)} {D:List Tm} (h:RI P r D) (hs:Zz r' r):RI P r' D :=
 ⟨hs.1.trans h.len,(UU hs.1 hs.2).trans h.perm,fun i hi t ht=>h.pl i hi t ((hs.2 i).mem_iff.1 ht)⟩
theorem UW:∀ (l D:List Tm),ki l D=D.filter fun t=>l.all fun x=>!(t.id == x.id)
 | [],D=>(List.filter_eq_self.2 fun t _=>by simp).symm
 | a::l,D=>by
  have e:ki (a::l) D=ki l (Xt a.id D):=rfl
  rw[e,UW l]
  unfold Xt
  rw[List.filter_filter]
  refine List.filter_congr fun t _=>?_
  rw[List.all_cons,Bool.and_comm]
def Xp (n:Nat) (D:List Tm):List Tm:=D.filter fun t=>!(t.due == n)
theorem Xwm {D:List Tm} (hd:D.Pairwise fun a b=>a.id≠b.id) {a b:Tm} (ha:a ∈ D) (hb:b ∈ D) (e:a.id=b.id):a=b:=by
 induction D with
 | nil=>cases ha
 | cons x D ih =>
  have h1:=List.Pairwise.of_cons hd
  have h2:=fun y hy=>List.rel_of_pairwise_cons hd (a':=y) hy
  rcases List.mem_cons.1 ha with h3|h3<;>rcases List.mem_cons.1 hb with h4|h4
  ·rw[h3,h4]
  ·rw[h3]at e;exact absurd e (h2 b h4)
  ·rw[h4]at e;exact absurd e.symm (h2 a h3)
  ·exact ih h1 h3 h4
theorem Xmy {D l:List Tm} {n:Nat} (hd:D.Pairwise fun a b=>a.id≠b.id) (hl:l.Perm (D.filter fun t=>t.due == n)):ki l D=Xp n D:=by
 rw[UW]
 unfold Xp
 refine List.filter_congr fun t ht=>?_
 have bJ:∀ x,x ∈ l ↔ x ∈ D∧x.due=n:=fun x=>by rw[hl.mem_iff,List.mem_filter];simp
 cases h:t.due == n with
 | true =>
  have aG:t ∈ l:=(bJ t).2 ⟨ht,by simpa using h⟩
  simp only[Bool.not_true]
  rw[← Bool.not_eq_true,List.all_eq_true]
  intro cg
  have:=cg t aG
  simp at this
 | false =>
  simp only[Bool.not_false]
  rw[List.all_eq_true]
  intro x hx
  obtain ⟨h1,h2⟩:=(bJ x).1 hx
  have:t.id≠x.id:=fun e=>by
   have:=Xwm hd ht h1 e
   subst this
   simp[h2]at h
  simpa using this
def lE:Nat→Nat→List (List Tm)→List Tm→Nat→List (List Tm) × List Tm
 | 0,_,rows,D,_=>(rows,D)
 | f + 1,n,rows,D,to =>
  if n=to then (rows.set (n % 16) [],Xp n D)
  else if 4096 < to - n∨(Xp n D).length=0 then lE f (Kl (Xp n D) to) ((Xp n D).foldl (Xa (Kl (Xp n D) to)) (List.replicate 65 [])) (Xp n D) to
  else lE f (n + 1) (Jj (n + 1) 4 1 (rows.set (n % 16) [])) (Xp n D) to
structure WG (n:Nat) (rows:List (List Tm)) (D:List Tm):Prop where
 ri:RI (Pl n) rows D
 lo:∀ t ∈ D,n≤t.due
 hi:∀ t ∈ D,t.due≤1099511627776
 dJ:D.Pairwise fun a b=>a.id≠b.id
 len:D.length≤100000
theorem wj {n:Nat} {D:List Tm}:(Xp n D).Sublist D:=List.filter_sublist
theorem yq {n:Nat} {D:List Tm} (h:∀ t ∈ D,n≤t.due):∀ t ∈ Xp n D,n < t.due:=fun t ht=>by
 obtain ⟨h1,h2⟩:=List.mem_filter.1 ht
 have:=h t h1
 have:t.due≠n:=by simpa using h2
 omega
theorem WG.nT {n:Nat} {rows:List (List Tm)} {D:List Tm} (h:WG n rows D):RI (Pl n) (rows.set (n % 16) []) (Xp n D):=h.ri.nI.2
theorem WG.DX {n m:Nat} {rows:List (List Tm)} {D:List Tm} (h:WG n rows D) (hm:∀ t ∈ Xp n D,m≤t.due):WG m ((Xp n D).foldl (Xa m) (List.replicate 65 [])) (Xp n D) :=
 ⟨RI.DL (List.Perm.refl _) hm,hm,fun t ht=>h.hi t (wj.subset ht),h.dJ.sublist wj,Nat.le_trans wj.length_le h.len⟩
theorem WG.tick {n:Nat} {rows:List (List Tm)} {D:List Tm} (h:WG n rows D):WG (n + 1) (Jj (n + 1) 4 1 (rows.set (n % 16) [])) (Xp n D) :=
 ⟨h.nT.tick (yq h.lo),yq h.lo,fun t ht=>h.hi t (wj.subset ht),h.dJ.sublist wj,Nat.le_trans wj.length_le h.len⟩
theorem Nh (D0:List Tm) (n m:Nat) (eE:n < m) (h:∀ t ∈ D0,n < t.due→m≤t.due):Xp n (D0.filter fun t=>decide (n≤t.due))=D0.filter fun t=>decide (m≤t.due):=by
 unfold Xp
 rw[List.filter_filter]
 refine List.filter_congr fun t ht=>?_
 have:=h t ht
 rw[Bool.eq_iff_iff]
 simp only[Bool.and_eq_true,Bool.not_eq_true',beq_eq_false_iff_ne,ne_eq,decide_eq_true_eq]
 omega
theorem Ni (D0:List Tm):∀ (f n:Nat) (rows:List (List Tm)) (D:List Tm) (to:Nat),n≤to→to - n < f→WG n rows D→D=D0.filter (fun t=>decide (n≤t.due))→(lE f n rows D to).2=D0.filter (fun t=>decide (to < t.due))∧RI (Pl to) (lE f n rows D to).1 (lE f n rows D to).2
 | 0,_,_,_,_,_,h,_,_=>by omega
 | f + 1,n,rows,D,to,hn,hf,hw,hD=>by
  unfold lE
  have bw:∀ m,n < m→(∀ t ∈ Xp n D,m≤t.due)→Xp n D=D0.filter fun t=>decide (m≤t.due):=fun m hm hk=>by
   rw[hD]
   refine Nh D0 n m hm fun t ht hlt=>?_
   refine hk t ?_
   rw[hD]
   exact List.mem_filter.2 ⟨List.mem_filter.2 ⟨ht,by simpa using Nat.le_of_lt hlt⟩,by simp;omega⟩
  split
  ·rename_i e
   subst e
   exact ⟨bw (n + 1) ae (yq hw.lo),hw.nT⟩
  ·rename_i bY
   split
   ·obtain ⟨h1,h2,h3⟩:=DT (Xp n D) to
    have hlt:n < Kl (Xp n D) to:=by
     rcases h3 with h3|⟨t,ht,h3⟩
     ·omega
     ·have:=yq hw.lo t ht;omega
    exact Ni D0 f _ _ _ to h1 ae (hw.DX h2) (bw _ hlt h2)
   ·exact Ni D0 f (n + 1) _ _ to ae ae hw.tick (bw (n + 1) ae (yq hw.lo))
theorem Hn:∀ (f f' n:Nat) (rows:List (List Tm)) (D:List Tm) (to:Nat),n≤to→(∀ t ∈ D,n≤t.due)→to - n < f→to - n < f'→lE f n rows D to=lE f' n rows D to
 | 0,_,_,_,_,_,_,_,h,_=>by omega
 | _ + 1,0,_,_,_,_,_,_,_,h=>by omega
 | f + 1,f' + 1,n,rows,D,to,hn,fw,h1,h2=>by
  unfold lE
  split
  ·rfl
  ·rename_i bY
   have hk:=yq fw
   split
   ·obtain ⟨g1,g2,g3⟩:=DT (Xp n D) to
    have hlt:n < Kl (Xp n D) to:=by
     rcases g3 with g3|⟨t,ht,g3⟩
     ·omega
     ·have:=hk t ht;omega
    exact Hn f f' _ _ _ to g1 g2 ae ae
   ·exact Hn f f' (n + 1) _ _ to ae hk ae ae
theorem To.Nj {p:List Nat} {s:St} {T:WT} {i k:Nat} {l:List Tm} {t':List (Nat × AV)} {x:Bk} (hT:T.wf) (hi:i < 65) (hl:T.row i=l) (h0:Qc s.h s.n 0=.cells (T.cells.set (i + 1) .nils)) (hs:∀ b,b≠0→b < 67→Qc s.h s.n b=Qc T.h 67 b)
  (hf:s.fs.H s.n=.free) (hn:68≤s.n) (hk:look s.t k=.sl 2 (2 + i) 0 l.length l.length) (hp:∀ b,b ∈ p→b < 2) (hx:Qc s.h s.n 67=x) (yr:bP 0 x) (ht:Qu (Kp i s.n) 68 ((k,.isl l.length (a8 l))::s.t) t'):To p s ⟨t',(67,x)::(T.put i []).h,68⟩:=by
 have fO:=hT.len
 have aW:=WT.len hT
 refine To.trans (To.kN (b:=0) (j:=i + 1) (es:=2) h0 (by rw[List.getElem?_set_self ae]) hf) ?_
 rw[List.set_set]
 have cr:Qc s.h (s.n + 1) (2 + i)=.cells (a8 l):=by
  rw[Wd _ _ _ ae,hs _ ae ae,WT.bA,if_neg ae,if_neg ae,if_pos ae,show 2 + i - 2=i by omega,hl]
 refine To.trans (To.gb (b:=2 + i) (i:=k) (cs:=a8 l) (es:=2) (off:=0) (n:=l.length) (k:=l.length) ?_ hk) ?_
 ·show Qc ((0,_)::(s.n,_)::s.h) (s.n + 1) (2 + i)=_
  rw[Qd,if_neg ae,Qd,if_neg ae];exact cr
 have eQ:((a8 l).drop 0).take (l.length * 2)=a8 l:=by rw[List.drop_zero,List.take_of_length_le (by rw[Zm];omega)]
 rw[eQ]
 have Nk:Kp i s.n 67=67:=by unfold Kp;rw[if_neg ae]
 refine To.put (ex:=[(67,x)]) hT hi (N:=s.n) ae ae (fun b hb=>by have:=hp b hb;omega) hn ?_ ?_ ?_ (fun j hj bY=>?_) ht ⟨⟨by show 67 < 68;omega,Un (Nat.zero_le _) yr,?_,trivial⟩,trivial⟩ (fun q hq=>by obtain rfl:=List.mem_singleton.1 hq;exact Nat.le_refl 67)
 ·show Qc ((2 + i,_)::(0,_)::(s.n,_)::s.h) (s.n + 1) 0=_
  rw[Qd,if_neg ae,Qd,if_pos rfl];rfl
 ·show Qc ((2 + i,_)::(0,_)::(s.n,_)::s.h) (s.n + 1) 1=_
  rw[Qd,if_neg ae,Qd,if_neg ae,Qd,if_neg ae,Wd _ _ _ ae,hs 1 ae ae,WT.bA,if_neg ae,if_pos rfl]
 ·show Qc ((2 + i,_)::(0,_)::(s.n,_)::s.h) (s.n + 1) s.n=_
  rw[Qd,if_neg ae,Qd,if_neg ae,Qd,if_pos rfl];rfl
 ·show Qc ((2 + i,_)::(0,_)::(s.n,_)::s.h) (s.n + 1) (2 + j)=_
  rw[Qd,if_neg ae,Qd,if_neg ae,Qd,if_neg ae,Wd _ _ _ ae,hs _ ae ae,WT.bA,if_neg ae,if_neg ae,if_pos ae,show 2 + j - 2=j by omega]
 ·show Qc ((2 + i,_)::(0,_)::(s.n,_)::s.h) (s.n + 1) (Kp i s.n 67)=_
  rw[Nk,Qd,if_neg ae,Qd,if_neg ae,Qd,if_neg ae,Wd _ _ _ ae,hx]
  exact (DO (fun b hb=>by omega) yr).symm
theorem WT.l0 (T:WT) (n:Nat):Qc T.h n 0=.cells T.cells:=by rw[WT.bA,if_pos rfl]
theorem WT.l1 (T:WT) (n:Nat):Qc T.h n 1=T.mb:=by rw[WT.bA,if_neg (by omega),if_pos rfl]
theorem pS (n:Nat) (l:List Int):ah n (Qo l)=True:=by simp[Xi,Qo,Qf]
theorem UX (D:List Tm) (n:Nat):(bh D n).length≤D.length:=by
 unfold bh
 rw[List.length_map,(Wp _).length_eq]
 exact List.length_filter_le _ _
theorem Yco {T':WT} {n:Nat} {rows:List (List Tm)} {mb:Bk} (h1:T'.now=n) (h2:Zz T'.rows rows) (h3:T'.mb=mb):T'.iF { now:=n,rows:=rows,mb:=mb }:=⟨h1,h3,h2.1,h2.2⟩
set_option maxHeartbeats 4000000 in
set_option maxRecDepth 20000 in
theorem Xxv (gl:Nat→AV) (T:WT) (jX:List (List Tm)) (D0:List Tm) (dn:Bool) (UY:Zz T.rows jX) (eS:T.mb=.aC (bu D0) dn) (hW:WG T.now jX D0) (to:Nat) (gC:T.now≤to) (Nl:to≤1099511627776) :
  GQ Tryz.prog gl 98 [.ptr 0 0,.int .i64 to] T.h 67 [0,1] (fun T':WT=>T'.iF { now:=to,rows:=(lE (to - T.now + 1) T.now jX D0 to).1,mb:=.aC (bu (lE (to - T.now + 1) T.now jX D0 to).2) false })
   (fun _=>.aU [.isl (bh D0 (to + 1)).length (Qo (bh D0 (to + 1))),.int .i64 0]) WT.h:=by
 have hlen:T.rows.length=65:=UY.1.trans hW.ri.len
 have hT:=uI hlen eS
 refine MT.gq (of_decide_eq_true rfl) (fun q hq=>Xc (((WT.HL hT).mem q hq).2)) au fun c aY hg=>?_
 conv in aQ _ _=>cbv
 have aM:=WT.aM hT
 have oR:=WT.l0 T
 have g0:=WT.ij T
 have aW:=WT.len hT
 generalize bF:lE (to - T.now + 1) T.now jX D0 to=fin
 refine Qe ?_
 (refine Qa (fun h1=>?_) (fun h1=>?_)<;>try exact h1.elim)
 refine Qh (An @oR @g0) ?_
 (refine Qa (fun h2=>?_) (fun h2=>?_)<;>try exact h2.elim)
 ·omega
 refine Qe ?_
 refine vF 6 1 rfl (by exact Qq @aM) ?_
 unfold St.named
 refine Yf (fun y:WT × List (List Tm) × List Tm × Bool=>Zz y.1.rows y.2.1∧y.1.mb=.aC (bu y.2.2.1) y.2.2.2∧WG y.1.now y.2.1 y.2.2.1∧y.1.now≤to∧T.now≤y.1.now∧lE (to - y.1.now + 1) y.1.now y.2.1 y.2.2.1 to=fin∧y.2.2.1=D0.filter fun t=>decide (y.1.now≤t.due))
  (fun y=>⟨[(0,.ptr 0 0),(1,.int .i64 to),(6,.sl 1 67 0 (bh D0 y.1.now).length (bh D0 y.1.now).length)],(67,.cells (Qo (bh D0 y.1.now)))::y.1.h,68⟩) (fun y=>to - y.1.now) MT.mixed [0,1] aY
  ⟨(T,jX,D0,dn),⟨UY,eS,hW,gC,Nat.le_refl _,bF,(List.filter_eq_self.2 fun t ht=>by simpa using hW.lo t ht).symm⟩,?_⟩ fun y hy=>?_
 ·have e:bh D0 T.now=[]:=Xj8 D0 _ hW.lo
  dsimp only
  rw[e]
  exact To.dk (by exact Qr) fun b=>rfl
 obtain ⟨T1,rows,D,dn1⟩:=y
 obtain ⟨iC,nG,dH,hnt,nO,xq,lW⟩:=hy
 dsimp only at iC nG dH hnt nO xq lW ⊢
 have nU:T1.rows.length=65:=iC.1.trans dH.ri.len
 have bI:=uI nU nG
 have DY:=WT.aM bI
 have uK:=WT.l0 T1
 have yt:=WT.ij T1
 have iZ:=WT.len bI
 have nM:T1.now % 16 < 16:=Nat.mod_lt _ ae
 have hm:Int.tmod (T1.now:Int) 16=((T1.now % 16:Nat):Int):=oP _ 16
 have aV:=WT.fK bI (i:=T1.now % 16) ae
 have uL:=dH.ri.iF iC
 have rj:(T1.row (T1.now % 16)).Perm (D.filter fun t=>t.due == T1.now):=(uL.nI).1
 have ew:=Xmy dH.dJ rj
 have fO:(T1.row (T1.now % 16)).length≤100000:=Nat.le_trans (uL.eA ae) dH.len
 have aw:=Xmu D0 T1.now (T1.row (T1.now % 16)) (by
  rw[lW,List.filter_filter]at rj
  refine rj.trans (List.Perm.of_eq (List.filter_congr fun t _=>?_))
  rw[Bool.eq_iff_iff];simp;omega)
 have vu:=UX D0 T1.now
 have o9a:=UX D0 (T1.now + 1)
 have hDl:=hW.len
 have vI:WT.put T1 (T1.now % 16) []={ T1 with rows:=T1.rows.set (T1.now % 16) [] }:=rfl
 have Fm:Zz (T1.rows.set (T1.now % 16) []) (rows.set (T1.now % 16) []):=iC.set _ (List.Perm.refl _)
 have DZ:(uC (ids (T1.row (T1.now % 16)))).length=(T1.row (T1.now % 16)).length:=by simp[uC,ids]
 generalize AL:T1.row (T1.now % 16)=l at *
 have rk:=Xwz c.gl (T1.put (T1.now % 16) []) D l dn1 (by simp[WT.put,nU]) nG dH.dJ ae
 rw[ew]at rk
 have hwp:=WT.df bI (T1.now % 16) []
 rw[show T1.now % 16 + 1=1 + T1.now % 16 by omega]at aV
 refine Qh (An @DY (An @uK (An @yt (An @hm @aV)))) ?_
 have uM:Xp T1.now D=D0.filter fun t=>decide (T1.now + 1≤t.due):=by
  rw[lW];exact Nh D0 _ _ ae fun t _ h=>h
 have fJ:WT.wf { T1 with rows:=T1.rows.set (T1.now % 16) [],mb:=.aC (bu (Xp T1.now D)) false }:=⟨by simp[nU],Ur 2 _⟩
 have D2:bh D0 T1.now++uC (ids l)=bh D0 (T1.now + 1):=aw.symm
 have yu:(bh D0 T1.now).length + l.length=(bh D0 (T1.now + 1)).length:=by rw[← D2,List.length_append,DZ]
 have Nn:=Xv (bh D0 T1.now)
 have No:=Xv (uC (ids l))
 refine qW (W:=fun _:Unit=>{ T1 with rows:=T1.rows.set (T1.now % 16) [],mb:=.aC (bu (Xp T1.now D)) false }) rk hwp (fun _ _=>fJ) aY (by simp[il]) [(0,.ptr 0 0),(1,.int .i64 to),(36,.sl 1 67 0 (bh D0 T1.now).length (bh D0 T1.now).length),(37,.ptr 0 0),(38,.isl l.length (a8 l))] [(67,.cells (Qo (bh D0 T1.now)))] 68
  (To.Nj (k:=38) bI (i:=T1.now % 16) ae AL ?_ (fun b h1 h2=>?_) ?_ (by show 68≤68;omega) ?_ au rfl ?_ ?_) (by simp[nu,il,CN,Qo,cP]) ?_ (by simp[Qf,pS]) fun _ _=>?_
 ·show Qc ((0,_)::_) 68 0=_
  rw[Qd,if_pos rfl,show 1 + T1.now % 16=T1.now % 16 + 1 by omega]
 ·show Qc ((0,_)::(67,_)::T1.h) 68 b=_
  rw[Qd,if_neg ae,Qd,if_neg ae,WT.bA,WT.bA]
  (repeat' split)<;>first|rfl|omega
 ·exact Qq @DY
 ·exact Qr
 ·exact Xi.2 fun x hx=>by
   obtain ⟨n,_,rfl⟩:=List.mem_map.1 hx
   simp[Qf]
 ·have h1:=uE (Kp (T1.now % 16) 68) l
  have iy:=pO 68 l
  have bE:Kp (T1.now % 16) 68 67=67:=by unfold Kp;rw[if_neg ae]
  exact Qq (An @h1 (An @iy @bE))
 ·exact Qr
 clear rk
 generalize fA:({ T1 with rows:=T1.rows.set (T1.now % 16) [],mb:=.aC (bu (Xp T1.now D)) false }:WT)=T2 at *
 have rm:=WT.aM fJ
 have D4:=WT.l0 T2
 have D5:=WT.l1 T2
 have jI:T2.mb=.aC (bu (Xp T1.now D)) false:=by rw[← fA]
 rw[jI]at D5
 have oI:T2.now=T1.now:=by rw[← fA]
 have Ho:Zz T2.rows (rows.set (T1.now % 16) []):=by rw[← fA];exact Fm
 have Np:=WT.ij T2
 rw[oI]at Np
 have Nq:=WT.eI fJ
 have lF:=WT.len fJ
 have ib:=qX (Xp T1.now D)
 refine Qe ?_
 refine Zj (An @rm (An @Nn (An @No (An @D2 (An @yu (An @DZ (An @D4 @Np))))))) ?_
 have iz:∀ {f:Nat},to - T1.now + 1=f + 1→lE (f + 1) T1.now rows D to=fin:=fun e=>by rw[← e];exact xq
 have jx:=iz (f:=to - T1.now) rfl
 unfold lE at jx
 (refine Qa (fun h3=>?_) (fun h3=>?_)<;>try exact h3.elim)
 ·have e:T1.now=to:=by omega
  rw[if_pos e]at jx
  subst e
  refine Qe ?_
  refine ⟨T2,?_,(To.Li (b:=68) (i:=0) rfl rfl).trans (To.dC (ex:=[(68,.dead),(68,.cells (Qo (bh D0 (T1.now + 1)))),(67,.dead),(67,.cells (Qo (bh D0 T1.now)))]) fJ au au ?_)⟩
  ·rw[← jx];exact Yco oI Ho jI
  ·have a7:((Qo (bh D0 (T1.now + 1))).drop 0).take ((bh D0 (T1.now + 1)).length * 1)=Qo (bh D0 (T1.now + 1)):=by
    rw[List.drop_zero,List.take_of_length_le (by rw[Nat.mul_one];simp[Qo])]
   rw[a7]
   have h2:∀ q,ay id (Qo q)=Qo q:=fun q=>Jf _
   exact Qq (An @pS @h2)
 have bY:¬ T1.now=to:=by omega
 rw[if_neg bY]at jx
 have D6:=Nat.le_trans (wj (n:=T1.now) (D:=D)).length_le dH.len
 have UZ:∀ t ∈ Xp T1.now D,t.due≤1099511627776:=fun t ht=>dH.hi t (wj.subset ht)
 have yv:=yq dH.lo
 refine Qh (An @D4 (An @Np (An @D5 (An @Nq @ib)))) ?_
 (refine Qa (fun h4=>?_) (fun h4=>?_)<;>try exact h4.elim)
 ·rw[if_pos (by rcases h4 with h4|h4<;>omega)]at jx
  have D7:=Xvf c.gl T2 (Xp T1.now D) false (by rw[← fA];simp[nU]) jI D6 UZ to Nl
  obtain ⟨q1,q2,q3⟩:=DT (Xp T1.now D) to
  have hlt:T1.now < Kl (Xp T1.now D) to:=by
   rcases q3 with q3|⟨t,ht,q3⟩
   ·omega
   ·have:=yv t ht;omega
  have sk:=dH.DX q2
  have vU:=Xiz D0 (n:=T1.now + 1) (m:=Kl (Xp T1.now D) to) ae fun t ht h=>q2 t (by rw[uM];exact List.mem_filter.2 ⟨ht,by simpa using h⟩)
  have hD3:Xp T1.now D=D0.filter fun t=>decide (Kl (Xp T1.now D) to≤t.due):=by
   have:=Nh D0 T1.now (Kl (Xp T1.now D) to) hlt fun t ht h=>q2 t (by rw[uM];exact List.mem_filter.2 ⟨ht,decide_eq_true h⟩)
   rw[← lW]at this;exact this
  have DC:∀ x:WT,x.ym (Xp T1.now D) (Kl (Xp T1.now D) to)→x.wf:=fun x ⟨l,_,e⟩=>by
   subst e
   exact ⟨(RI.jG (P:=fun _ _=>True) (now:=Kl (Xp T1.now D) to) l (rows:=List.replicate 65 []) (D:=[]) ⟨by simp,by simp,fun _ _ _ _=>trivial⟩ fun _ _=>trivial).len,Ur 2 _⟩
  rw[Hn _ (to - Kl (Xp T1.now D) to + 1) _ _ _ to q1 q2 ae ae]at jx
  refine Qe ?_
  refine qW (W:=fun x:WT=>x) D7 fJ DC aY (by simp[il]) [(0,.ptr 0 0),(1,.int .i64 to),(6,.sl 1 68 0 (bh D0 (T1.now + 1)).length (bh D0 (T1.now + 1)).length),(63,.ptr 0 0),(64,.int .i64 to)] [(68,.cells (Qo (bh D0 (T1.now + 1))))] 69 (To.dk (by exact Qr) fun b=>?_) (by simp[nu,il,CN,Qo,cP]) ?_ (by simp[Qf,ah]) fun T3 h3=>?_
  ·show Qc ((68,_)::T2.h) 69 b=Qc ((68,.cells (Qo (bh D0 (T1.now + 1))))::(67,.dead)::(67,.cells (Qo (bh D0 T1.now)))::T2.h) 69 b
   simp only[Qd]
   (repeat' split)<;>first|rfl|omega|(subst_vars;rw[rm 69 67 (by omega)];rfl)
  ·exact Qr
  obtain ⟨l3,p3,rfl⟩:=h3
  refine Qe ?_
  refine ⟨({ now:=Kl (Xp T1.now D) to,rows:=l3.foldl (Xa (Kl (Xp T1.now D) to)) (List.replicate 65 []),mb:=.aC (bu (Xp T1.now D)) false },(Xp T1.now D).foldl (Xa (Kl (Xp T1.now D) to)) (List.replicate 65 []),Xp T1.now D,false),⟨Zz.jG p3 (Zz.refl _),rfl,sk,q1,by dsimp only;omega,jx,hD3⟩,?_,by dsimp only;omega⟩
  dsimp only
  rw[vU]
  refine To.M4 (ex:=[(67,.cells (Qo (bh D0 (T1.now + 1))))]) [(67,68)] (DC _ ⟨l3,p3,rfl⟩) au ae rfl rfl (fun b hb=>?_) ?_ ?_ au
  ·show Qc ((68,_)::WT.h _) 69 b=_
   rw[Qd,if_neg ae,WT.bA,WT.bA]
   (repeat' split)<;>first|rfl|omega
  ·exact Qr
  ·exact Qq @pS
 ·rw[if_neg ae]at jx
  have fb:T2.rows.flatten.Perm (Xp T1.now D):=(dH.nT.iF Ho).perm
  have eZ:=Xrg c.gl T2 (Xp T1.now D) fJ fb D6 UZ ae
  have U0:T2.uJ.wf:=⟨((dH.nT.iF Ho).tick yv |>.len:(Jj (T1.now + 1) 4 1 T2.rows).length=65) |> fun h=>by unfold WT.uJ;rw[oI];exact h,fJ.mb⟩
  have hWt:=dH.tick
  rw[Hn _ (to - (T1.now + 1) + 1) _ _ _ to ae yv ae ae]at jx
  refine Qe ?_
  refine qW (W:=fun _:Unit=>T2.uJ) eZ fJ (fun _ _=>U0) aY (by simp[il]) [(0,.ptr 0 0),(1,.int .i64 to),(6,.sl 1 68 0 (bh D0 (T1.now + 1)).length (bh D0 (T1.now + 1)).length),(66,.ptr 0 0)] [(68,.cells (Qo (bh D0 (T1.now + 1))))] 69 (To.dk (by exact Qr) fun b=>?_) (by simp[nu,il,CN,Qo,cP]) ?_ (by simp[Qf,ah]) fun _ _=>?_
  ·show Qc ((68,_)::T2.h) 69 b=Qc ((68,.cells (Qo (bh D0 (T1.now + 1))))::(67,.dead)::(67,.cells (Qo (bh D0 T1.now)))::T2.h) 69 b
   simp only[Qd]
   (repeat' split)<;>first|rfl|omega|(subst_vars;rw[rm 69 67 (by omega)];rfl)
  ·exact Qr
  refine Qe ?_
  have dR:T2.uJ.now=T1.now + 1:=by unfold WT.uJ;rw[oI]
  refine ⟨(T2.uJ,Jj (T1.now + 1) 4 1 (rows.set (T1.now % 16) []),Xp T1.now D,false),⟨?_,jI,by dsimp only;rw[dR];exact hWt,by dsimp only;omega,by dsimp only;omega,by dsimp only;rw[dR];exact jx,by dsimp only;rw[dR];exact uM⟩,?_,by dsimp only;omega⟩
  ·show Zz (Jj (T2.now + 1) 4 1 T2.rows) _
   rw[oI];exact Ho.step 4 1
  dsimp only
  rw[dR]
  refine To.M4 (ex:=[(67,.cells (Qo (bh D0 (T1.now + 1))))]) [(67,68)] U0 au ae rfl rfl (fun b hb=>?_) ?_ ?_ au
  ·show Qc ((68,_)::WT.h _) 69 b=_
   rw[Qd,if_neg ae,WT.bA,WT.bA]
   (repeat' split)<;>first|rfl|omega
  ·exact Qr
  ·exact Qq @pS
set_option maxHeartbeats 2000000 in
theorem Qvn (gl:Nat→AV) (T:WT) (D:List Tm) (dn:Bool) (hlen:T.rows.length=65) (eS:T.mb=.aC (bu D) dn) (x:Int) (hx:jV D x=false) :
  GQ Tryz.prog gl 164 [.ptr 0 0,.int .i64 x] T.h 67 [0,1] (fun _:Unit=>True) (fun _=>.int .i64 7) (fun _=>T.h):=by
 have hT:=uI hlen eS
 refine G0.gq (of_decide_eq_true rfl) (fun q hq=>Xc (((WT.HL hT).mem q hq).2)) au fun c aY hg=>?_
 conv in aQ _ _=>cbv
 have aM:=WT.aM hT
 have oR:=WT.l0 T
 have eH:=WT.l1 T
 rw[eS]at eH
 have kE:=WT.eI hT
 have aW:=WT.len hT
 have dX:=A5 D
 have dO:=Um x
 have yh:=Hc D x
 have ed:=Hd D x
 refine Qh @aM ?_
 (refine Qa (fun h1=>?_) (fun h1=>?_)<;>try exact h1.elim)
 refine Qh (An @aM (An @oR @kE)) ?_
 ((first|refine nt kg ?_|refine Ww kg ?_);(have aJ:=@aM;have bm:=@eH;have bL:=@dX;have cf:=@dO;have cF:=@ed;have dp:=@yh;have fc:=@hx;refine XG ?_;clear aJ bm bL cf cF dp fc;((try (repeat' with_reducible refine And.intro ?_ ?_));(try any_goals (first|refine zm ?_|exact CL|fail)))))
 (refine Qa (fun h2=>?_) (fun h2=>?_)<;>try exact h2.elim)
 refine Qe ?_
 refine ⟨(),To.dC (ex:=[(67,.cells [.int .i64 x])]) hT au au (by simp[Qu,Qf,look,aD])⟩
set_option maxHeartbeats 1000000 in
theorem Xy4 (gl:Nat→AV) (T:WT) (hT:T.wf):GQ Tryz.prog gl 63 [.ptr 0 0] T.h 67 (List.range 67) (fun _:Unit=>True) (fun _=>.int .i64 T.now) (fun _=>T.h):=by
 refine Xys.gq (of_decide_eq_true rfl) (fun q hq=>Xc (((WT.HL hT).mem q hq).2)) (fun b hb=>List.mem_range.1 hb) fun c aY hg=>?_
 conv in aQ _ _=>cbv
 have oR:=WT.l0 T
 have g0:=WT.ij T
 have aW:=WT.len hT
 refine Qe ?_
 (refine Qa (fun h1=>?_) (fun h1=>?_)<;>try exact h1.elim)
 refine Qh (An @oR @g0) ?_
 exact ⟨(),To.dC (ex:=[]) hT (fun b hb=>List.mem_range.1 hb) au (by simp[Qu,Qf,look,aD])⟩
def Wz (D:List Tm) (x:Int) (d:Nat):List Tm:=Xt x D++[⟨x,d⟩]
def WT.arm (T:WT) (D:List Tm) (x:Int) (d:Nat):WT:={ T with rows:=Xa T.now (T.rows.map (Xt x)) ⟨x,d⟩,mb:=.aC (bu (Wz D x d)) false }
theorem Xdj {D:List Tm} {x:Int} (h:jV D x=false):∀ t ∈ D,t.id≠x:=fun t ht e=>by
 unfold jV at h
 rw[List.any_eq_false]at h
 exact h t ht (by simpa using e)
theorem U1 {D:List Tm} {x:Int}:∀ t ∈ Xt x D,t.id≠x:=fun t ht=>by simpa using (List.mem_filter.1 ht).2
theorem Qtt {rows:List (List Tm)} {x:Int} (h:∀ t ∈ rows.flatten,t.id≠x):rows.map (Xt x)=rows:=by
 refine (List.map_congr_left fun r hr=>?_).trans (List.map_id rows)
 exact He fun t ht=>h t (List.mem_flatten.2 ⟨r,hr,ht⟩)
def WT.pT (T:WT) (D:List Tm) (dn:Bool) (x:Int):WT:={ T with rows:=T.rows.map (Xt x),mb:=.aC (bu (Xt x D)) (!jV D x && dn) }
def Nr (D:List Tm) (x:Int):Int:=bif jV D x then 0 else 7
theorem Qz8 (gl:Nat→AV) (T:WT) (D:List Tm) (dn:Bool) (hlen:T.rows.length=65) (eS:T.mb=.aC (bu D) dn) (hd:D.Pairwise fun a b=>a.id≠b.id) (hp:T.rows.flatten.Perm D) (fO:∀ i,(T.row i).length≤1000000) (x:Int) :
  GQ Tryz.prog gl 164 [.ptr 0 0,.int .i64 x] T.h 67 [0,1] (fun _:Unit=>True) (fun _=>.int .i64 (Nr D x)) (fun _=>(T.pT D dn x).h):=by
 cases hx:jV D x with
 | true =>
  have:=Xe6 gl T D dn hlen eS hd fO x hx
  unfold WT.pT Nr
  rw[hx];exact this
 | false =>
  have:=Qvn gl T D dn hlen eS x hx
  have cd:=Xdj hx
  have e:T.pT D dn x=T:=by
   unfold WT.pT
   rw[hx,Qtt fun t ht=>cd t (hp.mem_iff.1 ht),He cd]
   show ({ T with mb:=.aC (bu D) dn }:WT)=T
   rw[← eS]
  rw[e]
  unfold Nr
  rw[hx];exact this
set_option maxHeartbeats 2000000 in
theorem Xzb (gl:Nat→AV) (T:WT) (D:List Tm) (dn:Bool) (hlen:T.rows.length=65) (eS:T.mb=.aC (bu D) dn) (hd:D.Pairwise fun a b=>a.id≠b.id) (hp:T.rows.flatten.Perm D) (hD:D.length≤100000) (hn:T.now≤1099511627776) (x:Int) (d:Nat) (hdm:d≤1099511627776) (ec:jV D x=true∨D.length < 400) :
  GQ Tryz.prog gl 131 [.ptr 0 0,.int .i64 x,.int .i64 d] T.h 67 [0,1] (fun _:Unit=>True) (fun _=>.int .i64 0) (fun _=>(T.arm D x (max d T.now)).h):=by
 have hT:=uI hlen eS
 refine MS.gq (of_decide_eq_true rfl) (fun q hq=>Xc (((WT.HL hT).mem q hq).2)) au fun c aY hg=>?_
 conv in aQ _ _=>cbv
 have aM:=WT.aM hT
 have oR:=WT.l0 T
 have eH:=WT.l1 T
 rw[eS]at eH
 have kE:=WT.eI hT
 have aW:=WT.len hT
 have dX:=A5 D
 have dO:=Um x
 have yh:=Hc D x
 have ed:=Hd D x
 have ib:=qX D
 have U2:RI (fun _ _=>True) T.rows D:=RI.T hlen hp
 have fO:∀ i,(T.row i).length≤1000000:=fun i=>by
  by_cases hi:i < 65
  ·exact Nat.le_trans (U2.eA hi) ae
  ·have:T.row i=[]:=by unfold WT.row;simp[List.getD,hlen,show 65≤i by omega]
   rw[this];simp
 refine Qe ?_
 (refine Qa (fun h1=>?_) (fun h1=>?_)<;>try exact h1.elim)
 refine Qe ?_
 (refine Qa (fun h2=>?_) (fun h2=>?_)<;>try exact h2.elim)
 ·omega
 refine Qh (An @oR @kE) ?_
 ((first|refine nt kg ?_|refine Ww kg ?_);(have aJ:=@eH;have bm:=@dX;have bL:=@dO;have cf:=@ed;have cF:=@yh;have dp:=@oR;have fc:=@kE;have jn:=@ib;refine XG ?_;clear aJ bm bL cf cF dp fc jn;((try (repeat' with_reducible refine And.intro ?_ ?_));(try any_goals (first|refine zm ?_|exact CL|fail)))))
 (refine Qa (fun h3=>?_) (fun h3=>?_)<;>try exact h3.elim)
 ·rcases ec with h|h
  ·rw[h]at h3;simp at h3
  ·omega
 refine Qe ?_
 have kG:=Qz8 c.gl T D dn hlen eS hd hp fO x
 have mH:(T.pT D dn x).wf:=⟨by simp[WT.pT,hlen],Ur 2 _⟩
 have nG:(T.pT D dn x).mb=.aC (bu (Xt x D)) (!jV D x && dn):=rfl
 have sO:(T.pT D dn x).now=T.now:=rfl
 have uL:=U2.filter fun t=>!(t.id == x)
 have oQ:∀ i,i < 65→((T.pT D dn x).row i).length≤1000000:=fun i hi=>by
  have:=uL.eA hi
  have h2:=List.length_filter_le (fun t:Tm=>!(t.id == x)) D
  exact Nat.le_trans this ae
 have gU:∀ m,WT.lay { T.pT D dn x with mb:=.aC (bu (Wz D x m)) false } ⟨x,m⟩=T.arm D x m:=fun m=>rfl
 refine qW (W:=fun _:Unit=>T.pT D dn x) kG hT (fun _ _=>mH) aY (by simp[il]) [(36,.ptr 0 0),(37,.int .i64 x),(0,.ptr 0 0),(1,.int .i64 x),(2,.int .i64 d)] [] 67 (To.dk (by exact Qr) fun b=>rfl) au ?_ (by simp[Qf]) fun _ _=>?_
 ·exact Qr
 generalize bI:T.pT D dn x=T1 at *
 have uK:=WT.l0 T1
 have yw:=WT.l1 T1
 rw[nG]at yw
 have yt:=WT.ij T1
 rw[sO]at yt
 have D8:=WT.eI mH
 have iZ:=WT.len mH
 have D9:=A5 (Xt x D)
 obtain ⟨M,hM,hMv,lz⟩:∃ M,max d T.now=M∧M≤1099511627776∧((((T.now:Int) > (d:Int))=True∧M=T.now)∨(((T.now:Int) > (d:Int))=False∧M=d)):=⟨_,rfl,by omega,by
  by_cases h:d < T.now
  ·left;exact ⟨eq_true ae,by omega⟩
  ·right;exact ⟨eq_false ae,by omega⟩⟩
 rw[hM]
 have im:=Xv3 (U1 (D:=D) (x:=x)) M
 have rn:=hMv
 rcases lz with ⟨lz,Hp⟩|⟨lz,Hp⟩
 ·have yt:T1.cells.getD 0 .any=.int .i64 (M:Int):=by rw[yt,Hp]
  rw[← Hp]at lz
  refine Qh (An @uK (An @yt (An @D8 @lz))) ?_
  ((first|refine CJ kg ?_|refine CK kg ?_);(have aJ:=@yw;have bm:=@D9;have bL:=@dO;have cf:=@im;refine XG ?_;clear aJ bm bL cf;((try (repeat' with_reducible refine And.intro ?_ ?_));(try any_goals (first|refine zm ?_|exact CL|fail)))))
  have fJ:WT.wf { T1 with mb:=.aC (bu (Wz D x M)) false }:=⟨mH.len,Ur 2 _⟩
  have eC:=yg c.gl { T1 with mb:=.aC (bu (Wz D x M)) false } fJ ⟨x,M⟩ (by show T1.now≤_;omega) rn (oQ _ (wa _ _))
  rw[gU]at eC
  have Ea:(T.arm D x M).wf:=⟨by simp[WT.arm,Xa,hlen],Ur 2 _⟩
  refine qW (W:=fun _:Unit=>T.arm D x M) eC fJ (fun _ _=>Ea) aY (by simp[il]) [(51,.ptr 0 0),(54,.agg [.int .i64 x,.int .i64 (M:Int)])] [] 67 (To.trans (To.gg (b:=1) (kvs:=bu (Wz D x M)) (dn:=!jV D x && dn) rfl) (To.dk (by exact Qr) fun b=>?_)) au ?_ (by simp[Qf,ah]) fun _ _=>?_
  ·have yn:WT.cells { T1 with mb:=.aC (bu (Wz D x M)) false }=T1.cells:=rfl
   show Qc (WT.h { T1 with mb:=.aC (bu (Wz D x M)) false }) 67 b=Qc ((1,.aC (bu (Wz D x M)) false)::(1,_)::T1.h) 67 b
   simp only[Qd,WT.bA,yn]
   (repeat' split)<;>first|rfl|omega
  ·exact Qr
  refine Qe ?_
  exact ⟨(),To.dC (ex:=[]) Ea au au (by simp[Qu,Qf,look,aD])⟩
 ·subst Hp
  refine Qh (An @uK (An @yt (An @D8 @lz))) ?_
  ((first|refine CJ kg ?_|refine CK kg ?_);(have aJ:=@yw;have bm:=@D9;have bL:=@dO;have cf:=@im;refine XG ?_;clear aJ bm bL cf;((try (repeat' with_reducible refine And.intro ?_ ?_));(try any_goals (first|refine zm ?_|exact CL|fail)))))
  have fJ:WT.wf { T1 with mb:=.aC (bu (Wz D x M)) false }:=⟨mH.len,Ur 2 _⟩
  have eC:=yg c.gl { T1 with mb:=.aC (bu (Wz D x M)) false } fJ ⟨x,M⟩ (by show T1.now≤_;omega) rn (oQ _ (wa _ _))
  rw[gU]at eC
  have Ea:(T.arm D x M).wf:=⟨by simp[WT.arm,Xa,hlen],Ur 2 _⟩
  refine qW (W:=fun _:Unit=>T.arm D x M) eC fJ (fun _ _=>Ea) aY (by simp[il]) [(51,.ptr 0 0),(54,.agg [.int .i64 x,.int .i64 (M:Int)])] [] 67 (To.trans (To.gg (b:=1) (kvs:=bu (Wz D x M)) (dn:=!jV D x && dn) rfl) (To.dk (by exact Qr) fun b=>?_)) au ?_ (by simp[Qf,ah]) fun _ _=>?_
  ·have yn:WT.cells { T1 with mb:=.aC (bu (Wz D x M)) false }=T1.cells:=rfl
   show Qc (WT.h { T1 with mb:=.aC (bu (Wz D x M)) false }) 67 b=Qc ((1,.aC (bu (Wz D x M)) false)::(1,_)::T1.h) 67 b
   simp only[Qd,WT.bA,yn]
   (repeat' split)<;>first|rfl|omega
  ·exact Qr
  refine Qe ?_
  exact ⟨(),To.dC (ex:=[]) Ea au au (by simp[Qu,Qf,look,aD])⟩
set_option maxHeartbeats 1000000 in
theorem Xga (gl:Nat→AV) (T:WT) (hT:T.wf) (x d:Int) (hd:d < 0∨1099511627776 < d):GQ Tryz.prog gl 131 [.ptr 0 0,.int .i64 x,.int .i64 d] T.h 67 [0,1] (fun _:Unit=>True) (fun _=>.int .i64 2) (fun _=>T.h):=by
 refine MS.gq (of_decide_eq_true rfl) (fun q hq=>Xc (((WT.HL hT).mem q hq).2)) au fun c aY hg=>?_
 conv in aQ _ _=>cbv
 refine Qe ?_
 (refine Qa (fun h1=>?_) (fun h1=>?_)<;>try exact h1.elim)
 refine Qe ?_
 (refine Qa (fun h2=>?_) (fun h2=>?_)<;>try exact h2.elim)
 ·refine Qe ?_
  exact ⟨(),To.dC (ex:=[]) hT au au (by simp[Qu,Qf,look,aD])⟩
 ·omega
set_option maxHeartbeats 1000000 in
theorem Xmv (gl:Nat→AV) (T:WT) (D:List Tm) (dn:Bool) (hlen:T.rows.length=65) (eS:T.mb=.aC (bu D) dn) (x d:Int) (hd:0≤d) (hdm:d≤1099511627776) (hx:jV D x=false) (hD:400≤D.length):GQ Tryz.prog gl 131 [.ptr 0 0,.int .i64 x,.int .i64 d] T.h 67 [0,1] (fun _:Unit=>True) (fun _=>.int .i64 6) (fun _=>T.h):=by
 have hT:=uI hlen eS
 refine MS.gq (of_decide_eq_true rfl) (fun q hq=>Xc (((WT.HL hT).mem q hq).2)) au fun c aY hg=>?_
 conv in aQ _ _=>cbv
 have oR:=WT.l0 T
 have eH:=WT.l1 T
 rw[eS]at eH
 have kE:=WT.eI hT
 have aW:=WT.len hT
 have dX:=A5 D
 have dO:=Um x
 have yh:=Hc D x
 have ed:=Hd D x
 have ib:=qX D
 refine Qe ?_
 (refine Qa (fun h1=>?_) (fun h1=>?_)<;>try exact h1.elim)
 refine Qe ?_
 (refine Qa (fun h2=>?_) (fun h2=>?_)<;>try exact h2.elim)
 ·omega
 refine Qh (An @oR @kE) ?_
 ((first|refine nt kg ?_|refine Ww kg ?_);(have aJ:=@eH;have bm:=@dX;have bL:=@dO;have cf:=@ed;have cF:=@yh;have dp:=@oR;have fc:=@kE;have jn:=@ib;refine XG ?_;clear aJ bm bL cf cF dp fc jn;((try (repeat' with_reducible refine And.intro ?_ ?_));(try any_goals (first|refine zm ?_|exact CL|fail)))))
 (refine Qa (fun h3=>?_) (fun h3=>?_)<;>try exact h3.elim)
 ·refine Qe ?_
  exact ⟨(),To.dC (ex:=[]) hT au au (by simp[Qu,Qf,look,aD])⟩
 ·rw[hx]at h3;simp at h3;omega
set_option maxHeartbeats 1000000 in
theorem Xdb (gl:Nat→AV) (T:WT) (hT:T.wf) (d:Int) (hd:d < T.now∨1099511627776 < d):GQ Tryz.prog gl 98 [.ptr 0 0,.int .i64 d] T.h 67 [0,1] (fun _:Unit=>True) (fun _=>.aU [.nils,.int .i64 2]) (fun _=>T.h):=by
 refine MT.gq (of_decide_eq_true rfl) (fun q hq=>Xc (((WT.HL hT).mem q hq).2)) au fun c aY hg=>?_
 conv in aQ _ _=>cbv
 have oR:=WT.l0 T
 have g0:=WT.ij T
 have aW:=WT.len hT
 refine Qe ?_
 (refine Qa (fun h1=>?_) (fun h1=>?_)<;>try exact h1.elim)
 refine Qh (An @oR @g0) ?_
 (refine Qa (fun h2=>?_) (fun h2=>?_)<;>try exact h2.elim)
 ·refine Qe ?_
  exact ⟨(),To.dC (ex:=[]) hT au au (by simp[Qu,Qf,ah,look,aD,ay])⟩
 ·omega
theorem GQ.lX {P:Program} {gl:Nat→AV} {f:FuncId} {args:List AV} {aG:List (Nat × Bk)} {m:Nat} {p:List Nat} {r:AV} {T2:WT} {Q:WT→Prop} (h:GQ P gl f args aG m p (fun _:Unit=>True) (fun _=>r) (fun _=>T2.h)) (hQ:Q T2):GQ P gl f args aG m p Q (fun _=>r) WT.h :=
 ⟨h.1,fun w vs G X g hR hv=>(h.2 w vs G X g hR hv).mono fun e w' ⟨_,v,g',q1,q2,q3,q4,q5⟩=>⟨T2,v,g',hQ,q2,q3,q4,q5⟩⟩
theorem GQ.wk {P:Program} {gl:Nat→AV} {f:FuncId} {args:List AV} {aG:List (Nat × Bk)} {m:Nat} {p:List Nat} {ι:Type} {Q:ι→Prop} {r r':ι→AV} {aw:ι→List (Nat × Bk)} (h:GQ P gl f args aG m p Q r aw) (hr:∀ x,Wk (r x) (r' x)):GQ P gl f args aG m p Q r' aw :=
 ⟨h.1,fun w vs G X g hR hv=>(h.2 w vs G X g hR hv).mono fun e w' ⟨x,v,g',q1,q2,q3,q4,q5⟩=>⟨x,v,g',q1,q2,q3,q4,hr x _ _ _ _ q5⟩⟩
structure WI (T:WT) (n:Nat) (D:List Tm):Prop where
 now:T.now=n
 mb:∃ dn,T.mb=.aC (bu D) dn
 wg:WG n T.rows D
 cap:D.length≤400
 hi:n≤1099511627776
theorem WI.wf {T:WT} {n:Nat} {D:List Tm} (h:WI T n D):T.wf:=by
 obtain ⟨dn,e⟩:=h.mb
 exact uI h.wg.ri.len e
theorem WI.iF {T T':WT} {n:Nat} {D:List Tm} (h:WI T n D) (hs:T'.iF T):WI T' n D :=
 ⟨hs.now.trans h.now,by obtain ⟨dn,e⟩:=h.mb;exact ⟨dn,hs.mb.trans e⟩,⟨h.wg.ri.iF ⟨hs.len,hs.row⟩,h.wg.lo,h.wg.hi,h.wg.dJ,h.wg.len⟩,h.cap,h.hi⟩
theorem WI.gV {T:WT} {n:Nat} {D:List Tm} (h:WI T n D) (gl:Nat→AV):GD Tryz.prog gl 63 [.ptr 0 0] T.hb 67 (List.range 67) (.int .i64 n) T.hb :=
 A4 fun T' hs=>by
  have:=Xy4 gl T' (h.iF hs).wf
  rw[(h.iF hs).now]at this
  exact this.lX hs
theorem Xvj {r' r:List (List Tm)} (h:Zz r' r) (x:Int):Zz (r'.map (Xt x)) (r.map (Xt x)):=by
 refine ⟨by simp[h.1],fun i=>?_⟩
 have e:∀ l:List (List Tm),(l.map (Xt x)).getD i []=Xt x (l.getD i []):=fun l=>by
  simp only[List.getD,List.getElem?_map]
  cases l[i]?<;>rfl
 rw[e,e]
 exact (h.2 i).filter _
theorem Xw5 (x:Int) (D:List Tm):(Xt x D).length≤D.length:=List.length_filter_le _ _
def yx (n:Nat) (D:List Tm) (x d:Int):Int × List Tm:=if d < 0∨1099511627776 < d then (2,D) else if jV D x=false∧400≤D.length then (6,D) else (0,Wz D x (max d.toNat n))
theorem Xpe (D:List Tm) (x:Int) (d:Nat):((⟨x,d⟩:Tm)::Xt x D).Perm (Wz D x d):=(List.perm_append_singleton _ _).symm
theorem WI.rq {T:WT} {n:Nat} {D:List Tm} (h:WI T n D) (gl:Nat→AV) (x d:Int):∃ T',WI T' n (yx n D x d).2∧GD Tryz.prog gl 131 [.ptr 0 0,.int .i64 x,.int .i64 d] T.hb 67 [0,1] (.int .i64 (yx n D x d).1) T'.hb:=by
 unfold yx
 by_cases h1:d < 0∨1099511627776 < d
 ·rw[if_pos h1]
  exact ⟨T,h,A4 fun T' hs=>(Xga gl T' (h.iF hs).wf x d h1).lX hs⟩
 rw[if_neg h1]
 obtain ⟨dn,e⟩:=h.mb
 obtain ⟨k,rfl⟩:∃ k:Nat,d=k:=⟨d.toNat,by omega⟩
 by_cases h2:jV D x=false∧400≤D.length
 ·rw[if_pos h2]
  exact ⟨T,h,A4 fun T' hs=>(Xmv gl T' D dn (h.iF hs).wg.ri.len (hs.mb.trans e) x k ae ae h2.1 h2.2).lX hs⟩
 rw[if_neg h2]
 rw[show (k:Int).toNat=k by omega]
 have ec:jV D x=true∨D.length < 400:=by
  cases hx:jV D x with
  | true=>exact .inl rfl
  | false=>exact .inr (by simp[hx]at h2;omega)
 have ct:=h.wg.ri.filter fun t=>!(t.id == x)
 have eC:RI (Pl n) (Xa T.now (T.rows.map (Xt x)) ⟨x,max k n⟩) (Wz D x (max k n)):=by
  rw[h.now]
  exact (RI.lay (now:=n) (t:=⟨x,max k n⟩) ct (MO (by show n≤max k n;omega))).iE (Xpe D x _)
 have bJ:∀ t ∈ Wz D x (max k n),t ∈ Xt x D∨t=⟨x,max k n⟩:=fun t ht=>by
  rcases List.mem_append.1 ht with h|h
  ·exact .inl h
  ·exact .inr (List.mem_singleton.1 h)
 have hlen:(Wz D x (max k n)).length≤400:=by
  unfold Wz
  rw[List.length_append]
  have h3:=Xw5 x D
  have h4:=h.cap
  simp only[List.length_cons,List.length_nil]
  rcases ec with h5|h5
  ·have:(Xt x D).length < D.length:=by
    unfold jV at h5
    rw[List.any_eq_true]at h5
    obtain ⟨t,ht,hx⟩:=h5
    unfold Xt
    rw[List.length_filter_lt_length_iff_exists]
    exact ⟨t,ht,by simp[hx]⟩
   omega
  ·omega
 refine ⟨T.arm D x (max k n),⟨h.now,⟨_,rfl⟩,⟨eC,fun t ht=>?_,fun t ht=>?_,?_,by dsimp only;omega⟩,hlen,h.hi⟩,A4 fun T' hs=>?_⟩
 ·rcases bJ t ht with ht|rfl
  ·exact h.wg.lo t (Hg.subset ht)
  ·show n≤max k n;omega
 ·rcases bJ t ht with ht|rfl
  ·exact h.wg.hi t (Hg.subset ht)
  ·show max k n≤1099511627776;have:=h.hi;omega
 ·unfold Wz
  rw[List.pairwise_append]
  refine ⟨h.wg.dJ.sublist Hg,by simp,fun a ha b hb=>?_⟩
  obtain rfl:=List.mem_singleton.1 hb
  exact U1 a ha
 ·have h':=h.iF hs
  have mo:T'.now=n:=h'.now
  have:=Xzb gl T' D dn h'.wg.ri.len (hs.mb.trans e) h'.wg.dJ h'.wg.ri.perm h'.wg.len (by rw[mo];exact h.hi) x k ae ec
  rw[mo]at this
  refine this.lX ?_
  have hr:=(Xvj (r':=T'.rows) (r:=T.rows) ⟨hs.len,hs.row⟩ x).lay T.now ⟨x,max k n⟩
  refine ⟨hs.now,rfl,?_,?_⟩
  ·have:=hr.1
   unfold WT.arm;rw[hs.now];exact this
  ·have:=hr.2
   unfold WT.arm;rw[hs.now];exact this
def wm (n:Nat) (D:List Tm) (to:Int):Int × List Int × Nat × List Tm:=if to < n∨1099511627776 < to then (2,[],n,D) else (0,bh D (to.toNat + 1),to.toNat,D.filter fun t=>decide (to.toNat < t.due))
theorem WI.yy {T:WT} {n:Nat} {D:List Tm} (h:WI T n D) (gl:Nat→AV) (to:Int):∃ T',WI T' (wm n D to).2.2.1 (wm n D to).2.2.2∧GD Tryz.prog gl 98 [.ptr 0 0,.int .i64 to] T.hb 67 [0,1] (.aU [.isl (wm n D to).2.1.length (Qo (wm n D to).2.1),.int .i64 (wm n D to).1]) T'.hb:=by
 unfold wm
 by_cases h1:to < n∨1099511627776 < to
 ·rw[if_pos h1]
  exact ⟨T,h,A4 fun T' hs=>((Xdb gl T' (h.iF hs).wf to (by rw[(h.iF hs).now];exact h1)).wk (r':=fun _=>.aU [.isl 0 (Qo []),.int .i64 2]) fun _=>Wk.CY Wk.nils (Wk.refl _)).lX hs⟩
 rw[if_neg h1]
 obtain ⟨dn,e⟩:=h.mb
 obtain ⟨k,rfl⟩:∃ k:Nat,to=k:=⟨to.toNat,by omega⟩
 rw[show (k:Int).toNat=k by omega]
 have hD:=Ni D (k - n + 1) n T.rows D k ae ae h.wg (List.filter_eq_self.2 fun t ht=>by simpa using h.wg.lo t ht).symm
 have ct:(D.filter fun t=>decide (k < t.due)).Sublist D:=List.filter_sublist
 refine ⟨{ now:=k,rows:=(lE (k - n + 1) n T.rows D k).1,mb:=.aC (bu (lE (k - n + 1) n T.rows D k).2) false },⟨rfl,⟨false,by rw[hD.1]⟩,⟨?_,fun t ht=>?_,fun t ht=>h.wg.hi t (ct.subset ht),h.wg.dJ.sublist ct,Nat.le_trans ct.length_le h.wg.len⟩,Nat.le_trans ct.length_le h.cap,by dsimp only;omega⟩,A4 fun T' hs=>?_⟩
 ·have:=hD.2
  rw[hD.1]at this ⊢;exact this
 ·have:=(List.mem_filter.1 ht).2
  simp at this;show k≤t.due;omega
 ·have h':=h.iF hs
  have mo:T'.now=n:=h'.now
  have wo:WG T'.now T.rows D:=by rw[mo];exact h.wg
  have:=Xxv gl T' T.rows D dn ⟨hs.len,hs.row⟩ (hs.mb.trans e) wo k ae ae
  rw[mo]at this
  exact this
theorem GS.to0 {P:Program} {gl:Nat→AV} {f:FuncId} {args:List AV} {n n':Nat} {r r':AV} {aw lg:List (Nat × Bk)} (h:GS P gl f args [] 0 r aw n) (gC:To [] ⟨[(0,r)],aw,n⟩ ⟨[(0,r')],lg,n'⟩):GS P gl f args [] 0 r' lg n':=by
 refine ⟨h.1,fun w vs G X g hR hv=>(h.2 w vs G X g hR hv).mono ?_⟩
 rintro e w' ⟨v,g',q1,q2,q3,q4⟩
 have cx:R ⟨1,w,G,X,gl,[]⟩ g' (⟨[(0,r)],aw,n⟩:St).fs ⟨#[v],[]⟩ w':=by
  refine ⟨rfl,rfl,fun i=>?_,q2.gl,q2.h,q2.inj,q2.old,q2.fr,q2.xs,q2.hU⟩
  show VR g' _ w' (look [(0,r)] i) _
  rw[Yw]
  split
  ·rename_i hi;subst hi;exact q4
  ·exact .any _
 obtain ⟨g2,bR⟩:=gC _ g' _ w' (fun q hq=>by cases hq) cx
 exact ⟨v,g2,q1,⟨rfl,rfl,fun i=>.any _,bR.gl,bR.h,bR.inj,bR.old,bR.fr,bR.xs,fun q hq=>by cases hq⟩,fun b hb=>by omega,bR.t 0⟩
theorem To.dd {p:List Nat} {t:List (Nat × AV)} {ex:List (Nat × Bk)} {T:WT} {n:Nat} (hex:∀ q ∈ ex,67≤q.1) (hT:T.wf):To p ⟨t,ex++T.h,n⟩ ⟨t,ex++T.hb,n⟩:=fun c g a w _ hR=>by
 have hl:=hT.len
 have key:∀ b,(Qc (ex++T.hb) n b=Qc (ex++T.h) n b)∨∃ l,Qc (ex++T.h) n b=.cells (a8 l)∧Qc (ex++T.hb) n b=.dd (oN l):=fun b=>by
  by_cases hb:b < 67
  ·rw[Qw fun q hq e=>by have:=hex q hq;omega,Qw fun q hq e=>by have:=hex q hq;omega,WT.bA,WT.dN]
   by_cases h0:0=b
   ·rw[if_pos h0,if_pos h0];exact .inl rfl
   by_cases h1:1=b
   ·rw[if_neg h0,if_neg h0,if_pos h1,if_pos h1];exact .inl rfl
   rw[if_neg h0,if_neg h0,if_neg h1,if_neg h1,if_pos ae,if_pos ae]
   exact .inr ⟨_,rfl,rfl⟩
  ·exact .inl (CR (by rw[WT.bA,WT.dN,if_neg ae,if_neg ae,if_neg ae,if_neg (show ¬ 0=b by omega),if_neg (show ¬ 1=b by omega),if_neg (show ¬ (2≤b∧b < 2 + T.rows.length) by omega)]))
 refine ⟨g,hR.gn (fun i v hv=>hv) (fun b hb=>?_) fun b=>?_⟩
 ·show BR _ _ _ _ (Qc (ex++T.hb) n b)
  have e:(⟨t,ex++T.h,n⟩:St).fs.H b=Qc (ex++T.h) n b:=rfl
  rw[e]at hb
  rcases key b with h|⟨l,h1,h2⟩
  ·rw[h];exact hb
  ·rw[h1]at hb;rw[h2];exact T4 hb (List.Perm.refl _)
 ·show (Qc (ex++T.hb) n b).live ↔ (Qc (ex++T.h) n b).live
  rcases key b with h|⟨l,h1,h2⟩
  ·rw[h]
  ·rw[h1,h2];exact ⟨fun _=>trivial,fun _=>trivial⟩
theorem Xnd (m:Nat) (mb:Bk) (h:bP 2 mb):(Kd m mb).wf:=⟨by simp[Kd],h⟩
theorem Ns (n:Nat) (hn:n≤1099511627776):WI (Kd n (.aC [] true)) n [] :=
 ⟨rfl,⟨true,rfl⟩,⟨RI.DL (D:=[]) (l:=[]) (List.Perm.refl _) au,by simp,by simp,by simp,by simp⟩,by simp,hn⟩
theorem Xs6 (gl:Nat→AV) (n:Nat) (hn:n≤1099511627776):GS Tryz.prog gl 70 [.int .i64 n] [] 0 (.aU [.ptr 0 0,.int .i64 0]) (Kd n (.aC [] true)).hb 67:=by
 have h0:GS Tryz.prog gl 70 [.int .i64 n] [] 0 (.aU [.ptr 0 0,.int .i64 0]) [(0,.cells (nR n)),(1,.aC [] true)] 2:=Xzl gl n ae ae
 refine h0.to0 (To.trans (To.nils (m:=n) (mb:=.aC [] true) (t':=[(0,.aU [.ptr 0 0,.int .i64 0])]) rfl (fun j=>?_) (Nat.le_refl 2) rfl (fun q hq=>by cases hq) au ?_) (To.dd (ex:=[]) au (Xnd n (.aC [] true) fun q hq=>by cases hq)))
 ·show Qc [(0,_),(1,_)] (2 + j) (2 + j)=.free
  rw[Qd,if_neg ae,Qd,if_neg ae,FF,if_neg ae]
 ·simp[Qu,Qf,ah,look,aD,ay,kH]
open Classical in
noncomputable def oS (s:St):Nat→List (Nat × Bk)
 | 0=>[]
 | k + 1=>if (Qc s.h s.n k).live then (k,Qc s.h s.n k)::oS s k else oS s k
theorem Hq {s:St}:∀ {k:Nat} {q:Nat × Bk},q ∈ oS s k ↔ q.1 < k∧(Qc s.h s.n q.1).live∧q.2=Qc s.h s.n q.1
 | 0,q=>by simp[oS]
 | k + 1,q=>by
  unfold oS
  split
  ·rename_i h
   rw[List.mem_cons,Hq]
   constructor
   ·rintro (rfl|⟨h1,h2⟩)
    ·exact ⟨by dsimp only;omega,h,rfl⟩
    ·exact ⟨by omega,h2⟩
   ·rintro ⟨h1,h2,h3⟩
    by_cases e:q.1=k
    ·left;rw[e]at h3;exact Prod.ext e h3
    ·right;exact ⟨by omega,h2,h3⟩
  ·rename_i h
   rw[Hq]
   constructor
   ·rintro ⟨h1,h2⟩;exact ⟨by omega,h2⟩
   ·rintro ⟨h1,h2,h3⟩
    refine ⟨?_,h2,h3⟩
    by_cases e:q.1=k
    ·rw[e]at h2;exact (h h2).elim
    ·omega
open Classical in
theorem Nt {s:St} {n b:Nat}:∀ {k:Nat},Qc (oS s k) n b=if b < k∧(Qc s.h s.n b).live then Qc s.h s.n b else if b < n then .dead else .free
 | 0=>by rw[if_neg ae];rfl
 | k + 1=>by
  unfold oS
  split
  ·rename_i h
   rw[Qd,Nt]
   by_cases e:k=b
   ·subst e;rw[if_pos rfl,if_pos ⟨by omega,h⟩]
   ·rw[if_neg e]
    by_cases h2:b < k∧(Qc s.h s.n b).live
    ·rw[if_pos h2,if_pos ⟨by omega,h2.2⟩]
    ·rw[if_neg h2,if_neg (show ¬ (b < k + 1∧(Qc s.h s.n b).live) by rintro ⟨h3,h4⟩;exact h2 ⟨by omega,h4⟩)]
  ·rename_i h
   rw[Nt]
   by_cases h2:b < k∧(Qc s.h s.n b).live
   ·rw[if_pos h2,if_pos ⟨by omega,h2.2⟩]
   ·have h5:¬ (b < k + 1∧(Qc s.h s.n b).live):=by
     rintro ⟨h3,h4⟩
     by_cases e:b=k
     ·subst e;exact h h4
     ·exact h2 ⟨by omega,h4⟩
    rw[if_neg h2,if_neg h5]
theorem Nu {ρ:Nat→Nat} {n':Nat} {s s':St} (bN:∀ b b',b < n'→b' < n'→(Qc s'.h s'.n b).live→(Qc s'.h s'.n b').live→ρ b=ρ b'→b=b') (hl:∀ b,b < n'→(Qc s'.h s'.n b).live→bP n' (Qc s'.h s'.n b)∧Qc s.h s.n (ρ b)=Qx ρ (Qc s'.h s'.n b)):∀ k,k≤n'→oz ρ n' s (oS s' k)
 | 0,_=>trivial
 | k + 1,hk=>by
  unfold oS
  split
  ·rename_i h
   obtain ⟨h1,h2⟩:=hl k ae h
   have not:∀ l:List (Nat × Bk),(∀ q ∈ l,q.1 < k∧(Qc s'.h s'.n q.1).live)→tB ρ k l:=fun l=>by
    induction l with
    | nil=>intro _;trivial
    | cons q l ih =>
     intro hq
     obtain ⟨i,x⟩:=q
     obtain ⟨g1,g2⟩:=hq (i,x) au
     refine ⟨fun e=>?_,ih fun q cD=>hq q (by simp[cD])⟩
     have g1:i < k:=g1
     have:=bN i k ae ae g2 h e
     omega
   exact ⟨⟨by omega,h1,h2,not _ fun q hq=>⟨(Hq.1 hq).1,(Hq.1 hq).2.1⟩⟩,Nu bN hl k ae⟩
  ·exact Nu bN hl k ae
open Classical in
theorem U3 {s':St} (hd:∀ b,b < s'.n→¬ (Qc s'.h s'.n b).live→Qc s'.h s'.n b=.dead) (hf:∀ b,s'.n≤b→Qc s'.h s'.n b=.free) (b:Nat):Qc (oS s' s'.n) s'.n b=Qc s'.h s'.n b:=by
 rw[Nt]
 by_cases h1:b < s'.n
 ·by_cases h2:(Qc s'.h s'.n b).live
  ·rw[if_pos ⟨h1,h2⟩]
  ·rw[if_neg fun h=>h2 h.2,if_pos h1,hd b h1 h2]
 ·rw[if_neg fun h=>h1 h.1,if_neg h1,hf b ae]
theorem To.lk {p:List Nat} {s s':St} (ρ:Nat→Nat) (hp:∀ b ∈ p,ρ b=b∧b < s'.n) (aG:∀ b,(Qc s'.h s'.n b).live→b < s'.n) (hd:∀ b,b < s'.n→¬ (Qc s'.h s'.n b).live→Qc s'.h s'.n b=.dead) (hf:∀ b,s'.n≤b→Qc s'.h s'.n b=.free)
  (bN:∀ b b',b < s'.n→b' < s'.n→(Qc s'.h s'.n b).live→(Qc s'.h s'.n b').live→ρ b=ρ b'→b=b') (hl:∀ b,b < s'.n→(Qc s'.h s'.n b).live→bP s'.n (Qc s'.h s'.n b)∧Qc s.h s.n (ρ b)=Qx ρ (Qc s'.h s'.n b)) (ht:Qu ρ s'.n s.t s'.t):To p s s':=by
 have h1:To p s ⟨s'.t,oS s' s'.n,s'.n⟩:=To.CO (ρ:=ρ) hp ⟨ht,Nu bN hl _ (Nat.le_refl _)⟩
 refine h1.trans fun c g a w _ hR=>⟨g,hR.gn (fun _ _ h=>h) (fun b h=>?_) fun b=>?_⟩
 ·have e:=U3 hd hf b
  have h:BR g _ w (g b) (Qc (oS s' s'.n) s'.n b):=h
  rw[e]at h;exact h
 ·have e:=U3 hd hf b
  show (Qc s'.h s'.n b).live ↔ (Qc (oS s' s'.n) s'.n b).live
  rw[e]
section
variable {P:Program} {c:Cx}
theorem Xlx {s:St} {d:Option Nat} {f:FuncId} {xs:List TV} {args:List AV} {r:AV} {aw:List (Nat × Bk)} {m:Nat} (dM:GS P c.gl f args [] 0 r aw m) (yz:HL aw m) (hc:Qt none (aF c.gl s.fs xs)) (aN:(aF c.gl s.fs xs).map Qj=args) (wS:ah 0 args) (KB:Qf m r) (hs:∀ q ∈ s.h,q.1 < s.n) :
  Kv P c (.pd d (.call f) xs none) s.fs ⟨Xf xs,(List.range m).map fun b=>s.n + b,d.toList,(List.range m).map fun b=>s.n + b⟩ (St.bD ⟨s.t,s.h++Qs (fun b=>s.n + b) aw,s.n + m⟩ d (aD (fun b=>s.n + b) r)).fs:=by
 have hn:∀ b b',b < m→b' < m→s.n + b=s.n + b'→b=b':=fun b b' _ _ e=>by omega
 have hm:∀ q ∈ aw,q.1 < m:=fun q hq=>(yz.mem q hq).1
 have ew:∀ b,∀ q ∈ s.h,q.1≠s.n + b:=fun b q hq=>by have:=hs q hq;omega
 have bq:∀ b,s.fs.H (s.n + b)=.free:=fun b=>by
  show Qc s.h s.n (s.n + b)=_
  have:∀ l:List (Nat × Bk),(∀ q ∈ l,q.1≠s.n + b)→Qc l s.n (s.n + b)=.free:=fun l=>by
   induction l with
   | nil=>intro _;rw[FF,if_neg ae]
   | cons q l ih =>
    obtain ⟨i,x⟩:=q
    intro h
    rw[Qd,if_neg (h (i,x) au),ih fun q hq=>h q (by simp[hq])]
  exact this s.h (ew b)
 have hH:∀ y j,(St.bD ⟨s.t,s.h++Qs (fun b=>s.n + b) aw,s.n + m⟩ d y).fs.H j=Qc (s.h++Qs (fun b=>s.n + b) aw) (s.n + m) j:=fun y j=>by cases d<;>rfl
 refine Co (σ:=fun b=>s.n + b) dM (fun o ys aH oB s2 g a w hT hR=>?_) hn (fun p hp=>by cases hp) (fun b hb=>by omega) (Nat.zero_le _) (fun b _ _=>bq b) (fun p hp=>yz.mem p hp) KB wS (fun b hb=>List.mem_map.2 ⟨b,List.mem_range.2 hb,rfl⟩) (fun j hj=>?_) (fun i=>?_) (fun b hb=>?_) fun j hj=>?_
 ·obtain ⟨ts,bl⟩:=tC aH
  subst oB
  have bj:aF c.gl s2 (ys.map aS)=aF c.gl s.fs (ys.map aS):=Xu fun i hi=>hT i hi
  have hv:=Xx (hR.aF ys) (by rw[bj];exact hc)
  rw[bj,aN]at hv
  have hr:ay (fun b=>s.n + b) args=args:=by
   rw[Yk]
   exact (List.map_congr_left fun v hv=>uG (n:=0) (fun b hb=>by omega) v (Xi.1 wS v hv)).trans (List.map_id _)
  rw[hr]
  exact ⟨_,tD dM.1 bl a w,hv⟩
 ·obtain ⟨b,hb,rfl⟩:=List.mem_map.1 hj
  exact ⟨b,List.mem_range.1 hb,rfl⟩
 ·cases d with
  | none=>rfl
  | some d=>show look ((d,_)::s.t) i=_;rw[Yw];rfl
 ·rw[hH,Qw (ew b),Zc hn hb hm (yz.dW b hb)]
  obtain ⟨_,q,hq,_,e⟩:=yz.live hb m
  rw[e]
  have:=(yz.mem q hq).2
  cases hx:q.2<;>first|rfl|(rw[hx]at this;exact this.elim)
 ·rw[hH]
  show _=Qc s.h s.n j
  have cV:∀ b,b < m→s.n + b≠j:=fun b hb e=>hj (List.mem_map.2 ⟨b,List.mem_range.2 hb,e⟩)
  have key:∀ l:List (Nat × Bk),Qc (l++Qs (fun b=>s.n + b) aw) (s.n + m) j=Qc l s.n j:=fun l=>by
   induction l with
   | nil =>
    rw[List.nil_append,Km cV hm,FF]
    by_cases h:j < s.n
    ·rw[if_pos h,if_pos ae]
    ·rw[if_neg h,if_neg]
     intro h2
     exact cV (j - s.n) ae ae
   | cons q l ih=>obtain ⟨i,x⟩:=q;rw[List.cons_append,Qd,Qd,ih]
  exact key s.h
theorem Eb {r0:List bG} {K:St→Prop} {s:St} {d:Option Nat} {f:FuncId} {xs:List TV} {args:List AV} {r:AV} {aw:List (Nat × Bk)} {m:Nat} (dM:GS P c.gl f args [] 0 r aw m) (yz:HL aw m) (hc:Qt none (aF c.gl s.fs xs)∧(aF c.gl s.fs xs).map Qj=args∧ah 0 args∧Qf m r) (hs:∀ q ∈ s.h,q.1 < s.n)
  (h:XP P c r0 K (St.bD ⟨s.t,s.h++Qs (fun b=>s.n + b) aw,s.n + m⟩ d (aD (fun b=>s.n + b) r))):Xw P c (.pd d (.call f) xs none) r0 K s :=
 .inl ⟨_,_,Xlx dM yz hc.1 hc.2.1 hc.2.2.1 hc.2.2.2 hs,h⟩
end
theorem U4 {ex:List (Nat × Bk)} {σ:Nat→Nat} {T:WT} {n b:Nat} (hT:T.wf) (bN:∀ b b',b < 67→b' < 67→σ b=σ b'→b=b') (hex:∀ q ∈ ex,∀ b,b < 67→σ b≠q.1) (hb:b < 67):Qc (ex++Qs σ T.hb) n (σ b)=Qx σ (Qc T.hb 67 b):=by
 rw[Qw fun q hq e=>hex q hq b hb e.symm]
 exact Zc bN hb (fun q hq=>((WT.gT hT).mem q hq).1) ((WT.gT hT).dW b hb)
theorem Nv {T:WT} (hT:T.wf) {b:Nat} (hb:b < 67):(Qc T.hb 67 b).live∧bP 67 (Qc T.hb 67 b):=by
 obtain ⟨_,q,hq,_,e⟩:=(WT.gT hT).live hb 67
 rw[e]
 exact ⟨Xc ((WT.gT hT).mem q hq).2,((WT.gT hT).mem q hq).2⟩
theorem Jm {f g:Nat→Nat} {n:Nat} (h:∀ b,b < n→f b=g b) {x:Bk} (hx:bP n x):Qx f x=Qx g x:=by
 have hv:∀ v,Qf n v→aD f v=aD g v:=fun v=>AV.rec (motive_1:=fun v=>Qf n v→aD f v=aD g v) (motive_2:=fun l=>ah n l→ay f l=ay g l) (by simp[aD]) (fun b v h1 h2=>by simp only[Qf]at h2;simp only[aD,h1 h2]) (fun _ _=>by simp[aD]) (fun _=>by simp[aD]) (fun _=>by simp[aD])
  (fun cs h1 h2=>by simp only[Qf]at h2;simp only[aD,h1 h2]) (fun cs h1 h2=>by simp only[Qf]at h2;simp only[aD,h1 h2]) (fun b _ h2=>by simp only[Qf]at h2;simp only[aD,h b h2]) (fun cs _ h1 h2=>by simp only[Qf]at h2;simp only[aD,h1 h2]) (fun _ b _ _ _ h2=>by simp only[Qf]at h2;simp only[aD,h b h2]) (fun _ cs h1 h2=>by simp only[Qf]at h2;simp only[aD,h1 h2]) (by simp[aD])
  (fun _ cs h1 h2=>by simp only[Qf]at h2;simp only[aD,h1 h2]) (fun b h2=>by simp only[Qf]at h2;simp only[aD,h b h2]) (fun _=>by simp[aD]) (by simp[ay]) (fun x xs h1 h2=>by simp only[ah,ay];exact fun ⟨a,b⟩=>by rw[h1 a,h2 b]) v
 cases x with
 | free=>rfl
 | dead=>rfl
 | cells cs =>
  simp only[Qx,Yk]
  congr 1
  exact List.map_congr_left fun v h=>hv v (Xi.1 hx v h)
 | aC kvs dn =>
  simp only[Qx]
  congr 1
  exact List.map_congr_left fun q hq=>by rw[hv _ (hx q hq).1,hv _ (hx q hq).2]
 | bn kvs bs ck =>
  simp only[Qx]
  congr 1
  exact List.map_congr_left fun q hq=>by rw[hv _ (hx q hq).1,hv _ (hx q hq).2]
 | iter b ck seen=>simp only[Qx];rw[h b hx]
 | dd ls=>rfl
theorem Xi4 {f g:Nat→Nat} {T:WT} (hT:T.wf) (h:∀ b,b < 67→f b=g b):Qs f T.hb=Qs g T.hb:=by
 unfold Qs
 exact List.map_congr_left fun q hq=>by
  obtain ⟨h1,h2⟩:=(WT.gT hT).mem q hq
  rw[h q.1 h1,Jm h h2]
def gM (n b:Nat):Nat:=if b < 2 then b else n + b
theorem Ye8 (n:Nat):bU id [0,1] n=gM n:=by
 funext b
 unfold gM
 by_cases h:b < 2
 ·rw[if_pos h,Kq (by have:b=0∨b=1:=by omega
                     simpa using this)];rfl
 ·rw[if_neg h,Jy (by simp;omega)]
theorem Nw {n:Nat} (hn:67≤n) {b b':Nat} (h:b < 67) (h':b' < 67) (e:gM n b=gM n b'):b=b':=by
 unfold gM at e
 (repeat' split at e)<;>omega
theorem Yed (n:Nat):gM n 0=0:=rfl
theorem Yfg {T:WT} (hT:T.wf) {σ:Nat→Nat} {m:Nat} (hσ:∀ b,b < 67→σ b < m) (n b:Nat) (hb:m≤b):Qc (Qs σ T.hb) n b=if b < n then .dead else .free :=
 Km (m:=67) (fun b' bH e=>by have:=hσ b' bH;omega) fun q hq=>((WT.gT hT).mem q hq).1
theorem sP {σ:Nat→Nat} {v:AV} (h:Qf 0 v):aD σ v=v:=uG (n:=0) (fun b hb=>by omega) v h
theorem U5 {gl:Nat→AV} {xs:List TV} {v:Bool} {f:FuncId} {args:List AV} {t:List (Nat × AV)} {ex:List (Nat × Bk)} {T:WT} {n:Nat} {p:List Nat} (hT:T.wf) (hp:∀ b ∈ p,b < 67) (hn:67≤n) (hex:∀ q ∈ ex,67≤q.1∧q.1 < n)
  (hc:Qt none (aF gl (⟨t,ex++Qs id T.hb,n⟩:St).fs xs)∧mG v f ((aF gl (⟨t,ex++Qs id T.hb,n⟩:St).fs xs).map Qj)=some (f,args)∧ah 67 args):mI gl xs v f args id p 67 t ex T.hb n :=
 ⟨fun b b' _ _ e=>e,fun b hb=>by show b < n;omega,WT.gT hT,hp,fun q hq=>⟨fun b hb e=>by have:=(hex q hq).1;have e:b=q.1:=e;omega,(hex q hq).2⟩,hc.1,by rw[Jf];exact hc.2.1,hc.2.2⟩
theorem U6 {t:List (Nat × AV)} {ex:List (Nat × Bk)} {σ:Nat→Nat} {T:WT} {n:Nat} {d:Option Nat} {r:AV} (hT:T.wf) (hr:Qf 0 r):Zr t ex T.hb σ (List.range 67) 67 n d r=St.bD ⟨t,ex++Qs σ T.hb,n + 67⟩ d r:=by
 unfold Zr
 rw[Xi4 hT (f:=bU σ (List.range 67) n) (g:=σ) fun b hb=>Kq (List.mem_range.2 hb),sP hr]
theorem Nx {t:List (Nat × AV)} {ex:List (Nat × Bk)} {T:WT} {n:Nat} {d:Option Nat} {r:AV} (hr:Qf 0 r):Zr t ex T.hb id [0,1] 67 n d r=St.bD ⟨t,ex++Qs (gM n) T.hb,n + 67⟩ d r:=by
 unfold Zr
 rw[Ye8,sP hr]
end Go.Proofs.YtogckmommodmhaaGreatDoor
