import Derived.Test.YtogckmommodmhaaGreatDoorZr4
namespace Go.Proofs.YtogckmommodmhaaGreatDoor
open Go.RowKit
set_option linter.all false
set_option linter.unusedSimpArgs false
set_option maxRecDepth 100000
def Jx (D:List Tm) (to:Nat):Nat:=D.foldl (fun m t=>min m t.due) to
theorem Qdc:∀ (D:List Tm) (to:Nat),Jx D to≤to∧(∀ t ∈ D,Jx D to≤t.due)∧(Jx D to=to∨∃ t ∈ D,t.due=Jx D to)
 | [],to=>⟨Nat.le_refl _,fun t ht=>(by cases ht),.inl rfl⟩
 | a::D,to=>by
  obtain ⟨h1,h2,h3⟩:=Qdc D (min to a.due)
  have e:Jx (a::D) to=Jx D (min to a.due):=rfl
  rw[e]
  refine ⟨by omega,fun t ht=>?_,?_⟩
  ·rcases List.mem_cons.1 ht with rfl|ht
   ·omega
   ·exact h2 t ht
  ·rcases h3 with h3|⟨t,ht,h3⟩
   ·by_cases h:to≤a.due
    ·left;omega
    ·right;exact ⟨a,by simp,by omega⟩
   ·right;exact ⟨t,by simp[ht],h3⟩
theorem Xfk {D:List Tm} {to m:Nat} (h1:m≤to) (h2:∀ t ∈ D,m≤t.due) (h3:m=to∨∃ t ∈ D,t.due=m):m=Jx D to:=by
 obtain ⟨g1,g2,g3⟩:=Qdc D to
 rcases h3 with h3|⟨t,ht,h3⟩<;>rcases g3 with g3|⟨t',ht',g3⟩
 ·omega
 ·have:=h2 t' ht';omega
 ·have:=g2 t ht;omega
 ·have:=h2 t' ht';have:=g2 t ht;omega
theorem Qc2:∀ (n:Nat) (S:List Nat),S.Nodup→(∀ i ∈ S,i < n)→S.length≤n
 | 0,S,_,h=>by
  cases S with
  | nil=>simp
  | cons a S=>have:=h a Zsi;omega
 | n + 1,S,hd,h=>by
  have:=Qc2 n (S.erase n) (hd.erase n) fun i hi=>by
   have:=(hd.mem_erase_iff).1 hi
   have:=h i this.2;omega
  rw[List.length_erase]at this
  split at this<;>omega
theorem Xm0 {S:List Nat} {n:Nat} (hd:S.Nodup) (h:∀ i ∈ S,i < n) (hall:∀ i,i < n→i ∈ S):S.Perm (List.range n):=by
 rw[List.perm_iff_count]
 intro a
 rw[hd.count,(List.nodup_range).count]
 by_cases ha:a < n
 ·rw[if_pos (hall a ha),if_pos (List.mem_range.2 ha)]
 ·rw[if_neg fun hm=>ha (h a hm),if_neg fun hm=>ha (List.mem_range.1 hm)]
theorem Xh1 (D:List Tm):(List.range D.length).map (fun i=>D.getD i default)=D:=by
 refine List.ext_getElem Zsi fun i h1 h2=>?_
 simp[List.getD,h2]
theorem Qpz {bs:List Nat} {n ck:Nat} (h:Qs2 bs n ck) {i j:Nat} (hi:i < n) (hj:j < n) (e:bs.getD i 0=bs.getD j 0):i=j:=by
 by_cases h1:i < j
 ·have:=h.2.1 i j h1 hj;omega
 by_cases h2:j < i
 ·have:=h.2.1 j i h2 hi;omega
 omega
theorem Qyw (D:List Tm) (i:Nat) (h:i < D.length):(kvT D).getD i (.any,.any)=(.int .i64 (D.getD i default).id,.int .i64 (D.getD i default).due):=by
 simp[kvT,List.getD,h]
def Jq (m:Nat) (mb:Bk):WT:={ now:=m,rows:=List.replicate 65 [],mb:=mb }
theorem Qnv (m:Nat) (mb:Bk) (i:Nat):(Jq m mb).row i=[]:=by
 unfold WT.row Jq
 simp only[List.getD,List.getElem?_replicate]
 split<;>rfl
def Qde (m:Int):List AV:=.int .i64 m::(List.replicate 65 .nils++[.mp 1])
theorem Qvs (m:Int) (j:Nat) (h:j < 65):(Qde m)[j + 1]?=some .nils:=by
 unfold Qde
 rw[List.getElem?_cons_succ,List.getElem?_append_left (by simpa using h),List.getElem?_replicate,if_pos h]
theorem Qu5 (m:Int):(Qde m).length=67:=by simp[Qde]
theorem Xmg (m:Int):(Qde m).getD 0 .any=.int .i64 m:=rfl
theorem Qme (m:Int):(Qde m).getD 66 .any=.mp 1:=rfl
theorem To.nilsN {p:List Nat} {s:St} {m:Int} (h0:Qb s.h s.n 0=.cells (Qde m)) (hf:∀ j,Qb s.h (s.n + j) (s.n + j)=.free) (hn:2≤s.n):∀ j,j≤65→∃ h cs,To p s ⟨s.t,h,s.n + j⟩∧Qb h (s.n + j) 0=.cells cs∧cs.length=67∧(∀ i,i < 67→cs.getD i .any=if 1≤i∧i≤j then .sl 2 (s.n + (i - 1)) 0 0 0 else (Qde m).getD i .any)∧(∀ i,i < j→Qb h (s.n + j) (s.n + i)=.cells [])∧(∀ b,b≠0→b < s.n→Qb h (s.n + j) b=Qb s.h s.n b)∧∀ k,j≤k→Qb h (s.n + k) (s.n + k)=.free
 | 0,_=>⟨s.h,Qde m,To.refl _ _,h0,Qu5 m,fun i hi=>by rw[if_neg Zom],fun i hi=>by omega,fun b _ _=>rfl,fun k _=>hf k⟩
 | j + 1,hj=>by
  obtain ⟨h,cs,g1,g2,g3,g4,g5,g6,g7⟩:=To.nilsN (p:=p) h0 hf hn j Zom
  have hcj:cs[j + 1]?=some .nils:=by
   have:=g4 (j + 1) Zom
   rw[if_neg Zom]at this
   have hn:=Qvs m j Zom
   have e1:(Qde m).getD (j + 1) .any=.nils:=by simp[List.getD,hn]
   rw[e1]at this
   have hl:j + 1 < cs.length:=by omega
   simpa [List.getD,hl] using this
  refine ⟨(0,.cells (cs.set (j + 1) (.sl 2 (s.n + j) 0 0 0)))::(s.n + j,.cells [])::h,cs.set (j + 1) (.sl 2 (s.n + j) 0 0 0),g1.trans (To.nilB (s:=⟨s.t,h,s.n + j⟩) g2 hcj (g7 j (Nat.le_refl j))),?_,by simp[g3],fun i hi=>?_,fun i hi=>?_,fun b hb hbn=>?_,fun k hk=>?_⟩
  ·rw[Qc,if_pos rfl]
  ·have hset:∀ v,(cs.set (j + 1) v).getD i .any=if i=j + 1 then v else cs.getD i .any:=fun v=>by
    simp only[List.getD,List.getElem?_set]
    by_cases e:j + 1=i
    ·subst e;rw[if_pos rfl,if_pos Zom,if_pos rfl];rfl
    ·rw[if_neg e,if_neg fun q=>e q.symm]
   rw[hset,g4 i hi]
   by_cases e:i=j + 1
   ·subst e;rw[if_pos rfl,if_pos Zom];rfl
   ·rw[if_neg e]
    by_cases e2:1≤i∧i≤j
    ·rw[if_pos e2,if_pos Zom]
    ·rw[if_neg e2,if_neg Zom]
  ·rw[Qc,if_neg Zom,Qc]
   by_cases e:i=j
   ·subst e;rw[if_pos rfl]
   ·rw[if_neg Zom,show s.n + (j + 1)=s.n + j + 1 by omega,Kn _ _ _ Zom]
    exact g5 i Zom
  ·rw[Qc,if_neg fun e=>hb e.symm,Qc,if_neg Zom,show s.n + (j + 1)=s.n + j + 1 by omega,Kn _ _ _ Zom]
   exact g6 b hb hbn
  ·rw[Qc,if_neg Zom,Qc,if_neg Zom]
   exact g7 k Zom
def Qb3 (N b:Nat):Nat:=if 2≤b∧b < 67 then N + (b - 2) else b
theorem To.nils {p:List Nat} {s:St} {m:Nat} {mb:Bk} {t':List (Nat × AV)} (h0:Qb s.h s.n 0=.cells (Qde m)) (hf:∀ j,Qb s.h (s.n + j) (s.n + j)=.free) (hn:2≤s.n) (h1:Qb s.h s.n 1=mb) (hmb:nmB 2 mb) (hp:∀ b,b ∈ p→b < 2) (ht:Qw (Qb3 s.n) 67 s.t t'):To p s ⟨t',(Jq m mb).h,67⟩:=by
 obtain ⟨h,cs,g1,g2,g3,g4,g5,g6,g7⟩:=To.nilsN (p:=p) h0 hf Zom 65 (Nat.le_refl _)
 have hw:(Jq m mb).wf:=⟨by simp[Jq],hmb⟩
 refine g1.trans (To.wh (ex:=[]) hw (Qb3 s.n) (fun b hb=>⟨by unfold Qb3;rw[if_neg (by have:=hp b hb;omega)],by have:=hp b hb;omega⟩) Zom (fun b b' hb hb' e=>?_) ?_ ?_ (fun i hi=>?_) ht trivial (fun q hq=>by cases hq))
 ·unfold Qb3 at e
  (repeat' split at e)<;>omega
 ·show Qb h (s.n + 65) (Qb3 s.n 0)=_
  rw[show Qb3 s.n 0=0 by unfold Qb3;rw[if_neg Zom],g2]
  congr 1
  refine Qcd (by rw[Yg,g3,WT.len hw]) fun j hj=>?_
  rw[g3]at hj
  rw[g4 j hj,Ka]
  rcases WT.cell_cases hw j hj with rfl|rfl|⟨i,hi,rfl⟩
  ·rw[if_neg Zom,WT.get0,Xmg];simp[ren,Jq]
  ·rw[if_neg Zom,WT.get66 hw,Qme];simp[ren,Qb3]
  ·rw[if_pos Zom,WT.getI hw hi,Qnv]
   simp only[ren,Qb3,List.length_nil]
   rw[if_pos Zom]
   congr 1
   omega
 ·show Qb h (s.n + 65) (Qb3 s.n 1)=_
  rw[show Qb3 s.n 1=1 by unfold Qb3;rw[if_neg Zom],g6 1 Zom Zom,h1]
  exact (Qgm (fun b hb=>by unfold Qb3;rw[if_neg Zom]) hmb).symm
 ·show Qb h (s.n + 65) (Qb3 s.n (2 + i))=_
  rw[Qnv]
  unfold Qb3
  rw[if_pos Zom,show 2 + i - 2=i by omega]
  exact g5 i hi
theorem Xl6 (cs vs:List AV) (off j:Nat) (h:off≤cs.length):(Ym cs off vs).getD j .any=if j < off then cs.getD j .any else if j < off + vs.length then vs.getD (j - off) .any else cs.getD j .any:=by
 unfold Ym
 simp only[List.getD,List.append_assoc,List.getElem?_append,List.length_take]
 by_cases h1:j < off
 ·rw[if_pos Zom,if_pos h1,List.getElem?_take_of_lt h1]
 ·rw[if_neg Zom,if_neg h1,show min off cs.length=off by omega]
  by_cases h2:j < off + vs.length
  ·rw[if_pos Zom,if_pos h2]
  ·rw[if_neg Zom,if_neg h2,List.getElem?_drop]
   congr 2;omega
theorem Xtu {T:WT} (hT:T.wf) (m:Int):(Ym (T.cells.set 0 (.int .i64 m)) 1 [.nils,.nils,.nils,.nils,.nils,.nils,.nils,.nils,.nils,.nils,.nils,.nils,.nils,.nils,.nils,.nils,.nils,.nils,.nils,.nils,.nils,.nils,.nils,.nils,.nils,.nils,.nils,.nils,.nils,.nils,.nils,.nils,.nils,.nils,.nils,.nils,.nils,.nils,.nils,.nils,.nils,.nils,.nils,.nils,.nils,.nils,.nils,.nils,.nils,.nils,.nils,.nils,.nils,.nils,.nils,.nils,.nils,.nils,.nils,.nils,.nils,.nils,.nils,.nils]).set 65 .nils=Qde m:=by
 have hl:=WT.len hT
 have e:([.nils,.nils,.nils,.nils,.nils,.nils,.nils,.nils,.nils,.nils,.nils,.nils,.nils,.nils,.nils,.nils,.nils,.nils,.nils,.nils,.nils,.nils,.nils,.nils,.nils,.nils,.nils,.nils,.nils,.nils,.nils,.nils,.nils,.nils,.nils,.nils,.nils,.nils,.nils,.nils,.nils,.nils,.nils,.nils,.nils,.nils,.nils,.nils,.nils,.nils,.nils,.nils,.nils,.nils,.nils,.nils,.nils,.nils,.nils,.nils,.nils,.nils,.nils,.nils]:List AV)=List.replicate 64 .nils:=rfl
 rw[e]
 have hlen:(Ym (T.cells.set 0 (.int .i64 m)) 1 (List.replicate 64 .nils)).length=67:=by simp[Ym,hl]
 refine Qcd (by rw[List.length_set,hlen,Qu5]) fun j hj=>?_
 rw[List.length_set,hlen]at hj
 have hset:∀ (l:List AV) (i:Nat) (v:AV),i < l.length→(l.set i v).getD j .any=if j=i then v else l.getD j .any:=fun l i v hi=>by
  simp only[List.getD,List.getElem?_set]
  by_cases e:i=j
  ·subst e;rw[if_pos rfl,if_pos hi,if_pos rfl];rfl
  ·rw[if_neg e,if_neg fun q=>e q.symm]
 rw[hset _ _ _ Zom,Xl6 _ _ _ _ (by simp[hl])]
 rcases WT.cell_cases hT j hj with rfl|rfl|⟨i,hi,rfl⟩
 ·rw[if_neg Zom,if_pos Zom,hset _ _ _ Zom,if_pos rfl];rfl
 ·rw[if_neg Zom,if_neg Zom,if_neg Zsi,hset _ _ _ Zom,if_neg Zom,WT.get66 hT];rfl
 ·have hn:=Qvs m i hi
  have e1:(Qde m).getD (i + 1) .any=.nils:=by simp[List.getD,hn]
  rw[e1]
  by_cases e2:i + 1=65
  ·rw[if_pos e2]
  ·rw[if_neg e2,if_neg Zom,if_pos (by rw[List.length_replicate];omega)]
   simp only[List.getD,List.getElem?_replicate]
   rw[if_pos Zom];rfl
def WT.lept (D:List Tm) (m:Nat) (T':WT):Prop:=∃ l:List Tm,l.Perm D∧T'={ now:=m,rows:=l.foldl (Xb m) (List.replicate 65 []),mb:=.mapb (kvT D) false }
set_option maxHeartbeats 4000000 in
set_option maxRecDepth 20000 in
theorem Xra (gl:Nat→AV) (T:WT) (D:List Tm) (dn:Bool) (hlen:T.rows.length=65) (hmb:T.mb=.mapb (kvT D) dn) (hD:D.length≤100000) (hdue:∀ t ∈ D,t.due≤1099511627776) (to:Nat) (hto:to≤1099511627776) :
  GQ Tryz.prog gl 138 [.ptr 0 0,.int .i64 to] T.h 67 [0,1] (fun T':WT=>T'.lept D (Jx D to)) (fun _=>.tup []) WT.h:=by
 have hT:=Qab hlen hmb
 refine Qlg.gq (of_decide_eq_true rfl) (fun q hq=>Xe (((WT.HL hT).mem q hq).2)) Zsi fun c hgh hg=>?_
 conv in tcO _ _=>cbv
 have hHi:=fun n b hb=>WT.rowHi hT n (b:=b) hb
 have h66:=WT.get66 hT
 have hcl:=WT.len hT
 have hTh:T.h=(0,.cells T.cells)::(1,.mapb (kvT D) dn)::Jt T.rows 0:=by rw[← hmb];rfl
 rw[hTh]
 refine Qg @h66 ?_
 refine Xgv mtD rfl rfl (by exact Qq @hHi) fun bs ck hst=>?_
 rw[Qa5]at hst
 refine Qd ?_
 refine Yj (fun y:List Nat × Nat=>y.1.Nodup∧(∀ i ∈ y.1,i < D.length)∧y.2≤to∧(∀ i ∈ y.1,y.2≤(D.getD i default).due)∧(y.2=to∨∃ t ∈ D,t.due=y.2))
  (fun y=>⟨[(0,.ptr 0 0),(4,.int .i64 y.2),(14,.ptr 67 0)],(67,.iter 1 ck (y.1.map fun i=>bs.getD i 0))::(0,.cells T.cells)::(1,.mapx (kvT D) bs ck)::Jt T.rows 0,68⟩) (fun y=>D.length - y.1.length) Qlg.mixed [0,1] hgh
  ⟨([],to),⟨by simp,by simp,by simp,by simp,.inl rfl⟩,To.sel (by exact Qs) fun b=>?_⟩ fun y hy=>?_
 ·simp only[List.map_nil,Qc]
  (repeat' split)<;>first|rfl|omega
 obtain ⟨S,m⟩:=y
 obtain ⟨hnd,hSb,hmt,hmS,hmx⟩:=hy
 dsimp only at hnd hSb hmt hmS hmx ⊢
 have hSl:=Qc2 _ S hnd hSb
 refine Qd ?_
 refine Xmb (bi:=67) (b:=1) (ck:=ck) (seen:=S.map fun i=>bs.getD i 0) (bs:=bs) (kvs:=kvT D) rfl (by exact Qs) (by exact Qs) (fun hall=>?_) (fun i hik hni=>?_)
 ·rw[Qa5]at hall
  have hallS:∀ i,i < D.length→i ∈ S:=fun i hi=>by
   obtain ⟨j,hj,e⟩:=List.mem_map.1 (hall i hi)
   rw[Qpz hst hi (hSb j hj) e.symm];exact hj
  have hm:m=Jx D to:=Xfk hmt (fun t ht=>by
   obtain ⟨i,hi,rfl⟩:=List.mem_iff_getElem.1 ht
   have:=hmS i (hallS i hi)
   simpa [List.getD,hi] using this) hmx
  subst hm
  clear hallS hall hmS hnd hSb hSl hmx
  have hmle:Jx D to≤1099511627776:=by omega
  generalize Jx D to=m at *
  refine Qd ?_
  (refine Qa (fun h1=>?_) (fun h1=>?_)<;>try exact h1.elim)
  refine Qg (An @hHi @h66) ?_
  rw[Xtu hT m]
  refine Qez hgh (s':=⟨[(0,.ptr 0 0),(36,.mp 1)],(Jq m (.mapb (kvT D) false)).h,67⟩) (To.trans (To.ofX (b:=1) rfl) (To.nils (m:=m) (mb:=.mapb (kvT D) false) rfl (fun j=>?_) (by show 2≤68;omega) rfl (Uf 2 D) Zsi ?_)) ?_
  ·show Qb ((1,_)::(0,_)::(0,_)::(0,_)::(67,_)::(0,_)::(1,_)::Jt T.rows 0) (68 + j) (68 + j)=.free
   (repeat rw[Qc,if_neg Zom])
   rw[hHi _ _ Zom,if_neg Zom]
  ·have h1:Qb3 68 0=0:=rfl
   have h2:Qb3 68 1=1:=rfl
   exact Qq (An @h1 (An @h2 @Qme))
  have hwe:(Jq m (.mapb (kvT D) false)).wf:=⟨by simp[Jq],Uf 2 D⟩
  have hHe:=WT.hHi hwe
  refine Xgv mtD (b:=1) (kvs:=kvT D) (dn:=false) rfl rfl (by exact Qq @hHe) fun bs2 ck2 hst2=>?_
  rw[Qa5]at hst2
  refine Qd ?_
  refine Yj (fun S:List Nat=>S.Nodup∧(∀ i ∈ S,i < D.length))
   (fun S=>⟨[(0,.ptr 0 0),(37,.ptr 67 0)],(67,.iter 1 ck2 (S.map fun i=>bs2.getD i 0))::WT.h { now:=m,rows:=(S.map fun i=>D.getD i default).foldl (Xb m) (List.replicate 65 []),mb:=.mapx (kvT D) bs2 ck2 },68⟩) (fun S=>D.length - S.length) Qlg.mixed [0,1] hgh
   ⟨[],⟨by simp,by simp⟩,To.sel (by exact Qs) fun b=>?_⟩ fun S hy=>?_
  ·show Qb ((67,.iter 1 ck2 [])::WT.h { now:=m,rows:=List.replicate 65 [],mb:=.mapx (kvT D) bs2 ck2 }) 68 b=Qb ((67,.iter 1 ck2 [])::(1,.mapx (kvT D) bs2 ck2)::(Jq m (.mapb (kvT D) false)).h) 68 b
   have hce:WT.cells { now:=m,rows:=List.replicate 65 [],mb:=.mapx (kvT D) bs2 ck2 }=(Jq m (.mapb (kvT D) false)).cells:=rfl
   have q1:(Jq m (.mapb (kvT D) false)).rows.length=65:=by simp[Jq]
   have q2:(List.replicate 65 ([]:List Tm)).length=65:=by simp
   simp only[Qc,WT.lookh,hce]
   (repeat' split)<;>first|rfl|omega
  obtain ⟨hnd,hSb⟩:=hy
  have hSl:=Qc2 _ S hnd hSb
  have hRI:RI (fun _ _=>True) ((S.map fun i=>D.getD i default).foldl (Xb m) (List.replicate 65 [])) ((S.map fun i=>D.getD i default).reverse++[]):=RI.lays _ ⟨by simp,by simp,fun _ _ _ _=>trivial⟩ fun _ _=>trivial
  have hwS:WT.wf { now:=m,rows:=(S.map fun i=>D.getD i default).foldl (Xb m) (List.replicate 65 []),mb:=.mapx (kvT D) bs2 ck2 }:=⟨hRI.len,Uf 2 D⟩
  have hmbS:∀ n,Qb (WT.h { now:=m,rows:=(S.map fun i=>D.getD i default).foldl (Xb m) (List.replicate 65 []),mb:=.mapx (kvT D) bs2 ck2 }) n 1=.mapx (kvT D) bs2 ck2:=fun n=>rfl
  have hrlS:∀ i,i < 65→(WT.row { now:=m,rows:=(S.map fun i=>D.getD i default).foldl (Xb m) (List.replicate 65 []),mb:=.mapx (kvT D) bs2 ck2 } i).length≤1000000:=fun i hi=>by
   have:=hRI.row_le hi
   simp only[List.append_nil,List.length_reverse,List.length_map]at this
   exact Nat.le_trans this Zom
  have hstep:∀ j,Xb m ((S.map fun i=>D.getD i default).foldl (Xb m) (List.replicate 65 [])) (D.getD j default)=((S++[j]).map fun i=>D.getD i default).foldl (Xb m) (List.replicate 65 []):=fun j=>by simp
  have hfin:(∀ i,i < D.length→i ∈ S)→WT.lept D m { now:=m,rows:=(S.map fun i=>D.getD i default).foldl (Xb m) (List.replicate 65 []),mb:=.mapb (kvT D) false }:=fun h=>⟨_,by
   have:=(Xm0 hnd hSb h).map fun i=>D.getD i default
   rwa [Xh1]at this,rfl⟩
  have hHS:=WT.hHi hwS
  have hnS:WT.now { now:=m,rows:=(S.map fun i=>D.getD i default).foldl (Xb m) (List.replicate 65 []),mb:=.mapx (kvT D) bs2 ck2 }=m:=rfl
  have hlay:∀ x,WT.lay { now:=m,rows:=(S.map fun i=>D.getD i default).foldl (Xb m) (List.replicate 65 []),mb:=.mapx (kvT D) bs2 ck2 } x={ now:=m,rows:=Xb m ((S.map fun i=>D.getD i default).foldl (Xb m) (List.replicate 65 [])) x,mb:=.mapx (kvT D) bs2 ck2 }:=fun x=>rfl
  have hend:∀ b,Qb (WT.h { now:=m,rows:=(S.map fun i=>D.getD i default).foldl (Xb m) (List.replicate 65 []),mb:=.mapb (kvT D) false }) 68 b=Qb ((1,.mapb (kvT D) false)::WT.h { now:=m,rows:=(S.map fun i=>D.getD i default).foldl (Xb m) (List.replicate 65 []),mb:=.mapx (kvT D) bs2 ck2 }) 68 b:=fun b=>by
   have hce:WT.cells { now:=m,rows:=(S.map fun i=>D.getD i default).foldl (Xb m) (List.replicate 65 []),mb:=.mapb (kvT D) false }=WT.cells { now:=m,rows:=(S.map fun i=>D.getD i default).foldl (Xb m) (List.replicate 65 []),mb:=.mapx (kvT D) bs2 ck2 }:=rfl
   simp only[Qc,WT.lookh,hce]
   (repeat' split)<;>first|rfl|omega
  generalize hTS:({ now:=m,rows:=(S.map fun i=>D.getD i default).foldl (Xb m) (List.replicate 65 []),mb:=.mapx (kvT D) bs2 ck2 }:WT)=TS at *
  refine Qd ?_
  refine Xmb (bi:=67) (b:=1) (ck:=ck2) (seen:=S.map fun i=>bs2.getD i 0) (bs:=bs2) (kvs:=kvT D) rfl (by exact Qs) (by exact Qq @hmbS) (fun hall=>?_) (fun i hik hni=>?_)
  ·rw[Qa5]at hall
   have hallS:∀ i,i < D.length→i ∈ S:=fun i hi=>by
    obtain ⟨j,hj,e⟩:=List.mem_map.1 (hall i hi)
    rw[Qpz hst2 hi (hSb j hj) e.symm];exact hj
   refine Qd ?_
   (refine Qa (fun h2=>?_) (fun h2=>?_)<;>try exact h2.elim)
   refine Qd ?_
   refine ⟨_,hfin hallS,To.trans (To.ofX (b:=1) (kvs:=kvT D) (bs:=bs2) (ck:=ck2) ?_) (To.trans (To.sel (t':=[(0,.tup [])]) (h':=(67,.iter 1 ck2 (S.map fun i=>bs2.getD i 0))::WT.h { now:=m,rows:=(S.map fun i=>D.getD i default).foldl (Xb m) (List.replicate 65 []),mb:=.mapb (kvT D) false }) (n':=68) ?_ fun b=>?_) (To.wdrop (ex:=[(67,.iter 1 ck2 (S.map fun i=>bs2.getD i 0))]) ⟨hRI.len,Uf 2 D⟩ Zsi Zsi (by simp[Qw,Qe,nmAll,look,ren,rens])))⟩
   ·show Qb ((67,.iter 1 ck2 (S.map fun i=>bs2.getD i 0))::TS.h) 68 1=_
    rw[Qc,if_neg Zom,hmbS]
   ·exact Qs
   ·have:=hend b
    show Qb ((67,.iter 1 ck2 (S.map fun i=>bs2.getD i 0))::WT.h { now:=m,rows:=(S.map fun i=>D.getD i default).foldl (Xb m) (List.replicate 65 []),mb:=.mapb (kvT D) false }) 68 b=Qb ((1,.mapb (kvT D) false)::(67,.iter 1 ck2 (S.map fun i=>bs2.getD i 0))::TS.h) 68 b
    rw[Qc,Qc,Qc,this,Qc]
    (repeat' split)<;>first|rfl|omega
  ·rw[Qa5]at hik
   have hiS:i ∉ S:=fun h=>hni (List.mem_map.2 ⟨i,h,rfl⟩)
   have hget:=Qyw D i hik
   have hDi:D.getD i default ∈ D:=by simp[List.getD,hik]
   have hdi:=hdue _ hDi
   have hst3:=hstep i
   generalize hx:D.getD i default=x at *
   have hcall:=Qdt c.gl TS hwS x (by rw[hnS];exact hmle) hdi (hrlS _ (Qa9 _ _))
   have hnd':(S++[i]).Nodup:=by
    rw[List.nodup_append]
    exact ⟨hnd,by simp,fun a ha b hb e=>by
     obtain rfl:=List.mem_singleton.1 hb
     exact hiS (e ▸ ha)⟩
   have hSb':∀ j ∈ S++[i],j < D.length:=fun j hj=>by
    rcases List.mem_append.1 hj with h|h
    ·exact hSb j h
    ·obtain rfl:=List.mem_singleton.1 h;exact hik
   have hSl':=Qc2 _ _ hnd' hSb'
   rw[List.length_append]at hSl'
   simp only[List.length_cons,List.length_nil]at hSl'
   refine Qg @hget ?_
   (refine Qa (fun h2=>?_) (fun h2=>?_)<;>try exact h2.elim)
   refine Qd ?_
   refine Xlj (bi:=67) (b:=1) (ck:=ck2) (i:=i) (seen:=S.map fun i=>bs2.getD i 0) (bs:=bs2) (kvs:=kvT D) rfl (by exact Qs) (by exact Qq @hmbS) (by rw[Qa5];exact hik) ?_
   refine Qg @hget ?_
   refine Qdf hcall hwS (fun _ _=>WT.lay_wf hwS x) hgh (by simp[okN]) [(0,.ptr 0 0),(37,.ptr 67 0),(43,.ptr 0 0),(46,.agg [.int .i64 x.id,.int .i64 x.due])] [(67,.iter 1 ck2 ((S++[i]).map fun i=>bs2.getD i 0))] 68 (To.sel (by exact Qs) fun b=>?_) (by simp[Qd7,okN]) ?_ (by simp[Qe,nmAll]) fun _ _=>?_
   ·show Qb ((67,.iter 1 ck2 ((S++[i]).map fun i=>bs2.getD i 0))::TS.h) 68 b=Qb ((67,.iter 1 ck2 ((S.map fun i=>bs2.getD i 0)++[bs2.getD i 0]))::(67,.iter 1 ck2 (S.map fun i=>bs2.getD i 0))::TS.h) 68 b
    simp only[Qc,List.map_append,List.map_cons,List.map_nil];(repeat' split)<;>rfl
   ·exact Qs
   ·refine Qd ?_
    refine ⟨S++[i],⟨hnd',hSb'⟩,?_,?_⟩
    ·rw[hlay,hst3]
     exact To.sel (by exact Qs) fun b=>rfl
    ·rw[List.length_append];simp only[List.length_cons,List.length_nil];omega
 ·rw[Qa5]at hik
  have hiS:i ∉ S:=fun h=>hni (List.mem_map.2 ⟨i,h,rfl⟩)
  have hget:=Qyw D i hik
  have hDi:D.getD i default ∈ D:=by simp[List.getD,hik]
  have hdi:=hdue _ hDi
  have hnd':(S++[i]).Nodup:=by
   rw[List.nodup_append]
   exact ⟨hnd,by simp,fun a ha b hb e=>by
    obtain rfl:=List.mem_singleton.1 hb
    exact hiS (e ▸ ha)⟩
  have hSb':∀ j ∈ S++[i],j < D.length:=fun j hj=>by
   rcases List.mem_append.1 hj with h|h
   ·exact hSb j h
   ·obtain rfl:=List.mem_singleton.1 h;exact hik
  have hSl':=Qc2 _ _ hnd' hSb'
  rw[List.length_append]at hSl'
  simp only[List.length_cons,List.length_nil]at hSl'
  refine Qg @hget ?_
  (refine Qa (fun h1=>?_) (fun h1=>?_)<;>try exact h1.elim)
  refine Qd ?_
  refine Xlj (bi:=67) (b:=1) (ck:=ck) (i:=i) (seen:=S.map fun i=>bs.getD i 0) (bs:=bs) (kvs:=kvT D) rfl (by exact Qs) (by exact Qs) (by rw[Qa5];exact hik) ?_
  have hmin:min (m:Int) ((D.getD i default).due:Int)=((min m (D.getD i default).due:Nat):Int):=by omega
  refine Qg @hget ?_
  refine ⟨(S++[i],min m (D.getD i default).due),⟨hnd',hSb',by dsimp only;omega,fun j hj=>?_,?_⟩,To.sel (by exact Qq @hmin) fun b=>?_,?_⟩
  ·dsimp only at hj ⊢
   rcases List.mem_append.1 hj with h|h
   ·have:=hmS j h;omega
   ·obtain rfl:=List.mem_singleton.1 h;omega
  ·dsimp only
   by_cases h:m≤(D.getD i default).due
   ·rw[Nat.min_eq_left h];exact hmx
   ·exact .inr ⟨_,hDi,by omega⟩
  ·simp only[Qc,List.map_append,List.map_cons,List.map_nil]
   (repeat' split)<;>first|rfl|omega
  ·dsimp only;rw[List.length_append];simp only[List.length_cons,List.length_nil];omega
def Zq (r' r:List (List Tm)):Prop:=r'.length=r.length∧∀ i,(r'.getD i []).Perm (r.getD i [])
theorem Zq.refl (r:List (List Tm)):Zq r r:=⟨rfl,fun _=>List.Perm.refl _⟩
theorem Zq.trans {a b c:List (List Tm)} (h:Zq a b) (k:Zq b c):Zq a c:=⟨h.1.trans k.1,fun i=>(h.2 i).trans (k.2 i)⟩
theorem Qjz (r:List (List Tm)) (i:Nat) (l:List Tm) (j:Nat):(r.set i l).getD j []=if j=i∧i < r.length then l else r.getD j []:=by
 by_cases hi:i < r.length
 ·rw[Qd4 r hi]
  by_cases e:j=i<;>simp[e,hi]
 ·rw[List.set_eq_of_length_le Zom,if_neg Zom]
theorem Zq.set {r' r:List (List Tm)} (h:Zq r' r) (i:Nat) {l' l:List Tm} (hl:l'.Perm l):Zq (r'.set i l') (r.set i l):=by
 refine ⟨by simp[h.1],fun j=>?_⟩
 rw[Qjz,Qjz,h.1]
 split
 ·exact hl
 ·exact h.2 j
theorem Zq.lay {r' r:List (List Tm)} (h:Zq r' r) (n:Nat) (t:Tm):Zq (Xb n r' t) (Xb n r t):=h.set _ ((h.2 _).append_right _)
theorem Xjn (n:Nat) (r:List (List Tm)) (a b:Tm):Zq (Xb n (Xb n r a) b) (Xb n (Xb n r b) a):=by
 refine ⟨by simp[Xb],fun j=>?_⟩
 unfold Xb
 simp only[Qjz,List.length_set]
 by_cases ha:Yp n a.due < r.length<;>by_cases hb:Yp n b.due < r.length<;>by_cases h1:j=Yp n a.due<;>by_cases h2:j=Yp n b.due<;>by_cases h3:Yp n a.due=Yp n b.due<;>simp_all<;>first|omega|(exact List.Perm.append_left _ (List.Perm.swap _ _ _))|(rw[if_neg (by omega),if_neg (by omega)])|skip
theorem Zq.lays {n:Nat} {l' l:List Tm} (hl:l'.Perm l):∀ {r' r:List (List Tm)},Zq r' r→Zq (l'.foldl (Xb n) r') (l.foldl (Xb n) r):=by
 induction hl with
 | nil=>exact fun h=>h
 | cons x h ih=>exact fun hr=>ih (hr.lay n x)
 | swap x y l =>
  intro r' r hr
  have hfix:∀ (l:List Tm) {r' r:List (List Tm)},Zq r' r→Zq (l.foldl (Xb n) r') (l.foldl (Xb n) r):=fun l=>by
   induction l with
   | nil=>exact fun h=>h
   | cons t l ih=>exact fun h=>ih (h.lay n t)
  exact hfix l (((hr.lay n y).lay n x).trans (Xjn n r y x))
 | trans h1 h2 ih1 ih2=>exact fun hr=>(ih1 hr).trans (ih2 (Zq.refl _))
theorem Zq.relay {r' r:List (List Tm)} (h:Zq r' r) (n i:Nat):Zq (Proofs.YtogckmommodmhaaGreatDoor.relay n r' i) (Proofs.YtogckmommodmhaaGreatDoor.relay n r i):=Zq.lays (h.2 i) (h.set i (List.Perm.refl _))
theorem Zq.step {n:Nat}:∀ (f L:Nat) {r' r:List (List Tm)},Zq r' r→Zq (Zx n f L r') (Zx n f L r)
 | 0,_,_,_,h=>h
 | f + 1,L,r',r,h=>by
  unfold Zx
  split
  ·exact Zq.step f (L + 1) (h.relay _ _)
  ·exact h
theorem Qvl:∀ {r' r:List (List Tm)},r'.length=r.length→(∀ i,(r'.getD i []).Perm (r.getD i []))→r'.flatten.Perm r.flatten
 | [],[],_,_=>List.Perm.refl _
 | a::r',b::r,hl,h=>by
  have h0:=h 0
  simp only[List.getD_cons_zero]at h0
  simp only[List.flatten_cons]
  exact h0.append (Qvl (by simpa using hl) fun i=>by have:=h (i + 1);simpa only[List.getD_cons_succ] using this)
theorem RI.sim {P:Nat→Nat→Prop} {r' r:List (List Tm)} {D:List Tm} (h:RI P r D) (hs:Zq r' r):RI P r' D :=
 ⟨hs.1.trans h.len,(Qvl hs.1 hs.2).trans h.perm,fun i hi t ht=>h.pl i hi t ((hs.2 i).mem_iff.1 ht)⟩
theorem Qyy:∀ (l D:List Tm),Qad l D=D.filter fun t=>l.all fun x=>!(t.id == x.id)
 | [],D=>(List.filter_eq_self.2 fun t _=>by simp).symm
 | a::l,D=>by
  have e:Qad (a::l) D=Qad l (Xv a.id D):=rfl
  rw[e,Qyy l]
  unfold Xv
  rw[List.filter_filter]
  refine List.filter_congr fun t _=>?_
  rw[List.all_cons,Bool.and_comm]
def Xp (n:Nat) (D:List Tm):List Tm:=D.filter fun t=>!(t.due == n)
theorem Xp8 {D:List Tm} (hd:D.Pairwise fun a b=>a.id≠b.id) {a b:Tm} (ha:a ∈ D) (hb:b ∈ D) (e:a.id=b.id):a=b:=by
 induction D with
 | nil=>cases ha
 | cons x D ih =>
  have h1:=List.Pairwise.of_cons hd
  have h2:=fun y hy=>List.rel_of_pairwise_cons hd (a':=y) hy
  rcases List.mem_cons.1 ha with h3|h3<;>rcases List.mem_cons.1 hb with h4|h4
  ·rw[h3,h4]
  ·rw[h3]at e;exact absurd e (h2 b h4)
  ·rw[h4]at e;exact absurd e.symm (h2 a h3)
  ·exact ih h1 h3 h4
theorem Xnc {D l:List Tm} {n:Nat} (hd:D.Pairwise fun a b=>a.id≠b.id) (hl:l.Perm (D.filter fun t=>t.due == n)):Qad l D=Xp n D:=by
 rw[Qyy]
 unfold Xp
 refine List.filter_congr fun t ht=>?_
 have hmem:∀ x,x ∈ l ↔ x ∈ D∧x.due=n:=fun x=>by rw[hl.mem_iff,List.mem_filter];simp
 cases h:t.due == n with
 | true =>
  have hin:t ∈ l:=(hmem t).2 ⟨ht,by simpa using h⟩
  simp only[Bool.not_true]
  rw[← Bool.not_eq_true,List.all_eq_true]
  intro hall
  have:=hall t hin
  simp at this
 | false =>
  simp only[Bool.not_false]
  rw[List.all_eq_true]
  intro x hx
  obtain ⟨h1,h2⟩:=(hmem x).1 hx
  have:t.id≠x.id:=fun e=>by
   have:=Xp8 hd ht h1 e
   subst this
   simp[h2]at h
  simpa using this
def Qbb:Nat→Nat→List (List Tm)→List Tm→Nat→List (List Tm) × List Tm
 | 0,_,rows,D,_=>(rows,D)
 | f + 1,n,rows,D,to =>
  if n=to then (rows.set (n % 16) [],Xp n D)
  else if 4096 < to - n∨(Xp n D).length=0 then Qbb f (Jx (Xp n D) to) ((Xp n D).foldl (Xb (Jx (Xp n D) to)) (List.replicate 65 [])) (Xp n D) to
  else Qbb f (n + 1) (Zx (n + 1) 4 1 (rows.set (n % 16) [])) (Xp n D) to
structure WG (n:Nat) (rows:List (List Tm)) (D:List Tm):Prop where
 ri:RI (Pl n) rows D
 lo:∀ t ∈ D,n≤t.due
 hi:∀ t ∈ D,t.due≤1099511627776
 dis:D.Pairwise fun a b=>a.id≠b.id
 len:D.length≤100000
theorem Qa7 {n:Nat} {D:List Tm}:(Xp n D).Sublist D:=List.filter_sublist
theorem Qcj {n:Nat} {D:List Tm} (h:∀ t ∈ D,n≤t.due):∀ t ∈ Xp n D,n < t.due:=fun t ht=>by
 obtain ⟨h1,h2⟩:=List.mem_filter.1 ht
 have:=h t h1
 have:t.due≠n:=by simpa using h2
 omega
theorem WG.fired {n:Nat} {rows:List (List Tm)} {D:List Tm} (h:WG n rows D):RI (Pl n) (rows.set (n % 16) []) (Xp n D):=h.ri.now_row.2
theorem WG.leap {n m:Nat} {rows:List (List Tm)} {D:List Tm} (h:WG n rows D) (hm:∀ t ∈ Xp n D,m≤t.due):WG m ((Xp n D).foldl (Xb m) (List.replicate 65 [])) (Xp n D) :=
 ⟨RI.anew (List.Perm.refl _) hm,hm,fun t ht=>h.hi t (Qa7.subset ht),h.dis.sublist Qa7,Nat.le_trans Qa7.length_le h.len⟩
theorem WG.tick {n:Nat} {rows:List (List Tm)} {D:List Tm} (h:WG n rows D):WG (n + 1) (Zx (n + 1) 4 1 (rows.set (n % 16) [])) (Xp n D) :=
 ⟨h.fired.tick (Qcj h.lo),Qcj h.lo,fun t ht=>h.hi t (Qa7.subset ht),h.dis.sublist Qa7,Nat.le_trans Qa7.length_le h.len⟩
theorem Qfr (D0:List Tm) (n m:Nat) (hnm:n < m) (h:∀ t ∈ D0,n < t.due→m≤t.due):Xp n (D0.filter fun t=>decide (n≤t.due))=D0.filter fun t=>decide (m≤t.due):=by
 unfold Xp
 rw[List.filter_filter]
 refine List.filter_congr fun t ht=>?_
 have:=h t ht
 rw[Bool.eq_iff_iff]
 simp only[Bool.and_eq_true,Bool.not_eq_true',beq_eq_false_iff_ne,ne_eq,decide_eq_true_eq]
 omega
theorem Qtk (D0:List Tm):∀ (f n:Nat) (rows:List (List Tm)) (D:List Tm) (to:Nat),n≤to→to - n < f→WG n rows D→D=D0.filter (fun t=>decide (n≤t.due))→(Qbb f n rows D to).2=D0.filter (fun t=>decide (to < t.due))∧RI (Pl to) (Qbb f n rows D to).1 (Qbb f n rows D to).2
 | 0,_,_,_,_,_,h,_,_=>by omega
 | f + 1,n,rows,D,to,hn,hf,hw,hD=>by
  unfold Qbb
  have hkn:∀ m,n < m→(∀ t ∈ Xp n D,m≤t.due)→Xp n D=D0.filter fun t=>decide (m≤t.due):=fun m hm hk=>by
   rw[hD]
   refine Qfr D0 n m hm fun t ht hlt=>?_
   refine hk t ?_
   rw[hD]
   exact List.mem_filter.2 ⟨List.mem_filter.2 ⟨ht,by simpa using Nat.le_of_lt hlt⟩,by simp;omega⟩
  split
  ·rename_i e
   subst e
   exact ⟨hkn (n + 1) Zom (Qcj hw.lo),hw.fired⟩
  ·rename_i hne
   split
   ·obtain ⟨h1,h2,h3⟩:=Qdc (Xp n D) to
    have hlt:n < Jx (Xp n D) to:=by
     rcases h3 with h3|⟨t,ht,h3⟩
     ·omega
     ·have:=Qcj hw.lo t ht;omega
    exact Qtk D0 f _ _ _ to h1 Zom (hw.leap h2) (hkn _ hlt h2)
   ·exact Qtk D0 f (n + 1) _ _ to Zom Zom hw.tick (hkn (n + 1) Zom (Qcj hw.lo))
theorem Qg7:∀ (f f' n:Nat) (rows:List (List Tm)) (D:List Tm) (to:Nat),n≤to→(∀ t ∈ D,n≤t.due)→to - n < f→to - n < f'→Qbb f n rows D to=Qbb f' n rows D to
 | 0,_,_,_,_,_,_,_,h,_=>by omega
 | _ + 1,0,_,_,_,_,_,_,_,h=>by omega
 | f + 1,f' + 1,n,rows,D,to,hn,hlo,h1,h2=>by
  unfold Qbb
  split
  ·rfl
  ·rename_i hne
   have hk:=Qcj hlo
   split
   ·obtain ⟨g1,g2,g3⟩:=Qdc (Xp n D) to
    have hlt:n < Jx (Xp n D) to:=by
     rcases g3 with g3|⟨t,ht,g3⟩
     ·omega
     ·have:=hk t ht;omega
    exact Qg7 f f' _ _ _ to g1 g2 Zom Zom
   ·exact Qg7 f f' (n + 1) _ _ to Zom hk Zom Zom
theorem To.off1 {p:List Nat} {s:St} {T:WT} {i k:Nat} {l:List Tm} {t':List (Nat × AV)} {x:Bk} (hT:T.wf) (hi:i < 65) (hl:T.row i=l) (h0:Qb s.h s.n 0=.cells (T.cells.set (i + 1) .nils)) (hs:∀ b,b≠0→b < 67→Qb s.h s.n b=Qb T.h 67 b)
  (hf:s.fs.H s.n=.free) (hn:68≤s.n) (hk:look s.t k=.sl 2 (2 + i) 0 l.length l.length) (hp:∀ b,b ∈ p→b < 2) (hx:Qb s.h s.n 67=x) (hxn:nmB 0 x) (ht:Qw (Kb i s.n) 68 ((k,.isl l.length (tms l))::s.t) t'):To p s ⟨t',(67,x)::(T.put i []).h,68⟩:=by
 have hrl:=hT.len
 have hcl:=WT.len hT
 refine To.trans (To.nilB (b:=0) (j:=i + 1) (es:=2) h0 (by rw[List.getElem?_set_self Zom]) hf) ?_
 rw[List.set_set]
 have hrow:Qb s.h (s.n + 1) (2 + i)=.cells (tms l):=by
  rw[Kn _ _ _ Zom,hs _ Zom Zom,WT.lookh,if_neg Zom,if_neg Zom,if_pos Zom,show 2 + i - 2=i by omega,hl]
 refine To.trans (To.frz (b:=2 + i) (i:=k) (cs:=tms l) (es:=2) (off:=0) (n:=l.length) (k:=l.length) ?_ hk) ?_
 ·show Qb ((0,_)::(s.n,_)::s.h) (s.n + 1) (2 + i)=_
  rw[Qc,if_neg Zom,Qc,if_neg Zom];exact hrow
 have htk:((tms l).drop 0).take (l.length * 2)=tms l:=by rw[List.drop_zero,List.take_of_length_le (by rw[Zf];omega)]
 rw[htk]
 have hr67:Kb i s.n 67=67:=by unfold Kb;rw[if_neg Zom]
 refine To.put (ex:=[(67,x)]) hT hi (N:=s.n) Zom Zom (fun b hb=>by have:=hp b hb;omega) hn ?_ ?_ ?_ (fun j hj hne=>?_) ht ⟨⟨by show 67 < 68;omega,Qc7 (Nat.zero_le _) hxn,?_,trivial⟩,trivial⟩ (fun q hq=>by obtain rfl:=List.mem_singleton.1 hq;exact Nat.le_refl 67)
 ·show Qb ((2 + i,_)::(0,_)::(s.n,_)::s.h) (s.n + 1) 0=_
  rw[Qc,if_neg Zom,Qc,if_pos rfl];rfl
 ·show Qb ((2 + i,_)::(0,_)::(s.n,_)::s.h) (s.n + 1) 1=_
  rw[Qc,if_neg Zom,Qc,if_neg Zom,Qc,if_neg Zom,Kn _ _ _ Zom,hs 1 Zom Zom,WT.lookh,if_neg Zom,if_pos rfl]
 ·show Qb ((2 + i,_)::(0,_)::(s.n,_)::s.h) (s.n + 1) s.n=_
  rw[Qc,if_neg Zom,Qc,if_neg Zom,Qc,if_pos rfl];rfl
 ·show Qb ((2 + i,_)::(0,_)::(s.n,_)::s.h) (s.n + 1) (2 + j)=_
  rw[Qc,if_neg Zom,Qc,if_neg Zom,Qc,if_neg Zom,Kn _ _ _ Zom,hs _ Zom Zom,WT.lookh,if_neg Zom,if_neg Zom,if_pos Zom,show 2 + j - 2=j by omega]
 ·show Qb ((2 + i,_)::(0,_)::(s.n,_)::s.h) (s.n + 1) (Kb i s.n 67)=_
  rw[hr67,Qc,if_neg Zom,Qc,if_neg Zom,Qc,if_neg Zom,Kn _ _ _ Zom,hx]
  exact (Qgm (fun b hb=>by omega) hxn).symm
theorem WT.l0 (T:WT) (n:Nat):Qb T.h n 0=.cells T.cells:=by rw[WT.lookh,if_pos rfl]
theorem WT.l1 (T:WT) (n:Nat):Qb T.h n 1=T.mb:=by rw[WT.lookh,if_neg (by omega),if_pos rfl]
theorem Un (n:Nat) (l:List Int):nmAll n (Qp l)=True:=by simp[Xi,Qp,Qe]
theorem Qss (D:List Tm) (n:Nat):(outT D n).length≤D.length:=by
 unfold outT
 rw[List.length_map,(Ky _).length_eq]
 exact List.length_filter_le _ _
theorem Xyj {T':WT} {n:Nat} {rows:List (List Tm)} {mb:Bk} (h1:T'.now=n) (h2:Zq T'.rows rows) (h3:T'.mb=mb):T'.sim { now:=n,rows:=rows,mb:=mb }:=⟨h1,h3,h2.1,h2.2⟩
set_option maxHeartbeats 4000000 in
set_option maxRecDepth 20000 in
theorem Xvs (gl:Nat→AV) (T:WT) (rows0:List (List Tm)) (D0:List Tm) (dn:Bool) (hrs:Zq T.rows rows0) (hmb:T.mb=.mapb (kvT D0) dn) (hW:WG T.now rows0 D0) (to:Nat) (hto:T.now≤to) (hto2:to≤1099511627776) :
  GQ Tryz.prog gl 98 [.ptr 0 0,.int .i64 to] T.h 67 [0,1] (fun T':WT=>T'.sim { now:=to,rows:=(Qbb (to - T.now + 1) T.now rows0 D0 to).1,mb:=.mapb (kvT (Qbb (to - T.now + 1) T.now rows0 D0 to).2) false })
   (fun _=>.tup [.isl (outT D0 (to + 1)).length (Qp (outT D0 (to + 1))),.int .i64 0]) WT.h:=by
 have hlen:T.rows.length=65:=hrs.1.trans hW.ri.len
 have hT:=Qab hlen hmb
 refine Qof.gq (of_decide_eq_true rfl) (fun q hq=>Xe (((WT.HL hT).mem q hq).2)) Zsi fun c hgh hg=>?_
 conv in tcO _ _=>cbv
 have hHi:=WT.hHi hT
 have hL0:=WT.l0 T
 have g0:=WT.get0 T
 have hcl:=WT.len hT
 generalize hfin:Qbb (to - T.now + 1) T.now rows0 D0 to=fin
 refine Qd ?_
 (refine Qa (fun h1=>?_) (fun h1=>?_)<;>try exact h1.elim)
 refine Qg (An @hL0 @g0) ?_
 (refine Qa (fun h2=>?_) (fun h2=>?_)<;>try exact h2.elim)
 ·omega
 refine Qd ?_
 refine Qdv 6 1 rfl (by exact Qq @hHi) ?_
 unfold St.named
 refine Yj (fun y:WT × List (List Tm) × List Tm × Bool=>Zq y.1.rows y.2.1∧y.1.mb=.mapb (kvT y.2.2.1) y.2.2.2∧WG y.1.now y.2.1 y.2.2.1∧y.1.now≤to∧T.now≤y.1.now∧Qbb (to - y.1.now + 1) y.1.now y.2.1 y.2.2.1 to=fin∧y.2.2.1=D0.filter fun t=>decide (y.1.now≤t.due))
  (fun y=>⟨[(0,.ptr 0 0),(1,.int .i64 to),(6,.sl 1 67 0 (outT D0 y.1.now).length (outT D0 y.1.now).length)],(67,.cells (Qp (outT D0 y.1.now)))::y.1.h,68⟩) (fun y=>to - y.1.now) Qof.mixed [0,1] hgh
  ⟨(T,rows0,D0,dn),⟨hrs,hmb,hW,hto,Nat.le_refl _,hfin,(List.filter_eq_self.2 fun t ht=>by simpa using hW.lo t ht).symm⟩,?_⟩ fun y hy=>?_
 ·have e:outT D0 T.now=[]:=Xjf D0 _ hW.lo
  dsimp only
  rw[e]
  exact To.sel (by exact Qs) fun b=>rfl
 obtain ⟨T1,rows,D,dn1⟩:=y
 obtain ⟨hs1,hm1,hW1,hnt,hTn,hf1,hD1⟩:=hy
 dsimp only at hs1 hm1 hW1 hnt hTn hf1 hD1 ⊢
 have hlen1:T1.rows.length=65:=hs1.1.trans hW1.ri.len
 have hT1:=Qab hlen1 hm1
 have hHi1:=WT.hHi hT1
 have hL01:=WT.l0 T1
 have g01:=WT.get0 T1
 have hcl1:=WT.len hT1
 have hsp:T1.now % 16 < 16:=Nat.mod_lt _ Zom
 have hm:Int.tmod (T1.now:Int) 16=((T1.now % 16:Nat):Int):=Qbt _ 16
 have hget:=WT.getI hT1 (i:=T1.now % 16) Zom
 have hri1:=hW1.ri.sim hs1
 have hrowp:(T1.row (T1.now % 16)).Perm (D.filter fun t=>t.due == T1.now):=(hri1.now_row).1
 have hoff:=Xnc hW1.dis hrowp
 have hrl:(T1.row (T1.now % 16)).length≤100000:=Nat.le_trans (hri1.row_le Zom) hW1.len
 have hout:=Xna D0 T1.now (T1.row (T1.now % 16)) (by
  rw[hD1,List.filter_filter]at hrowp
  refine hrowp.trans (List.Perm.of_eq (List.filter_congr fun t _=>?_))
  rw[Bool.eq_iff_iff];simp;omega)
 have hol:=Qss D0 T1.now
 have hol2:=Qss D0 (T1.now + 1)
 have hDl:=hW.len
 have hkeep:WT.put T1 (T1.now % 16) []={ T1 with rows:=T1.rows.set (T1.now % 16) [] }:=rfl
 have hs2:Zq (T1.rows.set (T1.now % 16) []) (rows.set (T1.now % 16) []):=hs1.set _ (List.Perm.refl _)
 have hidl:(Qex (ids (T1.row (T1.now % 16)))).length=(T1.row (T1.now % 16)).length:=by simp[Qex,ids]
 generalize hrw:T1.row (T1.now % 16)=l at *
 have hfire:=Xrj c.gl (T1.put (T1.now % 16) []) D l dn1 (by simp[WT.put,hlen1]) hm1 hW1.dis Zom
 rw[hoff]at hfire
 have hwp:=WT.put_wf hT1 (T1.now % 16) []
 rw[show T1.now % 16 + 1=1 + T1.now % 16 by omega]at hget
 refine Qg (An @hHi1 (An @hL01 (An @g01 (An @hm @hget)))) ?_
 have hD2:Xp T1.now D=D0.filter fun t=>decide (T1.now + 1≤t.due):=by
  rw[hD1];exact Qfr D0 _ _ Zom fun t _ h=>h
 have hw2:WT.wf { T1 with rows:=T1.rows.set (T1.now % 16) [],mb:=.mapb (kvT (Xp T1.now D)) false }:=⟨by simp[hlen1],Uf 2 _⟩
 have hou2:outT D0 T1.now++Qex (ids l)=outT D0 (T1.now + 1):=hout.symm
 have hout2l:(outT D0 T1.now).length + l.length=(outT D0 (T1.now + 1)).length:=by rw[← hou2,List.length_append,hidl]
 have hil1:=Xw (outT D0 T1.now)
 have hil2:=Xw (Qex (ids l))
 refine Qdf (W:=fun _:Unit=>{ T1 with rows:=T1.rows.set (T1.now % 16) [],mb:=.mapb (kvT (Xp T1.now D)) false }) hfire hwp (fun _ _=>hw2) hgh (by simp[okN]) [(0,.ptr 0 0),(1,.int .i64 to),(36,.sl 1 67 0 (outT D0 T1.now).length (outT D0 T1.now).length),(37,.ptr 0 0),(38,.isl l.length (tms l))] [(67,.cells (Qp (outT D0 T1.now)))] 68
  (To.off1 (k:=38) hT1 (i:=T1.now % 16) Zom hrw ?_ (fun b h1 h2=>?_) ?_ (by show 68≤68;omega) ?_ Zsi rfl ?_ ?_) (by simp[Qd7,okN,Qfu,Qp,nmP]) ?_ (by simp[Qe,Un]) fun _ _=>?_
 ·show Qb ((0,_)::_) 68 0=_
  rw[Qc,if_pos rfl,show 1 + T1.now % 16=T1.now % 16 + 1 by omega]
 ·show Qb ((0,_)::(67,_)::T1.h) 68 b=_
  rw[Qc,if_neg Zom,Qc,if_neg Zom,WT.lookh,WT.lookh]
  (repeat' split)<;>first|rfl|omega
 ·exact Qq @hHi1
 ·exact Qs
 ·exact Xi.2 fun x hx=>by
   obtain ⟨n,_,rfl⟩:=List.mem_map.1 hx
   simp[Qe]
 ·have h1:=Qam (Kb (T1.now % 16) 68) l
  have hll:=Qaq 68 l
  have h67:Kb (T1.now % 16) 68 67=67:=by unfold Kb;rw[if_neg Zom]
  exact Qq (An @h1 (An @hll @h67))
 ·exact Qs
 clear hfire
 generalize hT2:({ T1 with rows:=T1.rows.set (T1.now % 16) [],mb:=.mapb (kvT (Xp T1.now D)) false }:WT)=T2 at *
 have hHi2:=WT.hHi hw2
 have hL02:=WT.l0 T2
 have hL12:=WT.l1 T2
 have hm2:T2.mb=.mapb (kvT (Xp T1.now D)) false:=by rw[← hT2]
 rw[hm2]at hL12
 have hn2:T2.now=T1.now:=by rw[← hT2]
 have hr2:Zq T2.rows (rows.set (T1.now % 16) []):=by rw[← hT2];exact hs2
 have g02:=WT.get0 T2
 rw[hn2]at g02
 have g662:=WT.get66 hw2
 have hcl2:=WT.len hw2
 have hkl:=Qa5 (Xp T1.now D)
 refine Qd ?_
 refine Zr (An @hHi2 (An @hil1 (An @hil2 (An @hou2 (An @hout2l (An @hidl (An @hL02 @g02))))))) ?_
 have hfl:∀ {f:Nat},to - T1.now + 1=f + 1→Qbb (f + 1) T1.now rows D to=fin:=fun e=>by rw[← e];exact hf1
 have hf2:=hfl (f:=to - T1.now) rfl
 unfold Qbb at hf2
 (refine Qa (fun h3=>?_) (fun h3=>?_)<;>try exact h3.elim)
 ·have e:T1.now=to:=by omega
  rw[if_pos e]at hf2
  subst e
  refine Qd ?_
  refine ⟨T2,?_,(To.frz2 (b:=68) (i:=0) rfl rfl).trans (To.wdrop (ex:=[(68,.dead),(68,.cells (Qp (outT D0 (T1.now + 1)))),(67,.dead),(67,.cells (Qp (outT D0 T1.now)))]) hw2 Zsi Zsi ?_)⟩
  ·rw[← hf2];exact Xyj hn2 hr2 hm2
  ·have hcut:((Qp (outT D0 (T1.now + 1))).drop 0).take ((outT D0 (T1.now + 1)).length * 1)=Qp (outT D0 (T1.now + 1)):=by
    rw[List.drop_zero,List.take_of_length_le (by rw[Nat.mul_one];simp[Qp])]
   rw[hcut]
   have h2:∀ q,rens id (Qp q)=Qp q:=fun q=>Kd _
   exact Qq (An @Un @h2)
 have hne:¬ T1.now=to:=by omega
 rw[if_neg hne]at hf2
 have hD2l:=Nat.le_trans (Qa7 (n:=T1.now) (D:=D)).length_le hW1.len
 have hd2:∀ t ∈ Xp T1.now D,t.due≤1099511627776:=fun t ht=>hW1.hi t (Qa7.subset ht)
 have hlo2:=Qcj hW1.lo
 refine Qg (An @hL02 (An @g02 (An @hL12 (An @g662 @hkl)))) ?_
 (refine Qa (fun h4=>?_) (fun h4=>?_)<;>try exact h4.elim)
 ·rw[if_pos (by rcases h4 with h4|h4<;>omega)]at hf2
  have hleap:=Xra c.gl T2 (Xp T1.now D) false (by rw[← hT2];simp[hlen1]) hm2 hD2l hd2 to hto2
  obtain ⟨q1,q2,q3⟩:=Qdc (Xp T1.now D) to
  have hlt:T1.now < Jx (Xp T1.now D) to:=by
   rcases q3 with q3|⟨t,ht,q3⟩
   ·omega
   ·have:=hlo2 t ht;omega
  have hWl:=hW1.leap q2
  have hsk:=Xjh D0 (n:=T1.now + 1) (m:=Jx (Xp T1.now D) to) Zom fun t ht h=>q2 t (by rw[hD2];exact List.mem_filter.2 ⟨ht,by simpa using h⟩)
  have hD3:Xp T1.now D=D0.filter fun t=>decide (Jx (Xp T1.now D) to≤t.due):=by
   have:=Qfr D0 T1.now (Jx (Xp T1.now D) to) hlt fun t ht h=>q2 t (by rw[hD2];exact List.mem_filter.2 ⟨ht,decide_eq_true h⟩)
   rw[← hD1]at this;exact this
  have hwl:∀ x:WT,x.lept (Xp T1.now D) (Jx (Xp T1.now D) to)→x.wf:=fun x ⟨l,_,e⟩=>by
   subst e
   exact ⟨(RI.lays (P:=fun _ _=>True) (now:=Jx (Xp T1.now D) to) l (rows:=List.replicate 65 []) (D:=[]) ⟨by simp,by simp,fun _ _ _ _=>trivial⟩ fun _ _=>trivial).len,Uf 2 _⟩
  rw[Qg7 _ (to - Jx (Xp T1.now D) to + 1) _ _ _ to q1 q2 Zom Zom]at hf2
  refine Qd ?_
  refine Qdf (W:=fun x:WT=>x) hleap hw2 hwl hgh (by simp[okN]) [(0,.ptr 0 0),(1,.int .i64 to),(6,.sl 1 68 0 (outT D0 (T1.now + 1)).length (outT D0 (T1.now + 1)).length),(63,.ptr 0 0),(64,.int .i64 to)] [(68,.cells (Qp (outT D0 (T1.now + 1))))] 69 (To.sel (by exact Qs) fun b=>?_) (by simp[Qd7,okN,Qfu,Qp,nmP]) ?_ (by simp[Qe,nmAll]) fun T3 h3=>?_
  ·show Qb ((68,_)::T2.h) 69 b=Qb ((68,.cells (Qp (outT D0 (T1.now + 1))))::(67,.dead)::(67,.cells (Qp (outT D0 T1.now)))::T2.h) 69 b
   simp only[Qc]
   (repeat' split)<;>first|rfl|omega|(subst_vars;rw[hHi2 69 67 (by omega)];rfl)
  ·exact Qs
  obtain ⟨l3,p3,rfl⟩:=h3
  refine Qd ?_
  refine ⟨({ now:=Jx (Xp T1.now D) to,rows:=l3.foldl (Xb (Jx (Xp T1.now D) to)) (List.replicate 65 []),mb:=.mapb (kvT (Xp T1.now D)) false },(Xp T1.now D).foldl (Xb (Jx (Xp T1.now D) to)) (List.replicate 65 []),Xp T1.now D,false),⟨Zq.lays p3 (Zq.refl _),rfl,hWl,q1,by dsimp only;omega,hf2,hD3⟩,?_,by dsimp only;omega⟩
  dsimp only
  rw[hsk]
  refine To.wre (ex:=[(67,.cells (Qp (outT D0 (T1.now + 1))))]) [(67,68)] (hwl _ ⟨l3,p3,rfl⟩) Zsi Zom rfl rfl (fun b hb=>?_) ?_ ?_ Zsi
  ·show Qb ((68,_)::WT.h _) 69 b=_
   rw[Qc,if_neg Zom,WT.lookh,WT.lookh]
   (repeat' split)<;>first|rfl|omega
  ·exact Qs
  ·exact Qq @Un
 ·rw[if_neg Zom]at hf2
  have hp2:T2.rows.flatten.Perm (Xp T1.now D):=(hW1.fired.sim hr2).perm
  have hstep:=Xqt c.gl T2 (Xp T1.now D) hw2 hp2 hD2l hd2 Zom
  have hws:T2.stp.wf:=⟨((hW1.fired.sim hr2).tick hlo2 |>.len:(Zx (T1.now + 1) 4 1 T2.rows).length=65) |> fun h=>by unfold WT.stp;rw[hn2];exact h,hw2.mb⟩
  have hWt:=hW1.tick
  rw[Qg7 _ (to - (T1.now + 1) + 1) _ _ _ to Zom hlo2 Zom Zom]at hf2
  refine Qd ?_
  refine Qdf (W:=fun _:Unit=>T2.stp) hstep hw2 (fun _ _=>hws) hgh (by simp[okN]) [(0,.ptr 0 0),(1,.int .i64 to),(6,.sl 1 68 0 (outT D0 (T1.now + 1)).length (outT D0 (T1.now + 1)).length),(66,.ptr 0 0)] [(68,.cells (Qp (outT D0 (T1.now + 1))))] 69 (To.sel (by exact Qs) fun b=>?_) (by simp[Qd7,okN,Qfu,Qp,nmP]) ?_ (by simp[Qe,nmAll]) fun _ _=>?_
  ·show Qb ((68,_)::T2.h) 69 b=Qb ((68,.cells (Qp (outT D0 (T1.now + 1))))::(67,.dead)::(67,.cells (Qp (outT D0 T1.now)))::T2.h) 69 b
   simp only[Qc]
   (repeat' split)<;>first|rfl|omega|(subst_vars;rw[hHi2 69 67 (by omega)];rfl)
  ·exact Qs
  refine Qd ?_
  have hsn:T2.stp.now=T1.now + 1:=by unfold WT.stp;rw[hn2]
  refine ⟨(T2.stp,Zx (T1.now + 1) 4 1 (rows.set (T1.now % 16) []),Xp T1.now D,false),⟨?_,hm2,by dsimp only;rw[hsn];exact hWt,by dsimp only;omega,by dsimp only;omega,by dsimp only;rw[hsn];exact hf2,by dsimp only;rw[hsn];exact hD2⟩,?_,by dsimp only;omega⟩
  ·show Zq (Zx (T2.now + 1) 4 1 T2.rows) _
   rw[hn2];exact hr2.step 4 1
  dsimp only
  rw[hsn]
  refine To.wre (ex:=[(67,.cells (Qp (outT D0 (T1.now + 1))))]) [(67,68)] hws Zsi Zom rfl rfl (fun b hb=>?_) ?_ ?_ Zsi
  ·show Qb ((68,_)::WT.h _) 69 b=_
   rw[Qc,if_neg Zom,WT.lookh,WT.lookh]
   (repeat' split)<;>first|rfl|omega
  ·exact Qs
  ·exact Qq @Un
set_option maxHeartbeats 2000000 in
theorem Qu3 (gl:Nat→AV) (T:WT) (D:List Tm) (dn:Bool) (hlen:T.rows.length=65) (hmb:T.mb=.mapb (kvT D) dn) (x:Int) (hx:Qa4 D x=false) :
  GQ Tryz.prog gl 164 [.ptr 0 0,.int .i64 x] T.h 67 [0,1] (fun _:Unit=>True) (fun _=>.int .i64 7) (fun _=>T.h):=by
 have hT:=Qab hlen hmb
 refine Qey.gq (of_decide_eq_true rfl) (fun q hq=>Xe (((WT.HL hT).mem q hq).2)) Zsi fun c hgh hg=>?_
 conv in tcO _ _=>cbv
 have hHi:=WT.hHi hT
 have hL0:=WT.l0 T
 have hL1:=WT.l1 T
 rw[hmb]at hL1
 have h66:=WT.get66 hT
 have hcl:=WT.len hT
 have hks:=Qe0 D
 have hki:=Uo x
 have hha:=Qhp D x
 have hga:=Qhr D x
 refine Qg @hHi ?_
 (refine Qa (fun h1=>?_) (fun h1=>?_)<;>try exact h1.elim)
 refine Qg (An @hHi (An @hL0 @h66)) ?_
 ((first|refine Qa3 mtD ?_|refine Ub mtD ?_);(have zf1:=@hHi;have zf2:=@hL1;have zf3:=@hks;have zf4:=@hki;have zf5:=@hga;have zf6:=@hha;have zf7:=@hx;refine XG ?_;clear zf1 zf2 zf3 zf4 zf5 zf6 zf7;((try (repeat' with_reducible refine And.intro ?_ ?_));(try any_goals (first|refine zm ?_|exact CL|fail)))))
 (refine Qa (fun h2=>?_) (fun h2=>?_)<;>try exact h2.elim)
 refine Qd ?_
 refine ⟨(),To.wdrop (ex:=[(67,.cells [.int .i64 x])]) hT Zsi Zsi (by simp[Qw,Qe,look,ren])⟩
set_option maxHeartbeats 1000000 in
theorem Xtq (gl:Nat→AV) (T:WT) (hT:T.wf):GQ Tryz.prog gl 63 [.ptr 0 0] T.h 67 (List.range 67) (fun _:Unit=>True) (fun _=>.int .i64 T.now) (fun _=>T.h):=by
 refine Xvq.gq (of_decide_eq_true rfl) (fun q hq=>Xe (((WT.HL hT).mem q hq).2)) (fun b hb=>List.mem_range.1 hb) fun c hgh hg=>?_
 conv in tcO _ _=>cbv
 have hL0:=WT.l0 T
 have g0:=WT.get0 T
 have hcl:=WT.len hT
 refine Qd ?_
 (refine Qa (fun h1=>?_) (fun h1=>?_)<;>try exact h1.elim)
 refine Qg (An @hL0 @g0) ?_
 exact ⟨(),To.wdrop (ex:=[]) hT (fun b hb=>List.mem_range.1 hb) Zsi (by simp[Qw,Qe,look,ren])⟩
def Wm (D:List Tm) (x:Int) (d:Nat):List Tm:=Xv x D++[⟨x,d⟩]
def WT.arm (T:WT) (D:List Tm) (x:Int) (d:Nat):WT:={ T with rows:=Xb T.now (T.rows.map (Xv x)) ⟨x,d⟩,mb:=.mapb (kvT (Wm D x d)) false }
theorem Xbg {D:List Tm} {x:Int} (h:Qa4 D x=false):∀ t ∈ D,t.id≠x:=fun t ht e=>by
 unfold Qa4 at h
 rw[List.any_eq_false]at h
 exact h t ht (by simpa using e)
theorem Qzd {D:List Tm} {x:Int}:∀ t ∈ Xv x D,t.id≠x:=fun t ht=>by simpa using (List.mem_filter.1 ht).2
theorem Qth {rows:List (List Tm)} {x:Int} (h:∀ t ∈ rows.flatten,t.id≠x):rows.map (Xv x)=rows:=by
 refine (List.map_congr_left fun r hr=>?_).trans (List.map_id rows)
 exact Qii fun t ht=>h t (List.mem_flatten.2 ⟨r,hr,ht⟩)
def WT.cnl (T:WT) (D:List Tm) (dn:Bool) (x:Int):WT:={ T with rows:=T.rows.map (Xv x),mb:=.mapb (kvT (Xv x D)) (!Qa4 D x && dn) }
def Xqr (D:List Tm) (x:Int):Int:=bif Qa4 D x then 0 else 7
theorem Qyc (gl:Nat→AV) (T:WT) (D:List Tm) (dn:Bool) (hlen:T.rows.length=65) (hmb:T.mb=.mapb (kvT D) dn) (hd:D.Pairwise fun a b=>a.id≠b.id) (hp:T.rows.flatten.Perm D) (hrl:∀ i,(T.row i).length≤1000000) (x:Int) :
  GQ Tryz.prog gl 164 [.ptr 0 0,.int .i64 x] T.h 67 [0,1] (fun _:Unit=>True) (fun _=>.int .i64 (Xqr D x)) (fun _=>(T.cnl D dn x).h):=by
 cases hx:Qa4 D x with
 | true =>
  have:=Xco gl T D dn hlen hmb hd hrl x hx
  unfold WT.cnl Xqr
  rw[hx];exact this
 | false =>
  have:=Qu3 gl T D dn hlen hmb x hx
  have hno:=Xbg hx
  have e:T.cnl D dn x=T:=by
   unfold WT.cnl
   rw[hx,Qth fun t ht=>hno t (hp.mem_iff.1 ht),Qii hno]
   show ({ T with mb:=.mapb (kvT D) dn }:WT)=T
   rw[← hmb]
  rw[e]
  unfold Xqr
  rw[hx];exact this
set_option maxHeartbeats 2000000 in
theorem Xv8 (gl:Nat→AV) (T:WT) (D:List Tm) (dn:Bool) (hlen:T.rows.length=65) (hmb:T.mb=.mapb (kvT D) dn) (hd:D.Pairwise fun a b=>a.id≠b.id) (hp:T.rows.flatten.Perm D) (hD:D.length≤100000) (hn:T.now≤1099511627776) (x:Int) (d:Nat) (hdm:d≤1099511627776) (hfull:Qa4 D x=true∨D.length < 400) :
  GQ Tryz.prog gl 131 [.ptr 0 0,.int .i64 x,.int .i64 d] T.h 67 [0,1] (fun _:Unit=>True) (fun _=>.int .i64 0) (fun _=>(T.arm D x (max d T.now)).h):=by
 have hT:=Qab hlen hmb
 refine Qpd.gq (of_decide_eq_true rfl) (fun q hq=>Xe (((WT.HL hT).mem q hq).2)) Zsi fun c hgh hg=>?_
 conv in tcO _ _=>cbv
 have hHi:=WT.hHi hT
 have hL0:=WT.l0 T
 have hL1:=WT.l1 T
 rw[hmb]at hL1
 have h66:=WT.get66 hT
 have hcl:=WT.len hT
 have hks:=Qe0 D
 have hki:=Uo x
 have hha:=Qhp D x
 have hga:=Qhr D x
 have hkl:=Qa5 D
 have hri:RI (fun _ _=>True) T.rows D:=RI.T hlen hp
 have hrl:∀ i,(T.row i).length≤1000000:=fun i=>by
  by_cases hi:i < 65
  ·exact Nat.le_trans (hri.row_le hi) Zom
  ·have:T.row i=[]:=by unfold WT.row;simp[List.getD,hlen,show 65≤i by omega]
   rw[this];simp
 refine Qd ?_
 (refine Qa (fun h1=>?_) (fun h1=>?_)<;>try exact h1.elim)
 refine Qd ?_
 (refine Qa (fun h2=>?_) (fun h2=>?_)<;>try exact h2.elim)
 ·omega
 refine Qg (An @hL0 @h66) ?_
 ((first|refine Qa3 mtD ?_|refine Ub mtD ?_);(have zf1:=@hL1;have zf2:=@hks;have zf3:=@hki;have zf4:=@hga;have zf5:=@hha;have zf6:=@hL0;have zf7:=@h66;have zf8:=@hkl;refine XG ?_;clear zf1 zf2 zf3 zf4 zf5 zf6 zf7 zf8;((try (repeat' with_reducible refine And.intro ?_ ?_));(try any_goals (first|refine zm ?_|exact CL|fail)))))
 (refine Qa (fun h3=>?_) (fun h3=>?_)<;>try exact h3.elim)
 ·rcases hfull with h|h
  ·rw[h]at h3;simp at h3
  ·omega
 refine Qd ?_
 have hcn:=Qyc c.gl T D dn hlen hmb hd hp hrl x
 have hw1:(T.cnl D dn x).wf:=⟨by simp[WT.cnl,hlen],Uf 2 _⟩
 have hm1:(T.cnl D dn x).mb=.mapb (kvT (Xv x D)) (!Qa4 D x && dn):=rfl
 have hn1:(T.cnl D dn x).now=T.now:=rfl
 have hri1:=hri.filter fun t=>!(t.id == x)
 have hrl1:∀ i,i < 65→((T.cnl D dn x).row i).length≤1000000:=fun i hi=>by
  have:=hri1.row_le hi
  have h2:=List.length_filter_le (fun t:Tm=>!(t.id == x)) D
  exact Nat.le_trans this Zom
 have harm:∀ m,WT.lay { T.cnl D dn x with mb:=.mapb (kvT (Wm D x m)) false } ⟨x,m⟩=T.arm D x m:=fun m=>rfl
 refine Qdf (W:=fun _:Unit=>T.cnl D dn x) hcn hT (fun _ _=>hw1) hgh (by simp[okN]) [(36,.ptr 0 0),(37,.int .i64 x),(0,.ptr 0 0),(1,.int .i64 x),(2,.int .i64 d)] [] 67 (To.sel (by exact Qs) fun b=>rfl) Zsi ?_ (by simp[Qe]) fun _ _=>?_
 ·exact Qs
 generalize hT1:T.cnl D dn x=T1 at *
 have hL01:=WT.l0 T1
 have hL11:=WT.l1 T1
 rw[hm1]at hL11
 have g01:=WT.get0 T1
 rw[hn1]at g01
 have g661:=WT.get66 hw1
 have hcl1:=WT.len hw1
 have hks1:=Qe0 (Xv x D)
 obtain ⟨M,hM,hMv,hgt⟩:∃ M,max d T.now=M∧M≤1099511627776∧((((T.now:Int) > (d:Int))=True∧M=T.now)∨(((T.now:Int) > (d:Int))=False∧M=d)):=⟨_,rfl,by omega,by
  by_cases h:d < T.now
  ·left;exact ⟨eq_true Zom,by omega⟩
  ·right;exact ⟨eq_false Zom,by omega⟩⟩
 rw[hM]
 have hup:=Xqv (Qzd (D:=D) (x:=x)) M
 have hmaxle:=hMv
 rcases hgt with ⟨hgt,hMe⟩|⟨hgt,hMe⟩
 ·have g01:T1.cells.getD 0 .any=.int .i64 (M:Int):=by rw[g01,hMe]
  rw[← hMe]at hgt
  refine Qg (An @hL01 (An @g01 (An @g661 @hgt))) ?_
  ((first|refine Qja mtD ?_|refine Qh8 mtD ?_);(have zf1:=@hL11;have zf2:=@hks1;have zf3:=@hki;have zf4:=@hup;refine XG ?_;clear zf1 zf2 zf3 zf4;((try (repeat' with_reducible refine And.intro ?_ ?_));(try any_goals (first|refine zm ?_|exact CL|fail)))))
  have hw2:WT.wf { T1 with mb:=.mapb (kvT (Wm D x M)) false }:=⟨hw1.len,Uf 2 _⟩
  have hlay:=Qdt c.gl { T1 with mb:=.mapb (kvT (Wm D x M)) false } hw2 ⟨x,M⟩ (by show T1.now≤_;omega) hmaxle (hrl1 _ (Qa9 _ _))
  rw[harm]at hlay
  have hwa:(T.arm D x M).wf:=⟨by simp[WT.arm,Xb,hlen],Uf 2 _⟩
  refine Qdf (W:=fun _:Unit=>T.arm D x M) hlay hw2 (fun _ _=>hwa) hgh (by simp[okN]) [(51,.ptr 0 0),(54,.agg [.int .i64 x,.int .i64 (M:Int)])] [] 67 (To.trans (To.noDense (b:=1) (kvs:=kvT (Wm D x M)) (dn:=!Qa4 D x && dn) rfl) (To.sel (by exact Qs) fun b=>?_)) Zsi ?_ (by simp[Qe,nmAll]) fun _ _=>?_
  ·have hce:WT.cells { T1 with mb:=.mapb (kvT (Wm D x M)) false }=T1.cells:=rfl
   show Qb (WT.h { T1 with mb:=.mapb (kvT (Wm D x M)) false }) 67 b=Qb ((1,.mapb (kvT (Wm D x M)) false)::(1,_)::T1.h) 67 b
   simp only[Qc,WT.lookh,hce]
   (repeat' split)<;>first|rfl|omega
  ·exact Qs
  refine Qd ?_
  exact ⟨(),To.wdrop (ex:=[]) hwa Zsi Zsi (by simp[Qw,Qe,look,ren])⟩
 ·subst hMe
  refine Qg (An @hL01 (An @g01 (An @g661 @hgt))) ?_
  ((first|refine Qja mtD ?_|refine Qh8 mtD ?_);(have zf1:=@hL11;have zf2:=@hks1;have zf3:=@hki;have zf4:=@hup;refine XG ?_;clear zf1 zf2 zf3 zf4;((try (repeat' with_reducible refine And.intro ?_ ?_));(try any_goals (first|refine zm ?_|exact CL|fail)))))
  have hw2:WT.wf { T1 with mb:=.mapb (kvT (Wm D x M)) false }:=⟨hw1.len,Uf 2 _⟩
  have hlay:=Qdt c.gl { T1 with mb:=.mapb (kvT (Wm D x M)) false } hw2 ⟨x,M⟩ (by show T1.now≤_;omega) hmaxle (hrl1 _ (Qa9 _ _))
  rw[harm]at hlay
  have hwa:(T.arm D x M).wf:=⟨by simp[WT.arm,Xb,hlen],Uf 2 _⟩
  refine Qdf (W:=fun _:Unit=>T.arm D x M) hlay hw2 (fun _ _=>hwa) hgh (by simp[okN]) [(51,.ptr 0 0),(54,.agg [.int .i64 x,.int .i64 (M:Int)])] [] 67 (To.trans (To.noDense (b:=1) (kvs:=kvT (Wm D x M)) (dn:=!Qa4 D x && dn) rfl) (To.sel (by exact Qs) fun b=>?_)) Zsi ?_ (by simp[Qe,nmAll]) fun _ _=>?_
  ·have hce:WT.cells { T1 with mb:=.mapb (kvT (Wm D x M)) false }=T1.cells:=rfl
   show Qb (WT.h { T1 with mb:=.mapb (kvT (Wm D x M)) false }) 67 b=Qb ((1,.mapb (kvT (Wm D x M)) false)::(1,_)::T1.h) 67 b
   simp only[Qc,WT.lookh,hce]
   (repeat' split)<;>first|rfl|omega
  ·exact Qs
  refine Qd ?_
  exact ⟨(),To.wdrop (ex:=[]) hwa Zsi Zsi (by simp[Qw,Qe,look,ren])⟩
set_option maxHeartbeats 1000000 in
theorem Xd6 (gl:Nat→AV) (T:WT) (hT:T.wf) (x d:Int) (hd:d < 0∨1099511627776 < d):GQ Tryz.prog gl 131 [.ptr 0 0,.int .i64 x,.int .i64 d] T.h 67 [0,1] (fun _:Unit=>True) (fun _=>.int .i64 2) (fun _=>T.h):=by
 refine Qpd.gq (of_decide_eq_true rfl) (fun q hq=>Xe (((WT.HL hT).mem q hq).2)) Zsi fun c hgh hg=>?_
 conv in tcO _ _=>cbv
 refine Qd ?_
 (refine Qa (fun h1=>?_) (fun h1=>?_)<;>try exact h1.elim)
 refine Qd ?_
 (refine Qa (fun h2=>?_) (fun h2=>?_)<;>try exact h2.elim)
 ·refine Qd ?_
  exact ⟨(),To.wdrop (ex:=[]) hT Zsi Zsi (by simp[Qw,Qe,look,ren])⟩
 ·omega
set_option maxHeartbeats 1000000 in
theorem Xjl (gl:Nat→AV) (T:WT) (D:List Tm) (dn:Bool) (hlen:T.rows.length=65) (hmb:T.mb=.mapb (kvT D) dn) (x d:Int) (hd:0≤d) (hdm:d≤1099511627776) (hx:Qa4 D x=false) (hD:400≤D.length):GQ Tryz.prog gl 131 [.ptr 0 0,.int .i64 x,.int .i64 d] T.h 67 [0,1] (fun _:Unit=>True) (fun _=>.int .i64 6) (fun _=>T.h):=by
 have hT:=Qab hlen hmb
 refine Qpd.gq (of_decide_eq_true rfl) (fun q hq=>Xe (((WT.HL hT).mem q hq).2)) Zsi fun c hgh hg=>?_
 conv in tcO _ _=>cbv
 have hL0:=WT.l0 T
 have hL1:=WT.l1 T
 rw[hmb]at hL1
 have h66:=WT.get66 hT
 have hcl:=WT.len hT
 have hks:=Qe0 D
 have hki:=Uo x
 have hha:=Qhp D x
 have hga:=Qhr D x
 have hkl:=Qa5 D
 refine Qd ?_
 (refine Qa (fun h1=>?_) (fun h1=>?_)<;>try exact h1.elim)
 refine Qd ?_
 (refine Qa (fun h2=>?_) (fun h2=>?_)<;>try exact h2.elim)
 ·omega
 refine Qg (An @hL0 @h66) ?_
 ((first|refine Qa3 mtD ?_|refine Ub mtD ?_);(have zf1:=@hL1;have zf2:=@hks;have zf3:=@hki;have zf4:=@hga;have zf5:=@hha;have zf6:=@hL0;have zf7:=@h66;have zf8:=@hkl;refine XG ?_;clear zf1 zf2 zf3 zf4 zf5 zf6 zf7 zf8;((try (repeat' with_reducible refine And.intro ?_ ?_));(try any_goals (first|refine zm ?_|exact CL|fail)))))
 (refine Qa (fun h3=>?_) (fun h3=>?_)<;>try exact h3.elim)
 ·refine Qd ?_
  exact ⟨(),To.wdrop (ex:=[]) hT Zsi Zsi (by simp[Qw,Qe,look,ren])⟩
 ·rw[hx]at h3;simp at h3;omega
set_option maxHeartbeats 1000000 in
theorem Xg0 (gl:Nat→AV) (T:WT) (hT:T.wf) (d:Int) (hd:d < T.now∨1099511627776 < d):GQ Tryz.prog gl 98 [.ptr 0 0,.int .i64 d] T.h 67 [0,1] (fun _:Unit=>True) (fun _=>.tup [.nils,.int .i64 2]) (fun _=>T.h):=by
 refine Qof.gq (of_decide_eq_true rfl) (fun q hq=>Xe (((WT.HL hT).mem q hq).2)) Zsi fun c hgh hg=>?_
 conv in tcO _ _=>cbv
 have hL0:=WT.l0 T
 have g0:=WT.get0 T
 have hcl:=WT.len hT
 refine Qd ?_
 (refine Qa (fun h1=>?_) (fun h1=>?_)<;>try exact h1.elim)
 refine Qg (An @hL0 @g0) ?_
 (refine Qa (fun h2=>?_) (fun h2=>?_)<;>try exact h2.elim)
 ·refine Qd ?_
  exact ⟨(),To.wdrop (ex:=[]) hT Zsi Zsi (by simp[Qw,Qe,nmAll,look,ren,rens])⟩
 ·omega
theorem GQ.fam {P:Program} {gl:Nat→AV} {f:FuncId} {args:List AV} {hin:List (Nat × Bk)} {m:Nat} {p:List Nat} {r:AV} {T2:WT} {Q:WT→Prop} (h:GQ P gl f args hin m p (fun _:Unit=>True) (fun _=>r) (fun _=>T2.h)) (hQ:Q T2):GQ P gl f args hin m p Q (fun _=>r) WT.h :=
 ⟨h.1,fun w vs G X g hR hv=>(h.2 w vs G X g hR hv).mono fun e w' ⟨_,v,g',q1,q2,q3,q4,q5⟩=>⟨T2,v,g',hQ,q2,q3,q4,q5⟩⟩
theorem GQ.wk {P:Program} {gl:Nat→AV} {f:FuncId} {args:List AV} {hin:List (Nat × Bk)} {m:Nat} {p:List Nat} {ι:Type} {Q:ι→Prop} {r r':ι→AV} {hout:ι→List (Nat × Bk)} (h:GQ P gl f args hin m p Q r hout) (hr:∀ x,Wk (r x) (r' x)):GQ P gl f args hin m p Q r' hout :=
 ⟨h.1,fun w vs G X g hR hv=>(h.2 w vs G X g hR hv).mono fun e w' ⟨x,v,g',q1,q2,q3,q4,q5⟩=>⟨x,v,g',q1,q2,q3,q4,hr x _ _ _ _ q5⟩⟩
structure WI (T:WT) (n:Nat) (D:List Tm):Prop where
 now:T.now=n
 mb:∃ dn,T.mb=.mapb (kvT D) dn
 wg:WG n T.rows D
 cap:D.length≤400
 hi:n≤1099511627776
theorem WI.wf {T:WT} {n:Nat} {D:List Tm} (h:WI T n D):T.wf:=by
 obtain ⟨dn,e⟩:=h.mb
 exact Qab h.wg.ri.len e
theorem WI.sim {T T':WT} {n:Nat} {D:List Tm} (h:WI T n D) (hs:T'.sim T):WI T' n D :=
 ⟨hs.now.trans h.now,by obtain ⟨dn,e⟩:=h.mb;exact ⟨dn,hs.mb.trans e⟩,⟨h.wg.ri.sim ⟨hs.len,hs.row⟩,h.wg.lo,h.wg.hi,h.wg.dis,h.wg.len⟩,h.cap,h.hi⟩
theorem WI.now_gd {T:WT} {n:Nat} {D:List Tm} (h:WI T n D) (gl:Nat→AV):GD Tryz.prog gl 63 [.ptr 0 0] T.hb 67 (List.range 67) (.int .i64 n) T.hb :=
 Qha fun T' hs=>by
  have:=Xtq gl T' (h.sim hs).wf
  rw[(h.sim hs).now]at this
  exact this.fam hs
theorem Xrn {r' r:List (List Tm)} (h:Zq r' r) (x:Int):Zq (r'.map (Xv x)) (r.map (Xv x)):=by
 refine ⟨by simp[h.1],fun i=>?_⟩
 have e:∀ l:List (List Tm),(l.map (Xv x)).getD i []=Xv x (l.getD i []):=fun l=>by
  simp only[List.getD,List.getElem?_map]
  cases l[i]?<;>rfl
 rw[e,e]
 exact (h.2 i).filter _
theorem Xrr (x:Int) (D:List Tm):(Xv x D).length≤D.length:=List.length_filter_le _ _
def Qm7 (n:Nat) (D:List Tm) (x d:Int):Int × List Tm:=if d < 0∨1099511627776 < d then (2,D) else if Qa4 D x=false∧400≤D.length then (6,D) else (0,Wm D x (max d.toNat n))
theorem Xgk (D:List Tm) (x:Int) (d:Nat):((⟨x,d⟩:Tm)::Xv x D).Perm (Wm D x d):=(List.perm_append_singleton _ _).symm
theorem WI.arm_gd {T:WT} {n:Nat} {D:List Tm} (h:WI T n D) (gl:Nat→AV) (x d:Int):∃ T',WI T' n (Qm7 n D x d).2∧GD Tryz.prog gl 131 [.ptr 0 0,.int .i64 x,.int .i64 d] T.hb 67 [0,1] (.int .i64 (Qm7 n D x d).1) T'.hb:=by
 unfold Qm7
 by_cases h1:d < 0∨1099511627776 < d
 ·rw[if_pos h1]
  exact ⟨T,h,Qha fun T' hs=>(Xd6 gl T' (h.sim hs).wf x d h1).fam hs⟩
 rw[if_neg h1]
 obtain ⟨dn,e⟩:=h.mb
 obtain ⟨k,rfl⟩:∃ k:Nat,d=k:=⟨d.toNat,by omega⟩
 by_cases h2:Qa4 D x=false∧400≤D.length
 ·rw[if_pos h2]
  exact ⟨T,h,Qha fun T' hs=>(Xjl gl T' D dn (h.sim hs).wg.ri.len (hs.mb.trans e) x k Zom Zom h2.1 h2.2).fam hs⟩
 rw[if_neg h2]
 rw[show (k:Int).toNat=k by omega]
 have hfull:Qa4 D x=true∨D.length < 400:=by
  cases hx:Qa4 D x with
  | true=>exact .inl rfl
  | false=>exact .inr (by simp[hx]at h2;omega)
 have hsub:=h.wg.ri.filter fun t=>!(t.id == x)
 have hlay:RI (Pl n) (Xb T.now (T.rows.map (Xv x)) ⟨x,max k n⟩) (Wm D x (max k n)):=by
  rw[h.now]
  exact (RI.lay (now:=n) (t:=⟨x,max k n⟩) hsub (Qjy (by show n≤max k n;omega))).of_perm (Xgk D x _)
 have hmem:∀ t ∈ Wm D x (max k n),t ∈ Xv x D∨t=⟨x,max k n⟩:=fun t ht=>by
  rcases List.mem_append.1 ht with h|h
  ·exact .inl h
  ·exact .inr (List.mem_singleton.1 h)
 have hlen:(Wm D x (max k n)).length≤400:=by
  unfold Wm
  rw[List.length_append]
  have h3:=Xrr x D
  have h4:=h.cap
  simp only[List.length_cons,List.length_nil]
  rcases hfull with h5|h5
  ·have:(Xv x D).length < D.length:=by
    unfold Qa4 at h5
    rw[List.any_eq_true]at h5
    obtain ⟨t,ht,hx⟩:=h5
    unfold Xv
    rw[List.length_filter_lt_length_iff_exists]
    exact ⟨t,ht,by simp[hx]⟩
   omega
  ·omega
 refine ⟨T.arm D x (max k n),⟨h.now,⟨_,rfl⟩,⟨hlay,fun t ht=>?_,fun t ht=>?_,?_,by dsimp only;omega⟩,hlen,h.hi⟩,Qha fun T' hs=>?_⟩
 ·rcases hmem t ht with ht|rfl
  ·exact h.wg.lo t (Qi0.subset ht)
  ·show n≤max k n;omega
 ·rcases hmem t ht with ht|rfl
  ·exact h.wg.hi t (Qi0.subset ht)
  ·show max k n≤1099511627776;have:=h.hi;omega
 ·unfold Wm
  rw[List.pairwise_append]
  refine ⟨h.wg.dis.sublist Qi0,by simp,fun a ha b hb=>?_⟩
  obtain rfl:=List.mem_singleton.1 hb
  exact Qzd a ha
 ·have h':=h.sim hs
  have hn':T'.now=n:=h'.now
  have:=Xv8 gl T' D dn h'.wg.ri.len (hs.mb.trans e) h'.wg.dis h'.wg.ri.perm h'.wg.len (by rw[hn'];exact h.hi) x k Zom hfull
  rw[hn']at this
  refine this.fam ?_
  have hr:=(Xrn (r':=T'.rows) (r:=T.rows) ⟨hs.len,hs.row⟩ x).lay T.now ⟨x,max k n⟩
  refine ⟨hs.now,rfl,?_,?_⟩
  ·have:=hr.1
   unfold WT.arm;rw[hs.now];exact this
  ·have:=hr.2
   unfold WT.arm;rw[hs.now];exact this
def Qiw (n:Nat) (D:List Tm) (to:Int):Int × List Int × Nat × List Tm:=if to < n∨1099511627776 < to then (2,[],n,D) else (0,outT D (to.toNat + 1),to.toNat,D.filter fun t=>decide (to.toNat < t.due))
theorem WI.adv_gd {T:WT} {n:Nat} {D:List Tm} (h:WI T n D) (gl:Nat→AV) (to:Int):∃ T',WI T' (Qiw n D to).2.2.1 (Qiw n D to).2.2.2∧GD Tryz.prog gl 98 [.ptr 0 0,.int .i64 to] T.hb 67 [0,1] (.tup [.isl (Qiw n D to).2.1.length (Qp (Qiw n D to).2.1),.int .i64 (Qiw n D to).1]) T'.hb:=by
 unfold Qiw
 by_cases h1:to < n∨1099511627776 < to
 ·rw[if_pos h1]
  exact ⟨T,h,Qha fun T' hs=>((Xg0 gl T' (h.sim hs).wf to (by rw[(h.sim hs).now];exact h1)).wk (r':=fun _=>.tup [.isl 0 (Qp []),.int .i64 2]) fun _=>Wk.tup2 Wk.nils (Wk.refl _)).fam hs⟩
 rw[if_neg h1]
 obtain ⟨dn,e⟩:=h.mb
 obtain ⟨k,rfl⟩:∃ k:Nat,to=k:=⟨to.toNat,by omega⟩
 rw[show (k:Int).toNat=k by omega]
 have hD:=Qtk D (k - n + 1) n T.rows D k Zom Zom h.wg (List.filter_eq_self.2 fun t ht=>by simpa using h.wg.lo t ht).symm
 have hsub:(D.filter fun t=>decide (k < t.due)).Sublist D:=List.filter_sublist
 refine ⟨{ now:=k,rows:=(Qbb (k - n + 1) n T.rows D k).1,mb:=.mapb (kvT (Qbb (k - n + 1) n T.rows D k).2) false },⟨rfl,⟨false,by rw[hD.1]⟩,⟨?_,fun t ht=>?_,fun t ht=>h.wg.hi t (hsub.subset ht),h.wg.dis.sublist hsub,Nat.le_trans hsub.length_le h.wg.len⟩,Nat.le_trans hsub.length_le h.cap,by dsimp only;omega⟩,Qha fun T' hs=>?_⟩
 ·have:=hD.2
  rw[hD.1]at this ⊢;exact this
 ·have:=(List.mem_filter.1 ht).2
  simp at this;show k≤t.due;omega
 ·have h':=h.sim hs
  have hn':T'.now=n:=h'.now
  have hw0:WG T'.now T.rows D:=by rw[hn'];exact h.wg
  have:=Xvs gl T' T.rows D dn ⟨hs.len,hs.row⟩ (hs.mb.trans e) hw0 k Zom Zom
  rw[hn']at this
  exact this
theorem GS.to0 {P:Program} {gl:Nat→AV} {f:FuncId} {args:List AV} {n n':Nat} {r r':AV} {hout hout':List (Nat × Bk)} (h:GS P gl f args [] 0 r hout n) (hto:To [] ⟨[(0,r)],hout,n⟩ ⟨[(0,r')],hout',n'⟩):GS P gl f args [] 0 r' hout' n':=by
 refine ⟨h.1,fun w vs G X g hR hv=>(h.2 w vs G X g hR hv).mono ?_⟩
 rintro e w' ⟨v,g',q1,q2,q3,q4⟩
 have hR1:R ⟨1,w,G,X,gl,[]⟩ g' (⟨[(0,r)],hout,n⟩:St).fs ⟨#[v],[]⟩ w':=by
  refine ⟨rfl,rfl,fun i=>?_,q2.gl,q2.h,q2.inj,q2.old,q2.fr,q2.xs,q2.pin⟩
  show VR g' _ w' (look [(0,r)] i) _
  rw[Zt]
  split
  ·rename_i hi;subst hi;exact q4
  ·exact .any _
 obtain ⟨g2,hR2⟩:=hto _ g' _ w' (fun q hq=>by cases hq) hR1
 exact ⟨v,g2,q1,⟨rfl,rfl,fun i=>.any _,hR2.gl,hR2.h,hR2.inj,hR2.old,hR2.fr,hR2.xs,fun q hq=>by cases hq⟩,fun b hb=>by omega,hR2.t 0⟩
theorem To.bag {p:List Nat} {t:List (Nat × AV)} {ex:List (Nat × Bk)} {T:WT} {n:Nat} (hex:∀ q ∈ ex,67≤q.1) (hT:T.wf):To p ⟨t,ex++T.h,n⟩ ⟨t,ex++T.hb,n⟩:=fun c g a w _ hR=>by
 have hl:=hT.len
 have key:∀ b,(Qb (ex++T.hb) n b=Qb (ex++T.h) n b)∨∃ l,Qb (ex++T.h) n b=.cells (tms l)∧Qb (ex++T.hb) n b=.bag (tmB l):=fun b=>by
  by_cases hb:b < 67
  ·rw[Xn fun q hq e=>by have:=hex q hq;omega,Xn fun q hq e=>by have:=hex q hq;omega,WT.lookh,WT.lookhb]
   by_cases h0:0=b
   ·rw[if_pos h0,if_pos h0];exact .inl rfl
   by_cases h1:1=b
   ·rw[if_neg h0,if_neg h0,if_pos h1,if_pos h1];exact .inl rfl
   rw[if_neg h0,if_neg h0,if_neg h1,if_neg h1,if_pos Zom,if_pos Zom]
   exact .inr ⟨_,rfl,rfl⟩
  ·exact .inl (Qeh (by rw[WT.lookh,WT.lookhb,if_neg Zom,if_neg Zom,if_neg Zom,if_neg (show ¬ 0=b by omega),if_neg (show ¬ 1=b by omega),if_neg (show ¬ (2≤b∧b < 2 + T.rows.length) by omega)]))
 refine ⟨g,hR.resay (fun i v hv=>hv) (fun b hb=>?_) fun b=>?_⟩
 ·show BR _ _ _ _ (Qb (ex++T.hb) n b)
  have e:(⟨t,ex++T.h,n⟩:St).fs.H b=Qb (ex++T.h) n b:=rfl
  rw[e]at hb
  rcases key b with h|⟨l,h1,h2⟩
  ·rw[h];exact hb
  ·rw[h1]at hb;rw[h2];exact Qzv hb (List.Perm.refl _)
 ·show (Qb (ex++T.hb) n b).live ↔ (Qb (ex++T.h) n b).live
  rcases key b with h|⟨l,h1,h2⟩
  ·rw[h]
  ·rw[h1,h2];exact ⟨fun _=>trivial,fun _=>trivial⟩
theorem Xmd (m:Nat) (mb:Bk) (h:nmB 2 mb):(Jq m mb).wf:=⟨by simp[Jq],h⟩
theorem Qj9 (n:Nat) (hn:n≤1099511627776):WI (Jq n (.mapb [] true)) n [] :=
 ⟨rfl,⟨true,rfl⟩,⟨RI.anew (D:=[]) (l:=[]) (List.Perm.refl _) Zsi,by simp,by simp,by simp,by simp⟩,by simp,hn⟩
theorem Xs8 (gl:Nat→AV) (n:Nat) (hn:n≤1099511627776):GS Tryz.prog gl 70 [.int .i64 n] [] 0 (.tup [.ptr 0 0,.int .i64 0]) (Jq n (.mapb [] true)).hb 67:=by
 have h0:GS Tryz.prog gl 70 [.int .i64 n] [] 0 (.tup [.ptr 0 0,.int .i64 0]) [(0,.cells (Qde n)),(1,.mapb [] true)] 2:=Xul gl n Zom Zom
 refine h0.to0 (To.trans (To.nils (m:=n) (mb:=.mapb [] true) (t':=[(0,.tup [.ptr 0 0,.int .i64 0])]) rfl (fun j=>?_) (Nat.le_refl 2) rfl (fun q hq=>by cases hq) Zsi ?_) (To.bag (ex:=[]) Zsi (Xmd n (.mapb [] true) fun q hq=>by cases hq)))
 ·show Qb [(0,_),(1,_)] (2 + j) (2 + j)=.free
  rw[Qc,if_neg Zom,Qc,if_neg Zom,Qga,if_neg Zom]
 ·simp[Qw,Qe,nmAll,look,ren,rens,Qb3]
open Classical in
noncomputable def Qbl (s:St):Nat→List (Nat × Bk)
 | 0=>[]
 | k + 1=>if (Qb s.h s.n k).live then (k,Qb s.h s.n k)::Qbl s k else Qbl s k
theorem Qgd {s:St}:∀ {k:Nat} {q:Nat × Bk},q ∈ Qbl s k ↔ q.1 < k∧(Qb s.h s.n q.1).live∧q.2=Qb s.h s.n q.1
 | 0,q=>by simp[Qbl]
 | k + 1,q=>by
  unfold Qbl
  split
  ·rename_i h
   rw[List.mem_cons,Qgd]
   constructor
   ·rintro (rfl|⟨h1,h2⟩)
    ·exact ⟨by dsimp only;omega,h,rfl⟩
    ·exact ⟨by omega,h2⟩
   ·rintro ⟨h1,h2,h3⟩
    by_cases e:q.1=k
    ·left;rw[e]at h3;exact Prod.ext e h3
    ·right;exact ⟨by omega,h2,h3⟩
  ·rename_i h
   rw[Qgd]
   constructor
   ·rintro ⟨h1,h2⟩;exact ⟨by omega,h2⟩
   ·rintro ⟨h1,h2,h3⟩
    refine ⟨?_,h2,h3⟩
    by_cases e:q.1=k
    ·rw[e]at h2;exact (h h2).elim
    ·omega
open Classical in
theorem Qho {s:St} {n b:Nat}:∀ {k:Nat},Qb (Qbl s k) n b=if b < k∧(Qb s.h s.n b).live then Qb s.h s.n b else if b < n then .dead else .free
 | 0=>by rw[if_neg Zom];rfl
 | k + 1=>by
  unfold Qbl
  split
  ·rename_i h
   rw[Qc,Qho]
   by_cases e:k=b
   ·subst e;rw[if_pos rfl,if_pos ⟨by omega,h⟩]
   ·rw[if_neg e]
    by_cases h2:b < k∧(Qb s.h s.n b).live
    ·rw[if_pos h2,if_pos ⟨by omega,h2.2⟩]
    ·rw[if_neg h2,if_neg (show ¬ (b < k + 1∧(Qb s.h s.n b).live) by rintro ⟨h3,h4⟩;exact h2 ⟨by omega,h4⟩)]
  ·rename_i h
   rw[Qho]
   by_cases h2:b < k∧(Qb s.h s.n b).live
   ·rw[if_pos h2,if_pos ⟨by omega,h2.2⟩]
   ·have h5:¬ (b < k + 1∧(Qb s.h s.n b).live):=by
     rintro ⟨h3,h4⟩
     by_cases e:b=k
     ·subst e;exact h h4
     ·exact h2 ⟨by omega,h4⟩
    rw[if_neg h2,if_neg h5]
theorem Qjv {ρ:Nat→Nat} {n':Nat} {s s':St} (hinj:∀ b b',b < n'→b' < n'→(Qb s'.h s'.n b).live→(Qb s'.h s'.n b').live→ρ b=ρ b'→b=b') (hl:∀ b,b < n'→(Qb s'.h s'.n b).live→nmB n' (Qb s'.h s'.n b)∧Qb s.h s.n (ρ b)=Xf ρ (Qb s'.h s'.n b)):∀ k,k≤n'→Qdj ρ n' s (Qbl s' k)
 | 0,_=>trivial
 | k + 1,hk=>by
  unfold Qbl
  split
  ·rename_i h
   obtain ⟨h1,h2⟩:=hl k Zom h
   have not:∀ l:List (Nat × Bk),(∀ q ∈ l,q.1 < k∧(Qb s'.h s'.n q.1).live)→Qdh ρ k l:=fun l=>by
    induction l with
    | nil=>intro _;trivial
    | cons q l ih =>
     intro hq
     obtain ⟨i,x⟩:=q
     obtain ⟨g1,g2⟩:=hq (i,x) Zsi
     refine ⟨fun e=>?_,ih fun q hq'=>hq q (by simp[hq'])⟩
     have g1:i < k:=g1
     have:=hinj i k Zom Zom g2 h e
     omega
   exact ⟨⟨by omega,h1,h2,not _ fun q hq=>⟨(Qgd.1 hq).1,(Qgd.1 hq).2.1⟩⟩,Qjv hinj hl k Zom⟩
  ·exact Qjv hinj hl k Zom
open Classical in
theorem Qo0 {s':St} (hd:∀ b,b < s'.n→¬ (Qb s'.h s'.n b).live→Qb s'.h s'.n b=.dead) (hf:∀ b,s'.n≤b→Qb s'.h s'.n b=.free) (b:Nat):Qb (Qbl s' s'.n) s'.n b=Qb s'.h s'.n b:=by
 rw[Qho]
 by_cases h1:b < s'.n
 ·by_cases h2:(Qb s'.h s'.n b).live
  ·rw[if_pos ⟨h1,h2⟩]
  ·rw[if_neg fun h=>h2 h.2,if_pos h1,hd b h1 h2]
 ·rw[if_neg fun h=>h1 h.1,if_neg h1,hf b Zom]
theorem To.lk {p:List Nat} {s s':St} (ρ:Nat→Nat) (hp:∀ b ∈ p,ρ b=b∧b < s'.n) (hin:∀ b,(Qb s'.h s'.n b).live→b < s'.n) (hd:∀ b,b < s'.n→¬ (Qb s'.h s'.n b).live→Qb s'.h s'.n b=.dead) (hf:∀ b,s'.n≤b→Qb s'.h s'.n b=.free)
  (hinj:∀ b b',b < s'.n→b' < s'.n→(Qb s'.h s'.n b).live→(Qb s'.h s'.n b').live→ρ b=ρ b'→b=b') (hl:∀ b,b < s'.n→(Qb s'.h s'.n b).live→nmB s'.n (Qb s'.h s'.n b)∧Qb s.h s.n (ρ b)=Xf ρ (Qb s'.h s'.n b)) (ht:Qw ρ s'.n s.t s'.t):To p s s':=by
 have h1:To p s ⟨s'.t,Qbl s' s'.n,s'.n⟩:=To.subF (ρ:=ρ) hp ⟨ht,Qjv hinj hl _ (Nat.le_refl _)⟩
 refine h1.trans fun c g a w _ hR=>⟨g,hR.resay (fun _ _ h=>h) (fun b h=>?_) fun b=>?_⟩
 ·have e:=Qo0 hd hf b
  have h:BR g _ w (g b) (Qb (Qbl s' s'.n) s'.n b):=h
  rw[e]at h;exact h
 ·have e:=Qo0 hd hf b
  show (Qb s'.h s'.n b).live ↔ (Qb (Qbl s' s'.n) s'.n b).live
  rw[e]
section
variable {P:Program} {c:Cx}
theorem Qq3 {s:St} {d:Option Nat} {f:FuncId} {xs:List TV} {args:List AV} {r:AV} {hout:List (Nat × Bk)} {m:Nat} (hgs:GS P c.gl f args [] 0 r hout m) (hHL:HL hout m) (hc:Qt none (evs c.gl s.fs xs)) (hargs:(evs c.gl s.fs xs).map Qj=args) (hna:nmAll 0 args) (hnr:Qe m r) (hs:∀ q ∈ s.h,q.1 < s.n) :
  Kj P c (.pd d (.call f) xs none) s.fs ⟨Xj xs,(List.range m).map fun b=>s.n + b,d.toList,(List.range m).map fun b=>s.n + b⟩ (St.putO ⟨s.t,s.h++Xd (fun b=>s.n + b) hout,s.n + m⟩ d (ren (fun b=>s.n + b) r)).fs:=by
 have hn:∀ b b',b < m→b' < m→s.n + b=s.n + b'→b=b':=fun b b' _ _ e=>by omega
 have hm:∀ q ∈ hout,q.1 < m:=fun q hq=>(hHL.mem q hq).1
 have hoff:∀ b,∀ q ∈ s.h,q.1≠s.n + b:=fun b q hq=>by have:=hs q hq;omega
 have hfree:∀ b,s.fs.H (s.n + b)=.free:=fun b=>by
  show Qb s.h s.n (s.n + b)=_
  have:∀ l:List (Nat × Bk),(∀ q ∈ l,q.1≠s.n + b)→Qb l s.n (s.n + b)=.free:=fun l=>by
   induction l with
   | nil=>intro _;rw[Qga,if_neg Zom]
   | cons q l ih =>
    obtain ⟨i,x⟩:=q
    intro h
    rw[Qc,if_neg (h (i,x) Zsi),ih fun q hq=>h q (by simp[hq])]
  exact this s.h (hoff b)
 have hH:∀ y j,(St.putO ⟨s.t,s.h++Xd (fun b=>s.n + b) hout,s.n + m⟩ d y).fs.H j=Qb (s.h++Xd (fun b=>s.n + b) hout) (s.n + m) j:=fun y j=>by cases d<;>rfl
 refine Xa9 (σ:=fun b=>s.n + b) hgs (fun o ys hel hxs s2 g a w hT hR=>?_) hn (fun p hp=>by cases hp) (fun b hb=>by omega) (Nat.zero_le _) (fun b _ _=>hfree b) (fun p hp=>hHL.mem p hp) hnr hna (fun b hb=>List.mem_map.2 ⟨b,List.mem_range.2 hb,rfl⟩) (fun j hj=>?_) (fun i=>?_) (fun b hb=>?_) fun j hj=>?_
 ·obtain ⟨ts,hop⟩:=Qcy hel
  subst hxs
  have hevs:evs c.gl s2 (ys.map tvO)=evs c.gl s.fs (ys.map tvO):=Ye fun i hi=>hT i hi
  have hv:=Yh (hR.evs ys) (by rw[hevs];exact hc)
  rw[hevs,hargs]at hv
  have hr:rens (fun b=>s.n + b) args=args:=by
   rw[Yf]
   exact (List.map_congr_left fun v hv=>Qak (n:=0) (fun b hb=>by omega) v (Xi.1 hna v hv)).trans (List.map_id _)
  rw[hr]
  exact ⟨_,Qdz hgs.1 hop a w,hv⟩
 ·obtain ⟨b,hb,rfl⟩:=List.mem_map.1 hj
  exact ⟨b,List.mem_range.1 hb,rfl⟩
 ·cases d with
  | none=>rfl
  | some d=>show look ((d,_)::s.t) i=_;rw[Zt];rfl
 ·rw[hH,Xn (hoff b),Kz hn hb hm (hHL.cov b hb)]
  obtain ⟨_,q,hq,_,e⟩:=hHL.live hb m
  rw[e]
  have:=(hHL.mem q hq).2
  cases hx:q.2<;>first|rfl|(rw[hx]at this;exact this.elim)
 ·rw[hH]
  show _=Qb s.h s.n j
  have hj':∀ b,b < m→s.n + b≠j:=fun b hb e=>hj (List.mem_map.2 ⟨b,List.mem_range.2 hb,e⟩)
  have key:∀ l:List (Nat × Bk),Qb (l++Xd (fun b=>s.n + b) hout) (s.n + m) j=Qb l s.n j:=fun l=>by
   induction l with
   | nil =>
    rw[List.nil_append,Wb hj' hm,Qga]
    by_cases h:j < s.n
    ·rw[if_pos h,if_pos Zom]
    ·rw[if_neg h,if_neg]
     intro h2
     exact hj' (j - s.n) Zom Zom
   | cons q l ih=>obtain ⟨i,x⟩:=q;rw[List.cons_append,Qc,Qc,ih]
  exact key s.h
theorem Qka {r0:List TOp} {K:St→Prop} {s:St} {d:Option Nat} {f:FuncId} {xs:List TV} {args:List AV} {r:AV} {hout:List (Nat × Bk)} {m:Nat} (hgs:GS P c.gl f args [] 0 r hout m) (hHL:HL hout m) (hc:Qt none (evs c.gl s.fs xs)∧(evs c.gl s.fs xs).map Qj=args∧nmAll 0 args∧Qe m r) (hs:∀ q ∈ s.h,q.1 < s.n)
  (h:XP P c r0 K (St.putO ⟨s.t,s.h++Xd (fun b=>s.n + b) hout,s.n + m⟩ d (ren (fun b=>s.n + b) r))):Yc P c (.pd d (.call f) xs none) r0 K s :=
 .inl ⟨_,_,Qq3 hgs hHL hc.1 hc.2.1 hc.2.2.1 hc.2.2.2 hs,h⟩
end
theorem Xa3 {ex:List (Nat × Bk)} {σ:Nat→Nat} {T:WT} {n b:Nat} (hT:T.wf) (hinj:∀ b b',b < 67→b' < 67→σ b=σ b'→b=b') (hex:∀ q ∈ ex,∀ b,b < 67→σ b≠q.1) (hb:b < 67):Qb (ex++Xd σ T.hb) n (σ b)=Xf σ (Qb T.hb 67 b):=by
 rw[Xn fun q hq e=>hex q hq b hb e.symm]
 exact Kz hinj hb (fun q hq=>((WT.HLb hT).mem q hq).1) ((WT.HLb hT).cov b hb)
theorem Qlu {T:WT} (hT:T.wf) {b:Nat} (hb:b < 67):(Qb T.hb 67 b).live∧nmB 67 (Qb T.hb 67 b):=by
 obtain ⟨_,q,hq,_,e⟩:=(WT.HLb hT).live hb 67
 rw[e]
 exact ⟨Xe ((WT.HLb hT).mem q hq).2,((WT.HLb hT).mem q hq).2⟩
theorem Ww {f g:Nat→Nat} {n:Nat} (h:∀ b,b < n→f b=g b) {x:Bk} (hx:nmB n x):Xf f x=Xf g x:=by
 have hv:∀ v,Qe n v→ren f v=ren g v:=fun v=>AV.rec (motive_1:=fun v=>Qe n v→ren f v=ren g v) (motive_2:=fun l=>nmAll n l→rens f l=rens g l) (by simp[ren]) (fun b v h1 h2=>by simp only[Qe]at h2;simp only[ren,h1 h2]) (fun _ _=>by simp[ren]) (fun _=>by simp[ren]) (fun _=>by simp[ren])
  (fun cs h1 h2=>by simp only[Qe]at h2;simp only[ren,h1 h2]) (fun cs h1 h2=>by simp only[Qe]at h2;simp only[ren,h1 h2]) (fun b _ h2=>by simp only[Qe]at h2;simp only[ren,h b h2]) (fun cs _ h1 h2=>by simp only[Qe]at h2;simp only[ren,h1 h2]) (fun _ b _ _ _ h2=>by simp only[Qe]at h2;simp only[ren,h b h2]) (fun _ cs h1 h2=>by simp only[Qe]at h2;simp only[ren,h1 h2]) (by simp[ren])
  (fun _ cs h1 h2=>by simp only[Qe]at h2;simp only[ren,h1 h2]) (fun b h2=>by simp only[Qe]at h2;simp only[ren,h b h2]) (fun _=>by simp[ren]) (by simp[rens]) (fun x xs h1 h2=>by simp only[nmAll,rens];exact fun ⟨a,b⟩=>by rw[h1 a,h2 b]) v
 cases x with
 | free=>rfl
 | dead=>rfl
 | cells cs =>
  simp only[Xf,Yf]
  congr 1
  exact List.map_congr_left fun v h=>hv v (Xi.1 hx v h)
 | mapb kvs dn =>
  simp only[Xf]
  congr 1
  exact List.map_congr_left fun q hq=>by rw[hv _ (hx q hq).1,hv _ (hx q hq).2]
 | mapx kvs bs ck =>
  simp only[Xf]
  congr 1
  exact List.map_congr_left fun q hq=>by rw[hv _ (hx q hq).1,hv _ (hx q hq).2]
 | iter b ck seen=>simp only[Xf];rw[h b hx]
 | bag ls=>rfl
theorem Xd2 {f g:Nat→Nat} {T:WT} (hT:T.wf) (h:∀ b,b < 67→f b=g b):Xd f T.hb=Xd g T.hb:=by
 unfold Xd
 exact List.map_congr_left fun q hq=>by
  obtain ⟨h1,h2⟩:=(WT.HLb hT).mem q hq
  rw[h q.1 h1,Ww h h2]
def mv1 (n b:Nat):Nat:=if b < 2 then b else n + b
theorem Xxs (n:Nat):sgx id [0,1] n=mv1 n:=by
 funext b
 unfold mv1
 by_cases h:b < 2
 ·rw[if_pos h,Wr (by have:b=0∨b=1:=by omega
                     simpa using this)];rfl
 ·rw[if_neg h,Wi (by simp;omega)]
theorem Qot {n:Nat} (hn:67≤n) {b b':Nat} (h:b < 67) (h':b' < 67) (e:mv1 n b=mv1 n b'):b=b':=by
 unfold mv1 at e
 (repeat' split at e)<;>omega
theorem Yay (n:Nat):mv1 n 0=0:=rfl
theorem Ybi {T:WT} (hT:T.wf) {σ:Nat→Nat} {m:Nat} (hσ:∀ b,b < 67→σ b < m) (n b:Nat) (hb:m≤b):Qb (Xd σ T.hb) n b=if b < n then .dead else .free :=
 Wb (m:=67) (fun b' hb' e=>by have:=hσ b' hb';omega) fun q hq=>((WT.HLb hT).mem q hq).1
theorem Km {σ:Nat→Nat} {v:AV} (h:Qe 0 v):ren σ v=v:=Qak (n:=0) (fun b hb=>by omega) v h
theorem gx1 {gl:Nat→AV} {xs:List TV} {v:Bool} {f:FuncId} {args:List AV} {t:List (Nat × AV)} {ex:List (Nat × Bk)} {T:WT} {n:Nat} {p:List Nat} (hT:T.wf) (hp:∀ b ∈ p,b < 67) (hn:67≤n) (hex:∀ q ∈ ex,67≤q.1∧q.1 < n)
  (hc:Qt none (evs gl (⟨t,ex++Xd id T.hb,n⟩:St).fs xs)∧Uz v f ((evs gl (⟨t,ex++Xd id T.hb,n⟩:St).fs xs).map Qj)=some (f,args)∧nmAll 67 args):GxOk gl xs v f args id p 67 t ex T.hb n :=
 ⟨fun b b' _ _ e=>e,fun b hb=>by show b < n;omega,WT.HLb hT,hp,fun q hq=>⟨fun b hb e=>by have:=(hex q hq).1;have e:b=q.1:=e;omega,(hex q hq).2⟩,hc.1,by rw[Kd];exact hc.2.1,hc.2.2⟩
theorem Xgy {t:List (Nat × AV)} {ex:List (Nat × Bk)} {σ:Nat→Nat} {T:WT} {n:Nat} {d:Option Nat} {r:AV} (hT:T.wf) (hr:Qe 0 r):Ja t ex T.hb σ (List.range 67) 67 n d r=St.putO ⟨t,ex++Xd σ T.hb,n + 67⟩ d r:=by
 unfold Ja
 rw[Xd2 hT (f:=sgx σ (List.range 67) n) (g:=σ) fun b hb=>Wr (List.mem_range.2 hb),Km hr]
theorem Qu9 {t:List (Nat × AV)} {ex:List (Nat × Bk)} {T:WT} {n:Nat} {d:Option Nat} {r:AV} (hr:Qe 0 r):Ja t ex T.hb id [0,1] 67 n d r=St.putO ⟨t,ex++Xd (mv1 n) T.hb,n + 67⟩ d r:=by
 unfold Ja
 rw[Xxs,Km hr]
theorem Xh3 {h:List (Nat × Bk)} {n b:Nat} (hb:∀ q ∈ h,q.1≠b):Qb h n b=if b < n then .dead else .free:=by
 have:=Xn (h:=[]) (n:=n) (j:=b) hb
 rw[List.append_nil]at this
 rw[this];rfl
section
variable {h h0 h1 ex ex':List (Nat × Bk)} {m n n' b:Nat}
theorem HL.hi (H:HL h m) (n b:Nat) (hb:m≤b):Qb h n b=if b < n then .dead else .free:=Xh3 fun q hq e=>by have:=(H.mem q hq).1;omega
theorem HL.lo (H:HL h m) (hb:b < m) (n:Nat):Qb h n b=Qb h m b:=(H.live hb n).1
theorem HL.nm (H:HL h m) (hb:b < m):nmB m (Qb h m b):=by
 obtain ⟨_,q,hq,_,e⟩:=H.live hb m
 rw[e];exact (H.mem q hq).2
theorem HL.lv (H:HL h m) (hb:b < m):(Qb h m b).live:=Xe (H.nm hb)
theorem HL.lives (H:HL h m):∀ q ∈ h,q.2.live:=fun q hq=>Xe (H.mem q hq).2
theorem HL.more (H:HL h m) {x:Bk} (hx:nmB (m + 1) x):HL ((m,x)::h) (m + 1) where
 mem q hq:=by
  rcases List.mem_cons.1 hq with rfl|hq
  ·exact ⟨Nat.lt_succ_self _,hx⟩
  ·exact ⟨by have:=(H.mem q hq).1;omega,Qc7 (Nat.le_succ m) (H.mem q hq).2⟩
 cov b hb:=by
  by_cases e:b=m
  ·exact ⟨_,List.mem_cons_self,e.symm⟩
  ·obtain ⟨q,hq,e2⟩:=H.cov b Zom
   exact ⟨q,List.mem_cons_of_mem _ hq,e2⟩
 self q hq:=by
  rcases List.mem_cons.1 hq with rfl|hq
  ·rw[Qc,if_pos rfl]
  ·have:=(H.mem q hq).1
   rw[Qc,if_neg Zom,H.lo this,H.self q hq]
theorem To.fam {p:List Nat} {t t':List (Nat × AV)} (ρ:Nat→Nat) (H:HL h m) (hp:∀ b ∈ p,ρ b=b∧b < m) (hinj:∀ b b',b < m→b' < m→ρ b=ρ b'→b=b') (hl:∀ b,b < m→Qb h0 n (ρ b)=Xf ρ (Qb h m b)) (ht:Qw ρ m t t'):To p ⟨t,h0,n⟩ ⟨t',h,m⟩:=by
 refine To.lk ρ hp (fun b hlv=>?_) (fun b hb hnl=>(hnl (H.lv hb)).elim) (fun b hb=>(H.hi m b hb).trans (if_neg (by have hb:m≤b:=hb;show ¬ b < m;omega))) (fun b b' hb hb' _ _ e=>hinj b b' hb hb' e) (fun b hb hlv=>⟨H.nm hb,hl b hb⟩) ht
 by_cases hb:b < m
 ·exact hb
 ·have hlv:(Qb h m b).live:=hlv
  rw[H.hi m b Zom,if_neg hb]at hlv
  exact hlv.elim
theorem To.drop {p:List Nat} {t t':List (Nat × AV)} (H:HL h m) (hex:∀ q ∈ ex,m≤q.1) (hp:∀ b ∈ p,b < m) (ht:Qw id m t t'):To p ⟨t,ex++h,n⟩ ⟨t',h,m⟩ :=
 To.fam id H (fun b hb=>⟨rfl,hp b hb⟩) (fun b b' _ _ e=>e) (fun b hb=>by
  rw[Wz]
  show Qb (ex++h) n b=_
  rw[Xn fun q hq e=>by have:=hex q hq;omega,H.lo hb]) ht
theorem To.home {p:List Nat} {t t':List (Nat × AV)} {σ:Nat→Nat} (H:HL h m) (hinj:∀ b b',b < m→b' < m→σ b=σ b'→b=b') (hex:∀ q ∈ ex,Qal σ m q.1) (hp:∀ b ∈ p,σ b=b∧b < m) (ht:Qw σ m t t'):To p ⟨t,ex++Xd σ h,n⟩ ⟨t',h,m⟩ :=
 To.fam σ H hp hinj (fun b hb=>by
  rw[Xn fun q hq e=>hex q hq b hb e.symm]
  exact Kz hinj hb (fun q hq=>(H.mem q hq).1) (H.cov b hb)) ht
def lw (σ:Nat→Nat) (m b:Nat):Nat:=if b < m then σ b else b
theorem Qkt {σ:Nat→Nat} (h:b < m):lw σ m b=σ b:=if_pos h
theorem Qmp {σ:Nat→Nat} (h:m≤b):lw σ m b=b:=if_neg (by omega)
theorem To.mid {p:List Nat} {t t':List (Nat × AV)} {σ:Nat→Nat} {k:Nat} (H:HL h m) (H':HL (ex'++h) k) (hmk:m≤k) (hex':∀ q ∈ ex',m≤q.1) (hinj:∀ b b',b < m→b' < m→σ b=σ b'→b=b') (hex:∀ q ∈ ex,Qal σ m q.1) (hoff:∀ b,b < m→∀ b',m≤b'→b' < k→σ b≠b')
  (hp:∀ b ∈ p,lw σ m b=b∧b < k) (hl:∀ b,m≤b→b < k→Qb (ex++Xd σ h) n b=Xf (lw σ m) (Qb (ex'++h) k b)) (ht:Qw (lw σ m) k t t'):To p ⟨t,ex++Xd σ h,n⟩ ⟨t',ex'++h,k⟩:=by
 refine To.fam (lw σ m) H' hp (fun b b' hb hb' e=>?_) (fun b hb=>?_) ht
 ·by_cases h1:b < m<;>by_cases h2:b' < m
  ·rw[Qkt h1,Qkt h2]at e;exact hinj _ _ h1 h2 e
  ·rw[Qkt h1,Qmp Zom]at e;exact (hoff b h1 b' Zom hb' e).elim
  ·rw[Qmp Zom,Qkt h2]at e;exact (hoff b' h2 b Zom hb e.symm).elim
  ·rw[Qmp Zom,Qmp Zom]at e;exact e
 ·by_cases h1:b < m
  ·rw[Qkt h1,Xn fun q hq e=>hex q hq b h1 e.symm,Kz hinj h1 (fun q hq=>(H.mem q hq).1) (H.cov b h1),Xn fun q hq e=>by have:=hex' q hq;omega,H.lo h1 k]
   exact Ww (g:=lw σ m) (fun b hb=>(Qkt hb).symm) (H.nm h1)
  ·rw[Qmp Zom];exact hl b Zom hb
theorem Qxr {f g:Nat→Nat} (H:HL h m) (e:∀ b,b < m→f b=g b):Xd f h=Xd g h:=by
 unfold Xd
 exact List.map_congr_left fun q hq=>by
  obtain ⟨h1,h2⟩:=H.mem q hq
  rw[e q.1 h1,Ww e h2]
end
theorem Xvt {σ:Nat→Nat} {p:List Nat} {m n b':Nat} (hσ:∀ b,b < m→b ∈ p→σ b≠b') (hb':b' < n):∀ b,b < m→sgx σ p n b≠b':=fun b hb e=>by
 by_cases h:b ∈ p
 ·rw[Wr h]at e;exact hσ b hb h e
 ·rw[Wi h]at e;omega
theorem Qz3 {m n b:Nat} (hb:b < m):sgx id (List.range m) n b=b:=Wr (List.mem_range.2 hb)
section
variable {P:Program} {c:Cx} {h h1 ex:List (Nat × Bk)} {m n:Nat} {v:Bool} {d:Option Nat} {kk:PK} {f:FuncId} {xs:List TV} {args:List AV} {r:AV} {t:List (Nat × AV)} {r0:List TOp} {K:St→Prop}
theorem gx0 {p:List Nat} (H:HL h m) (hn:m≤n) (hp:∀ b ∈ p,b < m) (hex:∀ q ∈ ex,m≤q.1∧q.1 < n) (hc:Qt none (evs c.gl (⟨t,ex++h,n⟩:St).fs xs)∧Uz v f ((evs c.gl (⟨t,ex++h,n⟩:St).fs xs).map Qj)=some (f,args)∧nmAll m args) :
  GxOk c.gl xs v f args id p m t ex h n:=by
 refine ⟨fun b b' _ _ e=>e,fun b hb=>by show b < n;omega,H,hp,fun q hq=>⟨fun b hb e=>by have:=(hex q hq).1;have e:b=q.1:=e;omega,(hex q hq).2⟩,?_,?_,hc.2.2⟩
 ·rw[Jn];exact hc.1
 ·rw[Jn,Kd];exact hc.2.1
theorem Qjm (H1:HL h1 m) (hr:Qe m r):Ja t ex h1 id (List.range m) m n d r=St.putO ⟨t,ex++h1,n + m⟩ d r:=by
 have e:ren (sgx id (List.range m) n) r=r:=Qak (n:=m) (fun b hb=>Qz3 hb) r hr
 unfold Ja
 rw[Qxr H1 (f:=sgx id (List.range m) n) (g:=id) fun b hb=>Qz3 hb,Jn,e]
theorem Xg (f:FuncId) (l:List AV):Uz false f l=some (f,l):=rfl
theorem Ws (hq:GD P c.gl f args h m (List.range m) r h1) (H:HL h m) (H1:HL h1 m) (hr:Qe m r) (hn:m≤n) (hex:∀ q ∈ ex,m≤q.1∧q.1 < n) (hk:kk=(bif v then .callv else .call f))
  (hc:Qt none (evs c.gl (⟨t,ex++h,n⟩:St).fs xs)∧Uz v f ((evs c.gl (⟨t,ex++h,n⟩:St).fs xs).map Qj)=some (f,args)∧nmAll m args) (hx:XP P c r0 K (St.putO ⟨t,ex++h1,n + m⟩ d r)):Yc P c (.pd d kk xs none) r0 K ⟨t,ex++h,n⟩:=by
 have:=Xb3 (d:=d) (r0:=r0) (K:=K) hq (gx0 (v:=v) H hn (fun b hb=>List.mem_range.1 hb) hex hc) hk H1 hr (by rw[Qjm H1 hr];exact hx)
 rw[Jn]at this;exact this
theorem Qzj {anc:List Nat} {fs:List Foot} (hq:GD P c.gl f args h m (List.range m) r h1) (H:HL h m) (H1:HL h1 m) (hr:Qe m r) (hn:m≤n) (hex:∀ q ∈ ex,m≤q.1∧q.1 < n) (hk:kk=(bif v then .callv else .call f))
  (hc:Qt none (evs c.gl (⟨t,ex++h,n⟩:St).fs xs)∧Uz v f ((evs c.gl (⟨t,ex++h,n⟩:St).fs xs).map Qj)=some (f,args)∧nmAll m args) (hx:XD P c anc r0 (⟨Xj xs,gxN id m n,d.toList,gxN id m n⟩::fs) K (St.putO ⟨t,ex++h1,n + m⟩ d r)):Za P c anc (.pd d kk xs none) r0 fs K ⟨t,ex++h,n⟩:=by
 have:=Qsv (d:=d) (anc:=anc) (fs:=fs) (r0:=r0) (K:=K) hq (gx0 (v:=v) H hn (fun b hb=>List.mem_range.1 hb) hex hc) hk H1 hr (by rw[Qjm H1 hr];exact hx)
 rw[Jn]at this;exact this
theorem Qki {p:List Nat} {anc:List Nat} {fs:List Foot} (hq:GD P c.gl f args h m p r h1) (H:HL h m) (H1:HL h1 m) (hr:Qe m r) (hn:m≤n) (hp:∀ b ∈ p,b < m) (hex:∀ q ∈ ex,m≤q.1∧q.1 < n) (hk:kk=(bif v then .callv else .call f))
  (hc:Qt none (evs c.gl (⟨t,ex++h,n⟩:St).fs xs)∧Uz v f ((evs c.gl (⟨t,ex++h,n⟩:St).fs xs).map Qj)=some (f,args)∧nmAll m args) (hx:XD P c anc r0 (⟨Xj xs,gxN id m n,d.toList,gxN id m n⟩::fs) K (Ja t ex h1 id p m n d r)):Za P c anc (.pd d kk xs none) r0 fs K ⟨t,ex++h,n⟩:=by
 have:=Qsv (d:=d) (anc:=anc) (fs:=fs) (r0:=r0) (K:=K) hq (gx0 (v:=v) H hn hp hex hc) hk H1 hr hx
 rw[Jn]at this;exact this
theorem Ut {p pp:List Nat} {s3:St} (hgh:∀ q ∈ c.gh,q.1 ∈ pp) (hq:GD P c.gl f args h m p r h1) (H:HL h m) (H1:HL h1 m) (hr:Qe m r) (hn:m≤n) (hp:∀ b ∈ p,b < m) (hex:∀ q ∈ ex,m≤q.1∧q.1 < n) (hk:kk=(bif v then .callv else .call f))
  (hc:Qt none (evs c.gl (⟨t,ex++h,n⟩:St).fs xs)∧Uz v f ((evs c.gl (⟨t,ex++h,n⟩:St).fs xs).map Qj)=some (f,args)∧nmAll m args) (hto:To pp (Ja t ex h1 id p m n d r) s3) (hx:XP P c r0 K s3):Yc P c (.pd d kk xs none) r0 K ⟨t,ex++h,n⟩:=by
 have hok:=gx0 (v:=v) H hn hp hex hc
 refine .inr fun ops io he g a w hR K' Q' hK=>?_
 have hA:=Qhg (d:=d) hq hok hk H1 hr ops io he
 rw[Jn]at hA
 refine hA.step _ (fun _ _=>rfl) (fun _ _=>rfl) g a w hR K' Q' fun g2 a' w' hR2=>?_
 rw[Qfj hA.outT hA.outH]at hR2
 obtain ⟨g3,hR3⟩:=hto c g2 a' w' hgh hR2
 exact hK g3 s3 a' w' hx hR3
end
theorem Qhm (k n:Int) (h:0 < n):-n < k.tmod n∧k.tmod n < n:=by
 have h1:=Int.tmod_lt_of_pos k h
 have h2:=Int.tmod_lt_of_pos (-k) h
 rw[Int.neg_tmod]at h2
 omega
structure Pool where
 own:List Int
 dr:List Bool
structure Pool.wf (p:Pool):Prop where
 own:p.own.length=18
 dr:p.dr.length=3
def Pool.row (p:Pool) (a:Nat):List Int:=(p.own.drop (a * 6)).take 6
def Ui (n:Int):Bool:=decide (0≤n) && decide (n≤8)
def Pool.good (p:Pool):Bool:=p.own.all Ui
theorem Kl (p:Pool) (h:p.wf) (a:Nat) (ha:a < 3):(p.row a).length=6:=by
 simp[Pool.row,h.own];omega
theorem Xa4 (p:Pool) (a j:Nat) (hj:j < 6):(p.row a)[j]?=p.own[a * 6 + j]?:=by
 simp[Pool.row,hj]
theorem Xsj (p:Pool) (h:(p.own.take (6 * 3)).all Ui=true) (hp:p.wf):p.good=true:=by
 rw[List.take_of_length_le (by rw[hp.own];omega)]at h;exact h
theorem Xru (p:Pool) (i:Nat) (x:Int) (hx:p.own[i]?=some x) (hb:Ui x=false):p.good=false:=by
 unfold Pool.good
 rw[List.all_eq_false]
 exact ⟨x,List.mem_of_getElem? hx,by simp[hb]⟩
theorem Xhx (p:Pool) (i:Nat) (x:Int) (hx:p.own[i]?=some x) (h:(p.own.take i).all Ui=true) (hb:Ui x=true):(p.own.take (i + 1)).all Ui=true:=by
 rw[List.take_add_one,hx]
 simp only[List.all_append,h,Bool.true_and]
 simp[hb]
theorem Xpl (x:Int) (h:x < 0):Ui x=false:=by unfold Ui;simp;omega
theorem Xsy (x:Int) (h:8 < x):Ui x=false:=by unfold Ui;simp;omega
theorem Xqb (x:Int) (h0:¬ x < 0) (h:¬ 8 < x):Ui x=true:=by unfold Ui;simp;omega
def Kr (a:Int):Bool:=decide (0≤a) && decide (a < 3)
theorem Qqz (k n:Int) (hn:0 < n):(if k.tmod n < 0 then k.tmod n + n else k.tmod n)=k % n:=by
 rw[Int.tmod_eq_emod]
 have h1:=Int.emod_nonneg k (show n≠0 by omega)
 have h2:=Int.emod_lt_of_pos k hn
 have e:(n.natAbs:Int)=n:=by omega
 by_cases h:0≤k∨n ∣ k
 ·rw[if_pos h];simp;omega
 ·rw[if_neg h,e]
  have:k % n≠0:=fun h0=>h (.inr (Int.dvd_of_emod_eq_zero h0))
  rw[if_pos Zom];omega
def Uh (l:List Int):Nat:=l.countP (· == 0)
def Pool.left (p:Pool) (a:Int):Nat:=if Kr a=true then Uh (p.row a.toNat) else 0
theorem Qh0 (p:Pool) (a:Nat) (h:a < 3):p.left a=Uh (p.row a):=by
 unfold Pool.left;rw[if_pos (by unfold Kr;simp;omega)];simp
theorem Xr0 (p:Pool) (a:Int) (h:Kr a=false):p.left a=0:=by unfold Pool.left;rw[if_neg (by rw[h];simp)]
theorem Qhy (l:List Int) (m:Nat) (x:Int) (h:l[m]?=some x):Uh (l.take (m + 1))=Uh (l.take m) + (if x=0 then 1 else 0):=by
 unfold Uh
 rw[List.take_add_one,h]
 simp[List.countP_append,List.countP_cons]
theorem Qlw (l:List Int) (m:Nat):Uh (l.take m)≤m:=by
 unfold Uh
 have:=List.countP_le_length (p:=(· == 0)) (l:=l.take m)
 have:=List.length_take_le m l
 omega
def Pool.dra (p:Pool) (a:Nat):Bool:=p.dr.getD a false
def Pool.open_ (p:Pool) (a:Nat):Bool:=!p.dra a && decide (0 < p.left a)
def Pool.opens (p:Pool) (k:Nat):List Nat:=(List.range k).filter p.open_
theorem Xfa (p:Pool) (k:Nat):p.opens (k + 1)=p.opens k++if p.open_ k then [k] else []:=by
 unfold Pool.opens;rw[List.range_succ,List.filter_append];simp[List.filter_cons]
theorem Xrk (p:Pool) (k:Nat):(p.opens k).length≤k:=by
 have:=List.length_filter_le p.open_ (List.range k);simpa [Pool.opens] using this
def Pool.pick (p:Pool) (draw:Int):Int × Int :=
 if p.good=true then (if (p.opens 3).length=0 then (0,10) else (((p.opens 3).getD (draw % ((p.opens 3).length:Int)).toNat 0:Nat),0)) else (0,2)
def Qbe (l:List Int) (n:Nat):List Nat:=(List.range n).filter fun k=>l.getD k 1 == 0
theorem Qpu (l:List Int) (n:Nat):Qbe l (n + 1)=Qbe l n++if l.getD n 1=0 then [n] else []:=by
 unfold Qbe;rw[List.range_succ,List.filter_append];simp[List.filter_cons]
theorem Qik (l:List Int):∀ n,n≤l.length→(Qbe l n).length=Uh (l.take n)
 | 0,_=>by simp[Qbe,Uh]
 | n + 1,h=>by
  rw[Qpu,List.length_append,Qik l n Zom,Qhy l n l[n] (List.getElem?_eq_getElem Zom)]
  have:l.getD n 1=l[n]:=by simp[show n < l.length by omega]
  rw[this];split<;>simp
theorem Xa0 (l:List Int) (m:Nat) (hm:m < l.length) (hx:l[m]?=some 0):∀ n,m < n→(Qbe l n)[Uh (l.take m)]?=some m
 | 0,h=>by omega
 | n + 1,h=>by
  rw[Qpu]
  by_cases e:m=n
  ·subst e
   have:l.getD m 1=0:=by simp[hx]
   rw[List.getElem?_append_right (by rw[Qik l m Zom];omega),Qik l m Zom,this]
   simp
  ·have ih:=Xa0 l m hm hx n Zom
   rw[List.getElem?_append_left (List.getElem?_eq_some_iff.1 ih).1]
   exact ih
def Pool.put (p:Pool) (a k:Nat) (o:Int):Pool:={ p with own:=p.own.set (a * 6 + k) o }
theorem Pool.put_wf (p:Pool) (hp:p.wf) (a k:Nat) (o:Int):(p.put a k o).wf:=⟨by simp[Pool.put,hp.own],hp.dr⟩
def Pool.kth (p:Pool) (a:Nat) (draw:Int):Nat:=(Qbe (p.row a) 6).getD (draw % (p.left a:Int)).toNat 0
def Pool.take (p:Pool) (s a draw:Int):Pool × Int × Int :=
 if p.good=true then
  (if Kr a=true∧0≤s∧s < 8 then
   (if p.dra a.toNat=true then (p,0,9) else
    (if p.left a=0 then (p,0,10) else (p.put a.toNat (p.kth a.toNat draw) (s + 1),(p.kth a.toNat draw:Nat),0)))
  else (p,0,7))
 else (p,0,2)
def Pool.ow (p:Pool) (a k:Nat):Int:=p.own.getD (a * 6 + k) 0
theorem Pool.ow_good (p:Pool) (h:p.good=true) (a k:Nat):0≤p.ow a k∧p.ow a k≤8:=by
 unfold Pool.ow
 by_cases hi:a * 6 + k < p.own.length
 ·have:=List.all_eq_true.1 h p.own[a * 6 + k] (List.getElem_mem hi)
  unfold Ui at this
  simp at this
  simp[hi];omega
 ·simp[Nat.le_of_not_lt hi]
def Pool.give (p:Pool) (s a b:Int):Pool × Int :=
 if p.good=true then (if Kr a=true∧0≤b∧b < 6∧0≤s∧p.ow a.toNat b.toNat=s + 1 then (p.put a.toNat b.toNat 0,0) else (p,7)) else (p,2)
def Pool.putD (p:Pool) (a:Nat) (to:Bool):Pool:={ p with dr:=p.dr.set a to }
theorem Pool.putD_wf (p:Pool) (hp:p.wf) (a:Nat) (to:Bool):(p.putD a to).wf:=⟨hp.own,by simp[Pool.putD,hp.dr]⟩
def Pool.drain (p:Pool) (a:Int) (to:Bool):Pool × Int :=
 if Kr a=true then (if p.dra a.toNat=to then (p,8) else (p.putD a.toNat to,0)) else (p,7)
theorem Pool.drain_wf (p:Pool) (hp:p.wf) (a:Int) (to:Bool):(p.drain a to).1.wf:=by
 unfold Pool.drain
 split
 ·split
  ·exact hp
  ·exact p.putD_wf hp _ _
 ·exact hp
theorem Pool.give_wf (p:Pool) (hp:p.wf) (s a b:Int):(p.give s a b).1.wf:=by
 unfold Pool.give
 split
 ·split
  ·exact p.put_wf hp _ _ _
  ·exact hp
 ·exact hp
theorem Pool.take_wf (p:Pool) (hp:p.wf) (s a d:Int):(p.take s a d).1.wf:=by
 unfold Pool.take
 split
 ·split
  ·split
   ·exact hp
   ·split
    ·exact hp
    ·exact p.put_wf hp _ _ _
  ·exact hp
 ·exact hp
theorem Qfm (a:Int) (h:Kr a=true):∃ k:Nat,a=k∧k < 3:=by
 unfold Kr at h;simp at h
 exact ⟨a.toNat,by omega,by omega⟩
theorem Xuj (l:List Int) (n i:Nat) (h:i < (Qbe l n).length):(Qbe l n).getD i 0 < n:=by
 have h2:(Qbe l n).getD i 0 ∈ Qbe l n:=by
  rw[List.getD_eq_getElem?_getD,List.getElem?_eq_getElem h];exact List.getElem_mem h
 generalize (Qbe l n).getD i 0=x at h2
 unfold Qbe at h2
 exact List.mem_range.1 (List.mem_filter.1 h2).1
theorem Qnk (p:Pool) (hp:p.wf) (a k:Nat) (ha:a < 3) (hk:k < 6):(p.row a)[k]?=some (p.ow a k):=by
 rw[Xa4 p a k hk]
 have:a * 6 + k < p.own.length:=by rw[hp.own];omega
 unfold Pool.ow
 simp[this]
theorem Xso (p:Pool) (hp:p.wf) (a:Nat) (draw:Int) (ha:a < 3) (hl:p.left a≠0):p.kth a draw < 6∧p.ow a (p.kth a draw)=0:=by
 have hlen:(Qbe (p.row a) 6).length=p.left a:=by
  rw[Qik _ 6 (by rw[Kl p hp a ha];omega),Qh0 p a ha,List.take_of_length_le (by rw[Kl p hp a ha];omega)]
 have hm:(draw % (p.left a:Int)).toNat < (Qbe (p.row a) 6).length:=by
  have m0:=Int.emod_nonneg draw (show (p.left a:Int)≠0 by omega)
  have m1:=Int.emod_lt_of_pos draw (show (0:Int) < p.left a by omega)
  rw[hlen];omega
 have hk:p.kth a draw < 6:=Xuj _ _ _ hm
 refine ⟨hk,?_⟩
 have h2:p.kth a draw ∈ Qbe (p.row a) 6:=by
  unfold Pool.kth
  rw[List.getD_eq_getElem?_getD,List.getElem?_eq_getElem hm];exact List.getElem_mem hm
 generalize p.kth a draw=x at hk h2 ⊢
 unfold Qbe at h2
 have h3:=(List.mem_filter.1 h2).2
 have h4:=Qnk p hp a x ha hk
 rw[List.getD_eq_getElem?_getD,h4]at h3
 simpa using h3
inductive Taken (p:Pool) (s a:Int):Pool × Int × Int→Prop
 | no (e:Int) (he:e≠0):Taken p s a (p,0,e)
 | yes (b k:Nat) (ha:a=b) (hb:b < 3) (hk:k < 6) (h0:0≤s) (h8:s < 8) (hg:p.good=true) (hd:p.dra b=false) (hl:p.left b≠0) (ho:p.ow b k=0):Taken p s a (p.put b k (s + 1),(k:Int),0)
theorem Xah (p:Pool) (hp:p.wf) (s a draw:Int):Taken p s a (p.take s a draw):=by
 unfold Pool.take
 split
 ·rename_i hg
  split
  ·rename_i h
   obtain ⟨b,rfl,hb⟩:=Qfm a h.1
   rw[show ((b:Int)).toNat=b by omega]
   split
   ·exact .no 9 Zde
   ·rename_i hd
    split
    ·exact .no 10 Zde
    ·rename_i hl
     obtain ⟨hk,ho⟩:=Xso p hp b draw hb hl
     exact .yes b _ rfl hb hk h.2.1 h.2.2 hg (by simpa using hd) hl ho
  ·exact .no 7 Zde
 ·exact .no 2 Zde
inductive Picked (p:Pool):Int × Int→Prop
 | no (e:Int) (he:e≠0):Picked p (0,e)
 | yes (b:Nat) (hb:b < 3) (hg:p.good=true) (hd:p.dra b=false) (hl:0 < p.left b):Picked p ((b:Int),0)
theorem Xye (p:Pool) (draw:Int):Picked p (p.pick draw):=by
 unfold Pool.pick
 split
 ·rename_i hg
  split
  ·exact .no 10 Zde
  ·rename_i hl
   have hm:(draw % ((p.opens 3).length:Int)).toNat < (p.opens 3).length:=by
    have m0:=Int.emod_nonneg draw (show ((p.opens 3).length:Int)≠0 by omega)
    have m1:=Int.emod_lt_of_pos draw (show (0:Int) < (p.opens 3).length by omega)
    omega
   have h2:(p.opens 3).getD (draw % ((p.opens 3).length:Int)).toNat 0 ∈ p.opens 3:=by
    rw[List.getD_eq_getElem?_getD,List.getElem?_eq_getElem hm];exact List.getElem_mem hm
   generalize (p.opens 3).getD (draw % ((p.opens 3).length:Int)).toNat 0=x at h2
   unfold Pool.opens at h2
   have h3:=List.mem_filter.1 h2
   have h4:=h3.2
   unfold Pool.open_ at h4
   simp at h4
   exact .yes x (List.mem_range.1 h3.1) hg h4.1 h4.2
 ·exact .no 2 Zde
def Pool.enc (p:Pool):List AV:=Qp p.own++Yv p.dr
theorem Pool.enc_len {p:Pool} (h:p.wf):p.enc.length=21:=by simp[Pool.enc,Qp,Yv,h.own,h.dr]
theorem Pool.enc_nm (p:Pool) (n:Nat):nmAll n p.enc=True:=by simp only[Pool.enc,Qk1,Qku,Qst,and_self]
theorem Pool.enc_dr {p:Pool} (h:p.wf) {b:Nat} (hb:b < 3):p.enc.getD (18 + b) .any=.bool (p.dra b):=by
 unfold Pool.enc Pool.dra
 have e:(Qp p.own++Yv p.dr)[18 + b]?=(Yv p.dr)[b]?:=by
  rw[List.getElem?_append_right (by rw[Xw,h.own];omega),Xw,h.own,show 18 + b - 18=b by omega]
 have:=Qjh (l:=p.dr) (i:=b) (by rw[h.dr];exact hb)
 simp only[List.getD]at this ⊢
 rw[e,this]
def Pool.ks:List SK:=List.replicate 18 (.int .i64)++List.replicate 3 .bool
theorem Pool.enc_kinds {p:Pool} (h:p.wf):p.enc.map Yx=Pool.ks.map some:=by
 have e1:(Qp p.own).map Yx=(List.replicate 18 (SK.int .i64)).map some:=by
  rw[← h.own];apply List.ext_getElem<;>simp[Qp,Yx]
 have e2:(Yv p.dr).map Yx=(List.replicate 3 SK.bool).map some:=by
  rw[← h.dr];apply List.ext_getElem<;>simp[Yv,Yx]
 rw[Pool.enc,Pool.ks,List.map_append,List.map_append,e1,e2]
theorem Pool.enc_rens (p:Pool) (ρ:Nat→Nat):rens ρ p.enc=p.enc:=by simp only[Pool.enc,Qfv,Qcx,Qnw]
theorem Pool.enc_frz (p:Pool) (s:FS):p.enc.map (Yi s)=p.enc:=by simp only[Pool.enc,List.map_append,Qm1,Qpi]
attribute [go_sem] Pool.enc_nm Pool.enc_rens Pool.enc_frz
structure Mp where
 proto:Int
 s:Int
 inn:Int
 a:Int
 port:Int
 deriving DecidableEq
def Mp.enc (m:Mp):List AV:=[.int .i64 m.proto,.int .i64 m.s,.int .i64 m.inn,.int .i64 m.a,.int .i64 m.port]
def mp0:Mp:=⟨0,0,0,0,0⟩
def mps (l:List Mp):List AV:=l.flatMap Mp.enc
theorem Jc (l:List Mp):(mps l).length=l.length * 5:=by
 induction l with
 | nil=>rfl
 | cons e l ih=>simp[mps,Mp.enc]at ih ⊢;omega
theorem Qd0 (l:List Mp) (k:Nat) (h:k < l.length):((mps l).drop (k * 5)).take 5=(l[k]).enc:=by
 induction l generalizing k with
 | nil=>simp at h
 | cons e l ih =>
  cases k with
  | zero=>simp[mps,Mp.enc]
  | succ k =>
   have:=ih k (by simpa using h)
   have e1:mps (e::l)=e.enc++mps l:=by simp[mps]
   rw[e1,List.drop_append,List.drop_eq_nil_of_le (by simp[Mp.enc];omega)]
   have e2:(k + 1) * 5 - e.enc.length=k * 5:=by simp[Mp.enc];omega
   rw[e2];simpa using this
theorem Qoc (a b:List Mp):mps a++mps b=mps (a++b):=by simp[mps]
theorem Xoq (l:List Mp) (m:Mp):mps l++[.int .i64 m.proto,.int .i64 m.s,.int .i64 m.inn,.int .i64 m.a,.int .i64 m.port]=mps (l++[m]):=by simp[mps,Mp.enc]
theorem Qtt (l:List Mp) (k:Nat) (h:k≤l.length):(mps l).take (k * 5)=mps (l.take k):=by
 have e:mps l=mps (l.take k)++mps (l.drop k):=by rw[Qoc,List.take_append_drop]
 rw[e,List.take_append_of_le_length (by rw[Jc,List.length_take];omega),List.take_of_length_le (by rw[Jc,List.length_take];omega)]
theorem Qoj {l:List Mp} {x:AV} (h:x ∈ mps l):∃ n,x=.int .i64 n:=by
 obtain ⟨e,_,he⟩:=List.mem_flatMap.1 h
 simp[Mp.enc]at he
 rcases he with rfl|rfl|rfl|rfl|rfl<;>exact ⟨_,rfl⟩
theorem Qrd (n:Nat) (l:List Mp):nmAll n (mps l)=True:=by
 refine eq_true ?_
 rw[Xi]
 intro x hx
 obtain ⟨k,rfl⟩:=Qoj hx
 simp[Qe]
theorem Quq (ρ:Nat→Nat) (l:List Mp):rens ρ (mps l)=mps l:=by
 rw[Yf]
 refine (List.map_congr_left (g:=id) fun x hx=>?_).trans (List.map_id _)
 obtain ⟨k,rfl⟩:=Qoj hx
 simp[ren]
theorem Xw5 (s:FS) (l:List Mp):(mps l).map (Yi s)=mps l:=by
 refine (List.map_congr_left (g:=id) fun x hx=>?_).trans (List.map_id _)
 obtain ⟨k,rfl⟩:=Qoj hx
 rfl
attribute [go_sem] Qrd Quq Xw5 Jc
structure Tb where
 pool:Pool
 home:List Int
 maps:List Mp
structure Tb.wf (t:Tb):Prop where
 pool:t.pool.wf
 home:t.home.length=8
def Tb.hd (t:Tb):List AV:=t.pool.enc++Qp t.home
theorem Tb.hd_len {t:Tb} (h:t.wf):t.hd.length=29:=by simp[Tb.hd,Pool.enc_len h.pool,Xw,h.home]
theorem Tb.hd_nm (t:Tb) (n:Nat):nmAll n t.hd=True:=by simp only[Tb.hd,Qk1,Pool.enc_nm,Qku,and_self]
theorem Tb.hd_rens (t:Tb) (ρ:Nat→Nat):rens ρ t.hd=t.hd:=by simp only[Tb.hd,Qfv,Pool.enc_rens,Qcx]
theorem Tb.hd_frz (t:Tb) (s:FS):t.hd.map (Yi s)=t.hd:=by simp only[Tb.hd,List.map_append,Pool.enc_frz,Qm1]
attribute [go_sem] Tb.hd_nm Tb.hd_rens Tb.hd_frz
def Tb.enc (t:Tb):List AV:=t.hd++[.isl t.maps.length (mps t.maps)]
theorem Tb.enc_len {t:Tb} (h:t.wf):t.enc.length=30:=by simp[Tb.enc,Tb.hd_len h]
theorem Tb.enc_nm (t:Tb) (n:Nat):nmAll n t.enc=True:=by simp[Tb.enc,Qk1,Tb.hd_nm,nmAll,Qe,Qrd]
theorem Tb.enc_rens (t:Tb) (ρ:Nat→Nat):rens ρ t.enc=t.enc:=by simp[Tb.enc,Qfv,Tb.hd_rens,rens,ren,Quq]
theorem Tb.enc_frz (t:Tb) (s:FS):t.enc.map (Yi s)=t.enc:=by simp[Tb.enc,List.map_append,Tb.hd_frz,Yi]
attribute [go_sem] Tb.enc_nm Tb.enc_rens Tb.enc_frz
theorem Tb.enc_maps {t:Tb} (h:t.wf):t.enc.getD 29 .any=.isl t.maps.length (mps t.maps):=by
 unfold Tb.enc
 rw[List.getD_eq_getElem?_getD,List.getElem?_append_right (by rw[Tb.hd_len h];decide),Tb.hd_len h];rfl
theorem Tb.enc_pool {t:Tb} (h:t.wf):t.enc.take 21=t.pool.enc:=by
 unfold Tb.enc Tb.hd
 rw[List.append_assoc,List.take_append_of_le_length (by rw[Pool.enc_len h.pool];decide),List.take_of_length_le (by rw[Pool.enc_len h.pool];decide)]
def Tb.hom (t:Tb) (s:Nat):Int:=t.home.getD s 0
theorem Tb.enc_home {t:Tb} (h:t.wf) {s:Nat} (hs:s < 8):t.enc.getD (21 + s) .any=.int .i64 (t.hom s):=by
 unfold Tb.enc Tb.hd Tb.hom
 rw[List.append_assoc,List.getD_eq_getElem?_getD,List.getElem?_append_right (by rw[Pool.enc_len h.pool];omega),Pool.enc_len h.pool,show 21 + s - 21=s by omega,List.getElem?_append_left (by rw[Xw,h.home];exact hs)]
 have hl:s < t.home.length:=by rw[h.home];exact hs
 simp[Qp,List.getD,hl]
def Jp (port:Int):Bool:=decide (1024≤port) && decide (port < 1072)
def Xr (port:Int):Int:=if Jp port=true then (port - 1024) / 8 else 0
def Zy (proto s inn:Int):Bool:=(proto == 1 || proto == 6 || proto == 17) && decide (0≤s) && decide (s < 8) && decide (0≤inn) && decide (inn≤65535)
def Zj (proto s inn:Int) (m:Mp):Bool:=m.proto == proto && m.s == s && m.inn == inn
def Zw (proto a port:Int) (m:Mp):Bool:=m.proto == proto && m.a == a && m.port == port
def mpT:Option Mp→AV
 | some m=>.tup [.agg m.enc,.bool true]
 | none=>.tup [.agg mp0.enc,.bool false]
theorem Xhj:FT Tryz.prog 56 Tryz.f56 (tcO Tryz.prog Tryz.f56) [.t 2,.t 3,.t 4]:=.of Tryz.func56
theorem Xl0:FT Tryz.prog 81 Tryz.f81 (tcO Tryz.prog Tryz.f81) [.t 6]:=.of Tryz.func81
theorem Qdw:FT Tryz.prog 52 Tryz.f52 (tcO Tryz.prog Tryz.f52) [.t 2]:=.of Tryz.func52
theorem Qvv:FT Tryz.prog 40 Tryz.f40 (tcO Tryz.prog Tryz.f40) [.cell 8 (.ag 5),.t 9]:=.of Tryz.func40
theorem Qrt:FT Tryz.prog 42 Tryz.f42 (tcO Tryz.prog Tryz.f42) [.cell 8 (.ag 5),.t 9]:=.of Tryz.func42
theorem Qo1:FT Tryz.prog 126 Tryz.f126 (tcO Tryz.prog Tryz.f126) [.t 4]:=.of Tryz.func126
theorem Qdu:FT Tryz.prog 89 Tryz.f89 (tcO Tryz.prog Tryz.f89) [.cell 10 (.ag 30),.cell 11 (.ag 5),.t 12,.t 13]:=.of Tryz.func89
theorem Xeg:FT Tryz.prog 125 Tryz.f125 (tcO Tryz.prog Tryz.f125) [.cell 3 (.ag 30),.cell 4 (.ag 5),.t 5,.t 6]:=.of Tryz.func125
theorem Xty:FT Tryz.prog 127 Tryz.f127 (tcO Tryz.prog Tryz.f127) [.cell 6 (.ag 30),.cell 7 (.ag 5),.t 8,.t 9]:=.of Tryz.func127
theorem Qg6:FT Tryz.prog 102 Tryz.f102 (tcO Tryz.prog Tryz.f102) [.cell 4 (.ag 30),.t 5,.t 6]:=.of Tryz.func102
theorem Qq1:FT Tryz.prog 140 Tryz.f140 (tcO Tryz.prog Tryz.f140) [.t 4]:=.of Tryz.func140
theorem Xcn:FT Tryz.prog 141 Tryz.f141 (tcO Tryz.prog Tryz.f141) [.t 6]:=.of Tryz.func141
theorem Qcz:FT Tryz.prog 64 Tryz.f64 (tcO Tryz.prog Tryz.f64) [.t 2]:=.of Tryz.func64
theorem Xog:FT Tryz.prog 79 Tryz.f79 (tcO Tryz.prog Tryz.f79) [.t 2]:=.of Tryz.func79
theorem Qle:FT Tryz.prog 80 Tryz.f80 (tcO Tryz.prog Tryz.f80) [.t 2]:=.of Tryz.func80
theorem Qs4:FT Tryz.prog 49 Tryz.f49 (tcO Tryz.prog Tryz.f49) [.t 4]:=.of Tryz.func49
theorem Xam:FT Tryz.prog 163 Tryz.f163 (tcO Tryz.prog Tryz.f163) [.t 4]:=.of Tryz.func163
theorem Qsp:FT Tryz.prog 128 Tryz.f128 (tcO Tryz.prog Tryz.f128) [.t 4,.t 5]:=.of Tryz.func128
theorem Qrn:FT Tryz.prog 129 Tryz.f129 (tcO Tryz.prog Tryz.f129) [.cell 8 (.ag 21),.t 9,.t 10]:=.of Tryz.func129
theorem Xs1:FT Tryz.prog 142 Tryz.f142 (tcO Tryz.prog Tryz.f142) [.cell 8 (.ag 21),.t 9]:=.of Tryz.func142
theorem Xjk:FT Tryz.prog 103 Tryz.f103 (tcO Tryz.prog Tryz.f103) [.cell 6 (.ag 21),.t 7]:=.of Tryz.func103
theorem Xml:FT Tryz.prog 61 Tryz.f61 (tcO Tryz.prog Tryz.f61) [.cell 4 (.ag 21),.t 5]:=.of Tryz.func61
theorem Qxx:FT Tryz.prog 62 Tryz.f62 (tcO Tryz.prog Tryz.f62) [.cell 4 (.ag 21),.t 5]:=.of Tryz.func62
theorem Qhz (gl:Nat→AV) (a:Int):PS Tryz.prog gl 79 [.int .i64 a] (.bool (Kr a)):=by
 refine Xog.ps (of_decide_eq_true rfl) (by simp[Qe]) fun c hN hg=>?_
 conv in tcO _ _=>cbv
 unfold Kr
 exact Qs
theorem Qrl (p:Pool) (hp:p.wf):p.enc.take 18=Qp p.own:=by
 unfold Pool.enc
 rw[List.take_append_of_le_length (by rw[Xw,hp.own];decide),List.take_of_length_le (by rw[Xw,hp.own];decide)]
theorem Qlj (p:Pool) (hp:p.wf) (a:Nat) (ha:a < 3):(p.enc.drop (a * 6)).take 6=Qp (p.row a):=by
 unfold Pool.enc Pool.row
 rw[List.drop_append_of_le_length (by rw[Xw,hp.own];omega),List.take_append_of_le_length (by rw[List.length_drop,Xw,hp.own];omega)]
 simp[Qp,List.map_drop,List.map_take]
theorem Qq6 (p:Pool) (a:Nat):(p.own.drop (a * 6)).take 6=p.row a:=rfl
theorem Qfq (p:Pool) (a k:Nat) (hk:k < 6):(p.row a).getD k 0=p.ow a k:=by
 unfold Pool.ow
 rw[List.getD_eq_getElem?_getD,List.getD_eq_getElem?_getD,Xa4 p a k hk]
theorem Qib (gl:Nat→AV) (p:Pool) (hp:p.wf):PS Tryz.prog gl 80 [.agg p.enc] (.bool p.good):=by
 refine Qle.ps (of_decide_eq_true rfl) (by simp[Qe]) fun c hN hg=>?_
 conv in tcO _ _=>cbv
 have e2:=Pool.enc_len hp
 have e3:=Qrl p hp
 refine Qg (An @e2 @e3) ?_
 refine Xl (fun a:Nat=>a≤3∧(p.own.take (a * 6)).all Ui=true) (fun a=>⟨[(8,.agg (Qp p.own)),(9,.int .i64 a)],[],0⟩) (fun a=>3 - a) Qle.mixed hN
  ⟨0,⟨by omega,rfl⟩,[],by exact Qs⟩ fun a hI=>?_
 obtain ⟨ha,hall⟩:=id hI
 clear hI
 refine Qd ?_
 (refine Qa (fun h1=>?_) (fun h1=>?_)<;>try exact h1.elim)
 ·have ha3:a < 3:=by omega
  have hr:=Qq6 p a
  have hrl:=Kl p hp a ha3
  refine Qg (An @hr @hp.own) ?_
  refine Xl (fun k:Nat=>k≤6∧(p.own.take (a * 6 + k)).all Ui=true) (fun k=>⟨[(8,.agg (Qp p.own)),(9,.int .i64 a),(12,.agg (Qp (p.row a))),(13,.int .i64 k)],[],0⟩) (fun k=>6 - k) Qle.mixed hN
   ⟨0,⟨by omega,hall⟩,[],by exact Qs⟩ fun k hJ=>?_
  obtain ⟨hk,hall2⟩:=id hJ
  clear hJ
  refine Qd ?_
  (refine Qa (fun h2=>?_) (fun h2=>?_)<;>try exact h2.elim)
  ·have hk6:k < 6:=by omega
   have hv:=Qfq p a k hk6
   have ho:p.own[a * 6 + k]?=some (p.ow a k):=by
    unfold Pool.ow
    rw[List.getD_eq_getElem?_getD,List.getElem?_eq_getElem (by rw[hp.own];omega)];rfl
   generalize p.ow a k=x at *
   refine Qg (An @hrl @hv) ?_
   (refine Qa (fun h3=>?_) (fun h3=>?_)<;>try exact h3.elim)
   ·have hb:Ui x=false:=h3.elim (Xpl x) (Xsy x)
    exact Qq (Xru p _ x ho hb)
   ·refine Qd ?_
    refine ⟨k + 1,⟨by omega,Xhx p _ x ho hall2 (Xqb x h3.1 h3.2)⟩,⟨[],?_⟩,by omega⟩
    exact Qs
  ·have:k=6:=by omega
   subst this
   refine Qd ?_
   refine ⟨a + 1,⟨by omega,by rw[show (a + 1) * 6=a * 6 + 6 by omega];exact hall2⟩,⟨[],?_⟩,by omega⟩
   exact Qs
 ·have:a=3:=by omega
  subst this
  exact Qq (Xsj p hall hp)
theorem Qsu (gl:Nat→AV) (p:Pool) (hp:p.wf) (a:Int):PS Tryz.prog gl 49 [.agg p.enc,.int .i64 a] (.int .i64 (p.left a)):=by
 refine Qs4.ps (of_decide_eq_true rfl) (by simp[Qe]) fun c hN hg=>?_
 conv in tcO _ _=>cbv
 have e2:=Pool.enc_len hp
 have hA:=Qhz c.gl a
 by_cases ha:Kr a=true
 ·obtain ⟨b,rfl,hb⟩:=Qfm a ha
  rw[ha]at hA
  have hr:=Qlj p hp b hb
  have hrl:=Kl p hp b hb
  refine Qg @e2 ?_
  refine Yt hA ?_
  (refine Qa (fun h1=>?_) (fun h1=>?_)<;>try exact h1.elim)
  refine Qg (An @e2 @hr) ?_
  refine Xl (fun k:Nat=>k≤6) (fun k=>⟨[(5,.int .i64 (Uh ((p.row b).take k):Nat)),(13,.agg (Qp (p.row b))),(14,.int .i64 k)],[],0⟩) (fun k=>6 - k) Qs4.mixed hN
   ⟨0,by omega,[],by refine Qd ?_;rfl⟩ fun k hk=>?_
  refine Qd ?_
  (refine Qa (fun h2=>?_) (fun h2=>?_)<;>try exact h2.elim)
  ·have hk6:k < 6:=by omega
   have hv:=Qfq p b k hk6
   have hs:=Qhy (p.row b) k (p.ow b k) (Qnk p hp b k hb hk6)
   have hle:=Qlw (p.row b) k
   generalize p.ow b k=x at *
   refine Qg (An @hrl @hv) ?_
   (refine Qa (fun h3=>?_) (fun h3=>?_)<;>try exact h3.elim)
   ·rw[if_pos h3]at hs
    refine Qd ?_
    refine ⟨k + 1,by omega,⟨[],?_⟩,by omega⟩
    exact Qq @hs
   ·rw[if_neg h3]at hs
    refine Qd ?_
    refine ⟨k + 1,by omega,⟨[],?_⟩,by omega⟩
    exact Qq @hs
  ·have:k=6:=by omega
   subst this
   have hf:p.left (b:Int)=Uh ((p.row b).take 6):=by rw[Qh0 p b hb,List.take_of_length_le Zom]
   exact Qq @hf
 ·have ha:Kr a=false:=by simpa using ha
  rw[ha]at hA
  have h0:=Xr0 p a ha
  refine Qg @e2 ?_
  refine Yt hA ?_
  (refine Qa (fun h1=>?_) (fun h1=>?_)<;>try exact h1.elim)
  exact Qq @h0
theorem Qmj (gl:Nat→AV) (k n:Int) (hn:0 < n) (hn2:n≤4611686018427387904):PS Tryz.prog gl 163 [.int .i64 k,.int .i64 n] (.int .i64 (k % n)):=by
 refine Xam.ps (of_decide_eq_true rfl) (by simp[Qe]) fun c hN hg=>?_
 conv in tcO _ _=>cbv
 have hb:=Qhm k n hn
 have hE:=Lib.hid (Qqz k n hn)
 refine Qd ?_
 (refine Qa (fun h1=>?_) (fun h1=>?_)<;>try exact h1.elim)
 ·have e:=hE.out
  rw[if_pos h1]at e
  exact Qs
 ·have e:=hE.out
  rw[if_neg h1]at e
  exact Qs
theorem Xea (l:List Int):Uh (l.take 0)=0:=rfl
def natI (l:List Nat):List Int:=l.map fun (a:Nat)=>(a:Int)
theorem Qfx (l:List Nat):(natI l).length=l.length:=by simp[natI]
theorem Qra (l:List Nat) (i:Nat) (h:i < l.length):(natI l).getD i 0=((l.getD i 0:Nat):Int):=by simp[natI,List.getD,h]
theorem Qpr (l:List Nat) (k:Nat):natI l++[(k:Int)]=natI (l++[k]):=by simp[natI]
set_option maxHeartbeats 1000000 in
theorem Xpp (gl:Nat→AV) (p:Pool) (hp:p.wf) (draw:Int):PS Tryz.prog gl 128 [.agg p.enc,.int .i64 draw] (.tup [.int .i64 (p.pick draw).1,.int .i64 (p.pick draw).2]):=by
 refine Qsp.ps (of_decide_eq_true rfl) (by simp[Qe,nmAll]) fun c hN hg=>?_
 conv in tcO _ _=>cbv
 have e2:=Pool.enc_len hp
 have hG:=Qib c.gl p hp
 by_cases hgd:p.good=true
 rotate_left
 ·have hr:p.pick draw=(0,2):=if_neg hgd
  have hgd:p.good=false:=by simpa using hgd
  rw[hgd]at hG
  rw[hr]
  refine Qg @e2 ?_
  refine Xa hG @e2 ?_
  (refine Qa (fun h1=>?_) (fun h1=>?_)<;>try exact h1.elim)
  exact Qs
 have hr:p.pick draw=(if (p.opens 3).length=0 then ((0:Int),(10:Int)) else ((((p.opens 3).getD (draw % ((p.opens 3).length:Int)).toNat 0:Nat):Int),(0:Int))):=if_pos hgd
 rw[hgd]at hG
 rw[hr]
 clear hr
 refine Qg @e2 ?_
 refine Xa hG @e2 ?_
 (refine Qa (fun h1=>?_) (fun h1=>?_)<;>try exact h1.elim)
 refine Qd ?_
 refine Qdv 6 1 rfl rfl ?_
 refine Xl (fun k:Nat=>k≤3) (fun k=>⟨[(1,.int .i64 draw),(2,.ptr 0 0),(6,.sl 1 1 0 (p.opens k).length (p.opens k).length),(11,.int .i64 k)],[(0,.cells p.enc),(1,.cells (Qp (natI (p.opens k))))],2⟩) (fun k=>3 - k) Qsp.mixed hN
  ⟨0,by omega,[],by (have zf1:=@St.named.eq_1;refine XG ?_;clear zf1;((try (repeat' with_reducible refine And.intro ?_ ?_));(try any_goals (first|refine zm ?_|exact CL|fail))))<;>exact rfl⟩ fun k hk=>?_
 have hol:=Xrk p k
 refine Qd ?_
 (refine Qa (fun h2=>?_) (fun h2=>?_)<;>try exact h2.elim)
 ·have hk3:k < 3:=by omega
  have hd:=Pool.enc_dr hp hk3
  have hL:=Qsu c.gl p hp k
  have hos:=Xfa p k
  unfold Pool.open_ at hos
  have hnl:=Qfx (p.opens k)
  cases hdk:p.dra k with
  | true =>
   rw[hdk]at hd hos
   have hos:p.opens (k + 1)=p.opens k:=by simpa using hos
   refine Qg (An @e2 @hd) ?_
   ((first|apply Yd|apply Xu)<;>(refine XG ?_;first|exact rfl|exact True.intro|((try (repeat' with_reducible refine And.intro ?_ ?_));(try any_goals (first|refine zm ?_|exact CL|fail)))))
   (refine Qa (fun h3=>?_) (fun h3=>?_)<;>try exact h3.elim)
   refine Qd ?_
   refine ⟨k + 1,by omega,⟨[],?_⟩,by omega⟩
   exact Qq @hos
  | false =>
   rw[hdk]at hd hos
   refine Qg (An @e2 @hd) ?_
   refine Xa hL (An @e2 @hd) ?_
   (refine Qa (fun h3=>?_) (fun h3=>?_)<;>try exact h3.elim)
   ·have hos:p.opens (k + 1)=p.opens k++[k]:=by rw[hos];simp;omega
    have hsn:=Qpr (p.opens k) k
    have hln:(p.opens k++[k]).length=(p.opens k).length + 1:=by simp
    refine Qd ?_
    refine Jh ?_
    refine Zr @hnl ?_
    refine ⟨k + 1,by omega,⟨[(1,3)],?_⟩,by omega⟩
    exact Qq (An @hos (An @hsn @hln))
   ·have hos:p.opens (k + 1)=p.opens k:=by rw[hos];simp;omega
    refine Qd ?_
    refine ⟨k + 1,by omega,⟨[],?_⟩,by omega⟩
    exact Qq @hos
 ·have:k=3:=by omega
  subst this
  have hnl:=Qfx (p.opens 3)
  by_cases hz:(p.opens 3).length=0
  ·rw[if_pos hz]
   refine Qd ?_
   (refine Qa (fun h3=>?_) (fun h3=>?_)<;>try exact h3.elim)
   ·exact Qs
   ·omega
  ·rw[if_neg hz]
   have hC:=Qmj c.gl draw (p.opens 3).length Zom Zom
   have m0:=Int.emod_nonneg draw (show ((p.opens 3).length:Int)≠0 by omega)
   have m1:=Int.emod_lt_of_pos draw (show (0:Int) < (p.opens 3).length by omega)
   have hgt:=Qra (p.opens 3) (draw % ((p.opens 3).length:Int)).toNat Zom
   generalize draw % ((p.opens 3).length:Int)=d at *
   refine Qd ?_
   (refine Qa (fun h3=>?_) (fun h3=>?_)<;>try exact h3.elim)
   ·omega
   refine Qd ?_
   exact Qjq hC (An @hnl @hgt)
theorem Qzs (p:Pool) (a k:Nat) (o:Int) (h:a * 6 + k < p.own.length):p.enc.set (a * 6 + k) (.int .i64 o)=(p.put a k o).enc:=by
 unfold Pool.enc Pool.put
 rw[List.set_append_left _ _ (by rw[Xw];exact h)]
 simp[Qp,List.map_set]
theorem Xrd (p:Pool) (hp:p.wf) (a:Nat) (to:Bool):p.enc.set (18 + a) (.bool to)=(p.putD a to).enc:=by
 unfold Pool.enc Pool.putD
 rw[List.set_append_right _ _ (by rw[Xw,hp.own];omega),Xw,hp.own,show 18 + a - 18=a by omega]
 simp[Yv,List.map_set]
theorem Xib (p:Pool) (hp:p.wf) (a k:Nat) (ha:a < 3) (hk:k < 6):p.enc.getD (a * 6 + k) .any=.int .i64 (p.ow a k):=by
 have h:a * 6 + k < p.own.length:=by rw[hp.own];omega
 unfold Pool.enc Pool.ow
 rw[List.getD_eq_getElem?_getD,List.getElem?_append_left (by rw[Xw];exact h),List.getD_eq_getElem?_getD]
 simp[Qp,h]
def Qep (x:Pool × Int × Int):AV:=.tup [.agg x.1.enc,.int .i64 x.2.1,.int .i64 x.2.2]
def Wl (x:Pool × Int):AV:=.tup [.agg x.1.enc,.int .i64 x.2]
set_option maxHeartbeats 2000000 in
theorem Qvc (gl:Nat→AV) (p:Pool) (hp:p.wf) (s a draw:Int):PS Tryz.prog gl 129 [.agg p.enc,.int .i64 s,.int .i64 a,.int .i64 draw] (Qep (p.take s a draw)):=by
 refine Qrn.ps (of_decide_eq_true rfl) (by simp[Qe,nmAll,Qep,Pool.enc_nm]) fun c hN hg=>?_
 conv in tcO _ _=>cbv
 have e2:=Pool.enc_len hp
 have hG:=Qib c.gl p hp
 have hA:=Qhz c.gl a
 by_cases hgd:p.good=true
 rotate_left
 ·have hr:p.take s a draw=(p,0,2):=if_neg hgd
  have hgd:p.good=false:=by simpa using hgd
  rw[hgd]at hG
  rw[hr]
  unfold Qep
  refine Qg @e2 ?_
  refine Xa hG @e2 ?_
  (refine Qa (fun h1=>?_) (fun h1=>?_)<;>try exact h1.elim)
  exact Qq @e2
 by_cases has:Kr a=true∧0≤s∧s < 8
 rotate_left
 ·have hr:p.take s a draw=(p,0,7):=(if_pos hgd).trans (if_neg has)
  rw[hr]
  rw[hgd]at hG
  unfold Qep
  have hb:(!Kr a || decide (s < 0) || decide (8≤s))=true:=by
   cases ha:Kr a
   ·rfl
   ·have:s < 0∨8≤s:=by
     by_cases h1:s < 0
     ·exact .inl h1
     ·exact .inr (by have:¬ (0≤s∧s < 8):=fun h=>has ⟨ha,h⟩;omega)
    simpa using this
  refine Qg @e2 ?_
  refine Xa hG @e2 ?_
  (refine Qa (fun h1=>?_) (fun h1=>?_)<;>try exact h1.elim)
  refine Qg @e2 ?_
  refine Xa hA (An @e2 @hb) ?_
  (refine Qa (fun h2=>?_) (fun h2=>?_)<;>try exact h2.elim)
  exact Qq @e2
 obtain ⟨ha,hs0,hs1⟩:=has
 obtain ⟨b,rfl,hb⟩:=Qfm a ha
 have hd:=Pool.enc_dr hp hb
 have hL:=Qsu c.gl p hp b
 by_cases hdr:p.dra b=true
 ·have hr:p.take s b draw=(p,0,9):=(if_pos hgd).trans ((if_pos ⟨ha,hs0,hs1⟩).trans (if_pos (by rw[Int.toNat_natCast];exact hdr)))
  rw[hr]
  rw[hgd]at hG
  rw[ha]at hA
  rw[hdr]at hd
  unfold Qep
  refine Qg @e2 ?_
  refine Xa hG @e2 ?_
  (refine Qa (fun h1=>?_) (fun h1=>?_)<;>try exact h1.elim)
  refine Qg @e2 ?_
  refine Xa hA @e2 ?_
  (refine Qa (fun h2=>?_) (fun h2=>?_)<;>try exact h2.elim)
  ·omega
  refine Qg (An @e2 @hd) ?_
  (refine Qa (fun h3=>?_) (fun h3=>?_)<;>try exact h3.elim)
  exact Qq @e2
 have hdr:p.dra b=false:=by simpa using hdr
 by_cases hl0:p.left b=0
 ·have hr:p.take s b draw=(p,0,10):=(if_pos hgd).trans ((if_pos ⟨ha,hs0,hs1⟩).trans ((if_neg (by rw[Int.toNat_natCast,hdr];simp)).trans (if_pos hl0)))
  rw[hr]
  rw[hgd]at hG
  rw[ha]at hA
  rw[hdr]at hd
  rw[hl0]at hL
  unfold Qep
  refine Qg @e2 ?_
  refine Xa hG @e2 ?_
  (refine Qa (fun h1=>?_) (fun h1=>?_)<;>try exact h1.elim)
  refine Qg @e2 ?_
  refine Xa hA @e2 ?_
  (refine Qa (fun h2=>?_) (fun h2=>?_)<;>try exact h2.elim)
  ·omega
  refine Qg (An @e2 @hd) ?_
  (refine Qa (fun h3=>?_) (fun h3=>?_)<;>try exact h3.elim)
  refine Qg @e2 ?_
  refine Xa hL @e2 ?_
  (refine Qa (fun h4=>?_) (fun h4=>?_)<;>try exact h4.elim)
  exact Qq @e2
 have hr:p.take s b draw=(p.put b (p.kth b draw) (s + 1),((p.kth b draw:Nat):Int),0):=(if_pos hgd).trans ((if_pos ⟨ha,hs0,hs1⟩).trans ((if_neg (by rw[Int.toNat_natCast,hdr];simp)).trans ((if_neg hl0).trans (by rw[Int.toNat_natCast]))))
 rw[hr]
 rw[hgd]at hG
 rw[ha]at hA
 rw[hdr]at hd
 clear hr
 have hC:=Qmj c.gl draw (p.left b) Zom (by have:=Qh0 p b hb;have:=Qlw (p.row b) 6;rw[List.take_of_length_le (by rw[Kl p hp b hb];omega)]at this;omega)
 have m0:=Int.emod_nonneg draw (show (p.left b:Int)≠0 by omega)
 have m1:=Int.emod_lt_of_pos draw (show (0:Int) < p.left b by omega)
 have hkth:∀ i,i < 6→p.ow b i=0→(Uh ((p.row b).take i):Int)=draw % (p.left b:Int)→p.kth b draw=i:=fun i hi h0 he=>by
  have h1:=Xa0 (p.row b) i (by rw[Kl p hp b hb];exact hi) (by rw[Qnk p hp b i hb hi,h0]) 6 hi
  unfold Pool.kth
  rw[← he,Int.toNat_natCast,List.getD_eq_getElem?_getD,h1];rfl
 have hl6:p.left b≤6:=by
  have h1:=Qh0 p b hb
  have h2:=Qlw (p.row b) 6
  rw[List.take_of_length_le (by rw[Kl p hp b hb];omega)]at h2;omega
 have hfz:((Uh []:Nat):Int)=0:=rfl
 have hlf:Uh ((p.row b).take 6)=p.left b:=by rw[Qh0 p b hb,List.take_of_length_le (by rw[Kl p hp b hb];omega)]
 generalize draw % (p.left b:Int)=D at *
 have hrw:=Qlj p hp b hb
 have hrl:=Kl p hp b hb
 unfold Qep
 refine Qg @e2 ?_
 refine Xa hG @e2 ?_
 (refine Qa (fun h1=>?_) (fun h1=>?_)<;>try exact h1.elim)
 refine Qg @e2 ?_
 refine Xa hA @e2 ?_
 (refine Qa (fun h2=>?_) (fun h2=>?_)<;>try exact h2.elim)
 ·omega
 refine Qg (An @e2 @hd) ?_
 (refine Qa (fun h3=>?_) (fun h3=>?_)<;>try exact h3.elim)
 refine Qg @e2 ?_
 refine Xa hL @e2 ?_
 (refine Qa (fun h4=>?_) (fun h4=>?_)<;>try exact h4.elim)
 ·omega
 refine Qg @e2 ?_
 refine Xa hL @e2 ?_
 refine Xa hC @e2 ?_
 refine Qg (An @e2 @hrw) ?_
 have hown:∀ i,i < 6→b * 6 + i < p.own.length:=fun i hi=>by rw[hp.own];omega
 refine Xl (fun i:Nat=>i≤6∧(Uh ((p.row b).take i):Int)≤D) (fun i=>⟨[(1,.int .i64 s),(2,.int .i64 b),(4,.ptr 0 0),(8,.ptr 1 0),(11,.int .i64 (D - (Uh ((p.row b).take i):Nat))),(52,.agg (Qp (p.row b))),(53,.int .i64 i)],[(0,.cells p.enc),(1,.cells [.int .i64 0,.int .i64 0,.int .i64 0,.int .i64 0,.int .i64 0,.int .i64 0,.int .i64 0,.int .i64 0,.int .i64 0,.int .i64 0,.int .i64 0,.int .i64 0,.int .i64 0,.int .i64 0,.int .i64 0,.int .i64 0,.int .i64 0,.int .i64 0,.bool false,.bool false,.bool false])],2⟩) (fun i=>6 - i) Qrn.mixed hN
  ⟨0,⟨by omega,by rw[Xea];omega⟩,[],by exact Qq (An @hfz @Int.sub_zero)⟩ fun i hI=>?_
 obtain ⟨hi,hle⟩:=id hI
 clear hI
 refine Qd ?_
 (refine Qa (fun h5=>?_) (fun h5=>?_)<;>try exact h5.elim)
 ·have hi6:i < 6:=by omega
  have hv:=Qfq p b i hi6
  have hs:=Qhy (p.row b) i (p.ow b i) (Qnk p hp b i hb hi6)
  have hk2:=hkth i hi6
  have hpe:=Qzs p b i (s + 1) (hown i hi6)
  generalize p.ow b i=x at *
  refine Qg (An @hrl @hv) ?_
  (refine Qa (fun h6=>?_) (fun h6=>?_)<;>try exact h6.elim)
  ·rw[if_neg h6]at hs
   refine Qd ?_
   refine ⟨i + 1,⟨by omega,by rw[hs];omega⟩,⟨[],?_⟩,by omega⟩
   exact Qq @hs
  ·rw[if_pos h6]at hs
   refine Qd ?_
   (refine Qa (fun h7=>?_) (fun h7=>?_)<;>try exact h7.elim)
   ·have hk3:=hk2 h6 Zom
    rw[hk3]
    have e3:=Pool.enc_len (p.put_wf hp b i (s + 1))
    exact Qq (An @e2 (An @hpe @e3))
   ·refine Qd ?_
    refine ⟨i + 1,⟨by omega,by rw[hs];omega⟩,⟨[],?_⟩,by omega⟩
    exact Qq @hs
 ·have:i=6:=by omega
  subst this
  omega
set_option maxHeartbeats 2000000 in
theorem Xri (gl:Nat→AV) (p:Pool) (hp:p.wf) (s a b:Int) (hsb:s≤9223372036854775806):PS Tryz.prog gl 142 [.agg p.enc,.int .i64 s,.int .i64 a,.int .i64 b] (Wl (p.give s a b)):=by
 refine Xs1.ps (of_decide_eq_true rfl) (by simp[Qe,nmAll,Wl,Pool.enc_nm]) fun c hN hg=>?_
 conv in tcO _ _=>cbv
 have e2:=Pool.enc_len hp
 have hG:=Qib c.gl p hp
 have hA:=Qhz c.gl a
 by_cases hgd:p.good=true
 rotate_left
 ·have hr:p.give s a b=(p,2):=if_neg hgd
  have hgd:p.good=false:=by simpa using hgd
  rw[hgd]at hG
  rw[hr]
  unfold Wl
  refine Qg @e2 ?_
  refine Xa hG @e2 ?_
  (refine Qa (fun h1=>?_) (fun h1=>?_)<;>try exact h1.elim)
  exact Qq @e2
 rw[hgd]at hG
 by_cases hin:Kr a=true∧0≤b∧b < 6∧0≤s
 rotate_left
 ·have hr:p.give s a b=(p,7):=(if_pos hgd).trans (if_neg fun h=>hin ⟨h.1,h.2.1,h.2.2.1,h.2.2.2.1⟩)
  rw[hr]
  unfold Wl
  have hb:(!Kr a || decide (b < 0) || decide (6≤b) || decide (s < 0))=true:=by
   cases ha:Kr a
   ·rfl
   ·have:(b < 0∨6≤b)∨s < 0:=by
     have:¬ (0≤b∧b < 6∧0≤s):=fun h=>hin ⟨ha,h⟩
     omega
    simpa using this
  refine Qg @e2 ?_
  refine Xa hG @e2 ?_
  (refine Qa (fun h1=>?_) (fun h1=>?_)<;>try exact h1.elim)
  refine Qg @e2 ?_
  refine Xa hA (An @e2 @hb) ?_
  (refine Qa (fun h2=>?_) (fun h2=>?_)<;>try exact h2.elim)
  exact Qq @e2
 obtain ⟨ha,hb0,hb1,hs0⟩:=hin
 rw[ha]at hA
 obtain ⟨a,rfl,ha3⟩:=Qfm a ha
 obtain ⟨b,rfl⟩:=Int.eq_ofNat_of_zero_le hb0
 have hb6:b < 6:=by omega
 have hov:=Xib p hp a b ha3 hb6
 have hpe:=Qzs p a b 0 (by rw[hp.own];omega)
 have e3:=Pool.enc_len (p.put_wf hp a b 0)
 by_cases ho:p.ow a b=s + 1
 ·have hr:p.give s a b=(p.put a b 0,0):=(if_pos hgd).trans (if_pos ⟨ha,hb0,hb1,hs0,by rw[Int.toNat_natCast,Int.toNat_natCast];exact ho⟩)
  rw[hr]
  rw[ho]at hov
  unfold Wl
  refine Qg @e2 ?_
  refine Xa hG @e2 ?_
  (refine Qa (fun h1=>?_) (fun h1=>?_)<;>try exact h1.elim)
  refine Qg @e2 ?_
  refine Xa hA (An @e2 @hov) ?_
  (refine Qa (fun h2=>?_) (fun h2=>?_)<;>try exact h2.elim)
  ·omega
  exact Qq (An @e2 (An @hpe @e3))
 ·have hr:p.give s a b=(p,7):=(if_pos hgd).trans (if_neg fun h=>ho (by have:=h.2.2.2.2;rwa [Int.toNat_natCast,Int.toNat_natCast]at this))
  rw[hr]
  unfold Wl
  generalize p.ow a b=o at *
  refine Qg @e2 ?_
  refine Xa hG @e2 ?_
  (refine Qa (fun h1=>?_) (fun h1=>?_)<;>try exact h1.elim)
  refine Qg @e2 ?_
  refine Xa hA (An @e2 @hov) ?_
  (refine Qa (fun h2=>?_) (fun h2=>?_)<;>try exact h2.elim)
  ·exact Qq @e2
  ·omega
theorem Qpv (gl:Nat→AV) (p:Pool) (hp:p.wf) (a:Int) (to:Bool):PS Tryz.prog gl 103 [.agg p.enc,.int .i64 a,.bool to] (Wl (p.drain a to)):=by
 refine Xjk.ps (of_decide_eq_true rfl) (by simp[Qe,nmAll,Wl,Pool.enc_nm]) fun c hN hg=>?_
 conv in tcO _ _=>cbv
 have e2:=Pool.enc_len hp
 have hA:=Qhz c.gl a
 by_cases ha:Kr a=true
 rotate_left
 ·have hr:p.drain a to=(p,7):=if_neg ha
  have ha:Kr a=false:=by simpa using ha
  rw[ha]at hA
  rw[hr]
  unfold Wl
  refine Qg @e2 ?_
  refine Xa hA @e2 ?_
  (refine Qa (fun h1=>?_) (fun h1=>?_)<;>try exact h1.elim)
  exact Qq @e2
 rw[ha]at hA
 obtain ⟨a,rfl,ha3⟩:=Qfm a ha
 have hd:=Pool.enc_dr hp ha3
 have hpe:=Xrd p hp a to
 have e3:=Pool.enc_len (p.putD_wf hp a to)
 by_cases hdt:p.dra a=to
 ·have hr:p.drain a to=(p,8):=(if_pos ha).trans (if_pos (by rw[Int.toNat_natCast];exact hdt))
  rw[hr]
  rw[hdt]at hd
  unfold Wl
  refine Qg @e2 ?_
  refine Xa hA @e2 ?_
  (refine Qa (fun h1=>?_) (fun h1=>?_)<;>try exact h1.elim)
  refine Qg (An @e2 @hd) ?_
  (refine Qa (fun h2=>?_) (fun h2=>?_)<;>try exact h2.elim)
  exact Qq @e2
 ·have hr:p.drain a to=(p.putD a to,0):=(if_pos ha).trans ((if_neg (by rw[Int.toNat_natCast];exact hdt)).trans (by rw[Int.toNat_natCast]))
  rw[hr]
  unfold Wl
  generalize p.dra a=d at *
  refine Qg @e2 ?_
  refine Xa hA @e2 ?_
  (refine Qa (fun h1=>?_) (fun h1=>?_)<;>try exact h1.elim)
  refine Qg (An @e2 @hd) ?_
  (refine Qa (fun h2=>?_) (fun h2=>?_)<;>try exact h2.elim)
  ·exact (hdt h2).elim
  exact Qq (An @e2 (An @hpe @e3))
theorem Qpt (gl:Nat→AV) (p:Pool) (hp:p.wf) (a:Int):PS Tryz.prog gl 61 [.agg p.enc,.int .i64 a] (Wl (p.drain a true)):=by
 refine Xml.ps (of_decide_eq_true rfl) (by simp[Qe,nmAll,Wl,Pool.enc_nm]) fun c hN hg=>?_
 conv in tcO _ _=>cbv
 have e2:=Pool.enc_len hp
 have hD:=Qpv c.gl p hp a true
 have e3:=Pool.enc_len (p.drain_wf hp a true)
 unfold Wl at hD ⊢
 refine Qg @e2 ?_
 exact Qjq hD (An @e2 @e3)
theorem Qxn (gl:Nat→AV) (p:Pool) (hp:p.wf) (a:Int):PS Tryz.prog gl 62 [.agg p.enc,.int .i64 a] (Wl (p.drain a false)):=by
 refine Qxx.ps (of_decide_eq_true rfl) (by simp[Qe,nmAll,Wl,Pool.enc_nm]) fun c hN hg=>?_
 conv in tcO _ _=>cbv
 have e2:=Pool.enc_len hp
 have hD:=Qpv c.gl p hp a false
 have e3:=Pool.enc_len (p.drain_wf hp a false)
 unfold Wl at hD ⊢
 refine Qg @e2 ?_
 exact Qjq hD (An @e2 @e3)
def Qk0 (port:Int):AV:=.tup [.int .i64 (Xr port),.int .i64 (if Jp port=true then (port - 1024) % 8 else 0),.bool (Jp port)]
theorem Qgl (gl:Nat→AV) (port:Int) (hp:-9223372036854775808≤port∧port≤9223372036854775807):PS Tryz.prog gl 56 [.int .i64 port] (Qk0 port):=by
 refine Xhj.ps (of_decide_eq_true rfl) (by simp[Qk0,Qe,nmAll]) fun c hN hg=>?_
 conv in tcO _ _=>cbv
 by_cases h:Jp port=true
 ·have h':=h
  unfold Jp at h'
  simp at h'
  have e1:(port - 1024).tdiv 8=(port - 1024) / 8:=Int.tdiv_eq_ediv_of_nonneg Zom
  have e2:(port - 1024).tmod 8=(port - 1024) % 8:=Int.tmod_eq_emod_of_nonneg Zom
  unfold Qk0 Xr
  rw[if_pos h,if_pos h,h]
  refine Qd ?_
  (refine Qa (fun h1=>?_) (fun h1=>?_)<;>try exact h1.elim)
  ·omega
  exact Qq (An @e1 @e2)
 ·have h':=h
  unfold Jp at h'
  simp at h'
  have hb:Jp port=false:=by simpa using h
  unfold Qk0 Xr
  rw[if_neg h,if_neg h,hb]
  by_cases hlo:port < 1024
  ·have d1:decide (port < 1024)=true:=by simpa using hlo
   have e0:∃ x,IntKind.i64.wrap (port - 1024)=x:=⟨_,rfl⟩
   obtain ⟨x,hx⟩:=e0
   refine Qg (An @d1 @hx) ?_
   (refine Qa (fun h1=>?_) (fun h1=>?_)<;>try exact h1.elim)
   exact Qs
  ·refine Qd ?_
   (refine Qa (fun h1=>?_) (fun h1=>?_)<;>try exact h1.elim)
   ·exact Qs
   ·omega
theorem Qit (gl:Nat→AV) (proto s inn:Int):PS Tryz.prog gl 81 [.int .i64 proto,.int .i64 s,.int .i64 inn] (.bool (Zy proto s inn)):=by
 refine Xl0.ps (of_decide_eq_true rfl) (by simp[Qe]) fun c hN hg=>?_
 conv in tcO _ _=>cbv
 unfold Zy
 exact Qs
set_option maxHeartbeats 1000000 in
theorem Qsb (gl:Nat→AV) (t:Tb) (ht:t.wf) (hl:t.maps.length≤4611686018427387904) (proto s inn:Int):PS Tryz.prog gl 40 [.agg t.enc,.int .i64 proto,.int .i64 s,.int .i64 inn] (mpT (t.maps.find? (Zj proto s inn))):=by
 refine Qvv.ps (of_decide_eq_true rfl) (by cases t.maps.find? (Zj proto s inn)<;>simp[mpT,Qe,nmAll,Mp.enc]) fun c hN hg=>?_
 conv in tcO _ _=>cbv
 have e2:=Tb.enc_len ht
 have e3:=Tb.enc_maps ht
 have hel:=Jc t.maps
 generalize hR:t.maps.find? (Zj proto s inn)=R
 refine Qg (An @e2 @e3) ?_
 refine Xl (fun k:Nat=>k≤t.maps.length∧(t.maps.drop k).find? (Zj proto s inn)=R) (fun k=>⟨[(1,.int .i64 proto),(2,.int .i64 s),(3,.int .i64 inn),(8,.ptr 1 0),(13,.isl t.maps.length (mps t.maps)),(14,.int .i64 t.maps.length),(15,.int .i64 k)],[(0,.cells t.enc),(1,.cells [.int .i64 0,.int .i64 0,.int .i64 0,.int .i64 0,.int .i64 0])],2⟩) (fun k=>t.maps.length - k) Qvv.mixed hN
  ⟨0,⟨by omega,by rw[List.drop_zero];exact hR⟩,[],by exact Qs⟩ fun k hI=>?_
 obtain ⟨hk,hf⟩:=id hI
 clear hI
 refine Qd ?_
 (refine Qa (fun h1=>?_) (fun h1=>?_)<;>try exact h1.elim)
 ·have hkn:k < t.maps.length:=by omega
  have hcut:=Qd0 t.maps k hkn
  rw[List.drop_eq_getElem_cons hkn,List.find?_cons]at hf
  generalize t.maps[k]=m at *
  obtain ⟨mp,ms,mi,ma,mt⟩:=m
  unfold Zj at hf
  simp only[Mp.enc]at hcut
  dsimp only at hf
  refine Qg (An @hel @hcut) ?_
  (refine Qa (fun h2=>?_) (fun h2=>?_)<;>try exact h2.elim)
  ·have hc:(mp == proto && ms == s && mi == inn)=true:=by simp[h2]
   rw[hc]at hf
   dsimp only at hf
   subst hf
   unfold mpT Mp.enc
   exact Qs
  ·have hc:(mp == proto && ms == s && mi == inn)=false:=by
    cases hb:(mp == proto && ms == s && mi == inn)
    ·rfl
    ·simp at hb;omega
   rw[hc]at hf
   dsimp only at hf
   refine Qd ?_
   refine ⟨k + 1,⟨by omega,hf⟩,⟨[],?_⟩,by omega⟩
   exact Qs
 ·have:k=t.maps.length:=by omega
  subst this
  rw[List.drop_length]at hf
  subst hf
  unfold mpT mp0 Mp.enc
  refine Qd ?_
  exact rfl
set_option maxHeartbeats 1000000 in
theorem Que (gl:Nat→AV) (t:Tb) (ht:t.wf) (hl:t.maps.length≤4611686018427387904) (proto a port:Int):PS Tryz.prog gl 42 [.agg t.enc,.int .i64 proto,.int .i64 a,.int .i64 port] (mpT (t.maps.find? (Zw proto a port))):=by
 refine Qrt.ps (of_decide_eq_true rfl) (by cases t.maps.find? (Zw proto a port)<;>simp[mpT,Qe,nmAll,Mp.enc]) fun c hN hg=>?_
 conv in tcO _ _=>cbv
 have e2:=Tb.enc_len ht
 have e3:=Tb.enc_maps ht
 have hel:=Jc t.maps
 generalize hR:t.maps.find? (Zw proto a port)=R
 refine Qg (An @e2 @e3) ?_
 refine Xl (fun k:Nat=>k≤t.maps.length∧(t.maps.drop k).find? (Zw proto a port)=R) (fun k=>⟨[(1,.int .i64 proto),(2,.int .i64 a),(3,.int .i64 port),(8,.ptr 1 0),(13,.isl t.maps.length (mps t.maps)),(14,.int .i64 t.maps.length),(15,.int .i64 k)],[(0,.cells t.enc),(1,.cells [.int .i64 0,.int .i64 0,.int .i64 0,.int .i64 0,.int .i64 0])],2⟩) (fun k=>t.maps.length - k) Qrt.mixed hN
  ⟨0,⟨by omega,by rw[List.drop_zero];exact hR⟩,[],by exact Qs⟩ fun k hI=>?_
 obtain ⟨hk,hf⟩:=id hI
 clear hI
 refine Qd ?_
 (refine Qa (fun h1=>?_) (fun h1=>?_)<;>try exact h1.elim)
 ·have hkn:k < t.maps.length:=by omega
  have hcut:=Qd0 t.maps k hkn
  rw[List.drop_eq_getElem_cons hkn,List.find?_cons]at hf
  generalize t.maps[k]=m at *
  obtain ⟨mp,ms,mi,ma,mt⟩:=m
  unfold Zw at hf
  simp only[Mp.enc]at hcut
  dsimp only at hf
  refine Qg (An @hel @hcut) ?_
  (refine Qa (fun h2=>?_) (fun h2=>?_)<;>try exact h2.elim)
  ·have hc:(mp == proto && ma == a && mt == port)=true:=by simp[h2]
   rw[hc]at hf
   dsimp only at hf
   subst hf
   unfold mpT Mp.enc
   exact Qs
  ·have hc:(mp == proto && ma == a && mt == port)=false:=by
    cases hb:(mp == proto && ma == a && mt == port)
    ·rfl
    ·simp at hb;omega
   rw[hc]at hf
   dsimp only at hf
   refine Qd ?_
   refine ⟨k + 1,⟨by omega,hf⟩,⟨[],?_⟩,by omega⟩
   exact Qs
 ·have:k=t.maps.length:=by omega
  subst this
  rw[List.drop_length]at hf
  subst hf
  unfold mpT mp0 Mp.enc
  refine Qd ?_
  exact rfl
theorem Tb.enc_row {t:Tb} (h:t.wf) {a:Nat} (ha:a < 3):(t.enc.drop (a * 6)).take 6=Qp (t.pool.row a):=by
 have e:=Qlj t.pool h.pool a ha
 unfold Tb.enc Tb.hd
 rw[List.append_assoc,List.drop_append_of_le_length (by rw[Pool.enc_len h.pool];omega),List.take_append_of_le_length (by rw[List.length_drop,Pool.enc_len h.pool];omega),e]
def Kp (t:Tb) (s n:Nat):List Nat:=(List.range n).filter fun k=>t.pool.ow (t.hom s - 1).toNat k == (s:Int) + 1
theorem Xln (t:Tb) (s n:Nat):Kp t s (n + 1)=Kp t s n++if t.pool.ow (t.hom s - 1).toNat n=(s:Int) + 1 then [n] else []:=by
 unfold Kp;rw[List.range_succ,List.filter_append];simp[List.filter_cons]
theorem Qz6 (t:Tb) (s n:Nat):(Kp t s n).length≤n:=by
 have:=List.length_filter_le (fun k=>t.pool.ow (t.hom s - 1).toNat k == (s:Int) + 1) (List.range n);simpa [Kp] using this
def Qgi (t:Tb) (s:Nat):AV:=if 1≤t.hom s then .isl (Kp t s 6).length (Qp (natI (Kp t s 6))) else .nils
theorem Xup (n:Nat) (t:Tb) (s:Nat):Qe n (Qgi t s):=by unfold Qgi;split<;>simp[Qe,Qku]
set_option maxHeartbeats 1000000 in
theorem Qml (gl:Nat→AV) (t:Tb) (ht:t.wf) (s:Nat) (hs:s < 8) (h3:0≤t.hom s∧t.hom s≤3):PS Tryz.prog gl 126 [.agg t.enc,.int .i64 s] (Qgi t s):=by
 refine Qo1.ps (of_decide_eq_true rfl) (Xup 0 t s) fun c hN hg=>?_
 conv in tcO _ _=>cbv
 have e2:=Tb.enc_len ht
 have eh:=Tb.enc_home ht hs
 by_cases h1:1≤t.hom s
 rotate_left
 ·have hr:Qgi t s=.nils:=if_neg h1
  rw[hr]
  generalize t.hom s=h at *
  refine Qg (An @e2 @eh) ?_
  (refine Qa (fun g1=>?_) (fun g1=>?_)<;>try exact g1.elim)
  ·omega
  exact Qs
 have hr:Qgi t s=.isl (Kp t s 6).length (Qp (natI (Kp t s 6))):=if_pos h1
 rw[hr]
 obtain ⟨a,ha⟩:=Int.eq_ofNat_of_zero_le (show 0≤t.hom s - 1 by omega)
 have ha3:a < 3:=by omega
 have hat:(t.hom s - 1).toNat=a:=by omega
 have hrw:=Tb.enc_row ht ha3
 have hrl:=Kl t.pool ht.pool a ha3
 have hsucc:=Xln t s
 have hle:=Qz6 t s
 rw[hat]at hsucc
 have h0:Kp t s 0=[]:=rfl
 generalize Kp t s=W at *
 generalize t.hom s=h at *
 refine Qg (An @e2 (An @eh @ha)) ?_
 (refine Qa (fun g1=>?_) (fun g1=>?_)<;>try exact g1.elim)
 rotate_left
 ·omega
 refine Qg (An @e2 @hrw) ?_
 refine Qdv 5 1 rfl rfl ?_
 refine Xl (fun k:Nat=>k≤6) (fun k=>⟨[(1,.int .i64 s),(5,.sl 1 1 0 (W k).length (W k).length),(20,.agg (Qp (t.pool.row a))),(21,.int .i64 k)],[(0,.cells t.enc),(1,.cells (Qp (natI (W k))))],2⟩) (fun k=>6 - k) Qo1.mixed hN
  ⟨0,by omega,[],by refine Qg (An @St.named.eq_1 @h0) ?_<;>exact rfl⟩ fun k hk=>?_
 have hlk:=hle k
 have hnl:=Qfx (W k)
 refine Qd ?_
 (refine Qa (fun g2=>?_) (fun g2=>?_)<;>try exact g2.elim)
 ·have hk6:k < 6:=by omega
  have hv:=Qfq t.pool a k hk6
  have hsk:=hsucc k
  generalize t.pool.ow a k=x at *
  refine Qg (An @hrl @hv) ?_
  (refine Qa (fun g3=>?_) (fun g3=>?_)<;>try exact g3.elim)
  ·have hsk:W (k + 1)=W k++[k]:=by rw[hsk,if_pos g3]
   have hsn:=Qpr (W k) k
   have hln:(W k++[k]).length=(W k).length + 1:=by simp
   refine Qd ?_
   refine Jh ?_
   refine Zr @hnl ?_
   refine ⟨k + 1,by omega,⟨[(1,3)],?_⟩,by omega⟩
   exact Qq (An @hsk (An @hsn @hln))
  ·have hsk:W (k + 1)=W k:=by rw[hsk,if_neg g3,List.append_nil]
   refine Qd ?_
   refine ⟨k + 1,by omega,⟨[],?_⟩,by omega⟩
   exact Qq @hsk
 ·have:k=6:=by omega
  subst this
  exact Qq @hnl
def MpB (m:Mp):Prop:=(-9223372036854775808≤m.proto∧m.proto≤9223372036854775807)∧(-9223372036854775808≤m.s∧m.s≤9223372036854775807)∧(-9223372036854775808≤m.inn∧m.inn≤9223372036854775807)∧(-9223372036854775808≤m.a∧m.a≤9223372036854775807)∧(-9223372036854775808≤m.port∧m.port≤9223372036854775807)
structure Tb.ok (t:Tb):Prop where
 wf:t.wf
 bd:∀ m ∈ t.maps,MpB m
 len:t.maps.length≤4611686018427387904
def Yy (m:Mp):Nat:=m.a.toNat * 6 + (Xr m.port).toNat
def Qbu (l:List Mp):List Bool:=l.foldl (fun u m=>u.set (Yy m) true) (List.replicate 18 false)
def Uj (l:List Mp):List Int:=l.foldl (fun u m=>u.set m.s.toNat (u.getD m.s.toNat 0 + 1)) (List.replicate 8 0)
def We (l:List Int):List Int:=l.foldl (fun u o=>if o=0 then u else u.set (o - 1).toNat (u.getD (o - 1).toNat 0 + 1)) (List.replicate 8 0)
def Qfz (t:Tb) (m:Mp):Prop:=Zy m.proto m.s m.inn=true∧Jp m.port=true∧0≤m.a∧m.a < 3
def Qb4 (t:Tb) (m:Mp):Prop:=Qfz t m∧t.hom m.s.toNat=m.a + 1∧t.pool.ow m.a.toNat (Xr m.port).toNat=m.s + 1
def Zi (m o:Mp):Bool:=o.proto == m.proto && (o.a == m.a && o.port == m.port || o.s == m.s && o.inn == m.inn)
structure goodT (t:Tb):Prop where
 pool:t.pool.good=true
 maps:∀ i (h:i < t.maps.length),Qb4 t t.maps[i]
 apart:∀ i j (hi:i < t.maps.length) (hj:j < i),Zi t.maps[i] (t.maps[j]'Zom)=false
 used:∀ i,i < 18→(t.pool.own.getD i 0 != 0)=(Qbu t.maps).getD i false
 subs:∀ s,s < 8→(We t.pool.own).getD s 0≤2∧(Uj t.maps).getD s 0≤12∧((t.hom s != 0)=decide (0 < (We t.pool.own).getD s 0))
open Classical in
noncomputable def Wa (t:Tb):Bool:=decide (goodT t)
theorem Xfv (l:List Mp) (m:Mp):Qbu (l++[m])=(Qbu l).set (Yy m) true:=by unfold Qbu;rw[List.foldl_append];rfl
theorem Xba (l:List Mp) (m:Mp):Uj (l++[m])=(Uj l).set m.s.toNat ((Uj l).getD m.s.toNat 0 + 1):=by unfold Uj;rw[List.foldl_append];rfl
theorem Xmf (l:List Int) (o:Int):We (l++[o])=if o=0 then We l else (We l).set (o - 1).toNat ((We l).getD (o - 1).toNat 0 + 1):=by unfold We;rw[List.foldl_append];rfl
theorem Qca {α β:Type} (f:List α→β→List α) (hf:∀ u b,(f u b).length=u.length):∀ (l:List β) (u:List α),(l.foldl f u).length=u.length
 | [],_=>rfl
 | b::l,u=>by rw[List.foldl_cons,Qca f hf l,hf]
theorem Xjo (l:List Mp):(Qbu l).length=18:=by unfold Qbu;rw[Qca _ (fun u b=>List.length_set ..)];rfl
theorem Xl7 (l:List Mp):(Uj l).length=8:=by unfold Uj;rw[Qca _ (fun u b=>List.length_set ..)];rfl
theorem Qti (l:List Int):(We l).length=8:=by unfold We;rw[Qca _ (fun u b=>by split<;>simp)];rfl
theorem Qjs {β:Type} (ix:β→Nat) (skip:β→Bool) (l:List β) (s:Nat):∀ u:List Int,(l.foldl (fun u b=>if skip b=true then u else u.set (ix b) (u.getD (ix b) 0 + 1)) u).getD s 0≤u.getD s 0 + l.length∧u.getD s 0≤(l.foldl (fun u b=>if skip b=true then u else u.set (ix b) (u.getD (ix b) 0 + 1)) u).getD s 0:=by
 induction l with
 | nil=>intro u;simp
 | cons b l ih =>
  intro u
  rw[List.foldl_cons]
  have h:=ih (if skip b=true then u else u.set (ix b) (u.getD (ix b) 0 + 1))
  have hu:(if skip b=true then u else u.set (ix b) (u.getD (ix b) 0 + 1)).getD s 0≤u.getD s 0 + 1∧u.getD s 0≤(if skip b=true then u else u.set (ix b) (u.getD (ix b) 0 + 1)).getD s 0:=by
   split
   ·omega
   ·by_cases hs:ix b=s
    ·subst hs
     by_cases hl:ix b < u.length
     ·simp[List.getD,hl];omega
     ·simp[List.getD,Nat.le_of_not_lt hl]
    ·simp[List.getD,List.getElem?_set_ne hs];omega
  rw[List.length_cons]
  omega
theorem Qfh (n s:Nat):(List.replicate n (0:Int)).getD s 0=0:=by
 rw[List.getD_eq_getElem?_getD,List.getElem?_replicate];split<;>rfl
theorem Qtm (l:List Mp) (s:Nat):0≤(Uj l).getD s 0∧(Uj l).getD s 0≤l.length:=by
 have:=Qjs (fun m:Mp=>m.s.toNat) (fun _=>false) l s (List.replicate 8 0)
 rw[Qfh,Int.zero_add]at this
 have e:Uj l=l.foldl (fun u b=>if (fun _:Mp=>false) b=true then u else u.set ((fun m:Mp=>m.s.toNat) b) (u.getD ((fun m:Mp=>m.s.toNat) b) 0 + 1)) (List.replicate 8 0):=rfl
 rw[e]
 exact ⟨this.2,this.1⟩
theorem Qzo (l:List Int) (s:Nat):0≤(We l).getD s 0∧(We l).getD s 0≤l.length:=by
 have:=Qjs (fun o:Int=>(o - 1).toNat) (fun o=>o == 0) l s (List.replicate 8 0)
 rw[Qfh,Int.zero_add]at this
 have e:We l=l.foldl (fun u b=>if (fun o:Int=>o == 0) b=true then u else u.set ((fun o:Int=>(o - 1).toNat) b) (u.getD ((fun o:Int=>(o - 1).toNat) b) 0 + 1)) (List.replicate 8 0):=by
  unfold We
  congr 1
  funext u o
  simp
 rw[e]
 exact ⟨this.2,this.1⟩
theorem Tb.enc_ow {t:Tb} (h:t.wf) {a k:Nat} (ha:a < 3) (hk:k < 6):t.enc.getD (a * 6 + k) .any=.int .i64 (t.pool.ow a k):=by
 have e:=Xib t.pool h.pool a k ha hk
 unfold Tb.enc Tb.hd
 rw[List.append_assoc,List.getD_eq_getElem?_getD,List.getElem?_append_left (by rw[Pool.enc_len h.pool];omega),← List.getD_eq_getElem?_getD]
 exact e
open Classical in
theorem Qok {t:Tb} (h:goodT t):Wa t=true:=decide_eq_true h
open Classical in
theorem Qf3 {t:Tb} (h:¬ goodT t):Wa t=false:=decide_eq_false h
theorem Kx {p s i:Int} (h:Zy p s i=true):(p=1∨p=6∨p=17)∧(0≤s∧s < 8)∧(0≤i∧i≤65535):=by
 unfold Zy at h
 simp at h
 omega
theorem Xz4 {port:Int} (h:Jp port=true):0≤Xr port∧Xr port < 6∧(1024≤port∧port < 1072):=by
 have h':=h
 unfold Jp at h'
 simp at h'
 unfold Xr
 rw[if_pos h];omega
set_option maxHeartbeats 8000000 in
set_option maxRecDepth 20000 in
theorem Qfg (gl:Nat→AV) (t:Tb) (ht:t.ok):PS Tryz.prog gl 52 [.agg t.enc] (.bool (Wa t)):=by
 refine Qdw.ps (of_decide_eq_true rfl) (by simp[Qe]) fun c hN hg=>?_
 conv in tcO _ _=>cbv
 have e2:=Tb.enc_len ht.wf
 have e3:=Tb.enc_maps ht.wf
 have e4:=Tb.enc_pool ht.wf
 have hG:=Qib c.gl t.pool ht.wf.pool
 have hel:=Jc t.maps
 have hlen:=ht.len
 by_cases hgd:t.pool.good=true
 rotate_left
 ·have hr:=Qf3 (t:=t) fun h=>hgd h.pool
  have hgd:t.pool.good=false:=by simpa using hgd
  rw[hgd]at hG
  refine Qg (An @e2 @e4) ?_
  refine Xa hG (An @e2 @e4) ?_
  (refine Qa (fun h1=>?_) (fun h1=>?_)<;>try exact h1.elim)
  exact Qq @hr
 rw[hgd]at hG
 refine Qg (An @e2 @e4) ?_
 refine Xa hG (An @e2 @e4) ?_
 (refine Qa (fun h1=>?_) (fun h1=>?_)<;>try exact h1.elim)
 refine Qg (An @e2 @e3) ?_
 refine Xl (fun k:Nat=>k≤t.maps.length∧(∀ i (h:i < t.maps.length),i < k→Qb4 t t.maps[i])∧(∀ i j (hi:i < t.maps.length) (hj:j < i),i < k→Zi t.maps[i] (t.maps[j]'Zom)=false))
  (fun k=>⟨[(1,.ptr 0 0),(3,.ptr 1 0),(4,.ptr 2 0),(23,.isl t.maps.length (mps t.maps)),(24,.int .i64 t.maps.length),(25,.int .i64 k)],[(0,.cells t.enc),(1,.cells (Yv (Qbu (t.maps.take k)))),(2,.cells (Qp (Uj (t.maps.take k))))],3⟩) (fun k=>t.maps.length - k) Qdw.mixed hN
  ⟨0,⟨by omega,fun i h h0=>by omega,fun i j hi hj h0=>by omega⟩,[],by (refine XG ?_;((try (repeat' with_reducible refine And.intro ?_ ?_));(try any_goals (first|refine zm ?_|exact CL|fail))))<;>exact rfl⟩ fun k hI=>?_
 obtain ⟨hk,hok,hap⟩:=id hI
 clear hI
 have hul:=Xjo (t.maps.take k)
 have hml:=Xl7 (t.maps.take k)
 refine Qd ?_
 (refine Qa (fun h2=>?_) (fun h2=>?_)<;>try exact h2.elim)
 ·have hkn:k < t.maps.length:=by omega
  have hcut:=Qd0 t.maps k hkn
  have hbd:=ht.bd _ (List.getElem_mem hkn)
  have htk:t.maps.take (k + 1)=t.maps.take k++[t.maps[k]]:=by rw[List.take_add_one,List.getElem?_eq_getElem hkn];rfl
  have hus:=Xfv (t.maps.take k) t.maps[k]
  have hms:=Xba (t.maps.take k) t.maps[k]
  have hmb:=Qtm (t.maps.take k) t.maps[k].s.toNat
  rw[List.length_take]at hmb
  have hokk:¬ Qb4 t t.maps[k]→¬ goodT t:=fun h h2=>h (h2.maps k hkn)
  have hapk:∀ j (hj:j < k),Zi t.maps[k] (t.maps[j]'Zom)=true→¬ goodT t:=fun j hj h h2=>by
   have:=h2.apart k j hkn hj
   rw[h]at this;cases this
  have hok2:Qb4 t t.maps[k]→∀ i (h:i < t.maps.length),i < k + 1→Qb4 t t.maps[i]:=fun h i hi hik=>by
   by_cases e:i=k
   ·subst e;exact h
   ·exact hok i hi Zom
  have hap2:(∀ j (hj:j < k),Zi t.maps[k] (t.maps[j]'Zom)=false)→∀ i j (hi:i < t.maps.length) (hj:j < i),i < k + 1→Zi t.maps[i] (t.maps[j]'Zom)=false:=fun h i j hi hj hik=>by
   by_cases e:i=k
   ·subst e;exact h j hj
   ·exact hap i j hi hj Zom
  have HOK:=Lib.hid hokk
  have HAP:=Lib.hid hapk
  have HOK2:=Lib.hid hok2
  have HAP2:=Lib.hid hap2
  clear hokk hapk hok2 hap2 hok hap
  generalize hmk:t.maps[k]=m at *
  obtain ⟨mp,ms,mi,ma,mt⟩:=m
  obtain ⟨_,_,_,_,hbp⟩:=hbd
  dsimp only at hbp hmb
  have hB:=Qgl c.gl mt hbp
  have hK:=Qit c.gl mp ms mi
  unfold Qk0 at hB
  simp only[Mp.enc]at hcut
  by_cases hpre:Zy mp ms mi=true∧Jp mt=true∧0≤ma∧ma < 3
  rotate_left
  ·have hbad:=Qf3 (HOK.out fun h=>hpre ⟨h.1.1,h.1.2.1,h.1.2.2.1,h.1.2.2.2⟩)
   have hb:(!Zy mp ms mi || !Jp mt || decide (ma < 0) || decide (3≤ma))=true:=by
    cases h1:Zy mp ms mi
    ·rfl
    ·cases h2:Jp mt
     ·rfl
     ·have:ma < 0∨3≤ma:=by
       have:¬ (0≤ma∧ma < 3):=fun h=>hpre ⟨h1,h2,h⟩
       omega
      simpa using this
   refine Qg (An @hel @hcut) ?_
   refine Xa hB (An @hel @hcut) ?_
   refine Xa hK (An @hel (An @hcut @hb)) ?_
   (refine Qa (fun h3=>?_) (fun h3=>?_)<;>try exact h3.elim)
   exact Qq @hbad
  obtain ⟨hk1,hk2,ha0,ha1⟩:=hpre
  obtain ⟨_,⟨hs0,hs1⟩,_⟩:=Kx hk1
  obtain ⟨hb0,hb1,_⟩:=Xz4 hk2
  have hpre:Qfz t ⟨mp,ms,mi,ma,mt⟩:=⟨hk1,hk2,ha0,ha1⟩
  rw[hk1]at hK
  rw[hk2,if_pos rfl]at hB
  obtain ⟨S,rfl⟩:=Int.eq_ofNat_of_zero_le hs0
  obtain ⟨A,rfl⟩:=Int.eq_ofNat_of_zero_le ha0
  obtain ⟨Bk,hBk⟩:=Int.eq_ofNat_of_zero_le hb0
  have hS8:S < 8:=by omega
  have hA3:A < 3:=by omega
  have hB6:Bk < 6:=by omega
  have eh:=Tb.enc_home ht.wf hS8
  have eo:=Tb.enc_ow ht.wf hA3 hB6
  have hmk2:Qb4 t ⟨mp,S,mi,A,mt⟩ ↔ t.hom S=(A:Int) + 1∧t.pool.ow A Bk=(S:Int) + 1:=by
   unfold Qb4
   dsimp only
   rw[Int.toNat_natCast,Int.toNat_natCast,hBk,Int.toNat_natCast]
   exact ⟨fun h=>h.2,fun h=>⟨hpre,h⟩⟩
  have hix:Yy ⟨mp,S,mi,A,mt⟩=A * 6 + Bk:=by
   unfold Yy
   dsimp only
   rw[hBk,Int.toNat_natCast,Int.toNat_natCast]
  rw[hix]at hus
  dsimp only at hms
  rw[Int.toNat_natCast]at hms hmb
  rw[hBk]at hB
  clear hpre hix hbp
  generalize hUU:Qbu (t.maps.take k)=U at *
  generalize hMM:Uj (t.maps.take k)=M at *
  generalize hho:t.hom S=ho at *
  generalize how:t.pool.ow A Bk=ow at *
  generalize (mt - 1024) % 8=q at *
  refine Qg (An @hel @hcut) ?_
  refine Xa hB (An @hel @hcut) ?_
  refine Xa hK (An @hel (An @hcut (An @e2 (An @eh @eo)))) ?_
  (refine Qa (fun h3=>?_) (fun h3=>?_)<;>try exact h3.elim)
  ·have hbad:=Qf3 (HOK.out fun h=>by have:=hmk2.1 h;omega)
   exact Qq @hbad
  have hmok:=hmk2.2 ⟨by omega,by omega⟩
  clear HOK hmk2
  have hmg:(Qp M).getD S .any=.int .i64 (M.getD S 0):=Qdy Zom
  have hpt:=Qtt t.maps k Zom
  refine Qg (An @e3 (An @hel (An @hul (An @hml @hmg)))) ?_
  refine Xl (fun j:Nat=>j≤k∧∀ i (hi:i < k),i < j→Zi ⟨mp,S,mi,A,mt⟩ (t.maps[i]'Zom)=false)
   (fun j=>⟨[(1,.ptr 0 0),(3,.ptr 1 0),(4,.ptr 2 0),(6,.ptr 3 0),(23,.isl t.maps.length (mps t.maps)),(24,.int .i64 t.maps.length),(25,.int .i64 k),(98,.isl k (mps (t.maps.take k))),(99,.int .i64 k),(100,.int .i64 j)],[(0,.cells t.enc),(1,.cells (Yv (U.set (A * 6 + Bk) true))),(2,.cells (Qp (M.set S (M.getD S 0 + 1)))),(3,.cells [.int .i64 mp,.int .i64 S,.int .i64 mi,.int .i64 A,.int .i64 mt])],4⟩) (fun j=>k - j) Qdw.mixed hN
   ⟨0,⟨by omega,fun i h h0=>by omega⟩,[],by exact Qq (An @Nat.sub_zero @hpt)⟩ fun j hJ=>?_
  obtain ⟨hj,hno⟩:=id hJ
  clear hJ
  refine Qd ?_
  (refine Qa (fun h4=>?_) (fun h4=>?_)<;>try exact h4.elim)
  ·have hjk:j < k:=by omega
   have hcut2:=Qd0 (t.maps.take k) j (by rw[List.length_take];omega)
   rw[List.getElem_take]at hcut2
   have hel2:(mps (t.maps.take k)).length=k * 5:=by rw[Jc,List.length_take,Nat.min_eq_left Zom]
   have hbad:=fun h=>Qf3 (HAP.out j hjk h)
   have hno2:Zi ⟨mp,S,mi,A,mt⟩ (t.maps[j]'Zom)=false→∀ i (hi:i < k),i < j + 1→Zi ⟨mp,S,mi,A,mt⟩ (t.maps[i]'Zom)=false:=fun h i hi hij=>by
    by_cases e:i=j
    ·subst e;exact h
    ·exact hno i hi Zom
   have HB:=Lib.hid hbad
   have HN:=Lib.hid hno2
   clear hbad hno2 hno
   generalize t.maps[j]=o at *
   obtain ⟨op,os,oi,oa,ot⟩:=o
   unfold Zi at HB HN
   simp only[Mp.enc]at hcut2
   dsimp only at HB HN
   generalize hKL:(op == mp && (oa == (A:Int) && ot == mt || os == (S:Int) && oi == mi))=kl at *
   (have zf1:=@hel2;have zf2:=@hcut2;have zf3:=@hKL;refine XG ?_;clear zf1 zf2 zf3;((try (repeat' with_reducible refine And.intro ?_ ?_));(try any_goals (first|refine zm ?_|exact CL|fail))))
   ·intro h1 h2;rw[h1,h2];rfl
   (refine Qa (fun h5=>?_) (fun h5=>?_)<;>try exact h5.elim)
   ·exact Qq (HB.out h5)
   ·refine Qd ?_
    refine ⟨j + 1,⟨by omega,HN.out h5⟩,⟨[],?_⟩,by omega⟩
    exact Qs
  ·have:j=k:=by omega
   subst this
   refine Qd ?_
   refine ⟨j + 1,⟨by omega,HOK2.out hmok,HAP2.out fun i hi=>hno i hi hi⟩,⟨[],?_⟩,by omega⟩
   exact Qq (An @htk (An @hus @hms))
 ·have:k=t.maps.length:=by omega
  subst this
  have hok2:∀ i (h:i < t.maps.length),Qb4 t t.maps[i]:=fun i h=>hok i h h
  have hap2:∀ i j (hi:i < t.maps.length) (hj:j < i),Zi t.maps[i] (t.maps[j]'Zom)=false:=fun i j hi hj=>hap i j hi hj hi
  clear hok hap
  rw[List.take_length]at hul hml
  have htl:t.maps.take t.maps.length=t.maps:=List.take_length
  have hmb:=Qtm t.maps
  have hgo:(∀ i,i < 18→(t.pool.own.getD i 0 != 0)=(Qbu t.maps).getD i false)→(∀ s,s < 8→(We t.pool.own).getD s 0≤2∧(Uj t.maps).getD s 0≤12∧((t.hom s != 0)=decide (0 < (We t.pool.own).getD s 0)))→goodT t:=fun a b=>⟨hgd,hok2,hap2,a,b⟩
  have hb1:∀ i,i < 18→¬ ((t.pool.own.getD i 0 != 0)=(Qbu t.maps).getD i false)→¬ goodT t:=fun i hi h h2=>h (h2.used i hi)
  have hb2:∀ s,s < 8→¬ ((We t.pool.own).getD s 0≤2∧(Uj t.maps).getD s 0≤12∧((t.hom s != 0)=decide (0 < (We t.pool.own).getD s 0)))→¬ goodT t:=fun i hi h h2=>h (h2.subs i hi)
  have HGO:=Lib.hid hgo
  have HB1:=Lib.hid hb1
  have HB2:=Lib.hid hb2
  clear hgo hb1 hb2 hok2 hap2
  have e5:t.enc.take 18=Qp t.pool.own:=by
   have h1:=Qrl t.pool ht.wf.pool
   rw[← e4,List.take_take]at h1
   exact h1
  have hol:=ht.wf.pool.own
  refine Qg (An @htl (An @e2 @e5)) ?_
  generalize hUU:Qbu t.maps=U at *
  generalize hMM:Uj t.maps=M at *
  refine Xl (fun a:Nat=>a≤3∧∀ i,i < a * 6→(t.pool.own.getD i 0 != 0)=U.getD i false)
   (fun a=>⟨[(1,.ptr 0 0),(3,.ptr 1 0),(4,.ptr 2 0),(12,.ptr 3 0),(141,.agg (Qp t.pool.own)),(142,.int .i64 a)],[(0,.cells t.enc),(1,.cells (Yv U)),(2,.cells (Qp M)),(3,.cells (Qp (We (t.pool.own.take (a * 6)))))],4⟩) (fun a=>3 - a) Qdw.mixed hN
   ⟨0,⟨by omega,fun i h=>by omega⟩,[],by refine Qd ?_<;>exact rfl⟩ fun a hI=>?_
  obtain ⟨ha,hus⟩:=id hI
  clear hI
  refine Qd ?_
  (refine Qa (fun h3=>?_) (fun h3=>?_)<;>try exact h3.elim)
  ·have ha3:a < 3:=by omega
   have hr:=Qq6 t.pool a
   have hrl:=Kl t.pool ht.wf.pool a ha3
   refine Qg (An @hr @hol) ?_
   refine Xl (fun k:Nat=>k≤6∧∀ i,i < a * 6 + k→(t.pool.own.getD i 0 != 0)=U.getD i false)
    (fun k=>⟨[(1,.ptr 0 0),(3,.ptr 1 0),(4,.ptr 2 0),(12,.ptr 3 0),(13,.int .i64 a),(141,.agg (Qp t.pool.own)),(142,.int .i64 a),(146,.agg (Qp (t.pool.row a))),(147,.int .i64 k)],[(0,.cells t.enc),(1,.cells (Yv U)),(2,.cells (Qp M)),(3,.cells (Qp (We (t.pool.own.take (a * 6 + k)))))],4⟩) (fun k=>6 - k) Qdw.mixed hN
    ⟨0,⟨by omega,fun i h=>hus i Zom⟩,[],by exact Qq @Nat.add_zero⟩ fun k hJ=>?_
   obtain ⟨hk,hus2⟩:=id hJ
   clear hJ
   refine Qd ?_
   (refine Qa (fun h4=>?_) (fun h4=>?_)<;>try exact h4.elim)
   ·have hk6:k < 6:=by omega
    have hi18:a * 6 + k < 18:=by omega
    have hv:=Qfq t.pool a k hk6
    have hog:=Pool.ow_good t.pool hgd a k
    have hbad:=HB1.out (a * 6 + k) hi18
    have hsn:=Xmf (t.pool.own.take (a * 6 + k)) (t.pool.ow a k)
    have htk:t.pool.own.take (a * 6 + k + 1)=t.pool.own.take (a * 6 + k)++[t.pool.ow a k]:=by
     rw[List.take_add_one,List.getElem?_eq_getElem (by rw[hol];exact hi18)]
     unfold Pool.ow
     rw[List.getD_eq_getElem?_getD,List.getElem?_eq_getElem (by rw[hol];exact hi18)];rfl
    have hbl:=Qti (t.pool.own.take (a * 6 + k))
    have hbb:=Qzo (t.pool.own.take (a * 6 + k)) (t.pool.ow a k - 1).toNat
    have htl2:(t.pool.own.take (a * 6 + k)).length=a * 6 + k:=by rw[List.length_take,hol];omega
    have hus3:(t.pool.own.getD (a * 6 + k) 0 != 0)=U.getD (a * 6 + k) false→∀ i,i < a * 6 + (k + 1)→(t.pool.own.getD i 0 != 0)=U.getD i false:=fun h i hi=>by
     by_cases e:i=a * 6 + k
     ·subst e;exact h
     ·exact hus2 i Zom
    have how:t.pool.own.getD (a * 6 + k) 0=t.pool.ow a k:=rfl
    rw[how]at hbad hus3
    rw[← htk]at hsn
    rw[htl2]at hbb
    have HBD:=Lib.hid hbad
    have HU3:=Lib.hid hus3
    clear hbad hus3 hus2 hus how htk
    generalize We (t.pool.own.take (a * 6 + k))=W at *
    generalize hW2:We (t.pool.own.take (a * 6 + k + 1))=W2 at *
    generalize t.pool.ow a k=o at *
    have hxu:∀ x,U.getD (a * 6 + k) false=x→(Yv U).getD (a * 6 + k) .any=.bool x:=fun x e=>by rw[← e];exact Qjh Zom
    have hug:=hxu _ rfl
    generalize U.getD (a * 6 + k) false=u at *
    refine Qg (An @hrl (An @hul (An @hv @hug))) ?_
    (refine Qa (fun h5=>?_) (fun h5=>?_)<;>try exact h5.elim)
    ·exact Qq (Qf3 (HBD.out h5))
    have h6:=HU3.out (by simpa using h5)
    clear HBD HU3
    refine Qd ?_
    have h66:a * 6 + (k + 1)=a * 6 + k + 1:=by omega
    (refine Qa (fun h7=>?_) (fun h7=>?_)<;>try exact h7.elim)
    ·rw[if_neg h7]at hsn
     obtain ⟨N,hN1⟩:=Int.eq_ofNat_of_zero_le (show 0≤o - 1 by omega)
     have hN8:N < 8:=by omega
     rw[hN1,Int.toNat_natCast]at hsn hbb
     have hwg:(Qp W).getD N .any=.int .i64 (W.getD N 0):=Qdy Zom
     refine Qg (An @hN1 (An @hbl @hwg)) ?_
     refine ⟨k + 1,⟨by omega,h6⟩,⟨[],?_⟩,by omega⟩
     exact Qq (An @h66 (An @hW2 @hsn))
    ·rw[if_pos Zom]at hsn
     refine Qd ?_
     refine ⟨k + 1,⟨by omega,h6⟩,⟨[],?_⟩,by omega⟩
     exact Qq (An @h66 (An @hW2 @hsn))
   ·have:k=6:=by omega
    subst this
    refine Qd ?_
    refine ⟨a + 1,⟨by omega,fun i hi=>hus2 i Zom⟩,⟨[],?_⟩,by omega⟩
    have e6:(a + 1) * 6=a * 6 + 6:=by omega
    exact Qq @e6
  ·have:a=3:=by omega
   subst this
   have e7:t.pool.own.take (3 * 6)=t.pool.own:=List.take_of_length_le Zom
   have hbd:=Qzo t.pool.own
   have hbl:=Qti t.pool.own
   have hus2:∀ i,i < 18→(t.pool.own.getD i 0 != 0)=U.getD i false:=fun i h=>hus i Zom
   have hgo2:=HGO.out hus2
   have HGO:=Lib.hid hgo2
   clear hgo2 hus hus2 HB1 hUU hMM
   rw[hol]at hbd
   generalize hWW:We t.pool.own=W at *
   have hho:∀ s,s < 8→t.enc.getD (21 + s) .any=.int .i64 (t.hom s):=fun s hs=>Tb.enc_home ht.wf hs
   refine Qg (An @e7 @hWW) ?_
   refine Xl (fun s:Nat=>s≤8∧∀ i,i < s→(W.getD i 0≤2∧M.getD i 0≤12∧(t.hom i != 0)=decide (0 < W.getD i 0)))
    (fun s=>⟨[(1,.ptr 0 0),(3,.ptr 1 0),(4,.ptr 2 0),(12,.ptr 3 0),(169,.int .i64 s)],[(0,.cells t.enc),(1,.cells (Yv U)),(2,.cells (Qp M)),(3,.cells (Qp W))],4⟩) (fun s=>8 - s) Qdw.mixed hN
    ⟨0,⟨by omega,fun i h=>by omega⟩,[],by exact Qs⟩ fun s hI=>?_
   obtain ⟨hs,hsu⟩:=id hI
   clear hI
   refine Qd ?_
   (refine Qa (fun h4=>?_) (fun h4=>?_)<;>try exact h4.elim)
   ·have hs8:s < 8:=by omega
    have hbad:=fun h=>Qf3 (HB2.out s hs8 h)
    have hsu2:(W.getD s 0≤2∧M.getD s 0≤12∧(t.hom s != 0)=decide (0 < W.getD s 0))→∀ i,i < s + 1→(W.getD i 0≤2∧M.getD i 0≤12∧(t.hom i != 0)=decide (0 < W.getD i 0)):=fun h i hi=>by
     by_cases e:i=s
     ·subst e;exact h
     ·exact hsu i Zom
    have HB:=Lib.hid hbad
    have HN:=Lib.hid hsu2
    clear hbad hsu2 hsu
    have hw:(Qp W).getD s .any=.int .i64 (W.getD s 0):=Qdy Zom
    have hm:(Qp M).getD s .any=.int .i64 (M.getD s 0):=Qdy Zom
    have hh:=hho s hs8
    have hb1:=hbd s
    have hb2:=hmb s
    generalize W.getD s 0=x at *
    generalize M.getD s 0=y at *
    generalize t.hom s=z at *
    refine Qg (An @hw (An @hm (An @hh (An @hbl (An @hml @e2))))) ?_
    (refine Qa (fun h5=>?_) (fun h5=>?_)<;>try exact h5.elim)
    ·have h6:¬(x≤2∧y≤12∧(z != 0)=decide (0 < x)):=fun ⟨p,q,r⟩=>h5.elim (fun h=>by omega) (fun h=>h r)
     exact Qq (HB.out h6)
    ·obtain ⟨⟨h6,h7⟩,h8⟩:=h5
     refine Qd ?_
     refine ⟨s + 1,⟨by omega,HN.out ⟨by omega,by omega,h8⟩⟩,⟨[],?_⟩,by omega⟩
     exact Qs
   ·have:s=8:=by omega
    subst this
    exact Qq (Qok (HGO.out hsu))
theorem Xaz:Tryz.prog.underlying 37=some (.slice 69):=by kernel_rfl
theorem Qcw {c:Cx} {ne:Bool} {x:TV} {v:AV} {b:Bool} (hb:Qgw v=some b):Qn4 Tryz.prog c (.cA ne 37) [x,.c .nils] [v,.nils] (.bool (ne != b)):=Xoz Xaz hb
theorem Xsn (gl:Nat→AV) (cap:Nat):GS Tryz.prog gl 64 [.lit (.slice none 0 cap)] [] 0 .nils [] 0:=by
 refine Qcz.gs (of_decide_eq_true rfl) Zsi fun c hN hg=>?_
 conv in tcO _ _=>cbv
 refine Qd ?_
 refine Qds ?_ (Qcw (b:=true) (show Qgw (.lit (.slice none 0 cap))=some true from rfl)) ?_
 ·exact Qs
 refine Qd ?_
 (refine Qa (fun h1=>?_) (fun h1=>?_)<;>try exact h1.elim)
 refine Qd ?_
 exact ⟨[],by exact Qs⟩
theorem Xf0 (gl:Nat→AV) (a:Addr) (cap:Nat):GS Tryz.prog gl 64 [.lit (.slice (some a) 0 cap)] [] 0 (.sl 5 0 0 0 0) [(0,.cells [])] 1:=by
 refine Qcz.gs (of_decide_eq_true rfl) Zsi fun c hN hg=>?_
 conv in tcO _ _=>cbv
 refine Qd ?_
 refine Qds ?_ (Qcw (b:=false) (show Qgw (.lit (.slice (some a) 0 cap))=some false from rfl)) ?_
 ·exact Qs
 refine Qd ?_
 (refine Qa (fun h1=>?_) (fun h1=>?_)<;>try exact h1.elim)
 refine Qd ?_
 refine Xa Qhq @List.length_nil.{0} ?_
 refine Jh ?_
 refine ⟨[(0,0)],?_⟩
 exact Qs
theorem Qfi (gl:Nat→AV) (l:List Mp) (hn:l.length≤1000000):GS Tryz.prog gl 64 [.isl l.length (mps l)] [] 0 (.sl 5 0 0 l.length l.length) [(0,.cells (mps l))] 1:=by
 have hl:=Jc l
 cases l with
 | nil=>exact GS.empty (Xsn gl) (Xf0 gl)
 | cons x l =>
 have hnq:Qgw (.isl (x::l).length (mps (x::l)))=some false:=rfl
 generalize x::l=l at *
 refine Qcz.gs (of_decide_eq_true rfl) Zsi fun c hN hg=>?_
 conv in tcO _ _=>cbv
 refine Qd ?_
 refine Qds ?_ (Qcw (b:=false) hnq) ?_
 ·exact Qs
 refine Qd ?_
 (refine Qa (fun h1=>?_) (fun h1=>?_)<;>try exact h1.elim)
 refine Qd ?_
 refine Yt Qhq ?_
 refine Zr @hl ?_
 refine ⟨[(0,0)],?_⟩
 exact Qs
theorem Tb.enc_set {t:Tb} (h:t.wf) (x:AV):t.enc.set 29 x=t.hd++[x]:=by
 unfold Tb.enc
 rw[List.set_append_right _ _ (by rw[Tb.hd_len h];exact Nat.le_refl _),Tb.hd_len h];rfl
theorem Tb.hd_get (t:Tb) (h:t.wf) (x:AV):(t.hd++[x]).length=30:=by simp[Tb.hd_len h]
def Tb.add (t:Tb) (m:Mp):Tb:={ t with maps:=t.maps++[m] }
def Jb (t:Tb) (m:Mp) (b:Bool) (e:Int):AV:=.tup [.agg t.enc,.agg m.enc,.bool b,.int .i64 e]
set_option maxHeartbeats 2000000 in
theorem Qoi (gl:Nat→AV) (t:Tb) (ht:t.wf) (hl:t.maps.length≤100000) (m:Mp) (b:Bool):PS Tryz.prog gl 127 [.agg t.enc,.agg m.enc,.bool b] (Jb (t.add m) m b 0):=by
 refine Xty.ps (of_decide_eq_true rfl) (by simp[Qe,nmAll,Jb,Tb.enc_nm,Mp.enc]) fun c hN hg=>?_
 conv in tcO _ _=>cbv
 have e2:=Tb.enc_len ht
 have e3:=Tb.enc_maps ht
 have hel:=Jc t.maps
 have hs:=Tb.enc_set ht
 have hsl:=Tb.hd_get t ht
 unfold Mp.enc
 refine Qg (An @e2 @e3) ?_
 ((first|refine Qy (ins:=[]) (Qfi c.gl t.maps (by omega)) ?_ ?_|refine Qv (ins:=[]) (Qfi c.gl t.maps (by omega)) ?_ ?_|refine Qu (ins:=[]) (Qfi c.gl t.maps (by omega)) ?_ ?_|refine Qr (ins:=[]) (Qfi c.gl t.maps (by omega)) ?_ ?_)<;>(have zf1:=@e2;have zf2:=@e3;refine XG ?_;clear zf1 zf2;(try first|exact rfl|exact True.intro);((try (repeat' with_reducible refine And.intro ?_ ?_));(try any_goals (first|refine zm ?_|exact CL|fail)))))
 refine Jh ?_
 refine Zr @hel ?_
 refine Qg (An @hs (An @e2 @hsl)) ?_
 have hq:Jb (t.add m) m b 0=.tup [.agg (t.hd++[.isl (t.maps.length + 1) (mps t.maps++[.int .i64 m.proto,.int .i64 m.s,.int .i64 m.inn,.int .i64 m.a,.int .i64 m.port])]),.agg [.int .i64 m.proto,.int .i64 m.s,.int .i64 m.inn,.int .i64 m.a,.int .i64 m.port],.bool b,.int .i64 0]:=by
  rw[Xoq]
  simp[Jb,Tb.add,Tb.enc,Tb.hd,Mp.enc]
 have htk:(mps t.maps++[AV.int .i64 m.proto,.int .i64 m.s,.int .i64 m.inn,.int .i64 m.a,.int .i64 m.port]).take ((t.maps.length + 1) * 5)=mps t.maps++[.int .i64 m.proto,.int .i64 m.s,.int .i64 m.inn,.int .i64 m.a,.int .i64 m.port]:=List.take_of_length_le (by simp[Jc];omega)
 rw[hq,List.map_append]
 exact Qq @htk
theorem Qp3 (t:Tb) (m:Mp) (b:Bool) (e:Int) (n:Nat):Qe n (Jb t m b e)=True:=by simp[Qe,nmAll,Jb,Tb.enc_nm,Mp.enc]
theorem Qrq (t:Tb) (m:Mp) (b:Bool) (e:Int) (ρ:Nat→Nat):ren ρ (Jb t m b e)=Jb t m b e:=by simp[ren,rens,Jb,Tb.enc_rens,Mp.enc]
attribute [go_sem] Qp3 Qrq
theorem Qag (gl:Nat→AV) (t:Tb) (ht:t.wf) (e:Int):GS Tryz.prog gl 125 [.int .i64 e,.ptr 0 0] [(0,.cells t.enc)] 1 (Jb t mp0 false e) [(0,.cells t.enc)] 1:=by
 refine Xeg.gs (of_decide_eq_true rfl) (by simp[Bk.live]) fun c hN hg=>?_
 conv in tcO _ _=>cbv
 have e2:=Tb.enc_len ht
 refine Qg @e2 ?_
 refine ⟨[],?_⟩
 refine Qd ?_
 rfl
theorem Tb.enc_pool_set {t:Tb} (h:t.wf) {p:Pool} (hp:p.wf):Ym t.enc 0 p.enc=(⟨p,t.home,t.maps⟩:Tb).enc:=by
 unfold Ym Tb.enc Tb.hd
 rw[List.take_zero,List.nil_append,Pool.enc_len hp,List.append_assoc,List.append_assoc,Nat.zero_add,← Pool.enc_len h.pool,List.drop_left]
theorem Tb.enc_home_set {t:Tb} (h:t.wf) {s:Nat} (hs:s < 8) (x:Int):t.enc.set (21 + s) (.int .i64 x)=(⟨t.pool,t.home.set s x,t.maps⟩:Tb).enc:=by
 unfold Tb.enc Tb.hd
 rw[List.append_assoc,List.set_append_right _ _ (by rw[Pool.enc_len h.pool];omega),Pool.enc_len h.pool,show 21 + s - 21=s by omega,List.set_append_left _ _ (by rw[Xw,h.home];exact hs),List.append_assoc]
 simp[Qp,List.map_set]
def Zm (l:List Mp) (s:Int):Nat:=l.countP fun m=>m.s == s
def Wn (k:Nat):List Int:=(List.range 8).map fun (i:Nat)=>1024 + (k:Int) * 8 + (i:Int)
def Qhn (t:Tb) (proto a port:Int):Bool:=(t.maps.find? (Zw proto a port)).isNone
def Qba (t:Tb) (proto a:Int) (l:List Nat):Option Int:=(l.flatMap Wn).find? (Qhn t proto a)
def Qa0 (t:Tb) (s:Nat):List Nat:=if 1≤t.hom s then Kp t s 6 else []
def Tb.tk (t:Tb) (proto s inn a draw:Int):Tb × Mp × Bool × Int :=
 if (t.pool.take s a draw).2.2≠0 then (t,mp0,false,(t.pool.take s a draw).2.2) else
 (Tb.add ⟨(t.pool.take s a draw).1,t.home.set s.toNat (a + 1),t.maps⟩ ⟨proto,s,inn,a,1024 + (t.pool.take s a draw).2.1 * 8⟩,⟨proto,s,inn,a,1024 + (t.pool.take s a draw).2.1 * 8⟩,true,0)
noncomputable def Tb.opn (t:Tb) (proto s inn draw:Int):Tb × Mp × Bool × Int :=
 if Wa t=false∨Zy proto s inn=false then (t,mp0,false,2) else
 match t.maps.find? (Zj proto s inn) with
 | some m=>(t,m,false,0)
 | none =>
  if 12≤Zm t.maps s then (t,mp0,false,6) else
  match Qba t proto (t.hom s.toNat - 1) (Qa0 t s.toNat) with
  | some port=>(t.add ⟨proto,s,inn,t.hom s.toNat - 1,port⟩,⟨proto,s,inn,t.hom s.toNat - 1,port⟩,false,0)
  | none =>
   if 2≤(Qa0 t s.toNat).length then (t,mp0,false,6) else
   if 1≤t.hom s.toNat then t.tk proto s inn (t.hom s.toNat - 1) draw else
   if (t.pool.pick draw).2≠0 then (t,mp0,false,(t.pool.pick draw).2) else t.tk proto s inn (t.pool.pick draw).1 draw
def Qcm (x:Tb × Mp × Bool × Int):AV:=Jb x.1 x.2.1 x.2.2.1 x.2.2.2
set_option maxHeartbeats 4000000 in
set_option maxRecDepth 20000 in
theorem Xga (gl:Nat→AV) (t:Tb) (ht:t.ok) (proto s inn draw:Int) (h:Wa t=false∨Zy proto s inn=false):PS Tryz.prog gl 89 [.agg t.enc,.int .i64 proto,.int .i64 s,.int .i64 inn,.int .i64 draw] (Jb t mp0 false 2):=by
 refine Qdu.ps (of_decide_eq_true rfl) (by simp[Qp3]) fun c hN hg=>?_
 conv in tcO _ _=>cbv
 have e2:=Tb.enc_len ht.wf
 have hG:=Qfg c.gl t ht
 have hK:=Qit c.gl proto s inn
 by_cases hgd:Wa t=true
 ·rw[hgd]at hG
  have hk:Zy proto s inn=false:=h.resolve_left (by rw[hgd];simp)
  rw[hk]at hK
  refine Qg @e2 ?_
  refine Xa hG @e2 ?_
  refine Xa hK @e2 ?_
  (refine Qa (fun h1=>?_) (fun h1=>?_)<;>try exact h1.elim)
  refine Qd ?_
  exact Js (ip [0]) (Qag c.gl t ht.wf 2) (An @e2 (An @Jb.eq_1 (An @Mp.enc.eq_1 @mp0.eq_1)))
 ·have hgd:Wa t=false:=by simpa using hgd
  rw[hgd]at hG
  refine Qg @e2 ?_
  refine Xa hG @e2 ?_
  ((first|apply Yd|apply Xu)<;>(refine XG ?_;first|exact rfl|exact True.intro|((try (repeat' with_reducible refine And.intro ?_ ?_));(try any_goals (first|refine zm ?_|exact CL|fail)))))
  (refine Qa (fun h1=>?_) (fun h1=>?_)<;>try exact h1.elim)
  refine Qd ?_
  exact Js (ip [0]) (Qag c.gl t ht.wf 2) (An @e2 (An @Jb.eq_1 (An @Mp.enc.eq_1 @mp0.eq_1)))
theorem Qjf {β:Type} (ix:β→Nat) (skip:β→Bool) (l:List β) (s:Nat):∀ u:List Int,s < u.length→(l.foldl (fun u b=>if skip b=true then u else u.set (ix b) (u.getD (ix b) 0 + 1)) u).getD s 0=u.getD s 0 + l.countP (fun b=>!skip b && ix b == s):=by
 induction l with
 | nil=>intro u _;simp
 | cons b l ih =>
  intro u hu
  rw[List.foldl_cons,ih _ (by split<;>simpa using hu),List.countP_cons]
  by_cases hk:skip b=true
  ·simp[hk]
  ·have hk:skip b=false:=by simpa using hk
   by_cases hs:ix b=s
   ·subst hs
    simp[hk,List.getD,hu];omega
   ·simp[hk,hs,List.getD,List.getElem?_set_ne hs]
theorem Qt8 (l:List Mp) (s:Nat) (hs:s < 8):(Uj l).getD s 0=l.countP (fun m=>m.s.toNat == s):=by
 have h:=Qjf (fun m:Mp=>m.s.toNat) (fun _=>false) l s (List.replicate 8 0) (by simpa using hs)
 rw[Qfh,Int.zero_add]at h
 have e:Uj l=l.foldl (fun u b=>if (fun _:Mp=>false) b=true then u else u.set ((fun m:Mp=>m.s.toNat) b) (u.getD ((fun m:Mp=>m.s.toNat) b) 0 + 1)) (List.replicate 8 0):=rfl
 rw[e,h];simp
theorem Qyi (l:List Int) (s:Nat) (hs:s < 8):(We l).getD s 0=l.countP (fun o=>!(o == 0) && (o - 1).toNat == s):=by
 have h:=Qjf (fun o:Int=>(o - 1).toNat) (fun o=>o == 0) l s (List.replicate 8 0) (by simpa using hs)
 rw[Qfh,Int.zero_add]at h
 have e:We l=l.foldl (fun u b=>if (fun o:Int=>o == 0) b=true then u else u.set ((fun o:Int=>(o - 1).toNat) b) (u.getD ((fun o:Int=>(o - 1).toNat) b) 0 + 1)) (List.replicate 8 0):=by
  unfold We
  congr 1
  funext u o
  simp
 rw[e,h]
theorem Qly (l:List Mp) (i:Nat) (hi:i < 18):(Qbu l).getD i false=l.any (fun m=>Yy m == i):=by
 suffices h:∀ (l:List Mp) (u:List Bool),i < u.length→(l.foldl (fun u m=>u.set (Yy m) true) u).getD i false=(u.getD i false || l.any (fun m=>Yy m == i)) by
  have:=h l (List.replicate 18 false) (by simpa using hi)
  unfold Qbu
  rw[this]
  have e:(List.replicate 18 false).getD i false=false:=by rw[List.getD_eq_getElem?_getD,List.getElem?_replicate,if_pos hi];rfl
  rw[e,Bool.false_or]
 intro l
 induction l with
 | nil=>intro u _;simp
 | cons m l ih =>
  intro u hu
  rw[List.foldl_cons,ih _ (by simpa using hu),List.any_cons]
  by_cases hm:Yy m=i
  ·subst hm;simp[List.getD,hu]
  ·have e:(Yy m == i)=false:=by simpa using hm
   simp[List.getD,List.getElem?_set_ne hm,e]
theorem Qct (t:Tb):Wa t=true ↔ goodT t:=by unfold Wa;simp
theorem Xmt {t:Tb} (h:goodT t) {i:Nat} (hi:i < 18) (ho:t.pool.own.getD i 0≠0):∃ m ∈ t.maps,Qb4 t m∧Yy m=i∧t.pool.own.getD i 0=m.s + 1∧0≤m.s∧m.s < 8:=by
 have h1:=h.used i hi
 rw[Qly _ _ hi]at h1
 have h2:(t.pool.own.getD i 0 != 0)=true:=by simpa using ho
 rw[h2]at h1
 obtain ⟨m,hm,he⟩:=List.any_eq_true.1 h1.symm
 have he:Yy m=i:=by simpa using he
 obtain ⟨k,hk,rfl⟩:=List.getElem_of_mem hm
 have hok:=h.maps k hk
 obtain ⟨_,⟨h3,h4⟩,_⟩:=Kx hok.1.1
 refine ⟨_,hm,hok,he,?_,h3,h4⟩
 have:=hok.2.2
 unfold Pool.ow at this
 rw[← this]
 congr 1
 rw[← he];rfl
theorem Tb.hom_bd {t:Tb} (h:goodT t) (hw:t.wf) {s:Nat} (hs:s < 8):0≤t.hom s∧t.hom s≤3:=by
 by_cases h0:t.hom s=0
 ·omega
 have h1:=(h.subs s hs).2.2
 rw[Qyi _ _ hs]at h1
 have h2:(t.hom s != 0)=true:=by simpa using h0
 rw[h2]at h1
 have h3:=of_decide_eq_true h1.symm
 have h3:0 < t.pool.own.countP (fun o=>!(o == 0) && (o - 1).toNat == s):=by omega
 obtain ⟨o,ho,hp⟩:=List.countP_pos_iff.1 h3
 obtain ⟨i,hi,rfl⟩:=List.getElem_of_mem ho
 have hi18:i < 18:=by have:=hw.pool.own;omega
 have hgd:t.pool.own.getD i 0=t.pool.own[i]:=by rw[List.getD_eq_getElem?_getD,List.getElem?_eq_getElem hi];rfl
 simp at hp
 obtain ⟨m,hm,hok,_,he,hm0,hm1⟩:=Xmt h hi18 (by rw[hgd];exact hp.1)
 rw[hgd]at he
 have:m.s=(s:Int):=by omega
 have hh:=hok.2.1
 rw[this]at hh
 have ha:=hok.1.2.2
 simp at hh
 omega
theorem Xdt (l:List Mp) (h:∀ m ∈ l,m.s.toNat < 8):l.length=((List.range 8).map fun s=>l.countP fun m=>m.s.toNat == s).sum:=by
 induction l with
 | nil=>rfl
 | cons m l ih =>
  have h1:=ih fun m hm=>h m (List.mem_cons_of_mem _ hm)
  have h2:=h m (List.mem_cons_self ..)
  have e:(List.range 8)=[0,1,2,3,4,5,6,7]:=rfl
  rw[e]at h1 ⊢
  simp only[List.map_cons,List.map_nil,List.sum_cons,List.sum_nil,List.countP_cons,List.length_cons]at h1 ⊢
  generalize m.s.toNat=q at *
  rcases (by omega:q=0∨q=1∨q=2∨q=3∨q=4∨q=5∨q=6∨q=7) with rfl|rfl|rfl|rfl|rfl|rfl|rfl|rfl<;>simp<;>omega
theorem Qbw {t:Tb} (h:goodT t):t.maps.length≤96:=by
 have hs:∀ m ∈ t.maps,m.s.toNat < 8:=fun m hm=>by
  obtain ⟨k,hk,rfl⟩:=List.getElem_of_mem hm
  obtain ⟨_,⟨h3,h4⟩,_⟩:=Kx (h.maps k hk).1.1
  omega
 rw[Xdt _ hs]
 have hb:∀ s,s < 8→t.maps.countP (fun m=>m.s.toNat == s)≤12:=fun s hs=>by
  have:=(h.subs s hs).2.1
  rw[Qt8 _ _ hs]at this
  omega
 have e:(List.range 8)=[0,1,2,3,4,5,6,7]:=rfl
 rw[e]
 simp only[List.map_cons,List.map_nil,List.sum_cons,List.sum_nil]
 have h0:=hb 0 Zom;have h1:=hb 1 Zom;have h2:=hb 2 Zom;have h3:=hb 3 Zom
 have h4:=hb 4 Zom;have h5:=hb 5 Zom;have h6:=hb 6 Zom;have h7:=hb 7 Zom
 omega
theorem Xkj (l:List Mp) (k:Nat) (h:k < l.length) (s:Int):Zm (l.take (k + 1)) s=Zm (l.take k) s + (if l[k].s=s then 1 else 0):=by
 have e:l.take (k + 1)=l.take k++[l[k]]:=by rw[List.take_add_one,List.getElem?_eq_getElem h];rfl
 unfold Zm
 rw[e,List.countP_append]
 by_cases h2:l[k].s=s<;>simp[h2]
theorem Qz8 (l:List Mp) (k:Nat) (s:Int):Zm (l.take k) s≤k:=by
 unfold Zm
 have:=List.countP_le_length (p:=fun m:Mp=>m.s == s) (l:=l.take k)
 rw[List.length_take]at this
 omega
def z30:List AV:=[(.int .i64 0),(.int .i64 0),(.int .i64 0),(.int .i64 0),(.int .i64 0),(.int .i64 0),(.int .i64 0),(.int .i64 0),(.int .i64 0),(.int .i64 0),(.int .i64 0),(.int .i64 0),(.int .i64 0),(.int .i64 0),(.int .i64 0),(.int .i64 0),(.int .i64 0),(.int .i64 0),(.bool false),(.bool false),(.bool false),(.int .i64 0),(.int .i64 0),(.int .i64 0),(.int .i64 0),(.int .i64 0),(.int .i64 0),(.int .i64 0),(.int .i64 0),.nils]
def z5:List AV:=[(.int .i64 0),(.int .i64 0),(.int .i64 0),(.int .i64 0),(.int .i64 0)]
theorem Xyk (n:Nat):nmAll n z30=True:=by simp[z30,nmAll,Qe]
theorem Yaj (n:Nat):nmAll n z5=True:=by simp[z5,nmAll,Qe]
theorem Xqj (ρ:Nat→Nat):rens ρ z30=z30:=by simp[z30,rens,ren]
theorem Xtf (ρ:Nat→Nat):rens ρ z5=z5:=by simp[z5,rens,ren]
theorem Xt5 (s:Int):Zm [] s=0:=rfl
attribute [go_sem] Xyk Yaj Xqj Xtf Xt5
theorem Xpv (k:Nat) (t:Tb) (proto a:Int) (r:List Int) (i:Nat) (h:i < 8):((Wn k).drop i++r).find? (Qhn t proto a)=if Qhn t proto a (1024 + (k:Int) * 8 + i)=true then some (1024 + (k:Int) * 8 + i) else ((Wn k).drop (i + 1)++r).find? (Qhn t proto a):=by
 have hl:i < (Wn k).length:=by simpa [Wn] using h
 rw[List.drop_eq_getElem_cons hl,List.cons_append,List.find?_cons]
 have e:(Wn k)[i]=1024 + (k:Int) * 8 + i:=by simp[Wn]
 rw[e]
 split<;>rename_i h<;>simp[h]
theorem Xwd {t:Tb} {s n k:Nat} (h:k ∈ Kp t s n):k < n:=by
 unfold Kp at h
 exact List.mem_range.1 (List.mem_filter.1 h).1
set_option maxHeartbeats 8000000 in
set_option maxRecDepth 20000 in
theorem Xsw (gl:Nat→AV) (t:Tb) (ht:t.ok) (hgt:goodT t) (proto:Int) (S:Nat) (inn draw:Int) (hkn:Zy proto S inn=true) (R:AV) (hnm:Qe 0 R)
  (H1:Hid (∀ m,t.maps.find? (Zj proto S inn)=some m→R=Jb t m false 0))
  (H2:Hid (t.maps.find? (Zj proto S inn)=none→12≤Zm t.maps S→R=Jb t mp0 false 6))
  (H3:Hid (t.maps.find? (Zj proto S inn)=none→¬ 12≤Zm t.maps S→(∀ port,Qba t proto (t.hom S - 1) (Qa0 t S)=some port→R=Jb (t.add ⟨proto,S,inn,t.hom S - 1,port⟩) ⟨proto,S,inn,t.hom S - 1,port⟩ false 0) ∧
   (Qba t proto (t.hom S - 1) (Qa0 t S)=none→(2≤(Qa0 t S).length→R=Jb t mp0 false 6)∧(¬ 2≤(Qa0 t S).length→(1≤t.hom S→R=Qcm (t.tk proto S inn (t.hom S - 1) draw)) ∧
    (¬ 1≤t.hom S→((t.pool.pick draw).2≠0→R=Jb t mp0 false (t.pool.pick draw).2)∧((t.pool.pick draw).2=0→R=Qcm (t.tk proto S inn (t.pool.pick draw).1 draw))))))) :
  PS Tryz.prog gl 89 [.agg t.enc,.int .i64 proto,.int .i64 S,.int .i64 inn,.int .i64 draw] R:=by
 refine Qdu.ps (of_decide_eq_true rfl) hnm fun c hN hg=>?_
 conv in tcO _ _=>cbv
 have e2:=Tb.enc_len ht.wf
 have e3:=Tb.enc_maps ht.wf
 have hG:=Qfg c.gl t ht
 rw[Qok hgt]at hG
 have hK:=Qit c.gl proto S inn
 rw[hkn]at hK
 have hF:=Qsb c.gl t ht.wf ht.len proto S inn
 have hel:=Jc t.maps
 obtain ⟨_,⟨_,hS8⟩,_⟩:=Kx hkn
 have hS8:S < 8:=by omega
 have hhb:=Tb.hom_bd hgt ht.wf hS8
 have hml:=Qbw hgt
 have eh:=Tb.enc_home ht.wf hS8
 have hBl:=Qml c.gl t ht.wf S hS8 hhb
 cases hfd:t.maps.find? (Zj proto S inn) with
 | some m =>
  have hR:=H1.out m hfd
  rw[hfd]at hF
  unfold mpT at hF
  subst hR
  refine Qg @e2 ?_
  refine Xa hG @e2 ?_
  refine Xa hK @e2 ?_
  (refine Qa (fun h1=>?_) (fun h1=>?_)<;>try exact h1.elim)
  refine Qg @e2 ?_
  unfold Mp.enc at hF
  refine Xa hF @e2 ?_
  (refine Qa (fun h2=>?_) (fun h2=>?_)<;>try exact h2.elim)
  exact Qq (An @e2 (An @Jb.eq_1 @Mp.enc.eq_1))
 | none =>
  rw[hfd]at hF
  unfold mpT mp0 Mp.enc at hF
  dsimp only at hF
  refine Qg @e2 ?_
  refine Xa hG @e2 ?_
  refine Xa hK @e2 ?_
  (refine Qa (fun h1=>?_) (fun h1=>?_)<;>try exact h1.elim)
  refine Qg @e2 ?_
  refine Xa hF @e2 ?_
  (refine Qa (fun h2=>?_) (fun h2=>?_)<;>try exact h2.elim)
  refine Qg (An @e2 @e3) ?_
  refine Xl (fun k:Nat=>k≤t.maps.length)
   (fun k=>⟨[(1,.int .i64 proto),(2,.int .i64 S),(3,.int .i64 inn),(4,.int .i64 draw),(5,.ptr 0 0),(10,.ptr 1 0),(11,.ptr 2 0),(14,.cl 125 [.ptr 0 0]),(17,.int .i64 (Zm (t.maps.take k) S)),(61,.isl t.maps.length (mps t.maps)),(62,.int .i64 t.maps.length),(63,.int .i64 k)],[(0,.cells t.enc),(1,.cells z30),(2,.cells z5)],3⟩) (fun k=>t.maps.length - k) Qdu.mixed hN
   ⟨0,by omega,[],by exact Qq (An @z30.eq_1 @z5.eq_1)⟩ fun k hk=>?_
  refine Qd ?_
  (refine Qa (fun h3=>?_) (fun h3=>?_)<;>try exact h3.elim)
  ·have hkn:k < t.maps.length:=by omega
   have hcut:=Qd0 t.maps k hkn
   have hms:=Xkj t.maps k hkn S
   have hmle:=Qz8 t.maps k S
   generalize t.maps[k]=m at *
   obtain ⟨mp,ms,mi,ma,mt⟩:=m
   simp only[Mp.enc]at hcut
   dsimp only at hms
   refine Qg (An @hel @hcut) ?_
   (refine Qa (fun h4=>?_) (fun h4=>?_)<;>try exact h4.elim)
   ·rw[if_pos Zom]at hms
    refine Qd ?_
    refine ⟨k + 1,by omega,⟨[],?_⟩,by omega⟩
    exact Qq @hms
   ·rw[if_neg Zom]at hms
    refine Qd ?_
    refine ⟨k + 1,by omega,⟨[],?_⟩,by omega⟩
    exact Qq @hms
  ·have:k=t.maps.length:=by omega
   subst this
   have htl:t.maps.take t.maps.length=t.maps:=List.take_length
   rw[htl]
   have hmc:=Qz8 t.maps t.maps.length S
   rw[htl]at hmc
   have HH2:=Lib.hid (H2.out hfd)
   have HH3:=Lib.hid (H3.out hfd)
   clear H1 H2 H3
   generalize Zm t.maps S=many at *
   refine Qd ?_
   (refine Qa (fun h4=>?_) (fun h4=>?_)<;>try exact h4.elim)
   ·have hR:=HH2.out Zom
    subst hR
    refine Qd ?_
    exact Js (ip [0]) (Qag c.gl t ht.wf 6) (An @e2 (An @Jb.eq_1 (An @Mp.enc.eq_1 (An @mp0.eq_1 (An @z30.eq_1 @z5.eq_1)))))
   have HH4:=Lib.hid (HH3.out Zom)
   clear HH3 HH2
   by_cases hh1:1≤t.hom S
   ·have hbl:Qgi t S=.isl (Kp t S 6).length (Qp (natI (Kp t S 6))):=if_pos hh1
    have how:Qa0 t S=Kp t S 6:=if_pos hh1
    rw[hbl]at hBl
    rw[how]at HH4
    have hWb:∀ k ∈ Kp t S 6,k < 6:=fun k hk=>Xwd hk
    have hWl:=Qz6 t S 6
    clear hbl how
    generalize Kp t S 6=W at *
    have hWn:=Qfx W
    have hBk:=fun port=>Que c.gl t ht.wf ht.len proto (t.hom S - 1) port
    generalize hfr:Qba t proto (t.hom S - 1)=fr at *
    obtain ⟨a,ha⟩:∃ a:Int,a=t.hom S - 1:=⟨_,rfl⟩
    rw[← ha]at HH4 hBk hfr
    refine Qg @e2 ?_
    refine Xa hBl @e2 ?_
    refine Xl (fun k:Nat=>k≤W.length∧fr (W.drop k)=fr W)
     (fun k=>⟨[(1,.int .i64 proto),(2,.int .i64 S),(3,.int .i64 inn),(4,.int .i64 draw),(5,.ptr 0 0),(10,.ptr 1 0),(11,.ptr 2 0),(14,.cl 125 [.ptr 0 0]),(20,.isl W.length (Qp (natI W))),(85,.isl W.length (Qp (natI W))),(86,.int .i64 W.length),(87,.int .i64 k)],[(0,.cells t.enc),(1,.cells z30),(2,.cells z5)],3⟩) (fun k=>W.length - k) Qdu.mixed hN
     ⟨0,⟨by omega,rfl⟩,[],by exact Qs⟩ fun k hk=>?_
    obtain ⟨hk,hfk⟩:=hk
    refine Qd ?_
    (refine Qa (fun h5=>?_) (fun h5=>?_)<;>try exact h5.elim)
    ·have hkn:k < W.length:=by omega
     have hbk:=hWb _ (List.getElem_mem hkn)
     have hdr:W.drop k=W[k]::W.drop (k + 1):=List.drop_eq_getElem_cons hkn
     have hcell:=Qra W k hkn
     rw[show W.getD k 0=W[k] by simp[List.getD,hkn]]at hcell
     rw[hdr]at hfk
     generalize W[k]=q at *
     refine Qg (An @hWn @hcell) ?_
     refine Xl (fun i:Nat=>i≤8∧((Wn q).drop i++(W.drop (k + 1)).flatMap Wn).find? (Qhn t proto a)=fr W)
      (fun i=>⟨[(1,.int .i64 proto),(2,.int .i64 S),(3,.int .i64 inn),(4,.int .i64 draw),(5,.ptr 0 0),(10,.ptr 1 0),(11,.ptr 2 0),(14,.cl 125 [.ptr 0 0]),(20,.isl W.length (Qp (natI W))),(22,.int .i64 q),(85,.isl W.length (Qp (natI W))),(86,.int .i64 W.length),(87,.int .i64 k),(91,.int .i64 i)],[(0,.cells t.enc),(1,.cells z30),(2,.cells z5)],3⟩) (fun i=>8 - i) Qdu.mixed hN
      ⟨0,⟨by omega,by rw[← hfk,← hfr];rfl⟩,[],by exact Qs⟩ fun i hi=>?_
     obtain ⟨hi,hfi⟩:=hi
     refine Qd ?_
     (refine Qa (fun h6=>?_) (fun h6=>?_)<;>try exact h6.elim)
     ·have hi8:i < 8:=by omega
      rw[Xpv q t proto a _ i hi8]at hfi
      have hB:=hBk (1024 + (q:Int) * 8 + i)
      unfold Qhn at hfi
      cases hfb:t.maps.find? (Zw proto a (1024 + (q:Int) * 8 + i)) with
      | none =>
       rw[hfb]at hfi hB
       simp only[Option.isNone_none,if_true]at hfi
       unfold mpT mp0 Mp.enc at hB
       dsimp only at hB
       have hR:=HH4.out.1 _ hfi.symm
       subst hR
       have e24:=Tb.enc_len (t:=t.add ⟨proto,S,inn,a,1024 + (q:Int) * 8 + i⟩) ⟨ht.wf.pool,ht.wf.home⟩
       have hPut:=Qoi c.gl t ht.wf (show t.maps.length≤100000 by omega) ⟨proto,S,inn,a,1024 + (q:Int) * 8 + i⟩ false
       unfold Jb Mp.enc at hPut
       generalize Tb.add _ _=T3 at *
       dsimp only at hPut
       subst ha
       refine Qg (An @e2 @eh) ?_
       refine Xa hB @e2 ?_
       (refine Qa (fun h7=>?_) (fun h7=>?_)<;>try exact h7.elim)
       refine Qg (An @e2 @eh) ?_
       exact Qjq hPut (An @e2 (An @e24 (An @Jb.eq_1 (An @Mp.enc.eq_1 (An @z30.eq_1 @z5.eq_1)))))
      | some m =>
       rw[hfb]at hfi hB
       simp only[Option.isNone_some,Bool.false_eq_true,if_false]at hfi
       unfold mpT Mp.enc at hB
       dsimp only at hB
       subst ha
       refine Qg (An @e2 @eh) ?_
       refine Xa hB @e2 ?_
       (refine Qa (fun h7=>?_) (fun h7=>?_)<;>try exact h7.elim)
       refine Qd ?_
       refine ⟨i + 1,⟨by omega,hfi⟩,⟨[],?_⟩,by omega⟩
       exact Qs
     ·have:i=8:=by omega
      subst this
      rw[show (Wn q).drop 8=[] by simp[Wn],List.nil_append]at hfi
      refine Qd ?_
      refine ⟨k + 1,⟨by omega,by rw[← hfi,← hfr];rfl⟩,⟨[],?_⟩,by omega⟩
      exact Qs
    ·have:k=W.length:=by omega
     subst this
     rw[List.drop_length]at hfk
     have HH5:=HH4.out.2 (by rw[← hfk,← hfr];rfl)
     have HPN:=Lib.hid HH5.1
     have HPY:=Lib.hid HH5.2
     clear HH4 HH5
     refine Qd ?_
     (refine Qa (fun h6=>?_) (fun h6=>?_)<;>try exact h6.elim)
     ·have hR:=HPN.out Zom
      subst hR
      refine Qd ?_
      exact Js (ip [0]) (Qag c.gl t ht.wf 6) (An @e2 (An @Jb.eq_1 (An @Mp.enc.eq_1 (An @mp0.eq_1 (An @z30.eq_1 @z5.eq_1)))))
     have HTK:=Lib.hid ((HPY.out Zom).1 hh1)
     clear HPN HPY
     refine Qg (An @e2 @eh) ?_
     have e4:=Tb.enc_pool ht.wf
     (refine Qa (fun h7=>?_) (fun h7=>?_)<;>try exact h7.elim)
     ·omega
     clear h7
     rw[← ha]
     have hT:=Qvc c.gl t.pool ht.wf.pool S a draw
     have htkn:=Xah t.pool ht.wf.pool S a draw
     have htw:=Pool.take_wf t.pool ht.wf.pool S a draw
     generalize hx:t.pool.take S a draw=x at *
     obtain ⟨tp,tk,te⟩:=x
     unfold Qep at hT
     dsimp only at hT htw
     have etl:=Pool.enc_len htw
     refine Qg (An @e2 @e4) ?_
     refine Xa hT (An @e2 @etl) ?_
     (refine Qa (fun h8=>?_) (fun h8=>?_)<;>try exact h8.elim)
     ·have hR:=HTK.out.trans (show Qcm (t.tk proto S inn a draw)=Jb t mp0 false te by unfold Tb.tk Qcm;rw[hx];simp[h8])
      subst hR
      refine Qd ?_
      exact Js (ip [0]) (Qag c.gl t ht.wf te) (An @e2 (An @Jb.eq_1 (An @Mp.enc.eq_1 (An @mp0.eq_1 (An @z30.eq_1 @z5.eq_1)))))
     have hte:te=0:=by simpa using h8
     subst hte
     cases htkn with
     | no _ he=>exact (he rfl).elim
     | yes b kk _ hb3 hk6 _ _ hgo _ _ _ =>
     have hpw:=htw
     have es1:=Tb.enc_pool_set ht.wf hpw
     have hw1:(⟨t.pool.put b kk (S + 1),t.home,t.maps⟩:Tb).wf:=⟨hpw,ht.wf.home⟩
     have es2:(⟨t.pool.put b kk (S + 1),t.home,t.maps⟩:Tb).enc.set (21 + S) (.int .i64 (a + 1))=(⟨t.pool.put b kk (S + 1),t.home.set S (a + 1),t.maps⟩:Tb).enc:=Tb.enc_home_set hw1 hS8 (a + 1)
     have hw2:(⟨t.pool.put b kk (S + 1),t.home.set S (a + 1),t.maps⟩:Tb).wf:=⟨hpw,by rw[List.length_set];exact ht.wf.home⟩
     have e22:=Tb.enc_len hw2
     have e21:=Tb.enc_len hw1
     have hPut:=Qoi c.gl _ hw2 (show t.maps.length≤100000 by omega) ⟨proto,S,inn,a,1024 + (kk:Int) * 8⟩ true
     have hR:=HTK.out.trans (show Qcm (t.tk proto S inn a draw)=Jb (Tb.add ⟨t.pool.put b kk (S + 1),t.home.set S (a + 1),t.maps⟩ ⟨proto,S,inn,a,1024 + (kk:Int) * 8⟩) ⟨proto,S,inn,a,1024 + (kk:Int) * 8⟩ true 0 by unfold Tb.tk Qcm;rw[hx];rfl)
     subst hR
     clear HTK
     have e24:=Tb.enc_len (t:=Tb.add ⟨t.pool.put b kk (S + 1),t.home.set S (a + 1),t.maps⟩ ⟨proto,S,inn,a,1024 + (kk:Int) * 8⟩) ⟨hw2.pool,hw2.home⟩
     unfold Jb Mp.enc at hPut
     generalize Tb.add _ _=T3 at *
     generalize (⟨t.pool.put b kk (S + 1),t.home.set S (a + 1),t.maps⟩:Tb)=T2 at *
     generalize (⟨t.pool.put b kk (S + 1),t.home,t.maps⟩:Tb)=T1 at *
     dsimp only at hPut
     refine Qg (An @e2 (An @es1 (An @es2 (An @e22 @e21)))) ?_
     exact Qjq hPut (An @e2 (An @e24 (An @Jb.eq_1 (An @Mp.enc.eq_1 (An @z30.eq_1 @z5.eq_1)))))
   ·have hbl:Qgi t S=.nils:=if_neg hh1
    have how:Qa0 t S=[]:=if_neg hh1
    rw[hbl]at hBl
    rw[how]at HH4
    refine Qg @e2 ?_
    refine Xa hBl @e2 ?_
    refine Xl (fun _:Unit=>True)
     (fun _=>⟨[(1,.int .i64 proto),(2,.int .i64 S),(3,.int .i64 inn),(4,.int .i64 draw),(5,.ptr 0 0),(10,.ptr 1 0),(11,.ptr 2 0),(14,.cl 125 [.ptr 0 0]),(20,.nils),(85,.nils),(86,.int .i64 0),(87,.int .i64 0)],[(0,.cells t.enc),(1,.cells z30),(2,.cells z5)],3⟩) (fun _=>0) Qdu.mixed hN
     ⟨(),trivial,[],by exact Qs⟩ fun _ _=>?_
    refine Qd ?_
    (refine Qa (fun h5=>?_) (fun h5=>?_)<;>try exact h5.elim)
    refine Qd ?_
    (refine Qa (fun h6=>?_) (fun h6=>?_)<;>try exact h6.elim)
    refine Qg (An @e2 @eh) ?_
    have e4:=Tb.enc_pool ht.wf
    have hP:=Xpp c.gl t.pool ht.wf.pool draw
    have HH5:=(HH4.out.2 rfl).2 Zsi
    have HH6:=HH5.2 hh1
    have HPN:=Lib.hid HH6.1
    have HPY:=Lib.hid HH6.2
    clear HH4 HH5 HH6
    have hpk:=Xye t.pool draw
    generalize t.pool.pick draw=pk at *
    obtain ⟨pa,pe⟩:=pk
    dsimp only at HPN HPY hP
    (refine Qa (fun h7=>?_) (fun h7=>?_)<;>try exact h7.elim)
    rotate_left
    ·omega
    refine Qg (An @e2 @e4) ?_
    refine Xa hP @e2 ?_
    (refine Qa (fun h8=>?_) (fun h8=>?_)<;>try exact h8.elim)
    ·have hR:=HPN.out h8
     subst hR
     refine Qd ?_
     exact Js (ip [0]) (Qag c.gl t ht.wf pe) (An @e2 (An @Jb.eq_1 (An @Mp.enc.eq_1 (An @mp0.eq_1 (An @z30.eq_1 @z5.eq_1)))))
    have hpe:pe=0:=by simpa using h8
    subst hpe
    have HTK:=Lib.hid (HPY.out rfl)
    have hT:=Qvc c.gl t.pool ht.wf.pool S pa draw
    have htkn:=Xah t.pool ht.wf.pool S pa draw
    have htw:=Pool.take_wf t.pool ht.wf.pool S pa draw
    generalize hx:t.pool.take S pa draw=x at *
    obtain ⟨tp,tk,te⟩:=x
    unfold Qep at hT
    dsimp only at hT htw
    have etl:=Pool.enc_len htw
    clear h8
    refine Qg (An @e2 @e4) ?_
    refine Xa hT (An @e2 @etl) ?_
    (refine Qa (fun h8=>?_) (fun h8=>?_)<;>try exact h8.elim)
    ·have hR:=HTK.out.trans (show Qcm (t.tk proto S inn pa draw)=Jb t mp0 false te by unfold Tb.tk Qcm;rw[hx];simp[h8])
     subst hR
     refine Qd ?_
     exact Js (ip [0]) (Qag c.gl t ht.wf te) (An @e2 (An @Jb.eq_1 (An @Mp.enc.eq_1 (An @mp0.eq_1 (An @z30.eq_1 @z5.eq_1)))))
    have hte:te=0:=by simpa using h8
    subst hte
    cases htkn with
    | no _ he=>exact (he rfl).elim
    | yes b kk _ hb3 hk6 _ _ hgo _ _ _ =>
    have hpw:=htw
    have es1:=Tb.enc_pool_set ht.wf hpw
    have hw1:(⟨t.pool.put b kk (S + 1),t.home,t.maps⟩:Tb).wf:=⟨hpw,ht.wf.home⟩
    have es2:(⟨t.pool.put b kk (S + 1),t.home,t.maps⟩:Tb).enc.set (21 + S) (.int .i64 (pa + 1))=(⟨t.pool.put b kk (S + 1),t.home.set S (pa + 1),t.maps⟩:Tb).enc:=Tb.enc_home_set hw1 hS8 (pa + 1)
    have hw2:(⟨t.pool.put b kk (S + 1),t.home.set S (pa + 1),t.maps⟩:Tb).wf:=⟨hpw,by rw[List.length_set];exact ht.wf.home⟩
    have e22:=Tb.enc_len hw2
    have e21:=Tb.enc_len hw1
    have hPut:=Qoi c.gl _ hw2 (show t.maps.length≤100000 by omega) ⟨proto,S,inn,pa,1024 + (kk:Int) * 8⟩ true
    have hR:=HTK.out.trans (show Qcm (t.tk proto S inn pa draw)=Jb (Tb.add ⟨t.pool.put b kk (S + 1),t.home.set S (pa + 1),t.maps⟩ ⟨proto,S,inn,pa,1024 + (kk:Int) * 8⟩) ⟨proto,S,inn,pa,1024 + (kk:Int) * 8⟩ true 0 by unfold Tb.tk Qcm;rw[hx];rfl)
    subst hR
    clear HTK HPY HPN
    have e24:=Tb.enc_len (t:=Tb.add ⟨t.pool.put b kk (S + 1),t.home.set S (pa + 1),t.maps⟩ ⟨proto,S,inn,pa,1024 + (kk:Int) * 8⟩) ⟨hw2.pool,hw2.home⟩
    unfold Jb Mp.enc at hPut
    generalize Tb.add _ _=T3 at *
    generalize (⟨t.pool.put b kk (S + 1),t.home.set S (pa + 1),t.maps⟩:Tb)=T2 at *
    generalize (⟨t.pool.put b kk (S + 1),t.home,t.maps⟩:Tb)=T1 at *
    dsimp only at hPut
    refine Qg (An @e2 (An @es1 (An @es2 (An @e22 @e21)))) ?_
    exact Qjq hPut (An @e2 (An @e24 (An @Jb.eq_1 (An @Mp.enc.eq_1 (An @z30.eq_1 @z5.eq_1)))))
theorem Qza (x:Tb × Mp × Bool × Int) (n:Nat):Qe n (Qcm x)=True:=Qp3 ..
theorem Xok (x:Tb × Mp × Bool × Int) (ρ:Nat→Nat):ren ρ (Qcm x)=Qcm x:=Qrq ..
attribute [go_sem] Qza Xok
theorem Xr6 (gl:Nat→AV) (t:Tb) (ht:t.ok) (proto s inn draw:Int):PS Tryz.prog gl 89 [.agg t.enc,.int .i64 proto,.int .i64 s,.int .i64 inn,.int .i64 draw] (Qcm (t.opn proto s inn draw)):=by
 by_cases hb:Wa t=false∨Zy proto s inn=false
 ·have e:t.opn proto s inn draw=(t,mp0,false,2):=if_pos hb
  rw[e]
  exact Xga gl t ht proto s inn draw hb
 have e:t.opn proto s inn draw=match t.maps.find? (Zj proto s inn) with
  | some m=>(t,m,false,0)
  | none =>
   if 12≤Zm t.maps s then (t,mp0,false,6) else
   match Qba t proto (t.hom s.toNat - 1) (Qa0 t s.toNat) with
   | some port=>(t.add ⟨proto,s,inn,t.hom s.toNat - 1,port⟩,⟨proto,s,inn,t.hom s.toNat - 1,port⟩,false,0)
   | none =>
    if 2≤(Qa0 t s.toNat).length then (t,mp0,false,6) else
    if 1≤t.hom s.toNat then t.tk proto s inn (t.hom s.toNat - 1) draw else
    if (t.pool.pick draw).2≠0 then (t,mp0,false,(t.pool.pick draw).2) else t.tk proto s inn (t.pool.pick draw).1 draw:=if_neg hb
 have hg:Wa t=true:=by
  cases h:Wa t
  ·exact (hb (Or.inl h)).elim
  ·rfl
 have hk:Zy proto s inn=true:=by
  cases h:Zy proto s inn
  ·exact (hb (Or.inr h)).elim
  ·rfl
 obtain ⟨_,⟨hs0,hs8⟩,_⟩:=Kx hk
 obtain ⟨S,rfl⟩:=Int.eq_ofNat_of_zero_le hs0
 rw[Int.toNat_natCast]at e
 refine Xsw gl t ht ((Qct t).1 hg) proto S inn draw hk _ (by rw[Qza];trivial) (Lib.hid fun m hm=>?_) (Lib.hid fun hm h12=>?_) (Lib.hid fun hm h12=>⟨fun port hp=>?_,fun hp=>⟨fun h2=>?_,fun h2=>⟨fun h1=>?_,fun h1=>⟨fun hz=>?_,fun hz=>?_⟩⟩⟩⟩)
 ·rw[e,hm];rfl
 ·rw[e,hm];dsimp only;rw[if_pos h12];rfl
 ·rw[e,hm];dsimp only;rw[if_neg h12,hp];rfl
 ·rw[e,hm];dsimp only;rw[if_neg h12,hp];dsimp only;rw[if_pos h2];rfl
 ·rw[e,hm];dsimp only;rw[if_neg h12,hp];dsimp only;rw[if_neg h2,if_pos h1]
 ·rw[e,hm];dsimp only;rw[if_neg h12,hp];dsimp only;rw[if_neg h2,if_neg h1,if_pos hz];rfl
 ·rw[e,hm];dsimp only;rw[if_neg h12,hp];dsimp only;rw[if_neg h2,if_neg h1,if_neg (by simp[hz])]
theorem Xuc:Um Tryz.prog 100 69=some [.int .i64,.int .i64,.int .i64,.int .i64,.int .i64]:=by kernel_rfl
theorem Xw9 {x y:Mp}:x=y ↔ x.enc=y.enc:=by
 cases x;cases y;simp[Mp.enc]
theorem Qnc {c:Cx} {ne:Bool} (x y:Mp):Qae Tryz.prog c (.cA ne 69) [.agg x.enc,.agg y.enc] (.bool (ne != decide (x=y))) :=
 Qjb Xuc (by kernel_rfl) (by kernel_rfl) rfl rfl (by rw[decide_eq_true_eq];exact Xw9)
def ixM:List Mp→Mp→Nat→Int
 | [],_,_=>-1
 | x::l,m,k=>if m=x then k else ixM l m (k + 1)
set_option maxHeartbeats 1000000 in
theorem Qu4 (gl:Nat→AV) (l:List Mp) (hl:l.length≤4611686018427387904) (m:Mp):PS Tryz.prog gl 140 [.isl l.length (mps l),.agg m.enc] (.int .i64 (ixM l m 0)):=by
 refine Qq1.ps (of_decide_eq_true rfl) (by simp[Qe]) fun c hN hg=>?_
 conv in tcO _ _=>cbv
 have hel:=Jc l
 have hml:m.enc.length=5:=rfl
 have hmn:∀ n,nmAll n m.enc=True:=fun n=>by simp[Mp.enc,nmAll,Qe]
 have hmr:∀ ρ,rens ρ m.enc=m.enc:=fun ρ=>by simp[Mp.enc,rens,ren]
 refine Qd ?_
 refine Xl (fun k:Nat=>k≤l.length∧ixM (l.drop k) m k=ixM l m 0) (fun k=>⟨[(0,.isl l.length (mps l)),(3,.ptr 0 0),(6,.isl l.length (mps l)),(7,.int .i64 l.length),(8,.int .i64 k)],[(0,.cells m.enc)],1⟩) (fun k=>l.length - k) Qq1.mixed hN
  ⟨0,⟨by omega,rfl⟩,[],by exact Qq @hmn⟩ fun k hk=>?_
 obtain ⟨hk,hik⟩:=hk
 refine Qd ?_
 (refine Qa (fun h1=>?_) (fun h1=>?_)<;>try exact h1.elim)
 ·have hkn:k < l.length:=by omega
  have hcut:=Qd0 l k hkn
  have hdr:l.drop k=l[k]::l.drop (k + 1):=List.drop_eq_getElem_cons hkn
  rw[hdr]at hik
  rw[ixM]at hik
  generalize l[k]=x at *
  have heq:=@Qnc c false m x
  refine Qg (An @hel (An @hcut @hml)) ?_
  refine Xa heq (An @hel (An @hcut @hml)) ?_
  (refine Qa (fun h2=>?_) (fun h2=>?_)<;>try exact h2.elim)
  ·rw[if_pos (by simpa using h2)]at hik
   exact Qq @hik
  ·rw[if_neg (by simpa using h2)]at hik
   refine Qd ?_
   refine ⟨k + 1,⟨by omega,hik⟩,⟨[],?_⟩,by omega⟩
   exact Qq (An @hmn @hmr)
 ·have:k=l.length:=by omega
  subst this
  rw[List.drop_length]at hik
  have hik:(-1:Int)=ixM l m 0:=hik
  exact Qq @hik
theorem Quy:Qox Tryz.prog 37 5:=Qp4 (by kernel_rfl)
theorem Xqf (l:List Mp) (k:Nat) (h:k≤l.length):(mps l).drop (k * 5)=mps (l.drop k):=by
 have e:mps l=mps (l.take k)++mps (l.drop k):=by rw[Qoc,List.take_append_drop]
 rw[e,List.drop_append_of_le_length (by rw[Jc,List.length_take];omega),List.drop_of_length_le (by rw[Jc,List.length_take];omega),List.nil_append]
theorem Xhu (l:List Mp) (i:Nat) (hi:i < l.length):(mps l).take (i * 5)++(mps l).drop ((i + 1) * 5)=mps (l.eraseIdx i):=by
 rw[Qtt l i Zom,Xqf l (i + 1) Zom,Qoc,List.eraseIdx_eq_take_drop_succ]
set_option maxHeartbeats 1000000 in
theorem Xnn (gl:Nat→AV) (l:List Mp) (hl:l.length≤1000000) (i:Nat) (hi:i < l.length):GS Tryz.prog gl 141 [.sl 5 0 0 l.length l.length,.int .i64 i,.int .i64 ((i:Int) + 1)] [(0,.cells (mps l))] 1
  (.sl 5 0 0 (l.length - 1) l.length) [(0,.cells (mps (l.eraseIdx i)))] 1:=by
 refine Xcn.gs (of_decide_eq_true rfl) (by simp[Bk.live]) fun c hN hg=>?_
 conv in tcO _ _=>cbv
 have hel:=Jc l
 have y1:i - 0=i:=by omega
 have y2:l.length - 0=l.length:=by omega
 have y3:((i:Int) + 1).toNat=i + 1:=by omega
 have y4:i + (l.length - (i + 1))=l.length - 1:=by omega
 have y5:l.length - (l.length - 1)=1:=by omega
 have y6:i + 0=i:=by omega
 have y7:(0:Nat) * 5=0:=by omega
 have hcells:=Xhu l i hi
 have hel2:=Jc (l.eraseIdx i)
 rw[List.length_eraseIdx,if_pos hi]at hel2
 have hfull:(mps (l.eraseIdx i)).take ((l.length - 1) * 5)=mps (l.eraseIdx i):=List.take_of_length_le Zom
 refine Qg @hel ?_
 ((first|apply Yq|apply Ya|apply Xs|apply Xm)<;>(first|exact (Xx2 (by omega) (by omega) (by omega) (by omega))|(refine XG ?_;first|exact rfl|exact True.intro|((try (repeat' with_reducible refine And.intro ?_ ?_));(try any_goals (first|refine zm ?_|exact CL|fail))))))
 (refine Qa (fun h1=>?_) (fun h1=>?_)<;>try exact h1.elim)
 ·omega
 refine Qg @hel ?_
 by_cases h2:i + 1 < l.length
 ·refine Qg @hel ?_
  ((first|apply Qzq|apply Quo);(have zf1:=@hel;have zf2:=@y1;have zf3:=@y2;have zf4:=@y3;have zf5:=@hcells;have zf6:=@y4;refine XG ?_;clear zf1 zf2 zf3 zf4 zf5 zf6;((try (repeat' with_reducible refine And.intro ?_ ?_));(try any_goals (first|refine zm ?_|exact CL|fail)))))
  (refine Qmm Quy ?_;(have zf1:=@hel;have zf2:=@y1;have zf3:=@y2;have zf4:=@y3;have zf5:=@y5;have zf6:=@hcells;have zf7:=@y4;have zf8:=@hfull;refine XG ?_;clear zf1 zf2 zf3 zf4 zf5 zf6 zf7 zf8;((try (repeat' with_reducible refine And.intro ?_ ?_));(try any_goals (first|refine zm ?_|exact CL|fail)))))
  refine Qd ?_
  refine ⟨[],?_⟩
  exact Qs
 ·have:i + 1=l.length:=by omega
  have y8:l.length - 1=i:=by omega
  have hcells2:(mps l).take (i * 5)=mps (l.eraseIdx i):=by rw[← hcells,List.drop_of_length_le Zom,List.append_nil]
  rw[y8]at hfull
  refine Qg @hel ?_
  ((first|apply Qzq|apply Quo);(have zf1:=@hel;have zf2:=@y1;have zf3:=@y2;have zf4:=@y6;have zf5:=@y7;have zf6:=@List.append_nil.{0};have zf7:=@hcells2;refine XG ?_;clear zf1 zf2 zf3 zf4 zf5 zf6 zf7;((try (repeat' with_reducible refine And.intro ?_ ?_));(try any_goals (first|refine zm ?_|exact CL|fail)))))
  (refine Qmm Quy ?_;(have zf1:=@hel;have zf2:=@y1;have zf3:=@y2;have zf4:=@y3;have zf5:=@y5;have zf6:=@y8;have zf7:=@hfull;refine XG ?_;clear zf1 zf2 zf3 zf4 zf5 zf6 zf7;((try (repeat' with_reducible refine And.intro ?_ ?_));(try any_goals (first|refine zm ?_|exact CL|fail)))))
  refine Qd ?_
  refine ⟨[],?_⟩
  exact Qq @y8
theorem Qrg (m:Mp):∀ (l:List Mp) (k:Nat),ixM l m k=match l.findIdx? (fun x=>decide (m=x)) with
  | some i=>((i + k:Nat):Int)
  | none=>-1
 | [],k=>rfl
 | x::l,k=>by
  rw[ixM,Qrg m l (k + 1),List.findIdx?_cons]
  by_cases h:m=x
  ·simp[h]
  ·simp only[h,if_false,decide_false]
   cases l.findIdx? (fun x=>decide (m=x)) with
   | none=>rfl
   | some i=>simp only[Option.map_some,Bool.false_eq_true,if_false];congr 1;omega
theorem Qzf {l:List Mp} {m:Mp} {i:Nat} (h:l.findIdx? (fun x=>decide (m=x))=some i):∃ hi:i < l.length,l[i]=m:=by
 obtain ⟨hi,h1,_⟩:=List.findIdx?_eq_some_iff_getElem.1 h
 exact ⟨hi,(of_decide_eq_true h1).symm⟩
def Qbp (m o:Mp):Bool:=decide (o.a=m.a) && decide (Xr o.port=Xr m.port)
noncomputable def Tb.give (t:Tb) (m:Mp):Tb :=
 if Qa0 ⟨(t.pool.give m.s m.a (Xr m.port)).1,t.home,t.maps⟩ m.s.toNat=[] then ⟨(t.pool.give m.s m.a (Xr m.port)).1,t.home.set m.s.toNat 0,t.maps⟩ else ⟨(t.pool.give m.s m.a (Xr m.port)).1,t.home,t.maps⟩
def Tb.del (t:Tb) (i:Nat):Tb:=⟨t.pool,t.home,t.maps.eraseIdx i⟩
noncomputable def Tb.cls (t:Tb) (m:Mp):Tb × Bool × Int :=
 if Wa t=false then (t,false,2) else
 match t.maps.findIdx? (fun x=>decide (m=x)) with
 | none=>(t,false,7)
 | some i=>if (t.maps.eraseIdx i).any (Qbp m)=true then (t.del i,false,0) else ((t.del i).give m,true,0)
def Qbz (x:Tb × Bool × Int):AV:=.tup [.agg x.1.enc,.bool x.2.1,.int .i64 x.2.2]
theorem Qkk (x:Tb × Bool × Int) (n:Nat):Qe n (Qbz x)=True:=by simp[Qe,nmAll,Qbz,Tb.enc_nm]
theorem Xrx (x:Tb × Bool × Int) (ρ:Nat→Nat):ren ρ (Qbz x)=Qbz x:=by simp[ren,rens,Qbz,Tb.enc_rens]
attribute [go_sem] Qkk Xrx
set_option maxHeartbeats 4000000 in
set_option maxRecDepth 20000 in
theorem Xas (gl:Nat→AV) (t:Tb) (ht:t.ok) (m:Mp) (h:Wa t=false):PS Tryz.prog gl 102 [.agg t.enc,.agg m.enc] (Qbz (t,false,2)):=by
 refine Qg6.ps (of_decide_eq_true rfl) (by simp[Qkk]) fun c hN hg=>?_
 conv in tcO _ _=>cbv
 have e2:=Tb.enc_len ht.wf
 have hG:=Qfg c.gl t ht
 rw[h]at hG
 unfold Mp.enc
 refine Qg @e2 ?_
 refine Xa hG @e2 ?_
 (refine Qa (fun h1=>?_) (fun h1=>?_)<;>try exact h1.elim)
 exact Qq (An @e2 @Qbz.eq_1)
set_option maxHeartbeats 4000000 in
set_option maxRecDepth 20000 in
theorem Qyd (gl:Nat→AV) (t:Tb) (ht:t.ok) (m:Mp) (h:Wa t=true) (hi:t.maps.findIdx? (fun x=>decide (m=x))=none):PS Tryz.prog gl 102 [.agg t.enc,.agg m.enc] (Qbz (t,false,7)):=by
 refine Qg6.ps (of_decide_eq_true rfl) (by simp[Qkk]) fun c hN hg=>?_
 conv in tcO _ _=>cbv
 have e2:=Tb.enc_len ht.wf
 have e3:=Tb.enc_maps ht.wf
 have hG:=Qfg c.gl t ht
 rw[h]at hG
 have hI:=Qu4 c.gl t.maps ht.len m
 rw[Qrg,hi]at hI
 dsimp only at hI
 unfold Mp.enc at hI ⊢
 refine Qg @e2 ?_
 refine Xa hG @e2 ?_
 (refine Qa (fun h1=>?_) (fun h1=>?_)<;>try exact h1.elim)
 refine Qg (An @e2 @e3) ?_
 refine Xa hI (An @e2 @e3) ?_
 (refine Qa (fun h2=>?_) (fun h2=>?_)<;>try exact h2.elim)
 exact Qq (An @e2 @Qbz.eq_1)
theorem Xq1 {t:Tb} (h:t.wf) (x:AV):(t.hd++[x]).getD 29 .any=x:=by
 rw[List.getD_eq_getElem?_getD,List.getElem?_append_right (by rw[Tb.hd_len h];decide),Tb.hd_len h];rfl
theorem Xwk {t:Tb} (h:t.wf) (x:AV):(t.hd++[x]).take 21=t.pool.enc:=by
 unfold Tb.hd
 rw[List.append_assoc,List.take_append_of_le_length (by rw[Pool.enc_len h.pool];decide),List.take_of_length_le (by rw[Pool.enc_len h.pool];decide)]
theorem Qwb {t:Tb} (h:t.wf) {p:Pool} (hp:p.wf) (x:AV):Ym (t.hd++[x]) 0 p.enc=(⟨p,t.home,t.maps⟩:Tb).hd++[x]:=by
 unfold Ym Tb.hd
 rw[List.take_zero,List.nil_append,Pool.enc_len hp,List.append_assoc,List.append_assoc,Nat.zero_add,← Pool.enc_len h.pool,List.drop_left]
theorem Qw0 {t:Tb} (h:t.wf) {s:Nat} (hs:s < 8) (v:Int) (x:AV):(t.hd++[x]).set (21 + s) (.int .i64 v)=(⟨t.pool,t.home.set s v,t.maps⟩:Tb).hd++[x]:=by
 unfold Tb.hd
 rw[List.append_assoc,List.set_append_right _ _ (by rw[Pool.enc_len h.pool];omega),Pool.enc_len h.pool,show 21 + s - 21=s by omega,List.set_append_left _ _ (by rw[Xw,h.home];exact hs),List.append_assoc]
 simp[Qp,List.map_set]
theorem Yb1 {g:Nat→GM} {W:Nat→Prop} {w:World} {n:Nat} {cs:List AV} {v:Value} (h:VR g W w (.isl n cs) v):VR g W w (.isl n []) v:=by
 obtain ⟨a,cap,us,rfl,h1,h2,_,_⟩:=Qav h
 exact .isl (us:=us) h1 h2 (fun j hj=>by simp at hj) (fun j hj=>by simp at hj)
theorem PS.len {P:Program} {gl:Nat→AV} {f:FuncId} {args:List AV} {n:Nat} {cs:List AV} (h:PS P gl f args (.isl n cs)):PS P gl f args (.isl n []) :=
 ⟨h.1,fun w vs X hX hg hv=>(h.2 w vs X hX hg hv).mono fun e w' ⟨v,he,hr,hf⟩=>⟨v,he,Yb1 hr,hf⟩⟩
theorem Jm.len (n:Nat):Jm (.isl n []):=fun _ _ _ _ _ _ _ h=>by
 obtain ⟨a,cap,us,rfl,h1,h2,_,_⟩:=Qav h
 exact .isl (us:=us) h1 h2 (fun j hj=>by simp at hj) (fun j hj=>by simp at hj)
def Qgo:List AV:=z30.take 29++[.nils]
theorem Xu6 (n:Nat):nmAll n Qgo=True:=by simp[Qgo,z30,nmAll,Qe]
theorem Xg9 (ρ:Nat→Nat):rens ρ Qgo=Qgo:=by simp[Qgo,z30,rens,ren]
attribute [go_sem] Xu6 Xg9
theorem Xvc (l:List Mp) (k:Nat) (h:k < l.length) (f:Mp→Bool):(l.drop k).any f=(f l[k] || (l.drop (k + 1)).any f):=by
 rw[List.drop_eq_getElem_cons h,List.any_cons]
set_option maxHeartbeats 8000000 in
set_option maxRecDepth 20000 in
theorem Xi2 (gl:Nat→AV) (t:Tb) (ht:t.ok) (hgt:goodT t) (m:Mp) (i:Nat) (hi:t.maps.findIdx? (fun x=>decide (m=x))=some i) (R:AV) (hnm:Qe 0 R)
  (H1:Hid ((t.maps.eraseIdx i).any (Qbp m)=true→R=Qbz (t.del i,false,0)))
  (H2:Hid ((t.maps.eraseIdx i).any (Qbp m)=false→R=Qbz ((t.del i).give m,true,0))):PS Tryz.prog gl 102 [.agg t.enc,.agg m.enc] R:=by
 refine Qg6.ps (of_decide_eq_true rfl) hnm fun c hN hg=>?_
 conv in tcO _ _=>cbv
 have e2:=Tb.enc_len ht.wf
 have e3:=Tb.enc_maps ht.wf
 have hG:=Qfg c.gl t ht
 rw[Qok hgt]at hG
 have hI:=Qu4 c.gl t.maps ht.len m
 rw[Qrg,hi]at hI
 dsimp only at hI
 rw[Nat.add_zero]at hI
 have hml:=Qbw hgt
 have hel:=Jc t.maps
 have hs:=Tb.enc_set ht.wf
 have hsl:=Tb.hd_get t ht.wf
 have hgd:=fun x=>Xq1 ht.wf x
 have hhl:=Tb.hd_len ht.wf
 obtain ⟨hil,him⟩:=Qzf hi
 have hok:=hgt.maps i hil
 rw[him]at hok
 obtain ⟨⟨hkn,hip,ha0,ha3⟩,hho,how⟩:=hok
 obtain ⟨_,⟨hs0,hs8⟩,_⟩:=Kx hkn
 have hip':=hip
 unfold Jp at hip'
 simp only[Bool.and_eq_true,decide_eq_true_eq]at hip'
 have hB:=Qgl c.gl m.port Zom
 unfold Qk0 at hB
 rw[hip]at hB
 simp only[if_true]at hB
 have hD:=Xnn c.gl t.maps Zom i hil
 have hLl:(t.maps.eraseIdx i).length=t.maps.length - 1:=by rw[List.length_eraseIdx,if_pos hil]
 have hLb:∀ (k:Nat) (h:k < (t.maps.eraseIdx i).length),-9223372036854775808≤(t.maps.eraseIdx i)[k].port∧(t.maps.eraseIdx i)[k].port≤9223372036854775807:=fun k h=>by
  have hm:=List.mem_of_mem_eraseIdx (List.getElem_mem h)
  obtain ⟨j,hj,he⟩:=List.getElem_of_mem hm
  have h2:=(hgt.maps j hj).1.2.1
  rw[he]at h2
  unfold Jp at h2
  simp only[Bool.and_eq_true,decide_eq_true_eq]at h2
  omega
 have hGv:=Xri c.gl t.pool ht.wf.pool m.s m.a (Xr m.port) Zom
 have hgw:((t.pool.give m.s m.a (Xr m.port)).1).wf:=Pool.give_wf _ ht.wf.pool _ _ _
 obtain ⟨S,hS⟩:=Int.eq_ofNat_of_zero_le hs0
 have hSt:m.s.toNat=S:=by omega
 have hdel:∀ L,L=t.maps.eraseIdx i→t.del i=⟨t.pool,t.home,L⟩:=fun L h=>by rw[h];rfl
 have hdl:=hdel _ rfl
 unfold Tb.give at H2
 rw[hdl]at H1 H2
 rw[← hLl]at hD
 generalize t.maps.eraseIdx i=L at *
 have hlel:=Jc L
 have hcl:=Xwk ht.wf
 have e4:=Pool.enc_len hgw
 have hW1:(⟨(t.pool.give m.s m.a (Xr m.port)).1,t.home,L⟩:Tb).wf:=⟨hgw,ht.wf.home⟩
 have hps:∀ x,Ym (t.hd++[x]) 0 (t.pool.give m.s m.a (Xr m.port)).1.enc=(⟨(t.pool.give m.s m.a (Xr m.port)).1,t.home,L⟩:Tb).hd++[x]:=fun x=>Qwb ht.wf hgw x
 have hb3:0≤(⟨(t.pool.give m.s m.a (Xr m.port)).1,t.home,L⟩:Tb).hom S∧(⟨(t.pool.give m.s m.a (Xr m.port)).1,t.home,L⟩:Tb).hom S≤3:=by
  have:(⟨(t.pool.give m.s m.a (Xr m.port)).1,t.home,L⟩:Tb).hom S=t.hom m.s.toNat:=by rw[hSt];rfl
  omega
 have hh1:1≤(⟨(t.pool.give m.s m.a (Xr m.port)).1,t.home,L⟩:Tb).hom S:=by
  have:(⟨(t.pool.give m.s m.a (Xr m.port)).1,t.home,L⟩:Tb).hom S=t.hom m.s.toNat:=by rw[hSt];rfl
  omega
 have hBl:=Qml c.gl _ hW1 S Zom hb3
 have hbl:Qgi _ S=_:=if_pos hh1
 have howl:Qa0 _ S=_:=if_pos hh1
 rw[hbl]at hBl
 rw[hSt]at H2
 dsimp only at H2
 rw[howl]at H2
 unfold Wl at hGv
 generalize t.pool.give m.s m.a (Xr m.port)=gv at *
 obtain ⟨p',ge⟩:=gv
 dsimp only at *
 have hhs:=fun v x=>Qw0 hW1 (show S < 8 by omega) v x
 dsimp only at hhs
 have e5:∀ x,((⟨p',t.home,L⟩:Tb).hd++[x]).length=30:=fun x=>Tb.hd_get _ hW1 x
 have hwl:(Kp ⟨p',t.home,L⟩ S 6).length=0 ↔ Kp ⟨p',t.home,L⟩ S 6=[]:=List.length_eq_zero_iff
 have hnl:=Qfx (Kp ⟨p',t.home,L⟩ S 6)
 generalize Kp ⟨p',t.home,L⟩ S 6=W at *
 have hfull:(mps L).take (L.length * 5)=mps L:=List.take_of_length_le Zom
 have hN2:t.maps.length=L.length + 1:=by omega
 have hcln:=Qfi c.gl t.maps Zom
 have hsm:∀ o:Mp,Qbp m o=(decide (o.a=m.a) && decide (Xr o.port=Xr m.port)):=fun _=>rfl
 have henc:(⟨p',t.home,L⟩:Tb).enc=(⟨p',t.home,L⟩:Tb).hd++[.isl L.length (mps L)]:=rfl
 rw[henc]at hBl
 have hBl:=hBl.len
 have hhl1:=Tb.hd_len hW1
 rw[hS]at hGv
 unfold Mp.enc at hI ⊢
 rw[hS]at hI ⊢
 refine Qg @e2 ?_
 refine Xa hG @e2 ?_
 (refine Qa (fun h1=>?_) (fun h1=>?_)<;>try exact h1.elim)
 refine Qg (An @e2 @e3) ?_
 refine Xa hI (An @e2 @e3) ?_
 (refine Qa (fun h2=>?_) (fun h2=>?_)<;>try exact h2.elim)
 ·omega
 refine Qg (An @e2 @e3) ?_
 refine Qla (ip []) hcln (An @e2 @e3) ?_
 refine Qla (ip [3]) hD (An @e2 @e3) ?_
 refine Qg (An @hs (An @e2 @hsl)) ?_
 refine Xa hB (An @hhl @hgd) ?_
 refine Xl (fun k:Nat=>k≤L.length∧L.any (Qbp m)=(L.drop k).any (Qbp m))
  (fun k=>⟨[(2,.ptr 0 0),(3,.ptr 1 0),(4,.ptr 2 0),(8,.int .i64 (Xr m.port)),(43,.sl 5 3 0 L.length t.maps.length),(44,.int .i64 L.length),(45,.int .i64 k)],[(0,.cells (t.hd++[.sl 5 3 0 L.length t.maps.length])),(1,.cells [.int .i64 m.proto,.int .i64 S,.int .i64 m.inn,.int .i64 m.a,.int .i64 m.port]),(2,.cells Qgo),(3,.cells (mps L))],4⟩) (fun k=>L.length - k) Qg6.mixed hN
  ⟨0,⟨by omega,rfl⟩,[(3,3)],by exact Qq (An @Qgo.eq_1 @z30.eq_1)⟩ fun k hk=>?_
 obtain ⟨hk,hak⟩:=hk
 refine Qd ?_
 (refine Qa (fun h3=>?_) (fun h3=>?_)<;>try exact h3.elim)
 ·have hkn:k < L.length:=by omega
  have hcut:=Qd0 L k hkn
  have hBo:=Qgl c.gl _ (hLb k hkn)
  rw[Xvc L k hkn,hsm]at hak
  generalize L[k]=o at *
  obtain ⟨op,os,oi,oa,ot⟩:=o
  simp only[Mp.enc]at hcut
  dsimp only at hBo hak
  unfold Qk0 at hBo
  generalize (if Jp ot=true then (ot - 1024) % 8 else 0)=oj at *
  generalize Xr ot=ob at *
  generalize Jp ot=oq at *
  refine Qg (An @hlel @hcut) ?_
  refine Xa hBo (An @hlel @hcut) ?_
  (refine Qa (fun h4=>?_) (fun h4=>?_)<;>try exact h4.elim)
  ·have hR:=H1.out (by rw[hak];simp[h4])
   subst hR
   rw[show Qbz (⟨t.pool,t.home,L⟩,false,0)=.tup [.agg (t.hd++[.isl L.length (mps L)]),.bool false,.int .i64 0] from rfl]
   exact Qq (An @hhl (An @Qgo.eq_1 (An @z30.eq_1 (An @List.map_append.{0,0} @hfull))))
  ·have hak:L.any (Qbp m)=(L.drop (k + 1)).any (Qbp m):=by
    rw[hak]
    rcases h4 with h5|h5<;>simp[h5]
   refine Qd ?_
   refine ⟨k + 1,⟨by omega,hak⟩,⟨[(3,3)],?_⟩,by omega⟩
   exact Qs
 ·have:k=L.length:=by omega
  subst this
  rw[List.drop_length,List.any_nil]at hak
  have hR:=H2.out hak
  clear H1 H2
  refine Qg (An @hhl @hcl) ?_
  refine Xa hGv (An @hhl (An @hcl (An @hps (An @e4 @hhl1)))) ?_
  ((first|apply Wg|apply Ke)<;>(first|exact hBl|(with_reducible (exact Jm.len _))|(have zf1:=@hfull;have zf2:=@hhl1;have zf3:=@List.map_append.{0,0};refine XG ?_;clear zf1 zf2 zf3;first|exact rfl|exact True.intro|((try (repeat' with_reducible refine And.intro ?_ ?_));(try any_goals (first|refine zm ?_|exact CL|fail))))))
  have hhs2:=hhs 0 (.sl 5 3 0 L.length t.maps.length)
  have hhl2:=Tb.hd_len (t:=(⟨p',t.home.set S 0,L⟩:Tb)) ⟨hgw,by rw[List.length_set];exact ht.wf.home⟩
  (refine Qa (fun h5=>?_) (fun h5=>?_)<;>try exact h5.elim)
  ·have hW:W=[]:=hwl.1 Zom
   rw[if_pos hW]at hR
   subst hR
   rw[show Qbz ((⟨p',t.home.set S 0,L⟩:Tb),true,0)=.tup [.agg ((⟨p',t.home.set S 0,L⟩:Tb).hd++[.isl L.length (mps L)]),.bool true,.int .i64 0] from rfl]
   exact Qq (An @hhl1 (An @hhl2 (An @hhs2 (An @Qgo.eq_1 (An @z30.eq_1 (An @List.map_append.{0,0} @hfull))))))
  ·have hW:¬ W=[]:=fun h=>h5 (by have:=hwl.2 h;omega)
   rw[if_neg hW]at hR
   subst hR
   rw[show Qbz ((⟨p',t.home,L⟩:Tb),true,0)=.tup [.agg ((⟨p',t.home,L⟩:Tb).hd++[.isl L.length (mps L)]),.bool true,.int .i64 0] from rfl]
   exact Qq (An @hhl1 (An @Qgo.eq_1 (An @z30.eq_1 (An @List.map_append.{0,0} @hfull))))
theorem Xge (gl:Nat→AV) (t:Tb) (ht:t.ok) (m:Mp):PS Tryz.prog gl 102 [.agg t.enc,.agg m.enc] (Qbz (t.cls m)):=by
 by_cases hb:Wa t=false
 ·have e:t.cls m=(t,false,2):=if_pos hb
  rw[e]
  exact Xas gl t ht m hb
 have hg:Wa t=true:=by
  cases h:Wa t
  ·exact (hb h).elim
  ·rfl
 have e:t.cls m=match t.maps.findIdx? (fun x=>decide (m=x)) with
  | none=>(t,false,7)
  | some i=>if (t.maps.eraseIdx i).any (Qbp m)=true then (t.del i,false,0) else ((t.del i).give m,true,0):=if_neg hb
 cases hi:t.maps.findIdx? (fun x=>decide (m=x)) with
 | none=>rw[e,hi];exact Qyd gl t ht m hg hi
 | some i =>
  refine Xi2 gl t ht ((Qct t).1 hg) m i hi _ (by rw[Qkk];trivial) (Lib.hid fun h=>?_) (Lib.hid fun h=>?_)
  ·rw[e,hi];dsimp only;rw[if_pos h]
  ·rw[e,hi];dsimp only;rw[if_neg (by rw[h];simp)]
def Fix (x:AV) (v:Value):Prop:=∀ (g:Nat→GM) (W:Nat→Prop) (w:World) (u:Value),VR g W w x u ↔ u=v
def Qk2:List AV→List Value→Prop
 | [],[]=>True
 | x::xs,v::vs=>Fix x v∧v.oneCell'=true∧Qk2 xs vs
 | _,_=>False
def Qv7:List AV→List Value→Prop
 | [],[]=>True
 | x::xs,v::vs=>Fix x v∧Qv7 xs vs
 | _,_=>False
theorem Fix.int (k:IntKind) (n:Int):Fix (.int k n) (.int k n):=fun _ _ _ u=>⟨fun h=>by cases h;rfl,fun h=>by subst h;exact .int _ _⟩
theorem Qk2.len:∀ {xs:List AV} {vs:List Value},Qk2 xs vs→xs.length=vs.length
 | [],[],_=>rfl
 | _::_,_::_,h=>by simp[Qk2.len h.2.2]
 | [],_::_,h=>h.elim
 | _::_,[],h=>h.elim
theorem Qk2.get:∀ {xs:List AV} {vs:List Value},Qk2 xs vs→∀ j,j < xs.length→Fix (xs.getD j .any) (vs.getD j undef)∧(vs.getD j undef).oneCell'=true
 | [],[],_,j,hj=>by simp at hj
 | _::_,_::_,h,0,_=>⟨h.1,h.2.1⟩
 | _::_,_::_,h,j + 1,hj=>by simpa using Qk2.get h.2.2 j (by simpa using hj)
 | [],_::_,h,_,_=>h.elim
 | _::_,[],h,_,_=>h.elim
theorem Xxt {us:Array Value} {vs:List Value} (hs:us.size=vs.length) (h:∀ j,j < vs.length→us.getD j undef=vs.getD j undef):us=vs.toArray:=by
 apply Array.ext
 ·simpa using hs
 ·intro i h1 h2
  have:=h i (by simpa using h2)
  simp only[Array.getD_eq_getD_getElem?,Array.getElem?_eq_getElem h1,List.getD,List.getElem?_eq_getElem (show i < vs.length by simpa using h2),Option.getD_some]at this
  simpa using this
theorem Qk3 (vs:List Value) (j:Nat):vs.toArray.getD j undef=vs.getD j undef:=by simp[Array.getD_eq_getD_getElem?,List.getD]
theorem Fix.agg {xs:List AV} {vs:List Value} (h:Qk2 xs vs):Fix (.agg xs) (.agg vs.toArray):=fun g W w u=>⟨fun hu=>by
  obtain ⟨us,rfl,hs,_,hv⟩:=Kv hu
  rw[Xxt (vs:=vs) (by rw[hs,h.len]) fun j hj=>((h.get j (by rw[h.len];exact hj)).1 g W w _).1 (hv j (by rw[h.len];exact hj))],fun e=>by
  subst e
  exact .agg (by simp[h.len]) (fun j hj=>by rw[Qk3];exact (h.get j hj).2) fun j hj=>by rw[Qk3];exact ((h.get j hj).1 g W w _).2 rfl⟩
theorem Qv7.args {g:Nat→GM} {W:Nat→Prop} {w:World}:∀ {xs:List AV} {vs us:List Value},Qv7 xs vs→VRs g W w xs us→us=vs
 | [],[],[],_,_=>rfl
 | _::_,_::_,_::_,h,k=>by rw[(h.1 g W w _).1 k.1,Qv7.args h.2 k.2]
 | [],_::_,_,h,_=>h.elim
 | _::_,[],_,h,_=>h.elim
 | [],[],_::_,_,k=>k.elim
 | _::_,_::_,[],_,k=>k.elim
theorem Fr.of_ext {w w':World} (h:Ext w w'):Fr w w' (fun _=>False) :=
 ⟨h.os,h.tape,h.output,h.size,fun k hk _=>h.block k hk,fun k cur e fz hk=>⟨cur,(h.block k (Wj hk)).trans hk,rfl⟩⟩
theorem PS.of_calls {P:Program} {gl:Nat→AV} {f:FuncId} {args:List AV} {vs:List Value} {r:AV} {v:Value} (hc:Qdr P f) (ha:Qv7 args vs) (hr:Fix r v)
  (h:∀ w,Calls P f vs.toArray w fun e w'=>e=.returned v∧Ext w w'):PS P gl f args r :=
 ⟨hc,fun w us X _ _ hv=>by
  rw[ha.args hv]
  exact (h w).mono fun e w' ⟨e1,e2⟩=>⟨v,e1,(hr _ _ _ _).2 rfl,.of_ext e2⟩⟩
theorem Fix.str (l:List UInt8):Fix (.str l) (.string ⟨l.toArray⟩):=fun _ _ _ u=>⟨fun h=>by cases h;rfl,fun h=>by subst h;exact .str _⟩
theorem Qe8 (gl:Nat→AV) (l:List UInt8) (h:l.length≤140737488351232):PS Tryz.prog gl 38 [.str l] (.int .i64 (ofN l)) :=
 .of_calls (vs:=[.string ⟨l.toArray⟩]) ⟨_,Tryz.func38,by kernel_rfl,by kernel_rfl⟩ ⟨.str l,trivial⟩ (.int _ _) fun w=>Xp7 ⟨l.toArray⟩ w h
theorem Qfp (gl:Nat→AV) (l:List UInt8) (h:l.length≤140737488351232):PS Tryz.prog gl 120 [.str l] (.int .i64 (Zl l)) :=
 .of_calls (vs:=[.string ⟨l.toArray⟩]) ⟨_,Tryz.func120,by kernel_rfl,by kernel_rfl⟩ ⟨.str l,trivial⟩ (.int _ _)
  fun w=>(Xjt ⟨l.toArray⟩ w (Nat.le_trans h Zde)).mono fun _ _ ⟨he,n,hn⟩=>⟨he,by rw[hn];exact Ext.drewN w n⟩
theorem Xie (gl:Nat→AV) (c m n:Int):PS Tryz.prog gl 166 [.int .i64 c,.int .i64 m,.int .i64 n] (.int .i64 (65535 - Qfs (Qfs (65535 - c % 65536) (65535 - m % 65536)) n)) :=
 .of_calls (vs:=[.int .i64 c,.int .i64 m,.int .i64 n]) ⟨_,Tryz.func166,by kernel_rfl,by kernel_rfl⟩ ⟨.int _ _,.int _ _,.int _ _,trivial⟩ (.int _ _)
  fun w=>(Xcl c m n w).mono fun _ _ ⟨he,hn⟩=>⟨he,by rw[hn];exact Ext.refl w⟩
structure Pk where
 proto:Int
 frm:Int
 sport:Int
 dst:Int
 dport:Int
 ttl:Int
 id:Int
 flags:Int
 seq:Int
 ack:Int
 win:Int
 body:List UInt8
def Pk.enc (p:Pk):List AV:=[.int .i64 p.proto,.int .i64 p.frm,.int .i64 p.sport,.int .i64 p.dst,.int .i64 p.dport,.int .i64 p.ttl,.int .i64 p.id,.int .i64 p.flags,.int .i64 p.seq,.int .i64 p.ack,.int .i64 p.win,.str p.body]
def pk0:Pk:=⟨0,0,0,0,0,0,0,0,0,0,0,[]⟩
def Kc (p:Pk):Prop:=(0≤p.frm∧p.frm≤4294967295)∧(0≤p.dst∧p.dst≤4294967295)∧(0≤p.seq∧p.seq≤4294967295)∧(0≤p.ack∧p.ack≤4294967295) ∧
 (0≤p.sport∧p.sport≤65535)∧(0≤p.dport∧p.dport≤65535)∧(0≤p.id∧p.id≤65535)∧(0≤p.win∧p.win≤65535)∧(1≤p.ttl∧p.ttl≤255)∧(0≤p.flags∧p.flags≤63)
instance (p:Pk):Decidable (Kc p):=by unfold Kc;infer_instance
def Qd6 (p:Pk):Prop:=(p.proto≠6∧(p.ack≠0∨p.win≠0))∨(p.proto=17∧(p.seq≠0∨p.flags≠0)) ∨
 (p.proto=1∧((p.flags≠8∧p.flags≠0)∨(p.flags=8∧p.dport≠0)∨(p.flags=0∧p.sport≠0)∨65535 < p.seq))
instance (p:Pk):Decidable (Qd6 p):=by unfold Qd6;infer_instance
def Yw (p:Pk):Int :=
 if ¬ (p.proto=1∨p.proto=6∨p.proto=17) then 4
 else if ¬ Kc p then 2
 else if 64 < p.body.length then 5
 else if Qd6 p then 1
 else 0
def Zb (proto frm dst n:Int):List UInt8:=if proto=1 then [] else be frm 4++be dst 4++be proto 2++be n 2
def hdA (proto ttl id n:Int):List UInt8:=[69,0]++be (20 + n) 2++be id 2++[0,0]++be ttl 1++be proto 1
def hdZ (frm dst:Int):List UInt8:=be frm 4++be dst 4
def Qaj (proto frm dst ttl id n:Int):List UInt8:=hdA proto ttl id n++be (Zl (hdA proto ttl id n++[0,0]++hdZ frm dst)) 2++hdZ frm dst
def Qa2 (p:Pk):List UInt8 :=
 if p.proto=1 then be p.flags 1++[0]
 else if p.proto=17 then be p.sport 2++be p.dport 2++be (8 + p.body.length) 2
 else be p.sport 2++be p.dport 2++be p.seq 4++be p.ack 4++[80]++be p.flags 1++be p.win 2
def Qbd (p:Pk):List UInt8 :=
 if p.proto=1 then be (p.sport + p.dport) 2++be p.seq 2++p.body
 else if p.proto=17 then p.body
 else [0,0]++p.body
def Wh (p:Pk):Nat:=(Qa2 p).length + 2 + (Qbd p).length
def ckN (p:Pk):Nat :=
 if p.proto=17∧Zl (Zb p.proto p.frm p.dst (Wh p)++Qa2 p++[0,0]++Qbd p)=0 then 65535
 else Zl (Zb p.proto p.frm p.dst (Wh p)++Qa2 p++[0,0]++Qbd p)
def Uw (p:Pk):List UInt8:=Qa2 p++be (ckN p) 2++Qbd p
def Yn (p:Pk):List UInt8:=Qaj p.proto p.frm p.dst p.ttl p.id (Wh p)++Uw p
def Qts (p:Pk):AV:=if Yw p=0 then .tup [.str (Yn p),.int .i64 0] else .tup [.str [],.int .i64 (Yw p)]
def b1 (l:List UInt8) (k:Nat):Int:=((l.getD k 0).toNat:Int)
def w2 (l:List UInt8) (k:Nat):Int:=nbI ((l.drop k).take 2)
def w4 (l:List UInt8) (k:Nat):Int:=nbI ((l.drop k).take 4)
def rdH (f:List UInt8):Pk:=⟨b1 f 9,w4 f 12,0,w4 f 16,0,b1 f 8,w2 f 4,0,0,0,0,[]⟩
def rdK (f:List UInt8):Pk :=
 let s:=f.drop 20
 if b1 f 9=1 then { rdH f with flags:=b1 s 0,seq:=w2 s 6,sport:=if b1 s 0=8 then w2 s 4 else 0,dport:=if b1 s 0=8 then 0 else w2 s 4,body:=s.drop 8 }
 else if b1 f 9=17 then { rdH f with sport:=w2 s 0,dport:=w2 s 2,body:=s.drop 8 }
 else { rdH f with sport:=w2 s 0,dport:=w2 s 2,seq:=w4 s 4,ack:=w4 s 8,win:=w2 s 14,flags:=b1 s 13,body:=s.drop 20 }
def rdE (f:List UInt8):Int :=
 let s:=f.drop 20
 if f.length < 20∨b1 f 0≠69∨w2 f 2≠f.length then 1
 else if ofN (f.take 20)≠65535 then 3
 else if b1 f 1≠0∨w2 f 6≠0 then 4
 else if b1 f 8=0 then 12
 else if ¬ (b1 f 9=1∨b1 f 9=6∨b1 f 9=17) then 4
 else if s.length < (if b1 f 9=6 then 20 else 8) then 1
 else if ofN (Zb (b1 f 9) (w4 f 12) (w4 f 16) s.length++s)≠65535∨(b1 f 9=17∧w2 s 6=0) then 3
 else if b1 f 9=1∧((b1 s 0≠8∧b1 s 0≠0)∨b1 s 1≠0) then 4
 else if b1 f 9=17∧w2 s 4≠s.length then 1
 else if b1 f 9=6∧(b1 s 12≠80∨63 < b1 s 13∨w2 s 18≠0) then 4
 else Yw (rdK f)
def Wc (f:List UInt8):AV:=if rdE f=0 then .tup [.agg (rdK f).enc,.int .i64 0] else .tup [.agg pk0.enc,.int .i64 (rdE f)]
def Qao (l:List UInt8) (k:Nat) (n:Int):List UInt8:=(l.set k (Qf n 1)).set (k + 1) (Qf n 0)
def Qjx (c m n:Int):Int:=65535 - Qfs (Qfs (65535 - c % 65536) (65535 - m % 65536)) n
def Uy (l:List UInt8) (ck:Nat) (m n:Int):List UInt8:=Qao l ck (Qjx (w2 l ck) m n)
def Qk (l:List UInt8) (k ck:Nat) (n:Int):List UInt8:=Qao (Uy l ck (w2 l k) n) k n
theorem Qck {p:Pk} (h:Yw p=0):(p.proto=1∨p.proto=6∨p.proto=17)∧Kc p∧p.body.length≤64∧¬ Qd6 p:=by
 unfold Yw at h
 split at h
 ·cases h
 ·split at h
  ·cases h
  ·split at h
   ·cases h
   ·split at h
    ·cases h
    ·rename_i h1 h2 h3 h4
     exact ⟨Decidable.not_not.1 h1,Decidable.not_not.1 h2,by omega,h4⟩
theorem Qtw {p:Pk} (h1:p.proto=1∨p.proto=6∨p.proto=17) (h2:Kc p) (h3:p.body.length≤64) (h4:¬ Qd6 p):Yw p=0:=by
 unfold Yw
 rw[if_neg (fun h=>h h1),if_neg (fun h=>h h2),if_neg Zom,if_neg h4]
theorem Qlx (v:Int) (k:Nat) (hk:k≤8) (h0:0≤v):((Qf v k).toNat:Int)=v / 256 ^ k % 256:=by
 obtain ⟨n,rfl⟩:=Int.eq_ofNat_of_zero_le h0
 rw[Qus n k hk]
 simp
theorem Qhx (v:Int) (h0:0≤v) (h1:v < 256):((Qf v 0).toNat:Int)=v:=by
 rw[Qlx v 0 Zom h0];omega
theorem nb2 (v:Int) (h0:0≤v) (h1:v≤65535):nbI [Qf v 1,Qf v 0]=v:=Xgq v 2 (by decide) h0 (by omega) (by omega)
theorem nb4 (v:Int) (h0:0≤v) (h1:v≤4294967295):nbI [Qf v 3,Qf v 2,Qf v 1,Qf v 0]=v:=Xgq v 4 (by decide) h0 (by omega) (by omega)
theorem Yan (v:Int) (h0:0≤v) (h1:v≤65535) (l:List UInt8):Jr (Qf v 1::Qf v 0::l)=v.toNat + Jr l:=by
 have e1:=Qlx v 1 Zom h0
 have e0:=Qlx v 0 Zom h0
 simp only[Jr]
 omega
theorem Qub (X Z:List UInt8) (v:Int) (hX:X.length % 2=0) (h0:0≤v) (h1:v≤65535):Jr (X++be v 2++Z)=Jr X + v.toNat + Jr Z:=by
 rw[List.append_assoc,Qc1 _ _ hX]
 show Jr X + Jr (Qf v 1::Qf v 0::Z)=_
 rw[Yan v h0 h1];omega
theorem Xu9 (X Z:List UInt8) (hX:X.length % 2=0):Jr (X++[0,0]++Z)=Jr X + Jr Z:=by
 rw[List.append_assoc,Qc1 _ _ hX]
 simp[Jr]
theorem Xp6 (T:Nat):Kh (T + (65535 - Kh T))=65535:=by
 unfold Kh;split<;>split<;>omega
theorem Xn3 (X Z:List UInt8) (hX:X.length % 2=0):ofN (X++be (Zl (X++[0,0]++Z)) 2++Z)=65535:=by
 have hl:=Qbc (X++[0,0]++Z)
 unfold ofN
 rw[Qub X Z _ hX Zom Zom]
 unfold Zl ofN
 rw[Xu9 X Z hX,Int.toNat_natCast]
 have:=Xp6 (Jr X + Jr Z)
 rw[show Jr X + (65535 - Kh (Jr X + Jr Z)) + Jr Z=Jr X + Jr Z + (65535 - Kh (Jr X + Jr Z)) by omega]
 exact this
theorem Qo5 (proto ttl id n:Int):(hdA proto ttl id n).length=10:=by simp[hdA,Qh]
theorem Xu3 (frm dst:Int):(hdZ frm dst).length=8:=by simp[hdZ,Qh]
theorem Kf (proto frm dst ttl id n:Int):(Qaj proto frm dst ttl id n).length=20:=by simp[Qaj,Qo5,Xu3,Qh]
theorem Xsz (proto frm dst ttl id n:Int):ofN (Qaj proto frm dst ttl id n)=65535:=Xn3 _ _ (by rw[Qo5])
theorem Xf9 (proto frm dst ttl id n:Int):∃ c:Int,Qaj proto frm dst ttl id n=[69,0,Qf (20 + n) 1,Qf (20 + n) 0,Qf id 1,Qf id 0,0,0,Qf ttl 0,Qf proto 0,Qf c 1,Qf c 0,
  Qf frm 3,Qf frm 2,Qf frm 1,Qf frm 0,Qf dst 3,Qf dst 2,Qf dst 1,Qf dst 0]:=⟨_,rfl⟩
theorem Xy9 (p:Pk):ckN p≤65535:=by
 unfold ckN;split
 ·omega
 ·exact Qbc _
theorem Xnz (p:Pk):(Qa2 p).length % 2=0:=by
 unfold Qa2;split
 ·simp[Qh]
 ·split<;>simp[Qh]
theorem Xiu (a b c d:Int):(Zb a b c d).length % 2=0:=by
 unfold Zb;split<;>simp[Qh]
theorem Qto (p:Pk):(Uw p).length=Wh p:=by simp[Uw,Wh,Qh];omega
theorem Xwq (p:Pk):ofN (Zb p.proto p.frm p.dst (Wh p)++Uw p)=65535:=by
 have hX:(Zb p.proto p.frm p.dst (Wh p)++Qa2 p).length % 2=0:=by
  have:=Xnz p;have:=Xiu p.proto p.frm p.dst (Wh p)
  rw[List.length_append];omega
 have hk:=Xn3 (Zb p.proto p.frm p.dst (Wh p)++Qa2 p) (Qbd p) hX
 unfold Uw ckN
 rw[← List.append_assoc,← List.append_assoc]
 split
 ·rename_i h
  rw[h.2]at hk
  unfold ofN at hk ⊢
  rw[Qub _ _ _ hX Zom Zom]at hk ⊢
  generalize Jr (Zb p.proto p.frm p.dst (Wh p)++Qa2 p)=a at *
  generalize Jr (Qbd p)=b at *
  unfold Kh at hk ⊢
  split at hk
  ·cases hk
  ·split<;>omega
 ·exact hk
theorem Qmy (p:Pk):(Yn p).length=20 + Wh p:=by simp[Yn,Kf,Qto]
theorem Qx3 (p:Pk):(Yn p).take 20=Qaj p.proto p.frm p.dst p.ttl p.id (Wh p):=List.take_left' (Kf _ _ _ _ _ _)
theorem Qwj (p:Pk):(Yn p).drop 20=Uw p:=List.drop_left' (Kf _ _ _ _ _ _)
theorem Qlq (p:Pk) (h:p.proto=1∨p.proto=6∨p.proto=17):Wh p=(if p.proto=6 then 20 else 8) + p.body.length:=by
 unfold Wh Qa2 Qbd
 rcases h with h|h|h<;>simp[h,Qh]<;>omega
theorem Xm7 (proto frm dst ttl id n:Int) (t:List UInt8) (h1:0≤proto∧proto < 256) (h2:0≤frm∧frm≤4294967295) (h3:0≤dst∧dst≤4294967295) (h4:0≤ttl∧ttl < 256) (h5:0≤id∧id≤65535) (h6:0≤n∧n≤65515) :
  let f:=Qaj proto frm dst ttl id n++t
  b1 f 0=69∧b1 f 1=0∧w2 f 2=20 + n∧w2 f 4=id∧w2 f 6=0∧b1 f 8=ttl∧b1 f 9=proto∧w4 f 12=frm∧w4 f 16=dst:=by
 intro f
 obtain ⟨c,hc⟩:=Xf9 proto frm dst ttl id n
 show b1 f 0=69∧_
 have hf:f=[69,0,Qf (20 + n) 1,Qf (20 + n) 0,Qf id 1,Qf id 0,0,0,Qf ttl 0,Qf proto 0,Qf c 1,Qf c 0,
  Qf frm 3,Qf frm 2,Qf frm 1,Qf frm 0,Qf dst 3,Qf dst 2,Qf dst 1,Qf dst 0]++t:=by rw[← hc]
 clear_value f
 subst hf
 exact ⟨rfl,rfl,nb2 _ Zom Zom,nb2 _ h5.1 h5.2,rfl,Qhx _ h4.1 h4.2,Qhx _ h1.1 h1.2,nb4 _ h2.1 h2.2,nb4 _ h3.1 h3.2⟩
theorem Xee (p:Pk) (hr:Kc p) (hp:p.proto=1∨p.proto=6∨p.proto=17) (hl:p.body.length≤64) (t:List UInt8) :
  let f:=Qaj p.proto p.frm p.dst p.ttl p.id (Wh p)++t
  b1 f 0=69∧b1 f 1=0∧w2 f 2=20 + Wh p∧w2 f 4=p.id∧w2 f 6=0∧b1 f 8=p.ttl∧b1 f 9=p.proto∧w4 f 12=p.frm∧w4 f 16=p.dst:=by
 obtain ⟨r1,r2,r3,r4,r5,r6,r7,r8,r9,r10⟩:=hr
 have hN:=Qlq p hp
 have hN2:Wh p≤84:=by rw[hN];split<;>omega
 exact Xm7 _ _ _ _ _ _ t Zom r1 r2 Zom r7 Zom
theorem Qwi (p:Pk) (h:Yw p=0):rdE (Yn p)=0∧rdK (Yn p)=p:=by
 obtain ⟨hp,hr,hl,hf⟩:=Qck h
 obtain ⟨g0,g1,g2,g4,g6,g8,g9,g12,g16⟩:=Xee p hr hp hl (Uw p)
 have hN:=Qlq p hp
 have hB:=Qmy p
 have hT:=Qx3 p
 have hD:=Qwj p
 have hO:=Xsz p.proto p.frm p.dst p.ttl p.id (Wh p)
 have hS:=Xwq p
 have hK:=Xy9 p
 have hSL:=Qto p
 change b1 (Yn p) 0=69 at g0
 change b1 (Yn p) 1=0 at g1
 change w2 (Yn p) 2=_ at g2
 change w2 (Yn p) 4=_ at g4
 change w2 (Yn p) 6=_ at g6
 change b1 (Yn p) 8=_ at g8
 change b1 (Yn p) 9=_ at g9
 change w4 (Yn p) 12=_ at g12
 change w4 (Yn p) 16=_ at g16
 generalize hF:Yn p=F at *
 have hr':=hr
 obtain ⟨r1,r2,r3,r4,r5,r6,r7,r8,r9,r10⟩:=hr
 have hKK:rdK F=p∧(p.proto=1→b1 (Uw p) 1=0)∧(p.proto=17→w2 (Uw p) 4=Wh p∧w2 (Uw p) 6≠0)∧(p.proto=6→b1 (Uw p) 12=80∧b1 (Uw p) 13≤63∧w2 (Uw p) 18=0)∧(p.proto=1→b1 (Uw p) 0=8∨b1 (Uw p) 0=0):=by
  unfold rdK rdH
  rw[hD,g9,g12,g16,g8,g4]
  rcases p with ⟨proto,frm,sport,dst,dport,ttl,id,flags,seq,ack,win,body⟩
  dsimp only at *
  unfold Qd6 at hf
  dsimp only at hf
  rcases hp with rfl|rfl|rfl
  ·obtain ⟨c,hc⟩:∃ c:Int,Uw ⟨1,frm,sport,dst,dport,ttl,id,flags,seq,ack,win,body⟩=[Qf flags 0,0,Qf c 1,Qf c 0,Qf (sport + dport) 1,Qf (sport + dport) 0,Qf seq 1,Qf seq 0]++body:=⟨_,rfl⟩
   rw[hc]
   have f1:ack=0∧win=0∧(flags=8∧dport=0∨flags=0∧sport=0)∧seq≤65535:=by omega
   obtain ⟨rfl,rfl,f2,f3⟩:=f1
   have e0:b1 ([Qf flags 0,0,Qf c 1,Qf c 0,Qf (sport + dport) 1,Qf (sport + dport) 0,Qf seq 1,Qf seq 0]++body) 0=flags:=Qhx _ Zom Zom
   have e1:w2 ([Qf flags 0,0,Qf c 1,Qf c 0,Qf (sport + dport) 1,Qf (sport + dport) 0,Qf seq 1,Qf seq 0]++body) 4=sport + dport:=nb2 _ Zom Zom
   have e2:w2 ([Qf flags 0,0,Qf c 1,Qf c 0,Qf (sport + dport) 1,Qf (sport + dport) 0,Qf seq 1,Qf seq 0]++body) 6=seq:=nb2 _ Zom Zom
   rw[e0,e1,e2]
   refine ⟨?_,fun _=>rfl,fun h=>by omega,fun h=>by omega,fun _=>by omega⟩
   rw[if_pos rfl]
   rcases f2 with ⟨rfl,rfl⟩|⟨rfl,rfl⟩<;>simp
  ·obtain ⟨c,hc⟩:∃ c:Int,Uw ⟨6,frm,sport,dst,dport,ttl,id,flags,seq,ack,win,body⟩=[Qf sport 1,Qf sport 0,Qf dport 1,Qf dport 0,Qf seq 3,Qf seq 2,Qf seq 1,Qf seq 0,Qf ack 3,Qf ack 2,Qf ack 1,Qf ack 0,80,Qf flags 0,Qf win 1,Qf win 0,Qf c 1,Qf c 0,0,0]++body:=⟨_,rfl⟩
   rw[hc]
   refine ⟨?_,fun h=>by omega,fun h=>by omega,fun _=>⟨rfl,?_,rfl⟩,fun h=>by omega⟩
   ·rw[if_neg Zde,if_neg Zde]
    have e1:∀ t:List UInt8,w2 ([Qf sport 1,Qf sport 0,Qf dport 1,Qf dport 0,Qf seq 3,Qf seq 2,Qf seq 1,Qf seq 0,Qf ack 3,Qf ack 2,Qf ack 1,Qf ack 0,80,Qf flags 0,Qf win 1,Qf win 0,Qf c 1,Qf c 0,0,0]++t) 0=sport:=fun t=>nb2 _ Zom Zom
    have e2:∀ t:List UInt8,w2 ([Qf sport 1,Qf sport 0,Qf dport 1,Qf dport 0,Qf seq 3,Qf seq 2,Qf seq 1,Qf seq 0,Qf ack 3,Qf ack 2,Qf ack 1,Qf ack 0,80,Qf flags 0,Qf win 1,Qf win 0,Qf c 1,Qf c 0,0,0]++t) 2=dport:=fun t=>nb2 _ Zom Zom
    have e3:∀ t:List UInt8,w4 ([Qf sport 1,Qf sport 0,Qf dport 1,Qf dport 0,Qf seq 3,Qf seq 2,Qf seq 1,Qf seq 0,Qf ack 3,Qf ack 2,Qf ack 1,Qf ack 0,80,Qf flags 0,Qf win 1,Qf win 0,Qf c 1,Qf c 0,0,0]++t) 4=seq:=fun t=>nb4 _ Zom Zom
    have e4:∀ t:List UInt8,w4 ([Qf sport 1,Qf sport 0,Qf dport 1,Qf dport 0,Qf seq 3,Qf seq 2,Qf seq 1,Qf seq 0,Qf ack 3,Qf ack 2,Qf ack 1,Qf ack 0,80,Qf flags 0,Qf win 1,Qf win 0,Qf c 1,Qf c 0,0,0]++t) 8=ack:=fun t=>nb4 _ Zom Zom
    have e5:∀ t:List UInt8,w2 ([Qf sport 1,Qf sport 0,Qf dport 1,Qf dport 0,Qf seq 3,Qf seq 2,Qf seq 1,Qf seq 0,Qf ack 3,Qf ack 2,Qf ack 1,Qf ack 0,80,Qf flags 0,Qf win 1,Qf win 0,Qf c 1,Qf c 0,0,0]++t) 14=win:=fun t=>nb2 _ Zom Zom
    have e6:∀ t:List UInt8,b1 ([Qf sport 1,Qf sport 0,Qf dport 1,Qf dport 0,Qf seq 3,Qf seq 2,Qf seq 1,Qf seq 0,Qf ack 3,Qf ack 2,Qf ack 1,Qf ack 0,80,Qf flags 0,Qf win 1,Qf win 0,Qf c 1,Qf c 0,0,0]++t) 13=flags:=fun t=>Qhx _ Zom Zom
    rw[e1,e2,e3,e4,e5,e6]
    rfl
   ·have:b1 ([Qf sport 1,Qf sport 0,Qf dport 1,Qf dport 0,Qf seq 3,Qf seq 2,Qf seq 1,Qf seq 0,Qf ack 3,Qf ack 2,Qf ack 1,Qf ack 0,80,Qf flags 0,Qf win 1,Qf win 0,Qf c 1,Qf c 0,0,0]++body) 13=flags:=Qhx _ Zom Zom
    rw[this];omega
  ·have hc:Uw ⟨17,frm,sport,dst,dport,ttl,id,flags,seq,ack,win,body⟩=[Qf sport 1,Qf sport 0,Qf dport 1,Qf dport 0,Qf (8 + body.length) 1,Qf (8 + body.length) 0,Qf (ckN ⟨17,frm,sport,dst,dport,ttl,id,flags,seq,ack,win,body⟩) 1,Qf (ckN ⟨17,frm,sport,dst,dport,ttl,id,flags,seq,ack,win,body⟩) 0]++body:=rfl
   have hc0:ckN ⟨17,frm,sport,dst,dport,ttl,id,flags,seq,ack,win,body⟩≠0:=by
    unfold ckN;split
    ·decide
    ·rename_i hh
     intro h0;exact hh ⟨rfl,h0⟩
   rw[hc]
   generalize ckN ⟨17,frm,sport,dst,dport,ttl,id,flags,seq,ack,win,body⟩=c at *
   have f1:ack=0∧win=0∧seq=0∧flags=0:=by omega
   obtain ⟨rfl,rfl,rfl,rfl⟩:=f1
   refine ⟨?_,fun h=>by omega,fun _=>⟨?_,?_⟩,fun h=>by omega,fun h=>by omega⟩
   ·rw[if_neg Zde,if_pos rfl]
    have e1:∀ t:List UInt8,w2 ([Qf sport 1,Qf sport 0,Qf dport 1,Qf dport 0,Qf (8 + body.length) 1,Qf (8 + body.length) 0,Qf c 1,Qf c 0]++t) 0=sport:=fun t=>nb2 _ Zom Zom
    have e2:∀ t:List UInt8,w2 ([Qf sport 1,Qf sport 0,Qf dport 1,Qf dport 0,Qf (8 + body.length) 1,Qf (8 + body.length) 0,Qf c 1,Qf c 0]++t) 2=dport:=fun t=>nb2 _ Zom Zom
    rw[e1,e2]
    rfl
   ·have e1:∀ t:List UInt8,w2 ([Qf sport 1,Qf sport 0,Qf dport 1,Qf dport 0,Qf (8 + body.length) 1,Qf (8 + body.length) 0,Qf c 1,Qf c 0]++t) 4=8 + body.length:=fun t=>nb2 _ Zom Zom
    rw[e1,hN]
    simp
   ·have e1:∀ t:List UInt8,w2 ([Qf sport 1,Qf sport 0,Qf dport 1,Qf dport 0,Qf (8 + body.length) 1,Qf (8 + body.length) 0,Qf c 1,Qf c 0]++t) 6=c:=fun t=>nb2 _ Zom Zom
    rw[e1];omega
 obtain ⟨k1,k2,k3,k4,k5⟩:=hKK
 refine ⟨?_,k1⟩
 unfold rdE
 rw[k1,h,hD,hT,g0,g1,g2,g6,g8,g9,g12,g16,hO]
 dsimp only
 rw[hSL,hS]
 have hlen:F.length=20 + Wh p:=hB
 rw[if_neg Zom,if_neg Zom,if_neg Zom,if_neg Zom,if_neg Zom]
 rw[if_neg (by rcases hp with h1|h1|h1<;>simp[h1]at hN ⊢<;>omega)]
 rw[if_neg (fun hh=>hh.elim (fun h1=>h1 rfl) fun h1=>(k3 h1.1).2 h1.2)]
 rw[if_neg (by rintro ⟨h1,h2⟩;have:=k2 h1;have:=k5 h1;omega)]
 rw[if_neg (by rintro ⟨h1,h2⟩;exact h2 (by rw[(k3 h1).1])),if_neg (by rintro ⟨h1,h2⟩;have:=k4 h1;omega)]
def Xz3 (f:List UInt8):List UInt8:=[3,13]++be (Zl ([3,13]++[0,0]++([0,0,0,0]++f.take 28))) 2++([0,0,0,0]++f.take 28)
def Qt3 (f:List UInt8) (frm id:Int):List UInt8:=Qaj 1 167772414 frm 64 id 36++Xz3 f
def fr:List Int→List UInt8→List UInt8
 | [],t=>t
 | w::ws,t=>Qf w 1::Qf w 0::fr ws t
theorem Xvn (c m n:Int):0≤Qjx c m n∧Qjx c m n≤65535:=by
 unfold Qjx;have:=Xa7 (Qfs (65535 - c % 65536) (65535 - m % 65536)) n;omega
def Xfd (proto:Int):Nat:=if proto=1 then 22 else if proto=17 then 26 else 36
def tl (b:List UInt8) (proto:Int) (m n:Int):List UInt8:=if proto=1 then b else Uy b (Xfd proto) m n
def Kk (f:List UInt8) (proto ttl:Int) (at' wh:Nat) (addr port:Int):List UInt8 :=
 let b1:=tl (Qk f at' 10 (addr / 65536)) proto (w2 f at') (addr / 65536)
 let b2:=tl (Qk b1 (at' + 2) 10 (addr % 65536)) proto (w2 b1 (at' + 2)) (addr % 65536)
 let b3:=Qk b2 8 10 ((ttl - 1) * 256 + proto)
 let b4:=Qk b3 wh (Xfd proto) port
 if (w2 b4 (Xfd proto)=0)∧(proto=17∨ofN (b4.drop 20)=0) then Qao b4 (Xfd proto) 65535 else b4
def Qi6 (side:Int):Nat:=if side=0 then 12 else 16
def Qig (proto side:Int):Nat:=if proto=1 then 24 else if side=0 then 20 else 22
def Ybn (p:Pk) (side addr port:Int):Pk:=if side=0 then { p with ttl:=p.ttl - 1,frm:=addr,sport:=port } else { p with ttl:=p.ttl - 1,dst:=addr,dport:=port }
def Qeb (p:Pk) (side addr port:Int):Int :=
 if side < 0∨side > 1∨¬ (0≤addr∧addr≤4294967295)∨¬ (0≤port∧port≤65535) then 2
 else if p.ttl=1 then 12
 else if p.proto=1∧¬ (side=0 ↔ p.flags=8) then 4
 else 0
theorem Qn5:be 0 2=[0,0]:=by decide
structure Ev where
 t:Int
 s:Int
 a:Int
 b:Int
 f:Bool
def Ev.enc (e:Ev):List AV:=[.int .i64 e.t,.int .i64 e.s,.int .i64 e.a,.int .i64 e.b,.bool e.f]
def Zc (l:List Ev):List AV:=l.flatMap Ev.enc
theorem Qfn (l:List Ev):(Zc l).length=l.length * 5:=by
 induction l with
 | nil=>rfl
 | cons e l ih=>simp[Zc,Ev.enc]at ih ⊢;omega
theorem Qsx (l:List Ev) (k:Nat) (h:k < l.length):((Zc l).drop (k * 5)).take 5=(l[k]).enc:=by
 induction l generalizing k with
 | nil=>simp at h
 | cons e l ih =>
  cases k with
  | zero=>simp[Zc,Ev.enc]
  | succ k =>
   have:=ih k (by simpa using h)
   have e1:Zc (e::l)=e.enc++Zc l:=by simp[Zc]
   rw[e1,List.drop_append,List.drop_eq_nil_of_le (by simp[Ev.enc];omega)]
   have e2:(k + 1) * 5 - e.enc.length=k * 5:=by simp[Ev.enc];omega
   rw[e2];simpa using this
theorem Xsk (l:List Ev) (i:Nat) (h:i < l.length) (j:Nat) (hj:j < 5):(Zc l).getD (i * 5 + j) .any=l[i].enc.getD j .any:=by
 have:=Qsx l i h
 rw[← this,Qzb hj]
theorem Qbq (n:Nat) (l:List Ev):nmAll n (Zc l):=by
 rw[Xi]
 intro x hx
 obtain ⟨e,_,he⟩:=List.mem_flatMap.1 hx
 simp[Ev.enc]at he
 rcases he with rfl|rfl|rfl|rfl|rfl<;>simp[Qe]
theorem Xvh (n:Nat) (l:List Ev):nmAll n (Zc l)=True:=eq_true (Qbq n l)
theorem Xkc (ρ:Nat→Nat) (l:List Ev):rens ρ (Zc l)=Zc l:=by
 rw[Yf]
 refine (List.map_congr_left (g:=id) fun x hx=>?_).trans (List.map_id _)
 obtain ⟨e,_,he⟩:=List.mem_flatMap.1 hx
 simp[Ev.enc]at he
 rcases he with rfl|rfl|rfl|rfl|rfl<;>simp[ren]
attribute [go_sem] Xvh Xkc Qfn
def Xx7 (o:List Int) (e:Ev):Option (List Int) × Int :=
 if Wv e.t e.s e.a e.b=false then (none,2)
 else
  let i:=(e.a * 6 + e.b).toNat
  if e.f=false∧o.getD i 0≠0 then (none,8)
  else if e.f=true∧o.getD i 0≠e.s + 1 then (none,7)
  else (some (o.set i (if e.f then 0 else e.s + 1)),0)
def Xy3:List Int→List Ev→List Int × Int
 | o,[]=>(o,0)
 | o,e::l=>match Xx7 o e with
  | (some o',_)=>Xy3 o' l
  | (none,k)=>(List.replicate 18 0,k)
def evB (e:Ev):List UInt8:=be e.t 8++be (167772161 + e.s) 4++be (3405803777 + e.a) 4++be (1024 + 8 * e.b) 2++be (1031 + 8 * e.b) 2++be (if e.f then 2 else 1) 1
theorem Xva (e:Ev):(evB e).length=21:=by simp[evB,Qh]
def Qb6 (l:List Ev):List UInt8:=l.flatMap evB
theorem Qi8 (l:List Ev):(Qb6 l).length=21 * l.length:=by
 induction l with
 | nil=>rfl
 | cons e l ih=>simp[Qb6,Xva]at ih ⊢;omega
theorem Xll (l:List Ev) (k:Nat) (h:k < l.length):Qb6 (l.take (k + 1))=Qb6 (l.take k)++evB l[k]:=by
 rw[List.take_add_one,List.getElem?_eq_getElem h]
 simp only[Qb6,List.flatMap_append,Option.toList_some,List.flatMap_cons,List.flatMap_nil,List.append_nil]
def Qjl (t0:Int) (l:List Ev):Bool:=l.all fun e=>Wv e.t e.s e.a e.b && e.t == t0
def Qgj (seq:Int):List Ev→AV
 | []=>.tup [.str [],.int .i64 7]
 | e::l=>if 64 < l.length + 1 then .tup [.str [],.int .i64 6] else if Qjl e.t (e::l)=true then Qb8 seq e.t 300 (Qb6 (e::l)) else .tup [.str [],.int .i64 2]
theorem Xut (n:Nat) (seq time set:Int) (bs:List UInt8):Qe n (Qb8 seq time set bs):=by unfold Qb8;split<;>simp[Qe,nmAll]
theorem Xrw (n:Nat) (seq:Int) (l:List Ev):Qe n (Qgj seq l):=by
 unfold Qgj
 split
 ·simp[Qe,nmAll]
 ·split
  ·simp[Qe,nmAll]
  ·split
   ·exact Xut _ _ _ _ _
   ·simp[Qe,nmAll]
theorem Xo7:FT Tryz.prog 92 Tryz.f92 (tcO Tryz.prog Tryz.f92) [.t 2]:=.of Tryz.func92
theorem Xvp:FT Tryz.prog 130 Tryz.f130 (tcO Tryz.prog Tryz.f130) [.t 4]:=.of Tryz.func130
theorem Xu1:FT Tryz.prog 132 Tryz.f132 (tcO Tryz.prog Tryz.f132) [.cell 8 (.ag 10)]:=.of Tryz.func132
theorem Xgh:FT Tryz.prog 87 Tryz.f87 (tcO Tryz.prog Tryz.f87) [.t 2]:=.of Tryz.func87
def Ju (proto st:Int):Int:=if proto=1 then 8 else if proto=17 then 20 else if st=2 then 60 else if st=1 then 4 else 6
theorem Qzy (gl:Nat→AV) (proto st:Int):PS Tryz.prog gl 130 [.int .i64 proto,.int .i64 st] (.int .i64 (Ju proto st)):=by
 refine Xvp.ps (of_decide_eq_true rfl) (by simp[Qe]) fun c hN hg=>?_
 conv in tcO _ _=>cbv
 (refine XG ?_;((try (repeat' with_reducible refine And.intro ?_ ?_));(try any_goals (first|refine zm ?_|exact CL|fail))))
 (refine Qa (fun h1=>?_) (fun h1=>?_)<;>try exact h1.elim)
 ·(refine XG ?_;((try (repeat' with_reducible refine And.intro ?_ ?_));(try any_goals (first|refine zm ?_|exact CL|fail))))
  simp_all [Ju]
 (refine XG ?_;((try (repeat' with_reducible refine And.intro ?_ ?_));(try any_goals (first|refine zm ?_|exact CL|fail))))
 (refine Qa (fun h2=>?_) (fun h2=>?_)<;>try exact h2.elim)
 ·(refine XG ?_;((try (repeat' with_reducible refine And.intro ?_ ?_));(try any_goals (first|refine zm ?_|exact CL|fail))))
  simp_all [Ju]
 (refine XG ?_;((try (repeat' with_reducible refine And.intro ?_ ?_));(try any_goals (first|refine zm ?_|exact CL|fail))))
 (refine Qa (fun h3=>?_) (fun h3=>?_)<;>try exact h3.elim)
 ·(refine XG ?_;((try (repeat' with_reducible refine And.intro ?_ ?_));(try any_goals (first|refine zm ?_|exact CL|fail))))
  simp_all [Ju]
 (refine XG ?_;((try (repeat' with_reducible refine And.intro ?_ ?_));(try any_goals (first|refine zm ?_|exact CL|fail))))
 (refine Qa (fun h4=>?_) (fun h4=>?_)<;>try exact h4.elim)
 ·(refine XG ?_;((try (repeat' with_reducible refine And.intro ?_ ?_));(try any_goals (first|refine zm ?_|exact CL|fail))))
  simp_all [Ju]
 ·(refine XG ?_;((try (repeat' with_reducible refine And.intro ?_ ?_));(try any_goals (first|refine zm ?_|exact CL|fail))))
  simp_all [Ju]
def Qbr (proto st sd du fl:Int) (inw:Bool) (now:Int):Int × Int × Int :=
 let b (n:Int):=bits .and .i64 fl n
 let side:Int:=if inw then 1 else 0
 let x:Int × Int × Bool:=if proto=6 then
   (if b 4≠0 then (4,sd,st != 4) else if st=1∧inw=true∧b 18=18 then (2,sd,true) else if st=2∧b 1≠0 then (3,side,true)
    else if st=3∧b 1≠0∧sd≠side then (4,sd,true) else if st=1 then (st,sd,!inw && b 2 != 0) else (st,sd,st == 2))
  else (st,sd,!(inw && proto == 17))
 (x.1,x.2.1,if x.2.2 then IntKind.i64.wrap (now + Ju proto x.1) else du)
def Kw (p s i a pt r rp st sd du:Int):List AV:=[.int .i64 p,.int .i64 s,.int .i64 i,.int .i64 a,.int .i64 pt,.int .i64 r,.int .i64 rp,.int .i64 st,.int .i64 sd,.int .i64 du]
set_option maxHeartbeats 4000000 in
theorem Qys (gl:Nat→AV) (p s i a pt r rp st sd du:Int) (f1 f2 f3 f4 f5 f6 f7 fl f9 f10 f11:Int) (bd:List UInt8) (inw:Bool) (now:Int) :
  PS Tryz.prog gl 132 [.agg (Kw p s i a pt r rp st sd du),.agg [.int .i64 f1,.int .i64 f2,.int .i64 f3,.int .i64 f4,.int .i64 f5,.int .i64 f6,.int .i64 f7,.int .i64 fl,.int .i64 f9,.int .i64 f10,.int .i64 f11,.str bd],.bool inw,.int .i64 now]
   (.agg (Kw p s i a pt r rp (Qbr p st sd du fl inw now).1 (Qbr p st sd du fl inw now).2.1 (Qbr p st sd du fl inw now).2.2)):=by
 refine Xu1.ps (of_decide_eq_true rfl) (by simp[Qe,nmAll,Kw]) fun c hN hg=>?_
 conv in tcO _ _=>cbv
 (have zf1:=@Kw.eq_1;refine XG ?_;clear zf1;((try (repeat' with_reducible refine And.intro ?_ ?_));(try any_goals (first|refine zm ?_|exact CL|fail))))
 (repeat' (first|((refine Qa (fun hh=>?_) (fun hh=>?_)<;>try exact hh.elim)<;>(have zf1:=@Kw.eq_1;refine XG ?_;clear zf1;((try (repeat' with_reducible refine And.intro ?_ ?_));(try any_goals (first|refine zm ?_|exact CL|fail)))))|((first|apply Yq|apply Ya|apply Xs|apply Xm)<;>(first|exact (Qzy _ _ _)|(have zf1:=@Kw.eq_1;refine XG ?_;clear zf1;first|exact rfl|exact True.intro|((try (repeat' with_reducible refine And.intro ?_ ?_));(try any_goals (first|refine zm ?_|exact CL|fail))))))))
 all_goals simp_all [Qbr]
 all_goals (split<;>simp_all)
structure Fl where
 map:Mp
 rem:Int
 rport:Int
 st:Int
 side:Int
 due:Int
 deriving DecidableEq
def Fl.enc (f:Fl):List AV:=Kw f.map.proto f.map.s f.map.inn f.map.a f.map.port f.rem f.rport f.st f.side f.due
structure Rp where
 code:Int
 frame:List UInt8
 inner:Bool
 log:List UInt8
def Rp.enc (r:Rp):List AV:=[.int .i64 r.code,.str r.frame,.bool r.inner,.str r.log]
def rpE (e:Int):Rp:=⟨e,[],false,[]⟩
structure Ac where
 kind:Int
 n:Int
 draw:Int
 frame:List UInt8
def Ac.enc (a:Ac):List AV:=[.int .i64 a.kind,.int .i64 a.n,.int .i64 a.draw,.str a.frame]
structure NS where
 tb:Tb
 fl:List (Int × Fl)
 nxt:Int
 now:Nat
 told:Nat
 ref:Nat
 acts:Nat
 loose:Bool
def NS.keys (S:NS):List Int:=S.fl.map (·.1)
def NS.tms (S:NS):List Tm:=S.fl.map fun q=>⟨q.1,q.2.due.toNat⟩
def NS.findF (S:NS) (m:Mp) (r rp:Int):Int:=match S.fl.find? (fun q=>decide (q.2.map=m) && q.2.rem == r && q.2.rport == rp) with
 | some q=>q.1
 | none=>0
def Fl.next (f:Fl) (p:Pk) (inw:Bool) (now:Int):Fl :=
 let x:=Qbr f.map.proto f.st f.side f.due p.flags inw now
 { f with st:=x.1,side:=x.2.1,due:=x.2.2 }
def NS.goes (S:NS) (k:Int) (p:Pk) (inw:Bool):NS:={ S with fl:=S.fl.map fun q=>if q.1=k then (q.1,q.2.next p inw S.now) else q }
def NS.begin (S:NS) (f:Fl):NS:={ S with nxt:=S.nxt + 1,fl:=S.fl++[(S.nxt + 1,{ f with due:=S.now + Ju f.map.proto f.st })] }
def NS.ev (S:NS) (m:Mp) (free:Bool):Ev:=⟨S.now,m.s,m.a,Xr m.port,free⟩
def Qff (told:Nat) (l:List Ev):List UInt8:=if l=[] then [] else (if told=0 then Qen 0 0 2 (Ud 6) else [])++Qen told (l.headD ⟨0,0,0,0,false⟩).t 300 (Qb6 l)
def NS.log (S:NS) (l:List Ev):NS:={ S with told:=S.told + l.length }
def Kq (f:List UInt8) (side addr port:Int):List UInt8 :=
 if rdE f≠0 then [] else if Qeb (rdK f) side addr port≠0 then [] else Kk f (rdK f).proto (rdK f).ttl (Qi6 side) (Qig (rdK f).proto side) addr port
def NS.refuse (S:NS) (f:List UInt8) (e:Int):Rp × NS :=
 if S.ref=0∨rdE f≠0 then (rpE e,S) else (⟨e,Qt3 f (w4 f 12) S.ref,true,[]⟩,{ S with ref:=S.ref - 1 })
def NS.inn (S:NS) (f:List UInt8):Rp × NS :=
 if rdE f≠0 then (rpE (rdE f),S) else
 let p:=rdK f
 let a:=p.dst - 3405803777
 if a < 0∨3≤a then (rpE 7,S) else
 if p.proto=1∧p.flags≠0 then (rpE 4,S) else
 if p.ttl=1 then (rpE 12,S) else
 match S.tb.maps.find? (Zw p.proto a p.dport) with
 | none=>(rpE 7,S)
 | some m =>
  let go:Rp:=⟨0,Kq f 1 (167772161 + m.s) m.inn,true,[]⟩
  if S.findF m p.frm p.sport≠0 then (go,S.goes (S.findF m p.frm p.sport) p true) else
  if S.loose=false∧(S.fl.any fun q=>decide (q.2.map=m) && q.2.rem == p.frm)=false then (rpE 11,S) else
  if p.proto≠17∨48≤S.fl.length then (rpE 11,S) else
  (go,S.begin ⟨m,p.frm,p.sport,2,0,0⟩)
def NS.sent (S:NS) (f:List UInt8) (m:Mp) (es:List Ev):Rp × NS :=
 let g:=Kq f 0 (3405803777 + m.a) m.port
 let S1:=S.log es
 let to:=(rdK f).dst - 3405803777
 if 0≤to∧to < 3 then
  let x:=S1.inn g
  ({ x.1 with log:=Qff S.told es },x.2)
 else (⟨0,g,false,Qff S.told es⟩,S1)
def Qc4 (proto:Int):Int:=if proto=6 then 1 else 2
def Qfc (proto flags:Int):Bool :=
 if proto=17 then true else if proto=1 then flags == 8 else decide (proto=6) && bits .and .i64 flags 23 == 2
noncomputable def NS.out (S:NS) (f:List UInt8) (draw:Int):Rp × NS :=
 if rdE f≠0 then (rpE (rdE f),S) else
 let p:=rdK f
 let s:=p.frm - 167772161
 if s < 0∨8≤s then (rpE 7,S) else
 if p.proto=1∧p.flags≠8 then (rpE 4,S) else
 if p.ttl=1 then (rpE 12,S) else
 let k:=match S.tb.maps.find? (Zj p.proto s p.sport) with
  | some m=>S.findF m p.dst p.dport
  | none=>0
 if k≠0 then
  match S.tb.maps.find? (Zj p.proto s p.sport) with
  | some m=>(S.goes k p false).sent f m []
  | none=>(rpE 0,S)
 else
  if Qfc p.proto p.flags=false then (rpE 11,S) else
  if 48≤S.fl.length then S.refuse f 6 else
  let o:=S.tb.opn p.proto s p.sport draw
  if o.2.2.2≠0 then S.refuse f o.2.2.2 else
  let S1:NS:={ S with tb:=o.1 }
  (S1.begin ⟨o.2.1,p.dst,p.dport,Qc4 p.proto,0,0⟩).sent f o.2.1 (if o.2.2.1 then [S1.ev o.2.1 false] else [])
noncomputable def endF (x:NS × List Ev) (k:Int):NS × List Ev :=
 match x.1.fl.find? (fun q=>q.1 == k) with
 | none=>x
 | some q =>
  let S1:NS:={ x.1 with fl:=x.1.fl.filter fun r=>!(r.1 == k) }
  if (S1.fl.any fun r=>decide (r.2.map=q.2.map)) then (S1,x.2) else
  let c:=S1.tb.cls q.2.map
  ({ S1 with tb:=c.1 },if c.2.1 then x.2++[S1.ev q.2.map true] else x.2)
noncomputable def NS.tick (S:NS) (d:Int):Rp × NS :=
 if d < 1∨549755813888 - S.now < d then (rpE 2,S) else
 let S1:NS:={ S with now:=S.now + d.toNat,ref:=min 4 (S.ref + min d.toNat 4) }
 let x:=(outT S.tms (S.now + d.toNat + 1)).foldl endF (S1,[])
 (⟨0,[],false,Qff S.told x.2⟩,x.1.log x.2)
noncomputable def NS.step (S:NS) (a:Ac):Rp × NS :=
 if 300≤S.acts then (rpE 6,S) else
 let S:NS:={ S with acts:=S.acts + 1 }
 if a.kind=1 then S.out a.frame a.draw else
 if a.kind=2 then S.inn a.frame else
 if a.kind=3 then S.tick a.n else
 if a.kind=4∨a.kind=5 then
  let d:=S.tb.pool.drain a.n (decide (a.kind=4))
  (rpE d.2,if d.2=0 then { S with tb:={ S.tb with pool:=d.1 } } else S)
 else (rpE 4,S)
def NS.new (loose:Bool):NS:=⟨⟨⟨List.replicate 18 0,List.replicate 3 false⟩,List.replicate 8 0,[]⟩,[],0,0,0,4,0,loose⟩
def Jj (own:List Int) (s:Nat):Nat:=own.countP fun o=>o == (s:Int) + 1
structure GT (t:Tb):Prop where
 pool:t.pool.good=true
 maps:∀ m ∈ t.maps,Qb4 t m
 apart:t.maps.Pairwise fun x y=>Zi x y=false
 used:∀ i,i < 18→(t.pool.own.getD i 0≠0 ↔ ∃ m ∈ t.maps,Yy m=i)
 two:∀ s,s < 8→Jj t.pool.own s≤2
 many:∀ s:Nat,s < 8→Zm t.maps (s:Int)≤12
 home:∀ s,s < 8→(t.hom s≠0 ↔ 0 < Jj t.pool.own s)
theorem Qew (x y:Mp):Zi x y=Zi y x:=by
 have hb:∀ a b:Int,(a == b)=(b == a):=fun a b=>by
  by_cases h:a=b
  ·subst h;rfl
  ·have h2:¬ b=a:=fun e=>h e.symm
   rw[beq_eq_false_iff_ne.2 h,beq_eq_false_iff_ne.2 h2]
 unfold Zi
 rw[hb y.proto,hb y.a,hb y.port,hb y.s,hb y.inn]
theorem Xqu {p:Pool} (h:p.good=true) {o:Int} (ho:o ∈ p.own):0≤o∧o≤8:=by
 have:=List.all_eq_true.1 h o ho
 unfold Ui at this
 simp at this;omega
theorem Qkx {p:Pool} (h:p.good=true) {s:Nat} (hs:s < 8):(We p.own).getD s 0=Jj p.own s:=by
 rw[Qyi _ _ hs]
 unfold Jj
 congr 1
 refine List.countP_congr fun o ho=>?_
 have:=Xqu h ho
 simp only[Bool.and_eq_true,Bool.not_eq_true',beq_eq_false_iff_ne,beq_iff_eq,ne_eq]
 omega
theorem Qum {l:List Mp} (h:∀ m ∈ l,0≤m.s) {s:Nat} (hs:s < 8):(Uj l).getD s 0=Zm l s:=by
 rw[Qt8 _ _ hs]
 unfold Zm
 congr 1
 refine List.countP_congr fun o ho=>?_
 have:=h o ho
 simp only[beq_iff_eq]
 omega
theorem Qdp {t:Tb} {m:Mp} (h:Qb4 t m):0≤m.s∧m.s < 8:=by
 obtain ⟨_,h2,_⟩:=Kx h.1.1;exact h2
theorem Wp {t:Tb}:goodT t ↔ GT t:=by
 constructor
 ·intro h
  have hm:∀ m ∈ t.maps,Qb4 t m:=fun m hm=>by
   obtain ⟨i,hi,rfl⟩:=List.getElem_of_mem hm
   exact h.maps i hi
  refine ⟨h.pool,hm,List.pairwise_iff_getElem.2 fun i j hi hj hij=>?_,fun i hi=>?_,fun s hs=>?_,fun s hs=>?_,fun s hs=>?_⟩
  ·rw[Qew];exact h.apart j i hj hij
  ·have:=h.used i hi
   rw[Qly _ _ hi]at this
   rw[← bne_iff_ne,this,List.any_eq_true]
   simp
  ·have:=(h.subs s hs).1;rw[Qkx h.pool hs]at this;omega
  ·have:=(h.subs s hs).2.1;rw[Qum (fun m hm'=>(Qdp (hm m hm')).1) hs]at this;omega
  ·have:=(h.subs s hs).2.2
   rw[Qkx h.pool hs]at this
   rw[← bne_iff_ne,this,decide_eq_true_eq];omega
 ·intro h
  refine ⟨h.pool,fun i hi=>h.maps _ (List.getElem_mem hi),fun i j hi hj=>?_,fun i hi=>?_,fun s hs=>⟨?_,?_,?_⟩⟩
  ·rw[Qew];exact List.pairwise_iff_getElem.1 h.apart j i Zom hi hj
  ·rw[Qly _ _ hi]
   have:=h.used i hi
   rw[← bne_iff_ne]at this
   by_cases h2:(t.pool.own.getD i 0 != 0)=true
   ·rw[h2]
    obtain ⟨m,hm,he⟩:=this.1 h2
    exact (List.any_eq_true.2 ⟨m,hm,by simp[he]⟩).symm
   ·have h3:(t.pool.own.getD i 0 != 0)=false:=by simpa using h2
    rw[h3]
    symm
    rw[List.any_eq_false]
    intro m hm he
    exact h2 (this.2 ⟨m,hm,by simpa using he⟩)
  ·rw[Qkx h.pool hs];have:=h.two s hs;omega
  ·rw[Qum (fun m hm'=>(Qdp (h.maps m hm')).1) hs];have:=h.many s hs;omega
  ·rw[Qkx h.pool hs]
   have:=h.home s hs
   rw[← bne_iff_ne]at this
   by_cases h2:(t.hom s != 0)=true
   ·rw[h2];have:=this.1 h2;simp;omega
   ·have h3:(t.hom s != 0)=false:=by simpa using h2
    rw[h3]
    symm
    rw[decide_eq_false_iff_not]
    intro h4
    exact h2 (this.2 Zom)
theorem Qh4 (port:Int):0≤Xr port∧Xr port < 6:=by
 unfold Xr
 split
 ·rename_i h;unfold Jp at h;simp at h;omega
 ·omega
theorem Xuw {m o:Mp} (hm:0≤m.a) (ho:0≤o.a):Yy m=Yy o ↔ m.a=o.a∧Xr m.port=Xr o.port:=by
 have h1:=Qh4 m.port
 have h2:=Qh4 o.port
 unfold Yy
 constructor
 ·intro h;omega
 ·rintro ⟨h3,h4⟩;rw[h3,h4]
theorem Qol {t:Tb} {m:Mp} (h:Qfz t m):Yy m < 18:=by
 have h1:=Qh4 m.port
 have:=h.2.2
 unfold Yy
 omega
theorem Qna (t:Tb) (m:Mp):t.pool.ow m.a.toNat (Xr m.port).toNat=t.pool.own.getD (Yy m) 0:=rfl
theorem Xec {m o:Mp} (h:Zi m o=false):m≠o:=by
 rintro rfl
 simp[Zi]at h
theorem Qug (l:List Mp) (m:Mp) (s:Int):Zm (l++[m]) s=Zm l s + (if m.s=s then 1 else 0):=by
 unfold Zm
 rw[List.countP_append]
 by_cases h:m.s=s<;>simp[h]
theorem Qq2 {l:List Mp} {m:Mp} (h:l.Pairwise fun x y=>Zi x y=false) (hm:∀ o ∈ l,Zi o m=false):(l++[m]).Pairwise fun x y=>Zi x y=false:=by
 rw[List.pairwise_append]
 exact ⟨h,List.pairwise_singleton _ _,fun a ha b hb=>by rw[List.mem_singleton.1 hb];exact hm a ha⟩
theorem GT.add {t:Tb} (h:GT t) {m:Mp} (hm:Qb4 t m) (hk:∀ o ∈ t.maps,Zi o m=false) (hn:Zm t.maps m.s < 12):GT (t.add m):=by
 refine ⟨h.pool,fun o ho=>?_,Qq2 h.apart hk,fun i hi=>?_,h.two,fun s hs=>?_,h.home⟩
 ·rcases List.mem_append.1 ho with ho|ho
  ·exact h.maps o ho
  ·rw[List.mem_singleton.1 ho];exact hm
 ·refine (h.used i hi).trans ⟨fun ⟨o,ho,he⟩=>⟨o,List.mem_append_left _ ho,he⟩,fun ⟨o,ho,he⟩=>?_⟩
  rcases List.mem_append.1 ho with ho|ho
  ·exact ⟨o,ho,he⟩
  ·rw[List.mem_singleton.1 ho]at he
   refine (h.used i hi).1 ?_
   rw[← he,← Qna t m,hm.2.2]
   have:=Qdp hm;omega
 ·show Zm (t.maps++[m]) s≤12
  rw[Qug]
  have:=h.many s hs
  split
  ·rename_i e;rw[e]at hn;omega
  ·omega
theorem Uv {l:List Int} {i:Nat} (h:i < l.length) (v:Int) (j:Nat):(l.set i v).getD j 0=if j=i then v else l.getD j 0:=by
 by_cases e:j=i
 ·subst e;simp[List.getD,h]
 ·rw[if_neg e];simp[List.getD,List.getElem?_set_ne (fun q=>e q.symm)]
theorem Qoq {l:List Int} {i:Nat} (h:i < l.length) (v:Int) (s:Nat):Jj (l.set i v) s=(Jj l s - if l.getD i 0=(s:Int) + 1 then 1 else 0) + if v=(s:Int) + 1 then 1 else 0:=by
 unfold Jj
 rw[List.countP_set h]
 have e:l.getD i 0=l[i]:=by simp[List.getD,h]
 rw[e]
 simp only[beq_iff_eq]
theorem Qoa {l:List Int} {i s:Nat} (h:i < l.length) (he:l.getD i 0=(s:Int) + 1):0 < Jj l s:=by
 unfold Jj
 rw[List.countP_pos_iff]
 refine ⟨l[i],List.getElem_mem h,?_⟩
 have e:l.getD i 0=l[i]:=by simp[List.getD,h]
 rw[e]at he;simp[he]
theorem Qjj {p:Pool} (h:p.good=true) (a k:Nat) {o:Int} (ho:0≤o∧o≤8):(p.put a k o).good=true:=by
 refine List.all_eq_true.2 fun x hx=>?_
 rcases List.mem_or_eq_of_mem_set hx with h2|h2
 ·exact List.all_eq_true.1 h x h2
 ·subst h2;unfold Ui;simp;omega
theorem GT.take {t:Tb} (h:GT t) (hw:t.wf) {b k S:Nat} (hb:b < 3) (hk:k < 6) (hS:S < 8) (hz:t.pool.ow b k=0) (hh:t.hom S=0∨t.hom S=b + 1) (hc:Jj t.pool.own S≤1) {m:Mp} (hs:m.s=S) (ha:m.a=b) (hmb:(Xr m.port).toNat=k)
  (hpre:Qfz t m) (hkl:∀ o ∈ t.maps,Zi o m=false) (hn:Zm t.maps m.s < 12):GT ((⟨t.pool.put b k (S + 1),t.home.set S (b + 1),t.maps⟩:Tb).add m):=by
 have hl:b * 6 + k < t.pool.own.length:=by rw[hw.pool.own];omega
 have hlh:S < t.home.length:=by rw[hw.home];exact hS
 have hidx:Yy m=b * 6 + k:=by unfold Yy;rw[hmb,ha,Int.toNat_natCast]
 have hz':t.pool.own.getD (b * 6 + k) 0=0:=hz
 have hho:∀ u,(⟨t.pool.put b k (S + 1),t.home.set S (b + 1),t.maps⟩:Tb).hom u=if u=S then (b:Int) + 1 else t.hom u:=fun u=>Uv hlh _ _
 have how:∀ i,(t.pool.own.set (b * 6 + k) ((S:Int) + 1)).getD i 0=if i=b * 6 + k then (S:Int) + 1 else t.pool.own.getD i 0:=fun i=>Uv hl _ _
 have hold:∀ o ∈ t.maps,Yy o≠b * 6 + k:=fun o ho he=>by
  exact (h.used _ Zom).2 ⟨o,ho,he⟩ hz'
 refine ⟨Qjj h.pool _ _ Zom,fun o ho=>?_,Qq2 h.apart hkl,fun i hi=>?_,fun s hs'=>?_,fun s hs'=>?_,fun s hs'=>?_⟩
 ·rcases List.mem_append.1 ho with ho|ho
  ·have:=h.maps o ho
   have h8:=Qdp this
   have h3:=this.1.2.2
   refine ⟨this.1,?_,?_⟩
   ·show (⟨t.pool.put b k (S + 1),t.home.set S (b + 1),t.maps⟩:Tb).hom _=_
    rw[hho]
    split
    ·rename_i e
     have:=this.2.1
     rw[e]at this
     omega
    ·exact this.2.1
   ·show (t.pool.own.set (b * 6 + k) ((S:Int) + 1)).getD (Yy o) 0=_
    rw[how,if_neg (hold o ho)]
    exact this.2.2
  ·rw[List.mem_singleton.1 ho]
   refine ⟨hpre,?_,?_⟩
   ·show (⟨t.pool.put b k (S + 1),t.home.set S (b + 1),t.maps⟩:Tb).hom _=_
    rw[hho,if_pos Zom,ha]
   ·show (t.pool.own.set (b * 6 + k) ((S:Int) + 1)).getD (Yy m) 0=_
    rw[how,if_pos hidx,hs]
 ·show (t.pool.own.set (b * 6 + k) ((S:Int) + 1)).getD i 0≠0 ↔ ∃ o ∈ t.maps++[m],Yy o=i
  rw[how]
  by_cases e:i=b * 6 + k
  ·rw[if_pos e]
   exact ⟨fun _=>⟨m,by simp,by rw[hidx,e]⟩,fun _=>by omega⟩
  ·rw[if_neg e]
   refine (h.used i hi).trans ⟨fun ⟨o,ho,he⟩=>⟨o,List.mem_append_left _ ho,he⟩,fun ⟨o,ho,he⟩=>?_⟩
   rcases List.mem_append.1 ho with ho|ho
   ·exact ⟨o,ho,he⟩
   ·rw[List.mem_singleton.1 ho]at he;exact (e (by rw[← he,hidx])).elim
 ·show Jj (t.pool.own.set (b * 6 + k) ((S:Int) + 1)) s≤2
  rw[Qoq hl,hz',if_neg Zom]
  have:=h.two s hs'
  split
  ·rename_i e;have:s=S:=by omega
   subst this;omega
  ·omega
 ·show Zm (t.maps++[m]) s≤12
  rw[Qug]
  have:=h.many s hs'
  split
  ·rename_i e;rw[e]at hn;omega
  ·omega
 ·show (⟨t.pool.put b k (S + 1),t.home.set S (b + 1),t.maps⟩:Tb).hom s≠0 ↔ 0 < Jj (t.pool.own.set (b * 6 + k) ((S:Int) + 1)) s
  rw[hho,Qoq hl,hz',if_neg (show ¬ (0:Int)=(s:Int) + 1 by omega)]
  by_cases e:s=S
  ·subst e;rw[if_pos rfl,if_pos rfl];omega
  ·rw[if_neg e,if_neg Zom]
   have:=h.home s hs'
   omega
theorem GT.del {t:Tb} (h:GT t) {i:Nat} (hi:i < t.maps.length) (ho:∃ o ∈ t.maps.eraseIdx i,Yy o=Yy t.maps[i]):GT (t.del i):=by
 have hsub:∀ o ∈ t.maps.eraseIdx i,o ∈ t.maps:=fun o ho=>List.mem_of_mem_eraseIdx ho
 refine ⟨h.pool,fun o ho=>h.maps o (hsub o ho),h.apart.sublist (List.eraseIdx_sublist _ _),fun j hj=>?_,h.two,fun s hs=>?_,h.home⟩
 ·refine (h.used j hj).trans ⟨fun ⟨o,ho',he⟩=>?_,fun ⟨o,ho',he⟩=>⟨o,hsub o ho',he⟩⟩
  obtain ⟨n,hn,rfl⟩:=List.getElem_of_mem ho'
  by_cases e:n=i
  ·subst e
   obtain ⟨q,hq,hqe⟩:=ho
   exact ⟨q,hq,hqe.trans he⟩
  ·exact ⟨_,List.mem_eraseIdx_iff_getElem.2 ⟨n,hn,e,rfl⟩,he⟩
 ·have:=h.many s hs
  exact Nat.le_trans (List.Sublist.countP_le (List.eraseIdx_sublist _ _)) this
def Qed (own:List Int) (s a:Nat):Nat:=(List.range 6).countP fun k=>own.getD (a * 6 + k) 0 == (s:Int) + 1
theorem Xsi {own:List Int} (h:own.length=18) (s:Nat):Jj own s=Qed own s 0 + Qed own s 1 + Qed own s 2:=by
 match own,h with
 | [o0,o1,o2,o3,o4,o5,o6,o7,o8,o9,o10,o11,o12,o13,o14,o15,o16,o17],_ =>
  have e:List.range 6=[0,1,2,3,4,5]:=rfl
  unfold Jj Qed
  rw[e]
  simp only[List.countP_cons,List.countP_nil,List.getD,List.getElem?_cons_zero,List.getElem?_cons_succ,Option.getD_some,Nat.zero_add,Nat.zero_mul,Nat.one_mul,Nat.reduceMul,Nat.reduceAdd,Nat.add_zero]
  ac_rfl
theorem GT.owner {t:Tb} (h:GT t) {i s:Nat} (hi:i < 18) (ho:t.pool.own.getD i 0=(s:Int) + 1):1≤t.hom s∧(t.hom s - 1).toNat=i / 6∧t.hom s≤3:=by
 obtain ⟨m,hm,he⟩:=(h.used i hi).1 Zom
 have hok:=h.maps m hm
 have hs:=Qdp hok
 have hb:=Qh4 m.port
 have h1:=hok.2.2
 rw[Qna,he,ho]at h1
 have h2:=hok.2.1
 rw[show m.s.toNat=s by omega]at h2
 have ha:=hok.1.2.2
 unfold Yy at he
 omega
def homeOk (t:Tb) (s:Nat):Prop:=∀ i,i < 18→t.pool.own.getD i 0=(s:Int) + 1→1≤t.hom s∧(t.hom s - 1).toNat=i / 6∧t.hom s≤3
theorem GT.homeOk {t:Tb} (h:GT t) (s:Nat):homeOk t s:=fun _ hi ho=>h.owner hi ho
theorem Qdk {t:Tb} {s:Nat} (h:homeOk t s) (a:Nat) (ha:a < 3) (hn:¬ (1≤t.hom s∧(t.hom s - 1).toNat=a)):Qed t.pool.own s a=0:=by
 unfold Qed
 rw[List.countP_eq_zero]
 intro k hk he
 have hk:=List.mem_range.1 hk
 have:=h (a * 6 + k) Zom (by simpa using he)
 omega
theorem Qhf {t:Tb} {s:Nat} (h:homeOk t s) (hw:t.wf):Jj t.pool.own s=(Qa0 t s).length:=by
 rw[Xsi hw.pool.own]
 unfold Qa0
 split
 ·rename_i h1
  have e:(Kp t s 6).length=Qed t.pool.own s (t.hom s - 1).toNat:=by
   unfold Kp Qed
   rw[← List.countP_eq_length_filter];rfl
  rw[e]
  have h0:=Qdk h 0 Zom
  have h1':=Qdk h 1 Zom
  have h2:=Qdk h 2 Zom
  by_cases e0:(t.hom s - 1).toNat=0
  ·rw[e0,h1' Zom,h2 Zom];omega
  ·by_cases e1:(t.hom s - 1).toNat=1
   ·rw[e1,h0 Zom,h2 Zom];omega
   ·by_cases e2:(t.hom s - 1).toNat=2
    ·rw[e2,h0 Zom,h1' Zom];omega
    ·rw[h0 Zom,h1' Zom,h2 Zom]
     have:Qed t.pool.own s (t.hom s - 1).toNat=0:=by
      unfold Qed
      rw[List.countP_eq_zero]
      intro k hk he
      rw[List.getD_eq_getElem?_getD,List.getElem?_eq_none (by have:=hw.pool.own;omega)]at he
      simp at he;omega
     omega
 ·rw[Qdk h 0 Zom Zom,Qdk h 1 Zom Zom,Qdk h 2 Zom Zom];rfl
end Go.Proofs.YtogckmommodmhaaGreatDoor
