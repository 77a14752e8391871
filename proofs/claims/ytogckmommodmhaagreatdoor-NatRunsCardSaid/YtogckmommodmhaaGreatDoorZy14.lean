import Derived.Test.YtogckmommodmhaaGreatDoorZy13
namespace Go.Proofs.YtogckmommodmhaaGreatDoor
open List (mem_cons mem_range length_nil length_set map_nil mem_map mem_singleton mem_append length_append length_cons map_cons filter_eq_self filter_filter filter_congr mem_filter map_congr_left map_id filter_append)
open Go.RowKit
set_option linter.all false
set_option maxHeartbeats 4000000
set_option maxRecDepth 100000
variable {P:Program}{r r':List (List Tm)}{t:List (Nat×AV)}{s:St}{D:List Tm}{ex:List (Nat×Bk)}{rows:List (List Tm)}{σ:Nat->Nat}{n b:Nat}{f:FuncId}{p:List Nat}{m:Nat}{d:Option Nat}{aK:List (Nat×Bk)}(gl:Nat->AV)
def Kr (D:List Tm)(to:Nat):Nat:=D.foldl (fun m t=>min m t.due) to
def Gc:∀ (D:List Tm) (to:Nat),Kr D to<=to/\(∀ t ∈ D,Kr D to<=t.due)/\(Kr D to=to\/∃ t ∈ D,t.due=Kr D to)
 | [],to=>⟨Nat.le_refl _,fun t ht=>(by cases ht),.inl rfl⟩
 | a::D,to=>by
  obtain ⟨h1,h2,h3⟩:=Gc D (min to a.due);have e:Kr (a::D) to=Kr D (min to a.due):=rfl;rw[e];refine ⟨by omega,fun t ht=>?_,?_⟩
  ·rcases mem_cons.1 ht with rfl|ht
   ·omega
   ·exact h2 t ht
  ·rcases h3 with h3|⟨t,ht,h3⟩
   ·by_cases h:to≤a.due
    ·left;omega
    ·right;exact ⟨a,by simp,by omega⟩
   ·right;exact ⟨t,by simp[ht],h3⟩
def Xit {to m:Nat}(h1:m<=to)(h2:∀ t ∈ D,m<=t.due)(h3:m=to\/∃ t ∈ D,t.due=m):m=Kr D to:=by
 obtain ⟨g1,g2,g3⟩:=Gc D to;rcases h3 with h3|⟨t,ht,h3⟩<;>rcases g3 with g3|⟨t',nc,g3⟩
 ·omega
 ·have:=h2 t' nc;omega
 ·have:=g2 t ht;omega
 ·have:=h2 t' nc;have:=g2 t ht;omega
def Gd:∀ (n:Nat) (S:List Nat),S.Nodup->(∀ i ∈ S,i<n)->S.length<=n
 | 0,S,_,h=>by
  cases S with
  | nil=>simp
  | cons a S=>have:=h a aw;omega
 | n+1,S,hd,h=>by
  have:=Gd n (S.erase n) (hd.erase n) fun i hi=>by
   have:=(hd.mem_erase_iff).1 hi;have:=h i this.2;omega
  rw[List.length_erase]at this;split at this<;>omega
def Xmk {S:List Nat}  (hd:S.Nodup)(h:∀ i ∈ S,i<n)(bl:∀ i,i<n->i ∈ S):S.Perm (List.range n):=by
 rw[List.perm_iff_count];intro a;rw[hd.count,(List.nodup_range).count];by_cases ha:a<n
 ·rw[am (bl a ha),am (mem_range.2 ha)]
 ·rw[aa fun hm=>ha (h a hm),aa fun hm=>ha (mem_range.1 hm)]
def Xn0 (D:List Tm):(List.range D.length).map (fun i=>D.getD i default)=D:=by
 refine List.ext_getElem aw fun i h1 h2=>?_;simp[List.getD,h2]
def Qtd {bs:List Nat}{n ck:Nat}(h:Oy bs n ck){i j:Nat}(hi:i<n)(hj:j<n)(e:bs.getD i 0=bs.getD j 0):i=j:=by
 by_cases h1:i<j
 ·have:=h.2.1 i j h1 hj;omega
 by_cases h2:j<i
 ·have:=h.2.1 j i h2 hi;omega
 omega
def Xdh (D:List Tm)(i:Nat)(h:i<D.length):(bu D).getD i (.any,.any)=(.int .i64 (D.getD i default).id,.int .i64 (D.getD i default).due):=by
 simp[bu,List.getD,h]
def Ko (m:Nat)(mb:Bk):WT:={ now:=m,rows:=List.replicate 65 [],mb:=mb }
def Qpw (m:Nat)(mb:Bk)(i:Nat):(Ko m mb).row i=[]:=by
 unfold WT.row Ko;simp only[List.getD,List.getElem?_replicate];split<;>rfl
def pH (m:Int):List AV:=.int .i64 m::(List.replicate 65 .nils++[.mp 1])
def Qzq (m:Int)(j:Nat)(h:j<65):(pH m)[j+1]?=some .nils:=by
 unfold pH;rw[List.getElem?_cons_succ,List.getElem?_append_left (by simpa using h),List.getElem?_replicate,am h]
def Qzz (m:Int):(pH m).length=67:=by simp[pH]
theorem Xns (m:Int):(pH m).getD 0 .any=.int .i64 m:=rfl
theorem Qr5 (m:Int):(pH m).getD 66 .any=.mp 1:=rfl
def To.xR {p:List Nat}{s:St}{m:Int}(h0:Qc s.h s.n 0=.cells (pH m))(hf:∀ j,Qc s.h (s.n+j) (s.n+j)=.free)(hn:2<=s.n):∀ j,j<=65->∃ h cs,To p s ⟨s.t,h,s.n+j⟩/\Qc h (s.n+j) 0=.cells cs/\cs.length=67/\(∀ i,i<67->cs.getD i .any=if 1<=i/\i<=j then .sl 2 (s.n+(i-1)) 0 0 0 else (pH m).getD i .any)/\(∀ i,i<j->Qc h (s.n+j) (s.n+i)=.cells [])/\(∀ b,b≠0->b<s.n->Qc h (s.n+j) b=Qc s.h s.n b)/\∀ k,j<=k->Qc h (s.n+k) (s.n+k)=.free
 | 0,_=>⟨s.h,pH m,To.refl _ _,h0,Qzz m,fun i hi=>by rw[aa af],fun i hi=>by omega,fun b _ _=>rfl,fun k _=>hf k⟩
 | j+1,hj=>by
  obtain ⟨h,cs,g1,g2,g3,g4,g5,g6,g7⟩:=To.xR (p:=p) h0 hf hn j af;have hcj:cs[j+1]?=some .nils:=by
   have:=g4 (j+1) af;rw[aa af]at this;have hn:=Qzq m j af;have e1:(pH m).getD (j+1) .any=.nils:=by simp[List.getD,hn]
   rw[e1]at this;have hl:j+1<cs.length:=by omega
   simpa [List.getD,hl] using this
  refine ⟨(0,.cells (cs.set (j+1) (.sl 2 (s.n+j) 0 0 0)))::(s.n+j,.cells [])::h,cs.set (j+1) (.sl 2 (s.n+j) 0 0 0),g1.trans (To.jS (s:=⟨s.t,h,s.n+j⟩) g2 hcj (g7 j (Nat.le_refl j))),?_,by simp[g3],fun i hi=>?_,fun i hi=>?_,fun b hb dH=>?_,fun k hk=>?_⟩
  ·rw[Qf,am rfl]
  ·have bA:∀ v,(cs.set (j+1) v).getD i .any=if i=j+1 then v else cs.getD i .any:=fun v=>by
    simp only[List.getD,List.getElem?_set];by_cases e:j+1=i
    ·subst e;rw[am rfl,am af,am rfl];rfl
    ·rw[aa e,aa fun q=>e q.symm]
   rw[bA,g4 i hi];by_cases e:i=j+1
   ·subst e;rw[am rfl,am af];rfl
   ·rw[aa e];by_cases e2:1≤i∧i≤j
    ·rw[am e2,am af]
    ·rw[aa e2,aa af]
  ·rw[Qf,aa af,Qf];by_cases e:i=j
   ·subst e;rw[am rfl]
   ·rw[aa af,show s.n+(j+1)=s.n+j+1 by omega,Ku _ _ _ af];exact g5 i af
  ·rw[Qf,aa fun e=>hb e.symm,Qf,aa af,show s.n+(j+1)=s.n+j+1 by omega,Ku _ _ _ af];exact g6 b hb dH
  ·rw[Qf,aa af,Qf,aa af];exact g7 k af
def lQ (N b:Nat):Nat:=if 2<=b/\b<67 then N+(b-2) else b
def To.nils {mb:Bk}{t':List (Nat×AV)}(h0:Qc s.h s.n 0=.cells (pH m))(hf:∀ j,Qc s.h (s.n+j) (s.n+j)=.free)(hn:2<=s.n)(h1:Qc s.h s.n 1=mb)(eG:bV 2 mb)(hp:∀ b,b ∈ p->b<2)(ht:Qr (lQ s.n) 67 s.t t'):To p s ⟨t',(Ko m mb).h,67⟩:=by
 obtain ⟨h,cs,g1,g2,g3,g4,g5,g6,g7⟩:=To.xR (p:=p) h0 hf af 65 (Nat.le_refl _);have hw:(Ko m mb).wf:=⟨by simp[Ko],eG⟩
 refine g1.trans (To.wh (ex:=[]) hw (lQ s.n) (fun b hb=>⟨by unfold lQ;rw[aa (by have:=hp b hb;omega)],by have:=hp b hb;omega⟩) af (fun b b' hb bL e=>?_) ?_ ?_ (fun i hi=>?_) ht trivial (fun q hq=>by cases hq))
 ·unfold lQ at e
  (repeat' split at e)<;>omega
 ·show Qc h (s.n + 65) (lQ s.n 0)=_;rw[show lQ s.n 0=0 by unfold lQ;rw[aa af],g2];congr 1;refine Lk (by rw[Yp,g3,WT.len hw]) fun j hj=>?_;rw[g3]at hj;rw[g4 j hj,Kt];rcases WT.gf hw j hj with rfl|rfl|⟨i,hi,rfl⟩
  ·rw[aa af,WT.iI,Xns];simp[aA,Ko]
  ·rw[aa af,WT.eR hw,Qr5];simp[aA,lQ]
  ·rw[am af,WT.iJ hw hi,Qpw];simp only[aA,lQ,length_nil];rw[am af];congr 1;omega
 ·show Qc h (s.n+65) (lQ s.n 1)=_;rw[show lQ s.n 1=1 by unfold lQ;rw[aa af],g6 1 af af,h1];exact (Lj (fun b hb=>by unfold lQ;rw[aa af]) eG).symm
 ·show Qc h (s.n+65) (lQ s.n (2+i))=_;rw[Qpw];unfold lQ;rw[am af,show 2+i-2=i by omega];exact g5 i hi
def Xrh (cs vs:List AV)(off j:Nat)(h:off<=cs.length):(Yj cs off vs).getD j .any=if j<off then cs.getD j .any else if j<off+vs.length then vs.getD (j-off) .any else cs.getD j .any:=by
 unfold Yj;simp only[List.getD,List.append_assoc,List.getElem?_append,List.length_take];by_cases h1:j<off
 ·rw[am af,am h1,List.getElem?_take_of_lt h1]
 ·rw[aa af,aa h1,show min off cs.length=off by omega];by_cases h2:j < off + vs.length
  ·rw[am af,am h2]
  ·rw[aa af,aa h2,List.getElem?_drop];congr 2;omega
def Yc2 {T:WT}(hT:T.wf)(m:Int):(Yj (T.cells.set 0 (.int .i64 m)) 1 [.nils,.nils,.nils,.nils,.nils,.nils,.nils,.nils,.nils,.nils,.nils,.nils,.nils,.nils,.nils,.nils,.nils,.nils,.nils,.nils,.nils,.nils,.nils,.nils,.nils,.nils,.nils,.nils,.nils,.nils,.nils,.nils,.nils,.nils,.nils,.nils,.nils,.nils,.nils,.nils,.nils,.nils,.nils,.nils,.nils,.nils,.nils,.nils,.nils,.nils,.nils,.nils,.nils,.nils,.nils,.nils,.nils,.nils,.nils,.nils,.nils,.nils,.nils,.nils]).set 65 .nils=pH m:=by
 have hl:=WT.len hT;have e:([.nils,.nils,.nils,.nils,.nils,.nils,.nils,.nils,.nils,.nils,.nils,.nils,.nils,.nils,.nils,.nils,.nils,.nils,.nils,.nils,.nils,.nils,.nils,.nils,.nils,.nils,.nils,.nils,.nils,.nils,.nils,.nils,.nils,.nils,.nils,.nils,.nils,.nils,.nils,.nils,.nils,.nils,.nils,.nils,.nils,.nils,.nils,.nils,.nils,.nils,.nils,.nils,.nils,.nils,.nils,.nils,.nils,.nils,.nils,.nils,.nils,.nils,.nils,.nils]:List AV)=List.replicate 64 .nils:=rfl;rw[e];have hlen:(Yj (T.cells.set 0 (.int .i64 m)) 1 (List.replicate 64 .nils)).length=67:=by simp[Yj,hl]
 refine Lk (by rw[length_set,hlen,Qzz]) fun j hj=>?_;rw[length_set,hlen]at hj;have bA:∀ (l:List AV) (i:Nat) (v:AV),i<l.length->(l.set i v).getD j .any=if j=i then v else l.getD j .any:=fun l i v hi=>by
  simp only[List.getD,List.getElem?_set];by_cases e:i=j
  ·subst e;rw[am rfl,am hi,am rfl];rfl
  ·rw[aa e,aa fun q=>e q.symm]
 rw[bA _ _ _ af,Xrh _ _ _ _ (by simp[hl])];rcases WT.gf hT j hj with rfl|rfl|⟨i,hi,rfl⟩
 ·rw[aa af,am af,bA _ _ _ af,am rfl];rfl
 ·rw[aa af,aa af,aa aw,bA _ _ _ af,aa af,WT.eR hT];rfl
 ·have hn:=Qzq m i hi;have e1:(pH m).getD (i + 1) .any=.nils:=by simp[List.getD,hn]
  rw[e1];by_cases e2:i+1=65
  ·rw[am e2]
  ·rw[aa e2,aa af,am (by rw[List.length_replicate];omega)];simp only[List.getD,List.getElem?_replicate];rw[am af];rfl
def WT.AH (D:List Tm)(m:Nat)(T':WT):Prop:=∃ l:List Tm,l.Perm D/\T'={ now:=m,rows:=l.foldl (Xu m) (List.replicate 65 []),mb:=.az (bu D) false }
set_option maxRecDepth 20000 in
def Xxw (T:WT)(D:List Tm)(dn:Bool)(hlen:T.rows.length=65)(eG:T.mb=.az (bu D) dn)(hD:D.length<=100000)(iM:∀ t ∈ D,t.due<=1099511627776)(to:Nat)(jf:to<=1099511627776) :
  GQ Tryz.prog gl 138 [.ptr 0 0,.int .i64 to] T.h 67 [0,1] (fun T':WT=>T'.AH D (Kr D to)) (fun _=>.aR []) WT.h:=by
 have hT:=vX hlen eG;refine Rb.gq (ap rfl) (fun q hq=>Xb (((WT.as hT).mem q hq).2)) aw fun c bf hg=>?_
 conv in aG _ _=>cbv
 have aZ:=fun n b hb=>WT.iB hT n (b:=b) hb;have lN:=WT.eR hT;have aW:=WT.len hT;have pC:T.h=(0,.cells T.cells)::(1,.az (bu D) dn)::Kf T.rows 0:=by rw[<- eG];rfl
 rw[pC];refine Qd @lN ?_;refine XC sL rfl rfl (by exact Qi @aZ) fun bs ck dW=>?_;rw[sO]at dW;refine Qa ?_
 refine Yk (fun y:List Nat × Nat=>y.1.Nodup∧(∀ i ∈ y.1,i < D.length)∧y.2≤to∧(∀ i ∈ y.1,y.2≤(D.getD i default).due)∧(y.2=to∨∃ t ∈ D,t.due=y.2))
  (fun y=>⟨[(0,.ptr 0 0),(4,.int .i64 y.2),(14,.ptr 67 0)],(67,.iter 1 ck (y.1.map fun i=>bs.getD i 0))::(0,.cells T.cells)::(1,.bp (bu D) bs ck)::Kf T.rows 0,68⟩) (fun y=>D.length-y.1.length) Rb.mixed [0,1] bf
  ⟨([],to),⟨by simp,by simp,by simp,by simp,.inl rfl⟩,To.fN (by exact Qp) fun b=>?_⟩ fun y hy=>?_
 ·simp only[map_nil,Qf]
  (repeat' split)<;>first|rfl|omega
 obtain ⟨S,m⟩:=y;obtain ⟨sa,uz,Ge,Lv,Lw⟩:=hy;dsimp only at sa uz Ge Lv Lw ⊢;have Gf:=Gd _ S sa uz;refine Qa ?_;refine XE (bi:=67) (b:=1) (ck:=ck) (seen:=S.map fun i=>bs.getD i 0) (bs:=bs) (kvs:=bu D) rfl (by exact Qp) (by exact Qp) (fun bl=>?_) (fun i cO yy=>?_)
 ·rw[sO]at bl;have pI:∀ i,i<D.length->i ∈ S:=fun i hi=>by
   obtain ⟨j,hj,e⟩:=mem_map.1 (bl i hi);rw[Qtd dW hi (uz j hj) e.symm];exact hj
  have hm:m=Kr D to:=Xit Ge (fun t ht=>by
   obtain ⟨i,hi,rfl⟩:=List.mem_iff_getElem.1 ht;have:=Lv i (pI i hi);simpa [List.getD,hi] using this) Lw
  subst hm;clear pI bl Lv sa uz Gf Lw;have Ag:Kr D to<=1099511627776:=by omega
  generalize Kr D to=m at *
  refine Qa ?_;refine Yc ?_;refine Qd (An @aZ @lN) ?_;rw[Yc2 hT m];refine np bf (s':=⟨[(0,.ptr 0 0),(36,.mp 1)],(Ko m (.az (bu D) false)).h,67⟩) (To.trans (To.I4 (b:=1) rfl) (To.nils (m:=m) (mb:=.az (bu D) false) rfl (fun j=>?_) (by show 2<=68;omega) rfl (oH 2 D) aw ?_)) ?_
  ·show Qc ((1,_)::(0,_)::(0,_)::(0,_)::(67,_)::(0,_)::(1,_)::Kf T.rows 0) (68 + j) (68 + j)=.free
   (repeat rw[Qf,aa af])
   rw[aZ _ _ af,aa af]
  ·have h1:lQ 68 0=0:=rfl;have h2:lQ 68 1=1:=rfl;exact Qi (An @h1 (An @h2 @Qr5))
  have hwe:(Ko m (.az (bu D) false)).wf:=⟨by simp[Ko],oH 2 D⟩
  have hHe:=WT.aZ hwe;refine XC sL (b:=1) (kvs:=bu D) (dn:=false) rfl rfl (by exact Qi @hHe) fun gC gU Gg=>?_;rw[sO]at Gg;refine Qa ?_
  refine Yk (fun S:List Nat=>S.Nodup∧(∀ i ∈ S,i < D.length))
   (fun S=>⟨[(0,.ptr 0 0),(37,.ptr 67 0)],(67,.iter 1 gU (S.map fun i=>gC.getD i 0))::WT.h { now:=m,rows:=(S.map fun i=>D.getD i default).foldl (Xu m) (List.replicate 65 []),mb:=.bp (bu D) gC gU },68⟩) (fun S=>D.length-S.length) Rb.mixed [0,1] bf
   ⟨[],⟨by simp,by simp⟩,To.fN (by exact Qp) fun b=>?_⟩ fun S hy=>?_
  ·show Qc ((67,.iter 1 gU [])::WT.h { now:=m,rows:=List.replicate 65 [],mb:=.bp (bu D) gC gU }) 68 b=Qc ((67,.iter 1 gU [])::(1,.bp (bu D) gC gU)::(Ko m (.az (bu D) false)).h) 68 b;have AI:WT.cells { now:=m,rows:=List.replicate 65 [],mb:=.bp (bu D) gC gU }=(Ko m (.az (bu D) false)).cells:=rfl;have q1:(Ko m (.az (bu D) false)).rows.length=65:=by simp[Ko]
   have q2:(List.replicate 65 ([]:List Tm)).length=65:=by simp
   simp only[Qf,WT.bE,AI]
   (repeat' split)<;>first|rfl|omega
  obtain ⟨sa,uz⟩:=hy;have Gf:=Gd _ S sa uz;have ry:RI (fun _ _=>True) ((S.map fun i=>D.getD i default).foldl (Xu m) (List.replicate 65 [])) ((S.map fun i=>D.getD i default).reverse++[]):=RI.j4 _ ⟨by simp,by simp,fun _ _ _ _=>trivial⟩ fun _ _=>trivial;have Lx:WT.wf { now:=m,rows:=(S.map fun i=>D.getD i default).foldl (Xu m) (List.replicate 65 []),mb:=.bp (bu D) gC gU }:=⟨ry.len,oH 2 D⟩
  have AJ:∀ n,Qc (WT.h { now:=m,rows:=(S.map fun i=>D.getD i default).foldl (Xu m) (List.replicate 65 []),mb:=.bp (bu D) gC gU }) n 1=.bp (bu D) gC gU:=fun n=>rfl;have Rt:∀ i,i<65->(WT.row { now:=m,rows:=(S.map fun i=>D.getD i default).foldl (Xu m) (List.replicate 65 []),mb:=.bp (bu D) gC gU } i).length<=1000000:=fun i hi=>by
   have:=ry.im hi;simp only[List.append_nil,List.length_reverse,List.length_map]at this;exact Nat.le_trans this af
  have mQ:∀ j,Xu m ((S.map fun i=>D.getD i default).foldl (Xu m) (List.replicate 65 [])) (D.getD j default)=((S++[j]).map fun i=>D.getD i default).foldl (Xu m) (List.replicate 65 []):=fun j=>by simp
  have bY:(∀ i,i<D.length->i ∈ S)->WT.AH D m { now:=m,rows:=(S.map fun i=>D.getD i default).foldl (Xu m) (List.replicate 65 []),mb:=.az (bu D) false }:=fun h=>⟨_,by
   have:=(Xmk sa uz h).map fun i=>D.getD i default
   rwa [Xn0]at this,rfl⟩
  have hHS:=WT.aZ Lx;have hnS:WT.now { now:=m,rows:=(S.map fun i=>D.getD i default).foldl (Xu m) (List.replicate 65 []),mb:=.bp (bu D) gC gU }=m:=rfl;have eO:∀ x,WT.lay { now:=m,rows:=(S.map fun i=>D.getD i default).foldl (Xu m) (List.replicate 65 []),mb:=.bp (bu D) gC gU } x={ now:=m,rows:=Xu m ((S.map fun i=>D.getD i default).foldl (Xu m) (List.replicate 65 [])) x,mb:=.bp (bu D) gC gU }:=fun x=>rfl;have fW:∀ b,Qc (WT.h { now:=m,rows:=(S.map fun i=>D.getD i default).foldl (Xu m) (List.replicate 65 []),mb:=.az (bu D) false }) 68 b=Qc ((1,.az (bu D) false)::WT.h { now:=m,rows:=(S.map fun i=>D.getD i default).foldl (Xu m) (List.replicate 65 []),mb:=.bp (bu D) gC gU }) 68 b:=fun b=>by
   have AI:WT.cells { now:=m,rows:=(S.map fun i=>D.getD i default).foldl (Xu m) (List.replicate 65 []),mb:=.az (bu D) false }=WT.cells { now:=m,rows:=(S.map fun i=>D.getD i default).foldl (Xu m) (List.replicate 65 []),mb:=.bp (bu D) gC gU }:=rfl;simp only[Qf,WT.bE,AI]
   (repeat' split)<;>first|rfl|omega
  generalize hTS:({ now:=m,rows:=(S.map fun i=>D.getD i default).foldl (Xu m) (List.replicate 65 []),mb:=.bp (bu D) gC gU }:WT)=TS at *
  refine Qa ?_;refine XE (bi:=67) (b:=1) (ck:=gU) (seen:=S.map fun i=>gC.getD i 0) (bs:=gC) (kvs:=bu D) rfl (by exact Qp) (by exact Qi @AJ) (fun bl=>?_) (fun i cO yy=>?_)
  ·rw[sO]at bl;have pI:∀ i,i<D.length->i ∈ S:=fun i hi=>by
    obtain ⟨j,hj,e⟩:=mem_map.1 (bl i hi);rw[Qtd Gg hi (uz j hj) e.symm];exact hj
   refine Qa ?_;refine Yc ?_;refine Qa ?_;refine ⟨_,bY pI,To.trans (To.I4 (b:=1) (kvs:=bu D) (bs:=gC) (ck:=gU) ?_) (To.trans (To.fN (t':=[(0,.aR [])]) (h':=(67,.iter 1 gU (S.map fun i=>gC.getD i 0))::WT.h { now:=m,rows:=(S.map fun i=>D.getD i default).foldl (Xu m) (List.replicate 65 []),mb:=.az (bu D) false }) (n':=68) ?_ fun b=>?_) (To.eS (ex:=[(67,.iter 1 gU (S.map fun i=>gC.getD i 0))]) ⟨ry.len,oH 2 D⟩ aw aw (by simp[Qr,Qe,ah,look,aA,ay])))⟩
   ·show Qc ((67,.iter 1 gU (S.map fun i=>gC.getD i 0))::TS.h) 68 1=_;rw[Qf,aa af,AJ]
   ·exact Qp
   ·have:=fW b;show Qc ((67,.iter 1 gU (S.map fun i=>gC.getD i 0))::WT.h { now:=m,rows:=(S.map fun i=>D.getD i default).foldl (Xu m) (List.replicate 65 []),mb:=.az (bu D) false }) 68 b=Qc ((1,.az (bu D) false)::(67,.iter 1 gU (S.map fun i=>gC.getD i 0))::TS.h) 68 b;rw[Qf,Qf,Qf,this,Qf]
    (repeat' split)<;>first|rfl|omega
  ·rw[sO]at cO;have Ru:i ∉ S:=fun h=>yy (mem_map.2 ⟨i,h,rfl⟩);have aY:=Xdh D i cO;have Ly:D.getD i default ∈ D:=by simp[List.getD,cO]
   have IL:=iM _ Ly;have Rv:=mQ i;generalize hx:D.getD i default=x at *
   have eB:=Lm c.gl TS Lx x (by rw[hnS];exact Ag) IL (Rt _ (FY _ _));have sT:(S++[i]).Nodup:=by
    rw[List.nodup_append];exact ⟨sa,by simp,fun a ha b hb e=>by
     obtain rfl:=mem_singleton.1 hb;exact Ru (e ▸ ha)⟩
   have sU:∀ j ∈ S++[i],j<D.length:=fun j hj=>by
    rcases mem_append.1 hj with h|h
    ·exact uz j h
    ·obtain rfl:=mem_singleton.1 h;exact cO
   have sV:=Gd _ _ sT sU;rw[length_append]at sV;simp only[length_cons,length_nil]at sV;refine Qd @aY ?_;refine Yc ?_;refine Qa ?_;refine XH (bi:=67) (b:=1) (ck:=gU) (i:=i) (seen:=S.map fun i=>gC.getD i 0) (bs:=gC) (kvs:=bu D) rfl (by exact Qp) (by exact Qi @AJ) (by rw[sO];exact cO) ?_;refine Qd @aY ?_;refine xQ eB Lx (fun _ _=>WT.oG Lx x) bf (by simp[jR]) [(0,.ptr 0 0),(37,.ptr 67 0),(43,.ptr 0 0),(46,.agg [.int .i64 x.id,.int .i64 x.due])] [(67,.iter 1 gU ((S++[i]).map fun i=>gC.getD i 0))] 68 (To.fN (by exact Qp) fun b=>?_) (by simp[sk,jR]) ?_ (by simp[Qe,ah]) fun _ _=>?_
   ·show Qc ((67,.iter 1 gU ((S++[i]).map fun i=>gC.getD i 0))::TS.h) 68 b=Qc ((67,.iter 1 gU ((S.map fun i=>gC.getD i 0)++[gC.getD i 0]))::(67,.iter 1 gU (S.map fun i=>gC.getD i 0))::TS.h) 68 b;simp only[Qf,List.map_append,map_cons,map_nil];(repeat' split)<;>rfl
   ·exact Qp
   ·refine Qa ?_;refine ⟨S++[i],⟨sT,sU⟩,?_,?_⟩
    ·rw[eO,Rv];exact To.fN (by exact Qp) fun b=>rfl
    ·rw[length_append];simp only[length_cons,length_nil];omega
 ·rw[sO]at cO;have Ru:i ∉ S:=fun h=>yy (mem_map.2 ⟨i,h,rfl⟩);have aY:=Xdh D i cO;have Ly:D.getD i default ∈ D:=by simp[List.getD,cO]
  have IL:=iM _ Ly;have sT:(S++[i]).Nodup:=by
   rw[List.nodup_append];exact ⟨sa,by simp,fun a ha b hb e=>by
    obtain rfl:=mem_singleton.1 hb;exact Ru (e ▸ ha)⟩
  have sU:∀ j ∈ S++[i],j<D.length:=fun j hj=>by
   rcases mem_append.1 hj with h|h
   ·exact uz j h
   ·obtain rfl:=mem_singleton.1 h;exact cO
  have sV:=Gd _ _ sT sU;rw[length_append]at sV;simp only[length_cons,length_nil]at sV;refine Qd @aY ?_;refine Yc ?_;refine Qa ?_;refine XH (bi:=67) (b:=1) (ck:=ck) (i:=i) (seen:=S.map fun i=>bs.getD i 0) (bs:=bs) (kvs:=bu D) rfl (by exact Qp) (by exact Qp) (by rw[sO];exact cO) ?_;have zW:min (m:Int) ((D.getD i default).due:Int)=((min m (D.getD i default).due:Nat):Int):=by omega
  refine Qd @aY ?_;refine ⟨(S++[i],min m (D.getD i default).due),⟨sT,sU,by dsimp only;omega,fun j hj=>?_,?_⟩,To.fN (by exact Qi @zW) fun b=>?_,?_⟩
  ·dsimp only at hj ⊢;rcases mem_append.1 hj with h|h
   ·have:=Lv j h;omega
   ·obtain rfl:=mem_singleton.1 h;omega
  ·dsimp only;by_cases h:m≤(D.getD i default).due
   ·rw[Nat.min_eq_left h];exact Lw
   ·exact .inr ⟨_,Ly,by omega⟩
  ·simp only[Qf,List.map_append,map_cons,map_nil]
   (repeat' split)<;>first|rfl|omega
  ·dsimp only;rw[length_append];simp only[length_cons,length_nil];omega
def Jg (r' r:List (List Tm)):Prop:=r'.length=r.length/\∀ i,(r'.getD i []).Perm (r.getD i [])
def Jg.refl (r:List (List Tm)):Jg r r:=⟨rfl,fun _=>List.Perm.refl _⟩
def Jg.trans {a b c:List (List Tm)}(h:Jg a b)(k:Jg b c):Jg a c:=⟨h.1.trans k.1,fun i=>(h.2 i).trans (k.2 i)⟩
def Rw (r:List (List Tm))(i:Nat)(l:List Tm)(j:Nat):(r.set i l).getD j []=if j=i/\i<r.length then l else r.getD j []:=by
 by_cases hi:i<r.length
 ·rw[CY r hi];by_cases e:j=i<;>simp[e,hi]
 ·rw[List.set_eq_of_length_le af,aa af]
def Jg.set (h:Jg r' r)(i:Nat){l' l:List Tm}(hl:l'.Perm l):Jg (r'.set i l') (r.set i l):=by
 refine ⟨by simp[h.1],fun j=>?_⟩;rw[Rw,Rw,h.1];split
 ·exact hl
 ·exact h.2 j
def Jg.lay (h:Jg r' r)(n:Nat)(t:Tm):Jg (Xu n r' t) (Xu n r t):=h.set _ ((h.2 _).append_right _)
def Xol (n:Nat)(r:List (List Tm))(a b:Tm):Jg (Xu n (Xu n r a) b) (Xu n (Xu n r b) a):=by
 refine ⟨by simp[Xu],fun j=>?_⟩;unfold Xu;simp only[Rw,length_set];by_cases ha:Zt n a.due<r.length<;>by_cases hb:Zt n b.due<r.length<;>by_cases h1:j=Zt n a.due<;>by_cases h2:j=Zt n b.due<;>by_cases h3:Zt n a.due=Zt n b.due<;>simp_all<;>first|omega|(exact List.Perm.append_left _ (List.Perm.swap _ _ _))|(rw[aa (by omega),aa (by omega)])|skip
def Jg.j4 {l' l:List Tm}(hl:l'.Perm l):∀ {r' r:List (List Tm)},Jg r' r->Jg (l'.foldl (Xu n) r') (l.foldl (Xu n) r):=by
 induction hl with
 | nil=>exact fun h=>h
 | cons x h ih=>exact fun hr=>ih (hr.lay n x)
 | swap x y l =>
  intro r' r hr;have Rx:∀ (l:List Tm) {r' r:List (List Tm)},Jg r' r->Jg (l.foldl (Xu n) r') (l.foldl (Xu n) r):=fun l=>by
   induction l with
   | nil=>exact fun h=>h
   | cons t l ih=>exact fun h=>ih (h.lay n t)
  exact Rx l (((hr.lay n y).lay n x).trans (Xol n r y x))
 | trans h1 h2 Rf Rg=>exact fun hr=>(Rf hr).trans (Rg (Jg.refl _))
def Jg.d5 (h:Jg r' r)(n i:Nat):Jg (eH n r' i) (eH n r i):=Jg.j4 (h.2 i) (h.set i (List.Perm.refl _))
def Jg.step {n:Nat}:∀ (f L:Nat) {r' r:List (List Tm)},Jg r' r->Jg (Uw n f L r') (Uw n f L r)
 | 0,_,_,_,h=>h
 | f+1,L,r',r,h=>by
  unfold Uw;split
  ·exact Jg.step f (L+1) (h.d5 _ _)
  ·exact h
def Qwm:∀ {r' r:List (List Tm)},r'.length=r.length->(∀ i,(r'.getD i []).Perm (r.getD i []))->r'.flatten.Perm r.flatten
 | [],[],_,_=>List.Perm.refl _
 | a::r',b::r,hl,h=>by
  have h0:=h 0;simp only[List.getD_cons_zero]at h0;simp only[List.flatten_cons];exact h0.append (Qwm (by simpa using hl) fun i=>by have:=h (i+1);simpa only[List.getD_cons_succ] using this)
def RI.je {P:Nat->Nat->Prop}   (h:RI P r D)(hs:Jg r' r):RI P r' D :=
 ⟨hs.1.trans h.len,(Qwm hs.1 hs.2).trans h.perm,fun i hi t ht=>h.pl i hi t ((hs.2 i).mem_iff.1 ht)⟩
def Xe4:∀ (l D:List Tm),lf l D=D.filter fun t=>l.all fun x=>!(t.id==x.id)
 | [],D=>(filter_eq_self.2 fun t _=>by simp).symm
 | a::l,D=>by
  have e:lf (a::l) D=lf l (Xx a.id D):=rfl;rw[e,Xe4 l];unfold Xx;rw[filter_filter];refine filter_congr fun t _=>?_;rw[List.all_cons,Bool.and_comm]
def Xp (n:Nat)(D:List Tm):List Tm:=D.filter fun t=>!(t.due==n)
def Xxk (hd:D.Pairwise fun a b=>a.id≠b.id){a b:Tm}(ha:a ∈ D)(hb:b ∈ D)(e:a.id=b.id):a=b:=by
 induction D with
 | nil=>cases ha
 | cons x D ih =>
  have h1:=List.Pairwise.of_cons hd;have h2:=fun y hy=>List.rel_of_pairwise_cons hd (a':=y) hy;rcases mem_cons.1 ha with h3|h3<;>rcases mem_cons.1 hb with h4|h4
  ·rw[h3,h4]
  ·rw[h3]at e;exact absurd e (h2 b h4)
  ·rw[h4]at e;exact absurd e.symm (h2 a h3)
  ·exact ih h1 h3 h4
def Xp0 {D l:List Tm}  (hd:D.Pairwise fun a b=>a.id≠b.id)(hl:l.Perm (D.filter fun t=>t.due==n)):lf l D=Xp n D:=by
 rw[Xe4];unfold Xp;refine filter_congr fun t ht=>?_;have bN:∀ x,x ∈ l ↔ x ∈ D/\x.due=n:=fun x=>by rw[hl.mem_iff,mem_filter];simp
 cases h:t.due==n with
 | true =>
  have aK:t ∈ l:=(bN t).2 ⟨ht,by simpa using h⟩;simp only[Bool.not_true];rw[<- Bool.not_eq_true,List.all_eq_true];intro bl;have:=bl t aK;simp at this
 | false =>
  simp only[Bool.not_false];rw[List.all_eq_true];intro x hx;obtain ⟨h1,h2⟩:=(bN x).1 hx;have:t.id≠x.id:=fun e=>by
   have:=Xxk hd ht h1 e;subst this;simp[h2]at h
  simpa using this
def mR:Nat->Nat->List (List Tm)->List Tm->Nat->List (List Tm)×List Tm
 | 0,_,rows,D,_=>(rows,D)
 | f+1,n,rows,D,to =>
  if n=to then (rows.set (n%16) [],Xp n D)
  else if 4096<to-n\/(Xp n D).length=0 then mR f (Kr (Xp n D) to) ((Xp n D).foldl (Xu (Kr (Xp n D) to)) (List.replicate 65 [])) (Xp n D) to
  else mR f (n+1) (Uw (n+1) 4 1 (rows.set (n%16) [])) (Xp n D) to
structure WG (n:Nat)(rows:List (List Tm))(D:List Tm):Prop where
 ri:RI (Pl n) rows D
 lo:∀ t ∈ D,n<=t.due
 hi:∀ t ∈ D,t.due<=1099511627776
 dS:D.Pairwise fun a b=>a.id≠b.id
 len:D.length<=100000
def xS:(Xp n D).Sublist D:=List.filter_sublist
def AK (h:∀ t ∈ D,n<=t.due):∀ t ∈ Xp n D,n<t.due:=fun t ht=>by
 obtain ⟨h1,h2⟩:=mem_filter.1 ht;have:=h t h1;have:t.due≠n:=by simpa using h2
 omega
def WG.pJ (h:WG n rows D):RI (Pl n) (rows.set (n%16) []) (Xp n D):=h.ri.pB.2
def WG.Gh (h:WG n rows D)(hm:∀ t ∈ Xp n D,m<=t.due):WG m ((Xp n D).foldl (Xu m) (List.replicate 65 [])) (Xp n D) :=
 ⟨RI.FZ (List.Perm.refl _) hm,hm,fun t ht=>h.hi t (xS.subset ht),h.dS.sublist xS,Nat.le_trans xS.length_le h.len⟩
def WG.tick (h:WG n rows D):WG (n+1) (Uw (n+1) 4 1 (rows.set (n%16) [])) (Xp n D) :=
 ⟨h.pJ.tick (AK h.lo),AK h.lo,fun t ht=>h.hi t (xS.subset ht),h.dS.sublist xS,Nat.le_trans xS.length_le h.len⟩
def Ry (D0:List Tm)(n m:Nat)(ik:n<m)(h:∀ t ∈ D0,n<t.due->m<=t.due):Xp n (D0.filter fun t=>decide (n<=t.due))=D0.filter fun t=>decide (m<=t.due):=by
 unfold Xp;rw[filter_filter];refine filter_congr fun t ht=>?_;have:=h t ht;rw[Bool.eq_iff_iff];simp only[Bool.and_eq_true,Bool.not_eq_true',beq_eq_false_iff_ne,ne_eq,decide_eq_true_eq];omega
def Rz (D0:List Tm):∀ (f n:Nat) (rows:List (List Tm)) (D:List Tm) (to:Nat),n<=to->to-n<f->WG n rows D->D=D0.filter (fun t=>decide (n<=t.due))->(mR f n rows D to).2=D0.filter (fun t=>decide (to<t.due))/\RI (Pl to) (mR f n rows D to).1 (mR f n rows D to).2
 | 0,_,_,_,_,_,h,_,_=>by omega
 | f+1,n,rows,D,to,hn,hf,hw,hD=>by
  unfold mR;have bh:∀ m,n<m->(∀ t ∈ Xp n D,m<=t.due)->Xp n D=D0.filter fun t=>decide (m<=t.due):=fun m hm hk=>by
   rw[hD];refine Ry D0 n m hm fun t ht hlt=>?_;refine hk t ?_;rw[hD];exact mem_filter.2 ⟨mem_filter.2 ⟨ht,by simpa using Nat.le_of_lt hlt⟩,by simp;omega⟩
  split
  ·rename_i e;subst e;exact ⟨bh (n+1) af (AK hw.lo),hw.pJ⟩
  ·rename_i cb;split
   ·obtain ⟨h1,h2,h3⟩:=Gc (Xp n D) to;have hlt:n<Kr (Xp n D) to:=by
     rcases h3 with h3|⟨t,ht,h3⟩
     ·omega
     ·have:=AK hw.lo t ht;omega
    exact Rz D0 f _ _ _ to h1 af (hw.Gh h2) (bh _ hlt h2)
   ·exact Rz D0 f (n+1) _ _ to af af hw.tick (bh (n+1) af (AK hw.lo))
def Lz:∀ (f f' n:Nat) (rows:List (List Tm)) (D:List Tm) (to:Nat),n<=to->(∀ t ∈ D,n<=t.due)->to-n<f->to-n<f'->mR f n rows D to=mR f' n rows D to
 | 0,_,_,_,_,_,_,_,h,_=>by omega
 | _+1,0,_,_,_,_,_,_,_,h=>by omega
 | f+1,f'+1,n,rows,D,to,hn,fA,h1,h2=>by
  unfold mR;split
  ·rfl
  ·rename_i cb;have hk:=AK fA;split
   ·obtain ⟨g1,g2,g3⟩:=Gc (Xp n D) to;have hlt:n<Kr (Xp n D) to:=by
     rcases g3 with g3|⟨t,ht,g3⟩
     ·omega
     ·have:=hk t ht;omega
    exact Lz f f' _ _ _ to g1 g2 af af
   ·exact Lz f f' (n+1) _ _ to af hk af af
def To.RA {p:List Nat}{s:St}{T:WT}{i k:Nat}{l:List Tm}{t':List (Nat×AV)}{x:Bk}(hT:T.wf)(hi:i<65)(hl:T.row i=l)(h0:Qc s.h s.n 0=.cells (T.cells.set (i+1) .nils))(hs:∀ b,b≠0->b<67->Qc s.h s.n b=Qc T.h 67 b)
  (hf:s.fs.H s.n=.free) (hn:68<=s.n) (hk:look s.t k=.sl 2 (2+i) 0 l.length l.length) (hp:∀ b,b ∈ p->b<2) (hx:Qc s.h s.n 67=x) (AL:bV 0 x) (ht:Qr (Wp i s.n) 68 ((k,.isl l.length (aX l))::s.t) t'):To p s ⟨t',(67,x)::(T.put i []).h,68⟩:=by
 have fH:=hT.len;have aW:=WT.len hT;refine To.trans (To.jS (b:=0) (j:=i+1) (es:=2) h0 (by rw[List.getElem?_set_self af]) hf) ?_;rw[List.set_set];have da:Qc s.h (s.n+1) (2+i)=.cells (aX l):=by
  rw[Ku _ _ _ af,hs _ af af,WT.bE,aa af,aa af,am af,show 2+i-2=i by omega,hl]
 refine To.trans (To.fZ (b:=2+i) (i:=k) (cs:=aX l) (es:=2) (off:=0) (n:=l.length) (k:=l.length) ?_ hk) ?_
 ·show Qc ((0,_)::(s.n,_)::s.h) (s.n+1) (2+i)=_;rw[Qf,aa af,Qf,aa af];exact da
 have ec:((aX l).drop 0).take (l.length*2)=aX l:=by rw[List.drop_zero,List.take_of_length_le (by rw[Jt];omega)]
 rw[ec];have RB:Wp i s.n 67=67:=by unfold Wp;rw[aa af]
 refine To.put (ex:=[(67,x)]) hT hi (N:=s.n) af af (fun b hb=>by have:=hp b hb;omega) hn ?_ ?_ ?_ (fun j hj cb=>?_) ht ⟨⟨by show 67<68;omega,rq (Nat.zero_le _) AL,?_,trivial⟩,trivial⟩ (fun q hq=>by obtain rfl:=mem_singleton.1 hq;exact Nat.le_refl 67)
 ·show Qc ((2+i,_)::(0,_)::(s.n,_)::s.h) (s.n+1) 0=_;rw[Qf,aa af,Qf,am rfl];rfl
 ·show Qc ((2+i,_)::(0,_)::(s.n,_)::s.h) (s.n+1) 1=_;rw[Qf,aa af,Qf,aa af,Qf,aa af,Ku _ _ _ af,hs 1 af af,WT.bE,aa af,am rfl]
 ·show Qc ((2+i,_)::(0,_)::(s.n,_)::s.h) (s.n+1) s.n=_;rw[Qf,aa af,Qf,aa af,Qf,am rfl];rfl
 ·show Qc ((2+i,_)::(0,_)::(s.n,_)::s.h) (s.n+1) (2+j)=_;rw[Qf,aa af,Qf,aa af,Qf,aa af,Ku _ _ _ af,hs _ af af,WT.bE,aa af,aa af,am af,show 2+j-2=j by omega]
 ·show Qc ((2+i,_)::(0,_)::(s.n,_)::s.h) (s.n+1) (Wp i s.n 67)=_;rw[RB,Qf,aa af,Qf,aa af,Qf,aa af,Ku _ _ _ af,hx];exact (Lj (fun b hb=>by omega) AL).symm
def WT.l0 (T:WT)(n:Nat):Qc T.h n 0=.cells T.cells:=by rw[WT.bE,am rfl]
def WT.l1 (T:WT)(n:Nat):Qc T.h n 1=T.mb:=by rw[WT.bE,aa (by omega),am rfl]
def Uz (n:Nat)(l:List Int):ah n (Ql l)=True:=by simp[Xh,Ql,Qe]
def Qws (D:List Tm)(n:Nat):(a6 D n).length<=D.length:=by
 unfold a6;rw[List.length_map,(Ks _).length_eq];exact List.length_filter_le _ _
def Ygi {T':WT}   {mb:Bk}(h1:T'.now=n)(h2:Jg T'.rows rows)(h3:T'.mb=mb):T'.je { now:=n,rows:=rows,mb:=mb }:=⟨h1,h3,h2.1,h2.2⟩
set_option maxRecDepth 20000 in
def Ybr (T:WT)(ko:List (List Tm))(D0:List Tm)(dn:Bool)(mS:Jg T.rows ko)(eG:T.mb=.az (bu D0) dn)(hW:WG T.now ko D0)(to:Nat)(jf:T.now<=to)(RC:to<=1099511627776) :
  GQ Tryz.prog gl 98 [.ptr 0 0,.int .i64 to] T.h 67 [0,1] (fun T':WT=>T'.je { now:=to,rows:=(mR (to - T.now + 1) T.now ko D0 to).1,mb:=.az (bu (mR (to - T.now + 1) T.now ko D0 to).2) false })
   (fun _=>.aR [.isl (a6 D0 (to+1)).length (Ql (a6 D0 (to+1))),.int .i64 0]) WT.h:=by
 have hlen:T.rows.length=65:=mS.1.trans hW.ri.len;have hT:=vX hlen eG;refine Ra.gq (ap rfl) (fun q hq=>Xb (((WT.as hT).mem q hq).2)) aw fun c bf hg=>?_
 conv in aG _ _=>cbv
 have aZ:=WT.aZ hT;have qF:=WT.l0 T;have g0:=WT.iI T;have aW:=WT.len hT;generalize bY:mR (to-T.now+1) T.now ko D0 to=fin;refine Qa ?_;refine Yc ?_;refine Qd (An @qF @g0) ?_;refine Qb ?_ ?_<;>intro h2
 ·omega
 refine Qa ?_;refine vn 6 1 rfl (by exact Qi @aZ) ?_;unfold St.named
 refine Yk (fun y:WT × List (List Tm) × List Tm × Bool=>Jg y.1.rows y.2.1∧y.1.mb=.az (bu y.2.2.1) y.2.2.2∧WG y.1.now y.2.1 y.2.2.1∧y.1.now≤to∧T.now≤y.1.now∧mR (to - y.1.now + 1) y.1.now y.2.1 y.2.2.1 to=fin∧y.2.2.1=D0.filter fun t=>decide (y.1.now≤t.due))
  (fun y=>⟨[(0,.ptr 0 0),(1,.int .i64 to),(6,.sl 1 67 0 (a6 D0 y.1.now).length (a6 D0 y.1.now).length)],(67,.cells (Ql (a6 D0 y.1.now)))::y.1.h,68⟩) (fun y=>to-y.1.now) Ra.mixed [0,1] bf
  ⟨(T,ko,D0,dn),⟨mS,eG,hW,jf,Nat.le_refl _,bY,(filter_eq_self.2 fun t ht=>by simpa using hW.lo t ht).symm⟩,?_⟩ fun y hy=>?_
 ·have e:a6 D0 T.now=[]:=Xto D0 _ hW.lo;dsimp only;rw[e];exact To.fN (by exact Qp) fun b=>rfl
 obtain ⟨T1,rows,D,dn1⟩:=y;obtain ⟨iZ,lG,dO,hnt,pG,zF,xT⟩:=hy;dsimp only at iZ lG dO hnt pG zF xT ⊢;have pK:T1.rows.length=65:=iZ.1.trans dO.ri.len;have cQ:=vX pK lG;have Gi:=WT.aZ cQ;have v7:=WT.l0 T1;have AM:=WT.iI T1;have iF:=WT.len cQ;have sN:T1.now%16<16:=Nat.mod_lt _ af;have hm:Int.tmod (T1.now:Int) 16=((T1.now%16:Nat):Int):=AB _ 16;have aY:=WT.iJ cQ (i:=T1.now%16) af;have v8:=dO.ri.je iZ;have sW:(T1.row (T1.now%16)).Perm (D.filter fun t=>t.due==T1.now):=(v8.pB).1;have ft:=Xp0 dO.dS sW;have fH:(T1.row (T1.now%16)).length<=100000:=Nat.le_trans (v8.im af) dO.len;have ax:=Xsj D0 T1.now (T1.row (T1.now%16)) (by
  rw[xT,filter_filter]at sW;refine sW.trans (List.Perm.of_eq (filter_congr fun t _=>?_));rw[Bool.eq_iff_iff];simp;omega)
 have qU:=Qws D0 T1.now;have v6a:=Qws D0 (T1.now+1);have hDl:=hW.len;have pf:WT.put T1 (T1.now%16) []={ T1 with rows:=T1.rows.set (T1.now%16) [] }:=rfl;have yG:Jg (T1.rows.set (T1.now%16) []) (rows.set (T1.now%16) []):=iZ.set _ (List.Perm.refl _);have Gj:(vR (ids (T1.row (T1.now%16)))).length=(T1.row (T1.now%16)).length:=by simp[vR,ids]
 generalize sB:T1.row (T1.now%16)=l at *
 have sX:=Xwa c.gl (T1.put (T1.now%16) []) D l dn1 (by simp[WT.put,pK]) lG dO.dS af;rw[ft]at sX;have hwp:=WT.cI cQ (T1.now%16) [];rw[show T1.now%16+1=1+T1.now%16 by omega]at aY;refine Qd (An @Gi (An @v7 (An @AM (An @hm @aY)))) ?_;have AN:Xp T1.now D=D0.filter fun t=>decide (T1.now+1<=t.due):=by
  rw[xT];exact Ry D0 _ _ af fun t _ h=>h
 have dV:WT.wf { T1 with rows:=T1.rows.set (T1.now%16) [],mb:=.az (bu (Xp T1.now D)) false }:=⟨by simp[pK],oH 2 _⟩
 have Gk:a6 D0 T1.now++vR (ids l)=a6 D0 (T1.now+1):=ax.symm;have AO:(a6 D0 T1.now).length+l.length=(a6 D0 (T1.now+1)).length:=by rw[<- Gk,length_append,Gj]
 have RD:=Xw (a6 D0 T1.now);have RE:=Xw (vR (ids l))
 refine xQ (W:=fun _:Unit=>{ T1 with rows:=T1.rows.set (T1.now % 16) [],mb:=.az (bu (Xp T1.now D)) false }) sX hwp (fun _ _=>dV) bf (by simp[jR]) [(0,.ptr 0 0),(1,.int .i64 to),(36,.sl 1 67 0 (a6 D0 T1.now).length (a6 D0 T1.now).length),(37,.ptr 0 0),(38,.isl l.length (aX l))] [(67,.cells (Ql (a6 D0 T1.now)))] 68
  (To.RA (k:=38) cQ (i:=T1.now%16) af sB ?_ (fun b h1 h2=>?_) ?_ (by show 68<=68;omega) ?_ aw rfl ?_ ?_) (by simp[sk,jR,ED,Ql,dj]) ?_ (by simp[Qe,Uz]) fun _ _=>?_
 ·show Qc ((0,_)::_) 68 0=_;rw[Qf,am rfl,show 1+T1.now%16=T1.now%16+1 by omega]
 ·show Qc ((0,_)::(67,_)::T1.h) 68 b=_;rw[Qf,aa af,Qf,aa af,WT.bE,WT.bE]
  (repeat' split)<;>first|rfl|omega
 ·exact Qi @Gi
 ·exact Qp
 ·exact Xh.2 fun x hx=>by
   obtain ⟨n,_,rfl⟩:=mem_map.1 hx;simp[Qe]
 ·have h1:=C2 (Wp (T1.now % 16) 68) l;have kE:=C0 68 l;have cG:Wp (T1.now % 16) 68 67=67:=by unfold Wp;rw[aa af]
  exact Qi (An @h1 (An @kE @cG))
 ·exact Qp
 clear sX;generalize kS:({ T1 with rows:=T1.rows.set (T1.now%16) [],mb:=.az (bu (Xp T1.now D)) false }:WT)=T2 at *
 have sY:=WT.aZ dV;have Gl:=WT.l0 T2;have Gm:=WT.l1 T2;have lH:T2.mb=.az (bu (Xp T1.now D)) false:=by rw[<- kS]
 rw[lH]at Gm;have kU:T2.now=T1.now:=by rw[<- kS]
 have LA:Jg T2.rows (rows.set (T1.now%16) []):=by rw[<- kS];exact yG
 have RF:=WT.iI T2;rw[kU]at RF;have RG:=WT.eR dV;have wa:=WT.len dV;have fY:=sO (Xp T1.now D);refine Qa ?_;refine Ym (An @sY (An @RD (An @RE (An @Gk (An @AO (An @Gj (An @Gl @RF))))))) ?_;have jO:∀ {f:Nat},to-T1.now+1=f+1->mR (f+1) T1.now rows D to=fin:=fun e=>by rw[<- e];exact zF
 have iP:=jO (f:=to-T1.now) rfl;unfold mR at iP;refine Qb ?_ ?_<;>intro h3
 ·have e:T1.now=to:=by omega
  rw[am e]at iP;subst e;refine Qa ?_;refine ⟨T2,?_,(To.OF (b:=68) (i:=0) rfl rfl).trans (To.eS (ex:=[(68,.dead),(68,.cells (Ql (a6 D0 (T1.now+1)))),(67,.dead),(67,.cells (Ql (a6 D0 T1.now)))]) dV aw aw ?_)⟩
  ·rw[<- iP];exact Ygi kU LA lH
  ·have aL:((Ql (a6 D0 (T1.now+1))).drop 0).take ((a6 D0 (T1.now+1)).length*1)=Ql (a6 D0 (T1.now+1)):=by
    rw[List.drop_zero,List.take_of_length_le (by rw[Nat.mul_one];simp[Ql])]
   rw[aL];have h2:∀ q,ay id (Ql q)=Ql q:=fun q=>sm _;exact Qi (An @Uz @h2)
 have cb:¬ T1.now=to:=by omega
 rw[aa cb]at iP;have Gn:=Nat.le_trans (xS (n:=T1.now) (D:=D)).length_le dO.len;have hd2:∀ t ∈ Xp T1.now D,t.due<=1099511627776:=fun t ht=>dO.hi t (xS.subset ht);have AP:=AK dO.lo;refine Qd (An @Gl (An @RF (An @Gm (An @RG @fY)))) ?_;refine Qb ?_ ?_<;>intro h4
 ·rw[am (by rcases h4 with h4|h4<;>omega)]at iP;have Gp:=Xxw c.gl T2 (Xp T1.now D) false (by rw[<- kS];simp[pK]) lH Gn hd2 to RC;obtain ⟨q1,q2,q3⟩:=Gc (Xp T1.now D) to;have hlt:T1.now<Kr (Xp T1.now D) to:=by
   rcases q3 with q3|⟨t,ht,q3⟩
   ·omega
   ·have:=AP t ht;omega
  have tN:=dO.Gh q2;have nz:=Xmm D0 (n:=T1.now+1) (m:=Kr (Xp T1.now D) to) af fun t ht h=>q2 t (by rw[AN];exact mem_filter.2 ⟨ht,by simpa using h⟩);have hD3:Xp T1.now D=D0.filter fun t=>decide (Kr (Xp T1.now D) to<=t.due):=by
   have:=Ry D0 T1.now (Kr (Xp T1.now D) to) hlt fun t ht h=>q2 t (by rw[AN];exact mem_filter.2 ⟨ht,decide_eq_true h⟩);rw[<- xT]at this;exact this
  have Fy:∀ x:WT,x.AH (Xp T1.now D) (Kr (Xp T1.now D) to)->x.wf:=fun x ⟨l,_,e⟩=>by
   subst e;exact ⟨(RI.j4 (P:=fun _ _=>True) (now:=Kr (Xp T1.now D) to) l (rows:=List.replicate 65 []) (D:=[]) ⟨by simp,by simp,fun _ _ _ _=>trivial⟩ fun _ _=>trivial).len,oH 2 _⟩
  rw[Lz _ (to-Kr (Xp T1.now D) to+1) _ _ _ to q1 q2 af af]at iP;refine Qa ?_;refine xQ (W:=fun x:WT=>x) Gp dV Fy bf (by simp[jR]) [(0,.ptr 0 0),(1,.int .i64 to),(6,.sl 1 68 0 (a6 D0 (T1.now+1)).length (a6 D0 (T1.now+1)).length),(63,.ptr 0 0),(64,.int .i64 to)] [(68,.cells (Ql (a6 D0 (T1.now+1))))] 69 (To.fN (by exact Qp) fun b=>?_) (by simp[sk,jR,ED,Ql,dj]) ?_ (by simp[Qe,ah]) fun T3 h3=>?_
  ·show Qc ((68,_)::T2.h) 69 b=Qc ((68,.cells (Ql (a6 D0 (T1.now + 1))))::(67,.dead)::(67,.cells (Ql (a6 D0 T1.now)))::T2.h) 69 b;simp only[Qf]
   (repeat' split)<;>first|rfl|omega|(subst_vars;rw[sY 69 67 (by omega)];rfl)
  ·exact Qp
  obtain ⟨l3,p3,rfl⟩:=h3;refine Qa ?_;refine ⟨({ now:=Kr (Xp T1.now D) to,rows:=l3.foldl (Xu (Kr (Xp T1.now D) to)) (List.replicate 65 []),mb:=.az (bu (Xp T1.now D)) false },(Xp T1.now D).foldl (Xu (Kr (Xp T1.now D) to)) (List.replicate 65 []),Xp T1.now D,false),⟨Jg.j4 p3 (Jg.refl _),rfl,tN,q1,by dsimp only;omega,iP,hD3⟩,?_,by dsimp only;omega⟩;dsimp only;rw[nz];refine To.Rm (ex:=[(67,.cells (Ql (a6 D0 (T1.now+1))))]) [(67,68)] (Fy _ ⟨l3,p3,rfl⟩) aw af rfl rfl (fun b hb=>?_) ?_ ?_ aw
  ·show Qc ((68,_)::WT.h _) 69 b=_;rw[Qf,aa af,WT.bE,WT.bE]
   (repeat' split)<;>first|rfl|omega
  ·exact Qp
  ·exact Qi @Uz
 ·rw[aa af]at iP;have fe:T2.rows.flatten.Perm (Xp T1.now D):=(dO.pJ.je LA).perm;have mQ:=Xxg c.gl T2 (Xp T1.now D) dV fe Gn hd2 af;have hws:T2.vY.wf:=⟨((dO.pJ.je LA).tick AP |>.len:(Uw (T1.now + 1) 4 1 T2.rows).length=65) |> fun h=>by unfold WT.vY;rw[kU];exact h,dV.mb⟩
  have hWt:=dO.tick;rw[Lz _ (to-(T1.now+1)+1) _ _ _ to af AP af af]at iP;refine Qa ?_;refine xQ (W:=fun _:Unit=>T2.vY) mQ dV (fun _ _=>hws) bf (by simp[jR]) [(0,.ptr 0 0),(1,.int .i64 to),(6,.sl 1 68 0 (a6 D0 (T1.now+1)).length (a6 D0 (T1.now+1)).length),(66,.ptr 0 0)] [(68,.cells (Ql (a6 D0 (T1.now+1))))] 69 (To.fN (by exact Qp) fun b=>?_) (by simp[sk,jR,ED,Ql,dj]) ?_ (by simp[Qe,ah]) fun _ _=>?_
  ·show Qc ((68,_)::T2.h) 69 b=Qc ((68,.cells (Ql (a6 D0 (T1.now + 1))))::(67,.dead)::(67,.cells (Ql (a6 D0 T1.now)))::T2.h) 69 b;simp only[Qf]
   (repeat' split)<;>first|rfl|omega|(subst_vars;rw[sY 69 67 (by omega)];rfl)
  ·exact Qp
  refine Qa ?_;have hsn:T2.vY.now=T1.now+1:=by unfold WT.vY;rw[kU]
  refine ⟨(T2.vY,Uw (T1.now+1) 4 1 (rows.set (T1.now%16) []),Xp T1.now D,false),⟨?_,lH,by dsimp only;rw[hsn];exact hWt,by dsimp only;omega,by dsimp only;omega,by dsimp only;rw[hsn];exact iP,by dsimp only;rw[hsn];exact AN⟩,?_,by dsimp only;omega⟩
  ·show Jg (Uw (T2.now+1) 4 1 T2.rows) _;rw[kU];exact LA.step 4 1
  dsimp only;rw[hsn];refine To.Rm (ex:=[(67,.cells (Ql (a6 D0 (T1.now+1))))]) [(67,68)] hws aw af rfl rfl (fun b hb=>?_) ?_ ?_ aw
  ·show Qc ((68,_)::WT.h _) 69 b=_;rw[Qf,aa af,WT.bE,WT.bE]
   (repeat' split)<;>first|rfl|omega
  ·exact Qp
  ·exact Qi @Uz
def Xab (T:WT)(D:List Tm)(dn:Bool)(hlen:T.rows.length=65)(eG:T.mb=.az (bu D) dn)(x:Int)(hx:km D x=false) :
  GQ Tryz.prog gl 164 [.ptr 0 0,.int .i64 x] T.h 67 [0,1] (fun _:Unit=>True) (fun _=>.int .i64 7) (fun _=>T.h):=by
 have hT:=vX hlen eG;refine Li.gq (ap rfl) (fun q hq=>Xb (((WT.as hT).mem q hq).2)) aw fun c bf hg=>?_
 conv in aG _ _=>cbv
 have aZ:=WT.aZ hT;have qF:=WT.l0 T;have mG:=WT.l1 T;rw[eG]at mG;have lN:=WT.eR hT;have aW:=WT.len hT;have ei:=C5 D;have eY:=sP x;have AD:=Lp D x;have fJ:=Lq D x;refine Qd @aZ ?_;refine Yc ?_;refine Qd (An @aZ (An @qF @lN)) ?_;refine Up sL (An @aZ (An @mG (An @ei (An @eY (An @fJ (An @AD @hx)))))) ?_;refine Yc ?_;refine Qa ?_;refine ⟨(),To.eS (ex:=[(67,.cells [.int .i64 x])]) hT aw aw (by simp[Qr,Qe,look,aA])⟩
def Ybv (T:WT)(hT:T.wf):GQ Tryz.prog gl 63 [.ptr 0 0] T.h 67 (List.range 67) (fun _:Unit=>True) (fun _=>.int .i64 T.now) (fun _=>T.h):=by
 refine Ydd.gq (ap rfl) (fun q hq=>Xb (((WT.as hT).mem q hq).2)) (fun b hb=>mem_range.1 hb) fun c bf hg=>?_
 conv in aG _ _=>cbv
 have qF:=WT.l0 T;have g0:=WT.iI T;have aW:=WT.len hT;refine Qa ?_;refine Yc ?_;refine Qd (An @qF @g0) ?_;exact ⟨(),To.eS (ex:=[]) hT (fun b hb=>mem_range.1 hb) aw (by simp[Qr,Qe,look,aA])⟩
def Ur (D:List Tm)(x:Int)(d:Nat):List Tm:=Xx x D++[⟨x,d⟩]
def WT.arm (T:WT)(D:List Tm)(x:Int)(d:Nat):WT:={ T with rows:=Xu T.now (T.rows.map (Xx x)) ⟨x,d⟩,mb:=.az (bu (Ur D x d)) false }
def Xko {x:Int}(h:km D x=false):∀ t ∈ D,t.id≠x:=fun t ht e=>by
 unfold km at h;rw[List.any_eq_false]at h;exact h t ht (by simpa using e)
def Xeo {x:Int}:∀ t ∈ Xx x D,t.id≠x:=fun t ht=>by simpa using (mem_filter.1 ht).2
def Qwn {x:Int}(h:∀ t ∈ rows.flatten,t.id≠x):rows.map (Xx x)=rows:=by
 refine (map_congr_left fun r hr=>?_).trans (map_id rows);exact Lr fun t ht=>h t (List.mem_flatten.2 ⟨r,hr,ht⟩)
def WT.rz (T:WT)(D:List Tm)(dn:Bool)(x:Int):WT:={ T with rows:=T.rows.map (Xx x),mb:=.az (bu (Xx x D)) (!km D x&&dn) }
def RH (D:List Tm)(x:Int):Int:=bif km D x then 0 else 7
def Xch (T:WT)(D:List Tm)(dn:Bool)(hlen:T.rows.length=65)(eG:T.mb=.az (bu D) dn)(hd:D.Pairwise fun a b=>a.id≠b.id)(hp:T.rows.flatten.Perm D)(fH:∀ i,(T.row i).length<=1000000)(x:Int) :
  GQ Tryz.prog gl 164 [.ptr 0 0,.int .i64 x] T.h 67 [0,1] (fun _:Unit=>True) (fun _=>.int .i64 (RH D x)) (fun _=>(T.rz D dn x).h):=by
 cases hx:km D x with
 | true =>
  have:=Xid gl T D dn hlen eG hd fH x hx;unfold WT.rz RH;rw[hx];exact this
 | false =>
  have:=Xab gl T D dn hlen eG x hx;have br:=Xko hx;have e:T.rz D dn x=T:=by
   unfold WT.rz;rw[hx,Qwn fun t ht=>br t (hp.mem_iff.1 ht),Lr br];show ({ T with mb:=.az (bu D) dn }:WT)=T;rw[<- eG]
  rw[e];unfold RH;rw[hx];exact this
def Ya1 (T:WT)(D:List Tm)(dn:Bool)(hlen:T.rows.length=65)(eG:T.mb=.az (bu D) dn)(hd:D.Pairwise fun a b=>a.id≠b.id)(hp:T.rows.flatten.Perm D)(hD:D.length<=100000)(hn:T.now<=1099511627776)(x:Int)(d:Nat)(hdm:d<=1099511627776)(cx:km D x=true\/D.length<400) :
  GQ Tryz.prog gl 131 [.ptr 0 0,.int .i64 x,.int .i64 d] T.h 67 [0,1] (fun _:Unit=>True) (fun _=>.int .i64 0) (fun _=>(T.arm D x (max d T.now)).h):=by
 have hT:=vX hlen eG;refine Q9.gq (ap rfl) (fun q hq=>Xb (((WT.as hT).mem q hq).2)) aw fun c bf hg=>?_
 conv in aG _ _=>cbv
 have aZ:=WT.aZ hT;have qF:=WT.l0 T;have mG:=WT.l1 T;rw[eG]at mG;have lN:=WT.eR hT;have aW:=WT.len hT;have ei:=C5 D;have eY:=sP x;have AD:=Lp D x;have fJ:=Lq D x;have fY:=sO D;have hri:RI (fun _ _=>True) T.rows D:=RI.T hlen hp;have fH:∀ i,(T.row i).length<=1000000:=fun i=>by
  by_cases hi:i<65
  ·exact Nat.le_trans (hri.im hi) af
  ·have:T.row i=[]:=by unfold WT.row;simp[List.getD,hlen,show 65≤i by omega]
   rw[this];simp
 refine Qa ?_;refine Yc ?_;refine Qa ?_;refine Qb ?_ ?_<;>intro h2
 ·omega
 refine Qd (An @qF @lN) ?_;refine Up sL (An @mG (An @ei (An @eY (An @fJ (An @AD (An @qF (An @lN @fY))))))) ?_;refine Qb ?_ ?_<;>intro h3
 ·rcases cx with h|h
  ·rw[h]at h3;simp at h3
  ·omega
 refine Qa ?_;have lP:=Xch c.gl T D dn hlen eG hd hp fH x;have fM:(T.rz D dn x).wf:=⟨by simp[WT.rz,hlen],oH 2 _⟩
 have lG:(T.rz D dn x).mb=.az (bu (Xx x D)) (!km D x&&dn):=rfl;have mE:(T.rz D dn x).now=T.now:=rfl;have v8:=hri.filter fun t=>!(t.id==x);have qD:∀ i,i<65->((T.rz D dn x).row i).length<=1000000:=fun i hi=>by
  have:=v8.im hi;have h2:=List.length_filter_le (fun t:Tm=>!(t.id==x)) D;exact Nat.le_trans this af
 have iu:∀ m,WT.lay { T.rz D dn x with mb:=.az (bu (Ur D x m)) false } ⟨x,m⟩=T.arm D x m:=fun m=>rfl;refine xQ (W:=fun _:Unit=>T.rz D dn x) lP hT (fun _ _=>fM) bf (by simp[jR]) [(36,.ptr 0 0),(37,.int .i64 x),(0,.ptr 0 0),(1,.int .i64 x),(2,.int .i64 d)] [] 67 (To.fN (by exact Qp) fun b=>rfl) aw ?_ (by simp[Qe]) fun _ _=>?_
 ·exact Qp
 generalize cQ:T.rz D dn x=T1 at *
 have v7:=WT.l0 T1;have AQ:=WT.l1 T1;rw[lG]at AQ;have AM:=WT.iI T1;rw[mE]at AM;have Gq:=WT.eR fM;have iF:=WT.len fM;have Gr:=C5 (Xx x D);obtain ⟨M,hM,hMv,ep⟩:∃ M,max d T.now=M/\M<=1099511627776/\((((T.now:Int)>(d:Int))=True/\M=T.now)\/(((T.now:Int)>(d:Int))=False/\M=d)):=⟨_,rfl,by omega,by
  by_cases h:d<T.now
  ·left;exact ⟨eq_true af,by omega⟩
  ·right;exact ⟨eq_false af,by omega⟩⟩
 rw[hM];have mT:=Xve (Xeo (D:=D) (x:=x)) M;have sZ:=hMv;rcases ep with ⟨ep,LB⟩|⟨ep,LB⟩
 ·have AM:T1.cells.getD 0 .any=.int .i64 (M:Int):=by rw[AM,LB]
  rw[<- LB]at ep;refine Qd (An @v7 (An @AM (An @Gq @ep))) ?_;refine xj sL (An @AQ (An @Gr (An @eY @mT))) ?_;have dV:WT.wf { T1 with mb:=.az (bu (Ur D x M)) false }:=⟨fM.len,oH 2 _⟩
  have eO:=Lm c.gl { T1 with mb:=.az (bu (Ur D x M)) false } dV ⟨x,M⟩ (by show T1.now<=_;omega) sZ (qD _ (FY _ _));rw[iu]at eO;have Gs:(T.arm D x M).wf:=⟨by simp[WT.arm,Xu,hlen],oH 2 _⟩
  refine xQ (W:=fun _:Unit=>T.arm D x M) eO dV (fun _ _=>Gs) bf (by simp[jR]) [(51,.ptr 0 0),(54,.agg [.int .i64 x,.int .i64 (M:Int)])] [] 67 (To.trans (To.gI (b:=1) (kvs:=bu (Ur D x M)) (dn:=!km D x&&dn) rfl) (To.fN (by exact Qp) fun b=>?_)) aw ?_ (by simp[Qe,ah]) fun _ _=>?_
  ·have AI:WT.cells { T1 with mb:=.az (bu (Ur D x M)) false }=T1.cells:=rfl;show Qc (WT.h { T1 with mb:=.az (bu (Ur D x M)) false }) 67 b=Qc ((1,.az (bu (Ur D x M)) false)::(1,_)::T1.h) 67 b;simp only[Qf,WT.bE,AI]
   (repeat' split)<;>first|rfl|omega
  ·exact Qp
  refine Qa ?_;exact ⟨(),To.eS (ex:=[]) Gs aw aw (by simp[Qr,Qe,look,aA])⟩
 ·subst LB;refine Qd (An @v7 (An @AM (An @Gq @ep))) ?_;refine xj sL (An @AQ (An @Gr (An @eY @mT))) ?_;have dV:WT.wf { T1 with mb:=.az (bu (Ur D x M)) false }:=⟨fM.len,oH 2 _⟩
  have eO:=Lm c.gl { T1 with mb:=.az (bu (Ur D x M)) false } dV ⟨x,M⟩ (by show T1.now<=_;omega) sZ (qD _ (FY _ _));rw[iu]at eO;have Gs:(T.arm D x M).wf:=⟨by simp[WT.arm,Xu,hlen],oH 2 _⟩
  refine xQ (W:=fun _:Unit=>T.arm D x M) eO dV (fun _ _=>Gs) bf (by simp[jR]) [(51,.ptr 0 0),(54,.agg [.int .i64 x,.int .i64 (M:Int)])] [] 67 (To.trans (To.gI (b:=1) (kvs:=bu (Ur D x M)) (dn:=!km D x&&dn) rfl) (To.fN (by exact Qp) fun b=>?_)) aw ?_ (by simp[Qe,ah]) fun _ _=>?_
  ·have AI:WT.cells { T1 with mb:=.az (bu (Ur D x M)) false }=T1.cells:=rfl;show Qc (WT.h { T1 with mb:=.az (bu (Ur D x M)) false }) 67 b=Qc ((1,.az (bu (Ur D x M)) false)::(1,_)::T1.h) 67 b;simp only[Qf,WT.bE,AI]
   (repeat' split)<;>first|rfl|omega
  ·exact Qp
  refine Qa ?_;exact ⟨(),To.eS (ex:=[]) Gs aw aw (by simp[Qr,Qe,look,aA])⟩
def Xkf (T:WT)(hT:T.wf)(x d:Int)(hd:d<0\/1099511627776<d):GQ Tryz.prog gl 131 [.ptr 0 0,.int .i64 x,.int .i64 d] T.h 67 [0,1] (fun _:Unit=>True) (fun _=>.int .i64 2) (fun _=>T.h):=by
 refine Q9.gq (ap rfl) (fun q hq=>Xb (((WT.as hT).mem q hq).2)) aw fun c bf hg=>?_
 conv in aG _ _=>cbv
 refine Qa ?_;refine Yc ?_;refine Qa ?_;refine Qb ?_ ?_<;>intro h2
 ·refine Qa ?_;exact ⟨(),To.eS (ex:=[]) hT aw aw (by simp[Qr,Qe,look,aA])⟩
 ·omega
def Xpc (T:WT)(D:List Tm)(dn:Bool)(hlen:T.rows.length=65)(eG:T.mb=.az (bu D) dn)(x d:Int)(hd:0<=d)(hdm:d<=1099511627776)(hx:km D x=false)(hD:400<=D.length):GQ Tryz.prog gl 131 [.ptr 0 0,.int .i64 x,.int .i64 d] T.h 67 [0,1] (fun _:Unit=>True) (fun _=>.int .i64 6) (fun _=>T.h):=by
 have hT:=vX hlen eG;refine Q9.gq (ap rfl) (fun q hq=>Xb (((WT.as hT).mem q hq).2)) aw fun c bf hg=>?_
 conv in aG _ _=>cbv
 have qF:=WT.l0 T;have mG:=WT.l1 T;rw[eG]at mG;have lN:=WT.eR hT;have aW:=WT.len hT;have ei:=C5 D;have eY:=sP x;have AD:=Lp D x;have fJ:=Lq D x;have fY:=sO D;refine Qa ?_;refine Yc ?_;refine Qa ?_;refine Qb ?_ ?_<;>intro h2
 ·omega
 refine Qd (An @qF @lN) ?_;refine Up sL (An @mG (An @ei (An @eY (An @fJ (An @AD (An @qF (An @lN @fY))))))) ?_;refine Qb ?_ ?_<;>intro h3
 ·refine Qa ?_;exact ⟨(),To.eS (ex:=[]) hT aw aw (by simp[Qr,Qe,look,aA])⟩
 ·rw[hx]at h3;simp at h3;omega
def Xgy (T:WT)(hT:T.wf)(d:Int)(hd:d<T.now\/1099511627776<d):GQ Tryz.prog gl 98 [.ptr 0 0,.int .i64 d] T.h 67 [0,1] (fun _:Unit=>True) (fun _=>.aR [.nils,.int .i64 2]) (fun _=>T.h):=by
 refine Ra.gq (ap rfl) (fun q hq=>Xb (((WT.as hT).mem q hq).2)) aw fun c bf hg=>?_
 conv in aG _ _=>cbv
 have qF:=WT.l0 T;have g0:=WT.iI T;have aW:=WT.len hT;refine Qa ?_;refine Yc ?_;refine Qd (An @qF @g0) ?_;refine Qb ?_ ?_<;>intro h2
 ·refine Qa ?_;exact ⟨(),To.eS (ex:=[]) hT aw aw (by simp[Qr,Qe,ah,look,aA,ay])⟩
 ·omega
def GQ.pL {gl:Nat->AV}  {args:List AV}    {r:AV}{T2:WT}{Q:WT->Prop}(h:GQ P gl f args aK m p (fun _:Unit=>True) (fun _=>r) (fun _=>T2.h))(hQ:Q T2):GQ P gl f args aK m p Q (fun _=>r) WT.h :=
 ⟨h.1,fun w vs G X g hR hv=>(h.2 w vs G X g hR hv).mono fun e w' ⟨_,v,g',q1,q2,q3,q4,q5⟩=>⟨T2,v,g',hQ,q2,q3,q4,q5⟩⟩
def GQ.wk {gl:Nat->AV}  {args:List AV}    {ι:Type}{Q:ι->Prop}{r r':ι->AV}{ax:ι->List (Nat×Bk)}(h:GQ P gl f args aK m p Q r ax)(hr:∀ x,Wk (r x) (r' x)):GQ P gl f args aK m p Q r' ax :=
 ⟨h.1,fun w vs G X g hR hv=>(h.2 w vs G X g hR hv).mono fun e w' ⟨x,v,g',q1,q2,q3,q4,q5⟩=>⟨x,v,g',q1,q2,q3,q4,hr x _ _ _ _ q5⟩⟩
structure WI (T:WT)(n:Nat)(D:List Tm):Prop where
 now:T.now=n
 mb:∃ dn,T.mb=.az (bu D) dn
 wg:WG n T.rows D
 cap:D.length<=400
 hi:n<=1099511627776
def WI.wf {T:WT}   (h:WI T n D):T.wf:=by
 obtain ⟨dn,e⟩:=h.mb;exact vX h.wg.ri.len e
def WI.je {T T':WT}   (h:WI T n D)(hs:T'.je T):WI T' n D :=
 ⟨hs.now.trans h.now,by obtain ⟨dn,e⟩:=h.mb;exact ⟨dn,hs.mb.trans e⟩,⟨h.wg.ri.je ⟨hs.len,hs.row⟩,h.wg.lo,h.wg.hi,h.wg.dS,h.wg.len⟩,h.cap,h.hi⟩
def WI.iv {T:WT}   (h:WI T n D)(gl:Nat->AV):GD Tryz.prog gl 63 [.ptr 0 0] T.hb 67 (List.range 67) (.int .i64 n) T.hb :=
 C4 fun T' hs=>by
  have:=Ybv gl T' (h.je hs).wf;rw[(h.je hs).now]at this;exact this.pL hs
def Xvc (h:Jg r' r)(x:Int):Jg (r'.map (Xx x)) (r.map (Xx x)):=by
 refine ⟨by simp[h.1],fun i=>?_⟩;have e:∀ l:List (List Tm),(l.map (Xx x)).getD i []=Xx x (l.getD i []):=fun l=>by
  simp only[List.getD,List.getElem?_map];cases l[i]?<;>rfl
 rw[e,e];exact (h.2 i).filter _
def Xwg (x:Int)(D:List Tm):(Xx x D).length<=D.length:=List.length_filter_le _ _
def AR (n:Nat)(D:List Tm)(x d:Int):Int×List Tm:=if d<0\/1099511627776<d then (2,D) else if km D x=false/\400<=D.length then (6,D) else (0,Ur D x (max d.toNat n))
def Xnp (D:List Tm)(x:Int)(d:Nat):((⟨x,d⟩:Tm)::Xx x D).Perm (Ur D x d):=(List.perm_append_singleton _ _).symm
def WI.tc {T:WT}   (h:WI T n D)(gl:Nat->AV)(x d:Int):∃ T',WI T' n (AR n D x d).2/\GD Tryz.prog gl 131 [.ptr 0 0,.int .i64 x,.int .i64 d] T.hb 67 [0,1] (.int .i64 (AR n D x d).1) T'.hb:=by
 unfold AR;by_cases h1:d<0\/1099511627776<d
 ·rw[am h1];exact ⟨T,h,C4 fun T' hs=>(Xkf gl T' (h.je hs).wf x d h1).pL hs⟩
 rw[aa h1];obtain ⟨dn,e⟩:=h.mb;obtain ⟨k,rfl⟩:∃ k:Nat,d=k:=⟨d.toNat,by omega⟩
 by_cases h2:km D x=false/\400<=D.length
 ·rw[am h2];exact ⟨T,h,C4 fun T' hs=>(Xpc gl T' D dn (h.je hs).wg.ri.len (hs.mb.trans e) x k af af h2.1 h2.2).pL hs⟩
 rw[aa h2];rw[show (k:Int).toNat=k by omega];have cx:km D x=true\/D.length<400:=by
  cases hx:km D x with
  | true=>exact .inl rfl
  | false=>exact .inr (by simp[hx]at h2;omega)
 have cz:=h.wg.ri.filter fun t=>!(t.id==x);have eO:RI (Pl n) (Xu T.now (T.rows.map (Xx x)) ⟨x,max k n⟩) (Ur D x (max k n)):=by
  rw[h.now];exact (RI.lay (now:=n) (t:=⟨x,max k n⟩) cz (Q4 (by show n<=max k n;omega))).jd (Xnp D x _)
 have bN:∀ t ∈ Ur D x (max k n),t ∈ Xx x D\/t=⟨x,max k n⟩:=fun t ht=>by
  rcases mem_append.1 ht with h|h
  ·exact .inl h
  ·exact .inr (mem_singleton.1 h)
 have hlen:(Ur D x (max k n)).length<=400:=by
  unfold Ur;rw[length_append];have h3:=Xwg x D;have h4:=h.cap;simp only[length_cons,length_nil];rcases cx with h5|h5
  ·have:(Xx x D).length<D.length:=by
    unfold km at h5;rw[List.any_eq_true]at h5;obtain ⟨t,ht,hx⟩:=h5;unfold Xx;rw[List.length_filter_lt_length_iff_exists];exact ⟨t,ht,by simp[hx]⟩
   omega
  ·omega
 refine ⟨T.arm D x (max k n),⟨h.now,⟨_,rfl⟩,⟨eO,fun t ht=>?_,fun t ht=>?_,?_,by dsimp only;omega⟩,hlen,h.hi⟩,C4 fun T' hs=>?_⟩
 ·rcases bN t ht with ht|rfl
  ·exact h.wg.lo t (Lt.subset ht)
  ·show n<=max k n;omega
 ·rcases bN t ht with ht|rfl
  ·exact h.wg.hi t (Lt.subset ht)
  ·show max k n<=1099511627776;have:=h.hi;omega
 ·unfold Ur;rw[List.pairwise_append];refine ⟨h.wg.dS.sublist Lt,by simp,fun a ha b hb=>?_⟩;obtain rfl:=mem_singleton.1 hb;exact Xeo a ha
 ·have h':=h.je hs;have nY:T'.now=n:=h'.now;have:=Ya1 gl T' D dn h'.wg.ri.len (hs.mb.trans e) h'.wg.dS h'.wg.ri.perm h'.wg.len (by rw[nY];exact h.hi) x k af cx;rw[nY]at this;refine this.pL ?_;have hr:=(Xvc (r':=T'.rows) (r:=T.rows) ⟨hs.len,hs.row⟩ x).lay T.now ⟨x,max k n⟩;refine ⟨hs.now,rfl,?_,?_⟩
  ·have:=hr.1;unfold WT.arm;rw[hs.now];exact this
  ·have:=hr.2;unfold WT.arm;rw[hs.now];exact this
def xU (n:Nat)(D:List Tm)(to:Int):Int×List Int×Nat×List Tm:=if to<n\/1099511627776<to then (2,[],n,D) else (0,a6 D (to.toNat+1),to.toNat,D.filter fun t=>decide (to.toNat<t.due))
def WI.AS {T:WT}   (h:WI T n D)(gl:Nat->AV)(to:Int):∃ T',WI T' (xU n D to).2.2.1 (xU n D to).2.2.2/\GD Tryz.prog gl 98 [.ptr 0 0,.int .i64 to] T.hb 67 [0,1] (.aR [.isl (xU n D to).2.1.length (Ql (xU n D to).2.1),.int .i64 (xU n D to).1]) T'.hb:=by
 unfold xU;by_cases h1:to<n\/1099511627776<to
 ·rw[am h1];exact ⟨T,h,C4 fun T' hs=>((Xgy gl T' (h.je hs).wf to (by rw[(h.je hs).now];exact h1)).wk (r':=fun _=>.aR [.isl 0 (Ql []),.int .i64 2]) fun _=>Wk.OE Wk.nils (Wk.refl _)).pL hs⟩
 rw[aa h1];obtain ⟨dn,e⟩:=h.mb;obtain ⟨k,rfl⟩:∃ k:Nat,to=k:=⟨to.toNat,by omega⟩
 rw[show (k:Int).toNat=k by omega];have hD:=Rz D (k-n+1) n T.rows D k af af h.wg (filter_eq_self.2 fun t ht=>by simpa using h.wg.lo t ht).symm;have cz:(D.filter fun t=>decide (k<t.due)).Sublist D:=List.filter_sublist;refine ⟨{ now:=k,rows:=(mR (k-n+1) n T.rows D k).1,mb:=.az (bu (mR (k-n+1) n T.rows D k).2) false },⟨rfl,⟨false,by rw[hD.1]⟩,⟨?_,fun t ht=>?_,fun t ht=>h.wg.hi t (cz.subset ht),h.wg.dS.sublist cz,Nat.le_trans cz.length_le h.wg.len⟩,Nat.le_trans cz.length_le h.cap,by dsimp only;omega⟩,C4 fun T' hs=>?_⟩
 ·have:=hD.2;rw[hD.1]at this ⊢;exact this
 ·have:=(mem_filter.1 ht).2;simp at this;show k<=t.due;omega
 ·have h':=h.je hs;have nY:T'.now=n:=h'.now;have Gt:WG T'.now T.rows D:=by rw[nY];exact h.wg
  have:=Ybr gl T' T.rows D dn ⟨hs.len,hs.row⟩ (hs.mb.trans e) Gt k af af;rw[nY]at this;exact this
def GS.to0 {gl:Nat->AV}  {args:List AV}{n n':Nat}{r r':AV}{ax my:List (Nat×Bk)}(h:GS P gl f args [] 0 r ax n)(jf:To [] ⟨[(0,r)],ax,n⟩ ⟨[(0,r')],my,n'⟩):GS P gl f args [] 0 r' my n':=by
 refine ⟨h.1,fun w vs G X g hR hv=>(h.2 w vs G X g hR hv).mono ?_⟩;rintro e w' ⟨v,g',q1,q2,q3,q4⟩;have gp:R ⟨1,w,G,X,gl,[]⟩ g' (⟨[(0,r)],ax,n⟩:St).fs ⟨#[v],[]⟩ w':=by
  refine ⟨rfl,rfl,fun i=>?_,q2.gl,q2.h,q2.inj,q2.old,q2.fr,q2.xs,q2.jj⟩;show VR g' _ w' (look [(0,r)] i) _;rw[Jk];split
  ·rename_i hi;subst hi;exact q4
  ·exact .any _
 obtain ⟨g2,cq⟩:=jf _ g' _ w' (fun q hq=>by cases hq) gp;exact ⟨v,g2,q1,⟨rfl,rfl,fun i=>.any _,cq.gl,cq.h,cq.inj,cq.old,cq.fr,cq.xs,fun q hq=>by cases hq⟩,fun b hb=>by omega,cq.t 0⟩
def To.dK {T:WT}  (hex:∀ q ∈ ex,67<=q.1)(hT:T.wf):To p ⟨t,ex++T.h,n⟩ ⟨t,ex++T.hb,n⟩:=fun c g a w _ hR=>by
 have hl:=hT.len;have key:∀ b,(Qc (ex++T.hb) n b=Qc (ex++T.h) n b)\/∃ l,Qc (ex++T.h) n b=.cells (aX l)/\Qc (ex++T.hb) n b=.dK (qB l):=fun b=>by
  by_cases hb:b<67
  ·rw[Xo fun q hq e=>by have:=hex q hq;omega,Xo fun q hq e=>by have:=hex q hq;omega,WT.bE,WT.ed];by_cases h0:0=b
   ·rw[am h0,am h0];exact .inl rfl
   by_cases h1:1=b
   ·rw[aa h0,aa h0,am h1,am h1];exact .inl rfl
   rw[aa h0,aa h0,aa h1,aa h1,am af,am af];exact .inr ⟨_,rfl,rfl⟩
  ·exact .inl (EG (by rw[WT.bE,WT.ed,aa af,aa af,aa af,aa (show ¬ 0=b by omega),aa (show ¬ 1=b by omega),aa (show ¬ (2<=b/\b<2+T.rows.length) by omega)]))
 refine ⟨g,hR.gK (fun i v hv=>hv) (fun b hb=>?_) fun b=>?_⟩
 ·show BR _ _ _ _ (Qc (ex++T.hb) n b);have e:(⟨t,ex++T.h,n⟩:St).fs.H b=Qc (ex++T.h) n b:=rfl;rw[e]at hb;rcases key b with h|⟨l,h1,h2⟩
  ·rw[h];exact hb
  ·rw[h1]at hb;rw[h2];exact Xeq hb (List.Perm.refl _)
 ·show (Qc (ex++T.hb) n b).live ↔ (Qc (ex++T.h) n b).live;rcases key b with h|⟨l,h1,h2⟩
  ·rw[h]
  ·rw[h1,h2];exact ⟨fun _=>trivial,fun _=>trivial⟩
def Xtn (m:Nat)(mb:Bk)(h:bV 2 mb):(Ko m mb).wf:=⟨by simp[Ko],h⟩
def Qua (n:Nat)(hn:n<=1099511627776):WI (Ko n (.az [] true)) n [] :=
 ⟨rfl,⟨true,rfl⟩,⟨RI.FZ (D:=[]) (l:=[]) (List.Perm.refl _) aw,by simp,by simp,by simp,by simp⟩,by simp,hn⟩
def Xv1 (n:Nat)(hn:n<=1099511627776):GS Tryz.prog gl 70 [.int .i64 n] [] 0 (.aR [.ptr 0 0,.int .i64 0]) (Ko n (.az [] true)).hb 67:=by
 have h0:GS Tryz.prog gl 70 [.int .i64 n] [] 0 (.aR [.ptr 0 0,.int .i64 0]) [(0,.cells (pH n)),(1,.az [] true)] 2:=Yb5 gl n af af;refine h0.to0 (To.trans (To.nils (m:=n) (mb:=.az [] true) (t':=[(0,.aR [.ptr 0 0,.int .i64 0])]) rfl (fun j=>?_) (Nat.le_refl 2) rfl (fun q hq=>by cases hq) aw ?_) (To.dK (ex:=[]) aw (Xtn n (.az [] true) fun q hq=>by cases hq)))
 ·show Qc [(0,_),(1,_)] (2+j) (2+j)=.free;rw[Qf,aa af,Qf,aa af,Il,aa af]
 ·simp[Qr,Qe,ah,look,aA,ay,lQ]
open Classical in
noncomputable def qG (s:St):Nat->List (Nat×Bk)
 | 0=>[]
 | k+1=>if (Qc s.h s.n k).live then (k,Qc s.h s.n k)::qG s k else qG s k
def LC {s:St}:∀ {k:Nat} {q:Nat×Bk},q ∈ qG s k ↔ q.1<k/\(Qc s.h s.n q.1).live/\q.2=Qc s.h s.n q.1
 | 0,q=>by simp[qG]
 | k+1,q=>by
  unfold qG;split
  ·rename_i h;rw[mem_cons,LC];constructor
   ·rintro (rfl|⟨h1,h2⟩)
    ·exact ⟨by dsimp only;omega,h,rfl⟩
    ·exact ⟨by omega,h2⟩
   ·rintro ⟨h1,h2,h3⟩;by_cases e:q.1=k
    ·left;rw[e]at h3;exact Prod.ext e h3
    ·right;exact ⟨by omega,h2,h3⟩
  ·rename_i h;rw[LC];constructor
   ·rintro ⟨h1,h2⟩;exact ⟨by omega,h2⟩
   ·rintro ⟨h1,h2,h3⟩;refine ⟨?_,h2,h3⟩;by_cases e:q.1=k
    ·rw[e]at h2;exact (h h2).elim
    ·omega
open Classical in
def RK {s:St}{n b:Nat}:∀ {k:Nat},Qc (qG s k) n b=if b<k/\(Qc s.h s.n b).live then Qc s.h s.n b else if b<n then .dead else .free
 | 0=>by rw[aa af];rfl
 | k+1=>by
  unfold qG;split
  ·rename_i h;rw[Qf,RK];by_cases e:k=b
   ·subst e;rw[am rfl,am ⟨by omega,h⟩]
   ·rw[aa e];by_cases h2:b < k∧(Qc s.h s.n b).live
    ·rw[am h2,am ⟨by omega,h2.2⟩]
    ·rw[aa h2,aa (show ¬ (b<k+1/\(Qc s.h s.n b).live) by rintro ⟨h3,h4⟩;exact h2 ⟨by omega,h4⟩)]
  ·rename_i h;rw[RK];by_cases h2:b < k∧(Qc s.h s.n b).live
   ·rw[am h2,am ⟨by omega,h2.2⟩]
   ·have h5:¬ (b<k+1/\(Qc s.h s.n b).live):=by
     rintro ⟨h3,h4⟩;by_cases e:b=k
     ·subst e;exact h h4
     ·exact h2 ⟨by omega,h4⟩
    rw[aa h2,aa h5]
def RL {ρ:Nat->Nat}{n':Nat}{s s':St}(ct:∀ b b',b<n'->b'<n'->(Qc s'.h s'.n b).live->(Qc s'.h s'.n b').live->ρ b=ρ b'->b=b')(hl:∀ b,b<n'->(Qc s'.h s'.n b).live->bV n' (Qc s'.h s'.n b)/\Qc s.h s.n (ρ b)=Qw ρ (Qc s'.h s'.n b)):∀ k,k<=n'->qa ρ n' s (qG s' k)
 | 0,_=>trivial
 | k+1,hk=>by
  unfold qG;split
  ·rename_i h;obtain ⟨h1,h2⟩:=hl k af h;have not:∀ l:List (Nat×Bk),(∀ q ∈ l,q.1<k/\(Qc s'.h s'.n q.1).live)->uV ρ k l:=fun l=>by
    induction l with
    | nil=>intro _;trivial
    | cons q l ih =>
     intro hq;obtain ⟨i,x⟩:=q;obtain ⟨g1,g2⟩:=hq (i,x) aw;refine ⟨fun e=>?_,ih fun q dd=>hq q (by simp[dd])⟩;have g1:i<k:=g1;have:=ct i k af af g2 h e;omega
   exact ⟨⟨by omega,h1,h2,not _ fun q hq=>⟨(LC.1 hq).1,(LC.1 hq).2.1⟩⟩,RL ct hl k af⟩
  ·exact RL ct hl k af
open Classical in
def Qqy {s':St}(hd:∀ b,b<s'.n->¬ (Qc s'.h s'.n b).live->Qc s'.h s'.n b=.dead)(hf:∀ b,s'.n<=b->Qc s'.h s'.n b=.free)(b:Nat):Qc (qG s' s'.n) s'.n b=Qc s'.h s'.n b:=by
 rw[RK];by_cases h1:b<s'.n
 ·by_cases h2:(Qc s'.h s'.n b).live
  ·rw[am ⟨h1,h2⟩]
  ·rw[aa fun h=>h2 h.2,am h1,hd b h1 h2]
 ·rw[aa fun h=>h1 h.1,aa h1,hf b af]
def To.lk {p:List Nat}{s s':St}(ρ:Nat->Nat)(hp:∀ b ∈ p,ρ b=b/\b<s'.n)(aK:∀ b,(Qc s'.h s'.n b).live->b<s'.n)(hd:∀ b,b<s'.n->¬ (Qc s'.h s'.n b).live->Qc s'.h s'.n b=.dead)(hf:∀ b,s'.n<=b->Qc s'.h s'.n b=.free)
  (ct:∀ b b',b<s'.n->b'<s'.n->(Qc s'.h s'.n b).live->(Qc s'.h s'.n b').live->ρ b=ρ b'->b=b') (hl:∀ b,b<s'.n->(Qc s'.h s'.n b).live->bV s'.n (Qc s'.h s'.n b)/\Qc s.h s.n (ρ b)=Qw ρ (Qc s'.h s'.n b)) (ht:Qr ρ s'.n s.t s'.t):To p s s':=by
 have h1:To p s ⟨s'.t,qG s' s'.n,s'.n⟩:=To.EE (ρ:=ρ) hp ⟨ht,RL ct hl _ (Nat.le_refl _)⟩;refine h1.trans fun c g a w _ hR=>⟨g,hR.gK (fun _ _ h=>h) (fun b h=>?_) fun b=>?_⟩
 ·have e:=Qqy hd hf b;have h:BR g _ w (g b) (Qc (qG s' s'.n) s'.n b):=h;rw[e]at h;exact h
 ·have e:=Qqy hd hf b;show (Qc s'.h s'.n b).live ↔ (Qc (qG s' s'.n) s'.n b).live;rw[e]
section
variable {P:Program}{c:Cx}
def Xtj {xs:List TV}{args:List AV}{r:AV}{ax:List (Nat×Bk)}  (fC:GS P c.gl f args [] 0 r ax m)(AT:HL ax m)(hc:Qq none (aC c.gl s.fs xs))(aM:(aC c.gl s.fs xs).map Qh=args)(yH:ah 0 args)(NV:Qe m r)(hs:∀ q ∈ s.h,q.1<s.n) :
  Kn P c (.pd d (.call f) xs none) s.fs ⟨Xf xs,(List.range m).map fun b=>s.n+b,d.toList,(List.range m).map fun b=>s.n+b⟩ (St.cd ⟨s.t,s.h++Xa (fun b=>s.n+b) ax,s.n+m⟩ d (aA (fun b=>s.n+b) r)).fs:=by
 have hn:∀ b b',b<m->b'<m->s.n+b=s.n+b'->b=b':=fun b b' _ _ e=>by omega
 have hm:∀ q ∈ ax,q.1<m:=fun q hq=>(AT.mem q hq).1;have ft:∀ b,∀ q ∈ s.h,q.1≠s.n+b:=fun b q hq=>by have:=hs q hq;omega
 have bq:∀ b,s.fs.H (s.n+b)=.free:=fun b=>by
  show Qc s.h s.n (s.n+b)=_;have:∀ l:List (Nat×Bk),(∀ q ∈ l,q.1≠s.n+b)->Qc l s.n (s.n+b)=.free:=fun l=>by
   induction l with
   | nil=>intro _;rw[Il,aa af]
   | cons q l ih =>
    obtain ⟨i,x⟩:=q;intro h;rw[Qf,aa (h (i,x) aw),ih fun q hq=>h q (by simp[hq])]
  exact this s.h (ft b)
 have hH:∀ y j,(St.cd ⟨s.t,s.h++Xa (fun b=>s.n+b) ax,s.n+m⟩ d y).fs.H j=Qc (s.h++Xa (fun b=>s.n+b) ax) (s.n+m) j:=fun y j=>by cases d<;>rfl
 refine VX (σ:=fun b=>s.n+b) fC (fun o ys aD vg s2 g a w hT hR=>?_) hn (fun p hp=>by cases hp) (fun b hb=>by omega) (Nat.zero_le _) (fun b _ _=>bq b) (fun p hp=>AT.mem p hp) NV yH (fun b hb=>mem_map.2 ⟨b,mem_range.2 hb,rfl⟩) (fun j hj=>?_) (fun i=>?_) (fun b hb=>?_) fun j hj=>?_
 ·obtain ⟨ts,hop⟩:=BS aD;subst vg;have bj:aC c.gl s2 (ys.map aP)=aC c.gl s.fs (ys.map aP):=Ya fun i hi=>hT i hi;have hv:=Yi (hR.ci ys) (by rw[bj];exact hc);rw[bj,aM]at hv;have hr:ay (fun b=>s.n+b) args=args:=by
   rw[Zd];exact (map_congr_left fun v hv=>vU (n:=0) (fun b hb=>by omega) v (Xh.1 yH v hv)).trans (map_id _)
  rw[hr];exact ⟨_,BT fC.1 hop a w,hv⟩
 ·obtain ⟨b,hb,rfl⟩:=mem_map.1 hj;exact ⟨b,mem_range.1 hb,rfl⟩
 ·cases d with
  | none=>rfl
  | some d=>show look ((d,_)::s.t) i=_;rw[Jk];rfl
 ·rw[hH,Xo (ft b),xk hn hb hm (AT.mh b hb)];obtain ⟨_,q,hq,_,e⟩:=AT.live hb m;rw[e];have:=(AT.mem q hq).2;cases hx:q.2<;>first|rfl|(rw[hx]at this;exact this.elim)
 ·rw[hH];show _=Qc s.h s.n j;have c4:∀ b,b<m->s.n+b≠j:=fun b hb e=>hj (mem_map.2 ⟨b,mem_range.2 hb,e⟩);have key:∀ l:List (Nat×Bk),Qc (l++Xa (fun b=>s.n+b) ax) (s.n+m) j=Qc l s.n j:=fun l=>by
   induction l with
   | nil =>
    rw[List.nil_append,Uc c4 hm,Il];by_cases h:j<s.n
    ·rw[am h,am af]
    ·rw[aa h,aa];intro h2;exact c4 (j-s.n) af af
   | cons q l ih=>obtain ⟨i,x⟩:=q;rw[List.cons_append,Qf,Qf,ih]
  exact key s.h
def Xdx {r0:List bD}{K:St->Prop}{s:St}{d:Option Nat}{f:FuncId}{xs:List TV}{args:List AV}{r:AV}{ax:List (Nat×Bk)}{m:Nat}(fC:GS P c.gl f args [] 0 r ax m)(AT:HL ax m)(hc:Qq none (aC c.gl s.fs xs)/\(aC c.gl s.fs xs).map Qh=args/\ah 0 args/\Qe m r)(hs:∀ q ∈ s.h,q.1<s.n)
  (h:XP P c r0 K (St.cd ⟨s.t,s.h++Xa (fun b=>s.n+b) ax,s.n+m⟩ d (aA (fun b=>s.n+b) r))):Yn P c (.pd d (.call f) xs none) r0 K s :=
 .inl ⟨_,_,Xtj fC AT hc.1 hc.2.1 hc.2.2.1 hc.2.2.2 hs,h⟩
end
def Xel {T:WT}  (hT:T.wf)(ct:∀ b b',b<67->b'<67->σ b=σ b'->b=b')(hex:∀ q ∈ ex,∀ b,b<67->σ b≠q.1)(hb:b<67):Qc (ex++Xa σ T.hb) n (σ b)=Qw σ (Qc T.hb 67 b):=by
 rw[Xo fun q hq e=>hex q hq b hb e.symm];exact xk ct hb (fun q hq=>((WT.iq hT).mem q hq).1) ((WT.iq hT).mh b hb)
def RM {T:WT}(hT:T.wf)  (hb:b<67):(Qc T.hb 67 b).live/\bV 67 (Qc T.hb 67 b):=by
 obtain ⟨_,q,hq,_,e⟩:=(WT.iq hT).live hb 67;rw[e];exact ⟨Xb ((WT.iq hT).mem q hq).2,((WT.iq hT).mem q hq).2⟩
theorem xV {f g:Nat->Nat}  (h:∀ b,b<n->f b=g b){x:Bk}(hx:bV n x):Qw f x=Qw g x:=by
 have hv:∀ v,Qe n v→aA f v=aA g v:=fun v=>AV.rec (motive_1:=fun v=>Qe n v→aA f v=aA g v) (motive_2:=fun l=>ah n l→ay f l=ay g l) (by simp[aA]) (fun b v h1 h2=>by simp only[Qe]at h2;simp only[aA,h1 h2]) (fun _ _=>by simp[aA]) (fun _=>by simp[aA]) (fun _=>by simp[aA])
  (fun cs h1 h2=>by simp only[Qe]at h2;simp only[aA,h1 h2]) (fun cs h1 h2=>by simp only[Qe]at h2;simp only[aA,h1 h2]) (fun b _ h2=>by simp only[Qe]at h2;simp only[aA,h b h2]) (fun cs _ h1 h2=>by simp only[Qe]at h2;simp only[aA,h1 h2]) (fun _ b _ _ _ h2=>by simp only[Qe]at h2;simp only[aA,h b h2]) (fun _ cs h1 h2=>by simp only[Qe]at h2;simp only[aA,h1 h2]) (by simp[aA])
  (fun _ cs h1 h2=>by simp only[Qe]at h2;simp only[aA,h1 h2]) (fun b h2=>by simp only[Qe]at h2;simp only[aA,h b h2]) (fun _=>by simp[aA]) (by simp[ay]) (fun x xs h1 h2=>by simp only[ah,ay];exact fun ⟨a,b⟩=>by rw[h1 a,h2 b]) v
 cases x with
 | free=>rfl
 | dead=>rfl
 | cells cs =>
  simp only[Qw,Zd];congr 1;exact map_congr_left fun v h=>hv v (Xh.1 hx v h)
 | az kvs dn =>
  simp only[Qw];congr 1;exact map_congr_left fun q hq=>by rw[hv _ (hx q hq).1,hv _ (hx q hq).2]
 | bp kvs bs ck =>
  simp only[Qw];congr 1;exact map_congr_left fun q hq=>by rw[hv _ (hx q hq).1,hv _ (hx q hq).2]
 | iter b ck seen=>simp only[Qw];rw[h b hx]
 | dK ls=>rfl
def Xhk {f g:Nat->Nat}{T:WT}(hT:T.wf)(h:∀ b,b<67->f b=g b):Xa f T.hb=Xa g T.hb:=by
 unfold Xa;exact map_congr_left fun q hq=>by
  obtain ⟨h1,h2⟩:=(WT.iq hT).mem q hq;rw[h q.1 h1,xV h h2]
def ie (n b:Nat):Nat:=if b<2 then b else n+b
def Ygc (n:Nat):dz id [0,1] n=ie n:=by
 funext b;unfold ie;by_cases h:b<2
 ·have:b=0∨b=1:=by omega
  rw[am h,Us (by simpa using this)];rfl
 ·rw[aa h,Uh (by simp;omega)]
def RN (hn:67<=n){b b':Nat}(h:b<67)(h':b'<67)(e:ie n b=ie n b'):b=b':=by
 unfold ie at e
 (repeat' split at e)<;>omega
theorem Yhq (n:Nat):ie n 0=0:=rfl
def Yjc {T:WT}(hT:T.wf)   (hσ:∀ b,b<67->σ b<m)(n b:Nat)(hb:m<=b):Qc (Xa σ T.hb) n b=if b<n then .dead else .free :=
 Uc (m:=67) (fun b' bL e=>by have:=hσ b' bL;omega) fun q hq=>((WT.iq hT).mem q hq).1
def td {v:AV}(h:Qe 0 v):aA σ v=v:=vU (n:=0) (fun b hb=>by omega) v h
def gx1 {gl:Nat->AV}{xs:List TV}{v:Bool}{f:FuncId}{args:List AV}{t:List (Nat×AV)}{ex:List (Nat×Bk)}{T:WT}{n:Nat}{p:List Nat}(hT:T.wf)(hp:∀ b ∈ p,b<67)(hn:67<=n)(hex:∀ q ∈ ex,67<=q.1/\q.1<n)
  (hc:Qq none (aC gl (⟨t,ex++Xa id T.hb,n⟩:St).fs xs)/\qi v f ((aC gl (⟨t,ex++Xa id T.hb,n⟩:St).fs xs).map Qh)=some (f,args)/\ah 67 args):so gl xs v f args id p 67 t ex T.hb n :=
 ⟨fun b b' _ _ e=>e,fun b hb=>by show b<n;omega,WT.iq hT,hp,fun q hq=>⟨fun b hb e=>by have:=(hex q hq).1;have e:b=q.1:=e;omega,(hex q hq).2⟩,hc.1,by rw[sm];exact hc.2.1,hc.2.2⟩
def Xng {T:WT}   {r:AV}(hT:T.wf)(hr:Qe 0 r):Jr t ex T.hb σ (List.range 67) 67 n d r=St.cd ⟨t,ex++Xa σ T.hb,n+67⟩ d r:=by
 unfold Jr;rw[Xhk hT (f:=dz σ (List.range 67) n) (g:=σ) fun b hb=>Us (mem_range.2 hb),td hr]
def RO {T:WT}   {r:AV}(hr:Qe 0 r):Jr t ex T.hb id [0,1] 67 n d r=St.cd ⟨t,ex++Xa (ie n) T.hb,n+67⟩ d r:=by
 unfold Jr;rw[Ygc,td hr]
def BI (D:List Tm)(to k:Nat)(qH:Int):Prop:=(qH=-1/\∀ t ∈ D.take k,to<t.due)\/∃ (b:Nat) (t:Tm),qH=b/\b<k/\D[b]?=some t/\t.due<=to/\∀ u ∈ D.take k,u.due<=to->j5 t u=true
def Gu {k:Nat}{u t:Tm}(hk:D[k]?=some t):u ∈ D.take (k+1) ↔ u ∈ D.take k\/u=t:=by
 rw[List.take_succ,mem_append,hk];simp
def BI.skip {to k:Nat}{qH:Int}{t:Tm}(h:BI D to k qH)(hk:D[k]?=some t)(ht:to<t.due):BI D to (k+1) qH:=by
 rcases h with ⟨h1,h2⟩|⟨b,s,h1,h2,h3,h4,h5⟩
 ·refine .inl ⟨h1,fun u hu=>?_⟩;rcases (Gu hk).1 hu with hu|rfl
  ·exact h2 u hu
  ·exact ht
 ·refine .inr ⟨b,s,h1,by omega,h3,h4,fun u hu hd=>?_⟩;rcases (Gu hk).1 hu with hu|rfl
  ·exact h5 u hu hd
  ·omega
def BI.first {to k:Nat}{t:Tm}(h:∀ t ∈ D.take k,to<t.due)(hk:D[k]?=some t)(ht:t.due<=to):BI D to (k+1) k:=by
 refine .inr ⟨k,t,rfl,by omega,hk,ht,fun u hu hd=>?_⟩;rcases (Gu hk).1 hu with hu|rfl
 ·have:=h u hu;omega
 ·rw[rm];omega
def BI.more {to k:Nat}{s t:Tm}(h5:∀ u ∈ D.take k,u.due<=to->j5 s u=true)(hk:D[k]?=some t)(ht:t.due<=to)(hl:j5 t s=true):BI D to (k+1) k:=by
 refine .inr ⟨k,t,rfl,by omega,hk,ht,fun u hu hd=>?_⟩;rcases (Gu hk).1 hu with hu|rfl
 ·exact Qtp _ _ _ hl (h5 u hu hd)
 ·rw[rm];omega
def BI.ig {to k b:Nat}{s t:Tm}(hb:b<k)(h3:D[b]?=some s)(h4:s.due<=to)(h5:∀ u ∈ D.take k,u.due<=to->j5 s u=true)(hk:D[k]?=some t)(hl:j5 s t=true):BI D to (k+1) b:=by
 refine .inr ⟨b,s,rfl,by omega,h3,h4,fun u hu hd=>?_⟩;rcases (Gu hk).1 hu with hu|rfl
 ·exact h5 u hu hd
 ·exact hl
def Xpz {to:Nat}(h:∀ t ∈ D,to<t.due):a6 D (to+1)=[]/\(D.filter fun t=>decide (to<t.due))=D:=by
 constructor
 ·unfold a6;rw[List.filter_eq_nil_iff.2 fun t ht=>by have:=h t ht;simp;omega];simp[rn]
 ·exact filter_eq_self.2 fun t ht=>by simpa using h t ht
def Xsq {to b:Nat}{t:Tm}(hb:D[b]?=some t)(ht:t.due<=to)(hl:∀ u ∈ D,u.due<=to->j5 t u=true):a6 D (to+1)=t.id::a6 (D.take b++D.drop (b+1)) (to+1)/\((D.take b++D.drop (b+1)).filter fun t=>decide (to<t.due))=D.filter fun t=>decide (to<t.due):=by
 have hlt:b<D.length:=(List.getElem?_eq_some_iff.1 hb).1;have hbe:D[b]=t:=(List.getElem?_eq_some_iff.1 hb).2;have hs:D=D.take b++t::D.drop (b+1):=by
  conv=>lhs;rw[<- List.take_append_drop b D,List.drop_eq_getElem_cons hlt,hbe]
 have hm:∀ u ∈ D.take b++D.drop (b+1),u ∈ D:=fun u hu=>by
  rw[hs];rcases mem_append.1 hu with h|h
  ·exact List.mem_append_left _ h
  ·exact List.mem_append_right _ (List.mem_cons_of_mem _ h)
 constructor
 ·unfold a6;rw[← map_cons (f:=fun x:Tm=>x.id)];congr 1;refine Q8 ?_ ?_
  ·refine ((Ks _).cons t).trans ?_
   conv=>rhs;rw[hs]
   rw[filter_append,filter_append,List.filter_cons,am (by simp;omega)];exact List.perm_middle.symm
  ·rw[List.pairwise_cons];refine ⟨fun u hu=>?_,CZ _⟩;have:=(Ks _).mem_iff.1 hu;rw[mem_filter]at this;exact hl u (hm u this.1) (by have:=this.2;simp at this;omega)
 ·conv=>rhs;rw[hs]
  rw[filter_append,filter_append,List.filter_cons,aa (by simp;omega)]
end Go.Proofs.YtogckmommodmhaaGreatDoor
