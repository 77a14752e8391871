import Derived.Test.YtogckmommodmhaaGreatDoorZx13
namespace Go.Proofs.YtogckmommodmhaaGreatDoor
open List (mem_cons mem_range length_nil append_assoc length_set map_nil mem_map mem_singleton mem_append length_append length_cons map_cons filter_eq_self filter_filter filter_congr mem_filter map_congr_left map_id nil_append filter_append)
open Go.RowKit
set_option linter.all false
set_option maxHeartbeats 4000000
set_option maxRecDepth 100000
variable {P:Program}{r r':List (List Tm)}{t:List (Nat×AV)}{s:St}{D:List Tm}{ex:List (Nat×Bk)}{rows:List (List Tm)}{σ:Nat->Nat}{n b:Nat}{f:FuncId}{p:List Nat}{m:Nat}{d:Option Nat}{aL:List (Nat×Bk)}(gl:Nat->AV)
def Kw (D:List Tm)(to:Nat):Nat:=D.foldl (fun m t=>min m t.due) to
def Gq:∀ (D:List Tm) (to:Nat),Kw D to<=to/\(∀ t ∈ D,Kw D to<=t.due)/\(Kw D to=to\/∃ t ∈ D,t.due=Kw D to)
 | [],to=>⟨Nat.le_refl _,fun t ht=>(by cases ht),.inl rfl⟩
 | a::D,to=>by
  obtain ⟨h1,h2,h3⟩:=Gq D (min to a.due);have e:Kw (a::D) to=Kw D (min to a.due):=rfl;rw[e];refine ⟨by omega,fun t ht=>?_,?_⟩
  ·rcases mem_cons.1 ht with rfl|ht
   ·omega
   ·exact h2 t ht
  ·rcases h3 with h3|⟨t,ht,h3⟩
   ·by_cases h:to≤a.due
    ·left;omega
    ·right;exact ⟨a,by simp,by omega⟩
   ·right;exact ⟨t,by simp[ht],h3⟩
def Xkt {to m:Nat}(h1:m<=to)(h2:∀ t ∈ D,m<=t.due)(h3:m=to\/∃ t ∈ D,t.due=m):m=Kw D to:=by
 obtain ⟨g1,g2,g3⟩:=Gq D to;rcases h3 with h3|⟨t,ht,h3⟩<;>rcases g3 with g3|⟨t',nu,g3⟩
 ·omega
 ·have:=h2 t' nu;omega
 ·have:=g2 t ht;omega
 ·have:=h2 t' nu;have:=g2 t ht;omega
def Gr:∀ (n:Nat) (S:List Nat),S.Nodup->(∀ i ∈ S,i<n)->S.length<=n
 | 0,S,_,h=>by
  cases S with
  | nil=>simp
  | cons a S=>have:=h a av;omega
 | n+1,S,hd,h=>by
  have:=Gr n (S.erase n) (hd.erase n) fun i hi=>by
   have:=(hd.mem_erase_iff).1 hi;have:=h i this.2;omega
  rw[List.length_erase]at this;split at this<;>omega
def Xpp {S:List Nat}  (hd:S.Nodup)(h:∀ i ∈ S,i<n)(bl:∀ i,i<n->i ∈ S):S.Perm (List.range n):=by
 rw[List.perm_iff_count];intro a;rw[hd.count,(List.nodup_range).count];by_cases ha:a<n
 ·rw[am (bl a ha),am (mem_range.2 ha)]
 ·rw[aa fun hm=>ha (h a hm),aa fun hm=>ha (mem_range.1 hm)]
def Xrh (D:List Tm):(List.range D.length).map (fun i=>D.getD i default)=D:=by
 refine List.ext_getElem av fun i h1 h2=>?_;simp[List.getD,h2]
def Que {bs:List Nat}{n ck:Nat}(h:OG bs n ck){i j:Nat}(hi:i<n)(hj:j<n)(e:bs.getD i 0=bs.getD j 0):i=j:=by
 by_cases h1:i<j
 ·have:=h.2.1 i j h1 hj;omega
 by_cases h2:j<i
 ·have:=h.2.1 j i h2 hi;omega
 omega
def Xe8 (D:List Tm)(i:Nat)(h:i<D.length):(bA D).getD i (.any,.any)=(.int .i64 (D.getD i default).id,.int .i64 (D.getD i default).due):=by
 simp[bA,List.getD,h]
def Kt (m:Nat)(mb:Bk):WT:={ now:=m,rows:=List.replicate 65 [],mb:=mb }
def Qpl (m:Nat)(mb:Bk)(i:Nat):(Kt m mb).row i=[]:=by
 unfold WT.row Kt;simp only[List.getD,List.getElem?_replicate];split<;>rfl
def pM (m:Int):List AV:=.int .i64 m::(List.replicate 65 .nils++[.mp 1])
def Qxk (m:Int)(j:Nat)(h:j<65):(pM m)[j+1]?=some .nils:=by
 unfold pM;rw[List.getElem?_cons_succ,List.getElem?_append_left (by simpa using h),List.getElem?_replicate,am h]
def Qzv (m:Int):(pM m).length=67:=by simp[pM]
theorem Xme (m:Int):(pM m).getD 0 .any=.int .i64 m:=rfl
theorem Qr3 (m:Int):(pM m).getD 66 .any=.mp 1:=rfl
def To.xY {p:List Nat}{s:St}{m:Int}(h0:Qb s.h s.n 0=.cells (pM m))(hf:∀ j,Qb s.h (s.n+j) (s.n+j)=.free)(hn:2<=s.n):∀ j,j<=65->∃ h cs,To p s ⟨s.t,h,s.n+j⟩/\Qb h (s.n+j) 0=.cells cs/\cs.length=67/\(∀ i,i<67->cs.getD i .any=if 1<=i/\i<=j then .sl 2 (s.n+(i-1)) 0 0 0 else (pM m).getD i .any)/\(∀ i,i<j->Qb h (s.n+j) (s.n+i)=.cells [])/\(∀ b,b≠0->b<s.n->Qb h (s.n+j) b=Qb s.h s.n b)/\∀ k,j<=k->Qb h (s.n+k) (s.n+k)=.free
 | 0,_=>⟨s.h,pM m,To.refl _ _,h0,Qzv m,fun i hi=>by rw[aa af],fun i hi=>by omega,fun b _ _=>rfl,fun k _=>hf k⟩
 | j+1,hj=>by
  obtain ⟨h,cs,g1,g2,g3,g4,g5,g6,g7⟩:=To.xY (p:=p) h0 hf hn j af;have hcj:cs[j+1]?=some .nils:=by
   have:=g4 (j+1) af;rw[aa af]at this;have hn:=Qxk m j af;have e1:(pM m).getD (j+1) .any=.nils:=by simp[List.getD,hn]
   rw[e1]at this;have hl:j+1<cs.length:=by omega
   simpa [List.getD,hl] using this
  refine ⟨(0,.cells (cs.set (j+1) (.sl 2 (s.n+j) 0 0 0)))::(s.n+j,.cells [])::h,cs.set (j+1) (.sl 2 (s.n+j) 0 0 0),g1.trans (To.jZ (s:=⟨s.t,h,s.n+j⟩) g2 hcj (g7 j (Nat.le_refl j))),?_,by simp[g3],fun i hi=>?_,fun i hi=>?_,fun b hb dK=>?_,fun k hk=>?_⟩
  ·rw[Qf,am rfl]
  ·have bw:∀ v,(cs.set (j+1) v).getD i .any=if i=j+1 then v else cs.getD i .any:=fun v=>by
    simp only[List.getD,List.getElem?_set];by_cases e:j+1=i
    ·subst e;rw[am rfl,am af,am rfl];rfl
    ·rw[aa e,aa fun q=>e q.symm]
   rw[bw,g4 i hi];by_cases e:i=j+1
   ·subst e;rw[am rfl,am af];rfl
   ·rw[aa e];by_cases e2:1≤i∧i≤j
    ·rw[am e2,am af]
    ·rw[aa e2,aa af]
  ·rw[Qf,aa af,Qf];by_cases e:i=j
   ·subst e;rw[am rfl]
   ·rw[aa af,show s.n+(j+1)=s.n+j+1 by omega,Wa _ _ _ af];exact g5 i af
  ·rw[Qf,aa fun e=>hb e.symm,Qf,aa af,show s.n+(j+1)=s.n+j+1 by omega,Wa _ _ _ af];exact g6 b hb dK
  ·rw[Qf,aa af,Qf,aa af];exact g7 k af
def l5 (N b:Nat):Nat:=if 2<=b/\b<67 then N+(b-2) else b
def To.nils {mb:Bk}{t':List (Nat×AV)}(h0:Qb s.h s.n 0=.cells (pM m))(hf:∀ j,Qb s.h (s.n+j) (s.n+j)=.free)(hn:2<=s.n)(h1:Qb s.h s.n 1=mb)(eG:bX 2 mb)(hp:∀ b,b ∈ p->b<2)(ht:Qs (l5 s.n) 67 s.t t'):To p s ⟨t',(Kt m mb).h,67⟩:=by
 obtain ⟨h,cs,g1,g2,g3,g4,g5,g6,g7⟩:=To.xY (p:=p) h0 hf af 65 (Nat.le_refl _);have hw:(Kt m mb).wf:=⟨by simp[Kt],eG⟩
 refine g1.trans (To.wh (ex:=[]) hw (l5 s.n) (fun b hb=>⟨by unfold l5;rw[aa (by have:=hp b hb;omega)],by have:=hp b hb;omega⟩) af (fun b b' hb bL e=>?_) ?_ ?_ (fun i hi=>?_) ht trivial (fun q hq=>by cases hq))
 ·unfold l5 at e
  (repeat' split at e)<;>omega
 ·show Qb h (s.n + 65) (l5 s.n 0)=_;rw[show l5 s.n 0=0 by unfold l5;rw[aa af],g2];congr 1;refine Ly (by rw[Yr,g3,WT.len hw]) fun j hj=>?_;rw[g3]at hj;rw[g4 j hj,Ky];rcases WT.gw hw j hj with rfl|rfl|⟨i,hi,rfl⟩
  ·rw[aa af,WT.iO,Xme];simp[aB,Kt]
  ·rw[aa af,WT.eV hw,Qr3];simp[aB,l5]
  ·rw[am af,WT.iP hw hi,Qpl];simp only[aB,l5,length_nil];rw[am af];congr 1;omega
 ·show Qb h (s.n+65) (l5 s.n 1)=_;rw[show l5 s.n 1=1 by unfold l5;rw[aa af],g6 1 af af,h1];exact (Lx (fun b hb=>by unfold l5;rw[aa af]) eG).symm
 ·show Qb h (s.n+65) (l5 s.n (2+i))=_;rw[Qpl];unfold l5;rw[am af,show 2+i-2=i by omega];exact g5 i hi
def Xrw (cs vs:List AV)(off j:Nat)(h:off<=cs.length):(Ym cs off vs).getD j .any=if j<off then cs.getD j .any else if j<off+vs.length then vs.getD (j-off) .any else cs.getD j .any:=by
 unfold Ym;simp only[List.getD,append_assoc,List.getElem?_append,List.length_take];by_cases h1:j<off
 ·rw[am af,am h1,List.getElem?_take_of_lt h1]
 ·rw[aa af,aa h1,show min off cs.length=off by omega];by_cases h2:j < off + vs.length
  ·rw[am af,am h2]
  ·rw[aa af,aa h2,List.getElem?_drop];congr 2;omega
def Ydt {T:WT}(hT:T.wf)(m:Int):(Ym (T.cells.set 0 (.int .i64 m)) 1 [.nils,.nils,.nils,.nils,.nils,.nils,.nils,.nils,.nils,.nils,.nils,.nils,.nils,.nils,.nils,.nils,.nils,.nils,.nils,.nils,.nils,.nils,.nils,.nils,.nils,.nils,.nils,.nils,.nils,.nils,.nils,.nils,.nils,.nils,.nils,.nils,.nils,.nils,.nils,.nils,.nils,.nils,.nils,.nils,.nils,.nils,.nils,.nils,.nils,.nils,.nils,.nils,.nils,.nils,.nils,.nils,.nils,.nils,.nils,.nils,.nils,.nils,.nils,.nils]).set 65 .nils=pM m:=by
 have hl:=WT.len hT;have e:([.nils,.nils,.nils,.nils,.nils,.nils,.nils,.nils,.nils,.nils,.nils,.nils,.nils,.nils,.nils,.nils,.nils,.nils,.nils,.nils,.nils,.nils,.nils,.nils,.nils,.nils,.nils,.nils,.nils,.nils,.nils,.nils,.nils,.nils,.nils,.nils,.nils,.nils,.nils,.nils,.nils,.nils,.nils,.nils,.nils,.nils,.nils,.nils,.nils,.nils,.nils,.nils,.nils,.nils,.nils,.nils,.nils,.nils,.nils,.nils,.nils,.nils,.nils,.nils]:List AV)=List.replicate 64 .nils:=rfl;rw[e];have hlen:(Ym (T.cells.set 0 (.int .i64 m)) 1 (List.replicate 64 .nils)).length=67:=by simp[Ym,hl]
 refine Ly (by rw[length_set,hlen,Qzv]) fun j hj=>?_;rw[length_set,hlen]at hj;have bw:∀ (l:List AV) (i:Nat) (v:AV),i<l.length->(l.set i v).getD j .any=if j=i then v else l.getD j .any:=fun l i v hi=>by
  simp only[List.getD,List.getElem?_set];by_cases e:i=j
  ·subst e;rw[am rfl,am hi,am rfl];rfl
  ·rw[aa e,aa fun q=>e q.symm]
 rw[bw _ _ _ af,Xrw _ _ _ _ (by simp[hl])];rcases WT.gw hT j hj with rfl|rfl|⟨i,hi,rfl⟩
 ·rw[aa af,am af,bw _ _ _ af,am rfl];rfl
 ·rw[aa af,aa af,aa av,bw _ _ _ af,aa af,WT.eV hT];rfl
 ·have hn:=Qxk m i hi;have e1:(pM m).getD (i + 1) .any=.nils:=by simp[List.getD,hn]
  rw[e1];by_cases e2:i+1=65
  ·rw[am e2]
  ·rw[aa e2,aa af,am (by rw[List.length_replicate];omega)];simp only[List.getD,List.getElem?_replicate];rw[am af];rfl
def WT.AS (D:List Tm)(m:Nat)(T':WT):Prop:=∃ l:List Tm,l.Perm D/\T'={ now:=m,rows:=l.foldl (Xv m) (List.replicate 65 []),mb:=.az (bA D) false }
set_option maxRecDepth 20000 in
def Xua (T:WT)(D:List Tm)(dn:Bool)(hlen:T.rows.length=65)(eG:T.mb=.az (bA D) dn)(hD:D.length<=100000)(iS:∀ t ∈ D,t.due<=1099511627776)(to:Nat)(jj:to<=1099511627776) :
  GQ Tryz.prog gl 138 [.ptr 0 0,.int .i64 to] T.h 67 [0,1] (fun T':WT=>T'.AS D (Kw D to)) (fun _=>.aR []) WT.h:=by
 have hT:=wj hlen eG;refine Rl.gq (ap rfl) (fun q hq=>Xa (((WT.as hT).mem q hq).2)) av fun c bf hg=>?_
 conv in aG _ _=>cbv
 have aW:=fun n b hb=>WT.iH hT n (b:=b) hb;have lX:=WT.eV hT;have aY:=WT.len hT;have pH:T.h=(0,.cells T.cells)::(1,.az (bA D) dn)::Kj T.rows 0:=by rw[<- eG];rfl
 rw[pH];refine Qd @lX ?_;refine XQ sR rfl rfl (by exact Qi @aW) fun bs ck dX=>?_;rw[sU]at dX;refine Qa ?_
 refine Yn (fun y:List Nat × Nat=>y.1.Nodup∧(∀ i ∈ y.1,i < D.length)∧y.2≤to∧(∀ i ∈ y.1,y.2≤(D.getD i default).due)∧(y.2=to∨∃ t ∈ D,t.due=y.2))
  (fun y=>⟨[(0,.ptr 0 0),(4,.int .i64 y.2),(14,.ptr 67 0)],(67,.iter 1 ck (y.1.map fun i=>bs.getD i 0))::(0,.cells T.cells)::(1,.bp (bA D) bs ck)::Kj T.rows 0,68⟩) (fun y=>D.length-y.1.length) Rl.mixed [0,1] bf
  ⟨([],to),⟨by simp,by simp,by simp,by simp,.inl rfl⟩,To.fK (by exact Qp) fun b=>?_⟩ fun y hy=>?_
 ·simp only[map_nil,Qf]
  (repeat' split)<;>first|rfl|omega
 obtain ⟨S,m⟩:=y;obtain ⟨sr,uH,Gs,LK,LL⟩:=hy;dsimp only at sr uH Gs LK LL ⊢;have Gt:=Gr _ S sr uH;refine Qa ?_;refine XR (bi:=67) (b:=1) (ck:=ck) (seen:=S.map fun i=>bs.getD i 0) (bs:=bs) (kvs:=bA D) rfl (by exact Qp) (by exact Qp) (fun bl=>?_) (fun i cU yK=>?_)
 ·rw[sU]at bl;have pN:∀ i,i<D.length->i ∈ S:=fun i hi=>by
   obtain ⟨j,hj,e⟩:=mem_map.1 (bl i hi);rw[Que dX hi (uH j hj) e.symm];exact hj
  have hm:m=Kw D to:=Xkt Gs (fun t ht=>by
   obtain ⟨i,hi,rfl⟩:=List.mem_iff_getElem.1 ht;have:=LK i (pN i hi);simpa [List.getD,hi] using this) LL
  subst hm;clear pN bl LK sr uH Gt LL;have As:Kw D to<=1099511627776:=by omega
  generalize Kw D to=m at *
  refine Qa ?_;refine Yc ?_;refine Qd (An @aW @lX) ?_;rw[Ydt hT m];refine qk bf (s':=⟨[(0,.ptr 0 0),(36,.mp 1)],(Kt m (.az (bA D) false)).h,67⟩) (To.trans (To.JH (b:=1) rfl) (To.nils (m:=m) (mb:=.az (bA D) false) rfl (fun j=>?_) (by show 2<=68;omega) rfl (oN 2 D) av ?_)) ?_
  ·show Qb ((1,_)::(0,_)::(0,_)::(0,_)::(67,_)::(0,_)::(1,_)::Kj T.rows 0) (68 + j) (68 + j)=.free
   (repeat rw[Qf,aa af])
   rw[aW _ _ af,aa af]
  ·have h1:l5 68 0=0:=rfl;have h2:l5 68 1=1:=rfl;exact Qi (An @h1 (An @h2 @Qr3))
  have hwe:(Kt m (.az (bA D) false)).wf:=⟨by simp[Kt],oN 2 D⟩
  have hHe:=WT.aW hwe;refine XQ sR (b:=1) (kvs:=bA D) (dn:=false) rfl rfl (by exact Qi @hHe) fun gI gZ Gu=>?_;rw[sU]at Gu;refine Qa ?_
  refine Yn (fun S:List Nat=>S.Nodup∧(∀ i ∈ S,i < D.length))
   (fun S=>⟨[(0,.ptr 0 0),(37,.ptr 67 0)],(67,.iter 1 gZ (S.map fun i=>gI.getD i 0))::WT.h { now:=m,rows:=(S.map fun i=>D.getD i default).foldl (Xv m) (List.replicate 65 []),mb:=.bp (bA D) gI gZ },68⟩) (fun S=>D.length-S.length) Rl.mixed [0,1] bf
   ⟨[],⟨by simp,by simp⟩,To.fK (by exact Qp) fun b=>?_⟩ fun S hy=>?_
  ·show Qb ((67,.iter 1 gZ [])::WT.h { now:=m,rows:=List.replicate 65 [],mb:=.bp (bA D) gI gZ }) 68 b=Qb ((67,.iter 1 gZ [])::(1,.bp (bA D) gI gZ)::(Kt m (.az (bA D) false)).h) 68 b;have AT:WT.cells { now:=m,rows:=List.replicate 65 [],mb:=.bp (bA D) gI gZ }=(Kt m (.az (bA D) false)).cells:=rfl;have q1:(Kt m (.az (bA D) false)).rows.length=65:=by simp[Kt]
   have q2:(List.replicate 65 ([]:List Tm)).length=65:=by simp
   simp only[Qf,WT.bG,AT]
   (repeat' split)<;>first|rfl|omega
  obtain ⟨sr,uH⟩:=hy;have Gt:=Gr _ S sr uH;have rH:RI (fun _ _=>True) ((S.map fun i=>D.getD i default).foldl (Xv m) (List.replicate 65 [])) ((S.map fun i=>D.getD i default).reverse++[]):=RI.ka _ ⟨by simp,by simp,fun _ _ _ _=>trivial⟩ fun _ _=>trivial;have LM:WT.wf { now:=m,rows:=(S.map fun i=>D.getD i default).foldl (Xv m) (List.replicate 65 []),mb:=.bp (bA D) gI gZ }:=⟨rH.len,oN 2 D⟩
  have AU:∀ n,Qb (WT.h { now:=m,rows:=(S.map fun i=>D.getD i default).foldl (Xv m) (List.replicate 65 []),mb:=.bp (bA D) gI gZ }) n 1=.bp (bA D) gI gZ:=fun n=>rfl;have RC:∀ i,i<65->(WT.row { now:=m,rows:=(S.map fun i=>D.getD i default).foldl (Xv m) (List.replicate 65 []),mb:=.bp (bA D) gI gZ } i).length<=1000000:=fun i hi=>by
   have:=rH.iz hi;simp only[List.append_nil,List.length_reverse,List.length_map]at this;exact Nat.le_trans this af
  have mY:∀ j,Xv m ((S.map fun i=>D.getD i default).foldl (Xv m) (List.replicate 65 [])) (D.getD j default)=((S++[j]).map fun i=>D.getD i default).foldl (Xv m) (List.replicate 65 []):=fun j=>by simp
  have b9:(∀ i,i<D.length->i ∈ S)->WT.AS D m { now:=m,rows:=(S.map fun i=>D.getD i default).foldl (Xv m) (List.replicate 65 []),mb:=.az (bA D) false }:=fun h=>⟨_,by
   have:=(Xpp sr uH h).map fun i=>D.getD i default
   rwa [Xrh]at this,rfl⟩
  have hHS:=WT.aW LM;have hnS:WT.now { now:=m,rows:=(S.map fun i=>D.getD i default).foldl (Xv m) (List.replicate 65 []),mb:=.bp (bA D) gI gZ }=m:=rfl;have eQ:∀ x,WT.lay { now:=m,rows:=(S.map fun i=>D.getD i default).foldl (Xv m) (List.replicate 65 []),mb:=.bp (bA D) gI gZ } x={ now:=m,rows:=Xv m ((S.map fun i=>D.getD i default).foldl (Xv m) (List.replicate 65 [])) x,mb:=.bp (bA D) gI gZ }:=fun x=>rfl;have gj:∀ b,Qb (WT.h { now:=m,rows:=(S.map fun i=>D.getD i default).foldl (Xv m) (List.replicate 65 []),mb:=.az (bA D) false }) 68 b=Qb ((1,.az (bA D) false)::WT.h { now:=m,rows:=(S.map fun i=>D.getD i default).foldl (Xv m) (List.replicate 65 []),mb:=.bp (bA D) gI gZ }) 68 b:=fun b=>by
   have AT:WT.cells { now:=m,rows:=(S.map fun i=>D.getD i default).foldl (Xv m) (List.replicate 65 []),mb:=.az (bA D) false }=WT.cells { now:=m,rows:=(S.map fun i=>D.getD i default).foldl (Xv m) (List.replicate 65 []),mb:=.bp (bA D) gI gZ }:=rfl;simp only[Qf,WT.bG,AT]
   (repeat' split)<;>first|rfl|omega
  generalize hTS:({ now:=m,rows:=(S.map fun i=>D.getD i default).foldl (Xv m) (List.replicate 65 []),mb:=.bp (bA D) gI gZ }:WT)=TS at *
  refine Qa ?_;refine XR (bi:=67) (b:=1) (ck:=gZ) (seen:=S.map fun i=>gI.getD i 0) (bs:=gI) (kvs:=bA D) rfl (by exact Qp) (by exact Qi @AU) (fun bl=>?_) (fun i cU yK=>?_)
  ·rw[sU]at bl;have pN:∀ i,i<D.length->i ∈ S:=fun i hi=>by
    obtain ⟨j,hj,e⟩:=mem_map.1 (bl i hi);rw[Que Gu hi (uH j hj) e.symm];exact hj
   refine Qa ?_;refine Yc ?_;refine Qa ?_;refine ⟨_,b9 pN,To.trans (To.JH (b:=1) (kvs:=bA D) (bs:=gI) (ck:=gZ) ?_) (To.trans (To.fK (t':=[(0,.aR [])]) (h':=(67,.iter 1 gZ (S.map fun i=>gI.getD i 0))::WT.h { now:=m,rows:=(S.map fun i=>D.getD i default).foldl (Xv m) (List.replicate 65 []),mb:=.az (bA D) false }) (n':=68) ?_ fun b=>?_) (To.eW (ex:=[(67,.iter 1 gZ (S.map fun i=>gI.getD i 0))]) ⟨rH.len,oN 2 D⟩ av av (by simp[Qs,Qe,ah,look,aB,ay])))⟩
   ·show Qb ((67,.iter 1 gZ (S.map fun i=>gI.getD i 0))::TS.h) 68 1=_;rw[Qf,aa af,AU]
   ·exact Qp
   ·have:=gj b;show Qb ((67,.iter 1 gZ (S.map fun i=>gI.getD i 0))::WT.h { now:=m,rows:=(S.map fun i=>D.getD i default).foldl (Xv m) (List.replicate 65 []),mb:=.az (bA D) false }) 68 b=Qb ((1,.az (bA D) false)::(67,.iter 1 gZ (S.map fun i=>gI.getD i 0))::TS.h) 68 b;rw[Qf,Qf,Qf,this,Qf]
    (repeat' split)<;>first|rfl|omega
  ·rw[sU]at cU;have RD:i ∉ S:=fun h=>yK (mem_map.2 ⟨i,h,rfl⟩);have a6:=Xe8 D i cU;have LN:D.getD i default ∈ D:=by simp[List.getD,cU]
   have IZ:=iS _ LN;have RE:=mY i;generalize hx:D.getD i default=x at *
   have eB:=LA c.gl TS LM x (by rw[hnS];exact As) IZ (RC _ (Ge _ _));have sY:(S++[i]).Nodup:=by
    rw[List.nodup_append];exact ⟨sr,by simp,fun a ha b hb e=>by
     obtain rfl:=mem_singleton.1 hb;exact RD (e ▸ ha)⟩
   have sZ:∀ j ∈ S++[i],j<D.length:=fun j hj=>by
    rcases mem_append.1 hj with h|h
    ·exact uH j h
    ·obtain rfl:=mem_singleton.1 h;exact cU
   have tc:=Gr _ _ sY sZ;rw[length_append]at tc;simp only[length_cons,length_nil]at tc;refine Qd @a6 ?_;refine Yc ?_;refine Qa ?_;refine XT (bi:=67) (b:=1) (ck:=gZ) (i:=i) (seen:=S.map fun i=>gI.getD i 0) (bs:=gI) (kvs:=bA D) rfl (by exact Qp) (by exact Qi @AU) (by rw[sU];exact cU) ?_;refine Qd @a6 ?_;refine xW eB LM (fun _ _=>WT.oM LM x) bf (by simp[jX]) [(0,.ptr 0 0),(37,.ptr 67 0),(43,.ptr 0 0),(46,.agg [.int .i64 x.id,.int .i64 x.due])] [(67,.iter 1 gZ ((S++[i]).map fun i=>gI.getD i 0))] 68 (To.fK (by exact Qp) fun b=>?_) (by simp[sw,jX]) ?_ (by simp[Qe,ah]) fun _ _=>?_
   ·show Qb ((67,.iter 1 gZ ((S++[i]).map fun i=>gI.getD i 0))::TS.h) 68 b=Qb ((67,.iter 1 gZ ((S.map fun i=>gI.getD i 0)++[gI.getD i 0]))::(67,.iter 1 gZ (S.map fun i=>gI.getD i 0))::TS.h) 68 b;simp only[Qf,List.map_append,map_cons,map_nil];(repeat' split)<;>rfl
   ·exact Qp
   ·refine Qa ?_;refine ⟨S++[i],⟨sY,sZ⟩,?_,?_⟩
    ·rw[eQ,RE];exact To.fK (by exact Qp) fun b=>rfl
    ·rw[length_append];simp only[length_cons,length_nil];omega
 ·rw[sU]at cU;have RD:i ∉ S:=fun h=>yK (mem_map.2 ⟨i,h,rfl⟩);have a6:=Xe8 D i cU;have LN:D.getD i default ∈ D:=by simp[List.getD,cU]
  have IZ:=iS _ LN;have sY:(S++[i]).Nodup:=by
   rw[List.nodup_append];exact ⟨sr,by simp,fun a ha b hb e=>by
    obtain rfl:=mem_singleton.1 hb;exact RD (e ▸ ha)⟩
  have sZ:∀ j ∈ S++[i],j<D.length:=fun j hj=>by
   rcases mem_append.1 hj with h|h
   ·exact uH j h
   ·obtain rfl:=mem_singleton.1 h;exact cU
  have tc:=Gr _ _ sY sZ;rw[length_append]at tc;simp only[length_cons,length_nil]at tc;refine Qd @a6 ?_;refine Yc ?_;refine Qa ?_;refine XT (bi:=67) (b:=1) (ck:=ck) (i:=i) (seen:=S.map fun i=>bs.getD i 0) (bs:=bs) (kvs:=bA D) rfl (by exact Qp) (by exact Qp) (by rw[sU];exact cU) ?_;have Ag:min (m:Int) ((D.getD i default).due:Int)=((min m (D.getD i default).due:Nat):Int):=by omega
  refine Qd @a6 ?_;refine ⟨(S++[i],min m (D.getD i default).due),⟨sY,sZ,by dsimp only;omega,fun j hj=>?_,?_⟩,To.fK (by exact Qi @Ag) fun b=>?_,?_⟩
  ·dsimp only at hj ⊢;rcases mem_append.1 hj with h|h
   ·have:=LK j h;omega
   ·obtain rfl:=mem_singleton.1 h;omega
  ·dsimp only;by_cases h:m≤(D.getD i default).due
   ·rw[Nat.min_eq_left h];exact LL
   ·exact .inr ⟨_,LN,by omega⟩
  ·simp only[Qf,List.map_append,map_cons,map_nil]
   (repeat' split)<;>first|rfl|omega
  ·dsimp only;rw[length_append];simp only[length_cons,length_nil];omega
def Jh (r' r:List (List Tm)):Prop:=r'.length=r.length/\∀ i,(r'.getD i []).Perm (r.getD i [])
def Jh.refl (r:List (List Tm)):Jh r r:=⟨rfl,fun _=>List.Perm.refl _⟩
def Jh.trans {a b c:List (List Tm)}(h:Jh a b)(k:Jh b c):Jh a c:=⟨h.1.trans k.1,fun i=>(h.2 i).trans (k.2 i)⟩
def RF (r:List (List Tm))(i:Nat)(l:List Tm)(j:Nat):(r.set i l).getD j []=if j=i/\i<r.length then l else r.getD j []:=by
 by_cases hi:i<r.length
 ·rw[Da r hi];by_cases e:j=i<;>simp[e,hi]
 ·rw[List.set_eq_of_length_le af,aa af]
def Jh.set (h:Jh r' r)(i:Nat){l' l:List Tm}(hl:l'.Perm l):Jh (r'.set i l') (r.set i l):=by
 refine ⟨by simp[h.1],fun j=>?_⟩;rw[RF,RF,h.1];split
 ·exact hl
 ·exact h.2 j
def Jh.lay (h:Jh r' r)(n:Nat)(t:Tm):Jh (Xv n r' t) (Xv n r t):=h.set _ ((h.2 _).append_right _)
def Xry (n:Nat)(r:List (List Tm))(a b:Tm):Jh (Xv n (Xv n r a) b) (Xv n (Xv n r b) a):=by
 refine ⟨by simp[Xv],fun j=>?_⟩;unfold Xv;simp only[RF,length_set];by_cases ha:Zv n a.due<r.length<;>by_cases hb:Zv n b.due<r.length<;>by_cases h1:j=Zv n a.due<;>by_cases h2:j=Zv n b.due<;>by_cases h3:Zv n a.due=Zv n b.due<;>simp_all<;>first|omega|(exact List.Perm.append_left _ (List.Perm.swap _ _ _))|(rw[aa (by omega),aa (by omega)])|skip
def Jh.ka {l' l:List Tm}(hl:l'.Perm l):∀ {r' r:List (List Tm)},Jh r' r->Jh (l'.foldl (Xv n) r') (l.foldl (Xv n) r):=by
 induction hl with
 | nil=>exact fun h=>h
 | cons x h ih=>exact fun hr=>ih (hr.lay n x)
 | swap x y l =>
  intro r' r hr;have RG:∀ (l:List Tm) {r' r:List (List Tm)},Jh r' r->Jh (l.foldl (Xv n) r') (l.foldl (Xv n) r):=fun l=>by
   induction l with
   | nil=>exact fun h=>h
   | cons t l ih=>exact fun h=>ih (h.lay n t)
  exact RG l (((hr.lay n y).lay n x).trans (Xry n r y x))
 | trans h1 h2 Ro Rq=>exact fun hr=>(Ro hr).trans (Rq (Jh.refl _))
def Jh.d5 (h:Jh r' r)(n i:Nat):Jh (eH n r' i) (eH n r i):=Jh.ka (h.2 i) (h.set i (List.Perm.refl _))
def Jh.step {n:Nat}:∀ (f L:Nat) {r' r:List (List Tm)},Jh r' r->Jh (Uz n f L r') (Uz n f L r)
 | 0,_,_,_,h=>h
 | f+1,L,r',r,h=>by
  unfold Uz;split
  ·exact Jh.step f (L+1) (h.d5 _ _)
  ·exact h
def Qzn:∀ {r' r:List (List Tm)},r'.length=r.length->(∀ i,(r'.getD i []).Perm (r.getD i []))->r'.flatten.Perm r.flatten
 | [],[],_,_=>List.Perm.refl _
 | a::r',b::r,hl,h=>by
  have h0:=h 0;simp only[List.getD_cons_zero]at h0;simp only[List.flatten_cons];exact h0.append (Qzn (by simpa using hl) fun i=>by have:=h (i+1);simpa only[List.getD_cons_succ] using this)
def RI.ji {P:Nat->Nat->Prop}   (h:RI P r D)(hs:Jh r' r):RI P r' D :=
 ⟨hs.1.trans h.len,(Qzn hs.1 hs.2).trans h.perm,fun i hi t ht=>h.pl i hi t ((hs.2 i).mem_iff.1 ht)⟩
def Xep:∀ (l D:List Tm),ln l D=D.filter fun t=>l.all fun x=>!(t.id==x.id)
 | [],D=>(filter_eq_self.2 fun t _=>by simp).symm
 | a::l,D=>by
  have e:ln (a::l) D=ln l (Xz a.id D):=rfl;rw[e,Xep l];unfold Xz;rw[filter_filter];refine filter_congr fun t _=>?_;rw[List.all_cons,Bool.and_comm]
def Xq (n:Nat)(D:List Tm):List Tm:=D.filter fun t=>!(t.due==n)
def Xvh (hd:D.Pairwise fun a b=>a.id≠b.id){a b:Tm}(ha:a ∈ D)(hb:b ∈ D)(e:a.id=b.id):a=b:=by
 induction D with
 | nil=>cases ha
 | cons x D ih =>
  have h1:=List.Pairwise.of_cons hd;have h2:=fun y hy=>List.rel_of_pairwise_cons hd (a':=y) hy;rcases mem_cons.1 ha with h3|h3<;>rcases mem_cons.1 hb with h4|h4
  ·rw[h3,h4]
  ·rw[h3]at e;exact absurd e (h2 b h4)
  ·rw[h4]at e;exact absurd e.symm (h2 a h3)
  ·exact ih h1 h3 h4
def Xog {D l:List Tm}  (hd:D.Pairwise fun a b=>a.id≠b.id)(hl:l.Perm (D.filter fun t=>t.due==n)):ln l D=Xq n D:=by
 rw[Xep];unfold Xq;refine filter_congr fun t ht=>?_;have bQ:∀ x,x ∈ l ↔ x ∈ D/\x.due=n:=fun x=>by rw[hl.mem_iff,mem_filter];simp
 cases h:t.due==n with
 | true =>
  have aL:t ∈ l:=(bQ t).2 ⟨ht,by simpa using h⟩;simp only[Bool.not_true];rw[<- Bool.not_eq_true,List.all_eq_true];intro bl;have:=bl t aL;simp at this
 | false =>
  simp only[Bool.not_false];rw[List.all_eq_true];intro x hx;obtain ⟨h1,h2⟩:=(bQ x).1 hx;have:t.id≠x.id:=fun e=>by
   have:=Xvh hd ht h1 e;subst this;simp[h2]at h
  simpa using this
def mZ:Nat->Nat->List (List Tm)->List Tm->Nat->List (List Tm)×List Tm
 | 0,_,rows,D,_=>(rows,D)
 | f+1,n,rows,D,to =>
  if n=to then (rows.set (n%16) [],Xq n D)
  else if 4096<to-n\/(Xq n D).length=0 then mZ f (Kw (Xq n D) to) ((Xq n D).foldl (Xv (Kw (Xq n D) to)) (List.replicate 65 [])) (Xq n D) to
  else mZ f (n+1) (Uz (n+1) 4 1 (rows.set (n%16) [])) (Xq n D) to
structure WG (n:Nat)(rows:List (List Tm))(D:List Tm):Prop where
 ri:RI (Pl n) rows D
 lo:∀ t ∈ D,n<=t.due
 hi:∀ t ∈ D,t.due<=1099511627776
 c4:D.Pairwise fun a b=>a.id≠b.id
 len:D.length<=100000
def xZ:(Xq n D).Sublist D:=List.filter_sublist
def AX (h:∀ t ∈ D,n<=t.due):∀ t ∈ Xq n D,n<t.due:=fun t ht=>by
 obtain ⟨h1,h2⟩:=mem_filter.1 ht;have:=h t h1;have:t.due≠n:=by simpa using h2
 omega
def WG.pO (h:WG n rows D):RI (Pl n) (rows.set (n%16) []) (Xq n D):=h.ri.pG.2
def WG.Gv (h:WG n rows D)(hm:∀ t ∈ Xq n D,m<=t.due):WG m ((Xq n D).foldl (Xv m) (List.replicate 65 [])) (Xq n D) :=
 ⟨RI.Gf (List.Perm.refl _) hm,hm,fun t ht=>h.hi t (xZ.subset ht),h.c4.sublist xZ,Nat.le_trans xZ.length_le h.len⟩
def WG.tick (h:WG n rows D):WG (n+1) (Uz (n+1) 4 1 (rows.set (n%16) [])) (Xq n D) :=
 ⟨h.pO.tick (AX h.lo),AX h.lo,fun t ht=>h.hi t (xZ.subset ht),h.c4.sublist xZ,Nat.le_trans xZ.length_le h.len⟩
def RH (D0:List Tm)(n m:Nat)(fU:n<m)(h:∀ t ∈ D0,n<t.due->m<=t.due):Xq n (D0.filter fun t=>decide (n<=t.due))=D0.filter fun t=>decide (m<=t.due):=by
 unfold Xq;rw[filter_filter];refine filter_congr fun t ht=>?_;have:=h t ht;rw[Bool.eq_iff_iff];simp only[Bool.and_eq_true,Bool.not_eq_true',beq_eq_false_iff_ne,ne_eq,decide_eq_true_eq];omega
def RK (D0:List Tm):∀ (f n:Nat) (rows:List (List Tm)) (D:List Tm) (to:Nat),n<=to->to-n<f->WG n rows D->D=D0.filter (fun t=>decide (n<=t.due))->(mZ f n rows D to).2=D0.filter (fun t=>decide (to<t.due))/\RI (Pl to) (mZ f n rows D to).1 (mZ f n rows D to).2
 | 0,_,_,_,_,_,h,_,_=>by omega
 | f+1,n,rows,D,to,hn,hf,hw,hD=>by
  unfold mZ;have bg:∀ m,n<m->(∀ t ∈ Xq n D,m<=t.due)->Xq n D=D0.filter fun t=>decide (m<=t.due):=fun m hm hk=>by
   rw[hD];refine RH D0 n m hm fun t ht hlt=>?_;refine hk t ?_;rw[hD];exact mem_filter.2 ⟨mem_filter.2 ⟨ht,by simpa using Nat.le_of_lt hlt⟩,by simp;omega⟩
  split
  ·rename_i e;subst e;exact ⟨bg (n+1) af (AX hw.lo),hw.pO⟩
  ·rename_i cf;split
   ·obtain ⟨h1,h2,h3⟩:=Gq (Xq n D) to;have hlt:n<Kw (Xq n D) to:=by
     rcases h3 with h3|⟨t,ht,h3⟩
     ·omega
     ·have:=AX hw.lo t ht;omega
    exact RK D0 f _ _ _ to h1 af (hw.Gv h2) (bg _ hlt h2)
   ·exact RK D0 f (n+1) _ _ to af af hw.tick (bg (n+1) af (AX hw.lo))
def LO:∀ (f f' n:Nat) (rows:List (List Tm)) (D:List Tm) (to:Nat),n<=to->(∀ t ∈ D,n<=t.due)->to-n<f->to-n<f'->mZ f n rows D to=mZ f' n rows D to
 | 0,_,_,_,_,_,_,_,h,_=>by omega
 | _+1,0,_,_,_,_,_,_,_,h=>by omega
 | f+1,f'+1,n,rows,D,to,hn,fH,h1,h2=>by
  unfold mZ;split
  ·rfl
  ·rename_i cf;have hk:=AX fH;split
   ·obtain ⟨g1,g2,g3⟩:=Gq (Xq n D) to;have hlt:n<Kw (Xq n D) to:=by
     rcases g3 with g3|⟨t,ht,g3⟩
     ·omega
     ·have:=hk t ht;omega
    exact LO f f' _ _ _ to g1 g2 af af
   ·exact LO f f' (n+1) _ _ to af hk af af
def To.RL {p:List Nat}{s:St}{T:WT}{i k:Nat}{l:List Tm}{t':List (Nat×AV)}{x:Bk}(hT:T.wf)(hi:i<65)(hl:T.row i=l)(h0:Qb s.h s.n 0=.cells (T.cells.set (i+1) .nils))(hs:∀ b,b≠0->b<67->Qb s.h s.n b=Qb T.h 67 b)
  (hf:s.fs.H s.n=.free) (hn:68<=s.n) (hk:look s.t k=.sl 2 (2+i) 0 l.length l.length) (hp:∀ b,b ∈ p->b<2) (hx:Qb s.h s.n 67=x) (AY:bX 0 x) (ht:Qs (Ww i s.n) 68 ((k,.isl l.length (aZ l))::s.t) t'):To p s ⟨t',(67,x)::(T.put i []).h,68⟩:=by
 have fQ:=hT.len;have aY:=WT.len hT;refine To.trans (To.jZ (b:=0) (j:=i+1) (es:=2) h0 (by rw[List.getElem?_set_self af]) hf) ?_;rw[List.set_set];have dg:Qb s.h (s.n+1) (2+i)=.cells (aZ l):=by
  rw[Wa _ _ _ af,hs _ af af,WT.bG,aa af,aa af,am af,show 2+i-2=i by omega,hl]
 refine To.trans (To.gM (b:=2+i) (i:=k) (cs:=aZ l) (es:=2) (off:=0) (n:=l.length) (k:=l.length) ?_ hk) ?_
 ·show Qb ((0,_)::(s.n,_)::s.h) (s.n+1) (2+i)=_;rw[Qf,aa af,Qf,aa af];exact dg
 have ea:((aZ l).drop 0).take (l.length*2)=aZ l:=by rw[List.drop_zero,List.take_of_length_le (by rw[Jv];omega)]
 rw[ea];have RM:Ww i s.n 67=67:=by unfold Ww;rw[aa af]
 refine To.put (ex:=[(67,x)]) hT hi (N:=s.n) af af (fun b hb=>by have:=hp b hb;omega) hn ?_ ?_ ?_ (fun j hj cf=>?_) ht ⟨⟨by show 67<68;omega,rE (Nat.zero_le _) AY,?_,trivial⟩,trivial⟩ (fun q hq=>by obtain rfl:=mem_singleton.1 hq;exact Nat.le_refl 67)
 ·show Qb ((2+i,_)::(0,_)::(s.n,_)::s.h) (s.n+1) 0=_;rw[Qf,aa af,Qf,am rfl];rfl
 ·show Qb ((2+i,_)::(0,_)::(s.n,_)::s.h) (s.n+1) 1=_;rw[Qf,aa af,Qf,aa af,Qf,aa af,Wa _ _ _ af,hs 1 af af,WT.bG,aa af,am rfl]
 ·show Qb ((2+i,_)::(0,_)::(s.n,_)::s.h) (s.n+1) s.n=_;rw[Qf,aa af,Qf,aa af,Qf,am rfl];rfl
 ·show Qb ((2+i,_)::(0,_)::(s.n,_)::s.h) (s.n+1) (2+j)=_;rw[Qf,aa af,Qf,aa af,Qf,aa af,Wa _ _ _ af,hs _ af af,WT.bG,aa af,aa af,am af,show 2+j-2=j by omega]
 ·show Qb ((2+i,_)::(0,_)::(s.n,_)::s.h) (s.n+1) (Ww i s.n 67)=_;rw[RM,Qf,aa af,Qf,aa af,Qf,aa af,Wa _ _ _ af,hx];exact (Lx (fun b hb=>by omega) AY).symm
def WT.l0 (T:WT)(n:Nat):Qb T.h n 0=.cells T.cells:=by rw[WT.bG,am rfl]
def WT.l1 (T:WT)(n:Nat):Qb T.h n 1=T.mb:=by rw[WT.bG,aa (by omega),am rfl]
def qM (n:Nat)(l:List Int):ah n (Ql l)=True:=by simp[Xw,Ql,Qe]
def Qxi (D:List Tm)(n:Nat):(a7 D n).length<=D.length:=by
 unfold a7;rw[List.length_map,(Kz _).length_eq];exact List.length_filter_le _ _
def Yg6 {T':WT}   {mb:Bk}(h1:T'.now=n)(h2:Jh T'.rows rows)(h3:T'.mb=mb):T'.ji { now:=n,rows:=rows,mb:=mb }:=⟨h1,h3,h2.1,h2.2⟩
set_option maxRecDepth 20000 in
def Yb6 (T:WT)(kA:List (List Tm))(D0:List Tm)(dn:Bool)(m6:Jh T.rows kA)(eG:T.mb=.az (bA D0) dn)(hW:WG T.now kA D0)(to:Nat)(jj:T.now<=to)(RN:to<=1099511627776) :
  GQ Tryz.prog gl 98 [.ptr 0 0,.int .i64 to] T.h 67 [0,1] (fun T':WT=>T'.ji { now:=to,rows:=(mZ (to - T.now + 1) T.now kA D0 to).1,mb:=.az (bA (mZ (to - T.now + 1) T.now kA D0 to).2) false })
   (fun _=>.aR [.isl (a7 D0 (to+1)).length (Ql (a7 D0 (to+1))),.int .i64 0]) WT.h:=by
 have hlen:T.rows.length=65:=m6.1.trans hW.ri.len;have hT:=wj hlen eG;refine Rk.gq (ap rfl) (fun q hq=>Xa (((WT.as hT).mem q hq).2)) av fun c bf hg=>?_
 conv in aG _ _=>cbv
 have aW:=WT.aW hT;have qN:=WT.l0 T;have g0:=WT.iO T;have aY:=WT.len hT;generalize b9:mZ (to-T.now+1) T.now kA D0 to=fin;refine Qa ?_;refine Yc ?_;refine Qd (An @qN @g0) ?_;refine Qc ?_ ?_<;>intro h2
 ·omega
 refine Qa ?_;refine vB 6 1 rfl (by exact Qi @aW) ?_;unfold St.named
 refine Yn (fun y:WT × List (List Tm) × List Tm × Bool=>Jh y.1.rows y.2.1∧y.1.mb=.az (bA y.2.2.1) y.2.2.2∧WG y.1.now y.2.1 y.2.2.1∧y.1.now≤to∧T.now≤y.1.now∧mZ (to - y.1.now + 1) y.1.now y.2.1 y.2.2.1 to=fin∧y.2.2.1=D0.filter fun t=>decide (y.1.now≤t.due))
  (fun y=>⟨[(0,.ptr 0 0),(1,.int .i64 to),(6,.sl 1 67 0 (a7 D0 y.1.now).length (a7 D0 y.1.now).length)],(67,.cells (Ql (a7 D0 y.1.now)))::y.1.h,68⟩) (fun y=>to-y.1.now) Rk.mixed [0,1] bf
  ⟨(T,kA,D0,dn),⟨m6,eG,hW,jj,Nat.le_refl _,b9,(filter_eq_self.2 fun t ht=>by simpa using hW.lo t ht).symm⟩,?_⟩ fun y hy=>?_
 ·have e:a7 D0 T.now=[]:=Xpu D0 _ hW.lo;dsimp only;rw[e];exact To.fK (by exact Qp) fun b=>rfl
 obtain ⟨T1,rows,D,dn1⟩:=y;obtain ⟨ij,lQ,dP,hnt,pL,zQ,uI⟩:=hy;dsimp only at ij lQ dP hnt pL zQ uI ⊢;have pP:T1.rows.length=65:=ij.1.trans dP.ri.len;have dz:=wj pP lQ;have Gw:=WT.aW dz;have wq:=WT.l0 T1;have AZ:=WT.iO T1;have iL:=WT.len dz;have sT:T1.now%16<16:=Nat.mod_lt _ af;have hm:Int.tmod (T1.now:Int) 16=((T1.now%16:Nat):Int):=AN _ 16;have a6:=WT.iP dz (i:=T1.now%16) af;have wu:=dP.ri.ji ij;have td:(T1.row (T1.now%16)).Perm (D.filter fun t=>t.due==T1.now):=(wu.pG).1;have fy:=Xog dP.c4 td;have fQ:(T1.row (T1.now%16)).length<=100000:=Nat.le_trans (wu.iz af) dP.len;have ax:=Xsh D0 T1.now (T1.row (T1.now%16)) (by
  rw[uI,filter_filter]at td;refine td.trans (List.Perm.of_eq (filter_congr fun t _=>?_));rw[Bool.eq_iff_iff];simp;omega)
 have rj:=Qxi D0 T1.now;have woa:=Qxi D0 (T1.now+1);have hDl:=hW.len;have pq:WT.put T1 (T1.now%16) []={ T1 with rows:=T1.rows.set (T1.now%16) [] }:=rfl;have yS:Jh (T1.rows.set (T1.now%16) []) (rows.set (T1.now%16) []):=ij.set _ (List.Perm.refl _);have Gx:(v7 (ids (T1.row (T1.now%16)))).length=(T1.row (T1.now%16)).length:=by simp[v7,ids]
 generalize sG:T1.row (T1.now%16)=l at *
 have tg:=Xu2 c.gl (T1.put (T1.now%16) []) D l dn1 (by simp[WT.put,pP]) lQ dP.c4 af;rw[fy]at tg;have hwp:=WT.cL dz (T1.now%16) [];rw[show T1.now%16+1=1+T1.now%16 by omega]at a6;refine Qd (An @Gw (An @wq (An @AZ (An @hm @a6)))) ?_;have A0:Xq T1.now D=D0.filter fun t=>decide (T1.now+1<=t.due):=by
  rw[uI];exact RH D0 _ _ af fun t _ h=>h
 have dW:WT.wf { T1 with rows:=T1.rows.set (T1.now%16) [],mb:=.az (bA (Xq T1.now D)) false }:=⟨by simp[pP],oN 2 _⟩
 have Gy:a7 D0 T1.now++v7 (ids l)=a7 D0 (T1.now+1):=ax.symm;have A1:(a7 D0 T1.now).length+l.length=(a7 D0 (T1.now+1)).length:=by rw[<- Gy,length_append,Gx]
 have RO:=Xp (a7 D0 T1.now);have RQ:=Xp (v7 (ids l))
 refine xW (W:=fun _:Unit=>{ T1 with rows:=T1.rows.set (T1.now % 16) [],mb:=.az (bA (Xq T1.now D)) false }) tg hwp (fun _ _=>dW) bf (by simp[jX]) [(0,.ptr 0 0),(1,.int .i64 to),(36,.sl 1 67 0 (a7 D0 T1.now).length (a7 D0 T1.now).length),(37,.ptr 0 0),(38,.isl l.length (aZ l))] [(67,.cells (Ql (a7 D0 T1.now)))] 68
  (To.RL (k:=38) dz (i:=T1.now%16) af sG ?_ (fun b h1 h2=>?_) ?_ (by show 68<=68;omega) ?_ av rfl ?_ ?_) (by simp[sw,jX,EP,Ql,dm]) ?_ (by simp[Qe,qM]) fun _ _=>?_
 ·show Qb ((0,_)::_) 68 0=_;rw[Qf,am rfl,show 1+T1.now%16=T1.now%16+1 by omega]
 ·show Qb ((0,_)::(67,_)::T1.h) 68 b=_;rw[Qf,aa af,Qf,aa af,WT.bG,WT.bG]
  (repeat' split)<;>first|rfl|omega
 ·exact Qi @Gw
 ·exact Qp
 ·exact Xw.2 fun x hx=>by
   obtain ⟨n,_,rfl⟩:=mem_map.1 hx;simp[Qe]
 ·have h1:=Dd (Ww (T1.now % 16) 68) l;have kN:=Dc 68 l;have cq:Ww (T1.now % 16) 68 67=67:=by unfold Ww;rw[aa af]
  exact Qi (An @h1 (An @kN @cq))
 ·exact Qp
 clear tg;generalize kX:({ T1 with rows:=T1.rows.set (T1.now%16) [],mb:=.az (bA (Xq T1.now D)) false }:WT)=T2 at *
 have ti:=WT.aW dW;have Gz:=WT.l0 T2;have GA:=WT.l1 T2;have lR:T2.mb=.az (bA (Xq T1.now D)) false:=by rw[<- kX]
 rw[lR]at GA;have kZ:T2.now=T1.now:=by rw[<- kX]
 have LP:Jh T2.rows (rows.set (T1.now%16) []):=by rw[<- kX];exact yS
 have RT:=WT.iO T2;rw[kZ]at RT;have RU:=WT.eV dW;have qO:=WT.len dW;have fO:=sU (Xq T1.now D);refine Qa ?_;refine Yp (An @ti (An @RO (An @RQ (An @Gy (An @A1 (An @Gx (An @Gz @RT))))))) ?_;have ib:∀ {f:Nat},to-T1.now+1=f+1->mZ (f+1) T1.now rows D to=fin:=fun e=>by rw[<- e];exact zQ
 have iU:=ib (f:=to-T1.now) rfl;unfold mZ at iU;refine Qc ?_ ?_<;>intro h3
 ·have e:T1.now=to:=by omega
  rw[am e]at iU;subst e;refine Qa ?_;refine ⟨T2,?_,(To.OO (b:=68) (i:=0) rfl rfl).trans (To.eW (ex:=[(68,.dead),(68,.cells (Ql (a7 D0 (T1.now+1)))),(67,.dead),(67,.cells (Ql (a7 D0 T1.now)))]) dW av av ?_)⟩
  ·rw[<- iU];exact Yg6 kZ LP lR
  ·have aK:((Ql (a7 D0 (T1.now+1))).drop 0).take ((a7 D0 (T1.now+1)).length*1)=Ql (a7 D0 (T1.now+1)):=by
    rw[List.drop_zero,List.take_of_length_le (by rw[Nat.mul_one];simp[Ql])]
   rw[aK];have h2:∀ q,ay id (Ql q)=Ql q:=fun q=>ql _;exact Qi (An @qM @h2)
 have cf:¬ T1.now=to:=by omega
 rw[aa cf]at iU;have GB:=Nat.le_trans (xZ (n:=T1.now) (D:=D)).length_le dP.len;have hd2:∀ t ∈ Xq T1.now D,t.due<=1099511627776:=fun t ht=>dP.hi t (xZ.subset ht);have A3:=AX dP.lo;refine Qd (An @Gz (An @RT (An @GA (An @RU @fO)))) ?_;refine Qc ?_ ?_<;>intro h4
 ·rw[am (by rcases h4 with h4|h4<;>omega)]at iU;have GC:=Xua c.gl T2 (Xq T1.now D) false (by rw[<- kX];simp[pP]) lR GB hd2 to RN;obtain ⟨q1,q2,q3⟩:=Gq (Xq T1.now D) to;have hlt:T1.now<Kw (Xq T1.now D) to:=by
   rcases q3 with q3|⟨t,ht,q3⟩
   ·omega
   ·have:=A3 t ht;omega
  have tU:=dP.Gv q2;have nJ:=Xm3 D0 (n:=T1.now+1) (m:=Kw (Xq T1.now D) to) af fun t ht h=>q2 t (by rw[A0];exact mem_filter.2 ⟨ht,by simpa using h⟩);have hD3:Xq T1.now D=D0.filter fun t=>decide (Kw (Xq T1.now D) to<=t.due):=by
   have:=RH D0 T1.now (Kw (Xq T1.now D) to) hlt fun t ht h=>q2 t (by rw[A0];exact mem_filter.2 ⟨ht,decide_eq_true h⟩);rw[<- uI]at this;exact this
  have FL:∀ x:WT,x.AS (Xq T1.now D) (Kw (Xq T1.now D) to)->x.wf:=fun x ⟨l,_,e⟩=>by
   subst e;exact ⟨(RI.ka (P:=fun _ _=>True) (now:=Kw (Xq T1.now D) to) l (rows:=List.replicate 65 []) (D:=[]) ⟨by simp,by simp,fun _ _ _ _=>trivial⟩ fun _ _=>trivial).len,oN 2 _⟩
  rw[LO _ (to-Kw (Xq T1.now D) to+1) _ _ _ to q1 q2 af af]at iU;refine Qa ?_;refine xW (W:=fun x:WT=>x) GC dW FL bf (by simp[jX]) [(0,.ptr 0 0),(1,.int .i64 to),(6,.sl 1 68 0 (a7 D0 (T1.now+1)).length (a7 D0 (T1.now+1)).length),(63,.ptr 0 0),(64,.int .i64 to)] [(68,.cells (Ql (a7 D0 (T1.now+1))))] 69 (To.fK (by exact Qp) fun b=>?_) (by simp[sw,jX,EP,Ql,dm]) ?_ (by simp[Qe,ah]) fun T3 h3=>?_
  ·show Qb ((68,_)::T2.h) 69 b=Qb ((68,.cells (Ql (a7 D0 (T1.now + 1))))::(67,.dead)::(67,.cells (Ql (a7 D0 T1.now)))::T2.h) 69 b;simp only[Qf]
   (repeat' split)<;>first|rfl|omega|(subst_vars;rw[ti 69 67 (by omega)];rfl)
  ·exact Qp
  obtain ⟨l3,p3,rfl⟩:=h3;refine Qa ?_;refine ⟨({ now:=Kw (Xq T1.now D) to,rows:=l3.foldl (Xv (Kw (Xq T1.now D) to)) (List.replicate 65 []),mb:=.az (bA (Xq T1.now D)) false },(Xq T1.now D).foldl (Xv (Kw (Xq T1.now D) to)) (List.replicate 65 []),Xq T1.now D,false),⟨Jh.ka p3 (Jh.refl _),rfl,tU,q1,by dsimp only;omega,iU,hD3⟩,?_,by dsimp only;omega⟩;dsimp only;rw[nJ];refine To.Rw (ex:=[(67,.cells (Ql (a7 D0 (T1.now+1))))]) [(67,68)] (FL _ ⟨l3,p3,rfl⟩) av af rfl rfl (fun b hb=>?_) ?_ ?_ av
  ·show Qb ((68,_)::WT.h _) 69 b=_;rw[Qf,aa af,WT.bG,WT.bG]
   (repeat' split)<;>first|rfl|omega
  ·exact Qp
  ·exact Qi @qM
 ·rw[aa af]at iU;have fk:T2.rows.flatten.Perm (Xq T1.now D):=(dP.pO.ji LP).perm;have mY:=Xx0 c.gl T2 (Xq T1.now D) dW fk GB hd2 af;have hws:T2.wm.wf:=⟨((dP.pO.ji LP).tick A3 |>.len:(Uz (T1.now + 1) 4 1 T2.rows).length=65) |> fun h=>by unfold WT.wm;rw[kZ];exact h,dW.mb⟩
  have hWt:=dP.tick;rw[LO _ (to-(T1.now+1)+1) _ _ _ to af A3 af af]at iU;refine Qa ?_;refine xW (W:=fun _:Unit=>T2.wm) mY dW (fun _ _=>hws) bf (by simp[jX]) [(0,.ptr 0 0),(1,.int .i64 to),(6,.sl 1 68 0 (a7 D0 (T1.now+1)).length (a7 D0 (T1.now+1)).length),(66,.ptr 0 0)] [(68,.cells (Ql (a7 D0 (T1.now+1))))] 69 (To.fK (by exact Qp) fun b=>?_) (by simp[sw,jX,EP,Ql,dm]) ?_ (by simp[Qe,ah]) fun _ _=>?_
  ·show Qb ((68,_)::T2.h) 69 b=Qb ((68,.cells (Ql (a7 D0 (T1.now + 1))))::(67,.dead)::(67,.cells (Ql (a7 D0 T1.now)))::T2.h) 69 b;simp only[Qf]
   (repeat' split)<;>first|rfl|omega|(subst_vars;rw[ti 69 67 (by omega)];rfl)
  ·exact Qp
  refine Qa ?_;have hsn:T2.wm.now=T1.now+1:=by unfold WT.wm;rw[kZ]
  refine ⟨(T2.wm,Uz (T1.now+1) 4 1 (rows.set (T1.now%16) []),Xq T1.now D,false),⟨?_,lR,by dsimp only;rw[hsn];exact hWt,by dsimp only;omega,by dsimp only;omega,by dsimp only;rw[hsn];exact iU,by dsimp only;rw[hsn];exact A0⟩,?_,by dsimp only;omega⟩
  ·show Jh (Uz (T2.now+1) 4 1 T2.rows) _;rw[kZ];exact LP.step 4 1
  dsimp only;rw[hsn];refine To.Rw (ex:=[(67,.cells (Ql (a7 D0 (T1.now+1))))]) [(67,68)] hws av af rfl rfl (fun b hb=>?_) ?_ ?_ av
  ·show Qb ((68,_)::WT.h _) 69 b=_;rw[Qf,aa af,WT.bG,WT.bG]
   (repeat' split)<;>first|rfl|omega
  ·exact Qp
  ·exact Qi @qM
def Qyd (T:WT)(D:List Tm)(dn:Bool)(hlen:T.rows.length=65)(eG:T.mb=.az (bA D) dn)(x:Int)(hx:ky D x=false) :
  GQ Tryz.prog gl 164 [.ptr 0 0,.int .i64 x] T.h 67 [0,1] (fun _:Unit=>True) (fun _=>.int .i64 7) (fun _=>T.h):=by
 have hT:=wj hlen eG;refine Lw.gq (ap rfl) (fun q hq=>Xa (((WT.as hT).mem q hq).2)) av fun c bf hg=>?_
 conv in aG _ _=>cbv
 have aW:=WT.aW hT;have qN:=WT.l0 T;have mN:=WT.l1 T;rw[eG]at mN;have lX:=WT.eV hT;have aY:=WT.len hT;have eb:=Dg D;have eM:=rG x;have AO:=LC D x;have fc:=LD D x;refine Qd @aW ?_;refine Yc ?_;refine Qd (An @aW (An @qN @lX)) ?_;refine Ul sR (An @aW (An @mN (An @eb (An @eM (An @fc (An @AO @hx)))))) ?_;refine Yc ?_;refine Qa ?_;refine ⟨(),To.eW (ex:=[(67,.cells [.int .i64 x])]) hT av av (by simp[Qs,Qe,look,aB])⟩
def Yco (T:WT)(hT:T.wf):GQ Tryz.prog gl 63 [.ptr 0 0] T.h 67 (List.range 67) (fun _:Unit=>True) (fun _=>.int .i64 T.now) (fun _=>T.h):=by
 refine Ybf.gq (ap rfl) (fun q hq=>Xa (((WT.as hT).mem q hq).2)) (fun b hb=>mem_range.1 hb) fun c bf hg=>?_
 conv in aG _ _=>cbv
 have qN:=WT.l0 T;have g0:=WT.iO T;have aY:=WT.len hT;refine Qa ?_;refine Yc ?_;refine Qd (An @qN @g0) ?_;exact ⟨(),To.eW (ex:=[]) hT (fun b hb=>mem_range.1 hb) av (by simp[Qs,Qe,look,aB])⟩
def Uv (D:List Tm)(x:Int)(d:Nat):List Tm:=Xz x D++[⟨x,d⟩]
def WT.arm (T:WT)(D:List Tm)(x:Int)(d:Nat):WT:={ T with rows:=Xv T.now (T.rows.map (Xz x)) ⟨x,d⟩,mb:=.az (bA (Uv D x d)) false }
def Xjh {x:Int}(h:ky D x=false):∀ t ∈ D,t.id≠x:=fun t ht e=>by
 unfold ky at h;rw[List.any_eq_false]at h;exact h t ht (by simpa using e)
def Xf3 {x:Int}:∀ t ∈ Xz x D,t.id≠x:=fun t ht=>by simpa using (mem_filter.1 ht).2
def Qw2 {x:Int}(h:∀ t ∈ rows.flatten,t.id≠x):rows.map (Xz x)=rows:=by
 refine (map_congr_left fun r hr=>?_).trans (map_id rows);exact LF fun t ht=>h t (List.mem_flatten.2 ⟨r,hr,ht⟩)
def WT.rI (T:WT)(D:List Tm)(dn:Bool)(x:Int):WT:={ T with rows:=T.rows.map (Xz x),mb:=.az (bA (Xz x D)) (!ky D x&&dn) }
def RV (D:List Tm)(x:Int):Int:=bif ky D x then 0 else 7
def Xcv (T:WT)(D:List Tm)(dn:Bool)(hlen:T.rows.length=65)(eG:T.mb=.az (bA D) dn)(hd:D.Pairwise fun a b=>a.id≠b.id)(hp:T.rows.flatten.Perm D)(fQ:∀ i,(T.row i).length<=1000000)(x:Int) :
  GQ Tryz.prog gl 164 [.ptr 0 0,.int .i64 x] T.h 67 [0,1] (fun _:Unit=>True) (fun _=>.int .i64 (RV D x)) (fun _=>(T.rI D dn x).h):=by
 cases hx:ky D x with
 | true =>
  have:=Xkm gl T D dn hlen eG hd fQ x hx;unfold WT.rI RV;rw[hx];exact this
 | false =>
  have:=Qyd gl T D dn hlen eG x hx;have br:=Xjh hx;have e:T.rI D dn x=T:=by
   unfold WT.rI;rw[hx,Qw2 fun t ht=>br t (hp.mem_iff.1 ht),LF br];show ({ T with mb:=.az (bA D) dn }:WT)=T;rw[<- eG]
  rw[e];unfold RV;rw[hx];exact this
def Yd4 (T:WT)(D:List Tm)(dn:Bool)(hlen:T.rows.length=65)(eG:T.mb=.az (bA D) dn)(hd:D.Pairwise fun a b=>a.id≠b.id)(hp:T.rows.flatten.Perm D)(hD:D.length<=100000)(hn:T.now<=1099511627776)(x:Int)(d:Nat)(hdm:d<=1099511627776)(cx:ky D x=true\/D.length<400) :
  GQ Tryz.prog gl 131 [.ptr 0 0,.int .i64 x,.int .i64 d] T.h 67 [0,1] (fun _:Unit=>True) (fun _=>.int .i64 0) (fun _=>(T.arm D x (max d T.now)).h):=by
 have hT:=wj hlen eG;refine Rj.gq (ap rfl) (fun q hq=>Xa (((WT.as hT).mem q hq).2)) av fun c bf hg=>?_
 conv in aG _ _=>cbv
 have aW:=WT.aW hT;have qN:=WT.l0 T;have mN:=WT.l1 T;rw[eG]at mN;have lX:=WT.eV hT;have aY:=WT.len hT;have eb:=Dg D;have eM:=rG x;have AO:=LC D x;have fc:=LD D x;have fO:=sU D;have hri:RI (fun _ _=>True) T.rows D:=RI.T hlen hp;have fQ:∀ i,(T.row i).length<=1000000:=fun i=>by
  by_cases hi:i<65
  ·exact Nat.le_trans (hri.iz hi) af
  ·have:T.row i=[]:=by unfold WT.row;simp[List.getD,hlen,show 65≤i by omega]
   rw[this];simp
 refine Qa ?_;refine Yc ?_;refine Qa ?_;refine Qc ?_ ?_<;>intro h2
 ·omega
 refine Qd (An @qN @lX) ?_;refine Ul sR (An @mN (An @eb (An @eM (An @fc (An @AO (An @qN (An @lX @fO))))))) ?_;refine Qc ?_ ?_<;>intro h3
 ·rcases cx with h|h
  ·rw[h]at h3;simp at h3
  ·omega
 refine Qa ?_;have AB:=Xcv c.gl T D dn hlen eG hd hp fQ x;have fV:(T.rI D dn x).wf:=⟨by simp[WT.rI,hlen],oN 2 _⟩
 have lQ:(T.rI D dn x).mb=.az (bA (Xz x D)) (!ky D x&&dn):=rfl;have mL:(T.rI D dn x).now=T.now:=rfl;have wu:=hri.filter fun t=>!(t.id==x);have qJ:∀ i,i<65->((T.rI D dn x).row i).length<=1000000:=fun i hi=>by
  have:=wu.iz hi;have h2:=List.length_filter_le (fun t:Tm=>!(t.id==x)) D;exact Nat.le_trans this af
 have iB:∀ m,WT.lay { T.rI D dn x with mb:=.az (bA (Uv D x m)) false } ⟨x,m⟩=T.arm D x m:=fun m=>rfl;refine xW (W:=fun _:Unit=>T.rI D dn x) AB hT (fun _ _=>fV) bf (by simp[jX]) [(36,.ptr 0 0),(37,.int .i64 x),(0,.ptr 0 0),(1,.int .i64 x),(2,.int .i64 d)] [] 67 (To.fK (by exact Qp) fun b=>rfl) av ?_ (by simp[Qe]) fun _ _=>?_
 ·exact Qp
 generalize dz:T.rI D dn x=T1 at *
 have wq:=WT.l0 T1;have A4:=WT.l1 T1;rw[lQ]at A4;have AZ:=WT.iO T1;rw[mL]at AZ;have GF:=WT.eV fV;have iL:=WT.len fV;have GG:=Dg (Xz x D);obtain ⟨M,hM,hMv,ep⟩:∃ M,max d T.now=M/\M<=1099511627776/\((((T.now:Int)>(d:Int))=True/\M=T.now)\/(((T.now:Int)>(d:Int))=False/\M=d)):=⟨_,rfl,by omega,by
  by_cases h:d<T.now
  ·left;exact ⟨eq_true af,by omega⟩
  ·right;exact ⟨eq_false af,by omega⟩⟩
 rw[hM];have m7:=Xub (Xf3 (D:=D) (x:=x)) M;have tj:=hMv;rcases ep with ⟨ep,LQ⟩|⟨ep,LQ⟩
 ·have AZ:T1.cells.getD 0 .any=.int .i64 (M:Int):=by rw[AZ,LQ]
  rw[<- LQ]at ep;refine Qd (An @wq (An @AZ (An @GF @ep))) ?_;refine xq sR (An @A4 (An @GG (An @eM @m7))) ?_;have dW:WT.wf { T1 with mb:=.az (bA (Uv D x M)) false }:=⟨fV.len,oN 2 _⟩
  have eQ:=LA c.gl { T1 with mb:=.az (bA (Uv D x M)) false } dW ⟨x,M⟩ (by show T1.now<=_;omega) tj (qJ _ (Ge _ _));rw[iB]at eQ;have GH:(T.arm D x M).wf:=⟨by simp[WT.arm,Xv,hlen],oN 2 _⟩
  refine xW (W:=fun _:Unit=>T.arm D x M) eQ dW (fun _ _=>GH) bf (by simp[jX]) [(51,.ptr 0 0),(54,.agg [.int .i64 x,.int .i64 (M:Int)])] [] 67 (To.trans (To.gP (b:=1) (kvs:=bA (Uv D x M)) (dn:=!ky D x&&dn) rfl) (To.fK (by exact Qp) fun b=>?_)) av ?_ (by simp[Qe,ah]) fun _ _=>?_
  ·have AT:WT.cells { T1 with mb:=.az (bA (Uv D x M)) false }=T1.cells:=rfl;show Qb (WT.h { T1 with mb:=.az (bA (Uv D x M)) false }) 67 b=Qb ((1,.az (bA (Uv D x M)) false)::(1,_)::T1.h) 67 b;simp only[Qf,WT.bG,AT]
   (repeat' split)<;>first|rfl|omega
  ·exact Qp
  refine Qa ?_;exact ⟨(),To.eW (ex:=[]) GH av av (by simp[Qs,Qe,look,aB])⟩
 ·subst LQ;refine Qd (An @wq (An @AZ (An @GF @ep))) ?_;refine xq sR (An @A4 (An @GG (An @eM @m7))) ?_;have dW:WT.wf { T1 with mb:=.az (bA (Uv D x M)) false }:=⟨fV.len,oN 2 _⟩
  have eQ:=LA c.gl { T1 with mb:=.az (bA (Uv D x M)) false } dW ⟨x,M⟩ (by show T1.now<=_;omega) tj (qJ _ (Ge _ _));rw[iB]at eQ;have GH:(T.arm D x M).wf:=⟨by simp[WT.arm,Xv,hlen],oN 2 _⟩
  refine xW (W:=fun _:Unit=>T.arm D x M) eQ dW (fun _ _=>GH) bf (by simp[jX]) [(51,.ptr 0 0),(54,.agg [.int .i64 x,.int .i64 (M:Int)])] [] 67 (To.trans (To.gP (b:=1) (kvs:=bA (Uv D x M)) (dn:=!ky D x&&dn) rfl) (To.fK (by exact Qp) fun b=>?_)) av ?_ (by simp[Qe,ah]) fun _ _=>?_
  ·have AT:WT.cells { T1 with mb:=.az (bA (Uv D x M)) false }=T1.cells:=rfl;show Qb (WT.h { T1 with mb:=.az (bA (Uv D x M)) false }) 67 b=Qb ((1,.az (bA (Uv D x M)) false)::(1,_)::T1.h) 67 b;simp only[Qf,WT.bG,AT]
   (repeat' split)<;>first|rfl|omega
  ·exact Qp
  refine Qa ?_;exact ⟨(),To.eW (ex:=[]) GH av av (by simp[Qs,Qe,look,aB])⟩
def Xgv (T:WT)(hT:T.wf)(x d:Int)(hd:d<0\/1099511627776<d):GQ Tryz.prog gl 131 [.ptr 0 0,.int .i64 x,.int .i64 d] T.h 67 [0,1] (fun _:Unit=>True) (fun _=>.int .i64 2) (fun _=>T.h):=by
 refine Rj.gq (ap rfl) (fun q hq=>Xa (((WT.as hT).mem q hq).2)) av fun c bf hg=>?_
 conv in aG _ _=>cbv
 refine Qa ?_;refine Yc ?_;refine Qa ?_;refine Qc ?_ ?_<;>intro h2
 ·refine Qa ?_;exact ⟨(),To.eW (ex:=[]) hT av av (by simp[Qs,Qe,look,aB])⟩
 ·omega
def Xs9 (T:WT)(D:List Tm)(dn:Bool)(hlen:T.rows.length=65)(eG:T.mb=.az (bA D) dn)(x d:Int)(hd:0<=d)(hdm:d<=1099511627776)(hx:ky D x=false)(hD:400<=D.length):GQ Tryz.prog gl 131 [.ptr 0 0,.int .i64 x,.int .i64 d] T.h 67 [0,1] (fun _:Unit=>True) (fun _=>.int .i64 6) (fun _=>T.h):=by
 have hT:=wj hlen eG;refine Rj.gq (ap rfl) (fun q hq=>Xa (((WT.as hT).mem q hq).2)) av fun c bf hg=>?_
 conv in aG _ _=>cbv
 have qN:=WT.l0 T;have mN:=WT.l1 T;rw[eG]at mN;have lX:=WT.eV hT;have aY:=WT.len hT;have eb:=Dg D;have eM:=rG x;have AO:=LC D x;have fc:=LD D x;have fO:=sU D;refine Qa ?_;refine Yc ?_;refine Qa ?_;refine Qc ?_ ?_<;>intro h2
 ·omega
 refine Qd (An @qN @lX) ?_;refine Ul sR (An @mN (An @eb (An @eM (An @fc (An @AO (An @qN (An @lX @fO))))))) ?_;refine Qc ?_ ?_<;>intro h3
 ·refine Qa ?_;exact ⟨(),To.eW (ex:=[]) hT av av (by simp[Qs,Qe,look,aB])⟩
 ·rw[hx]at h3;simp at h3;omega
def Xgj (T:WT)(hT:T.wf)(d:Int)(hd:d<T.now\/1099511627776<d):GQ Tryz.prog gl 98 [.ptr 0 0,.int .i64 d] T.h 67 [0,1] (fun _:Unit=>True) (fun _=>.aR [.nils,.int .i64 2]) (fun _=>T.h):=by
 refine Rk.gq (ap rfl) (fun q hq=>Xa (((WT.as hT).mem q hq).2)) av fun c bf hg=>?_
 conv in aG _ _=>cbv
 have qN:=WT.l0 T;have g0:=WT.iO T;have aY:=WT.len hT;refine Qa ?_;refine Yc ?_;refine Qd (An @qN @g0) ?_;refine Qc ?_ ?_<;>intro h2
 ·refine Qa ?_;exact ⟨(),To.eW (ex:=[]) hT av av (by simp[Qs,Qe,ah,look,aB,ay])⟩
 ·omega
def GQ.pQ {gl:Nat->AV}  {args:List AV}    {r:AV}{T2:WT}{Q:WT->Prop}(h:GQ P gl f args aL m p (fun _:Unit=>True) (fun _=>r) (fun _=>T2.h))(hQ:Q T2):GQ P gl f args aL m p Q (fun _=>r) WT.h :=
 ⟨h.1,fun w vs G X g hR hv=>(h.2 w vs G X g hR hv).mono fun e w' ⟨_,v,g',q1,q2,q3,q4,q5⟩=>⟨T2,v,g',hQ,q2,q3,q4,q5⟩⟩
def GQ.wk {gl:Nat->AV}  {args:List AV}    {ι:Type}{Q:ι->Prop}{r r':ι->AV}{ax:ι->List (Nat×Bk)}(h:GQ P gl f args aL m p Q r ax)(hr:∀ x,Wk (r x) (r' x)):GQ P gl f args aL m p Q r' ax :=
 ⟨h.1,fun w vs G X g hR hv=>(h.2 w vs G X g hR hv).mono fun e w' ⟨x,v,g',q1,q2,q3,q4,q5⟩=>⟨x,v,g',q1,q2,q3,q4,hr x _ _ _ _ q5⟩⟩
structure WI (T:WT)(n:Nat)(D:List Tm):Prop where
 now:T.now=n
 mb:∃ dn,T.mb=.az (bA D) dn
 wg:WG n T.rows D
 cap:D.length<=400
 hi:n<=1099511627776
def WI.wf {T:WT}   (h:WI T n D):T.wf:=by
 obtain ⟨dn,e⟩:=h.mb;exact wj h.wg.ri.len e
def WI.ji {T T':WT}   (h:WI T n D)(hs:T'.ji T):WI T' n D :=
 ⟨hs.now.trans h.now,by obtain ⟨dn,e⟩:=h.mb;exact ⟨dn,hs.mb.trans e⟩,⟨h.wg.ri.ji ⟨hs.len,hs.row⟩,h.wg.lo,h.wg.hi,h.wg.c4,h.wg.len⟩,h.cap,h.hi⟩
def WI.gA {T:WT}   (h:WI T n D)(gl:Nat->AV):GD Tryz.prog gl 63 [.ptr 0 0] T.hb 67 (List.range 67) (.int .i64 n) T.hb :=
 Df fun T' hs=>by
  have:=Yco gl T' (h.ji hs).wf;rw[(h.ji hs).now]at this;exact this.pQ hs
def Xvg (h:Jh r' r)(x:Int):Jh (r'.map (Xz x)) (r.map (Xz x)):=by
 refine ⟨by simp[h.1],fun i=>?_⟩;have e:∀ l:List (List Tm),(l.map (Xz x)).getD i []=Xz x (l.getD i []):=fun l=>by
  simp only[List.getD,List.getElem?_map];cases l[i]?<;>rfl
 rw[e,e];exact (h.2 i).filter _
def Xxm (x:Int)(D:List Tm):(Xz x D).length<=D.length:=List.length_filter_le _ _
def A5 (n:Nat)(D:List Tm)(x d:Int):Int×List Tm:=if d<0\/1099511627776<d then (2,D) else if ky D x=false/\400<=D.length then (6,D) else (0,Uv D x (max d.toNat n))
def Xqm (D:List Tm)(x:Int)(d:Nat):((⟨x,d⟩:Tm)::Xz x D).Perm (Uv D x d):=(List.perm_append_singleton _ _).symm
def WI.tm {T:WT}   (h:WI T n D)(gl:Nat->AV)(x d:Int):∃ T',WI T' n (A5 n D x d).2/\GD Tryz.prog gl 131 [.ptr 0 0,.int .i64 x,.int .i64 d] T.hb 67 [0,1] (.int .i64 (A5 n D x d).1) T'.hb:=by
 unfold A5;by_cases h1:d<0\/1099511627776<d
 ·rw[am h1];exact ⟨T,h,Df fun T' hs=>(Xgv gl T' (h.ji hs).wf x d h1).pQ hs⟩
 rw[aa h1];obtain ⟨dn,e⟩:=h.mb;obtain ⟨k,rfl⟩:∃ k:Nat,d=k:=⟨d.toNat,by omega⟩
 by_cases h2:ky D x=false/\400<=D.length
 ·rw[am h2];exact ⟨T,h,Df fun T' hs=>(Xs9 gl T' D dn (h.ji hs).wg.ri.len (hs.mb.trans e) x k af af h2.1 h2.2).pQ hs⟩
 rw[aa h2];rw[show (k:Int).toNat=k by omega];have cx:ky D x=true\/D.length<400:=by
  cases hx:ky D x with
  | true=>exact .inl rfl
  | false=>exact .inr (by simp[hx]at h2;omega)
 have cD:=h.wg.ri.filter fun t=>!(t.id==x);have eQ:RI (Pl n) (Xv T.now (T.rows.map (Xz x)) ⟨x,max k n⟩) (Uv D x (max k n)):=by
  rw[h.now];exact (RI.lay (now:=n) (t:=⟨x,max k n⟩) cD (Re (by show n<=max k n;omega))).jh (Xqm D x _)
 have bQ:∀ t ∈ Uv D x (max k n),t ∈ Xz x D\/t=⟨x,max k n⟩:=fun t ht=>by
  rcases mem_append.1 ht with h|h
  ·exact .inl h
  ·exact .inr (mem_singleton.1 h)
 have hlen:(Uv D x (max k n)).length<=400:=by
  unfold Uv;rw[length_append];have h3:=Xxm x D;have h4:=h.cap;simp only[length_cons,length_nil];rcases cx with h5|h5
  ·have:(Xz x D).length<D.length:=by
    unfold ky at h5;rw[List.any_eq_true]at h5;obtain ⟨t,ht,hx⟩:=h5;unfold Xz;rw[List.length_filter_lt_length_iff_exists];exact ⟨t,ht,by simp[hx]⟩
   omega
  ·omega
 refine ⟨T.arm D x (max k n),⟨h.now,⟨_,rfl⟩,⟨eQ,fun t ht=>?_,fun t ht=>?_,?_,by dsimp only;omega⟩,hlen,h.hi⟩,Df fun T' hs=>?_⟩
 ·rcases bQ t ht with ht|rfl
  ·exact h.wg.lo t (LH.subset ht)
  ·show n<=max k n;omega
 ·rcases bQ t ht with ht|rfl
  ·exact h.wg.hi t (LH.subset ht)
  ·show max k n<=1099511627776;have:=h.hi;omega
 ·unfold Uv;rw[List.pairwise_append];refine ⟨h.wg.c4.sublist LH,by simp,fun a ha b hb=>?_⟩;obtain rfl:=mem_singleton.1 hb;exact Xf3 a ha
 ·have h':=h.ji hs;have oc:T'.now=n:=h'.now;have:=Yd4 gl T' D dn h'.wg.ri.len (hs.mb.trans e) h'.wg.c4 h'.wg.ri.perm h'.wg.len (by rw[oc];exact h.hi) x k af cx;rw[oc]at this;refine this.pQ ?_;have hr:=(Xvg (r':=T'.rows) (r:=T.rows) ⟨hs.len,hs.row⟩ x).lay T.now ⟨x,max k n⟩;refine ⟨hs.now,rfl,?_,?_⟩
  ·have:=hr.1;unfold WT.arm;rw[hs.now];exact this
  ·have:=hr.2;unfold WT.arm;rw[hs.now];exact this
def ya (n:Nat)(D:List Tm)(to:Int):Int×List Int×Nat×List Tm:=if to<n\/1099511627776<to then (2,[],n,D) else (0,a7 D (to.toNat+1),to.toNat,D.filter fun t=>decide (to.toNat<t.due))
def WI.A6 {T:WT}   (h:WI T n D)(gl:Nat->AV)(to:Int):∃ T',WI T' (ya n D to).2.2.1 (ya n D to).2.2.2/\GD Tryz.prog gl 98 [.ptr 0 0,.int .i64 to] T.hb 67 [0,1] (.aR [.isl (ya n D to).2.1.length (Ql (ya n D to).2.1),.int .i64 (ya n D to).1]) T'.hb:=by
 unfold ya;by_cases h1:to<n\/1099511627776<to
 ·rw[am h1];exact ⟨T,h,Df fun T' hs=>((Xgj gl T' (h.ji hs).wf to (by rw[(h.ji hs).now];exact h1)).wk (r':=fun _=>.aR [.isl 0 (Ql []),.int .i64 2]) fun _=>Wk.ON Wk.nils (Wk.refl _)).pQ hs⟩
 rw[aa h1];obtain ⟨dn,e⟩:=h.mb;obtain ⟨k,rfl⟩:∃ k:Nat,to=k:=⟨to.toNat,by omega⟩
 rw[show (k:Int).toNat=k by omega];have hD:=RK D (k-n+1) n T.rows D k af af h.wg (filter_eq_self.2 fun t ht=>by simpa using h.wg.lo t ht).symm;have cD:(D.filter fun t=>decide (k<t.due)).Sublist D:=List.filter_sublist;refine ⟨{ now:=k,rows:=(mZ (k-n+1) n T.rows D k).1,mb:=.az (bA (mZ (k-n+1) n T.rows D k).2) false },⟨rfl,⟨false,by rw[hD.1]⟩,⟨?_,fun t ht=>?_,fun t ht=>h.wg.hi t (cD.subset ht),h.wg.c4.sublist cD,Nat.le_trans cD.length_le h.wg.len⟩,Nat.le_trans cD.length_le h.cap,by dsimp only;omega⟩,Df fun T' hs=>?_⟩
 ·have:=hD.2;rw[hD.1]at this ⊢;exact this
 ·have:=(mem_filter.1 ht).2;simp at this;show k<=t.due;omega
 ·have h':=h.ji hs;have oc:T'.now=n:=h'.now;have GI:WG T'.now T.rows D:=by rw[oc];exact h.wg
  have:=Yb6 gl T' T.rows D dn ⟨hs.len,hs.row⟩ (hs.mb.trans e) GI k af af;rw[oc]at this;exact this
def GS.to0 {gl:Nat->AV}  {args:List AV}{n n':Nat}{r r':AV}{ax mG:List (Nat×Bk)}(h:GS P gl f args [] 0 r ax n)(jj:To [] ⟨[(0,r)],ax,n⟩ ⟨[(0,r')],mG,n'⟩):GS P gl f args [] 0 r' mG n':=by
 refine ⟨h.1,fun w vs G X g hR hv=>(h.2 w vs G X g hR hv).mono ?_⟩;rintro e w' ⟨v,g',q1,q2,q3,q4⟩;have gE:R ⟨1,w,G,X,gl,[]⟩ g' (⟨[(0,r)],ax,n⟩:St).fs ⟨#[v],[]⟩ w':=by
  refine ⟨rfl,rfl,fun i=>?_,q2.gl,q2.h,q2.inj,q2.old,q2.fr,q2.xs,q2.jn⟩;show VR g' _ w' (look [(0,r)] i) _;rw[Jn];split
  ·rename_i hi;subst hi;exact q4
  ·exact .any _
 obtain ⟨g2,cp⟩:=jj _ g' _ w' (fun q hq=>by cases hq) gE;exact ⟨v,g2,q1,⟨rfl,rfl,fun i=>.any _,cp.gl,cp.h,cp.inj,cp.old,cp.fr,cp.xs,fun q hq=>by cases hq⟩,fun b hb=>by omega,cp.t 0⟩
def To.dM {T:WT}  (hex:∀ q ∈ ex,67<=q.1)(hT:T.wf):To p ⟨t,ex++T.h,n⟩ ⟨t,ex++T.hb,n⟩:=fun c g a w _ hR=>by
 have hl:=hT.len;have key:∀ b,(Qb (ex++T.hb) n b=Qb (ex++T.h) n b)\/∃ l,Qb (ex++T.h) n b=.cells (aZ l)/\Qb (ex++T.hb) n b=.dM (qH l):=fun b=>by
  by_cases hb:b<67
  ·rw[Xl fun q hq e=>by have:=hex q hq;omega,Xl fun q hq e=>by have:=hex q hq;omega,WT.bG,WT.ef];by_cases h0:0=b
   ·rw[am h0,am h0];exact .inl rfl
   by_cases h1:1=b
   ·rw[aa h0,aa h0,am h1,am h1];exact .inl rfl
   rw[aa h0,aa h0,aa h1,aa h1,am af,am af];exact .inr ⟨_,rfl,rfl⟩
  ·exact .inl (Cv (by rw[WT.bG,WT.ef,aa af,aa af,aa af,aa (show ¬ 0=b by omega),aa (show ¬ 1=b by omega),aa (show ¬ (2<=b/\b<2+T.rows.length) by omega)]))
 refine ⟨g,hR.gQ (fun i v hv=>hv) (fun b hb=>?_) fun b=>?_⟩
 ·show BR _ _ _ _ (Qb (ex++T.hb) n b);have e:(⟨t,ex++T.h,n⟩:St).fs.H b=Qb (ex++T.h) n b:=rfl;rw[e]at hb;rcases key b with h|⟨l,h1,h2⟩
  ·rw[h];exact hb
  ·rw[h1]at hb;rw[h2];exact Xdk hb (List.Perm.refl _)
 ·show (Qb (ex++T.hb) n b).live ↔ (Qb (ex++T.h) n b).live;rcases key b with h|⟨l,h1,h2⟩
  ·rw[h]
  ·rw[h1,h2];exact ⟨fun _=>trivial,fun _=>trivial⟩
def Xpz (m:Nat)(mb:Bk)(h:bX 2 mb):(Kt m mb).wf:=⟨by simp[Kt],h⟩
def Qty (n:Nat)(hn:n<=1099511627776):WI (Kt n (.az [] true)) n [] :=
 ⟨rfl,⟨true,rfl⟩,⟨RI.Gf (D:=[]) (l:=[]) (List.Perm.refl _) av,by simp,by simp,by simp,by simp⟩,by simp,hn⟩
def Xu5 (n:Nat)(hn:n<=1099511627776):GS Tryz.prog gl 70 [.int .i64 n] [] 0 (.aR [.ptr 0 0,.int .i64 0]) (Kt n (.az [] true)).hb 67:=by
 have h0:GS Tryz.prog gl 70 [.int .i64 n] [] 0 (.aR [.ptr 0 0,.int .i64 0]) [(0,.cells (pM n)),(1,.az [] true)] 2:=Yay gl n af af;refine h0.to0 (To.trans (To.nils (m:=n) (mb:=.az [] true) (t':=[(0,.aR [.ptr 0 0,.int .i64 0])]) rfl (fun j=>?_) (Nat.le_refl 2) rfl (fun q hq=>by cases hq) av ?_) (To.dM (ex:=[]) av (Xpz n (.az [] true) fun q hq=>by cases hq)))
 ·show Qb [(0,_),(1,_)] (2+j) (2+j)=.free;rw[Qf,aa af,Qf,aa af,Iy,aa af]
 ·simp[Qs,Qe,ah,look,aB,ay,l5]
open Classical in
noncomputable def qP (s:St):Nat->List (Nat×Bk)
 | 0=>[]
 | k+1=>if (Qb s.h s.n k).live then (k,Qb s.h s.n k)::qP s k else qP s k
def LR {s:St}:∀ {k:Nat} {q:Nat×Bk},q ∈ qP s k ↔ q.1<k/\(Qb s.h s.n q.1).live/\q.2=Qb s.h s.n q.1
 | 0,q=>by simp[qP]
 | k+1,q=>by
  unfold qP;split
  ·rename_i h;rw[mem_cons,LR];constructor
   ·rintro (rfl|⟨h1,h2⟩)
    ·exact ⟨by dsimp only;omega,h,rfl⟩
    ·exact ⟨by omega,h2⟩
   ·rintro ⟨h1,h2,h3⟩;by_cases e:q.1=k
    ·left;rw[e]at h3;exact Prod.ext e h3
    ·right;exact ⟨by omega,h2,h3⟩
  ·rename_i h;rw[LR];constructor
   ·rintro ⟨h1,h2⟩;exact ⟨by omega,h2⟩
   ·rintro ⟨h1,h2,h3⟩;refine ⟨?_,h2,h3⟩;by_cases e:q.1=k
    ·rw[e]at h2;exact (h h2).elim
    ·omega
open Classical in
def RX {s:St}{n b:Nat}:∀ {k:Nat},Qb (qP s k) n b=if b<k/\(Qb s.h s.n b).live then Qb s.h s.n b else if b<n then .dead else .free
 | 0=>by rw[aa af];rfl
 | k+1=>by
  unfold qP;split
  ·rename_i h;rw[Qf,RX];by_cases e:k=b
   ·subst e;rw[am rfl,am ⟨by omega,h⟩]
   ·rw[aa e];by_cases h2:b < k∧(Qb s.h s.n b).live
    ·rw[am h2,am ⟨by omega,h2.2⟩]
    ·rw[aa h2,aa (show ¬ (b<k+1/\(Qb s.h s.n b).live) by rintro ⟨h3,h4⟩;exact h2 ⟨by omega,h4⟩)]
  ·rename_i h;rw[RX];by_cases h2:b < k∧(Qb s.h s.n b).live
   ·rw[am h2,am ⟨by omega,h2.2⟩]
   ·have h5:¬ (b<k+1/\(Qb s.h s.n b).live):=by
     rintro ⟨h3,h4⟩;by_cases e:b=k
     ·subst e;exact h h4
     ·exact h2 ⟨by omega,h4⟩
    rw[aa h2,aa h5]
def RY {ρ:Nat->Nat}{n':Nat}{s s':St}(ct:∀ b b',b<n'->b'<n'->(Qb s'.h s'.n b).live->(Qb s'.h s'.n b').live->ρ b=ρ b'->b=b')(hl:∀ b,b<n'->(Qb s'.h s'.n b).live->bX n' (Qb s'.h s'.n b)/\Qb s.h s.n (ρ b)=Qw ρ (Qb s'.h s'.n b)):∀ k,k<=n'->qd ρ n' s (qP s' k)
 | 0,_=>trivial
 | k+1,hk=>by
  unfold qP;split
  ·rename_i h;obtain ⟨h1,h2⟩:=hl k af h;have not:∀ l:List (Nat×Bk),(∀ q ∈ l,q.1<k/\(Qb s'.h s'.n q.1).live)->vh ρ k l:=fun l=>by
    induction l with
    | nil=>intro _;trivial
    | cons q l ih =>
     intro hq;obtain ⟨i,x⟩:=q;obtain ⟨g1,g2⟩:=hq (i,x) av;refine ⟨fun e=>?_,ih fun q db=>hq q (by simp[db])⟩;have g1:i<k:=g1;have:=ct i k af af g2 h e;omega
   exact ⟨⟨by omega,h1,h2,not _ fun q hq=>⟨(LR.1 hq).1,(LR.1 hq).2.1⟩⟩,RY ct hl k af⟩
  ·exact RY ct hl k af
open Classical in
def Qqp {s':St}(hd:∀ b,b<s'.n->¬ (Qb s'.h s'.n b).live->Qb s'.h s'.n b=.dead)(hf:∀ b,s'.n<=b->Qb s'.h s'.n b=.free)(b:Nat):Qb (qP s' s'.n) s'.n b=Qb s'.h s'.n b:=by
 rw[RX];by_cases h1:b<s'.n
 ·by_cases h2:(Qb s'.h s'.n b).live
  ·rw[am ⟨h1,h2⟩]
  ·rw[aa fun h=>h2 h.2,am h1,hd b h1 h2]
 ·rw[aa fun h=>h1 h.1,aa h1,hf b af]
def To.lk {p:List Nat}{s s':St}(ρ:Nat->Nat)(hp:∀ b ∈ p,ρ b=b/\b<s'.n)(aL:∀ b,(Qb s'.h s'.n b).live->b<s'.n)(hd:∀ b,b<s'.n->¬ (Qb s'.h s'.n b).live->Qb s'.h s'.n b=.dead)(hf:∀ b,s'.n<=b->Qb s'.h s'.n b=.free)
  (ct:∀ b b',b<s'.n->b'<s'.n->(Qb s'.h s'.n b).live->(Qb s'.h s'.n b').live->ρ b=ρ b'->b=b') (hl:∀ b,b<s'.n->(Qb s'.h s'.n b).live->bX s'.n (Qb s'.h s'.n b)/\Qb s.h s.n (ρ b)=Qw ρ (Qb s'.h s'.n b)) (ht:Qs ρ s'.n s.t s'.t):To p s s':=by
 have h1:To p s ⟨s'.t,qP s' s'.n,s'.n⟩:=To.ER (ρ:=ρ) hp ⟨ht,RY ct hl _ (Nat.le_refl _)⟩;refine h1.trans fun c g a w _ hR=>⟨g,hR.gQ (fun _ _ h=>h) (fun b h=>?_) fun b=>?_⟩
 ·have e:=Qqp hd hf b;have h:BR g _ w (g b) (Qb (qP s' s'.n) s'.n b):=h;rw[e]at h;exact h
 ·have e:=Qqp hd hf b;show (Qb s'.h s'.n b).live ↔ (Qb (qP s' s'.n) s'.n b).live;rw[e]
section
variable {P:Program}{c:Cx}
def Xse {xs:List TV}{args:List AV}{r:AV}{ax:List (Nat×Bk)}  (fJ:GS P c.gl f args [] 0 r ax m)(A7:HL ax m)(hc:Qr none (aD c.gl s.fs xs))(aM:(aD c.gl s.fs xs).map Qh=args)(yT:ah 0 args)(N9:Qe m r)(hs:∀ q ∈ s.h,q.1<s.n) :
  Ki P c (.pd d (.call f) xs none) s.fs ⟨Xe xs,(List.range m).map fun b=>s.n+b,d.toList,(List.range m).map fun b=>s.n+b⟩ (St.ca ⟨s.t,s.h++Qq (fun b=>s.n+b) ax,s.n+m⟩ d (aB (fun b=>s.n+b) r)).fs:=by
 have hn:∀ b b',b<m->b'<m->s.n+b=s.n+b'->b=b':=fun b b' _ _ e=>by omega
 have hm:∀ q ∈ ax,q.1<m:=fun q hq=>(A7.mem q hq).1;have fy:∀ b,∀ q ∈ s.h,q.1≠s.n+b:=fun b q hq=>by have:=hs q hq;omega
 have bq:∀ b,s.fs.H (s.n+b)=.free:=fun b=>by
  show Qb s.h s.n (s.n+b)=_;have:∀ l:List (Nat×Bk),(∀ q ∈ l,q.1≠s.n+b)->Qb l s.n (s.n+b)=.free:=fun l=>by
   induction l with
   | nil=>intro _;rw[Iy,aa af]
   | cons q l ih =>
    obtain ⟨i,x⟩:=q;intro h;rw[Qf,aa (h (i,x) av),ih fun q hq=>h q (by simp[hq])]
  exact this s.h (fy b)
 have hH:∀ y j,(St.ca ⟨s.t,s.h++Qq (fun b=>s.n+b) ax,s.n+m⟩ d y).fs.H j=Qb (s.h++Qq (fun b=>s.n+b) ax) (s.n+m) j:=fun y j=>by cases d<;>rfl
 refine V8 (σ:=fun b=>s.n+b) fJ (fun o ys aE vt s2 g a w hT hR=>?_) hn (fun p hp=>by cases hp) (fun b hb=>by omega) (Nat.zero_le _) (fun b _ _=>bq b) (fun p hp=>A7.mem p hp) N9 yT (fun b hb=>mem_map.2 ⟨b,mem_range.2 hb,rfl⟩) (fun j hj=>?_) (fun i=>?_) (fun b hb=>?_) fun j hj=>?_
 ·obtain ⟨ts,hop⟩:=BZ aE;subst vt;have bj:aD c.gl s2 (ys.map aP)=aD c.gl s.fs (ys.map aP):=Yd fun i hi=>hT i hi;have hv:=Yk (hR.ci ys) (by rw[bj];exact hc);rw[bj,aM]at hv;have hr:ay (fun b=>s.n+b) args=args:=by
   rw[Zx];exact (map_congr_left fun v hv=>wc (n:=0) (fun b hb=>by omega) v (Xw.1 yT v hv)).trans (map_id _)
  rw[hr];exact ⟨_,B0 fJ.1 hop a w,hv⟩
 ·obtain ⟨b,hb,rfl⟩:=mem_map.1 hj;exact ⟨b,mem_range.1 hb,rfl⟩
 ·cases d with
  | none=>rfl
  | some d=>show look ((d,_)::s.t) i=_;rw[Jn];rfl
 ·rw[hH,Xl (fy b),Ku hn hb hm (A7.jV b hb)];obtain ⟨_,q,hq,_,e⟩:=A7.live hb m;rw[e];have:=(A7.mem q hq).2;cases hx:q.2<;>first|rfl|(rw[hx]at this;exact this.elim)
 ·rw[hH];show _=Qb s.h s.n j;have dd:∀ b,b<m->s.n+b≠j:=fun b hb e=>hj (mem_map.2 ⟨b,mem_range.2 hb,e⟩);have key:∀ l:List (Nat×Bk),Qb (l++Qq (fun b=>s.n+b) ax) (s.n+m) j=Qb l s.n j:=fun l=>by
   induction l with
   | nil =>
    rw[nil_append,Kx dd hm,Iy];by_cases h:j<s.n
    ·rw[am h,am af]
    ·rw[aa h,aa];intro h2;exact dd (j-s.n) af af
   | cons q l ih=>obtain ⟨i,x⟩:=q;rw[List.cons_append,Qf,Qf,ih]
  exact key s.h
def RZ {r0:List bB}{K:St->Prop}{s:St}{d:Option Nat}{f:FuncId}{xs:List TV}{args:List AV}{r:AV}{ax:List (Nat×Bk)}{m:Nat}(fJ:GS P c.gl f args [] 0 r ax m)(A7:HL ax m)(hc:Qr none (aD c.gl s.fs xs)/\(aD c.gl s.fs xs).map Qh=args/\ah 0 args/\Qe m r)(hs:∀ q ∈ s.h,q.1<s.n)
  (h:XP P c r0 K (St.ca ⟨s.t,s.h++Qq (fun b=>s.n+b) ax,s.n+m⟩ d (aB (fun b=>s.n+b) r))):Yo P c (.pd d (.call f) xs none) r0 K s :=
 .inl ⟨_,_,Xse fJ A7 hc.1 hc.2.1 hc.2.2.1 hc.2.2.2 hs,h⟩
end
def Xdt {T:WT}  (hT:T.wf)(ct:∀ b b',b<67->b'<67->σ b=σ b'->b=b')(hex:∀ q ∈ ex,∀ b,b<67->σ b≠q.1)(hb:b<67):Qb (ex++Qq σ T.hb) n (σ b)=Qw σ (Qb T.hb 67 b):=by
 rw[Xl fun q hq e=>hex q hq b hb e.symm];exact Ku ct hb (fun q hq=>((WT.iA hT).mem q hq).1) ((WT.iA hT).jV b hb)
def R0 {T:WT}(hT:T.wf)  (hb:b<67):(Qb T.hb 67 b).live/\bX 67 (Qb T.hb 67 b):=by
 obtain ⟨_,q,hq,_,e⟩:=(WT.iA hT).live hb 67;rw[e];exact ⟨Xa ((WT.iA hT).mem q hq).2,((WT.iA hT).mem q hq).2⟩
theorem yb {f g:Nat->Nat}  (h:∀ b,b<n->f b=g b){x:Bk}(hx:bX n x):Qw f x=Qw g x:=by
 have hv:∀ v,Qe n v→aB f v=aB g v:=fun v=>AV.rec (motive_1:=fun v=>Qe n v→aB f v=aB g v) (motive_2:=fun l=>ah n l→ay f l=ay g l) (by simp[aB]) (fun b v h1 h2=>by simp only[Qe]at h2;simp only[aB,h1 h2]) (fun _ _=>by simp[aB]) (fun _=>by simp[aB]) (fun _=>by simp[aB])
  (fun cs h1 h2=>by simp only[Qe]at h2;simp only[aB,h1 h2]) (fun cs h1 h2=>by simp only[Qe]at h2;simp only[aB,h1 h2]) (fun b _ h2=>by simp only[Qe]at h2;simp only[aB,h b h2]) (fun cs _ h1 h2=>by simp only[Qe]at h2;simp only[aB,h1 h2]) (fun _ b _ _ _ h2=>by simp only[Qe]at h2;simp only[aB,h b h2]) (fun _ cs h1 h2=>by simp only[Qe]at h2;simp only[aB,h1 h2]) (by simp[aB])
  (fun _ cs h1 h2=>by simp only[Qe]at h2;simp only[aB,h1 h2]) (fun b h2=>by simp only[Qe]at h2;simp only[aB,h b h2]) (fun _=>by simp[aB]) (by simp[ay]) (fun x xs h1 h2=>by simp only[ah,ay];exact fun ⟨a,b⟩=>by rw[h1 a,h2 b]) v
 cases x with
 | free=>rfl
 | dead=>rfl
 | cells cs =>
  simp only[Qw,Zx];congr 1;exact map_congr_left fun v h=>hv v (Xw.1 hx v h)
 | az kvs dn =>
  simp only[Qw];congr 1;exact map_congr_left fun q hq=>by rw[hv _ (hx q hq).1,hv _ (hx q hq).2]
 | bp kvs bs ck =>
  simp only[Qw];congr 1;exact map_congr_left fun q hq=>by rw[hv _ (hx q hq).1,hv _ (hx q hq).2]
 | iter b ck seen=>simp only[Qw];rw[h b hx]
 | dM ls=>rfl
def Xlc {f g:Nat->Nat}{T:WT}(hT:T.wf)(h:∀ b,b<67->f b=g b):Qq f T.hb=Qq g T.hb:=by
 unfold Qq;exact map_congr_left fun q hq=>by
  obtain ⟨h1,h2⟩:=(WT.iA hT).mem q hq;rw[h q.1 h1,yb h h2]
def im (n b:Nat):Nat:=if b<2 then b else n+b
def Yh2 (n:Nat):cG id [0,1] n=im n:=by
 funext b;unfold im;by_cases h:b<2
 ·have:b=0∨b=1:=by omega
  rw[am h,Ks (by simpa using this)];rfl
 ·rw[aa h,Uh (by simp;omega)]
def R1 (hn:67<=n){b b':Nat}(h:b<67)(h':b'<67)(e:im n b=im n b'):b=b':=by
 unfold im at e
 (repeat' split at e)<;>omega
theorem Yiu (n:Nat):im n 0=0:=rfl
def Yk8 {T:WT}(hT:T.wf)   (hσ:∀ b,b<67->σ b<m)(n b:Nat)(hb:m<=b):Qb (Qq σ T.hb) n b=if b<n then .dead else .free :=
 Kx (m:=67) (fun b' bL e=>by have:=hσ b' bL;omega) fun q hq=>((WT.iA hT).mem q hq).1
def Ue {v:AV}(h:Qe 0 v):aB σ v=v:=wc (n:=0) (fun b hb=>by omega) v h
def gx1 {gl:Nat->AV}{xs:List TV}{v:Bool}{f:FuncId}{args:List AV}{t:List (Nat×AV)}{ex:List (Nat×Bk)}{T:WT}{n:Nat}{p:List Nat}(hT:T.wf)(hp:∀ b ∈ p,b<67)(hn:67<=n)(hex:∀ q ∈ ex,67<=q.1/\q.1<n)
  (hc:Qr none (aD gl (⟨t,ex++Qq id T.hb,n⟩:St).fs xs)/\lP v f ((aD gl (⟨t,ex++Qq id T.hb,n⟩:St).fs xs).map Qh)=some (f,args)/\ah 67 args):qn gl xs v f args id p 67 t ex T.hb n :=
 ⟨fun b b' _ _ e=>e,fun b hb=>by show b<n;omega,WT.iA hT,hp,fun q hq=>⟨fun b hb e=>by have:=(hex q hq).1;have e:b=q.1:=e;omega,(hex q hq).2⟩,hc.1,by rw[ql];exact hc.2.1,hc.2.2⟩
def Xmf {T:WT}   {r:AV}(hT:T.wf)(hr:Qe 0 r):Ju t ex T.hb σ (List.range 67) 67 n d r=St.ca ⟨t,ex++Qq σ T.hb,n+67⟩ d r:=by
 unfold Ju;rw[Xlc hT (f:=cG σ (List.range 67) n) (g:=σ) fun b hb=>Ks (mem_range.2 hb),Ue hr]
def R2 {T:WT}   {r:AV}(hr:Qe 0 r):Ju t ex T.hb id [0,1] 67 n d r=St.ca ⟨t,ex++Qq (im n) T.hb,n+67⟩ d r:=by
 unfold Ju;rw[Yh2,Ue hr]
structure Fm (ex:List (Nat×Bk))(τ:Nat->Nat)(h2:List (Nat×Bk))(k:Nat)(σ:Nat->Nat)(h1:List (Nat×Bk))(m n:Nat):Prop where
 i1:∀ b b',b<m->b'<m->σ b=σ b'->b=b'
 l1:∀ b,b<m->σ b<n
 jg:HL h1 m
 i2:∀ b b',b<k->b'<k->τ b=τ b'->b=b'
 l2:∀ b,b<k->τ b<n
 hl2:HL h2 k
 c4:∀ b,b<m->∀ b',b'<k->σ b≠τ b'
 ex:∀ q ∈ ex,q.1<n/\iZ σ m q.1/\iZ τ k q.1
section
variable {ex h1 h2 mz nA:List (Nat×Bk)}{σ τ:Nat->Nat}{m k n:Nat}
def Fm.swap (F:Fm ex τ h2 k σ h1 m n):Fm ex σ h1 m τ h2 k n :=
 ⟨F.i2,F.l2,F.hl2,F.i1,F.l1,F.jg,fun b hb b' bL e=>F.c4 b' bL b hb e.symm,fun q hq=>⟨(F.ex q hq).1,(F.ex q hq).2.2,(F.ex q hq).2.1⟩⟩
def R3 (σ:Nat->Nat)(p:List Nat)(n b:Nat):cG σ p n b=σ b\/cG σ p n b=n+b:=by
 by_cases h:b ∈ p
 ·exact .inl (Ks h)
 ·exact .inr (Uh h)
def Fm.yc (F:Fm ex τ h2 k σ h1 m n)(p:List Nat)(hl:HL mz m):Fm ex τ h2 k (cG σ p n) mz m (n+m) :=
 ⟨fun b b' h h' e=>OP F.i1 F.l1 h h' e,fun b hb=>by
  have:=F.l1 b hb;rcases R3 σ p n b with e|e<;>rw[e]<;>omega,hl,F.i2,fun b hb=>by have:=F.l2 b hb;omega,F.hl2,fun b hb b' bL=>by
  have h1:=F.l2 b' bL;have h2:=F.c4 b hb b' bL;rcases R3 σ p n b with e|e<;>rw[e]
  ·exact h2
  ·omega,fun q hq=>by
  obtain ⟨h1,h2,h3⟩:=F.ex q hq;refine ⟨by omega,fun b hb=>?_,h3⟩;rcases R3 σ p n b with e|e<;>rw[e]
  ·exact h2 b hb
  ·omega⟩
def Fm.m8 (F:Fm ex τ h2 k σ h1 m n)(p:List Nat)(hl:HL nA k):Fm ex (cG τ p n) nA k σ h1 m (n+k):=(F.swap.yc p hl).swap
def Fm.less (F:Fm ex τ h2 k σ h1 m n):Fm [] τ h2 k σ h1 m n:=⟨F.i1,F.l1,F.jg,F.i2,F.l2,F.hl2,F.c4,fun q hq=>by cases hq⟩
def Fm.exL (F:Fm ex τ h2 k σ h1 m n):∀ q ∈ ex++Qq τ h2,iZ σ m q.1/\q.1<n:=fun q hq=>by
 rcases mem_append.1 hq with hq|hq
 ·exact ⟨(F.ex q hq).2.1,(F.ex q hq).1⟩
 ·obtain ⟨q',db,rfl⟩:=mem_map.1 hq;have hk:=(F.hl2.mem q' db).1;exact ⟨fun b hb e=>F.c4 b hb q'.1 hk e,F.l2 _ hk⟩
def Fm.ok (F:Fm ex τ h2 k σ h1 m n){gl:Nat->AV}{xs:List TV}{v:Bool}{f:FuncId}{args:List AV}{p:List Nat}{t:List (Nat×AV)}(hp:∀ b ∈ p,b<m)
  (hc:Qr none (aD gl (⟨t,(ex++Qq τ h2)++Qq σ h1,n⟩:St).fs xs)/\lP v f ((aD gl (⟨t,(ex++Qq τ h2)++Qq σ h1,n⟩:St).fs xs).map Qh)=some (f,ay σ args)/\ah m args):qn gl xs v f args σ p m t (ex++Qq τ h2) h1 n :=
 ⟨F.i1,F.l1,F.jg,hp,F.exL,hc.1,hc.2.1,hc.2.2⟩
def Qpm (F:Fm ex τ h2 k σ h1 m n)  (hb:b<k)(l:List (Nat×Bk))(n':Nat):Qb (ex++(Qq τ h2++l)) n' (τ b)=Qw τ (Qb h2 k b):=by
 rw[Xl fun q hq e=>(F.ex q hq).2.2 b hb e.symm];have hg:∀ (h:List (Nat×Bk)),(∀ q ∈ h,q.1<k)->(∃ q ∈ h,q.1=b)->Qb (Qq τ h++l) n' (τ b)=Qb (Qq τ h) n' (τ b):=fun h=>by
  induction h with
  | nil=>rintro _ ⟨q,hq,_⟩;cases hq
  | cons q h ih =>
   obtain ⟨i,x⟩:=q;intro hm hq;show Qb ((τ i,Qw τ x)::(Qq τ h++l)) n' _=Qb ((τ i,Qw τ x)::Qq τ h) n' _;rw[Qf,Qf];by_cases e:i=b
   ·rw[am (by rw[e]),am (by rw[e])]
   ·have hi:=hm (i,x) av;rw[aa fun e2=>e (F.i2 _ _ hi hb e2),aa fun e2=>e (F.i2 _ _ hi hb e2)];obtain ⟨q,hq,e2⟩:=hq;rcases mem_cons.1 hq with rfl|hq
    ·exact (e e2).elim
    ·exact ih (fun q hq=>hm q (by simp[hq])) ⟨q,hq,e2⟩
 rw[hg h2 (fun q hq=>(F.hl2.mem q hq).1) (F.hl2.jV b hb)];exact Ku F.i2 hb (fun q hq=>(F.hl2.mem q hq).1) (F.hl2.jV b hb)
def LS {l:List (Nat×Bk)}{n' j:Nat}:∀ {h:List (Nat×Bk)} (_:∀ q ∈ h,τ q.1≠j),Qb (Qq τ h++l) n' j=Qb l n' j
 | [],_=>rfl
 | (i,x)::h,hm=>by
   show Qb ((τ i,Qw τ x)::(Qq τ h++l)) n' j=_;rw[Qf,aa (hm (i,x) av)];exact LS fun q hq=>hm q (by simp[hq])
def Fm.look (F:Fm ex τ h2 k σ h1 m n)(j:Nat):Qb ((ex++Qq τ h2)++Qq σ h1) n j=Qb ((ex++Qq σ h1)++Qq τ h2) n j:=by
 rw[append_assoc,append_assoc];refine Cv ?_;have G:=F.less;by_cases e1:∃ b,b<k/\τ b=j
 ·obtain ⟨b,hb,rfl⟩:=e1;have:=Qpm G hb (Qq σ h1) n;rw[nil_append]at this;rw[this,LS fun q hq e=>F.c4 q.1 (F.jg.mem q hq).1 b hb e];exact (Ku F.i2 hb (fun q hq=>(F.hl2.mem q hq).1) (F.hl2.jV b hb)).symm
 ·have ho:iZ τ k j:=fun b hb e=>e1 ⟨b,hb,e⟩;rw[LS fun q hq e=>ho q.1 (F.hl2.mem q hq).1 e];by_cases e2:∃ b,b < m∧σ b=j
  ·obtain ⟨b,hb,rfl⟩:=e2;have:=Qpm G.swap hb (Qq τ h2) n;rw[nil_append]at this;rw[this];exact Ku F.i1 hb (fun q hq=>(F.jg.mem q hq).1) (F.jg.jV b hb)
  ·have Iu:iZ σ m j:=fun b hb e=>e2 ⟨b,hb,e⟩;rw[LS fun q hq e=>Iu q.1 (F.jg.mem q hq).1 e,Kx ho fun q hq=>(F.hl2.mem q hq).1];exact Kx Iu fun q hq=>(F.jg.mem q hq).1
def Fm.fs (F:Fm ex τ h2 k σ h1 m n)(t:List (Nat×AV)):(⟨t,(ex++Qq τ h2)++Qq σ h1,n⟩:St).fs=(⟨t,(ex++Qq σ h1)++Qq τ h2,n⟩:St).fs:=pj (fun _=>rfl) F.look
def Fm.fsO (F:Fm ex τ h2 k σ h1 m n)(t:List (Nat×AV))(d:Option Nat)(r:AV):(St.ca ⟨t,(ex++Qq τ h2)++Qq σ h1,n⟩ d r).fs=(St.ca ⟨t,(ex++Qq σ h1)++Qq τ h2,n⟩ d r).fs:=by
 cases d with
 | none=>exact F.fs t
 | some d=>exact F.fs _
variable {P:Program}{c:Cx}
def yd (t:List (Nat×AV))(ex ax:List (Nat×Bk))(τ:Nat->Nat)(p:List Nat)(k:Nat)(σ:Nat->Nat)(h1:List (Nat×Bk))(n:Nat)(d:Option Nat)(r:AV):St:=St.ca ⟨t,(ex++Qq (cG τ p n) ax)++Qq σ h1,n+k⟩ d (aB (cG τ p n) r)
def Qwc {v:Bool}{d:Option Nat}{kk:PK}{f:FuncId}{xs:List TV}{args:List AV}{p:List Nat}{r:AV}{t:List (Nat×AV)}(hq:GD P c.gl f args h2 k p r nA)(F:Fm ex τ h2 k σ h1 m n)(hp:∀ b ∈ p,b<k)
  (hc:Qr none (aD c.gl (⟨t,(ex++Qq τ h2)++Qq σ h1,n⟩:St).fs xs)/\lP v f ((aD c.gl (⟨t,(ex++Qq τ h2)++Qq σ h1,n⟩:St).fs xs).map Qh)=some (f,ay τ args)/\ah k args) (hk:kk=(bif v then .cC else .call f)) (dS:HL nA k) (hr:Qe k r) :
  Ki P c (.pd d kk xs none) (⟨t,(ex++Qq τ h2)++Qq σ h1,n⟩:St).fs ⟨Xe xs,eU τ k n,d.toList,eU τ k n⟩ (yd t ex nA τ p k σ h1 n d r).fs:=by
 rw[F.fs]at hc ⊢;unfold yd;rw[(F.m8 p dS).fsO];exact E0 hq (F.swap.ok hp hc) hk dS hr
def Xe9 {v:Bool}{d:Option Nat}{kk:PK}{f:FuncId}{xs:List TV}{args:List AV}{p:List Nat}{r:AV}{t:List (Nat×AV)}{anc:List Nat}{fs:List bc}{r0:List bB}{K:St->Prop}(hq:GD P c.gl f args h2 k p r nA)(F:Fm ex τ h2 k σ h1 m n)(hp:∀ b ∈ p,b<k)
  (hc:Qr none (aD c.gl (⟨t,(ex++Qq τ h2)++Qq σ h1,n⟩:St).fs xs)/\lP v f ((aD c.gl (⟨t,(ex++Qq τ h2)++Qq σ h1,n⟩:St).fs xs).map Qh)=some (f,ay τ args)/\ah k args) (hk:kk=(bif v then .cC else .call f)) (dS:HL nA k) (hr:Qe k r)
  (h:XD P c anc r0 (⟨Xe xs,eU τ k n,d.toList,eU τ k n⟩::fs) K (yd t ex nA τ p k σ h1 n d r)):Yz P c anc (.pd d kk xs none) r0 fs K ⟨t,(ex++Qq τ h2)++Qq σ h1,n⟩ :=
 ⟨_,_,Qwc hq F hp hc hk dS hr,h⟩
def Ydc {v:Bool}{d:Option Nat}{kk:PK}{f:FuncId}{xs:List TV}{args:List AV}{p:List Nat}{r:AV}{t:List (Nat×AV)}{anc:List Nat}{fs:List bc}{r0:List bB}{K:St->Prop}(hq:GD P c.gl f args h1 m p r mz)(F:Fm ex τ h2 k σ h1 m n)(hp:∀ b ∈ p,b<m)
  (hc:Qr none (aD c.gl (⟨t,(ex++Qq τ h2)++Qq σ h1,n⟩:St).fs xs)/\lP v f ((aD c.gl (⟨t,(ex++Qq τ h2)++Qq σ h1,n⟩:St).fs xs).map Qh)=some (f,ay σ args)/\ah m args) (hk:kk=(bif v then .cC else .call f)) (dS:HL mz m) (hr:Qe m r)
  (h:XD P c anc r0 (⟨Xe xs,eU σ m n,d.toList,eU σ m n⟩::fs) K (Ju t (ex++Qq τ h2) mz σ p m n d r)):Yz P c anc (.pd d kk xs none) r0 fs K ⟨t,(ex++Qq τ h2)++Qq σ h1,n⟩ :=
 ⟨_,_,E0 hq (F.ok hp hc) hk dS hr,h⟩
end
def BI (D:List Tm)(to k:Nat)(qQ:Int):Prop:=(qQ=-1/\∀ t ∈ D.take k,to<t.due)\/∃ (b:Nat) (t:Tm),qQ=b/\b<k/\D[b]?=some t/\t.due<=to/\∀ u ∈ D.take k,u.due<=to->kc t u=true
def GJ {k:Nat}{u t:Tm}(hk:D[k]?=some t):u ∈ D.take (k+1) ↔ u ∈ D.take k\/u=t:=by
 rw[List.take_succ,mem_append,hk];simp
def BI.skip {to k:Nat}{qQ:Int}{t:Tm}(h:BI D to k qQ)(hk:D[k]?=some t)(ht:to<t.due):BI D to (k+1) qQ:=by
 rcases h with ⟨h1,h2⟩|⟨b,s,h1,h2,h3,h4,h5⟩
 ·refine .inl ⟨h1,fun u hu=>?_⟩;rcases (GJ hk).1 hu with hu|rfl
  ·exact h2 u hu
  ·exact ht
 ·refine .inr ⟨b,s,h1,by omega,h3,h4,fun u hu hd=>?_⟩;rcases (GJ hk).1 hu with hu|rfl
  ·exact h5 u hu hd
  ·omega
def BI.first {to k:Nat}{t:Tm}(h:∀ t ∈ D.take k,to<t.due)(hk:D[k]?=some t)(ht:t.due<=to):BI D to (k+1) k:=by
 refine .inr ⟨k,t,rfl,by omega,hk,ht,fun u hu hd=>?_⟩;rcases (GJ hk).1 hu with hu|rfl
 ·have:=h u hu;omega
 ·rw[rC];omega
def BI.more {to k:Nat}{s t:Tm}(h5:∀ u ∈ D.take k,u.due<=to->kc s u=true)(hk:D[k]?=some t)(ht:t.due<=to)(hl:kc t s=true):BI D to (k+1) k:=by
 refine .inr ⟨k,t,rfl,by omega,hk,ht,fun u hu hd=>?_⟩;rcases (GJ hk).1 hu with hu|rfl
 ·exact Qtw _ _ _ hl (h5 u hu hd)
 ·rw[rC];omega
def BI.iq {to k b:Nat}{s t:Tm}(hb:b<k)(h3:D[b]?=some s)(h4:s.due<=to)(h5:∀ u ∈ D.take k,u.due<=to->kc s u=true)(hk:D[k]?=some t)(hl:kc s t=true):BI D to (k+1) b:=by
 refine .inr ⟨b,s,rfl,by omega,h3,h4,fun u hu hd=>?_⟩;rcases (GJ hk).1 hu with hu|rfl
 ·exact h5 u hu hd
 ·exact hl
def Xq6 {to:Nat}(h:∀ t ∈ D,to<t.due):a7 D (to+1)=[]/\(D.filter fun t=>decide (to<t.due))=D:=by
 constructor
 ·unfold a7;rw[List.filter_eq_nil_iff.2 fun t ht=>by have:=h t ht;simp;omega];simp[rD]
 ·exact filter_eq_self.2 fun t ht=>by simpa using h t ht
def Xsr {to b:Nat}{t:Tm}(hb:D[b]?=some t)(ht:t.due<=to)(hl:∀ u ∈ D,u.due<=to->kc t u=true):a7 D (to+1)=t.id::a7 (D.take b++D.drop (b+1)) (to+1)/\((D.take b++D.drop (b+1)).filter fun t=>decide (to<t.due))=D.filter fun t=>decide (to<t.due):=by
 have hlt:b<D.length:=(List.getElem?_eq_some_iff.1 hb).1;have hbe:D[b]=t:=(List.getElem?_eq_some_iff.1 hb).2;have hs:D=D.take b++t::D.drop (b+1):=by
  conv=>lhs;rw[<- List.take_append_drop b D,List.drop_eq_getElem_cons hlt,hbe]
 have hm:∀ u ∈ D.take b++D.drop (b+1),u ∈ D:=fun u hu=>by
  rw[hs];rcases mem_append.1 hu with h|h
  ·exact List.mem_append_left _ h
  ·exact List.mem_append_right _ (List.mem_cons_of_mem _ h)
 constructor
 ·unfold a7;rw[← map_cons (f:=fun x:Tm=>x.id)];congr 1;refine Ri ?_ ?_
  ·refine ((Kz _).cons t).trans ?_
   conv=>rhs;rw[hs]
   rw[filter_append,filter_append,List.filter_cons,am (by simp;omega)];exact List.perm_middle.symm
  ·rw[List.pairwise_cons];refine ⟨fun u hu=>?_,Db _⟩;have:=(Kz _).mem_iff.1 hu;rw[mem_filter]at this;exact hl u (hm u this.1) (by have:=this.2;simp at this;omega)
 ·conv=>rhs;rw[hs]
  rw[filter_append,filter_append,List.filter_cons,aa (by simp;omega)]
end Go.Proofs.YtogckmommodmhaaGreatDoor
