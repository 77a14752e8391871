import Derived.Test.YtogckmommodmhaaGreatDoorZy3
import Derived.Great.BuildSlice
namespace Go.Proofs.YtogckmommodmhaaGreatDoor
open List (length_take getElem?_append_left getElem?_take getElem?_append_right getElem?_drop nil_append mem_filter mem_range cons_append length_cons map_cons map_map all_eq_true getElem_mem mem_cons map_id map_take map_drop map_set drop_drop mem_map)
open Go.RowKit
set_option linter.all false
set_option maxRecDepth 100000
variable {fn:Func}{e:TypeId}{a:Act}{xs:List Operand}{w:World}{fz:Nat×Nat}{u:Value}(c:Option Bool)(gl:Nat->AV)(z:List AV)(ne:Bool)(m es n b:Nat)(k:IntKind)(ty:TY)(x:AV)(f:FuncId)(i:Nat)(kvs:List (AV×AV))(v:AV)(o:Nat)(cs:List AV)(y:AV)(j:Nat)(vs l r:List AV)(dn:Bool)(bk:Bk)
def DM:bD->Bool
 | .q ..=>true
 | _=>false
def wQ {α:Type}(k:Nat)(l:List α):List α:=l.take k++((l.drop (k+2)).take 2++((l.drop k).take 2++l.drop (k+4)))
def Yx (k p:Nat):Nat:=if p=k then k+2 else if p=k+1 then k+3 else if p=k+2 then k else if p=k+3 then k+1 else p
def M1 (k p:Nat):Yx k (Yx k p)=p:=by unfold Yx;(repeat' split)<;>omega
def M3 {k p n:Nat}(h:p<n)(hn:n=k+5):Yx k p<n:=by unfold Yx;(repeat' split)<;>omega
def Xz0 {k p:Nat}(h:p<k):Yx k p=p:=by unfold Yx;(repeat' split)<;>omega
def Xwn {α:Type}{l:List α}{k:Nat}(hl:l.length=k+5)(p:Nat):(wQ k l)[p]?=l[Yx k p]?:=by
 have h1:(l.take k).length=k:=by rw[length_take];omega
 have h2:((l.drop (k+2)).take 2).length=2:=by rw[length_take,List.length_drop];omega
 have h3:((l.drop k).take 2).length=2:=by rw[length_take,List.length_drop];omega
 unfold wQ Yx;by_cases c0:p<k
 ·rw[getElem?_append_left af,getElem?_take,am c0,aa af,aa af,aa af,aa af]
 ·rw[getElem?_append_right af,h1];by_cases c1:p < k + 2
  ·rw[getElem?_append_left af,getElem?_take,am af,getElem?_drop];by_cases e:p=k
   ·rw[am e];congr 1;omega
   ·rw[aa e,am af];congr 1;omega
  ·rw[getElem?_append_right af,h2];by_cases c2:p < k + 4
   ·rw[getElem?_append_left af,getElem?_take,am af,getElem?_drop,aa af,aa af];by_cases e:p=k + 2
    ·rw[am e];congr 1;omega
    ·rw[aa e,am af];congr 1;omega
   ·rw[getElem?_append_right af,h3,getElem?_drop,aa af,aa af,aa af,aa af];congr 1;omega
def Xx6 {α:Type}{l:List α}{k:Nat}(hl:l.length=k+5):(wQ k l).length=k+5:=by unfold wQ;simp;omega
def Yjq (l:List bD):Option Nat:=match l.reverse with
 | .pd none (.DG _) _ none::.q _ _ _ _::.pd (some _) (.BC _) _ none::.q _ _ _ _::.pd (some _) (.wM _ _) _ none::pre=>if pre.all DM=true then some pre.length else none
 | _=>none
def M4 (anc a1 a2:List Nat)(k n:Nat):Bool:=decide (n=k+5) &&
 (List.range n).all fun p=>(List.range n).all fun q =>
  (!(a1.getD p 0).testBit q||((anc.getD p 0).testBit q||(p==k+2&&q==k))) &&
  (!(a2.getD p 0).testBit q||((anc.getD (Yx k p) 0).testBit (Yx k q)||(Yx k p==k&&Yx k q==k+2))) &&
  (decide (p<k)||p==k||p==k+2||(anc.getD p 0).testBit k||(anc.getD p 0).testBit (k+2))
def US (anc:List Nat)(k:Nat):List Nat:=anc.set (k+2) (anc.getD (k+2) 0 ||| 1 <<< k)
def UT (anc:List Nat)(k:Nat):List Nat:=(List.range (k+5)).map fun p=>((List.range (k+5)).filter fun q=>(anc.getD (Yx k p) 0).testBit (Yx k q)||(Yx k p==k&&Yx k q==k+2)).foldl (fun m q=>m ||| 1 <<< q) 0
inductive TC where
 | skip
 | M5 (l:List bD)
 | uT (l:List bD) (anc:List Nat)
 | yR (l l2:List bD) (a1 a2:List Nat)
 | seq (a b:TC)
 | cond (x:TV) (a b:TC)
 | block (i:Nat) (b:TC)
 | loop (b:TC)
 | exit (i:Nat)
 | ret
def UU (l:List bD)(anc:List Nat):TC:=match Yjq l with
 | some k=>if (l.take k).all DM=true/\M4 anc (US anc k) (UT anc k) k l.length=true then .yR l (wQ k l) (US anc k) (UT anc k) else .uT l anc
 | none=>.uT l anc
def Jq (P:Program)(N:Nat):Code->Option TC
 | .skip=>some .skip
 | .region _ ops false=>(Zq P N ops ops.toList).map .M5
 | .region _ ops true=>if DK ops=true then (Zq P N ops ops.toList).map fun l=>UU l (pY ops.toList []) else none
 | .seq a b=>match Jq P N a,Jq P N b with
  | some x,some y=>some (.seq x y)
  | _,_=>none
 | .cond c a b=>match Jq P N a,Jq P N b with
  | some x,some y=>some (.cond (aP c) x y)
  | _,_=>none
 | .block i b=>(Jq P N b).map (.block i)
 | .loop b=>(Jq P N b).map .loop
 | .exit i=>some (.exit i)
 | .ret=>some .ret
 | _=>none
inductive EX where
 | normal
 | exit (i:Nat)
 | ret
def uU (c:Cx)(Q:EX->St->Prop):Exit->Act->World->Prop
 | .normal,a,w=>∃ g s,R c g s.fs a w/\Q .normal s
 | .exit i,a,w=>∃ g s,R c g s.fs a w/\Q (.exit i) s
 | .ret,a,w=>∃ g s,R c g s.fs a w/\Q .ret s
 | _,_,_=>False
def AW (P:Program)(c:Cx)(code:Code)(Q:EX->St->Prop)(s:St):Prop:=∀ g a w,R c g s.fs a w->code.wp P (uU c Q) a w
def UW (k:(EX->St->Prop)->St->Prop)(Q:EX->St->Prop):EX->St->Prop
 | .normal,s=>k Q s
 | e,s=>Q e s
def BK (i:Nat)(Q:EX->St->Prop):EX->St->Prop
 | .exit j,s=>if j=i then Q .normal s else Q (.exit j) s
 | e,s=>Q e s
def qS (P:Program)(c:Cx)(b:TC)(Q:EX->St->Prop)(s:St):Prop:=∀ code,Jq P c.N code=some b->AW P c (.loop code) Q s
def xw (P:Program)(c:Cx):TC->(EX->St->Prop)->St->Prop
 | .skip,Q,s=>Q .normal s
 | .M5 l,Q,s=>XP P c l (Q .normal) s
 | .uT l anc,Q,s=>XD P c anc l [] (Q .normal) s
 | .yR l l2 a1 a2,Q,s=>XD P c a1 l [] (Q .normal) s/\XD P c a2 l2 [] (Q .normal) s
 | .seq a b,Q,s=>xw P c a (UW (xw P c b) Q) s
 | .cond x a b,Q,s=>fD (aU c.gl s.fs x)/\(eU (aU c.gl s.fs x)=true->xw P c a Q s)/\(eU (aU c.gl s.fs x)=false->xw P c b Q s)
 | .block i b,Q,s=>xw P c b (BK i Q) s
 | .loop b,Q,s=>qS P c b Q s
 | .exit i,Q,s=>Q (.exit i) s
 | .ret,Q,s=>Q .ret s
def Ib (P:Program)(c:Cx)(b:TC)(Q:EX->St->Prop):EX->St->Prop:=UW (xw P c b) Q
section
variable {P:Program}{c:Cx}{Q:EX->St->Prop}{s:St}
theorem Yaz:xw P c .skip Q s=Q .normal s:=rfl
theorem Yg5 (l:List bD):xw P c (.M5 l) Q s=XP P c l (Q .normal) s:=rfl
theorem Ybk (l l2:List bD)(a1 a2:List Nat):xw P c (.yR l l2 a1 a2) Q s=(XD P c a1 l [] (Q .normal) s/\XD P c a2 l2 [] (Q .normal) s):=rfl
theorem Ydw (l:List bD)(anc:List Nat):xw P c (.uT l anc) Q s=XD P c anc l [] (Q .normal) s:=rfl
theorem Yhd (a b:TC):xw P c (.seq a b) Q s=xw P c a (Ib P c b Q) s:=rfl
theorem Yby (x:TV)(a b:TC):xw P c (.cond x a b) Q s=(fD (aU c.gl s.fs x)/\(eU (aU c.gl s.fs x)=true->xw P c a Q s)/\(eU (aU c.gl s.fs x)=false->xw P c b Q s)):=rfl
theorem Xym (b:TC):xw P c (.block i b) Q s=xw P c b (BK i Q) s:=rfl
theorem Ycz (b:TC):xw P c (.loop b) Q s=qS P c b Q s:=rfl
theorem Ybq:xw P c (.exit i) Q s=Q (.exit i) s:=rfl
theorem Ygb:xw P c .ret Q s=Q .ret s:=rfl
theorem Xbs (b:TC):Ib P c b Q .normal s=xw P c b Q s:=rfl
theorem Xs7 (b:TC)(i:Nat):Ib P c b Q (.exit i) s=Q (.exit i) s:=rfl
theorem Xvo (b:TC):Ib P c b Q .ret s=Q .ret s:=rfl
end
section
variable {P:Program}{c:Cx}
def UX {ops:Array Oper}{id:Nat}{l:List bD}{Q:EX->St->Prop}{s:St}(hm:P.follows .mixedOrders=true)(hb:DK ops=true)(he:Zq P c.N ops ops.toList=some l)
  (h:XD P c (pY ops.toList []) l [] (Q .normal) s):AW P c (.region id ops true) Q s:=by
 intro g a w hR;obtain ⟨S,F,sn,h1,h2,h3,h4,h5⟩:=Ia ops.toList l [] s he h;have hn:ops.toList.length=ops.size:=by simp
 rw[hn]at h3 h5;simp only[List.reverse_nil,nil_append]at h5;have hc:Ch ops.size S F (fun j=>(List.range ops.size).filter fun i=>((pY ops.toList []).getD j 0).testBit i):=by
  refine ⟨fun j hj=>?_,fun j hj=>?_,fun i j fX hj aW=>?_⟩
  ·exact (h2 j ops[j] (by simp[hj])).a6
  ·exact (h2 j ops[j] (by simp[hj])).dm
  ·have:=H9 _ [] h5 j (by simpa using hj) i (by simp;omega) (by simpa using fX) (by simpa using MT aW);simp only[mem_filter,mem_range];exact ⟨by omega,by simpa using this⟩
 refine wp_region_any hm ?_
 have yS:HeadInv .any ops ops.size (Array.replicate ops.size false) :=
  ⟨by simp,fun j oj _ hl=>(by rw[getD_replicate_false]at hl;cases hl),fun t ht nc=>by omega⟩
 have bc:R c g s.fs a { w with drawn:=w.drawn+1 }:=hR.grow (Fr.drew w _);refine Xqt (S:=S) (F:=F) rfl hb hc (fun L' fm j hj=>?_) (fun j o ho=>h2 j o (by simpa using ho)) (fun g' a' w' rK=>⟨g',sn,by rw[h3];exact rK,h4⟩) _ _ g a _ yS ?_ ?_
 ·intro i hi;exact MP (ops:=ops) (L:=fun k=>L' k=true) fm ops.toList [] (fun i=>by simp) (fun j hj=>by simp at hj) j hj i (mem_filter.1 hi).2
 ·rw[MY _ fun j _=>getD_replicate_false _ _,h1];exact bc
 ·unfold ca;rw[List.filter_eq_self.2 (fun j hj=>by
   have c4:=mem_range.1 hj;rw[getD_in (by simp;omega) (getD_replicate_false _ _)];rfl)]
  simp
end
section
variable {P:Program}{c:Cx}{ops:Array Oper}
def UY {N:Nat}:∀ (os:List Oper) (l:List bD),Zq P N ops os=some l->l.length=os.length
 | [],l,h=>by simp[Zq]at h;subst h;rfl
 | o::os,l,h=>by
  unfold Zq at h;split at h
  ·rename_i x l' hx hl;simp at h;subst h;simp[UY os l' hl]
  ·cases h
def M6 {N:Nat}:∀ (os DN:List Oper) (l l':List bD),Zq P N ops os=some l->Zq P N ops DN=some l'->Zq P N ops (os++DN)=some (l++l')
 | [],DN,l,l',h,h'=>by simp[Zq]at h;subst h;simpa using h'
 | o::os,DN,l,l',h,h'=>by
  unfold Zq at h;split at h
  ·rename_i x l2 hx hl;simp at h;subst h;have:=M6 os DN l2 l' hl h';simp only[cons_append];unfold Zq;rw[hx,this]
  ·cases h
def yT {N:Nat}:∀ (k:Nat) (os:List Oper) (l:List bD),Zq P N ops os=some l->Zq P N ops (os.take k)=some (l.take k)/\Zq P N ops (os.drop k)=some (l.drop k)
 | 0,os,l,h=>⟨by simp[Zq],by simpa using h⟩
 | k+1,[],l,h=>by simp[Zq]at h;subst h;simp[Zq]
 | k+1,o::os,l,h=>by
  unfold Zq at h;split at h
  ·rename_i x l2 hx hl;simp at h;subst h;obtain ⟨h1,h2⟩:=yT k os l2 hl;simp only[List.take_succ_cons,List.drop_succ_cons];refine ⟨?_,h2⟩;unfold Zq;rw[hx,h1]
  ·cases h
def UZ {DO DP:List Nat}{K:St->Prop}{DQ DR:List Oper}{l1 l2:List bD}(e1:Zq P c.N ops DQ=some l1)(e2:Zq P c.N ops DR=some l2):∀ (pre:List Oper) (lp:List bD) (fs:List bg) (s:St),lp.all DM=true->Zq P c.N ops pre=some lp->XD P c DO (lp++l1) fs K s->XD P c DP (lp++l2) fs K s ->
  ∃ (S1:Nat→FS) (F1:Nat→bg) (wR:St) (S2:Nat→FS) (F2:Nat→bg) (wS:St),(S1 0=s.fs∧(∀ j o,(pre++DQ)[j]?=some o→kD P c ops o (S1 j) (F1 j) (S1 (j + 1)))∧wR.fs=S1 (pre++DQ).length∧K wR∧Ud DO [] (fs.reverse++(List.range (pre++DQ).length).map F1)=true) ∧
   (S2 0=s.fs/\(∀ j o,(pre++DR)[j]?=some o->kD P c ops o (S2 j) (F2 j) (S2 (j+1)))/\wS.fs=S2 (pre++DR).length/\K wS/\Ud DP [] (fs.reverse++(List.range (pre++DR).length).map F2)=true) /\
   (∀ p,p<=pre.length->S1 p=S2 p)/\∀ p,p<pre.length->F1 p=F2 p
 | [],lp,fs,s,_,he,h1,h2=>by
  simp[Zq]at he;subst he;obtain ⟨S1,F1,wR,a1,a2,a3,a4,a5⟩:=Ia DQ l1 fs s e1 h1;obtain ⟨S2,F2,wS,b1,b2,b3,b4,b5⟩:=Ia DR l2 fs s e2 h2;refine ⟨S1,F1,wR,S2,F2,wS,⟨a1,a2,a3,a4,a5⟩,⟨b1,b2,b3,b4,b5⟩,fun p hp=>?_,fun p hp=>by simp at hp⟩;have:p=0:=by simpa using hp
  subst this;rw[a1,b1]
 | o::pre,lp,fs,s,hq,he,h1,h2=>by
  unfold Zq at he;split at he
  ·rename_i x l' hx hl;simp at he;subst he;simp only[List.all_cons,Bool.and_eq_true]at hq;cases x<;>simp only[DM,Bool.false_eq_true,false_and]at hq
   rename_i d q xs gd;obtain ⟨qo,h1⟩:=h1;obtain ⟨_,h2⟩:=h2;obtain ⟨S1,F1,wR,S2,F2,wS,⟨a1,a2,a3,a4,a5⟩,⟨b1,b2,b3,b4,b5⟩,c1,c2⟩:=UZ e1 e2 pre l' _ _ hq.2 hl h1 h2;have hA:=(MN (P:=P) (c:=c) qo) ops o hx;refine ⟨fun j=>match j with|0=>s.fs|j+1=>S1 j,fun j=>match j with|0=>qO c.gl s.fs q d xs gd|j+1=>F1 j,wR,fun j=>match j with|0=>s.fs|j+1=>S2 j,fun j=>match j with|0=>qO c.gl s.fs q d xs gd|j+1=>F2 j,wS,⟨rfl,fun j o' ho=>?_,a3,a4,?_⟩,⟨rfl,fun j o' ho=>?_,b3,b4,?_⟩,fun p hp=>?_,fun p hp=>?_⟩
   ·cases j with
    | zero=>simp at ho;subst ho;simpa [a1] using hA
    | succ j=>exact a2 j o' (by simpa using ho)
   ·rw[cons_append,length_cons,List.range_succ_eq_map];simp only[map_cons,map_map];simp only[List.reverse_cons,List.append_assoc,List.singleton_append]at a5;exact a5
   ·cases j with
    | zero=>simp at ho;subst ho;simpa [b1] using hA
    | succ j=>exact b2 j o' (by simpa using ho)
   ·rw[cons_append,length_cons,List.range_succ_eq_map];simp only[map_cons,map_map];simp only[List.reverse_cons,List.append_assoc,List.singleton_append]at b5;exact b5
   ·cases p with
    | zero=>rfl
    | succ p=>exact c1 p (by simpa using hp)
   ·cases p with
    | zero=>rfl
    | succ p=>exact c2 p (by simpa using hp)
  ·cases he
variable {n:Nat}{S:Nat->FS}{F:Nat->bg}{A:Nat->List Nat}
def M7 {L L':Nat->Bool}{p:Nat}{o:Oper}(hc:Ch n S F A)(hp:p<n)(yU:L p=false)(eA:∀ q ∈ A p,q<p->L q=true)(aW:∀ m,m<n->L m=true->∀ q ∈ A m,L q=true)(c4:L' p=true)(ho:∀ i,i≠p->L' i=L i)(hA:kD P c ops o (S p) (F p) (S (p+1)))
  {g:Nat->GM} {a:Act} {w:World} (hR:R c g (SL L S F n) a w) {K:Act->World->Prop} {Q:Exit->Act->World->Prop} (hK:∀ g' a' w',R c g' (SL L' S F n) a' w'->K a' w'):Uj P ops o a w K Q:=by
 refine hA.step _ (fun t ht=>?_) (fun t ht=>?_) g a w hR K Q fun g' a' w' bc=>hK g' a' w' ?_
 ·rw[MU hc hp yU eA aW ht n (Nat.le_refl _),Nat.min_eq_right (Nat.le_of_lt hp)]
 ·rw[MV hc hp yU eA aW ht n (Nat.le_refl _),Nat.min_eq_right (Nat.le_of_lt hp)]
 ·have:=MW (L:=L) hc yU aW (L':=L') c4 ho n (Nat.le_refl _);rw[aa af]at this;rw[this];exact bc
def U0 {Q:Exit->Act->World->Prop}{σ:Nat->Nat}{q0:Nat}(hσ:∀ p,σ (σ p)=p)(hσn:∀ p,p<n->σ p<n)(hn:n=ops.size)(jq:DK ops=true)(hc:Ch n S F A)
  (eA:∀ L':Nat->Bool,(∀ (j:Nat) o,ops[j]?=some o->L' j=true->∀ e ∈ lB o,L' e=true)->L' q0=true->∀ p,p<n->L' (σ p)=true->∀ i ∈ A p,L' (σ i)=true)
  (hA:∀ p o,ops[σ p]?=some o->kD P c ops o (S p) (F p) (S (p+1))) (fW:∀ g a w,R c g (S n) a w->Q .normal a w) :
  ∀ (f:Nat) (listed:Array Bool) (g:Nat->GM) (a:Act) (w:World),HeadInv .any ops n listed->listed.getD q0 false=true->R c g (SL (fun p=>listed.getD (σ p) false) S F n) a w->ca listed n=f->wpAny P .any ops Q f listed a w:=by
 intro f
 induction f with
 | zero =>
  intro listed g a w inv BL hR hf;have bl:∀ j,j<n->listed.getD j true=true:=by
   rcases BH (listed:=listed) n with h|⟨i,hi,hu,_⟩
   ·exact h
   ·have:=yQ hu n hi;omega
  refine ⟨?_,fW g a w ?_⟩
  ·rw[List.eq_nil_iff_forall_not_mem];intro j hj;obtain ⟨h1,o,h2,_⟩:=mem_ready.1 hj;have:j < n:=by rw[hn];exact (Array.getElem?_eq_some_iff.1 h2).1
   rw[bl j this]at h1;cases h1
  ·rw[MX hc (fun j hj=>?_) n (Nat.le_refl _)]at hR
   ·exact hR
   ·have:=bl (σ j) (hσn j hj);have cC:σ j < listed.size:=by rw[inv.size,← hn];exact hσn j hj
    simpa [cC] using this
 | succ f ih =>
  intro listed g a w inv BL hR hf;rcases BH (listed:=listed) n with h|⟨i,hi,hu,hl⟩
  ·have:=MZ h;omega
  ·have nW:i < ops.size:=by omega
   have l6:i ∈ Region.ready .any ops listed:=mem_ready.2 ⟨hu,ops[i],Array.getElem?_eq_getElem nW,fun e he hb=>by
    have h1:=all_eq_true.1 jq i (mem_range.2 nW);rw[Array.getElem?_eq_getElem nW]at h1;have hlt:e.on<i:=by simpa using all_eq_true.1 h1 e.on (M0 he hb)
    have:=hl e.on hlt;have cC:e.on<listed.size:=by rw[inv.size];omega
    simpa [cC] using this⟩
   refine ⟨fun h0=>(by rw[h0]at l6;cases l6),fun j hj=>?_⟩;obtain ⟨l7,o,jY,bl⟩:=mem_ready.1 hj;have ij:j<n:=by rw[hn];exact (Array.getElem?_eq_some_iff.1 jY).1
   have wP:=yQ l7 n ij;have jX:listed.getD j false=false:=getD_both l7;have cC:j<listed.size:=by rw[inv.size];omega
   have fB:∀ (j:Nat) o,ops[j]?=some o->listed.getD j false=true->∀ e ∈ lB o,listed.getD e false=true:=fun j o ho hL e he=>by
    obtain ⟨x,h1,h2,rfl⟩:=BJ he;exact inv.closed j o ho hL x h1 h2
   have aW:=eA (fun j=>listed.getD j false) fB BL;have U1:j≠q0:=fun e=>by rw[e,BL]at jX;cases jX
   have h1:=inv.set hj ij;have Ic:σ (σ j)=j:=hσ j;have gF:∀ i ∈ A (σ j),i<σ j->listed.getD (σ i) false=true:=by
    intro i hi fX;have fm:=eA (fun k=>(listed.setIfInBounds j true).getD k false) (fun k o' oV hL e he=>by
     obtain ⟨x,h3,h4,rfl⟩:=BJ he;exact h1.closed k o' oV hL x h3 h4) (by rw[getD_set_ne false U1];exact BL) (σ j) (hσn j ij) (by
      rw[Ic];simp[cC]) i hi
    rw[getD_set_ne false (fun e=>by rw[e,hσ]at fX;omega)]at fm;exact fm
   have dW:=M7 (P:=P) (c:=c) (ops:=ops) (L:=fun p=>listed.getD (σ p) false) (L':=fun p=>(listed.setIfInBounds j true).getD (σ p) false) (p:=σ j) (o:=o) hc (hσn j ij) (by rw[Ic];exact jX) gF (fun m hm=>aW m hm) (by rw[Ic];simp[cC])
    (fun i hi=>getD_set_ne false (fun e=>hi (by rw[e,hσ]))) (hA (σ j) o (by rw[Ic];exact jY)) hR (K:=wpAny P .any ops Q f (listed.setIfInBounds j true)) (Q:=Q) fun g' a' w' bc =>
     ih _ g' a' w' (inv.set hj ij) (by rw[getD_set_ne false U1];exact BL) bc af
   unfold wpOp;rw[jY];unfold Uj at dW;show if Region.wanted o (yielded ops a.tmps)=true then _ else _;split
   ·rename_i hw;rw[am hw]at dW;exact .inl dW
   ·rename_i hw;rw[aa hw]at dW;exact dW
def U2 {S1 S2:Nat->FS}{F1 F2:Nat->bg}{k:Nat}{L1 L2:Nat->Bool}(hS:∀ p,p<=k->S1 p=S2 p)(hF:∀ p,p<k->F1 p=F2 p)(hL:∀ p,p<k->L1 p=L2 p)(h1:∀ p,k<=p->L1 p=false)(h2:∀ p,k<=p->L2 p=false):∀ m,SL L1 S1 F1 m=SL L2 S2 F2 m
 | 0=>hS 0 (Nat.zero_le _)
 | m+1=>by
  have e1:SL L1 S1 F1 (m+1)=if L1 m then dA (SL L1 S1 F1 m) (S1 (m+1)) (F1 m) else SL L1 S1 F1 m:=rfl;have e2:SL L2 S2 F2 (m+1)=if L2 m then dA (SL L2 S2 F2 m) (S2 (m+1)) (F2 m) else SL L2 S2 F2 m:=rfl;rw[e1,e2,U2 hS hF hL h1 h2 m];by_cases hm:m<k
  ·rw[hL m hm,hS (m+1) hm,hF m hm]
  ·rw[h1 m af,h2 m af];simp
end
section
variable {P:Program}{c:Cx}
def Xrj {ops:Array Oper}{id k:Nat}{l:List bD}{a1 a2:List Nat}{Q:EX->St->Prop}{s:St}(hm:P.follows .mixedOrders=true)(hb:DK ops=true)(he:Zq P c.N ops ops.toList=some l)(bX:(l.take k).all DM=true)(aS:M4 (pY ops.toList []) a1 a2 k l.length=true)
  (h1:XD P c a1 l [] (Q .normal) s) (h2:XD P c a2 (wQ k l) [] (Q .normal) s):AW P c (.region id ops true) Q s:=by
 intro g a w hR;have kE:=UY _ _ he;unfold M4 at aS;simp only[Bool.and_eq_true,decide_eq_true_eq,all_eq_true,mem_range]at aS;obtain ⟨pZ,aS⟩:=aS;have hn:ops.toList.length=ops.size:=by simp
 have BM:ops.size=k+5:=by omega
 obtain ⟨t1,t2⟩:=yT k _ _ he
 have M8:Zq P c.N ops ((ops.toList.drop (k + 2)).take 2++((ops.toList.drop k).take 2++ops.toList.drop (k + 4)))=some ((l.drop (k + 2)).take 2++((l.drop k).take 2++l.drop (k + 4))) :=
  M6 _ _ _ _ (yT 2 _ _ (yT (k+2) _ l he).2).1 (M6 _ _ _ _ (yT 2 _ _ (yT k _ l he).2).1 (yT (k+4) _ l he).2)
 obtain ⟨S1,F1,wR,S2,F2,wS,⟨x1,x2,x3,x4,x5⟩,⟨y1,y2,y3,y4,y5⟩,z1,z2⟩:=UZ t2 M8 (ops.toList.take k) (l.take k) [] s bX t1 (by rw[List.take_append_drop];exact h1) h2;rw[List.take_append_drop]at x2 x3 x5;have hro:ops.toList.take k++((ops.toList.drop (k+2)).take 2++((ops.toList.drop k).take 2++ops.toList.drop (k+4)))=wQ k ops.toList:=rfl;rw[hro]at y2 y3 y5;have BN:(wQ k ops.toList).length=ops.size:=by rw[Xx6 af];omega
 rw[BN]at y3 y5;rw[hn]at x3 x5;simp only[List.reverse_nil,nil_append]at x5 y5;have fY:(ops.toList.take k).length=k:=by rw[length_take];omega
 rw[fY]at z1 z2;have nX:∀ p o,ops[p]?=some o->kD P c ops o (S1 p) (F1 p) (S1 (p+1)):=fun p o ho=>x2 p o (by simpa using ho);have nd:∀ p o,ops[Yx k p]?=some o->kD P c ops o (S2 p) (F2 p) (S2 (p+1)):=fun p o ho=>y2 p o (by rw[Xwn af];simpa using ho);have get:∀ p,p<ops.size->∃ o,ops[p]?=some o:=fun p hp=>⟨ops[p],Array.getElem?_eq_getElem hp⟩
 have gX:Ch ops.size S1 F1 (fun j=>(List.range ops.size).filter fun i=>(a1.getD j 0).testBit i):=by
  refine ⟨fun j hj=>?_,fun j hj=>?_,fun i j fX hj aW=>?_⟩
  ·obtain ⟨o,ho⟩:=get j hj;exact (nX j o ho).a6
  ·obtain ⟨o,ho⟩:=get j hj;exact (nX j o ho).dm
  ·have:=H9 _ [] x5 j (by simpa using hj) i (by simp;omega) (by simpa using fX) (by simpa using MT aW);simp only[mem_filter,mem_range];exact ⟨by omega,by simpa using this⟩
 have nf:Ch ops.size S2 F2 (fun j=>(List.range ops.size).filter fun i=>(a2.getD j 0).testBit i):=by
  refine ⟨fun j hj=>?_,fun j hj=>?_,fun i j fX hj aW=>?_⟩
  ·obtain ⟨o,ho⟩:=get (Yx k j) (M3 hj BM);exact (nd j o ho).a6
  ·obtain ⟨o,ho⟩:=get (Yx k j) (M3 hj BM);exact (nd j o ho).dm
  ·have:=H9 _ [] y5 j (by simpa using hj) i (by simp;omega) (by simpa using fX) (by simpa using MT aW);simp only[mem_filter,mem_range];exact ⟨by omega,by simpa using this⟩
 have eA:∀ L':Nat->Bool,(∀ (j:Nat) o,ops[j]?=some o->L' j=true->∀ e ∈ lB o,L' e=true)->∀ j,L' j=true->∀ i,((pY ops.toList []).getD j 0).testBit i=true->L' i=true:=fun L' aW j hj i hi =>
  MP (ops:=ops) (L:=fun k=>L' k=true) aW ops.toList [] (fun i=>by simp) (fun j hj=>by simp at hj) j hj i hi
 have yV:∀ p q,p<ops.size->q<ops.size->(a1.getD p 0).testBit q=true->((pY ops.toList []).getD p 0).testBit q=true\/p=k+2/\q=k:=fun p q hp hq h=>by
  have:=(aS p af q af).1.1;rw[h]at this;simpa using this
 have kG:∀ p q,p<ops.size->q<ops.size->(a2.getD p 0).testBit q=true->((pY ops.toList []).getD (Yx k p) 0).testBit (Yx k q)=true\/Yx k p=k/\Yx k q=k+2:=fun p q hp hq h=>by
  have:=(aS p af q af).1.2;rw[h]at this;simpa using this
 have M9:∀ p,p<ops.size->k<p->p≠k+2->((pY ops.toList []).getD p 0).testBit k=true\/((pY ops.toList []).getD p 0).testBit (k+2)=true:=fun p hp hk cb=>by
  have:=(aS p af 0 af).2;simp only[Bool.or_eq_true,decide_eq_true_eq,beq_iff_eq]at this;rcases this with (((h|h)|h)|h)|h
  ·omega
  ·omega
  ·omega
  ·exact .inl h
  ·exact .inr h
 refine wp_region_any hm ?_
 have yS:HeadInv .any ops ops.size (Array.replicate ops.size false) :=
  ⟨by simp,fun j oj _ hl=>(by rw[getD_replicate_false]at hl;cases hl),fun t ht nc=>by omega⟩
 have bc:R c g s.fs a { w with drawn:=w.drawn+1 }:=hR.grow (Fr.drew w _);have DS:=U0 (Q:=uU c Q) (σ:=fun p=>p) (q0:=k) (fun _=>rfl) (fun _ h=>h) rfl hb gX (fun L' aW hq p hp yU i hi=>by
   obtain ⟨nU,m7⟩:=mem_filter.1 hi;rcases yV p i hp (mem_range.1 nU) m7 with h|⟨h3,h4⟩
   ·exact eA L' aW p yU i h
   ·rw[h4];exact hq) nX (fun g' a' w' rK=>⟨g',wR,by rw[x3];exact rK,x4⟩)
 have DT:=U0 (Q:=uU c Q) (σ:=Yx k) (q0:=k+2) (M1 k) (fun p h=>M3 h BM) rfl hb nf (fun L' aW hq p hp yU i hi=>by
   obtain ⟨nU,m7⟩:=mem_filter.1 hi;rcases kG p i hp (mem_range.1 nU) m7 with h|⟨h3,h4⟩
   ·exact eA L' aW _ yU _ h
   ·rw[h4];exact hq) nd (fun g' a' w' rK=>⟨g',wS,by rw[y3];exact rK,y4⟩)
 -- fV fwa fV Ie of the two is behind
 have phase:∀ (f:Nat) (listed:Array Bool) (g:Nat->GM) (a:Act) (w:World),HeadInv .any ops ops.size listed->(∀ p,k<=p->listed.getD p false=false)->R c g (SL (fun p=>listed.getD p false) S1 F1 ops.size) a w->ca listed ops.size=f->wpAny P .any ops (uU c Q) f listed a w:=by
  intro f
  induction f with
  | zero =>
   intro listed g a w inv br hR hf;exfalso;have cC:k<listed.size:=by rw[inv.size];omega
   have hu:listed.getD k true=false:=getD_in cC (br k (Nat.le_refl _));have:=yQ hu ops.size af;omega
  | succ f ih =>
   intro listed g a w inv br hR hf;rcases BH (listed:=listed) ops.size with h|⟨i,hi,hu,hl⟩
   ·have:=MZ h;omega
   ·have l6:i ∈ Region.ready .any ops listed:=mem_ready.2 ⟨hu,ops[i],Array.getElem?_eq_getElem hi,fun e lC bL=>by
     have h1:=all_eq_true.1 hb i (mem_range.2 hi);rw[Array.getElem?_eq_getElem hi]at h1;have hlt:e.on<i:=by simpa using all_eq_true.1 h1 e.on (M0 lC bL)
     have:=hl e.on hlt;have cC:e.on<listed.size:=by rw[inv.size];omega
     simpa [cC] using this⟩
    refine ⟨fun h0=>(by rw[h0]at l6;cases l6),fun j hj=>?_⟩;obtain ⟨l7,o,jY,bl⟩:=mem_ready.1 hj;have ij:j<ops.size:=(Array.getElem?_eq_some_iff.1 jY).1;have wP:=yQ l7 ops.size ij;have jX:listed.getD j false=false:=getD_both l7;have cC:j<listed.size:=by rw[inv.size];omega
    have h1:=inv.set hj ij;have fB:∀ (j:Nat) o,ops[j]?=some o->listed.getD j false=true->∀ e ∈ lB o,listed.getD e false=true:=fun j o ho hL e he=>by
     obtain ⟨x,h1,h2,rfl⟩:=BJ he;exact inv.closed j o ho hL x h1 h2
    have rL:∀ (k:Nat) o',ops[k]?=some o'->(listed.setIfInBounds j true).getD k false=true->∀ e ∈ lB o',(listed.setIfInBounds j true).getD e false=true:=fun k o' oV hL e he=>by
     obtain ⟨x,h3,h4,rfl⟩:=BJ he;exact h1.closed k o' oV hL x h3 h4
    have cr:(listed.setIfInBounds j true).getD j false=true:=by simp[cC]
    have gF:∀ i,((pY ops.toList []).getD j 0).testBit i=true->i≠j->listed.getD i false=true:=fun i hi fX=>by
     have:=eA (fun k=>(listed.setIfInBounds j true).getD k false) rL j cr i hi;rw[getD_set_ne false (fun e=>fX e.symm)]at this;exact this
    have iF:∀ m,m<ops.size->listed.getD m false=true->∀ q ∈ (List.range ops.size).filter (fun i=>(a1.getD m 0).testBit i),listed.getD q false=true:=fun m hm yP q hq=>by
     obtain ⟨nU,m7⟩:=mem_filter.1 hq;rcases yV m q hm (mem_range.1 nU) m7 with h|⟨h3,h4⟩
     ·exact eA (fun k=>listed.getD k false) fB m yP q h
     ·rw[br m af]at yP;cases yP
    have dW:Uj P ops o a w (wpAny P .any ops (uU c Q) f (listed.setIfInBounds j true)) (uU c Q):=by
     by_cases eI:j=k+2
     ·-- the entry first
      subst eI;have hσk:Yx k (k+2)=k:=by unfold Yx;(repeat' split)<;>omega
      have DU:SL (fun p=>listed.getD p false) S1 F1 ops.size=SL (fun p=>listed.getD (Yx k p) false) S2 F2 ops.size :=
       U2 z1 z2 (fun p hp=>by show listed.getD p false=listed.getD (Yx k p) false;rw[Xz0 hp]) br (fun p hp=>by
        show listed.getD (Yx k p) false=false;exact br _ (by unfold Yx;(repeat' split)<;>omega)) ops.size
      rw[DU]at hR
      refine M7 (P:=P) (c:=c) (ops:=ops) (L:=fun p=>listed.getD (Yx k p) false) (L':=fun p=>(listed.setIfInBounds (k + 2) true).getD (Yx k p) false) (p:=k) (o:=o) nf (by omega) (br _ (by unfold Yx;(repeat' split)<;>omega)) (fun q hq hlt=>?_) (fun m hm yP q hq=>?_)
       (by show (listed.setIfInBounds (k+2) true).getD (Yx k k) false=true;rw[show Yx k k=k+2 by unfold Yx;rw[am rfl]];exact cr) (fun i hi=>getD_set_ne false (fun e=>hi (by have:=congrArg (Yx k) e;rw[M1,hσk]at this;exact this.symm))) (nd k o (by rw[show Yx k k=k+2 by unfold Yx;rw[am rfl]];exact jY)) hR fun g' a' w' bc=>?_
      ·obtain ⟨nU,m7⟩:=mem_filter.1 hq;rcases kG k q af (mem_range.1 nU) m7 with h|⟨h3,h4⟩
       ·rw[show Yx k k=k+2 by unfold Yx;rw[am rfl]]at h;exact gF _ h (fun e=>by have:=congrArg (Yx k) e;rw[M1,hσk]at this;omega)
       ·rw[show Yx k k=k+2 by unfold Yx;rw[am rfl]]at h3;omega
      ·have yW:listed.getD (Yx k m) false=true:=yP;have BO:Yx k m<k:=by
        rcases Nat.lt_or_ge (Yx k m) k with h|h
        ·exact h
        ·rw[br _ h]at yW;cases yW
       obtain ⟨nU,m7⟩:=mem_filter.1 hq;rcases kG m q hm (mem_range.1 nU) m7 with h|⟨h3,h4⟩
       ·exact eA (fun k=>listed.getD k false) fB _ yW _ h
       ·omega
      ·exact DT f _ g' a' w' h1 cr bc af
     ·have DV:∀ {K:Act->World->Prop} {Q':Exit->Act->World->Prop},j<=k->(∀ g' a' w',R c g' (SL (fun p=>(listed.setIfInBounds j true).getD p false) S1 F1 ops.size) a' w'->K a' w')->Uj P ops o a w K Q':=fun {K Q'} tG hK =>
       M7 (P:=P) (c:=c) (ops:=ops) (L:=fun p=>listed.getD p false) (L':=fun p=>(listed.setIfInBounds j true).getD p false) (p:=j) (o:=o) gX ij jX (fun q hq hlt=>by
        obtain ⟨nU,m7⟩:=mem_filter.1 hq;rcases yV j q ij (mem_range.1 nU) m7 with h|⟨h3,h4⟩
        ·exact gF q h af
        ·exact (eI h3).elim) iF cr (fun i hi=>getD_set_ne false (fun e=>hi e.symm)) (nX j o jY) hR hK
      rcases Nat.lt_trichotomy j k with tG|tG|tG
      ·refine DV af fun g' a' w' bc=>ih _ g' a' w' h1 (fun p hp=>?_) bc af;rw[getD_set_ne false af];exact br p hp
      ·subst tG;exact DV (Nat.le_refl _) fun g' a' w' bc=>DS f _ g' a' w' h1 cr bc af
      ·exfalso;rcases M9 j ij tG eI with h|h
       ·have:=gF k h af;rw[br k (Nat.le_refl _)]at this;cases this
       ·have:=gF (k+2) h (fun e=>eI e.symm);rw[br (k+2) af]at this;cases this
    unfold wpOp;rw[jY];unfold Uj at dW;show if Region.wanted o (yielded ops a.tmps)=true then _ else _;split
    ·rename_i hw;rw[am hw]at dW;exact .inl dW
    ·rename_i hw;rw[aa hw]at dW;exact dW
 refine phase _ _ g a _ yS (fun p _=>getD_replicate_false _ _) ?_ ?_
 ·rw[MY _ fun j _=>getD_replicate_false _ _,x1];exact bc
 ·unfold ca;rw[List.filter_eq_self.2 (fun j hj=>by
   have c4:=mem_range.1 hj;rw[getD_in (by simp;omega) (getD_replicate_false _ _)];rfl)]
  simp
end
section
variable {P:Program}{c:Cx}
def yX (hm:P.follows .mixedOrders=true):∀ (code:Code) (t:TC) (Q:EX->St->Prop) (s:St),Jq P c.N code=some t->xw P c t Q s->AW P c code Q s:=by
 intro code
 induction code with
 | skip =>
  intro t Q s he h g a w hR;simp[Jq]at he;subst he;exact wp_skip ⟨g,s,hR,h⟩
 | region id ops d =>
  intro t Q s he h;cases d with
  | false =>
   simp only[Jq,Option.map_eq_some_iff]at he;obtain ⟨l,hl,rfl⟩:=he;intro g a w hR;exact wp_region_list (MO (K:=Q .normal) (fun s g a w hs hR=>⟨g,s,hR,hs⟩) ops.toList l s hl h g a w hR)
  | true =>
   simp only[Jq]at he;split at he
   ·rename_i hb;simp only[Option.map_eq_some_iff]at he;obtain ⟨l,hl,rfl⟩:=he;unfold UU at h;split at h
    ·split at h
     ·rename_i hk;exact Xrj hm hb hl hk.1 hk.2 h.1 h.2
     ·exact UX hm hb hl h
    ·exact UX hm hb hl h
   ·cases he
 | seq x y ihx ihy =>
  intro t Q s he h g a w hR;simp only[Jq]at he;split at he
  ·rename_i tx ty hx hy;simp at he;subst he;refine wp_seq (wp_mono (ihx tx _ s hx h g a w hR) fun e a' w' hq=>?_);cases e with
   | normal =>
    obtain ⟨g',s',bc,dd⟩:=hq;exact ihy ty Q s' hy dd g' a' w' bc
   | exit i=>exact hq
   | ret=>exact hq
   | goto l=>exact hq
   | panic ch=>exact hq
   | outgrown=>exact hq
  ·cases he
 | cond x a b U3 U4 =>
  intro t Q s he h g act w hR;simp only[Jq]at he;split at he
  ·rename_i ta tb ha hb;simp at he;subst he;obtain ⟨h1,h2,h3⟩:=h;have hv:=(hR.ev x).d6 h1;refine wp_cond_split hv (fun ht=>?_) fun hf=>?_
   ·exact U3 ta Q s ha (h2 ht) g act w hR
   ·exact U4 tb Q s hb (h3 hf) g act w hR
  ·cases he
 | block i b ih =>
  intro t Q s he h g a w hR;simp only[Jq,Option.map_eq_some_iff]at he;obtain ⟨tb,hb,rfl⟩:=he;refine wp_block (wp_mono (ih tb _ s hb h g a w hR) fun e a' w' hq=>?_);cases e with
  | exit j =>
   obtain ⟨g',s',bc,dd⟩:=hq;simp only[BK]at dd;simp only[Exit.inBlock];split
   ·rename_i e;rw[am e]at dd;exact ⟨g',s',bc,dd⟩
   ·rename_i e;rw[aa e]at dd;exact ⟨g',s',bc,dd⟩
  | normal=>exact hq
  | ret=>exact hq
  | goto l=>exact hq
  | panic ch=>exact hq
  | outgrown=>exact hq
 | loop b ih =>
  intro t Q s he h;simp only[Jq,Option.map_eq_some_iff]at he;obtain ⟨tb,hb,rfl⟩:=he;exact h b hb
 | exit i =>
  intro t Q s he h g a w hR;simp[Jq]at he;subst he;exact wp_exit ⟨g,s,hR,h⟩
 | ret =>
  intro t Q s he h g a w hR;simp[Jq]at he;subst he;exact wp_ret ⟨g,s,hR,h⟩
 | rangeFunc f ps a b U3 U4=>intro t Q s he;simp[Jq]at he
 | scope b ih=>intro t Q s he;simp[Jq]at he
 | label l=>intro t Q s he;simp[Jq]at he
 | goto l=>intro t Q s he;simp[Jq]at he
 | refuse why=>intro t Q s he;simp[Jq]at he
end
mutual
def Qe (n:Nat):AV->Prop
 | .dU _ v=>Qe n v
 | .agg cs=>ah n cs
 | .aR cs=>ah n cs
 | .xp cs _=>ah n cs
 | .isl _ cs=>ah n cs
 | .cl _ cs=>ah n cs
 | .ptr b _=>b<n
 | .sl _ b _ _ _=>b<n
 | .mp b=>b<n
 | _=>True
def ah (n:Nat):List AV->Prop
 | []=>True
 | x::xs=>Qe n x/\ah n xs
end
mutual
def aA (ρ:Nat->Nat):AV->AV
 | .dU b v=>.dU b (aA ρ v)
 | .agg cs=>.agg (ay ρ cs)
 | .aR cs=>.aR (ay ρ cs)
 | .xp cs o=>.xp (ay ρ cs) o
 | .isl n cs=>.isl n (ay ρ cs)
 | .cl f cs=>.cl f (ay ρ cs)
 | .ptr b o=>.ptr (ρ b) o
 | .sl es b o n c=>.sl es (ρ b) o n c
 | .mp b=>.mp (ρ b)
 | .any=>.any
 | .int k n=>.int k n
 | .bool b=>.bool b
 | .str l=>.str l
 | .nils=>.nils
 | .lit v=>.lit v
def ay (ρ:Nat->Nat):List AV->List AV
 | []=>[]
 | x::xs=>aA ρ x::ay ρ xs
end
def Xh {n:Nat}:∀ {cs:List AV},ah n cs ↔ ∀ x ∈ cs,Qe n x
 | []=>by simp[ah]
 | x::xs=>by simp[ah,Xh (cs:=xs)]
def Zd (ρ:Nat->Nat):∀ cs:List AV,ay ρ cs=cs.map (aA ρ)
 | []=>by simp[ay]
 | x::xs=>by simp[ay,Zd ρ xs]
def Yp (ρ:Nat->Nat)(cs:List AV):(ay ρ cs).length=cs.length:=by rw[Zd];simp
def Kt (ρ:Nat->Nat)(cs:List AV)(j:Nat):(ay ρ cs).getD j .any=aA ρ (cs.getD j .any):=by
 rw[Zd];simp only[List.getD,List.getElem?_map];cases cs[j]?<;>simp[aA]
def Zz {n:Nat}{cs:List AV}(h:ah n cs)(j:Nat):Qe n (cs.getD j .any):=by
 by_cases hj:j<cs.length
 ·rw[HE hj];exact Xh.1 h _ (getElem_mem _)
 ·have:cs.getD j .any=.any:=by simp[List.getD,Nat.le_of_not_lt hj]
  rw[this];simp[Qe]
section
variable {P:Program}{W:Nat->Prop}{w:World}{g g':Nat->GM}{n:Nat}{ρ:Nat->Nat}
def VR.bv (hg:∀ b,b<n->g (ρ b)=g' b){v:AV}  (h:VR g' W w v u):Qe n v->VR g W w (aA ρ v) u:=by
 induction h with
 | any v=>intro _;simp only[aA];exact .any _
 | dU h h0 ih=>intro hn;simp only[aA];simp only[Qe]at hn;exact .dU (fun hb=>ih hb hn) h0
 | int k n=>intro _;simp only[aA];exact .int _ _
 | bool b=>intro _;simp only[aA];exact .bool _
 | str l=>intro _;simp only[aA];exact .str _
 | agg hs h1 h ih =>
  intro hn;simp only[aA];simp only[Qe]at hn;exact .agg (by rw[Yp];exact hs) (fun j hj=>h1 j (by rwa [Yp]at hj)) fun j hj=>by rw[Kt];exact ih j (by rwa [Yp]at hj) (Zz hn j)
 | aR hs h ih =>
  intro hn;simp only[aA];simp only[Qe]at hn;exact .aR (by rw[Yp];exact hs) fun j hj=>by rw[Kt];exact ih j (by rwa [Yp]at hj) (Zz hn j)
 | ptr e=>intro hn;simp only[aA];simp only[Qe]at hn;exact .ptr (by rw[hg _ hn];exact e)
 | xp hc h ih =>
  intro hn;simp only[aA];simp only[Qe]at hn;exact .xp (fun j hj=>hc j (by rwa [Yp]at hj)) fun j hj=>by rw[Kt];exact ih j (by rwa [Yp]at hj) (Zz hn j)
 | sl e a b c d f=>intro hn;simp only[aA];simp only[Qe]at hn;exact .sl (by rw[hg _ hn];exact e) a b c d f
 | kz e hc=>intro hn;simp only[aA];simp only[Qe]at hn;exact .kz (by rw[hg _ hn];exact e) hc
 | isl a b hc h ih =>
  intro hn;simp only[aA];simp only[Qe]at hn;exact .isl a b (fun j hj=>hc j (by rwa [Yp]at hj)) fun j hj=>by rw[Kt];exact ih j (by rwa [Yp]at hj) (Zz hn j)
 | nils a=>intro _;simp only[aA];exact .nils _
 | cl hs h ih =>
  intro hn;simp only[aA];simp only[Qe]at hn;exact .cl (by rw[Yp];exact hs) fun j hj=>by rw[Kt];exact ih j (by rwa [Yp]at hj) (Zz hn j)
 | mp e=>intro hn;simp only[aA];simp only[Qe]at hn;exact .mp (by rw[hg _ hn];exact e)
 | lit v=>intro _;simp only[aA];exact .lit _
def VR.jr (hg:∀ b,b<n->g (ρ b)≠.un->g (ρ b)=g' b){x:AV}  (h:VR g W w x u):∀ v,x=aA ρ v->Qe n v->VR g' W w v u:=by
 induction h with
 | any=>intro v e _;cases v<;>simp[aA]at e;exact .any _
 | dU h h0 ih=>intro v e hn;cases v<;>simp[aA]at e;obtain ⟨rfl,rfl⟩:=e;exact .dU (fun hb=>ih hb _ rfl (by simpa [Qe] using hn)) h0
 | int k n=>intro v e _;cases v<;>simp[aA]at e;obtain ⟨rfl,rfl⟩:=e;exact .int _ _
 | bool b=>intro v e _;cases v<;>simp[aA]at e;subst e;exact .bool _
 | str l=>intro v e _;cases v<;>simp[aA]at e;subst e;exact .str _
 | agg hs h1 h ih =>
  intro v e hn;cases v<;>simp[aA]at e;subst e;simp only[Qe]at hn
  rw[Yp]at hs h1 ih;exact .agg hs h1 fun j hj=>ih j hj _ (Kt _ _ _) (Zz hn j)
 | aR hs h ih =>
  intro v e hn;cases v<;>simp[aA]at e;subst e;simp only[Qe]at hn
  rw[Yp]at hs ih;exact .aR hs fun j hj=>ih j hj _ (Kt _ _ _) (Zz hn j)
 | ptr e0=>intro v e hn;cases v<;>simp[aA]at e;obtain ⟨rfl,rfl⟩:=e;simp only[Qe]at hn;exact .ptr (by rw[<- hg _ hn (by rw[e0];intro x;cases x)];exact e0)
 | xp hc h ih =>
  intro v e hn;cases v<;>simp[aA]at e;obtain ⟨rfl,rfl⟩:=e;simp only[Qe]at hn
  rw[Yp]at hc ih;exact .xp hc fun j hj=>ih j hj _ (Kt _ _ _) (Zz hn j)
 | sl e0 a b c d f=>intro v e hn;cases v<;>simp[aA]at e;obtain ⟨rfl,rfl,rfl,rfl,rfl⟩:=e;simp only[Qe]at hn;exact .sl (by rw[<- hg _ hn (by rw[e0];intro x;cases x)];exact e0) a b c d f
 | kz e0 hc=>intro v e hn;cases v<;>simp[aA]at e;obtain ⟨rfl,rfl,rfl,rfl,rfl⟩:=e;simp only[Qe]at hn;exact .kz (by rw[<- hg _ hn (by rw[e0];intro x;cases x)];exact e0) hc
 | isl a b hc h ih =>
  intro v e hn;cases v<;>simp[aA]at e;obtain ⟨rfl,rfl⟩:=e;simp only[Qe]at hn
  rw[Yp]at hc ih;exact .isl a b hc fun j hj=>ih j hj _ (Kt _ _ _) (Zz hn j)
 | nils a=>intro v e _;cases v<;>simp[aA]at e;exact .nils _
 | cl hs h ih =>
  intro v e hn;cases v<;>simp[aA]at e;obtain ⟨rfl,rfl⟩:=e;simp only[Qe]at hn
  rw[Yp]at hs ih;exact .cl hs fun j hj=>ih j hj _ (Kt _ _ _) (Zz hn j)
 | mp e0=>intro v e hn;cases v<;>simp[aA]at e;subst e;simp only[Qe]at hn;exact .mp (by rw[<- hg _ hn (by rw[e0];intro x;cases x)];exact e0)
 | lit=>intro v e _;cases v<;>simp[aA]at e;subst e;exact .lit _
def tH (ρ:Nat->Nat)(h:∀ b,ρ b=b):∀ v:AV,aA ρ v=v:=by
 have:ρ=id:=funext h;subst this;intro v
 exact AV.rec (motive_1:=fun v=>aA id v=v) (motive_2:=fun l=>ay id l=l) (by simp[aA]) (fun b v h=>by simp[aA,h]) (fun _ _=>by simp[aA]) (fun _=>by simp[aA]) (fun _=>by simp[aA])
  (fun cs h=>by simp[aA,h]) (fun cs h=>by simp[aA,h]) (fun _ _=>by simp[aA]) (fun cs _ h=>by simp[aA,h]) (fun _ _ _ _ _=>by simp[aA]) (fun _ cs h=>by simp[aA,h]) (by simp[aA])
  (fun _ cs h=>by simp[aA,h]) (fun _=>by simp[aA]) (fun _=>by simp[aA]) (by simp[ay]) (fun x xs h1 h2=>by simp[ay,h1,h2]) v
def VR.nm {v:AV}  (h:VR g W w v u)(hn:Qe n v)(hg:∀ b,b<n->g b=g' b):VR g' W w v u :=
 h.jr (ρ:=id) (n:=n) (g':=g') (fun b hb _=>hg b hb) v (tH _ (fun _=>rfl) v).symm hn
end
def rl:List (Nat×Nat)->Nat->Nat
 | [],b=>b
 | (i,j)::r,b=>bif i==b then j else rl r b
def Qw (ρ:Nat->Nat):Bk->Bk
 | .cells cs=>.cells (ay ρ cs)
 | .az kvs dn=>.az (kvs.map fun p=>(aA ρ p.1,aA ρ p.2)) dn
 | .bp kvs bs ck=>.bp (kvs.map fun p=>(aA ρ p.1,aA ρ p.2)) bs ck
 | .iter b ck seen=>.iter (ρ b) ck seen
 | .dK ls=>.dK ls
 | x=>x
def bV (n:Nat):Bk->Prop
 | .cells cs=>ah n cs
 | .az kvs _=>∀ p ∈ kvs,Qe n p.1/\Qe n p.2
 | .bp kvs _ _=>∀ p ∈ kvs,Qe n p.1/\Qe n p.2
 | .iter b _ _=>b<n
 | .dK ls=>∀ l ∈ ls,ah 0 l
 | _=>False
def Qr (ρ:Nat->Nat)(n:Nat)(st:List (Nat×AV)):List (Nat×AV)->Prop
 | []=>True
 | (i,v)::r=>(Qe n v/\look st i=aA ρ v)/\Qr ρ n st r
def uV (ρ:Nat->Nat)(b:Nat):List (Nat×Bk)->Prop
 | []=>True
 | (b',_)::r=>ρ b'≠ρ b/\uV ρ b r
def qa (ρ:Nat->Nat)(n:Nat)(s:St):List (Nat×Bk)->Prop
 | []=>True
 | (b,x)::r=>(b<n/\bV n x/\Qc s.h s.n (ρ b)=Qw ρ x/\uV ρ b r)/\qa ρ n s r
def Sub (ρ:Nat->Nat)(s s':St):Prop:=Qr ρ s'.n s.t s'.t/\qa ρ s'.n s s'.h
def U5:∀ (l:List (Nat×AV)) (i:Nat),look l i=.any\/∃ p ∈ l,p.1=i/\look l i=p.2
 | [],_=>.inl rfl
 | (j,v)::l,i=>by
  rw[Jk];by_cases h:j=i
  ·rw[am h];exact .inr ⟨(j,v),by simp,h,rfl⟩
  ·rw[aa h];rcases U5 l i with h'|⟨p,h1,h2,h3⟩
   ·exact .inl h'
   ·exact .inr ⟨p,by simp[h1],h2,h3⟩
def Jh:∀ (l:List (Nat×Bk)) (n i:Nat),(Qc l n i=if i<n then .dead else .free)\/∃ p ∈ l,p.1=i/\Qc l n i=p.2
 | [],n,i=>by
  exact .inl rfl
 | (j,v)::l,n,i=>by
  rw[Qf];by_cases h:j=i
  ·rw[am h];exact .inr ⟨(j,v),by simp,h,rfl⟩
  ·rw[aa h];rcases Jh l n i with h'|⟨p,h1,h2,h3⟩
   ·exact .inl h'
   ·exact .inr ⟨p,by simp[h1],h2,h3⟩
def U6 {ρ:Nat->Nat}{n:Nat}{st:List (Nat×AV)}:∀ {l:List (Nat×AV)},Qr ρ n st l->∀ p ∈ l,Qe n p.2/\look st p.1=aA ρ p.2
 | [],_,p,hp=>by cases hp
 | (i,v)::r,h,p,hp=>by
  rcases mem_cons.1 hp with rfl|hp
  ·exact h.1
  ·exact U6 h.2 p hp
def Na {ρ:Nat->Nat}{b:Nat}:∀ {l:List (Nat×Bk)},uV ρ b l->∀ p ∈ l,ρ p.1≠ρ b
 | [],_,p,hp=>by cases hp
 | (i,v)::r,h,p,hp=>by
  rcases mem_cons.1 hp with rfl|hp
  ·exact h.1
  ·exact Na h.2 p hp
def Nb {ρ:Nat->Nat}{n:Nat}{s:St}:∀ {l:List (Nat×Bk)},qa ρ n s l->∀ p ∈ l,p.1<n/\bV n p.2/\Qc s.h s.n (ρ p.1)=Qw ρ p.2
 | [],_,p,hp=>by cases hp
 | (i,v)::r,h,p,hp=>by
  rcases mem_cons.1 hp with rfl|hp
  ·exact ⟨h.1.1,h.1.2.1,h.1.2.2.1⟩
  ·exact Nb h.2 p hp
def U7 {ρ:Nat->Nat}{n:Nat}{s:St}:∀ {l:List (Nat×Bk)},qa ρ n s l->∀ p ∈ l,∀ q ∈ l,ρ p.1=ρ q.1->p.1=q.1
 | [],_,p,hp=>by cases hp
 | (i,v)::r,h,p,hp=>by
  intro q hq e;rcases mem_cons.1 hp with rfl|hp<;>rcases mem_cons.1 hq with rfl|hq
  ·rfl
  ·exact absurd e.symm (Na h.1.2.2.2 q hq)
  ·exact absurd e (Na h.1.2.2.2 p hp)
  ·exact U7 h.2 p hp q hq e
def Yc7 {ls Dv:List (List AV)}(hp:Dv.Perm ls)(hn:∀ l ∈ ls,ah 0 l):ah 0 Dv.flatten:=Xh.2 fun x hx=>by
 obtain ⟨l,hl,hx⟩:=List.mem_flatten.1 hx;exact Xh.1 (hn l (hp.mem_iff.1 hl)) x hx
def BR.kH {g g':Nat->GM}{W W':Nat->Prop}  {m:GM}{ls:List (List AV)}(h:BR g W w m (.dK ls))(hn:∀ l ∈ ls,ah 0 l)(hW:∀ k,W' k->W k):BR g' W' w m (.dK ls):=by
 cases h with
 | dK hp h =>
  refine .dK hp ?_;have hf:=Yc7 hp hn;generalize List.flatten _=cs at h hf;cases h with
  | ph=>exact .ph
  | cells hb hl h1 hv hz=>exact .cells hb hl h1 (fun j hj=>((hv j hj).nm (Zz hf j) (fun b hb=>by omega)).mono (Fr.refl w W) (fun k _=>hW k) (fun _ _=>rfl)) hz
section
variable {g g':Nat->GM}{W W':Nat->Prop}{w:World}
def BR.jr {ρ:Nat->Nat}{n:Nat}(fF:∀ b,b<n->g (ρ b)≠.un->g (ρ b)=g' b){mm:GM}{x:Bk}(h:BR g W w mm (Qw ρ x))(hn:bV n x)(hW:∀ k,W' k->W k):BR g' W' w mm x:=by
 have back:∀ {v u},Qe n v->VR g W w (aA ρ v) u->VR g' W' w v u:=fun hn h=>(h.jr fF _ rfl hn).mono (Fr.refl w W) (fun k _=>hW k) (fun _ _=>rfl);cases x with
 | free=>exact hn.elim
 | dead=>exact hn.elim
 | cells cs =>
  simp only[Qw]at h;simp only[bV]at hn;generalize iQ:ay ρ cs=cs' at h;cases h with
  | ph =>
   have:cs=[]:=by cases cs<;>simp_all [ay]
   subst this;exact .ph
  | cells hb hl h1 hv hz =>
   subst iQ;rw[Yp]at hl h1 hv;exact .cells hb hl h1 (fun j hj=>back (Zz hn j) (by have:=hv j hj;rwa [Kt]at this)) hz
 | az kvs dn =>
  simp only[Qw]at h;simp only[bV]at hn;generalize iQ:(kvs.map fun p=>(aA ρ p.1,aA ρ p.2))=kvs' at h;cases h with
  | az hb hs ji hv hc ha hd =>
   subst iQ;rw[List.length_map]at hs ji hv;have aY:∀ j,j<kvs.length->(kvs.map fun p=>(aA ρ p.1,aA ρ p.2)).getD j (.any,.any)=(aA ρ (kvs.getD j (.any,.any)).1,aA ρ (kvs.getD j (.any,.any)).2):=fun j hj=>by simp[List.getD,hj]
   have bN:∀ j,j<kvs.length->kvs.getD j (.any,.any) ∈ kvs:=fun j hj=>by simp[List.getD,hj]
   exact .az hb hs (fun j hj=>back (hn _ (bN j hj)).1 (by have:=ji j hj;rwa [aY j hj]at this)) (fun j hj=>back (hn _ (bN j hj)).2 (by have:=hv j hj;rwa [aY j hj]at this)) hc ha hd
 | bp kvs bs ck =>
  simp only[Qw]at h;simp only[bV]at hn;generalize iQ:(kvs.map fun p=>(aA ρ p.1,aA ρ p.2))=kvs' at h;cases h with
  | bp hb hs ji hv hc ha hd =>
   subst iQ;rw[List.length_map]at hs ji hv;have aY:∀ j,j<kvs.length->(kvs.map fun p=>(aA ρ p.1,aA ρ p.2)).getD j (.any,.any)=(aA ρ (kvs.getD j (.any,.any)).1,aA ρ (kvs.getD j (.any,.any)).2):=fun j hj=>by simp[List.getD,hj]
   have bN:∀ j,j<kvs.length->kvs.getD j (.any,.any) ∈ kvs:=fun j hj=>by simp[List.getD,hj]
   exact .bp hb hs (fun j hj=>back (hn _ (bN j hj)).1 (by have:=ji j hj;rwa [aY j hj]at this)) (fun j hj=>back (hn _ (bN j hj)).2 (by have:=hv j hj;rwa [aY j hj]at this)) hc ha hd
 | iter b0 ck seen =>
  simp only[Qw]at h;simp only[bV]at hn;generalize iQ:ρ b0=b1 at h;cases h with
  | iter hb lU=>exact .iter hb (by rw[<- fF b0 hn (by rw[iQ,lU];intro x;cases x),iQ];exact lU)
 | dK ls=>exact BR.kH h hn hW
end
def Xb {n:Nat}{x:Bk}(h:bV n x):x.live:=by cases x<;>simp_all [bV,Bk.live]
def BP {ρ:Nat->Nat}{x:Bk}:(Qw ρ x).live ↔ x.live:=by cases x<;>simp[Qw,Bk.live]
section
variable {P:Program}{c:Cx}
open Classical in
def Sub.to {ρ:Nat->Nat}{s s':St}(hs:Sub ρ s s'){g:Nat->GM}   (hR:R c g s.fs a w)(js:∀ p ∈ c.gh,ρ p.1=p.1/\p.1<s'.n):∃ g',R c g' s'.fs a w:=by
 obtain ⟨hT,hH⟩:=hs
 let g':Nat->GM:=fun b=>if b<s'.n then (if g (ρ b)=.un then .ph else g (ρ b)) else .un
 have fF:∀ b,b<s'.n->g (ρ b)≠.un->g (ρ b)=g' b:=fun b hb h=>by simp only[g',am hb,aa h]
 have jk:∀ b,s'.n<=b->g' b=.un:=fun b hb=>by simp only[g'];rw[aa af]
 have cb:∀ b,b<s'.n->g' b≠.un:=fun b hb=>by
  simp only[g',am hb];split
  ·intro h;cases h
  ·assumption
 -- Nc a live name of s' is
 have aO:∀ b,(s'.fs.H b).live->∃ p ∈ s'.h,p.1=b/\s'.fs.H b=p.2:=fun b hl=>by
  rcases Jh s'.h s'.n b with h|h
  ·have:s'.fs.H b=if b<s'.n then .dead else .free:=h;rw[this]at hl;split at hl<;>exact hl.elim
  ·exact h
 have jt:∀ b,(s'.fs.H b).live->b<s'.n/\(s.fs.H (ρ b)).live/\g' b=g (ρ b):=fun b hl=>by
  obtain ⟨p,hp,rfl,e⟩:=aO b hl;obtain ⟨h1,h2,h3⟩:=Nb hH p hp;have dG:(s.fs.H (ρ p.1)).live:=by
   show (Qc s.h s.n (ρ p.1)).live;rw[h3,BP];exact Xb h2
  refine ⟨h1,dG,(fF _ h1 fun e=>?_).symm⟩;have:=hR.h (ρ p.1);rw[e]at this;generalize s.fs.H (ρ p.1)=x at this dG;exact this.gE dG
 have hW:∀ k,Qm c g' s'.fs k->Qm c g s.fs k:=by
  rintro k (h|⟨b,h1,h2⟩)
  ·exact .inl h
  ·obtain ⟨_,h4,h5⟩:=jt b h1;exact .inr ⟨ρ b,h4,by rw[<- h5];exact h2⟩
 have hf:=Fr.refl w (Qm c g s.fs);have DW:∀ {v u},VR g' (Qm c g s.fs) w v u->VR g' (Qm c g' s'.fs) w v u:=fun h=>h.mono hf (fun k _=>hW k) (fun _ _=>rfl);have back:∀ {v u},Qe s'.n v->VR g (Qm c g s.fs) w (aA ρ v) u->VR g' (Qm c g' s'.fs) w v u:=fun hn h=>DW (h.jr fF _ rfl hn);refine ⟨g',hR.size,hR.ew,fun i=>?_,fun i=>(hR.gl i).mono hf (fun k _=>hW k) (fun _ _=>rfl),fun b=>?_,fun b b' k h1 h2 e1 e2=>?_,fun b k h1 e1=>?_,hR.fr,hR.xs,fun p hp=>?_⟩
 ·rcases U5 s'.t i with h|⟨p,h1,rfl,h3⟩
  ·show VR g' _ w (look s'.t i) _;rw[h];exact .any _
  ·show VR g' _ w (look s'.t p.1) _;rw[h3];obtain ⟨q1,q2⟩:=U6 hT p h1;have:=hR.t p.1;have e:s.fs.T p.1=aA ρ p.2:=q2;rw[e]at this;exact back q1 this
 ·rcases Jh s'.h s'.n b with h|⟨p,h1,rfl,h3⟩
  ·show BR g' _ w _ (Qc s'.h s'.n b);rw[h];split
   ·rename_i hb;exact .dead (cb b hb)
   ·rename_i hb;rw[jk b af];exact .free
  ·show BR g' _ w _ (Qc s'.h s'.n p.1);rw[h3];obtain ⟨q1,q2,q3⟩:=Nb hH p h1;have hl:(s'.fs.H p.1).live:=by
    show (Qc s'.h s'.n p.1).live;rw[h3];exact Xb q2
   obtain ⟨_,_,e5⟩:=jt p.1 hl;rw[e5];have ez:=hR.h (ρ p.1);have e:s.fs.H (ρ p.1)=Qw ρ p.2:=q3;rw[e]at ez;exact ez.jr fF q2 hW
 ·obtain ⟨p1,DX,rfl,_⟩:=aO b h1;obtain ⟨p2,fe,rfl,_⟩:=aO b' h2;obtain ⟨_,l1,d1⟩:=jt _ h1;obtain ⟨_,l2,d2⟩:=jt _ h2;exact U7 hH p1 DX p2 fe (hR.inj _ _ k l1 l2 (by rw[<- d1];exact e1) (by rw[<- d2];exact e2))
 ·obtain ⟨_,l1,d1⟩:=jt _ h1;exact hR.old _ k l1 (by rw[<- d1];exact e1)
 ·obtain ⟨q1,q2⟩:=hR.jj p hp;obtain ⟨q3,q4⟩:=js p hp;have:=fF p.1 q4 (by rw[q3,q1];exact q2);rw[<- this,q3];exact ⟨q1,q2⟩
def Ig {σ:Type}(I:σ->Prop)(c5:σ->St)(μ:σ->Nat)(x:σ)(Q:EX->St->Prop):EX->St->Prop
 | .normal,s=>∃ y,I y/\(∃ ρ,Sub (rl ρ) s (c5 y))/\μ y<μ x
 | e,s=>Q e s
def Qu {σ:Type}(I:σ->Prop)(c5:σ->St)(μ:σ->Nat){b:TC}{Q:EX->St->Prop}{s:St}(hm:P.follows .mixedOrders=true)(bf:c.gh=[])(h0:∃ y,I y/\∃ ρ,Sub (rl ρ) s (c5 y))
  (hr:∀ x,I x->xw P c b (Ig I c5 μ x Q) (c5 x)):qS P c b Q s:=by
 intro code he g a w hR;obtain ⟨y0,DY,ρ0,fL⟩:=h0;obtain ⟨g0,l8⟩:=fL.to hR (by rw[bf];intro p hp;cases hp);have key:∀ n (x:σ),μ x=n->I x->∀ g a w,R c g (c5 x).fs a w->∀ (fr:Frame) (k:List Item) (cs:List Frame),∃ e a' w',uU c Q e a' w'/\Arrives P (lone (fr.at a (.code code::.inLoop code::k)) cs w) fr k cs e a' w':=by
  intro n
  induction n using Nat.strongRecOn with
  | _ n ih =>
   intro x hx hI g a w hR fr k cs;have hb:=yX hm code b _ _ he (hr x hI) g a w hR;obtain ⟨e,a1,w1,hq,fo⟩:=hb fr (.inLoop code::k) cs;cases e with
   | normal =>
    obtain ⟨g1,s1,gp,y,DZ,⟨ρ,hs⟩,hlt⟩:=hq;obtain ⟨g2,cq⟩:=hs.to gp (by rw[bf];intro p hp;cases hp);obtain ⟨e2,a2,w2,ng,l9⟩:=ih (μ y) af y rfl DZ g2 a1 w1 cq fr k cs;exact ⟨e2,a2,w2,ng,.of_steps (Steps.trans fo (.one step_inLoop)) l9⟩
   | exit i=>exact ⟨.exit i,a1,w1,hq,.pass (x:=.inLoop code) rfl (fun _ _=>.inl aw) fo⟩
   | ret=>exact ⟨.ret,a1,w1,hq,.pass (x:=.inLoop code) rfl (fun _ _=>.inl aw) fo⟩
   | goto l=>exact hq.elim
   | panic ch=>exact hq.elim
   | outgrown=>exact hq.elim
 intro fr k cs;obtain ⟨e,a',w',hq,fo⟩:=key _ y0 rfl DY g0 a w l8 fr k cs;exact ⟨e,a',w',hq,.of_steps (.one step_loop) fo⟩
def rN (m:Nat)(ρ:List (Nat×Nat))(n:Nat):Prop:=(∀ p ∈ ρ,m<=p.1)/\m<=n
def U8 {m:Nat}:∀ {ρ:List (Nat×Nat)} (_:∀ p ∈ ρ,m<=p.1) {b:Nat},b<m->rl ρ b=b
 | [],_,_,_=>rfl
 | (i,j)::ρ,h,b,hb=>by
  have h1:m<=i:=h (i,j) aw;have h2:=U8 (ρ:=ρ) (fun p hp=>h p (by simp[hp])) hb;have:(i==b)=false:=by simp;omega
  simp only[rl,this,cond_false,h2]
def Nd {m:Nat}{ρ:List (Nat×Nat)}{n:Nat}(bf:∀ p ∈ c.gh,p.1<m)(h:rN m ρ n):∀ p ∈ c.gh,rl ρ p.1=p.1/\p.1<n:=fun p hp=>⟨U8 h.1 (bf p hp),Nat.lt_of_lt_of_le (bf p hp) h.2⟩
def Ih {σ:Type}(m:Nat)(I:σ->Prop)(c5:σ->St)(μ:σ->Nat)(x:σ)(Q:EX->St->Prop):EX->St->Prop
 | .normal,s=>∃ y,I y/\(∃ ρ,rN m ρ (c5 y).n/\Sub (rl ρ) s (c5 y))/\μ y<μ x
 | e,s=>Q e s
def wT {σ:Type}(I:σ->Prop)(c5:σ->St)(μ:σ->Nat){b:TC}{Q:EX->St->Prop}{s:St}(hm:P.follows .mixedOrders=true)(m:Nat)(bf:∀ p ∈ c.gh,p.1<m)(h0:∃ y,I y/\∃ ρ,rN m ρ (c5 y).n/\Sub (rl ρ) s (c5 y))
  (hr:∀ x,I x->xw P c b (Ih m I c5 μ x Q) (c5 x)):qS P c b Q s:=by
 intro code he g a w hR;obtain ⟨y0,DY,ρ0,hp0,fL⟩:=h0;obtain ⟨g0,l8⟩:=fL.to hR (Nd bf hp0);have key:∀ n (x:σ),μ x=n->I x->∀ g a w,R c g (c5 x).fs a w->∀ (fr:Frame) (k:List Item) (cs:List Frame),∃ e a' w',uU c Q e a' w'/\Arrives P (lone (fr.at a (.code code::.inLoop code::k)) cs w) fr k cs e a' w':=by
  intro n
  induction n using Nat.strongRecOn with
  | _ n ih =>
   intro x hx hI g a w hR fr k cs;have hb:=yX hm code b _ _ he (hr x hI) g a w hR;obtain ⟨e,a1,w1,hq,fo⟩:=hb fr (.inLoop code::k) cs;cases e with
   | normal =>
    obtain ⟨g1,s1,gp,y,DZ,⟨ρ,hp,hs⟩,hlt⟩:=hq;obtain ⟨g2,cq⟩:=hs.to gp (Nd bf hp);obtain ⟨e2,a2,w2,ng,l9⟩:=ih (μ y) af y rfl DZ g2 a1 w1 cq fr k cs;exact ⟨e2,a2,w2,ng,.of_steps (Steps.trans fo (.one step_inLoop)) l9⟩
   | exit i=>exact ⟨.exit i,a1,w1,hq,.pass (x:=.inLoop code) rfl (fun _ _=>.inl aw) fo⟩
   | ret=>exact ⟨.ret,a1,w1,hq,.pass (x:=.inLoop code) rfl (fun _ _=>.inl aw) fo⟩
   | goto l=>exact hq.elim
   | panic ch=>exact hq.elim
   | outgrown=>exact hq.elim
 intro fr k cs;obtain ⟨e,a',w',hq,fo⟩:=key _ y0 rfl DY g0 a w l8 fr k cs;exact ⟨e,a',w',hq,.of_steps (.one step_loop) fo⟩
def BQ (P : Program) (f : FuncId) : Prop := ∃ fn, P.funcs[f]? = some fn /\ fn.body.isNone = false /\ (fn.name == "runtime.NumGoroutine") = false
def PS (P:Program)(gl:Nat->AV)(f:FuncId)(args:List AV)(r:AV):Prop :=
 BQ P f∧∀ (w:World) (vs:List Value) (X:Nat→Prop),(∀ k,X k→k < w.heap.size)→(∀ i,VR (fun _=>.un) X w (gl i) (.pointer (some ⟨i,0,none⟩)))→bR (fun _=>.un) X w args vs →
  Calls P f vs.toArray w fun e w'=>∃ v,e=.returned v/\VR (fun _=>.un) X w' r v/\Fr w w' (fun _=>False)
inductive RS where
 | t (i:Nat)
 | cell (a:Nat) (ty:TY)
def qb (P:Program):List ResultVar->Option (List RS)
 | []=>some []
 | .tmp t::r=>(qb P r).map (.t t::·)
 | .cell a t::r=>match lV P t,qb P r with
  | some ty,some l=>some (.cell a ty::l)
  | _,_=>none
def rv (s:FS):RS->AV
 | .t i=>s.T i
 | .cell a ty=>match s.T a with
  | .ptr b off=>match s.H b with
   | .cells cs=>wr ty cs off
   | _=>.any
  | _=>.any
def Ue (s:FS):List RS->Prop
 | []=>True
 | .t _::r=>Ue s r
 | .cell a ty::r=>(match s.T a with
  | .ptr b off=>match s.H b with
   | .cells cs=>kB ty cs off
   | _=>False
  | _=>False)/\Ue s r
def iy (s:FS):List RS->AV
 | [x]=>rv s x
 | l=>.aR (l.map (rv s))
def Ys (s:FS):AV->AV
 | .sl es b off n _=>match s.H b with
  | .cells cs=>.isl n ((cs.drop off).take (n*es))
  | _=>.any
 | v=>v
def Zf (s:FS):AV->AV
 | .agg cs=>.agg (cs.map (Ys s))
 | v=>Ys s v
def fZ (s:FS):AV->AV
 | .aR vs=>.aR (vs.map (Zf s))
 | v=>Zf s v
def D2 (rs:List RS)(r:AV):EX->St->Prop
 | .exit _,_=>False
 | _,s=>Ue s.fs rs/\fZ s.fs (iy s.fs rs)=r
def kJ:Nat->List AV->List (Nat×AV)
 | _,[]=>[]
 | k,x::xs=>(k,x)::kJ (k+1) xs
def Nf:∀ (xs:List AV) (k i:Nat),look (kJ k xs) i=if k<=i/\i<k+xs.length then xs.getD (i-k) .any else .any
 | [],k,i=>by
  rw[aa (fun h=>by have:=h.2;simp at this;omega)];rfl
 | x::xs,k,i=>by
  simp only[kJ];rw[Jk,Nf xs (k+1) i];by_cases h:k=i
  ·subst h;rw[am rfl,am aw];simp
  ·rw[aa h];simp only[length_cons];by_cases h2:k + 1≤i∧i < k + 1 + xs.length
   ·rw[am h2,am af];have:i - k=(i - (k + 1)) + 1:=by omega
    rw[this];simp
   ·rw[aa h2,aa af]
def Ng {g:Nat->GM}{s:FS}{a:Act}{w:World}(hR:R c g s a w):∀ (rs:List ResultVar) (l:List RS),qb P rs=some l->Ue s l ->
  ∃ vs:List Value,(rs.mapM (fun x=>(match x with|.tmp t=>pure (a.tmps.getD t undef)|.cell ad t=>do loadVar t (<- asAddr (a.tmps.getD ad undef)):Sem Value))).run P w=.ok vs w/\bR g (Qm c g s) w (l.map (rv s)) vs
 | [],l,he,_=>by simp[qb]at he;subst he;exact ⟨[],by simp,trivial⟩
 | .tmp t::r,l,he,ho=>by
  simp only[qb,Option.map_eq_some_iff]at he;obtain ⟨l',h1,rfl⟩:=he;obtain ⟨vs,h2,h3⟩:=Ng hR r l' h1 ho;exact ⟨a.tmps.getD t undef::vs,by simp only[List.mapM_cons,Sem.run_bind,Sem.run_pure,Result.andThen_ok,h2],hR.t t,h3⟩
 | .cell ad t::r,l,he,ho=>by
  simp only[qb]at he;split at he
  ·rename_i ty l' jT hl;simp at he;subst he;obtain ⟨yY,ho2⟩:=ho;obtain ⟨vs,h2,h3⟩:=Ng hR r l' hl ho2;have ht:=hR.t ad;cases hT:s.T ad<;>rw[hT]at yY<;>simp only at yY
   rename_i b off;rw[hT]at ht;obtain ⟨k,e1,e2⟩:=BA ht;cases hH:s.H b<;>rw[hH]at yY<;>simp only at yY
   rename_i cs;have ez:=hR.h b;rw[hH]at ez;have D4:∃ v,(loadVar t ⟨k,off,none⟩).run P w=.ok v w/\VR g (Qm c g s) w (wr ty cs off) v:=by
    by_cases eW:0<cs.length
    ·obtain ⟨k',us,q1,q2,q3,q4⟩:=Mt ez eW;rw[e2]at q1;cases q1;obtain ⟨v,hr,pX⟩:=Dx (P:=P) (o:=0) jT q2 q3 q4 yY;exact ⟨v,by simpa [Instr.loadAt,Instr.sureAddr] using hr,pX⟩
    ·obtain ⟨rfl,rfl,rfl⟩:=TZ yY eW;obtain ⟨v,hr,pX⟩:=Dx (P:=P) (g:=g) (W:=Qm c g s) (k:=k) (o:=0) (us:=fun _=>undef) jT (fun j hj=>absurd hj aw) (fun j hj=>absurd hj aw) (fun j hj=>absurd hj aw) yY;exact ⟨v,by simpa [Instr.loadAt,Instr.sureAddr] using hr,pX⟩
   obtain ⟨v,j7,ea⟩:=D4;refine ⟨v::vs,?_,?_,h3⟩
   ·have Nh:(asAddr (a.tmps.getD ad undef)).run P w=.ok ⟨k,off,none⟩ w:=by rw[e1];rfl
    simp only[List.mapM_cons,Sem.run_bind,Nh,Sem.run_pure,Result.andThen_ok,j7,h2]
   ·have:rv s (.cell ad ty)=wr ty cs off:=by simp only[rv,hT,hH]
    rw[this];exact ea
  ·cases he
def Ii {l:List RS}{g:Nat->GM}{s:FS}   (hR:R c g s a w)(he:qb P fn.results.toList=some l)(ho:Ue s l):∃ v,(results fn a.tmps).run P w=.ok v w/\VR g (Qm c g s) w (iy s l) v:=by
 obtain ⟨vs,h1,h2⟩:=Ng hR _ _ he ho;have h3:(fn.results.mapM (fun x=>(match x with|.tmp t=>pure (a.tmps.getD t undef)|.cell ad t=>do loadVar t (<- asAddr (a.tmps.getD ad undef)):Sem Value))).run P w=.ok vs.toArray w:=by
  rw[Array.mapM_eq_mapM_toList];simp only[Sem.run_map,h1,Result.andThen_ok]
 have h4:(results fn a.tmps).run P w=.ok (if h:vs.toArray.size=1 then vs.toArray[0] else .tuple vs.toArray) w:=by
  unfold results;rw[Sem.run_bind];exact (congrArg (fun r=>Result.andThen r _) h3).trans rfl
 refine ⟨_,h4,?_⟩;clear h4 h3 h1
 match l,vs,h2 with
 | [x],[v],h2=>exact h2.1
 | [],[],_=>exact .aR rfl fun j hj=>absurd hj aw
 | x::y::l,u::v::vs,h2 =>
  rw[dif_neg aw];have hl:=h2.length;exact .aR (by simp at hl ⊢;omega) fun j hj=>by
   have:=h2.get j hj;simpa using this
def U9 {g:Nat->GM}{s:FS}   (hR:R c g s a w){b k:Nat}(hl:(s.H b).live)(hg:g b=.re k):¬ c.X k:=fun hx=>by
 have h1:=hR.xs k hx;rcases hR.old b k hl hg with h|h
 ·omega
 ·exact h1.2 h
def VR.shut {g:Nat->GM}{s:FS}   (hR:R c g s a w){v:AV}  (h:VR g (Qm c g s) w v u)(hn:Qe 0 v):VR (fun _=>.un) c.X w v u :=
 (h.nm hn (g':=fun _=>.un) (fun b hb=>absurd hb af)).mono (Fr.refl _ _) (fun _ _ h=>.inl h) (fun _ _=>rfl)
def Va {g:Nat->GM}{s:FS}   (hR:R c g s a w){v:AV}  (h:VR g (Qm c g s) w v u)(hn:Qe 0 (Ys s v)):VR (fun _=>.un) c.X w (Ys s v) u:=by
 by_cases hs:∃ es b off n k,v=.sl es b off n k
 ·obtain ⟨es,b,off,n,k,rfl⟩:=hs;simp only[Ys]at hn ⊢;cases hH:s.H b with
  | cells cs =>
   rw[hH]at hn;simp only at hn ⊢;simp only[Qe]at hn;have ez:=hR.h b;rw[hH]at ez;rcases qM h with ⟨kk,cap,e,cur,fz,rfl,hg,h1,h2,h3,h4,h5⟩|⟨wL,rfl,hg,rfl,rfl⟩
   ·rw[hg]at ez;have hx:=U9 hR (by rw[hH];trivial) hg;cases ez with
    | cells hb hl iD hv hz =>
     rename_i Ni e2 fz2;rw[h4]at hb;cases hb;have hlen:∀ j,j<((cs.drop off).take (n*es)).length->off+j<cs.length/\j<n*es:=fun j hj=>by simp at hj;omega
     refine .isl (us:=fun j=>cur.getD (off+j) undef) af h3 (fun j hj=>?_) fun j hj=>?_
     ·obtain ⟨qN,eI⟩:=hlen j hj;refine ⟨kk,off,rfl,?_,hx,iD _ qN⟩;have:=cell_of_row w kk (off + j) cur e fz h4;unfold Uv;rw[this];have:off + j < cur.size:=by omega
      simp[Array.getD,this]
     ·obtain ⟨qN,eI⟩:=hlen j hj;have ee:((cs.drop off).take (n * es)).getD j .any=cs.getD (off + j) .any:=by simp only[List.getD,getElem?_take,getElem?_drop,am eI]
      have nY:=Zz hn j;rw[ee]at nY ⊢;exact (hv _ qN).shut hR nY
   ·refine .isl (us:=fun _=>undef) (Nat.le_refl 0) (by simp[maxLen]) (fun j hj=>?_) fun j hj=>?_
    ·simp at hj
    ·simp at hj
  | _=>exact .any _
 ·have:Ys s v=v:=by
   cases v<;>first|rfl|exact absurd ⟨_,_,_,_,_,rfl⟩ hs
  rw[this]at hn ⊢;exact h.shut hR hn
def Nj {g:Nat->GM}{s:FS}   (hR:R c g s a w){v:AV}  (h:VR g (Qm c g s) w v u)(hn:Qe 0 (Zf s v)):VR (fun _=>.un) c.X w (Zf s v) u:=by
 by_cases hs:∃ cs,v=.agg cs
 ·obtain ⟨cs,rfl⟩:=hs;simp only[Zf]at hn ⊢;simp only[Qe]at hn;obtain ⟨us,rfl,h1,h2,h3⟩:=Ui h;refine .agg (by simpa using h1) (fun j hj=>h2 j (by simpa using hj)) fun j hj=>?_;have c4:j < cs.length:=by simpa using hj
  have ee:(cs.map (Ys s)).getD j .any=Ys s (cs.getD j .any):=by simp[List.getD,c4]
  have nY:=Zz hn j;rw[ee]at nY ⊢;exact Va hR (h3 j c4) nY
 ·have:Zf s v=Ys s v:=by
   cases v<;>first|rfl|exact absurd ⟨_,rfl⟩ hs
  rw[this]at hn ⊢;exact Va hR h hn
def Yh8 {g:Nat->GM}{s:FS}   (hR:R c g s a w){v:AV}  (h:VR g (Qm c g s) w v u)(hn:Qe 0 (fZ s v)):VR (fun _=>.un) c.X w (fZ s v) u:=by
 by_cases hs:∃ cs,v=.aR cs
 ·obtain ⟨cs,rfl⟩:=hs;simp only[fZ]at hn ⊢;simp only[Qe]at hn;obtain ⟨us,rfl,h1,h3⟩:=Dz h;refine .aR (by simpa using h1) fun j hj=>?_;have c4:j < cs.length:=by simpa using hj
  have ee:(cs.map (Zf s)).getD j .any=Zf s (cs.getD j .any):=by simp[List.getD,c4]
  have nY:=Zz hn j;rw[ee]at nY ⊢;exact Nj hR (h3 j c4) nY
 ·have:fZ s v=Zf s v:=by
   cases v<;>first|rfl|exact absurd ⟨_,rfl⟩ hs
  rw[this]at hn ⊢;exact Nj hR h hn
def Ybt {w:World}{vs:List Value}{args:List AV}{N:Nat}(hN:args.length<=N){X:Nat->Prop}{gl:Nat->AV}(hX:∀ k,X k->k<w.heap.size)(me:∀ i,VR (fun _=>.un) X w (gl i) (.pointer (some ⟨i,0,none⟩)))
  (hv:bR (fun _=>.un) X w args vs):R ⟨N,w,fun _=>False,X,gl,[]⟩ (fun _=>.un) (⟨kJ 0 args,[],0⟩:St).fs { tmps:=vs.toArray++Array.replicate (N-vs.toArray.size) undef,defers:=[] } w:=by
 have hl:=hv.length;have hH:∀ b,(⟨kJ 0 args,[],0⟩:St).fs.H b=.free:=fun b=>by
  show Qc [] 0 b=.free;rcases Jh [] 0 b with h|⟨p,hp,_⟩
  ·rw[h];simp
  ·cases hp
 have hW:∀ k,Qm ⟨N,w,fun _=>False,X,gl,[]⟩ (fun _=>.un) (⟨kJ 0 args,[],0⟩:St).fs k->X k:=by
  rintro k (h|⟨b,h1,_⟩)
  ·exact h
  ·rw[hH]at h1;exact h1.elim
 have l5:∀ {v u},VR (fun _=>.un) X w v u->VR (fun _=>.un) (Qm ⟨N,w,fun _=>False,X,gl,[]⟩ (fun _=>.un) (⟨kJ 0 args,[],0⟩:St).fs) w v u:=fun h=>h.mono (Fr.refl _ _) (fun k _=>hW k) (fun _ _=>rfl);refine ⟨by simp;omega,rfl,fun i=>?_,fun i=>l5 (me i),fun b=>by rw[hH];exact .free,fun b b' k h=>by rw[hH]at h;exact h.elim,fun b k h=>by rw[hH]at h;exact h.elim,Fr.refl _ _,fun k hk=>⟨hX k hk,id⟩,fun p hp=>by cases hp⟩;show VR _ _ w (look (kJ 0 args) i) _;rw[Nf];split
 ·rename_i h;have hi:i < vs.length:=by omega
  have:=hv.get i af;have e:(vs.toArray++Array.replicate (N-vs.toArray.size) undef).getD i undef=vs.getD i undef:=by
   simp only[Array.getD_eq_getD_getElem?,List.getD];rw[Array.getElem?_append_left (by simpa using hi)];simp
  rw[e];simpa using l5 this
 ·exact .any _
def Xy9 {gl : Nat -> AV} {f : FuncId} {fn : Func} {code : Code} {t : TC} {rs : List RS} {args : List AV} {r : AV} (hm : P.follows .mixedOrders = true) (hf : P.funcs[f]? = some fn) (hb : fn.body = some code) (fq : (fn.name == "runtime.NumGoroutine") = false)
  (he:Jq P fn.ntmps code=some t) (hr:qb P fn.results.toList=some rs) (hN:args.length<=fn.ntmps) (ik:Qe 0 r)
  (h:∀ c:Cx,c.gh=[]->c.gl=gl->xw P c t (D2 rs r) ⟨kJ 0 args,[],0⟩):PS P gl f args r:=by
 refine ⟨⟨fn,hf,by rw[hb];rfl,fq⟩,fun w vs X hX me hv=>?_⟩;refine calls_of_wp hf hb ?_;have hR:=Ybt hN hX me hv;have:=yX (c:=⟨fn.ntmps,w,fun _=>False,X,gl,[]⟩) hm code t _ _ he (h _ rfl rfl) _ _ _ hR;refine wp_mono this fun e a' w' hq=>?_;have fin:∀ (g:Nat->GM) (s:St),R ⟨fn.ntmps,w,fun _=>False,X,gl,[]⟩ g s.fs a' w'->(Ue s.fs rs/\fZ s.fs (iy s.fs rs)=r)->a'.defers=[]/\∃ v,(results fn a'.tmps).run P w'=.ok v w'/\(∃ rO,Ending.returned v=.returned rO/\VR (fun _=>.un) X w' r rO/\Fr w w' fun _=>False):=by
  intro g s bc ⟨h1,h2⟩;obtain ⟨v,h3,h4⟩:=Ii bc hr h1;refine ⟨bc.ew,v,h3,v,rfl,?_,bc.fr⟩;rw[<- h2]at ik ⊢;exact Yh8 bc h4 ik
 cases e with
 | normal=>obtain ⟨g,s,bc,dd⟩:=hq;exact fin g s bc dd
 | ret=>obtain ⟨g,s,bc,dd⟩:=hq;exact fin g s bc dd
 | exit i=>obtain ⟨g,s,bc,dd⟩:=hq;exact dd.elim
 | goto l=>exact hq.elim
 | panic ch=>exact hq.elim
 | outgrown=>exact hq.elim
def BS {o:Oper}{f:FuncId}  (h:Xs P o=some (.call f,xs)):∃ ts,o.op=.call ⟨.value (.func f),xs.toArray,ts⟩:=by
 unfold Xs at h
 repeat' split at h
 all_goals first
  | (simp only[Option.some.injEq,Prod.mk.injEq,PK.call.injEq]at h;obtain ⟨rfl,rfl⟩:=h;rename_i hop;exact ⟨_,by rw[hop]⟩)
  | (simp at h;done)
  | (cases h;done)
  | (simp[Option.map_eq_some_iff]at h;done)
def BT {f:FuncId}(hc:BQ P f){o:Oper}  {ts:Array TypeId}(ho:o.op=.call ⟨.value (.func f),xs.toArray,ts⟩)(a:Act)(w:World) :
  (execOp a.eval o).run P w=.ok (.enter f (xs.map a.eval).toArray) w:=by
 obtain ⟨fn,h1,h2,h3⟩:=hc;have Nk:fn.body≠none:=fun e=>by rw[e]at h2;cases h2
 have Nl : fn.name ≠ "runtime.NumGoroutine" := fun e => by rw [e] at h3; cases h3
 simp[execOp,ho,resolve,Act.eval,Deferred.ofValue,invoke,callFunc,program,Sem.run,h1,Nk,Nl]
def Nn {g g':Nat->GM}{W:Nat->Prop}{w:World}{n:Nat}(hg:∀ b,b<n->g b=g' b):∀ {xs:List AV} {vs:List Value},bR g W w xs vs->ah n xs->bR g' W w xs vs
 | [],[],_,_=>trivial
 | _::_,_::_,h,hn=>⟨h.1.nm hn.1 hg,Nn hg h.2 hn.2⟩
 | [],_::_,h,_=>h.elim
 | _::_,[],h,_=>h.elim
def Yz (d:Option Nat)(xs:List TV)(gd:Option (Nat×Bool)):bg:=⟨jU gd++Xf xs,[],d.toList,[]⟩
def St.cd (s:St)(d:Option Nat)(v:AV):St :=
 match d with
 | some d=>s.put d v
 | none=>s
def Ut (gl:Nat->AV)(s:FS)(xs:List TV)(gd:Option (Nat×Bool)):Prop:=gn s gd/\Qq (gB s gd) (aC gl s xs)
theorem Vb {s:St}{d:Option Nat}{f:FuncId}{xs:List TV}{gd:Option (Nat×Bool)}{args:List AV}{r:AV}(aS:Ut c.gl s.fs xs gd)(aM:(aC c.gl s.fs xs).map Qh=args)(ik:ah 0 args)
  (ef:ob (gB s.fs gd) (PS P c.gl f args r)):Kn P c (.pd d (.call f) xs gd) s.fs (Yz d xs gd) (s.cd d (cw (gB s.fs gd) r)).fs:=by
 intro ops io he;obtain ⟨aV,a8,hd,ys,aD,rfl⟩:=Zj he;obtain ⟨ts,hop⟩:=BS aD;have ju:(s.cd d (cw (gB s.fs gd) r)).fs=match d with|some d=>s.fs.put d (cw (gB s.fs gd) r)|none=>s.fs:=by
  cases d with
  | none=>rfl
  | some d=>exact St.bS _ _ _
 rw[ju];refine ⟨fun i hi=>?_,fun b _=>by cases d<;>rfl,?_⟩
 ·cases d with
  | none=>rfl
  | some d=>show (s.fs.put d _).T i=_;rw[FS.dE,aa (fun e=>hi (by simp[Yz,e]))]
 ·intro s2 hT hH g a w hR K Q' hK;have bj:aC c.gl s2 (ys.map aP)=aC c.gl s.fs (ys.map aP):=Ya fun i hi=>hT i (by simp[Yz,hi]);have hg:∀ t b,gd=some (t,b)->s2.T t=s.fs.T t:=fun t b e=>hT t (by simp[Yz,e,jU]);have jV:gB s2 gd=gB s.fs gd:=by
   cases gd with
   | none=>rfl
   | some p=>obtain ⟨t,b⟩:=p;simp only[gB,hg t b rfl]
  have jW:gn s2 gd:=by
   have:=aS.1;cases gd with
   | none=>exact this
   | some p=>obtain ⟨t,b⟩:=p;simpa only[gn,hg t b rfl] using this
  have m8:∀ v w',Fr w w' (fun _=>False)->VR g (Qm c g s2) w' (cw (gB s.fs gd) r) v->K (a.put io.dst v) w':=fun v w' hf hv=>by
   rw[a8];have bc:=hR.grow hf;cases d with
   | none =>
    refine hK g _ w' ?_;have:dA s2 s.fs (Yz none (ys.map aP) gd)=s2:=by unfold dA Yz;simp
    simp only[this];exact bc
   | some d =>
    refine hK g _ w' ?_;show R c g (dA s2 (s.fs.put d _) ⟨jU gd++Xf (ys.map aP),[],[d],[]⟩) _ _;rw[yM];exact bc.put (by simpa using hd) hv
  unfold Uj;rw[wN aV hR jW,jV];have run:(∀ b,gB s.fs gd=some b->b=true)->io.wp P a w K Q':=by
   intro hb;have gX:Qq none (aC c.gl s2 (ys.map aP)):=by
    rw[bj];have:=aS.2;cases bW:gB s.fs gd with
    | none=>rw[bW]at this;exact this
    | some b=>rw[bW]at this;exact BD (hb b bW) this
   have rP:PS P c.gl f args r:=by
    cases bW:gB s.fs gd with
    | none=>rw[bW]at ef;exact ef
    | some b=>rw[bW]at ef;exact ef (hb b bW)
   have hv:=Yi (hR.ci ys) gX;rw[bj,aM]at hv;have pW:bR (fun _=>.un) (Qm c g s2) w args (ys.map a.eval):=Nn (n:=0) (fun b hb=>absurd hb af) hv ik;have hX:∀ k,Qm c g s2 k->k<w.heap.size:=by
    rintro k (h|⟨b',hl,fF⟩)
    ·have:=(hR.xs k h).1;have:=hR.fr.size;omega
    ·exact BR.lt (fF ▸ hR.h b') hl
   have eB:=rP.2 w _ _ hX (fun i=>(hR.gl i)) pW;unfold Oper.wp;rw[BT rP.1 hop];rw[Oper.upon_enter];refine eB.mono fun e w' ⟨v,e1,e2,e3⟩=>?_;subst e1;refine m8 v w' e3 ?_;have ea:VR g (Qm c g s2) w' r v:=e2.mono (Fr.refl _ _) (fun _ _ h=>h) (fun _ h=>absurd rfl h);cases bW:gB s.fs gd with
   | none=>exact ea
   | some b=>exact .dU (fun _=>ea) fun h=>by rw[hb b bW]at h;cases h
  cases bW:gB s.fs gd with
  | none=>simp only[Option.getD_none,if_true];exact run fun b h=>by rw[bW]at h;cases h
  | some b =>
   cases b with
   | true=>simp only[Option.getD_some,if_true];exact run fun b h=>by rw[bW]at h;cases h;rfl
   | false =>
    simp only[Option.getD_some,Bool.false_eq_true,if_false];refine m8 undef w (Fr.refl _ _) ?_;rw[bW];exact .dU (fun h=>by cases h) fun _=>rfl
def Yiy {r0:List bD}{K:St->Prop}{s:St}{d:Option Nat}{f:FuncId}{xs:List TV}{gd:Option (Nat×Bool)}{args:List AV}{r:AV}(ef:ob (gB s.fs gd) (PS P c.gl f args r))(aM:(aC c.gl s.fs xs).map Qh=args)
  (aS:Ut c.gl s.fs xs gd/\ah 0 args/\XP P c r0 K (s.cd d (cw (gB s.fs gd) r))):Yn P c (.pd d (.call f) xs gd) r0 K s :=
 .inl ⟨_,_,Vb aS.1 aM aS.2.1 ef,aS.2.2⟩
def Yfx {anc:List Nat}{fs:List bg}{r0:List bD}{K:St->Prop}{s:St}{d:Option Nat}{f:FuncId}{xs:List TV}{gd:Option (Nat×Bool)}{args:List AV}{r:AV}(ef:ob (gB s.fs gd) (PS P c.gl f args r))(aM:(aC c.gl s.fs xs).map Qh=args)
  (aS:Ut c.gl s.fs xs gd/\ah 0 args/\XD P c anc r0 (Yz d xs gd::fs) K (s.cd d (cw (gB s.fs gd) r))):Zm P c anc (.pd d (.call f) xs gd) r0 fs K s :=
 ⟨_,_,Vb aS.1 aM aS.2.1 ef,aS.2.2⟩
structure FT (P:Program)(f:FuncId)(fn:Func)(t:TC)(rs:List RS):Prop where
 func:P.funcs[f]?=some fn
 code:fn.body.bind (Jq P fn.ntmps)=some t
 res:qb P fn.results.toList=some rs
 name : (fn.name == "runtime.NumGoroutine") = false
 mixed:P.follows .mixedOrders=true
def aG (P:Program)(fn:Func):TC:=(fn.body.bind (Jq P fn.ntmps)).getD .skip
theorem Yce {α:Type}{o:Option α}(d:α)(h:o.isSome=true):o=some (o.getD d):=by
 cases o with
 | none=>cases h
 | some x=>rfl
def FT.of {P : Program} {f : FuncId}  {rs : List RS} (h1 : P.funcs[f]? = some fn) (h2 : (fn.body.bind (Jq P fn.ntmps)).isSome = true := by kernel_rfl) (h3 : qb P fn.results.toList = some rs := by kernel_rfl) (h4 : (fn.name == "runtime.NumGoroutine") = false := by kernel_rfl) (h5 : P.follows .mixedOrders = true := by kernel_rfl) : FT P f fn (aG P fn) rs :=
 ⟨h1,Yce _ h2,h3,h4,h5⟩
def FT.ps {gl:Nat->AV}{f:FuncId}{fn:Func}{t:TC}{rs:List RS}(hF:FT P f fn t rs){args:List AV}{r:AV}(hN:args.length<=fn.ntmps)(ik:Qe 0 r)
  (h:∀ c:Cx,c.gh=[]->c.gl=gl->xw P c t (D2 rs r) ⟨kJ 0 args,[],0⟩):PS P gl f args r:=by
 have hc:=hF.code;cases hb:fn.body with
 | none=>rw[hb]at hc;simp at hc
 | some code =>
  rw[hb]at hc;exact Xy9 hF.mixed hF.func hb hF.name hc hF.res hN ik h
end
def No (n es o:Nat):Bk->AV
 | .cells cs=>.isl n ((cs.drop o).take (n*es))
 | _=>.any
def Np (s:FS):Option Nat->Bk
 | some b=>s.H b
 | none=>.free
def Nq:AV->Bool->Option Bool
 | .bool b,w=>some (b==w)
 | .dU c (.bool b),w=>some (c&&(b==w))
 | _,_=>some false
def D5:AV->Prop
 | .bool _=>True
 | .dU _ (.bool _)=>True
 | _=>False
def Nr:Bk->TY->Nat->AV->Prop
 | .cells cs,ty,o,v=>BE ty cs o v
 | _,_,_,_=>False
def Ij:Bk->TY->Nat->AV
 | .cells cs,ty,o=>wr ty cs o
 | _,_,_=>.any
def Ns (s:FS)(ty:TY):AV->AV
 | .ptr b o=>Ij (s.H b) ty o
 | _=>.any
def Ik:Bk->TY->Nat->Prop
 | .cells cs,ty,o=>kB ty cs o
 | _,_,_=>False
def Nt (s:FS)(ty:TY):AV->Prop
 | .ptr b o=>Ik (s.H b) ty o
 | _=>False
theorem Xif (n es o:Nat)(cs:List AV):No n es o (.cells cs)=.isl n ((cs.drop o).take (n*es)):=rfl
theorem Yjh (s:St)(i:Nat):s.fs.T i=look s.t i:=rfl
theorem Yjx (s:St)(i:Nat):s.fs.H i=Qc s.h s.n i:=rfl
theorem Xlg (b:Bool):(b==true)=b:=by cases b<;>rfl
theorem Xkl (b:Bool):(b==false)=!b:=by cases b<;>rfl
theorem Ygx (b:Bool):(true != b)=!b:=by cases b<;>rfl
theorem Yfz (b:Bool):(false != b)=b:=by cases b<;>rfl
theorem Qwi (b c:Bool):((b&&c)=true->b=true)=True:=by cases b<;>simp
theorem Yh6 (b:Bool):(bif b then true else false)=b:=by cases b<;>rfl
theorem Yhb (b c:Bool):(bif b then true else c)=(b||c):=by cases b<;>rfl
theorem Ydr (b c:Bool):(bif b then c else false)=(b&&c):=by cases b<;>rfl
theorem Il:Qc [] n j=if j<n then .dead else .free:=rfl
theorem Xbg (v:Bk)(l:List (Nat×Bk))(n j:Nat):Qc ((i,v)::l) n j=bif i==j then v else Qc l n j:=rfl
theorem Xub:look [] j=.any:=rfl
theorem Xih (l:List (Nat×AV))(j:Nat):look ((i,v)::l) j=bif i==j then v else look l j:=rfl
theorem Xby (n:Int):Qh (.int k n)=(.int k n):=rfl
theorem Xos (g:Option Bool)(k:IntKind)(n:Int):fb g (.int k n)=True:=rfl
theorem Xa6 (n:Int):Ke (.int k n)=[.int k n]:=rfl
theorem Xgt (s:FS)(k:IntKind)(n:Int):Zf s (.int k n)=Ys s (.int k n):=rfl
theorem Xg9 (s:FS)(k:IntKind)(n:Int):Ys s (.int k n)=(.int k n):=rfl
theorem Xnh (s:FS)(k:IntKind)(n:Int):fZ s (.int k n)=Zf s (.int k n):=rfl
theorem Xnw (n:Int):one (.int k n)=True:=rfl
theorem Xfy (n:Int):lz (.int k n)=True:=rfl
theorem Qvr (n:Int)(r:List AV):Jw ((.int k n)::r)=none:=rfl
theorem Xgd (n:Int):Qe m (.int k n)=True:=by simp only[Qe]
theorem Xm9 (ρ:Nat->Nat)(k:IntKind)(n:Int):aA ρ (.int k n)=(.int k n):=by simp only[aA]
theorem Xa7 (b:Bool):Qh (.bool b)=(.bool b):=rfl
theorem Xfm (g:Option Bool)(b:Bool):fb g (.bool b)=True:=rfl
theorem Qud (b:Bool):Ke (.bool b)=[.bool b]:=rfl
theorem Xc0 (s:FS)(b:Bool):Zf s (.bool b)=Ys s (.bool b):=rfl
theorem Xcw (s:FS)(b:Bool):Ys s (.bool b)=(.bool b):=rfl
theorem Xg0 (s:FS)(b:Bool):fZ s (.bool b)=Zf s (.bool b):=rfl
theorem Xfp (b:Bool):one (.bool b)=True:=rfl
theorem Xb8 (b:Bool):lz (.bool b)=True:=rfl
theorem Qup (b:Bool)(r:List AV):Jw ((.bool b)::r)=none:=rfl
theorem Xbq (b:Bool):Qe m (.bool b)=True:=by simp only[Qe]
theorem Xgn (ρ:Nat->Nat)(b:Bool):aA ρ (.bool b)=(.bool b):=by simp only[aA]
theorem Xc8 (l:List UInt8):Qh (.str l)=(.str l):=rfl
theorem Xq1 (g:Option Bool)(l:List UInt8):fb g (.str l)=True:=rfl
theorem Qw0 (l:List UInt8):Ke (.str l)=[.str l]:=rfl
theorem Xgk (s:FS)(l:List UInt8):Zf s (.str l)=Ys s (.str l):=rfl
theorem Xgg (s:FS)(l:List UInt8):Ys s (.str l)=(.str l):=rfl
theorem Xm5 (s:FS)(l:List UInt8):fZ s (.str l)=Zf s (.str l):=rfl
theorem Xln (l:List UInt8):one (.str l)=True:=rfl
theorem Xl7 (l:List UInt8):lz (.str l)=True:=rfl
theorem Qwc (l:List UInt8)(r:List AV):Jw ((.str l)::r)=none:=rfl
theorem Xis (l:List UInt8):Qe m (.str l)=True:=by simp only[Qe]
theorem Xr5 (ρ:Nat->Nat)(l:List UInt8):aA ρ (.str l)=(.str l):=by simp only[aA]
theorem Xcc:Qh (.agg cs)=(.agg cs):=rfl
theorem Xso (g:Option Bool)(cs:List AV):fb g (.agg cs)=True:=rfl
theorem Xfi (s:FS)(cs:List AV):Ys s (.agg cs)=(.agg cs):=rfl
theorem Xsf (s:FS)(cs:List AV):fZ s (.agg cs)=Zf s (.agg cs):=rfl
theorem Qxn:Jw ((.agg cs)::r)=none:=rfl
theorem Xbi:Qh (.aR cs)=(.aR cs):=rfl
theorem Xro (g:Option Bool)(cs:List AV):fb g (.aR cs)=True:=rfl
theorem Qyk:Ke (.aR cs)=[.aR cs]:=rfl
theorem Xka (s:FS)(cs:List AV):Zf s (.aR cs)=Ys s (.aR cs):=rfl
theorem Xl8 (s:FS)(cs:List AV):Ys s (.aR cs)=(.aR cs):=rfl
theorem Qv4:Jw ((.aR cs)::r)=none:=rfl
theorem Xaz:Qh (.ptr b o)=(.ptr b o):=rfl
theorem Xli (g:Option Bool)(b o:Nat):fb g (.ptr b o)=True:=rfl
theorem Qy1:Ke (.ptr b o)=[.ptr b o]:=rfl
theorem Xhs (s:FS)(b o:Nat):Zf s (.ptr b o)=Ys s (.ptr b o):=rfl
theorem Xgc (s:FS)(b o:Nat):Ys s (.ptr b o)=(.ptr b o):=rfl
theorem Xmf (s:FS)(b o:Nat):fZ s (.ptr b o)=Zf s (.ptr b o):=rfl
theorem Xry:one (.ptr b o)=True:=rfl
theorem Xfw:lz (.ptr b o)=True:=rfl
theorem Xk9 (o:Nat):Qh (.xp cs o)=(.xp cs o):=rfl
theorem Xwk (g:Option Bool)(cs:List AV)(o:Nat):fb g (.xp cs o)=True:=rfl
theorem Xb3 (o:Nat):Ke (.xp cs o)=[.xp cs o]:=rfl
theorem Xno (s:FS)(cs:List AV)(o:Nat):Zf s (.xp cs o)=Ys s (.xp cs o):=rfl
theorem Xrs (s:FS)(cs:List AV)(o:Nat):Ys s (.xp cs o)=(.xp cs o):=rfl
theorem Xwy (s:FS)(cs:List AV)(o:Nat):fZ s (.xp cs o)=Zf s (.xp cs o):=rfl
theorem Xy7 (o:Nat):one (.xp cs o)=True:=rfl
theorem Xt2 (o:Nat):lz (.xp cs o)=True:=rfl
theorem Xbo (o:Nat)(r:List AV):Jw ((.xp cs o)::r)=none:=rfl
theorem Xil (es b o n c:Nat):Qh (.sl es b o n c)=(.sl es b o n c):=rfl
theorem Xur (g:Option Bool)(es b o n c:Nat):fb g (.sl es b o n c)=True:=rfl
theorem Xcm (es b o n c:Nat):Ke (.sl es b o n c)=[.sl es b o n c]:=rfl
theorem Xrv (s:FS)(es b o n c:Nat):Zf s (.sl es b o n c)=Ys s (.sl es b o n c):=rfl
theorem Xza (s:FS)(es b o n c:Nat):fZ s (.sl es b o n c)=Zf s (.sl es b o n c):=rfl
theorem Xu3 (es b o n c:Nat):one (.sl es b o n c)=True:=rfl
theorem Xps (es b o n c:Nat):lz (.sl es b o n c)=True:=rfl
theorem Xd6:Qh (.isl n cs)=(.isl n cs):=rfl
theorem Xri (g:Option Bool)(n:Nat)(cs:List AV):fb g (.isl n cs)=True:=rfl
theorem Qxu:Ke (.isl n cs)=[.isl n cs]:=rfl
theorem Xhh (s:FS)(n:Nat)(cs:List AV):Zf s (.isl n cs)=Ys s (.isl n cs):=rfl
theorem Xh6 (s:FS)(n:Nat)(cs:List AV):Ys s (.isl n cs)=(.isl n cs):=rfl
theorem Xls (s:FS)(n:Nat)(cs:List AV):fZ s (.isl n cs)=Zf s (.isl n cs):=rfl
theorem Xlp:one (.isl n cs)=True:=rfl
theorem Xgs:lz (.isl n cs)=True:=rfl
theorem Qvs:Jw ((.isl n cs)::r)=none:=rfl
theorem Qvi:Qh .nils=.nils:=rfl
theorem Xke (g:Option Bool):fb g .nils=True:=rfl
theorem Qui:Ke .nils=[.nils]:=rfl
theorem Xax (s:FS):Zf s .nils=Ys s .nils:=rfl
theorem Xbn (s:FS):Ys s .nils=.nils:=rfl
theorem Xht (s:FS):fZ s .nils=Zf s .nils:=rfl
theorem Xj3:one .nils=True:=rfl
theorem Xb9:lz .nils=True:=rfl
theorem Qur:Jw (.nils::r)=none:=rfl
def Xcq:Qe m .nils=True:=by simp only[Qe]
theorem Xjv (ρ:Nat->Nat):aA ρ .nils=.nils:=by simp only[aA]
theorem Xgh:Qh (.cl f cs)=(.cl f cs):=rfl
theorem Xy2 (g:Option Bool)(f:FuncId)(cs:List AV):fb g (.cl f cs)=True:=rfl
theorem Xc3:Ke (.cl f cs)=[.cl f cs]:=rfl
theorem Xmg (s:FS)(f:FuncId)(cs:List AV):Zf s (.cl f cs)=Ys s (.cl f cs):=rfl
theorem Xly (s:FS)(f:FuncId)(cs:List AV):Ys s (.cl f cs)=(.cl f cs):=rfl
theorem Xyb (s:FS)(f:FuncId)(cs:List AV):fZ s (.cl f cs)=Zf s (.cl f cs):=rfl
theorem Xty:one (.cl f cs)=True:=rfl
theorem Xrt:lz (.cl f cs)=True:=rfl
theorem Xar:Jw ((.cl f cs)::r)=none:=rfl
theorem Xi2:Qh (.mp b)=(.mp b):=rfl
theorem Xyi (g:Option Bool)(b:Nat):fb g (.mp b)=True:=rfl
theorem Xd4:Ke (.mp b)=[.mp b]:=rfl
theorem Xrk (s:FS)(b:Nat):Zf s (.mp b)=Ys s (.mp b):=rfl
theorem Xth (s:FS)(b:Nat):Ys s (.mp b)=(.mp b):=rfl
theorem Xui (s:FS)(b:Nat):fZ s (.mp b)=Zf s (.mp b):=rfl
theorem Xux:one (.mp b)=True:=rfl
theorem Xo3:lz (.mp b)=True:=rfl
theorem Xcy (v:Value):Qh (.lit v)=(.lit v):=rfl
theorem Xpl (g:Option Bool)(v:Value):fb g (.lit v)=True:=rfl
theorem Qy5 (v:Value):Ke (.lit v)=[.lit v]:=rfl
theorem Xjz (s:FS)(v:Value):Zf s (.lit v)=Ys s (.lit v):=rfl
theorem Xi3 (s:FS)(v:Value):Ys s (.lit v)=(.lit v):=rfl
theorem Xm4 (s:FS)(v:Value):fZ s (.lit v)=Zf s (.lit v):=rfl
theorem Xah (v:Value)(r:List AV):Jw ((.lit v)::r)=none:=rfl
theorem Xl4 (v:Value):Qe m (.lit v)=True:=by simp only[Qe]
theorem Xtk (ρ:Nat->Nat)(v:Value):aA ρ (.lit v)=(.lit v):=by simp only[aA]
theorem Xd0:Qh .any=.any:=rfl
theorem Xmr (g:Option Bool):fb g .any=True:=rfl
theorem Qzb:Ke .any=[.any]:=rfl
theorem Xjl (s:FS):Zf s .any=Ys s .any:=rfl
theorem Xjm (s:FS):Ys s .any=.any:=rfl
theorem Xrc (s:FS):fZ s .any=Zf s .any:=rfl
theorem Qvh:Jw (.any::r)=none:=rfl
def Xhx:Qe m .any=True:=by simp only[Qe]
theorem Xlv (ρ:Nat->Nat):aA ρ .any=.any:=by simp only[aA]
theorem Xbj (b:Bool)(v:AV):Qh (.dU b v)=v:=rfl
theorem Xp5 (g:Option Bool)(b:Bool)(v:AV):fb g (.dU b v)=ob g (b=true):=rfl
theorem Qwa:Ke (.agg cs)=cs:=rfl
theorem Xrf (s:FS)(es b o n c:Nat):Ys s (.sl es b o n c)=No n es o (s.H b):=by simp only[Ys,No]<;>(generalize s.H b=x;cases x<;>rfl)
theorem Xgr (s:FS)(cs:List AV):Zf s (.agg cs)=.agg (cs.map (Ys s)):=rfl
theorem Xtl (s:FS)(cs:List AV):fZ s (.aR cs)=.aR (cs.map (Zf s)):=rfl
theorem Xgu:lz (.agg cs)=True:=rfl
def Xkd:one (.lit (.pointer none))=True:=by simp[one,Value.oneCell']
def Xi7:one (.lit (.map none))=True:=by simp[one,Value.oneCell']
theorem Qvp:Jw (.ptr b o::r)=some b:=rfl
theorem Xba (es b o n c:Nat)(r:List AV):Jw (.sl es b o n c::r)=some b:=rfl
theorem Xbf:Jw (.mp b::r)=some b:=rfl
theorem Qxq:Jw []=none:=rfl
theorem Xim (s:FS)(l:List AV):nQ s l=Np s (Jw l):=by simp only[nQ];generalize Jw l=x;cases x<;>rfl
theorem Xcz (s:FS)(b:Nat):Np s (some b)=s.H b:=rfl
theorem Xc2 (s:FS):Np s none=.free:=rfl
theorem Xp6 (n:Int):bC (.int k n)=n:=rfl
theorem Xkp (b:Bool):eU (.bool b)=b:=rfl
theorem Xlz (l:List UInt8):cT (.str l)=l:=rfl
theorem Xr3 (n:Int):b9 k (.int k n)=True:=by simp[b9]
theorem Xqa (n:Int):gj (.int k n)=True:=by simp[gj]
theorem Xk7 (b:Bool):fD (.bool b)=True:=by simp[fD]
theorem Xn5 (l:List UInt8):fT (.str l)=True:=by simp[fT]
theorem Xm2 (p:Prop):ob none p=p:=rfl
theorem Xld (b:Bool)(p:Prop):ob (some b) p=(b=true->p):=rfl
theorem Xqi:cw none v=v:=rfl
theorem Xt5 (b:Bool)(v:AV):cw (some b) v=.dU b v:=rfl
theorem Xql (s:FS):gB s none=none:=rfl
theorem Xlo (s:FS)(t:Nat)(w:Bool):gB s (some (t,w))=Nq (s.T t) w:=by simp only[gB];generalize s.T t=x;rcases x with _|⟨_,y⟩|_|_|_|_|_|_|_|_|_|_|_|_|_<;>first|rfl|(cases y<;>rfl)
theorem Xhe (b w:Bool):Nq (.bool b) w=some (b==w):=rfl
theorem Xqy (c b w:Bool):Nq (.dU c (.bool b)) w=some (c&&(b==w)):=rfl
theorem Xj8 (s:FS):gn s none=True:=by simp[gn]
theorem Xky (s:FS)(t:Nat)(w:Bool):gn s (some (t,w))=D5 (s.T t):=by simp only[gn];generalize s.T t=x;rcases x with _|⟨_,y⟩|_|_|_|_|_|_|_|_|_|_|_|_|_<;>first|rfl|(cases y<;>rfl)
theorem Xd7 (b:Bool):D5 (.bool b)=True:=by simp[D5]
theorem Xkt (c b:Bool):D5 (.dU c (.bool b))=True:=by simp[D5]
theorem Xti:yA (.int k) v=.int k (bC v):=rfl
theorem Xk6:yA .bool v=.bool (eU v):=rfl
theorem Xom:yA .str v=.str (cT v):=rfl
theorem Xot:yA .ref v=v:=rfl
theorem Xpe:uK (.int k) v=b9 k v:=rfl
theorem Xfv:uK .bool v=fD v:=rfl
theorem Xpw:uK .str v=fT v:=rfl
theorem Xp9:uK .ref v=True:=rfl
theorem Yal (k:SK)(cs:List AV)(o:Nat):wr (.sc k) cs o=yA k (cs.getD o .any):=rfl
theorem Ya0 (o:Nat):wr (.ag n) cs o=.agg ((cs.drop o).take n):=rfl
theorem Xnj (k:SK)(cs:List AV)(o:Nat):kB (.sc k) cs o=(o<cs.length/\uK k (cs.getD o .any)):=rfl
theorem Xlu (o:Nat):kB (.ag n) cs o=(o+n<=cs.length):=rfl
theorem Xrx (k:SK)(cs:List AV)(o:Nat)(v:AV):uL (.sc k) cs o v=cs.set o v:=rfl
theorem Xrl (o:Nat)(vs:List AV):uL (.ag n) cs o (.agg vs)=Yj cs o vs:=rfl
theorem Xfz (k:SK)(cs:List AV)(o:Nat)(v:AV):BE (.sc k) cs o v=(o<cs.length/\one v):=rfl
theorem Xg4 (o:Nat)(vs:List AV):BE (.ag n) cs o (.agg vs)=(vs.length=n/\o+n<=cs.length):=rfl
theorem Xj7 (s:FS)(ty:TY)(b o:Nat)(v:AV):uR s ty (.ptr b o) v=Nr (s.H b) ty o v:=by simp only[uR,Nr];generalize s.H b=x;cases x<;>rfl
theorem Qum (ty:TY)(o:Nat)(v:AV):Nr (.cells cs) ty o v=BE ty cs o v:=rfl
theorem Xh7:jN (.ptr b o)=b:=rfl
theorem Xg5:wO (.ptr b o)=o:=rfl
theorem Qro:Yy (.cells cs)=cs:=rfl
theorem Yej (s:FS)(i:Nat):rv s (.t i)=s.T i:=rfl
theorem Xna (s:FS)(a:Nat)(ty:TY):rv s (.cell a ty)=Ns s ty (s.T a):=by simp only[rv];generalize s.T a=x;cases x<;>first|rfl|(simp only[Ns,Ij];generalize s.H _=y;cases y<;>rfl)
theorem Xnt (s:FS)(ty:TY)(b o:Nat):Ns s ty (.ptr b o)=Ij (s.H b) ty o:=rfl
theorem Xcf (ty:TY)(o:Nat):Ij (.cells cs) ty o=wr ty cs o:=rfl
def Xji:aA (rl []) v=v:=tH _ (fun _=>rfl) v
def Vc:ay (rl []) l=l:=by rw[Zd];exact (List.map_congr_left fun x _=>tH _ (fun _=>rfl) x).trans (map_id l)
def Xb1:Qw (rl []) (.cells cs)=.cells cs:=by simp only[Qw,Vc]
theorem Xup:rl [] b=b:=rfl
theorem Xpf (r:List (Nat×Nat))(b:Nat):rl ((i,j)::r) b=bif i==b then j else rl r b:=rfl
theorem Xop (ρ:Nat->Nat)(cs:List AV):aA ρ (.agg cs)=.agg (ay ρ cs):=by simp only[aA]
theorem Xtb (ρ:Nat->Nat)(cs:List AV):aA ρ (.aR cs)=.aR (ay ρ cs):=by simp only[aA]
theorem Xum (ρ:Nat->Nat)(cs:List AV)(o:Nat):aA ρ (.xp cs o)=.xp (ay ρ cs) o:=by simp only[aA]
theorem Xra (ρ:Nat->Nat)(n:Nat)(cs:List AV):aA ρ (.isl n cs)=.isl n (ay ρ cs):=by simp only[aA]
theorem Xlw (ρ:Nat->Nat)(b o:Nat):aA ρ (.ptr b o)=.ptr (ρ b) o:=by simp only[aA]
theorem Xwr (ρ:Nat->Nat)(es b o n c:Nat):aA ρ (.sl es b o n c)=.sl es (ρ b) o n c:=by simp only[aA]
theorem Xxi (ρ:Nat->Nat)(b:Nat):aA ρ (.mp b)=.mp (ρ b):=by simp only[aA]
theorem Xv0 (ρ:Nat->Nat)(f:FuncId)(cs:List AV):aA ρ (.cl f cs)=.cl f (ay ρ cs):=by simp only[aA]
def Xfl:Qe m (.agg cs)=ah m cs:=by simp only[Qe]
def Xig:Qe m (.aR cs)=ah m cs:=by simp only[Qe]
def Xqw:Qe m (.xp cs o)=ah m cs:=by simp only[Qe]
def Xij:Qe m (.isl n cs)=ah m cs:=by simp only[Qe]
theorem Xmc (m f:Nat)(cs:List AV):Qe m (.cl f cs)=ah m cs:=by simp only[Qe]
def Xkz:Qe m (.ptr b o)=(b<m):=by simp only[Qe]
theorem Xpm (m es b o n c:Nat):Qe m (.sl es b o n c)=(b<m):=by simp only[Qe]
def Xok:Qe m (.mp b)=(b<m):=by simp only[Qe]
theorem Xgq (s:FS):Ue s []=True:=by simp[Ue]
theorem Xul (s:FS)(i:Nat)(r:List RS):Ue s (.t i::r)=Ue s r:=rfl
theorem Xc7 (s:FS)(a:Nat)(ty:TY)(r:List RS):Ue s (.cell a ty::r)=(Nt s ty (s.T a)/\Ue s r):=by simp only[Ue];congr 1;generalize s.T a=x;cases x<;>first|rfl|(simp only[Nt,Ik];generalize s.H _=y;cases y<;>rfl)
theorem Xco (s:FS)(ty:TY)(b o:Nat):Nt s ty (.ptr b o)=Ik (s.H b) ty o:=rfl
theorem Quf (ty:TY)(o:Nat):Ik (.cells cs) ty o=kB ty cs o:=rfl
theorem Xt0 (s:FS)(x:RS):iy s [x]=rv s x:=rfl
theorem Xrn (s:FS)(x y:RS)(l:List RS):iy s (x::y::l)=.aR (rv s x::rv s y::l.map (rv s)):=rfl
theorem Xca (rs:List RS)(r:AV)(s:St):D2 rs r .ret s=(Ue s.fs rs/\fZ s.fs (iy s.fs rs)=r):=rfl
theorem Qrz (rs:List RS)(r:AV)(s:St):D2 rs r .normal s=(Ue s.fs rs/\fZ s.fs (iy s.fs rs)=r):=rfl
theorem Qyj (rs:List RS)(r:AV)(i:Nat)(s:St):D2 rs r (.exit i) s=False:=rfl
theorem Qpk (Q:EX->St->Prop)(s:St):BK i Q .normal s=Q .normal s:=rfl
theorem Qxj (Q:EX->St->Prop)(s:St):BK i Q .ret s=Q .ret s:=rfl
theorem Quq (Q:EX->St->Prop)(s:St):BK i Q (.exit j) s=if j=i then Q .normal s else Q (.exit j) s:=rfl
theorem Qru {σ:Type}(I:σ->Prop)(c5:σ->St)(μ:σ->Nat)(x:σ)(Q:EX->St->Prop)(s:St):Ig I c5 μ x Q .normal s=∃ y,I y/\(∃ ρ,Sub (rl ρ) s (c5 y))/\μ y<μ x:=rfl
theorem Xb6 {σ:Type}(I:σ->Prop)(c5:σ->St)(μ:σ->Nat)(x:σ)(Q:EX->St->Prop)(s:St):Ig I c5 μ x Q .ret s=Q .ret s:=rfl
theorem Qwe {σ:Type}(I:σ->Prop)(c5:σ->St)(μ:σ->Nat)(x:σ)(Q:EX->St->Prop)(i:Nat)(s:St):Ig I c5 μ x Q (.exit i) s=Q (.exit i) s:=rfl
theorem Ya2 (s:FS)(i:Nat):aU gl s (.t i)=s.T i:=rfl
theorem Ybn (s:FS)(v:AV):aU gl s (.c v)=v:=rfl
theorem Xvm (s:FS)(i:Nat):aU gl s (.gl i)=gl i:=rfl
theorem Xo2 (s:FS):aC gl s []=[]:=rfl
theorem Xft (s:FS)(x:TV)(r:List TV):aC gl s (x::r)=aU gl s x::aC gl s r:=rfl
theorem Xau (x y z:AV):Jm c .pick [x,y,z]=(fb c x/\ob c (eU (Qh x)=true->fb none y)/\ob c (eU (Qh x)=false->fb none z)):=rfl
theorem Xp3:Jm c .mv l=Qq c l:=rfl
theorem Xhu:Jm c .not l=Qq c l:=rfl
theorem Xrz (o:BinOp)(k:IntKind)(l:List AV):Jm c (.ar o k) l=Qq c l:=rfl
theorem Xrb (o:BinOp)(k:IntKind)(l:List AV):Jm c (.dv o k) l=Qq c l:=rfl
theorem Xlq (o:BinOp)(k:IntKind)(l:List AV):Jm c (.bt o k) l=Qq c l:=rfl
theorem Xlh (o:BinOp)(k:IntKind)(l:List AV):Jm c (.sh o k) l=Qq c l:=rfl
theorem Xni (o:BinOp)(k:IntKind)(l:List AV):Jm c (.cm o k) l=Qq c l:=rfl
theorem Xqc:Jm c (.cB ne) l=Qq c l:=rfl
theorem Xmv:Jm c (.cS ne) l=Qq c l:=rfl
theorem Xj2:Jm c .cat l=Qq c l:=rfl
theorem Xp8:Jm c (.cv k) l=Qq c l:=rfl
theorem Xkv (off:Nat)(l:List AV):Jm c (.yC ty off) l=Qq c l:=rfl
theorem Xfu (es len:Nat)(ty:TY)(l:List AV):Jm c (.mZ es len ty) l=Qq c l:=rfl
theorem Xjb:Jm c .yD l=Qq c l:=rfl
theorem Xb2 (off:Nat)(l:List AV):Jm c (.jl off) l=Qq c l:=rfl
theorem Qx1 (len es:Nat)(l:List AV):Jm c (.fh len es) l=Qq c l:=rfl
theorem Qzx:Jm c (.fj es) l=Qq c l:=rfl
theorem Xnl:Jm c (.ld ty) l=Qq c l:=rfl
theorem Xck:Jm c .nL l=Qq c l:=rfl
theorem Xd1:Jm c .fU l=Qq c l:=rfl
theorem Xbl:Jm c .nN l=Qq c l:=rfl
theorem Xi5 (lo hi:Bool)(l:List AV):Jm c (.yE lo hi) l=Qq c l:=rfl
theorem Xgm (lo hi:Bool)(l:List AV):Jm c (.oR es lo hi) l=Qq c l:=rfl
theorem Xh3:Jm c (.ext i) l=Qq c l:=rfl
theorem Qzt:Jm c .fK l=Qq c l:=rfl
theorem Xfk (ps:List (Nat×Nat))(l:List AV):Jm c (.wK z ps) l=Qq c l:=rfl
theorem Xh8:Jm c (.yF f) l=Qq c l:=rfl
theorem Xpd:Jm c (.mn k) l=Qq c l:=rfl
theorem Xt1:Jm c (.mx k) l=Qq c l:=rfl
theorem Xct:Jm c (.eV ne) l=Qq c l:=rfl
theorem Xj6:Jm c .nP l=Qq c l:=rfl
theorem Yb3:qv .mv [x] bk=x:=rfl
def Ycv:qp .mv [x] bk=True:=by simp[qp]
theorem Xtq:qv .not [x] bk=.bool (!eU x):=rfl
theorem Xts:qp .not [x] bk=fD x:=rfl
theorem Xlf (c x y:AV)(bk:Bk):qv .pick [c,x,y] bk=.bool (bif eU c then eU x else eU y):=rfl
theorem Xn6 (c x y:AV)(bk:Bk):qp .pick [c,x,y] bk=(fD c/\(eU c=true->fD x)/\(eU c=false->fD y)):=rfl
theorem Yaq (o:BinOp)(k:IntKind)(x y:AV)(bk:Bk):qv (.ar o k) [x,y] bk=.int k (k.wrap (yB o (bC x) (bC y))):=rfl
theorem Ydh (o:BinOp)(k:IntKind)(x y:AV)(bk:Bk):qp (.ar o k) [x,y] bk=(b9 k x/\b9 k y):=rfl
theorem Yca (o:BinOp)(k:IntKind)(x y:AV)(bk:Bk):qv (.dv o k) [x,y] bk=.int k (Bt o k (bC x) (bC y)):=rfl
theorem Yd5 (o:BinOp)(k:IntKind)(x y:AV)(bk:Bk):qp (.dv o k) [x,y] bk=(b9 k x/\b9 k y/\bC y≠0):=rfl
theorem Ydp (o:BinOp)(k:IntKind)(x y:AV)(bk:Bk):qv (.bt o k) [x,y] bk=.int k (bits o k (bC x) (bC y)):=rfl
theorem Ycd (o:BinOp)(k:IntKind)(x y:AV)(bk:Bk):qp (.bt o k) [x,y] bk=(b9 k x/\b9 k y):=rfl
theorem Yaf (o:BinOp)(k:IntKind)(x y:AV)(bk:Bk):qv (.sh o k) [x,y] bk=.int k (Bu o k (bC x) (bC y)):=rfl
theorem Ybz (o:BinOp)(k:IntKind)(x y:AV)(bk:Bk):qp (.sh o k) [x,y] bk=(b9 k x/\gj y/\0<=bC y):=rfl
theorem Yb6 (o:BinOp)(k:IntKind)(x y:AV)(bk:Bk):qv (.cm o k) [x,y] bk=.bool (tC o (bC x) (bC y)):=rfl
theorem Yc9 (o:BinOp)(k:IntKind)(x y:AV)(bk:Bk):qp (.cm o k) [x,y] bk=(b9 k x/\b9 k y):=rfl
theorem Ydj:qv (.cB ne) [x,y] bk=.bool (ne != (eU x==eU y)):=rfl
theorem Yd0:qp (.cB ne) [x,y] bk=(fD x/\fD y):=rfl
theorem Yb0:qv (.cS ne) [x,y] bk=.bool (ne != (cT x==cT y)):=rfl
theorem Ybp:qp (.cS ne) [x,y] bk=(fT x/\fT y):=rfl
theorem Xx0:qv .cat [x,y] bk=.str (cT x++cT y):=rfl
theorem Xtz:qp .cat [x,y] bk=(fT x/\fT y/\(cT x).length+(cT y).length<=9223372036854775807):=rfl
theorem Ydv:qv (.cv k) [x] bk=.int k (k.wrap (bC x)):=rfl
theorem Ye1:qp (.cv k) [x] bk=gj x:=rfl
theorem Xwf (off:Nat)(cs:List AV)(bk:Bk):qv (.yC ty off) [.agg cs] bk=wr ty cs off:=rfl
theorem Xww (off:Nat)(cs:List AV)(bk:Bk):qp (.yC ty off) [.agg cs] bk=kB ty cs off:=rfl
theorem Xv3 (es len:Nat)(ty:TY)(cs:List AV)(i:AV)(bk:Bk):qv (.mZ es len ty) [.agg cs,i] bk=wr ty cs ((bC i).toNat*es):=rfl
theorem Xut (es len:Nat)(ty:TY)(cs:List AV)(i:AV)(bk:Bk):qp (.mZ es len ty) [.agg cs,i] bk=(gj i/\0<=bC i/\bC i<len/\kB ty cs ((bC i).toNat*es)):=rfl
theorem Xx5 (x i:AV)(bk:Bk):qv .yD [x,i] bk=.int .u8 ((cT x).getD (bC i).toNat 0).toNat:=rfl
theorem Xyw (x i:AV)(bk:Bk):qp .yD [x,i] bk=(fT x/\gj i/\0<=bC i/\bC i<(cT x).length):=rfl
theorem Xre (o b off:Nat)(bk:Bk):qv (.jl o) [.ptr b off] bk=.ptr b (off+o):=rfl
theorem Xqe (o b off:Nat)(bk:Bk):qp (.jl o) [.ptr b off] bk=True:=by simp[qp]
theorem Xii (o off:Nat)(cs:List AV)(bk:Bk):qv (.jl o) [.xp cs off] bk=.xp cs (off+o):=rfl
theorem Xjc (o off:Nat)(cs:List AV)(bk:Bk):qp (.jl o) [.xp cs off] bk=True:=by simp[qp]
theorem Xjk (len es b off:Nat)(i:AV)(bk:Bk):qv (.fh len es) [.ptr b off,i] bk=.ptr b (off+(bC i).toNat*es):=rfl
theorem Xjq (len es b off:Nat)(i:AV)(bk:Bk):qp (.fh len es) [.ptr b off,i] bk=(gj i/\0<=bC i/\bC i<len):=rfl
theorem Xcl (len es off:Nat)(cs:List AV)(i:AV)(bk:Bk):qv (.fh len es) [.xp cs off,i] bk=.xp cs (off+(bC i).toNat*es):=rfl
theorem Xcr (len es off:Nat)(cs:List AV)(i:AV)(bk:Bk):qp (.fh len es) [.xp cs off,i] bk=(gj i/\0<=bC i/\bC i<len):=rfl
theorem Xiy (es es2 b off n c:Nat)(i:AV)(bk:Bk):qv (.fj es) [.sl es2 b off n c,i] bk=.ptr b (off+(bC i).toNat*es):=rfl
theorem Xj0 (es es2 b off n c:Nat)(i:AV)(bk:Bk):qp (.fj es) [.sl es2 b off n c,i] bk=(es2=es/\gj i/\0<=bC i/\bC i<n):=rfl
theorem Xcg (i:AV)(bk:Bk):qv (.fj es) [.isl n cs,i] bk=.xp cs ((bC i).toNat*es):=rfl
theorem Xc5 (i:AV)(bk:Bk):qp (.fj es) [.isl n cs,i] bk=(gj i/\0<=bC i/\bC i<n/\(bC i).toNat*es<cs.length):=rfl
theorem Yaj (b off:Nat)(cs:List AV):qv (.ld ty) [.ptr b off] (.cells cs)=wr ty cs off:=rfl
theorem Ye0 (b off:Nat)(cs:List AV):qp (.ld ty) [.ptr b off] (.cells cs)=kB ty cs off:=rfl
theorem Xvq (off:Nat)(cs:List AV)(bk:Bk):qv (.ld ty) [.xp cs off] bk=wr ty cs off:=rfl
theorem Xwm (off:Nat)(cs:List AV)(bk:Bk):qp (.ld ty) [.xp cs off] bk=kB ty cs off:=rfl
theorem Xmz:qv .nL [x] bk=.int .i64 (cT x).length:=rfl
theorem Xlc:qp .nL [x] bk=fT x:=rfl
theorem Xj1:qv .fU [.isl n cs] bk=.int .i64 n:=rfl
def Xgw:qp .fU [.isl n cs] bk=True:=by simp[qp]
theorem Xjn (es b o n c:Nat)(bk:Bk):qv .fU [.sl es b o n c] bk=.int .i64 n:=rfl
theorem Xj5 (es b o n c:Nat)(bk:Bk):qp .fU [.sl es b o n c] bk=True:=by simp[qp]
theorem Xje:qv .fU [.nils] bk=.int .i64 0:=rfl
def Xja:qp .fU [.nils] bk=True:=by simp[qp]
theorem Xnq:qv .nN [.mp b] (.az kvs dn)=.int .i64 kvs.length:=rfl
def Xsp:qp .nN [.mp b] (.az kvs dn)=True:=by simp[qp]
theorem Xvb (lo hi:Bool)(x:AV)(r:List AV)(bk:Bk):qv (.yE lo hi) (x::r) bk=.str (((cT x).drop (Xq lo r).toNat).take ((Jf lo hi (cT x).length r).toNat-(Xq lo r).toNat)):=rfl
theorem Xx8 (lo hi:Bool)(x:AV)(r:List AV)(bk:Bk):qp (.yE lo hi) (x::r) bk=(fT x/\m6 lo hi r/\0<=Xq lo r/\Xq lo r<=Jf lo hi (cT x).length r/\Jf lo hi (cT x).length r<=(cT x).length):=rfl
theorem Xq3 (lo hi:Bool)(r:List AV)(bk:Bk):qv (.oR es lo hi) (.isl n cs::r) bk=.isl ((Jf lo hi n r).toNat-(Xq lo r).toNat) ((cs.drop ((Xq lo r).toNat*es)).take (((Jf lo hi n r).toNat-(Xq lo r).toNat)*es)):=rfl
theorem Xrg (lo hi:Bool)(r:List AV)(bk:Bk):qp (.oR es lo hi) (.isl n cs::r) bk=(m6 lo hi r/\0<=Xq lo r/\Xq lo r<=Jf lo hi n r/\Jf lo hi n r<=n/\cs.length<=n*es):=rfl
theorem Xm7 {es es2 b off n c:Nat}{lo hi:Bool}{r:List AV}{bk:Bk}(h:Xq lo r<c):qv (.oR es lo hi) (.sl es2 b off n c::r) bk=.sl es b (off+(Xq lo r).toNat*es) ((Jf lo hi n r).toNat-(Xq lo r).toNat) (c-(Xq lo r).toNat):=am h
theorem Xsk {es es2 b off n c:Nat}{lo hi:Bool}{r:List AV}{bk:Bk}(h:¬ Xq lo r<c):qv (.oR es lo hi) (.sl es2 b off n c::r) bk=.isl 0 []:=aa h
theorem Xt4 (es es2 b off n c:Nat)(lo hi:Bool)(r:List AV)(bk:Bk):qp (.oR es lo hi) (.sl es2 b off n c::r) bk=(es2=es/\m6 lo hi r/\0<=Xq lo r/\Xq lo r<=Jf lo hi n r/\Jf lo hi n r<=c):=rfl
theorem Xx2:qv (.ext i) [.aR vs] bk=vs.getD i .any:=rfl
theorem Xwt:qp (.ext i) [.aR vs] bk=(i<vs.length):=rfl
theorem Xkr:qv .fK [.ptr b o] bk=.ptr b o:=rfl
def Xhz:qp .fK [.ptr b o] bk=True:=by simp[qp]
theorem Xd2 (o:Nat)(bk:Bk):qv .fK [.xp cs o] bk=.xp cs o:=rfl
theorem Xbm (o:Nat)(bk:Bk):qp .fK [.xp cs o] bk=True:=by simp[qp]
theorem Xu5 (ps:List (Nat×Nat))(vs:List AV)(bk:Bk):qv (.wK z ps) vs bk=.agg (Je z ps vs):=by rcases vs with _|⟨a,_|⟨b,_|⟨c,_|⟨d,r⟩⟩⟩⟩<;>rfl
theorem Xyn (ps:List (Nat×Nat))(vs:List AV)(bk:Bk):qp (.wK z ps) vs bk=Zb z.length ps vs:=by rcases vs with _|⟨a,_|⟨b,_|⟨c,_|⟨d,r⟩⟩⟩⟩<;>rfl
def Xuo:qv (.yF f) vs bk=.cl f vs:=by rcases vs with _|⟨a,_|⟨b,_|⟨c,_|⟨d,r⟩⟩⟩⟩<;>rfl
def Xxa:qp (.yF f) vs bk=True:=by rcases vs with _|⟨a,_|⟨b,_|⟨c,_|⟨d,r⟩⟩⟩⟩<;>simp[qp]
theorem Ycy:qv (.mn k) [x,y] bk=.int k (if bC y<bC x then bC y else bC x):=rfl
theorem Ya7:qp (.mn k) [x,y] bk=(b9 k x/\b9 k y):=rfl
theorem Ycs:qv (.mx k) [x,y] bk=.int k (if bC y>bC x then bC y else bC x):=rfl
theorem Xzw:qp (.mx k) [x,y] bk=(b9 k x/\b9 k y):=rfl
theorem Xjd:qv (.eV ne) [.lit (.pointer none)] bk=.bool (!ne):=rfl
def Xfe:qp (.eV ne) [.lit (.pointer none)] bk=True:=by simp[qp]
theorem Xhd:qv (.eV ne) [.ptr b o] bk=.bool ne:=rfl
def Xhi:qp (.eV ne) [.ptr b o] bk=True:=by simp[qp]
theorem Xfn (o:Nat)(bk:Bk):qv (.eV ne) [.xp cs o] bk=.bool ne:=rfl
theorem Xhg (o:Nat)(bk:Bk):qp (.eV ne) [.xp cs o] bk=True:=by simp[qp]
theorem Xlr:qv .nP [.nils] bk=.str []:=rfl
def Xpg:qp .nP [.nils] bk=True:=by simp[qp]
theorem Xss:qv .nP [.isl n cs] bk=.str (toB (cs.take n)):=rfl
theorem Xo4:qp .nP [.isl n cs] bk=(n<=cs.length/\∀ v ∈ cs.take n,b9 .u8 v):=rfl
theorem Xsu (es b off n c:Nat)(cs:List AV):qv .nP [.sl es b off n c] (.cells cs)=.str (toB ((cs.drop off).take n)):=rfl
theorem Xon (es b off n c:Nat)(cs:List AV):qp .nP [.sl es b off n c] (.cells cs)=(es=1/\off+n<=cs.length/\∀ v ∈ (cs.drop off).take n,b9 .u8 v):=rfl
theorem Xlk (x y:Int):yB .add x y=x+y:=rfl
theorem Xny (x y:Int):yB .sub x y=x-y:=rfl
theorem Xml (x y:Int):yB .mul x y=x*y:=rfl
theorem Xsa (x y:Int):tC .eql x y=(x==y):=rfl
theorem Xpu (x y:Int):tC .neq x y=(x != y):=rfl
theorem Xsw (x y:Int):tC .lss x y=decide (x<y):=rfl
theorem Xoh (x y:Int):tC .leq x y=decide (x<=y):=rfl
theorem Xs9 (x y:Int):tC .gtr x y=decide (y<x):=rfl
theorem Xsh (x y:Int):tC .geq x y=decide (y<=x):=rfl
theorem Xof (x y:Int):Bt .quo k x y=k.wrap (x.tdiv y):=rfl
theorem Xnx (x y:Int):Bt .rem k x y=x.tmod y:=rfl
theorem Xow (x y:Int):Bu .shl k x y=k.wrap (x*2 ^ min y.toNat k.bits):=rfl
theorem Xpj (x y:Int):Bu .shr k x y=x.fdiv (2 ^ min y.toNat k.bits):=rfl
def Xnd:Xq false r=0:=by cases r<;>rfl
theorem Xl9:Xq true (x::r)=bC x:=rfl
theorem Xp1 (lo:Bool)(n:Nat)(r:List AV):Jf lo false n r=n:=by rcases r with _|⟨a,_|⟨b,_|⟨d,r⟩⟩⟩<;>simp[Jf]
theorem Xkk:Jf false true n [x]=bC x:=rfl
theorem Xjt:Jf true true n [x,y]=bC y:=rfl
def Xhb:m6 false false []=True:=by simp[m6]
def Xr6:m6 true false [x]=b9 .i64 x:=by simp[m6]
def Xs2:m6 false true [x]=b9 .i64 x:=by simp[m6]
def Xkn:m6 true true [x,y]=(b9 .i64 x/\b9 .i64 y):=by simp[m6]
theorem Xhn (q m:Nat)(ps:List (Nat×Nat))(r:List AV)(k:IntKind)(n:Int):Je z ((q,m)::ps) ((.int k n)::r)=Je (z.set q (.int k n)) ps r:=rfl
theorem Xcu (n1 q m:Nat)(ps:List (Nat×Nat))(r:List AV)(k:IntKind)(n:Int):Zb n1 ((q,m)::ps) ((.int k n)::r)=(one (.int k n)/\m=1/\q<n1/\Zb n1 ps r):=rfl
theorem Xc6 (q m:Nat)(ps:List (Nat×Nat))(r:List AV)(b:Bool):Je z ((q,m)::ps) ((.bool b)::r)=Je (z.set q (.bool b)) ps r:=rfl
theorem Qy7 (n1 q m:Nat)(ps:List (Nat×Nat))(r:List AV)(b:Bool):Zb n1 ((q,m)::ps) ((.bool b)::r)=(one (.bool b)/\m=1/\q<n1/\Zb n1 ps r):=rfl
theorem Xic (q m:Nat)(ps:List (Nat×Nat))(r:List AV)(l:List UInt8):Je z ((q,m)::ps) ((.str l)::r)=Je (z.set q (.str l)) ps r:=rfl
theorem Xbh (n1 q m:Nat)(ps:List (Nat×Nat))(r:List AV)(l:List UInt8):Zb n1 ((q,m)::ps) ((.str l)::r)=(one (.str l)/\m=1/\q<n1/\Zb n1 ps r):=rfl
theorem Xgf (o m:Nat)(ps:List (Nat×Nat))(cs r:List AV):Je z ((o,m)::ps) (.agg cs::r)=Je (Yj z o cs) ps r:=rfl
theorem Xc1 (n o m:Nat)(ps:List (Nat×Nat))(cs r:List AV):Zb n ((o,m)::ps) (.agg cs::r)=(cs.length=m/\o+m<=n/\Zb n ps r):=rfl
theorem Xk0 (q m:Nat)(ps:List (Nat×Nat))(r:List AV)(b o:Nat):Je z ((q,m)::ps) ((.ptr b o)::r)=Je (z.set q (.ptr b o)) ps r:=rfl
theorem Xbd (n1 q m:Nat)(ps:List (Nat×Nat))(r:List AV)(b o:Nat):Zb n1 ((q,m)::ps) ((.ptr b o)::r)=(one (.ptr b o)/\m=1/\q<n1/\Zb n1 ps r):=rfl
theorem Xrr (q m:Nat)(ps:List (Nat×Nat))(r:List AV)(cs:List AV)(o:Nat):Je z ((q,m)::ps) ((.xp cs o)::r)=Je (z.set q (.xp cs o)) ps r:=rfl
theorem Xhw (n1 q m:Nat)(ps:List (Nat×Nat))(r:List AV)(cs:List AV)(o:Nat):Zb n1 ((q,m)::ps) ((.xp cs o)::r)=(one (.xp cs o)/\m=1/\q<n1/\Zb n1 ps r):=rfl
theorem Xnc (q m:Nat)(ps:List (Nat×Nat))(r:List AV)(es b o n c:Nat):Je z ((q,m)::ps) ((.sl es b o n c)::r)=Je (z.set q (.sl es b o n c)) ps r:=rfl
theorem Xg7 (n1 q m:Nat)(ps:List (Nat×Nat))(r:List AV)(es b o n c:Nat):Zb n1 ((q,m)::ps) ((.sl es b o n c)::r)=(one (.sl es b o n c)/\m=1/\q<n1/\Zb n1 ps r):=rfl
theorem Xho (q m:Nat)(ps:List (Nat×Nat))(r:List AV)(n:Nat)(cs:List AV):Je z ((q,m)::ps) ((.isl n cs)::r)=Je (z.set q (.isl n cs)) ps r:=rfl
theorem Xbu (n1 q m:Nat)(ps:List (Nat×Nat))(r:List AV)(n:Nat)(cs:List AV):Zb n1 ((q,m)::ps) ((.isl n cs)::r)=(one (.isl n cs)/\m=1/\q<n1/\Zb n1 ps r):=rfl
theorem Xbr (q m:Nat)(ps:List (Nat×Nat))(r:List AV):Je z ((q,m)::ps) (.nils::r)=Je (z.set q .nils) ps r:=rfl
theorem Xap (n1 q m:Nat)(ps:List (Nat×Nat))(r:List AV):Zb n1 ((q,m)::ps) (.nils::r)=(one .nils/\m=1/\q<n1/\Zb n1 ps r):=rfl
theorem Xmx (q m:Nat)(ps:List (Nat×Nat))(r:List AV)(f:FuncId)(cs:List AV):Je z ((q,m)::ps) ((.cl f cs)::r)=Je (z.set q (.cl f cs)) ps r:=rfl
theorem Xhj (n1 q m:Nat)(ps:List (Nat×Nat))(r:List AV)(f:FuncId)(cs:List AV):Zb n1 ((q,m)::ps) ((.cl f cs)::r)=(one (.cl f cs)/\m=1/\q<n1/\Zb n1 ps r):=rfl
theorem Xnu (q m:Nat)(ps:List (Nat×Nat))(r:List AV)(b:Nat):Je z ((q,m)::ps) ((.mp b)::r)=Je (z.set q (.mp b)) ps r:=rfl
theorem Xjj (n1 q m:Nat)(ps:List (Nat×Nat))(r:List AV)(b:Nat):Zb n1 ((q,m)::ps) ((.mp b)::r)=(one (.mp b)/\m=1/\q<n1/\Zb n1 ps r):=rfl
theorem Xl3 (q m:Nat)(ps:List (Nat×Nat))(r:List AV)(v:Value):Je z ((q,m)::ps) ((.lit v)::r)=Je (z.set q (.lit v)) ps r:=rfl
theorem Xcv (n1 q m:Nat)(ps:List (Nat×Nat))(r:List AV)(v:Value):Zb n1 ((q,m)::ps) ((.lit v)::r)=(one (.lit v)/\m=1/\q<n1/\Zb n1 ps r):=rfl
theorem Xhy:Je z [] []=z:=rfl
def Xcp:Zb n [] []=True:=by simp[Zb]
theorem Yj8:fc .mv=false:=rfl
theorem Yhy:fc .not=true:=rfl
theorem Yie:fc .pick=true:=rfl
theorem Yin {o}{k}:fc (.ar o k)=true:=rfl
theorem Yi4 {o}{k}:fc (.dv o k)=true:=rfl
theorem Yis {o}{k}:fc (.bt o k)=true:=rfl
theorem Yik {o}{k}:fc (.sh o k)=true:=rfl
theorem Yhj {o}{k}:fc (.cm o k)=true:=rfl
theorem Yir {n}:fc (.cB n)=true:=rfl
theorem Yip {n}:fc (.cS n)=true:=rfl
theorem Yed:fc .cat=true:=rfl
theorem Ygp {k}:fc (.cv k)=true:=rfl
theorem Yga {t}{n}:fc (.yC t n)=true:=rfl
theorem Yh5 {i}{j}{t}:fc (.mZ i j t)=true:=rfl
theorem Yhc:fc .yD=true:=rfl
theorem Ygn {i}:fc (.jl i)=true:=rfl
theorem Yfy {i}{j}:fc (.fh i j)=true:=rfl
theorem Yg0 {i}:fc (.fj i)=true:=rfl
theorem Ygt {t}:fc (.ld t)=true:=rfl
theorem Ygj:fc .nL=true:=rfl
theorem Ygv:fc .fU=true:=rfl
theorem Yf1:fc .nN=true:=rfl
theorem Yee {a}{b}:fc (.yE a b)=true:=rfl
theorem Ygl {i}{a}{b}:fc (.oR i a b)=true:=rfl
theorem Yg9 {i}:fc (.ext i)=true:=rfl
theorem Yge:fc .fK=true:=rfl
theorem Yfm {z}{p}:fc (.wK z p)=true:=rfl
theorem Yeq {f}:fc (.yF f)=true:=rfl
theorem Yh9 {k}:fc (.mn k)=true:=rfl
theorem Yec {k}:fc (.mx k)=true:=rfl
theorem Yf6 {n}:fc (.eV n)=true:=rfl
theorem Yei:fc .nP=true:=rfl
attribute [go_sem] Yj8 Yhy Yie Yin Yi4 Yis Yik Yhj Yir Yip Yed Ygp Yga Yh5 Yhc Ygn Yfy Yg0 Ygt Ygj Ygv Yf1 Yee Ygl Yg9 Yge Yfm Yeq Yh9 Yec Yf6 Yei
attribute [go_sem] Yjh Yjx Xif Yg3 Yjn Yhl Yj7 Yf5 Yhv Yea Yjt Yix Yi2 Yey Yim Yaz Yg5 Ydw Ybk Yhd Xym Ycz Ybq Ygb Xbs Xs7 Xvo yL tF St.put St.aH St.nw St.cd Il Xbg Xub Xih Qq kJ Ut Xf jU qO Yz ah Qr qa uV bV Qw ay Sub Xlg Xkl Ygx Yfz Qwi Yh6 Yhb Ydr cond_true cond_false true_and and_true map_cons List.map_nil cons_append nil_append Option.toList_some Option.toList_none List.getD_cons_zero List.getD_cons_succ List.set_cons_zero List.set_cons_succ List.take_succ_cons List.take_zero List.drop_succ_cons List.drop_zero length_cons List.length_nil Nat.zero_add Nat.add_zero Bool.and_true Bool.true_and Bool.and_false Bool.false_and Bool.or_true Bool.true_or Bool.or_false Bool.false_or Bool.not_true Bool.not_false Bool.not_not forall_const implies_true true_implies Bool.false_eq_true false_implies imp_self Xby Xos Xa6 Xgt Xg9 Xnh Xnw Xfy Qvr Xgd Xm9 Xa7 Xfm Qud Xc0 Xcw Xg0 Xfp Xb8 Qup Xbq Xgn Xc8 Xq1 Qw0 Xgk Xgg Xm5 Xln Xl7 Qwc Xis Xr5 Xcc Xso Xfi Xsf Qxn Xbi Xro Qyk Xka Xl8 Qv4 Xaz Xli Qy1 Xhs Xgc Xmf Xry Xfw Xk9 Xwk Xb3 Xno Xrs Xwy Xy7 Xt2 Xbo Xil Xur Xcm Xrv Xza Xu3 Xps Xd6 Xri Qxu Xhh Xh6 Xls Xlp Xgs Qvs Qvi Xke Qui Xax Xbn Xht Xj3 Xb9 Qur Xcq Xjv Xgh Xy2 Xc3 Xmg Xly Xyb Xty Xrt Xar Xi2 Xyi Xd4 Xrk Xth Xui Xux Xo3 Xcy Xpl Qy5 Xjz Xi3 Xm4 Xah Xl4 Xtk Xd0 Xmr Qzb Xjl Xjm Xrc Qvh Xhx Xlv Xbj Xp5 Qwa Xrf Xgr Xtl Xgu Xkd Xi7 Qvp Xba Xbf Qxq Xim Xcz Xc2 Xp6 Xkp Xlz Xr3 Xqa Xk7 Xn5 Xm2 Xld Xqi Xt5 Xql Xlo Xhe Xqy Xj8 Xky Xd7 Xkt Xti Xk6 Xom Xot Xpe Xfv Xpw Xp9 Yal Ya0 Xnj Xlu Xrx Xrl Xfz Xg4 Xj7 Qum Xh7 Xg5 Qro Yej Xna Xnt Xcf Xji Vc Xb1 Xup Xpf Xop Xtb Xum Xra Xlw Xwr Xxi Xv0 Xfl Xig Xqw Xij Xmc Xkz Xpm Xok Xgq Xul Xc7 Xco Quf Xt0 Xrn Xca Qrz Qyj Qpk Qxj Quq Qru Xb6 Qwe Ya2 Ybn Xvm Xo2 Xft Xau Xp3 Xhu Xrz Xrb Xlq Xlh Xni Xqc Xmv Xj2 Xp8 Xkv Xfu Xjb Xb2 Qx1 Qzx Xnl Xck Xd1 Xbl Xi5 Xgm Xh3 Qzt Xfk Xh8 Xpd Xt1 Xct Xj6 Yb3 Ycv Xtq Xts Xlf Xn6 Yaq Ydh Yca Yd5 Ydp Ycd Yaf Ybz Yb6 Yc9 Ydj Yd0 Yb0 Ybp Xx0 Xtz Ydv Ye1 Xwf Xww Xv3 Xut Xx5 Xyw Xre Xqe Xii Xjc Xjk Xjq Xcl Xcr Xiy Xj0 Xcg Xc5 Yaj Ye0 Xvq Xwm Xmz Xlc Xj1 Xgw Xjn Xj5 Xje Xja Xnq Xsp Xvb Xx8 Xq3 Xrg Xm7 Xsk Xt4 Xx2 Xwt Xkr Xhz Xd2 Xbm Xu5 Xyn Xuo Xxa Ycy Ya7 Ycs Xzw Xjd Xfe Xhd Xhi Xfn Xhg Xlr Xpg Xss Xo4 Xsu Xon Xlk Xny Xml Xsa Xpu Xsw Xoh Xs9 Xsh Xof Xnx Xow Xpj Xnd Xl9 Xp1 Xkk Xjt Xhb Xr6 Xs2 Xkn Xhn Xcu Xc6 Qy7 Xic Xbh Xgf Xc1 Xk0 Xbd Xrr Xhw Xnc Xg7 Xho Xbu Xbr Xap Xmx Xhj Xnu Xjj Xl3 Xcv Xhy Xcp
def Ql (l:List Int):List AV:=l.map (.int .i64)
def Zu (l:List Bool):List AV:=l.map .bool
def Xj (l:List UInt8):List AV:=l.map fun (b:UInt8)=>.int .u8 b.toNat
theorem Xw (l:List Int):(Ql l).length=l.length:=by simp[Ql]
theorem Xr2 (l:List Bool):(Zu l).length=l.length:=by simp[Zu]
theorem Vd (l:List UInt8):(Xj l).length=l.length:=by simp[Xj]
theorem BU {l:List Int}{i:Nat}(h:i<l.length):(Ql l).getD i .any=.int .i64 (l.getD i 0):=by simp[Ql,List.getD,h]
theorem Nu {l:List Bool}{i:Nat}(h:i<l.length):(Zu l).getD i .any=.bool (l.getD i false):=by simp[Zu,List.getD,h]
theorem Ve {l:List UInt8}{i:Nat}(h:i<l.length):(Xj l).getD i .any=.int .u8 (l.getD i 0).toNat:=by simp[Xj,List.getD,h]
theorem Xsr (l:List Int)(n:Nat):(Ql l).take n=Ql (l.take n):=by simp[Ql,map_take]
theorem Xpb (l:List Int)(n:Nat):(Ql l).drop n=Ql (l.drop n):=by simp[Ql,map_drop]
theorem Xo0 (l:List UInt8)(n:Nat):(Xj l).take n=Xj (l.take n):=by simp[Xj,map_take]
theorem Xqo (l:List UInt8)(n:Nat):(Xj l).drop n=Xj (l.drop n):=by simp[Xj,map_drop]
theorem Xga (l:List Bool)(n:Nat):(Zu l).take n=Zu (l.take n):=by simp[Zu,map_take]
theorem Xkc (l:List Bool)(n:Nat):(Zu l).drop n=Zu (l.drop n):=by simp[Zu,map_drop]
theorem Xy5 (l m:List Int):Ql l++Ql m=Ql (l++m):=by simp[Ql]
theorem Xxq (l m:List UInt8):Xj l++Xj m=Xj (l++m):=by simp[Xj]
theorem Xpp {α:Type}{l:List α}{b j:Nat}{d:α}(h:j<b):(l.take b).getD j d=l.getD j d:=by simp only[List.getD,getElem?_take,am h]
theorem Xqg {α:Type}{l:List α}{a j:Nat}{d:α}:(l.drop a).getD j d=l.getD (a+j) d:=by simp only[List.getD,getElem?_drop]
def yZ {α:Type}{l:List α}{i j:Nat}{v d:α}(h:i<l.length):(l.set i v).getD j d=if i=j then v else l.getD j d:=by
 simp only[List.getD,List.getElem?_set];split
 ·next e=>subst e;simp[h]
 ·rfl
theorem Xv4 {α:Type}{l:List α}{n:Nat}(h:l.length<=n):l.take n=l:=List.take_of_length_le h
theorem Xjs {l r:List AV}{i:Nat}(h:i<l.length):(l++r).getD i .any=l.getD i .any:=by simp only[List.getD];rw[getElem?_append_left h]
theorem Xlm {l r:List AV}{i:Nat}{v:AV}(h:i<l.length):(l++r).set i v=l.set i v++r:=by rw[List.set_append,am h]
theorem Ygs (b:Bool):(b=false->(!b)=true)=True:=by cases b<;>simp
theorem Ydl (b:Bool):((!b)=true->b=false)=True:=by cases b<;>simp
theorem Qt (ρ:Nat->Nat)(l:List Int):ay ρ (Ql l)=Ql l:=by rw[Zd];simp[Ql,aA]
theorem Xq9 (ρ:Nat->Nat)(l:List UInt8):ay ρ (Xj l)=Xj l:=by rw[Zd];simp[Xj,aA]
theorem Vf (ρ:Nat->Nat)(l:List Bool):ay ρ (Zu l)=Zu l:=by rw[Zd];simp[Zu,aA]
theorem BV (ρ:Nat->Nat)(l m:List AV):ay ρ (l++m)=ay ρ l++ay ρ m:=by simp[Zd]
theorem Xzh (l:List Int)(i:Nat)(n:Int):(Ql l).set i (.int .i64 n)=Ql (l.set i n):=by simp[Ql,map_set]
theorem Xn2 (l:List Bool)(i:Nat)(n:Bool):(Zu l).set i (.bool n)=Zu (l.set i n):=by simp[Zu,map_set]
theorem Vg {l:List AV}{a b j:Nat}(h:j<b):((l.drop a).take b).getD j .any=l.getD (a+j) .any:=by simp only[List.getD,getElem?_take,getElem?_drop,am h]
theorem Xyx {l:List AV}{b j:Nat}(h:j<b):(l.take b).getD j .any=l.getD j .any:=by simp only[List.getD,getElem?_take,am h]
theorem Xw8 {l:List AV}{a j:Nat}:(l.drop a).getD j .any=l.getD (a+j) .any:=by simp only[List.getD,getElem?_drop]
theorem Ydb {l:List AV}{a b:Nat}(h:a+b<=l.length):((l.drop a).take b).length=b:=by simp;omega
theorem Xuy {l:List AV}{b:Nat}(h:b<=l.length):(l.take b).length=b:=by simp;omega
theorem Xma {cs vs:List AV}(h:cs.length=vs.length):Yj cs 0 vs=vs:=by unfold Yj;simp[h]
theorem Xyz (o:Nat):Yj cs o []=cs:=by unfold Yj;simp
theorem Xo1 (c v:AV)(cs vs:List AV):Yj (c::cs) 0 (v::vs)=v::Yj cs 0 vs:=by unfold Yj;simp
theorem Xq0 (c:AV)(cs vs:List AV)(o:Nat):Yj (c::cs) (o+1) vs=c::Yj cs o vs:=by unfold Yj;simp[Nat.add_right_comm]
theorem Xpv {cs vs:List AV}{o:Nat}(h:o+vs.length<=cs.length):(Yj cs o vs).length=cs.length:=by unfold Yj;simp;omega
theorem D6 (l:List Int):ah n (Ql l)=True:=eq_true (Xh.2 fun x hx=>by simp[Ql]at hx;obtain ⟨a,_,rfl⟩:=hx;simp[Qe])
theorem Vh (l:List Bool):ah n (Zu l)=True:=eq_true (Xh.2 fun x hx=>by simp[Zu]at hx;rcases hx with ⟨_,rfl⟩|⟨_,rfl⟩<;>simp[Qe])
theorem Ydo (l:List UInt8):ah n (Xj l)=True:=eq_true (Xh.2 fun x hx=>by simp[Xj]at hx;obtain ⟨a,_,rfl⟩:=hx;simp[Qe])
theorem BW (l m:List AV):ah n (l++m)=(ah n l/\ah n m):=by simp only[Xh,List.mem_append,eq_iff_iff];exact ⟨fun h=>⟨fun x hx=>h x (.inl hx),fun x hx=>h x (.inr hx)⟩,fun h x hx=>hx.elim (h.1 x) (h.2 x)⟩
theorem Xxm (l:List UInt8):toB (Xj l)=l:=by
 simp only[toB,Xj,map_map]
 conv=>rhs;rw[<- map_id l]
 refine List.map_congr_left fun b _=>?_;simp[bC]
def Ya5 (l:List UInt8):∀ v ∈ Xj l,b9 .u8 v:=fun v hv=>by simp[Xj]at hv;obtain ⟨a,_,rfl⟩:=hv;simp[b9]
theorem Xxu (l:List UInt8):(∀ v ∈ Xj l,b9 .u8 v)=True:=eq_true (Ya5 l)
theorem Nv (s:FS)(l:List Int):(Ql l).map (Ys s)=Ql l:=by simp[Ql,Ys]
theorem Vi (s:FS)(l:List Bool):(Zu l).map (Ys s)=Zu l:=by simp[Zu,Ys]
theorem wrap_i64 {n:Int}(h0:-9223372036854775808<=n)(h1:n<9223372036854775808):IntKind.i64.wrap n=n:=by rw[IntKind.wrap_i64];omega
theorem wrap_u32 {n:Int}(h0:0<=n)(h1:n<4294967296):IntKind.u32.wrap n=n:=by rw[IntKind.wrap_u32];omega
theorem wrap_u8 {n:Int}(h0:0<=n)(h1:n<256):IntKind.u8.wrap n=n:=by rw[IntKind.wrap_u8];omega
theorem Xu2 {n:Int}(h0:0<=n)(h1:n<18446744073709551616):IntKind.u64.wrap n=n:=by simp[IntKind.wrap,IntKind.bits,IntKind.signed];omega
theorem Yj1:((0:Nat):Int)=0:=rfl
theorem Yj5:((no_index (OfNat.ofNat n):Nat):Int)=OfNat.ofNat n:=rfl
def Yj2 {P:Program}{c:Cx}{Q:EX->St->Prop}{s:St}{x:TV}{a b:TC}{t:Bool}(h:aU c.gl s.fs x=.bool t)(ht:t=true->xw P c a Q s)(hf:t=false->xw P c b Q s):xw P c (.cond x a b) Q s:=by
 rw[Yby,h];exact ⟨trivial,ht,hf⟩
attribute [go_sem] Xw Xr2 Vd BU Nu Ve Xsr Xpb Xo0 Xqo Xga Xkc Xpp Xqg Xjs Xlm Xv4 Ygs Ydl Qt Xq9 Vf BV List.take_take Nat.min_self Nat.mul_one Nat.one_mul Xzh Xn2 Vg Xyx Xw8 Ydb Xuy Xma Xyz Xo1 Xq0 Xpv D6 Vh Ydo BW Xxm Xxu Nv Vi wrap_i64 wrap_u32 wrap_u8 Xu2 Int.toNat_natCast Yj1 Yj5 AV.int.injEq AV.bool.injEq AV.str.injEq AV.agg.injEq AV.aR.injEq AV.isl.injEq AV.sl.injEq AV.ptr.injEq AV.xp.injEq Bk.cells.injEq
section
variable {P:Program}
def nh (P:Program)(c:Cx)(k:PK)(vs:List AV)(r:AV):Prop :=
 ∀ (o:Oper) (ys:List Operand),Xs P o=some (k,ys)→∀ (g:Nat→GM) (W:Nat→Prop) (a:Act) (w:World),(∀ i,W i→i < w.heap.size)→(∀ i,VR (fun _=>.un) W w (c.gl i) (.pointer (some ⟨i,0,none⟩)))→bR g W w vs (ys.map a.eval) →
  ∀ (K:Act->World->Prop) (Q:Exit->Act->World->Prop),(∀ v w',Fr w w' (fun _=>False)->VR g W w' r v->K (a.put o.dst v) w')->o.wp P a w K Q
theorem Vj {c:Cx}{s:St}{d:Option Nat}{k:PK}{xs:List TV}{gd:Option (Nat×Bool)}{args:List AV}{r:AV}(aS:Ut c.gl s.fs xs gd)(aM:(aC c.gl s.fs xs).map Qh=args)
  (hq:ob (gB s.fs gd) (nh P c k args r)):Kn P c (.pd d k xs gd) s.fs (Yz d xs gd) (s.cd d (cw (gB s.fs gd) r)).fs:=by
 intro ops io he;obtain ⟨aV,a8,hd,ys,aD,rfl⟩:=Zj he;have ju:(s.cd d (cw (gB s.fs gd) r)).fs=match d with|some d=>s.fs.put d (cw (gB s.fs gd) r)|none=>s.fs:=by
  cases d with
  | none=>rfl
  | some d=>exact St.bS _ _ _
 rw[ju];refine ⟨fun i hi=>?_,fun b _=>by cases d<;>rfl,?_⟩
 ·cases d with
  | none=>rfl
  | some d=>show (s.fs.put d _).T i=_;rw[FS.dE,aa (fun e=>hi (by simp[Yz,e]))]
 ·intro s2 hT hH g a w hR K Q' hK;have bj:aC c.gl s2 (ys.map aP)=aC c.gl s.fs (ys.map aP):=Ya fun i hi=>hT i (by simp[Yz,hi]);have hg:∀ t b,gd=some (t,b)->s2.T t=s.fs.T t:=fun t b e=>hT t (by simp[Yz,e,jU]);have jV:gB s2 gd=gB s.fs gd:=by
   cases gd with
   | none=>rfl
   | some p=>obtain ⟨t,b⟩:=p;simp only[gB,hg t b rfl]
  have jW:gn s2 gd:=by
   have:=aS.1;cases gd with
   | none=>exact this
   | some p=>obtain ⟨t,b⟩:=p;simpa only[gn,hg t b rfl] using this
  have m8:∀ v w',Fr w w' (fun _=>False)->VR g (Qm c g s2) w' (cw (gB s.fs gd) r) v->K (a.put io.dst v) w':=fun v w' hf hv=>by
   rw[a8];have bc:=hR.grow hf;cases d with
   | none =>
    refine hK g _ w' ?_;have:dA s2 s.fs (Yz none (ys.map aP) gd)=s2:=by unfold dA Yz;simp
    simp only[this];exact bc
   | some d =>
    refine hK g _ w' ?_;show R c g (dA s2 (s.fs.put d _) ⟨jU gd++Xf (ys.map aP),[],[d],[]⟩) _ _;rw[yM];exact bc.put (by simpa using hd) hv
  unfold Uj;rw[wN aV hR jW,jV];have run:(∀ b,gB s.fs gd=some b->b=true)->io.wp P a w K Q':=by
   intro hb;have gX:Qq none (aC c.gl s2 (ys.map aP)):=by
    rw[bj];have:=aS.2;cases bW:gB s.fs gd with
    | none=>rw[bW]at this;exact this
    | some b=>rw[bW]at this;exact BD (hb b bW) this
   have dd:nh P c k args r:=by
    cases bW:gB s.fs gd with
    | none=>rw[bW]at hq;exact hq
    | some b=>rw[bW]at hq;exact hq (hb b bW)
   have hv:=Yi (hR.ci ys) gX;rw[bj,aM]at hv;have hX:∀ k,Qm c g s2 k->k<w.heap.size:=by
    rintro k (h|⟨b',hl,fF⟩)
    ·have:=(hR.xs k h).1;have:=hR.fr.size;omega
    ·exact BR.lt (fF ▸ hR.h b') hl
   refine dd io ys aD g _ a w hX (fun i=>(hR.gl i)) hv K Q' fun v w' hf ea=>?_;refine m8 v w' hf ?_;cases bW:gB s.fs gd with
   | none=>exact ea
   | some b=>exact .dU (fun _=>ea) fun h=>by rw[hb b bW]at h;cases h
  cases bW:gB s.fs gd with
  | none=>simp only[Option.getD_none,if_true];exact run fun b h=>by rw[bW]at h;cases h
  | some b =>
   cases b with
   | true=>simp only[Option.getD_some,if_true];exact run fun b h=>by rw[bW]at h;cases h;rfl
   | false =>
    simp only[Option.getD_some,Bool.false_eq_true,if_false];refine m8 undef w (Fr.refl _ _) ?_;rw[bW];exact .dU (fun h=>by cases h) fun _=>rfl
def Ybu {c:Cx}{r0:List bD}{K:St->Prop}{s:St}{d:Option Nat}{k:PK}{xs:List TV}{gd:Option (Nat×Bool)}{args:List AV}{r:AV}(hq:ob (gB s.fs gd) (nh P c k args r))(aM:(aC c.gl s.fs xs).map Qh=args)
  (aS:Ut c.gl s.fs xs gd/\XP P c r0 K (s.cd d (cw (gB s.fs gd) r))):Yn P c (.pd d k xs gd) r0 K s :=
 .inl ⟨_,_,Vj aS.1 aM hq,aS.2⟩
def Xu8 {c:Cx}{anc:List Nat}{fs:List bg}{r0:List bD}{K:St->Prop}{s:St}{d:Option Nat}{k:PK}{xs:List TV}{gd:Option (Nat×Bool)}{args:List AV}{r:AV}(hq:ob (gB s.fs gd) (nh P c k args r))(aM:(aC c.gl s.fs xs).map Qh=args)
  (aS:Ut c.gl s.fs xs gd/\XD P c anc r0 (Yz d xs gd::fs) K (s.cd d (cw (gB s.fs gd) r))):Zm P c anc (.pd d k xs gd) r0 fs K s :=
 ⟨_,_,Vj aS.1 aM hq,aS.2⟩
def y9 {o:Option Bool}{p:Prop}(h:p):ob o p:=by cases o<;>first|exact h|exact fun _=>h
def Yw {c:Cx}{r0:List bD}{K:St->Prop}{s:St}{d:Option Nat}{f:FuncId}{xs:List TV}{gd:Option (Nat×Bool)}{args:List AV}{r:AV}(aM:(aC c.gl s.fs xs).map Qh=args)(ef:PS P c.gl f args r)
  (aS:Ut c.gl s.fs xs gd/\ah 0 args/\XP P c r0 K (s.cd d (cw (gB s.fs gd) r))):Yn P c (.pd d (.call f) xs gd) r0 K s:=Yiy (y9 ef) aM aS
def Yf {c:Cx}{anc:List Nat}{fs:List bg}{r0:List bD}{K:St->Prop}{s:St}{d:Option Nat}{f:FuncId}{xs:List TV}{gd:Option (Nat×Bool)}{args:List AV}{r:AV}(aM:(aC c.gl s.fs xs).map Qh=args)(ef:PS P c.gl f args r)
  (aS:Ut c.gl s.fs xs gd/\ah 0 args/\XD P c anc r0 (Yz d xs gd::fs) K (s.cd d (cw (gB s.fs gd) r))):Zm P c anc (.pd d (.call f) xs gd) r0 fs K s:=Yfx (y9 ef) aM aS
def Xn {c:Cx}{r0:List bD}{K:St->Prop}{s:St}{d:Option Nat}{k:PK}{xs:List TV}{gd:Option (Nat×Bool)}{args:List AV}{r:AV}(aM:(aC c.gl s.fs xs).map Qh=args)(hq:nh P c k args r)
  (aS:Ut c.gl s.fs xs gd/\XP P c r0 K (s.cd d (cw (gB s.fs gd) r))):Yn P c (.pd d k xs gd) r0 K s:=Ybu (y9 hq) aM aS
def Xg {c:Cx}{anc:List Nat}{fs:List bg}{r0:List bD}{K:St->Prop}{s:St}{d:Option Nat}{k:PK}{xs:List TV}{gd:Option (Nat×Bool)}{args:List AV}{r:AV}(aM:(aC c.gl s.fs xs).map Qh=args)(hq:nh P c k args r)
  (aS:Ut c.gl s.fs xs gd/\XD P c anc r0 (Yz d xs gd::fs) K (s.cd d (cw (gB s.fs gd) r))):Zm P c anc (.pd d k xs gd) r0 fs K s:=Xu8 (y9 hq) aM aS
def BX (rec:TypeId->Option (List SK))(P:Program):Nat->List Field->Option (List SK)
 | _,[]=>some []
 | o, f :: fs => if f.name = "_" \/ f.offset ≠ o \/ (P.info? f.type).isNone then none else (rec f.type).bind fun ks => if P.cellsOf f.type = ks.length then (BX rec P (o+ks.length) fs).map (ks ++ ·) else none
def kK (P:Program):Nat->TypeId->Option (List SK)
 | 0,_=>none
 | d+1,t=>match P.underlying t with
  | some .bool=>some [.bool]
  | some (.int k)=>some [.int k]
  | some .string=>some [.str]
  | some (.struct fs)=>if P.stoodInHeld t then none else BX (kK P d) P 0 fs.toList
  | some (.array n e)=>if (P.info? e).isNone then none else (kK P d e).bind fun ks=>if P.cellsOf e=ks.length then some (List.replicate n ks).flatten else none
  | _=>none
def D7:SK->Value->Value->Bool
 | .int _,.int _ a,.int _ b=>a==b
 | .bool,.bool a,.bool b=>a==b
 | .str,.string a,.string b=>a.toList==b.toList
 | _,_,_=>true
def Yfq:SK->Value->Prop
 | .int k,v=>∃ n,v=.int k n
 | .bool,v=>∃ b,v=.bool b
 | .str,v=>∃ b,v=.string b
 | .ref,_=>False
def Ju:List SK->List Value->List Value->Bool
 | k::ks,u::us,v::vs=>D7 k u v&&Ju ks us vs
 | _,_,_=>true
def lD:List SK->List Value->Prop
 | k::ks,u::us=>Yfq k u/\lD ks us
 | [],_=>True
 | _::_,[]=>False
def wU:∀ (ks ls:List SK) (us:List Value),lD (ks++ls) us->lD ks us/\lD ls (us.drop ks.length)
 | [],_,us,h=>⟨by cases us<;>trivial,by simpa using h⟩
 | _::ks,ls,[],h=>h.elim
 | _::ks,ls,_::us,h=>⟨⟨h.1,(wU ks ls us h.2).1⟩,by simpa using (wU ks ls us h.2).2⟩
def wV:∀ (ks:List SK) (us:List Value),lD ks us->ks.length<=us.length
 | [],_,_=>by simp
 | _::_,[],h=>h.elim
 | _::ks,_::us,h=>by have:=wV ks us h.2;simp;omega
def Nw:∀ (ks ls:List SK) (us vs:List Value),ks.length<=us.length->ks.length<=vs.length->Ju (ks++ls) us vs=(Ju ks us vs&&Ju ls (us.drop ks.length) (vs.drop ks.length))
 | [],_,_,_,_,_=>by simp[Ju]
 | _::_,_,[],_,h,_=>by simp at h
 | _::_,_,_::_,[],_,h=>by simp at h
 | k::ks,ls,u::us,v::vs,h1,h2=>by
  simp only[length_cons]at h1 h2;simp[Ju,Nw ks ls us vs af af,Bool.and_assoc]
def za:∀ (ks:List SK) (us:List Value),lD ks us->lD ks (us.take ks.length)
 | [],us,_=>by cases us<;>trivial
 | _::_,[],h=>h.elim
 | k::ks,u::us,h=>⟨h.1,za ks us h.2⟩
def Nx:∀ (ks:List SK) (us vs:List Value),Ju ks (us.take ks.length) (vs.take ks.length)=Ju ks us vs
 | [],_,_=>by simp[Ju]
 | _::_,[],_=>by simp[Ju]
 | _::_,_::_,[]=>by simp[Ju]
 | k::ks,u::us,v::vs=>by simp[Ju,Nx ks us vs]
def Ug (P:Program)(t:TypeId)(x:Value)(us:List Value):Prop :=
 match P.underlying t with
 | some (.struct _)=>x=.agg us.toArray
 | some (.array _ _)=>x=.agg us.toArray
 | _=>us=[x]
def BY (w:World){m:Nat}  {ks:List SK}(h:kK P m e=some ks)(hi:(P.info? e).isSome)(hc:P.cellsOf e=ks.length){xs:Array Value}{o:Nat}(hr:lD ks (xs.toList.drop o)) :
  ∃ a,(part e xs o).run P w=.ok a w/\Ug P e a ((xs.toList.drop o).take ks.length):=by
 obtain ⟨i,hi⟩:=Option.isSome_iff_exists.1 hi;cases m with
 | zero=>cases h
 | succ m =>
  have one:∀ k,ks=[k]->∃ v,xs[o]?=some v/\(xs.toList.drop o).take ks.length=[v]:=by
   rintro k rfl;have hl:=wV _ _ hr;cases hd:xs.toList.drop o with
   | nil=>rw[hd]at hl;simp at hl
   | cons v r =>
    refine ⟨v,?_,by simp⟩;have:(xs.toList.drop o)[0]?=some v:=by rw[hd];rfl
    simpa using this
  have agg:(xs.extract o (o+P.cellsOf e)).toList=(xs.toList.drop o).take ks.length:=by
   rw[Array.toList_extract,hc];simp[List.extract]
  unfold kK at h;cases hu:P.underlying e with
  | none=>simp[hu]at h
  | some kd =>
   rw[hu]at h;cases kd<;>simp at h
   case bool=>obtain ⟨v,h1,h2⟩:=one _ h.symm;exact ⟨v,by simp[part,isAgg,run_underlying hu,h1],by simp only[Ug,hu];exact h2⟩
   case int k=>obtain ⟨v,h1,h2⟩:=one _ h.symm;exact ⟨v,by simp[part,isAgg,run_underlying hu,h1],by simp only[Ug,hu];exact h2⟩
   case string=>obtain ⟨v,h1,h2⟩:=one _ h.symm;exact ⟨v,by simp[part,isAgg,run_underlying hu,h1],by simp only[Ug,hu];exact h2⟩
   case struct fs=>exact ⟨.agg (xs.extract o (o+P.cellsOf e)),by simp[part,isAgg,run_underlying hu,run_sizeOf w hi],by simp only[Ug,hu];rw[<- agg]⟩
   case array n e'=>exact ⟨.agg (xs.extract o (o+P.cellsOf e)),by simp[part,isAgg,run_underlying hu,run_sizeOf w hi],by simp only[Ug,hu];rw[<- agg]⟩
def Im {α:Type}{x:Option α}(h:¬ x.isNone=true):x.isSome=true:=by cases x<;>simp_all
def Ny (P:Program)(D:Nat)(t:TypeId)(ks:List SK):Prop :=
 ∀ (w:World) (x y:Value) (us vs:List Value),Ug P t x us->Ug P t y vs->us.length=ks.length->vs.length=ks.length->lD ks us->lD ks vs->(Op.equalIn D t x y).run P w=.ok (Ju ks us vs) w
def Vk {m D:Nat}(IH:∀ t ks,kK P m t=some ks->Ny P D t ks):∀ (fs:List Field) (o:Nat) (ks:List SK),BX (kK P m) P o fs=some ks->∀ (w:World) (xs ys:Array Value),lD ks (xs.toList.drop o)->lD ks (ys.toList.drop o) ->
  (Op.eqFields D xs ys fs).run P w=.ok (Ju ks (xs.toList.drop o) (ys.toList.drop o)) w
 | [],o,ks,h,w,xs,ys,_,_=>by cases h;simp[Op.eqFields,Ju]
 | f::fs,o,ks,h,w,xs,ys,hx,hy=>by
  unfold BX at h;split at h
  ·cases h
  ·rename_i hn;simp only[not_or,Decidable.not_not]at hn;obtain ⟨fq,ft,nZ⟩:=hn;have oW:=Im nZ;simp only[Option.bind_eq_some_iff]at h;obtain ⟨k1,h1,h2⟩:=h;split at h2
   ·rename_i hc;simp only[Option.map_eq_some_iff]at h2;obtain ⟨k2,h2,rfl⟩:=h2;obtain ⟨x1,x2⟩:=wU _ _ _ hx;obtain ⟨y1,y2⟩:=wU _ _ _ hy;obtain ⟨a,pa,ha⟩:=BY w h1 oW hc x1;obtain ⟨b,pb,hb⟩:=BY w h1 oW hc y1;have lx:=wV _ _ x1;have ly:=wV _ _ y1;have hr:=IH _ _ h1 w a b _ _ ha hb (by rw[length_take];omega) (by rw[length_take];omega) (za _ _ x1) (za _ _ y1);rw[Nx]at hr;rw[drop_drop]at x2 y2;have ih:=Vk IH fs (o+k1.length) k2 h2 w xs ys x2 y2;rw[Nw _ _ _ _ lx ly,drop_drop,drop_drop];simp only[Op.eqFields,fq,ne_eq,not_false_eq_true,if_true,Sem.run_bind,ft,pa,pb,hr,Result.andThen_ok];cases hq:Ju k1 (xs.toList.drop o) (ys.toList.drop o) with
    | false=>simp
    | true=>simpa using ih
   ·cases h2
def Vl {m D:Nat}{e:TypeId}{ks:List SK}(he:kK P m e=some ks)(hi:(P.info? e).isSome)(hc:P.cellsOf e=ks.length)(IH:Ny P D e ks)(xs ys:Array Value):∀ (n i:Nat) (w:World),lD (List.replicate n ks).flatten (xs.toList.drop (i*ks.length))->lD (List.replicate n ks).flatten (ys.toList.drop (i*ks.length)) ->
  (Op.eqItems D e (P.cellsOf e) xs ys (List.range' i n)).run P w=.ok (Ju (List.replicate n ks).flatten (xs.toList.drop (i*ks.length)) (ys.toList.drop (i*ks.length))) w
 | 0,i,w,_,_=>by simp[Op.eqItems,Ju]
 | n+1,i,w,hx,hy=>by
  rw[List.replicate_succ,List.flatten_cons]at hx hy ⊢;obtain ⟨x1,x2⟩:=wU _ _ _ hx;obtain ⟨y1,y2⟩:=wU _ _ _ hy;obtain ⟨a,pa,ha⟩:=BY w he hi hc x1;obtain ⟨b,pb,hb⟩:=BY w he hi hc y1;have lx:=wV _ _ x1;have ly:=wV _ _ y1;have hr:=IH w a b _ _ ha hb (by rw[length_take];omega) (by rw[length_take];omega) (za _ _ x1) (za _ _ y1);rw[Nx]at hr;have e1:i*ks.length+ks.length=(i+1)*ks.length:=by rw[Nat.add_mul,Nat.one_mul]
  rw[drop_drop,e1]at x2 y2;have ih:=Vl he hi hc IH xs ys n (i+1) w x2 y2;rw[Nw _ _ _ _ lx ly,drop_drop,drop_drop,e1];rw[List.range'_succ];simp only[Op.eqItems,Sem.run_bind,hc,pa,pb,hr,Result.andThen_ok];cases hq:Ju ks (xs.toList.drop (i*ks.length)) (ys.toList.drop (i*ks.length)) with
  | false=>simp
  | true=>rw[hc]at ih;simpa using ih
def Io (d:Nat):∀ (m:Nat) (t:TypeId) (ks:List SK),kK P m t=some ks->Ny P (d+m) t ks
 | 0,_,_,h=>by cases h
 | m+1,t,ks,h=>by
  intro w x y us vs hx hy lu lv ou ov;unfold kK at h;cases hu:P.underlying t with
  | none=>simp[hu]at h
  | some kd =>
   rw[hu]at h;simp only[Ug,hu]at hx hy;cases kd<;>simp only[Option.some.injEq,reduceCtorEq]at h hx hy
   case bool =>
    subst h hx hy;obtain ⟨⟨a,rfl⟩,_⟩:=ou;obtain ⟨⟨b,rfl⟩,_⟩:=ov;rw[<- Nat.add_assoc,run_equalIn_bool' w _ t a b hu];simp[Ju,D7]
   case int k =>
    subst h hx hy;obtain ⟨⟨a,rfl⟩,_⟩:=ou;obtain ⟨⟨b,rfl⟩,_⟩:=ov;rw[<- Nat.add_assoc,run_equalIn_int w _ t k k a b hu];simp[Ju,D7]
   case string =>
    subst h hx hy;obtain ⟨⟨a,rfl⟩,_⟩:=ou;obtain ⟨⟨b,rfl⟩,_⟩:=ov;rw[<- Nat.add_assoc,run_equalIn_string w _ t a b hu];simp[Ju,D7]
   case struct fs =>
    subst hx hy;split at h
    ·cases h
    ·rename_i hp;have BZ:P.fieldsOf t=fs:=by simp[Program.fieldsOf,hu]
     rw[<- Nat.add_assoc,run_equalIn_struct w (d+m) t _ _ (by rw[BZ];exact hu) (by simpa using hp),BZ];have:=Vk (Io d m) fs.toList 0 ks h w us.toArray vs.toArray (by simpa using ou) (by simpa using ov);simpa using this
   case array n e =>
    subst hx hy;split at h
    ·cases h
    ·rename_i hi;replace hi:=Im hi;obtain ⟨i,nV⟩:=Option.isSome_iff_exists.1 hi;simp only[Option.bind_eq_some_iff]at h;obtain ⟨k1,h1,h2⟩:=h;split at h2
     ·rename_i hc;cases h2;rw[<- Nat.add_assoc,run_equalIn_array w (d+m) _ _ hu nV,List.range_eq_range'];have:=Vl h1 hi hc (Io d m e k1 h1) us.toArray vs.toArray n 0 w (by simpa using ou) (by simpa using ov);simpa using this
     ·cases h2
def Zw:AV->Option SK
 | .int k _=>some (.int k)
 | .bool _=>some .bool
 | .str _=>some .str
 | _=>none
def B0 {g:Nat->GM}{W:Nat->Prop}{w:World}:∀ (ks:List SK) (cs:List AV) (us:List Value),cs.map Zw=ks.map some->us.length=cs.length->(∀ j,j<cs.length->VR g W w (cs.getD j .any) (us.getD j undef))->lD ks us
 | [],_,us,_,_,_=>by cases us<;>trivial
 | _::_,[],_,h,_,_=>by simp at h
 | _::_,_::_,[],_,h,_=>by simp at h
 | k::ks,x::cs,u::us,h,hl,hv=>by
  simp only[map_cons,List.cons.injEq]at h;have h0:=hv 0 aw;simp only[List.getD_cons_zero]at h0;refine ⟨?_,B0 ks cs us h.2 (by simpa using hl) fun j hj=>by simpa using hv (j+1) (by simp;omega)⟩;have hk:=h.1;cases x<;>simp[Zw]at hk<;>subst hk<;>cases h0<;>exact ⟨_,rfl⟩
def Nz {g:Nat->GM}{W:Nat->Prop}{w:World}:∀ (ks:List SK) (cs ds:List AV) (us vs:List Value),cs.map Zw=ks.map some->ds.map Zw=ks.map some->us.length=cs.length->vs.length=ds.length->(∀ j,j<cs.length->VR g W w (cs.getD j .any) (us.getD j undef))->(∀ j,j<ds.length->VR g W w (ds.getD j .any) (vs.getD j undef)) ->
  (Ju ks us vs=true ↔ cs=ds)
 | [],[],[],_,_,_,_,_,_,_,_=>by simp[Ju]
 | [],[],_::_,_,_,_,h,_,_,_,_=>by simp at h
 | [],_::_,_,_,_,h,_,_,_,_,_=>by simp at h
 | _::_,[],_,_,_,h,_,_,_,_,_=>by simp at h
 | _::_,_::_,[],_,_,_,h,_,_,_,_=>by simp at h
 | _::_,_::_,_::_,[],_,_,_,h,_,_,_=>by simp at h
 | _::_,_::_,_::_,_::_,[],_,_,_,h,_,_=>by simp at h
 | k::ks,x::cs,y::ds,u::us,v::vs,hc,hd,lu,lv,hu,hv=>by
  simp only[map_cons,List.cons.injEq]at hc hd;have h0:=hu 0 aw;have h1:=hv 0 aw;simp only[List.getD_cons_zero]at h0 h1;have ih:=Nz ks cs ds us vs hc.2 hd.2 (by simpa using lu) (by simpa using lv) (fun j hj=>by simpa using hu (j+1) (by simp;omega)) (fun j hj=>by simpa using hv (j+1) (by simp;omega));simp only[Ju,Bool.and_eq_true,ih,List.cons.injEq];refine and_congr_left fun _=>?_;have k1:=hc.1;have k2:=hd.1;cases x<;>simp[Zw]at k1<;>subst k1<;>cases y<;>simp[Zw]at k2<;>cases h0<;>cases h1<;>simp_all [D7,ByteArray.toList_eq]
def Vm {o:Oper}{ne:Bool}{t:TypeId}  (h:Xs P o=some (.cA ne t,xs)):∃ x y u,o.op=.binOp (bif ne then .neq else .eql) t x y u/\xs=[x,y]:=by
 unfold Xs at h
 repeat' split at h
 all_goals first
  | (simp only[Option.some.injEq,Prod.mk.injEq,PK.cA.injEq]at h;obtain ⟨⟨rfl,rfl⟩,rfl⟩:=h;rename_i hop;exact ⟨_,_,_,by rw[hop];rfl,rfl⟩)
  | (simp at h;done)
  | (cases h;done)
  | (simp[Option.map_eq_some_iff]at h;done)
def Vn {c:Cx}{ne:Bool}{t:TypeId}{ks:List SK}{cs ds:List AV}{b:Bool}(hs:kK P 100 t=some ks)(hk:(match P.underlying t with|some (.struct _)=>true|some (.array _ _)=>true|_=>false)=true)(hm:P.eqGuardType P.depth t=false)
  (hc:cs.map Zw=ks.map some) (hd:ds.map Zw=ks.map some) (hb:b=true ↔ cs=ds):nh P c (.cA ne t) [.agg cs,.agg ds] (.bool (ne != b)):=by
 intro o ys aD g W a w _ _ hv K Q hK;obtain ⟨x,y,u,hop,rfl⟩:=Vm aD;obtain ⟨hx,hy,_⟩:=hv;obtain ⟨xs,ex,lx,_,vx⟩:=Ui hx;obtain ⟨zs,ey,ly,_,vy⟩:=Ui hy;have Vo:xs.toList.length=cs.length:=by simpa using lx
 have Vp:zs.toList.length=ds.length:=by simpa using ly
 have gx:∀ j,xs.toList.getD j undef=xs.getD j undef:=fun j=>by simp[Array.getD_eq_getD_getElem?,List.getD]
 have gy:∀ j,zs.toList.getD j undef=zs.getD j undef:=fun j=>by simp[Array.getD_eq_getD_getElem?,List.getD]
 have Vq:∀ j,j<cs.length->VR g W w (cs.getD j .any) (xs.toList.getD j undef):=fun j hj=>by rw[gx];exact vx j hj
 have Vr:∀ j,j<ds.length->VR g W w (ds.getD j .any) (zs.toList.getD j undef):=fun j hj=>by rw[gy];exact vy j hj
 have kl:cs.length=ks.length:=by simpa using congrArg List.length hc
 have kl':ds.length=ks.length:=by simpa using congrArg List.length hd
 have hold:∀ z:Array Value,Ug P t (.agg z) z.toList:=fun z=>by
  unfold Ug;split at hk<;>simp_all
 have hr:=Io (P:=P) 9900 100 t ks hs w _ _ _ _ (hold xs) (hold zs) af af (B0 ks cs _ hc Vo Vq) (B0 ks ds _ hd Vp Vr);have he:Ju ks xs.toList zs.toList=b:=by
  have:=(Nz ks cs ds _ _ hc hd Vo Vp Vq Vr).trans hb.symm;cases hq:Ju ks xs.toList zs.toList<;>cases b<;>simp_all
 rw[he]at hr;have run:(execOp a.eval o).run P w=.ok (.value (.bool (ne != b))) w:=by
  unfold execOp;cases ne
  ·simp only[hop,ex,ey,cond_false,Sem.run_bind,run_eqGuard_agg w _ t x y xs zs hm,run_eql_struct,hr,Result.andThen_ok,Sem.run_pure];cases b<;>rfl
  ·simp only[hop,ex,ey,cond_true,Sem.run_bind,run_eqGuard_agg w _ t x y xs zs hm,run_neq_struct,hr,Result.andThen_ok,Sem.run_pure];cases b<;>rfl
 unfold Oper.wp;rw[run];exact hK _ _ (Fr.refl _ _) (.bool _)
end
section
variable {P:Program}{c:Cx}{g:Nat->GM}{s:FS}{a:Act}{w w':World}
def R.kL (hR:R c g s a w){b:Nat}(bq:s.H b=.free):R c (Zg g b .ph) (s.aH b (.cells [])) a w:=by
 have kA:g b=.un:=by
  have:=hR.h b;rw[bq]at this;generalize g b=m at this;cases this;rfl
 have hg:=Bs (m:=.ph) kA;have cr:Zg g b .ph b=.ph:=by simp[Zg]
 have eL:∀ i,i≠b->Zg g b .ph i=g i:=fun i h=>by simp[Zg,h]
 have hl:∀ i k,((s.aH b (.cells [])).H i).live->Zg g b .ph i=.re k->i≠b/\(s.H i).live/\g i=.re k:=fun i k h e=>by
  have cb:i≠b:=fun h=>by subst h;rw[cr]at e;cases e
  rw[FS.a7,aa (fun h=>cb h.symm)]at h;rw[eL i cb]at e;exact ⟨cb,h,e⟩
 have hW:∀ k,Qm c (Zg g b .ph) (s.aH b (.cells [])) k->Qm c g s k:=by
  rintro k (h|⟨i,h1,h2⟩)
  ·exact .inl h
  ·exact .inr ⟨i,(hl i k h1 h2).2.1,(hl i k h1 h2).2.2⟩
 have hf:=Fr.refl w (Qm c g s);refine ⟨hR.size,hR.ew,fun i=>(hR.t i).mono hf (fun k _=>hW k) hg,fun i=>(hR.gl i).mono hf (fun k _=>hW k) (fun _ _=>rfl),fun i=>?_,fun p q m hp hq h1 h2=>?_,fun p m hp h1=>?_,hR.fr,hR.xs,HA hR kA⟩
 ·rw[FS.a7];split
  ·rename_i e;subst e;rw[cr];exact .ph
  ·rename_i e;rw[eL i fun h=>e h.symm];exact (hR.h i).mono hf (fun k _=>hW k) hg fun _ _ _=>rfl
 ·exact hR.inj p q m (hl p m hp h1).2.1 (hl q m hq h2).2.1 (hl p m hp h1).2.2 (hl q m hq h2).2.2
 ·exact hR.old p m (hl p m hp h1).2.1 (hl p m hp h1).2.2
def Vs (k o:Nat)(t:TypeId)(fz:Nat×Nat):∀ (vs:List Value) (i:Nat) (cur:Array Value) (w:World),w.heap[k]?=some (.cells cur t fz)->(fz=(0,0)\/cur.size<=fz.1)->o+i+vs.length<=cur.size->(∀ v ∈ vs,v.oneCell'=true) ->
  (storeCells ⟨k,o,none⟩ vs i).run P w=.ok () (w.setRow k (cur.toList.take (o+i)++vs++cur.toList.drop (o+i+vs.length)).toArray)
 | [],i,cur,w,hg,_,_,_=>by
  simp only[storeCells,List.append_nil,List.length_nil,Nat.add_zero,List.take_append_drop,Array.toArray_toList];rw[setRow_self w k cur t fz hg];rfl
 | v::rest,i,cur,w,hg,hz,hl,h1=>by
  have hi:o+i<cur.size:=by simp at hl;omega
  have dX:(⟨k,o,none⟩:Addr).add i=⟨k,o+i,none⟩:=by unfold Addr.add;split<;>simp_all
  have eQ:w.cell? ⟨k,o+i,none⟩=some cur[o+i]:=by simp[World.cell?,hg,hi]
  have NA:w.frozen? ⟨k,o+i,none⟩=false:=by
   simp only[World.frozen?,hg];rcases hz with rfl|hz
   ·simp
   ·have:¬ fz.1≤o + i:=by omega
    simp[this]
  have dW:(store ((⟨k,o,none⟩:Addr).add i) v).run P w=.ok () (w.setRow k (cur.setIfInBounds (o+i) v)):=by
   rw[dX,run_store P w _ v _ (h1 v aw),eQ];simp[NA,setCell_eq_setRow w k (o+i) cur t fz v hg]
  have ih:=Vs k o t fz rest (i+1) (cur.setIfInBounds (o+i) v) (w.setRow k (cur.setIfInBounds (o+i) v)) (setRow_heap w k cur _ t _ hg) (by simpa using hz) (by simp at hl ⊢;omega) (fun x hx=>h1 x (by simp[hx]));simp only[storeCells,Sem.run_bind,dW,Result.andThen_ok,ih,setRow_setRow];congr 3;have e:=list_seg_step cur.toList (o+i) v rest (by simp at hl ⊢;omega);simpa [Array.toList_setIfInBounds,Nat.add_assoc] using e
def Vt {t u ty e:TypeId}{i:TypeInfo}{z:Value}(ht:P.underlying t=some (.slice e))(hu:u=t\/P.underlying u=some .string)(hi:P.info? e=some i)(hz:i.zero=some z)
  (ba:Option Addr) (dB fG:Nat) (x:Value) (m:Nat) (dY news:List Value) (w:World) (hlen:∀ w,(Builtin.lenOf x).run P w=.ok m w)
  (cf:∀ w':World,w'.heap=w.heap->(Builtin.firstCells i.size m x).run P w'=.ok news.toArray w') (hold:∀ w':World,w'.heap=w.heap->(Builtin.firstCells i.size dB (.slice ba dB fG)).run P w'=.ok dY.toArray w')
  (hg:fG<dB+m) (qT:((dB+m:Nat):Int)<=9223372036854775807) (iG:Builtin.nextslicecap (dB+m) fG*i.bytes<=281474976710656) :
  (Builtin.append_ #[t,u] ty #[.slice ba dB fG,x]).run P w =
   .ok (.slice (some ⟨w.heap.size,0,none⟩) (dB + m) (grownCap w (dB + m) fG e))
    (w.drew.alloc (.cells (dY.toArray++news.toArray++Builtin.zeroCells z.cells (grownCap w (dB+m) fG e-(dB+m))) e)):=by
 have hn:¬ (dB+m<=fG):=by omega
 have D8:¬ (9223372036854775807<((dB:Int)+(m:Int))):=by omega
 have D9:¬ (281474976710656<Builtin.nextslicecap (dB+m) fG*i.bytes):=by omega
 have hf:=cf w.drew rfl;have Vu:=hold w.drew rfl;rcases hu with rfl|hu
 ·simp[Builtin.append_,run_underlying ht,sizeOf,typeInfo,zeroValue,hi,hz,hlen,hn,D8,D9,Question.forced,hf,Vu,newRow,grownCap];congr 2;apply Array.ext';simp
 ·simp[Builtin.append_,run_underlying ht,run_underlying hu,sizeOf,typeInfo,zeroValue,hi,hz,hlen,hn,D8,D9,Question.forced,hf,Vu,newRow,grownCap];congr 2;apply Array.ext';simp
def Vv {t u ty e:TypeId}{i:TypeInfo}(ht:P.underlying t=some (.slice e))(hu:u=t\/P.underlying u=some .string)(hi:P.info? e=some i)
  (k dB fG:Nat) (x:Value) (m:Nat) (news:List Value) (cur:Array Value) (e':TypeId) (fz:Nat×Nat) (w:World) (hlen:∀ w,(Builtin.lenOf x).run P w=.ok m w) (hk:w.heap[k]?=some (.cells cur e' fz)) (qQ:fz=(0,0)\/cur.size<=fz.1)
  (cf:∀ w':World,w'.heap=w.heap->(Builtin.firstCells i.size m x).run P w'=.ok news.toArray w') (h1:∀ u ∈ news,u.oneCell'=true)
  (eC:dB+m<=fG) (iG:dB*i.size+news.length<=cur.size) :
  (Builtin.append_ #[t,u] ty #[.slice (some ⟨k,0,none⟩) dB fG,x]).run P w =
   .ok (.slice (some ⟨k,0,none⟩) (dB+m) fG) (w.setRow k (cur.toList.take (dB*i.size)++news++cur.toList.drop (dB*i.size+news.length)).toArray):=by
 have dW:=Vs (P:=P) k (dB*i.size) e' fz news 0 cur w hk qQ (by simpa using iG) h1;simp only[Nat.add_zero]at dW;have hf:=cf w rfl;rcases hu with rfl|hu
 ·simp[Builtin.append_,run_underlying ht,sizeOf,typeInfo,hi,hlen,eC,hf,Addr.add_lit,dW]
 ·simp[Builtin.append_,run_underlying ht,run_underlying hu,sizeOf,typeInfo,hi,hlen,eC,hf,Addr.add_lit,dW]
def Vw {t u ty e:TypeId}{i:TypeInfo}(ht:P.underlying t=some (.slice e))(hu:u=t\/P.underlying u=some .string)(hi:P.info? e=some i)
  (ba:Option Addr) (dB fG:Nat) (x:Value) (w:World) (hlen:∀ w,(Builtin.lenOf x).run P w=.ok 0 w)
  (cf:∀ w':World,w'.heap=w.heap->(Builtin.firstCells i.size 0 x).run P w'=.ok #[] w') (eC:dB<=fG) :
  (Builtin.append_ #[t,u] ty #[.slice ba dB fG,x]).run P w=.ok (.slice ba dB fG) w:=by
 have hf:=cf w rfl;rcases hu with rfl|hu
 ·cases ba<;>simp[Builtin.append_,run_underlying ht,sizeOf,typeInfo,hi,hlen,eC,hf,storeCells]
 ·cases ba<;>simp[Builtin.append_,run_underlying ht,run_underlying hu,sizeOf,typeInfo,hi,hlen,eC,hf,storeCells]
def Xe:AV->Nat
 | .isl m _=>m
 | .sl _ _ _ m _=>m
 | .str l=>l.length
 | _=>0
theorem NC (es b o m cc:Nat):Xe (.sl es b o m cc)=m:=rfl
theorem Xtt (ds:List AV):Xe (.isl m ds)=m:=rfl
theorem Xtu (l:List UInt8):Xe (.str l)=l.length:=rfl
theorem Xlx:Xe .nils=0:=rfl
def Xt (s:FS)(es:Nat):AV->List AV
 | .isl m ds=>ds.take (m*es)
 | .sl _ b o m _=>((Yy (s.H b)).drop o).take (m*es)
 | .str l=>Xj l
 | _=>[]
def Ip:Value->Prop
 | .slice _ 0 _=>True
 | _=>False
def Xpo {v:Value}(h:Ip v):∃ a c,v=.slice a 0 c:=by
 unfold Ip at h;split at h
 ·exact ⟨_,_,rfl⟩
 ·exact h.elim
def mf (s:FS)(es:Nat)(str:Bool):AV->Prop
 | .isl m ds=>str=false/\m*es<=ds.length
 | .sl es2 b o m _=>str=false/\es2=es/\o+m*es<=(Yy (s.H b)).length
 | .nils=>str=false
 | .lit v=>str=false/\Ip v
 | .str _=>str=true/\es=1
 | _=>False
def jZ:AV->Option Nat
 | .sl _ b _ _ _=>some b
 | _=>none
def uW (s:FS)(es:Nat):AV->Prop
 | .sl es2 b o n _=>es2=es/\o=0/\n*es<=(Yy (s.H b)).length/\(s.H b).live
 | .nils=>True
 | _=>False
def FS.cH (s:FS):Option Nat->FS
 | some b=>s.aH b .dead
 | none=>s
def Xj9 {s:FS}{b:Nat}{n:Nat}(h:n<=(Yy (s.H b)).length)(hn:0<n):∃ cs,s.H b=.cells cs:=by
 cases hh:s.H b with
 | cells cs=>exact ⟨cs,rfl⟩
 | _=>rw[hh]at h;simp[Yy]at h;omega
def ND {k o:Nat}{cur:Array Value}   (hb:w.heap[k]?=some (.cells cur e fz)){n:Nat}(hn:o+n<=cur.size) :
  ∀ (w':World),w'.heap=w.heap->∀ j v,((cur.toList.drop o).take n)[j]?=some v->w'.cell? ((⟨k,o,none⟩:Addr).add j)=some v:=by
 intro w' hw j v hv;have dX:(⟨k,o,none⟩:Addr).add j=⟨k,o+j,none⟩:=by unfold Addr.add;split<;>simp_all
 rw[dX];rw[getElem?_take]at hv;split at hv
 ·rw[getElem?_drop]at hv;simp only[World.cell?,hw,hb];simpa using hv
 ·cases hv
def B5 (es m:Nat){a':Option Addr}{len cap:Nat}{vs:List Value}(hl:vs.length=m*es)(h:∀ w':World,w'.heap=w.heap->∀ j v,vs[j]?=some v->∃ a0,a'=some a0/\w'.cell? (a0.add j)=some v) :
  ∀ w':World,w'.heap=w.heap->(Builtin.firstCells es m (.slice a' len cap)).run P w'=.ok vs.toArray w':=by
 intro w' hw;cases a' with
 | none =>
  cases vs with
  | nil=>simp[Builtin.firstCells]
  | cons v vs=>obtain ⟨a0,h1,_⟩:=h w' hw 0 v rfl;cases h1
 | some a0 =>
  refine run_firstCells_some w' es m a0 len cap vs hl fun j v hj=>?_;obtain ⟨a1,h1,h2⟩:=h w' hw j v hj;cases h1;exact h2
def Iq (hR:R c g s a w){es:Nat}{str:Bool}{x:AV}  (hx:VR g (Qm c g s) w x u)(ok:mf s es str x) :
  ∃ news:List Value,(∀ w,(Builtin.lenOf u).run P w=.ok (Xe x) w)∧(∀ w':World,w'.heap=w.heap→(Builtin.firstCells es (Xe x) u).run P w'=.ok news.toArray w') ∧
   news.length=Xe x*es/\(Xt s es x).length=Xe x*es/\(∀ v ∈ news,v.oneCell'=true)/\∀ j,j<Xe x*es->VR g (Qm c g s) w ((Xt s es x).getD j .any) (news.getD j undef):=by
 cases x<;>simp only[mf]at ok
 case isl m ds =>
  obtain ⟨rfl,hl⟩:=ok;obtain ⟨ad,cap,us,rfl,h1,h2,h3,h4⟩:=uP hx;simp only[Xe];have hlen:((List.range (m*es)).map us).length=m*es:=by simp
  have aY:∀ j,j<m*es->((List.range (m*es)).map us).getD j undef=us j:=fun j hj=>by simp[List.getD,hj]
  refine ⟨(List.range (m*es)).map us,fun w=>rfl,B5 es m hlen fun w' hw j v hj=>?_,hlen,by simp[Xt];omega,fun v hv=>?_,fun j hj=>?_⟩
  ·obtain ⟨c4,rfl⟩:=List.getElem?_eq_some_iff.1 hj;rw[hlen]at c4;obtain ⟨k,o,rfl,h5,_⟩:=h3 j af;refine ⟨_,rfl,?_⟩;have dX:(⟨k,o,none⟩:Addr).add j=⟨k,o + j,none⟩:=by unfold Addr.add;split<;>simp_all
   rw[dX];simp only[List.getElem_map,List.getElem_range];rw[<- h5];unfold Uv World.cell?;simp only[hw]
  ·obtain ⟨j,hj,rfl⟩:=mem_map.1 hv;simp at hj;obtain ⟨k,o,_,_,_,h6⟩:=h3 j af;exact h6
  ·rw[aY j hj];have:(Xt s es (.isl m ds)).getD j .any=ds.getD j .any:=by simp[Xt,List.getD,getElem?_take,hj]
   rw[this];exact h4 j af
 case sl es2 b o m cc =>
  obtain ⟨rfl,rfl,hl⟩:=ok;simp only[Xe];rcases qM hx with ⟨k,cap,e,cur,fz,rfl,h1,h2,h3,h4,h5,h6⟩|⟨ad,rfl,h1,rfl,rfl⟩
  ·by_cases eW:0 < m * es2
   ·obtain ⟨cs,iQ⟩:=Xj9 (s:=s) (b:=b) (n:=o+m*es2) hl af;have hb:=hR.h b;rw[h1,iQ]at hb;cases hb with
    | cells hb kE tI hv hf =>
    rename_i eT e' Vx;rw[h5]at hb;cases hb;have hlc:o+m*es2<=cs.length:=by rw[iQ]at hl;exact hl
    have hlen:((cur.toList.drop o).take (m*es2)).length=m*es2:=by simp;omega
    have aY:∀ j,j<m*es2->((cur.toList.drop o).take (m*es2)).getD j undef=cur.getD (o+j) undef:=fun j hj=>by simp[List.getD,getElem?_take,hj,Array.getD_eq_getD_getElem?]
    refine ⟨(cur.toList.drop o).take (m*es2),fun w=>rfl,B5 es2 m hlen fun w' hw j v hj=>⟨_,rfl,ND h5 af w' hw j v hj⟩,hlen,by simp[Xt,iQ,Yy];omega,fun v hv=>?_,fun j hj=>?_⟩
    ·obtain ⟨j,hj,rfl⟩:=List.getElem_of_mem hv;rw[hlen]at hj;have:=tI (o+j) af;have hg:=aY j hj;simp only[List.getD,List.getElem?_eq_getElem (show j<((cur.toList.drop o).take (m*es2)).length by omega),Option.getD_some]at hg;rw[hg];exact this
    ·rw[aY j hj];have:(Xt s es2 (.sl es2 b o m cc)).getD j .any=cs.getD (o + j) .any:=by simp[Xt,iQ,Yy,List.getD,getElem?_take,hj]
     rw[this];exact hv _ af
   ·have hz:m * es2=0:=by omega
    refine ⟨[],fun w=>rfl,B5 es2 m (by simp[hz]) fun w' hw j v hj=>by simp at hj,by simp[Xe,hz],by simp[Xe,Xt,hz],fun v hv=>(by cases hv),fun j hj=>af⟩
  ·refine ⟨[],fun w=>rfl,B5 es2 0 aw fun w' hw j v hj=>by simp at hj,by simp[Xe],by simp[Xe,Xt],fun v hv=>(by cases hv),fun j hj=>af⟩
 case lit v =>
  obtain ⟨_,ok⟩:=ok;obtain ⟨ad,cap,rfl⟩:=Xpo ok;have:u=.slice ad 0 cap:=by cases hx;rfl
  subst this;simp only[Xe];refine ⟨[],fun w=>rfl,B5 es 0 aw fun w' hw j v hj=>by simp at hj,by simp[Xe],by simp[Xe,Xt],fun v hv=>(by cases hv),fun j hj=>af⟩
 case nils =>
  obtain ⟨ad,rfl⟩:=DA hx;simp only[Xe];refine ⟨[],fun w=>rfl,B5 es 0 aw fun w' hw j v hj=>by simp at hj,by simp[Xe],by simp[Xe,Xt],fun v hv=>(by cases hv),fun j hj=>af⟩
 case str l =>
  obtain ⟨rfl,rfl⟩:=ok;cases hx;simp only[Xe];refine ⟨l.map fun b=>.int .u8 b.toNat,fun w=>?_,fun w' _=>?_,by simp[Xe],by simp[Xe,Xt,Xj],fun v hv=>?_,fun j hj=>?_⟩
  ·simp[Builtin.lenOf,Xe,ByteArray.size]
  ·have hx:(⟨l.toArray⟩:ByteArray).extract 0 l.length=⟨l.toArray⟩:=by
    have:l.length=(⟨l.toArray⟩:ByteArray).size:=rfl;rw[this,ByteArray.extract_zero_size]
   simp[Builtin.firstCells,Xe,hx]
  ·obtain ⟨b,_,rfl⟩:=mem_map.1 hv;rfl
  ·simp only[Nat.mul_one]at hj;have e1:(Xt s 1 (.str l)).getD j .any=.int .u8 (l[j]).toNat:=by simp[Xt,Xj,List.getD,hj]
   have e2:(l.map fun b:UInt8=>Value.int .u8 b.toNat).getD j undef=.int .u8 (l[j]).toNat:=by simp[List.getD,hj]
   rw[e1,e2];exact .int _ _
def B6 {g:Nat->GM}{b:Nat}{m:GM}:Zg g b m b=m:=by simp[Zg]
def Vy (hR:R c g s a w){nm:Nat}(bq:s.H nm=.free){es N cap:Nat}{e:TypeId}{cs:List AV}{vs:List Value}{zs:Array Value}(hl:vs.length=N*es)(aW:cs.length=N*es)(lE:zs.size=(cap-N)*es)(hN:N<=cap)(hm:cap<=maxLen)
  (h1:∀ v ∈ vs,v.oneCell'=true) (hv:∀ j,j<N*es->VR g (Qm c g s) w (cs.getD j .any) (vs.getD j undef)) :
  ∃ g',R c g' (s.aH nm (.cells cs)) a (w.drew.alloc (.cells (vs.toArray++zs) e))/\VR g' (Qm c g' (s.aH nm (.cells cs))) (w.drew.alloc (.cells (vs.toArray++zs) e)) (.sl es nm 0 N N) (.slice (some ⟨w.heap.size,0,none⟩) N cap):=by
 have B7:R c g s a w.drew:=hR.grow (Fr.drew w _);have jk:∀ k,Qm c g s k->k<w.heap.size:=by
  rintro k (h|⟨b',hl,fF⟩)
  ·have:=(hR.xs k h).1;have:=hR.fr.size;omega
  ·exact BR.lt (fF ▸ hR.h b') hl
 have aY:∀ j,j<N*es->(vs.toArray++zs).getD j undef=vs.getD j undef:=fun j hj=>by
  simp[Array.getD_eq_getD_getElem?,List.getD,Array.getElem?_append,hl,hj]
 have cf:=heap_alloc_new w.drew (.cells (vs.toArray++zs) e);have bc:=B7.new (b:=nm) (x:=.cells cs) (.cells (vs.toArray++zs) e) bq trivial fun g' fF=>by
  refine .cells (cur:=vs.toArray++zs) (e:=e) (fz:=(0,0)) cf (by simp[hl,aW]) (fun j hj=>?_) (fun j hj=>?_) (.inl rfl)
  ·rw[aY j af];have c4:j < vs.length:=by omega
   simp only[List.getD,List.getElem?_eq_getElem c4,Option.getD_some];exact h1 _ (getElem_mem c4)
  ·rw[aY j af];exact ((hv j af).mono (Fr.drew w _) (fun _ _ h=>h) (fun _ _=>rfl)).mono (Fr.alloc w.drew _ _) (fun k hk h=>h.resolve_right (by simp at hk;simp;omega)) fF
 refine ⟨_,bc,.sl (k:=w.heap.size) (e:=e) (cur:=vs.toArray++zs) (fz:=(0,0)) B6 (Nat.le_refl _) hN hm cf ?_⟩;simp[hl,lE,<- Nat.add_mul];exact Nat.mul_le_mul_right _ af
def qc {s s':FS}(hT:∀ i,s.T i=s'.T i)(hH:∀ i,s.H i=s'.H i):s=s':=by
 cases s;cases s';congr 1<;>funext i
 ·exact hT i
 ·exact hH i
def Vz {w:World}{k:Nat}{cur new:Array Value}   (hk:w.heap[k]?=some (.cells cur e fz))(hs:new.size=cur.size):Fr w (w.setRow k new) (fun i=>i=k) :=
 ⟨rfl,rfl,rfl,by simp[World.setRow],fun i _ cb=>setRow_other w k i new cb,fun i eT e' Vx hi=>by
  by_cases h:i=k
  ·subst h;rw[hk]at hi;cases hi;exact ⟨new,setRow_heap w i cur new e fz hk,hs⟩
  ·exact ⟨eT,by rw[setRow_other w k i new h];exact hi,rfl⟩⟩
def VA (hR:R c g s a w){nm:Nat}(bq:s.H nm=.free){t u ty e:TypeId}{i:TypeInfo}{z:Value}{es:Nat}(ht:P.underlying t=some (.slice e))(hu:u=t\/P.underlying u=some .string)(hi:P.info? e=some i)(hz:i.zero=some z)(df:i.size=es)(lE:z.cells.size=es)
  (ad:Option Addr) {ux:Value} {m:Nat} {cs:List AV} {news:List Value} (q1:∀ w,(Builtin.lenOf ux).run P w=.ok m w) (q2:∀ w':World,w'.heap=w.heap->(Builtin.firstCells es m ux).run P w'=.ok news.toArray w')
  (q3:news.length=m*es) (q4:cs.length=m*es) (q5:∀ v ∈ news,v.oneCell'=true) (q6:∀ j,j<m*es->VR g (Qm c g s) w (cs.getD j .any) (news.getD j undef)) (qT:m<=maxLen) (rQ:m*i.bytes<=140737488355328) :
  ∃ g' v' w',(Builtin.append_ #[t,u] ty #[.slice ad 0 0,ux]).run P w=.ok v' w'/\R c g' (s.aH nm (.cells cs)) a w'/\VR g' (Qm c g' (s.aH nm (.cells cs))) w' (.sl es nm 0 m m) v':=by
 by_cases hm:m=0
 ·subst hm;have hn:news=[]:=List.eq_nil_of_length_eq_zero af;have hc:cs=[]:=List.eq_nil_of_length_eq_zero af;subst hn hc;exact ⟨_,_,_,Vw ht hu hi ad 0 0 ux w q1 (by rw[df];exact q2) (Nat.le_refl _),hR.kL bq,.kz B6 rfl⟩
 ·have hr:=Vt (ty:=ty) (P:=P) ht hu hi hz ad 0 0 ux m [] news w q1 (by rw[df];exact q2) (fun w' _=>by cases ad<;>simp[Builtin.firstCells,loadCells,loadCellsFrom]) (by omega) (by simp only[maxLen]at qT;omega) (growslice_fits (by omega) (by simpa using rQ));simp only[Nat.zero_add,nil_append]at hr;have jk:=Hy w m 0 e;obtain ⟨g',h1,h2⟩:=Vy (es:=es) (N:=m) (cap:=grownCap w m 0 e) (e:=e) (zs:=Builtin.zeroCells z.cells (grownCap w m 0 e-m)) hR bq q3 q4 (by rw[size_zeroCells,lE]) jk (grownCap_le_maxLen w m 0 e qT) q5 q6;exact ⟨g',_,_,by rw[hr];simp,h1,h2⟩
def Xy4 (hR:R c g s a w){nm:Nat}(bq:s.H nm=.free){t u ty e:TypeId}{i:TypeInfo}{z:Value}{es:Nat}(ht:P.underlying t=some (.slice e))(hu:u=t\/P.underlying u=some .string)(hi:P.info? e=some i)(hz:i.zero=some z)(df:i.size=es)(lE:z.cells.size=es)
  {vb vx:AV} {ub ux:Value} {str:Bool} (hb:VR g (Qm c g s) w vb ub) (hx:VR g (Qm c g s) w vx ux) (Ir:uW s es vb) (zb:mf s es str vx) (qT:Xe vb+Xe vx<=maxLen) (rQ:(Xe vb+Xe vx)*i.bytes<=140737488355328) :
  ∃ g' v' w',(Builtin.append_ #[t,u] ty #[ub,ux]).run P w=.ok v' w'∧R c g' ((s.cH (jZ vb)).aH nm (.cells (Xt s es vb++Xt s es vx))) a w' ∧
   VR g' (Qm c g' ((s.cH (jZ vb)).aH nm (.cells (Xt s es vb++Xt s es vx)))) w' (.sl es nm 0 (Xe vb+Xe vx) (Xe vb+Xe vx)) v':=by
 obtain ⟨news,q1,q2,q3,q4,q5,q6⟩:=Iq (P:=P) hR hx zb;cases vb<;>simp only[uW]at Ir
 case nils =>
  obtain ⟨ad,rfl⟩:=DA hb;simp only[Xe,Xt,jZ,FS.cH,Nat.zero_add,nil_append]at qT rQ ⊢;exact VA hR bq ht hu hi hz df lE ad q1 q2 q3 q4 q5 q6 qT rQ
 case sl es2 b o n cc =>
  obtain ⟨rfl,rfl,hl,aO⟩:=Ir;have cb:nm≠b:=fun h=>by subst h;rw[bq]at aO;exact aO
  have bW:g b≠.un:=fun h=>by
   have:=hR.h b;rw[h]at this;exact this.gE aO
  have eg:(s.aH b .dead).H nm=.free:=by rw[FS.a7,aa fun h=>cb h.symm,bq]
  have Ea:=hR.kill bW;have B8:∀ k,Qm c g (s.aH b .dead) k->Qm c g s k:=Hz;obtain ⟨dY,o1,o2,o3,o4,o5,o6⟩:=Iq (P:=P) (str:=false) hR hb (x:=.sl es2 b 0 n cc) ⟨rfl,rfl,by simpa using hl⟩;have zc:∀ {x:AV} {y:Value},VR g (Qm c g s) w x y->VR g (Qm c g (s.aH b .dead)) w x y:=fun h=>h.mono (Fr.refl _ _) (fun k _=>B8 k) (fun _ _=>rfl);simp only[NC]at qT rQ o1 o2 o3 o4 o6 ⊢;simp only[jZ,FS.cH];rcases qM hb with ⟨k,cap,e',cur,fz,rfl,h1,h2,h3,h4,h5,h6⟩|⟨ad,rfl,h1,rfl,rfl⟩
  ·have hlen:(dY++news).length=(n + Xe vx) * es2:=by rw[List.length_append,o3,q3,Nat.add_mul]
   have wW:(Xt s es2 (.sl es2 b 0 n cc)++Xt s es2 vx).length=(n+Xe vx)*es2:=by rw[List.length_append,o4,q4,Nat.add_mul]
   have yI:∀ v ∈ dY++news,v.oneCell'=true:=fun v hv=>(List.mem_append.1 hv).elim (o5 v) (q5 v);have Is:∀ j,j<(n+Xe vx)*es2->VR g (Qm c g s) w ((Xt s es2 (.sl es2 b 0 n cc)++Xt s es2 vx).getD j .any) ((dY++news).getD j undef):=fun j hj=>by
    by_cases ij:j<n*es2
    ·have:=o6 j ij;simp only[List.getD,getElem?_append_left (show j<(Xt s es2 (.sl es2 b 0 n cc)).length by omega),getElem?_append_left (show j<dY.length by omega)]at this ⊢;exact this
    ·have:=q6 (j-n*es2) (by rw[Nat.add_mul]at hj;omega);simp only[List.getD,getElem?_append_right (show (Xt s es2 (.sl es2 b 0 n cc)).length<=j by omega),getElem?_append_right (show dY.length<=j by omega),o3,o4]at this ⊢;exact this
   by_cases eC:n+Xe vx<=cap
   ·-- in place
    have di:=hR.h b;rw[h1]at di;have qQ:fz=(0,0)\/cur.size<=fz.1:=by
     cases hh:s.H b with
     | cells cs=>rw[hh]at di;cases di with|cells bL _ _ _ hf=>rw[h5]at bL;cases bL;exact hf
     | az kvs dn=>rw[hh]at di;cases di with|az bL=>rw[h5]at bL;cases bL
     | bp kvs bs ck=>rw[hh]at di;cases di with|bp bL=>rw[h5]at bL;cases bL
     | iter b0 ck seen=>rw[hh]at di;cases di with|iter bL=>rw[h5]at bL;cases bL
     | dK ls=>rw[hh]at di;cases di with|dK _ h'=>cases h' with|cells bL _ _ _ hf=>rw[h5]at bL;cases bL;exact hf
     | free=>rw[hh]at aO;exact aO.elim
     | dead=>rw[hh]at aO;exact aO.elim
    have hmul:(n+Xe vx)*es2<=cap*es2:=Nat.mul_le_mul_right _ eC;have iG:n*i.size+news.length<=cur.size:=by rw[df,q3,<- Nat.add_mul];omega
    have hr:=Vv (ty:=ty) (P:=P) ht hu hi k n cap ux (Xe vx) news cur e' fz w q1 h5 qQ (by rw[df];exact q2) q5 eC iG;rw[df]at hr;have holds:dY=cur.toList.take (n*es2):=by
     have a1:=o2 w rfl;have a2:=run_firstCells_some (P:=P) w es2 n ⟨k,0,none⟩ n cap (cur.toList.take (n*es2)) (by simp;have:=Nat.mul_le_mul_right es2 (Nat.le_trans h2 h3);omega) (by have:=ND h5 (o:=0) (n:=n*es2) (by have:=Nat.mul_le_mul_right es2 (Nat.le_trans h2 h3);omega) w rfl;simpa using this);rw[a1]at a2;simpa using a2
    have cC:(cur.toList.take (n*es2)++news++cur.toList.drop (n*es2+news.length)).toArray.size=cur.size:=by
     have:n*es2<=cur.size:=by have:=Nat.mul_le_mul_right es2 (Nat.le_trans h2 h3);omega
     rw[df]at iG;simp;omega
    have aY:∀ j,j<(n+Xe vx)*es2->(cur.toList.take (n*es2)++news++cur.toList.drop (n*es2+news.length)).toArray.getD j undef=(dY++news).getD j undef:=fun j hj=>by
     rw[<- holds];simp only[Array.getD_eq_getD_getElem?,List.getD,List.getElem?_toArray];rw[getElem?_append_left af]
    have hf:=Vz (new:=(cur.toList.take (n*es2)++news++cur.toList.drop (n*es2+news.length)).toArray) h5 cC;have wX:Qm c g s k:=.inr ⟨b,aO,h1⟩;have bA:=hR.setBlock (x:=.cells (Xt s es2 (.sl es2 b 0 n cc)++Xt s es2 vx)) h1 aO trivial hf (by
     refine .cells (cur:=(cur.toList.take (n*es2)++news++cur.toList.drop (n*es2+news.length)).toArray) (e:=e') (fz:=fz) (setRow_heap w k cur _ e' fz h5) af (fun j hj=>?_) (fun j hj=>?_) (by rw[cC];exact qQ)
     ·rw[aY j af];have c4:j < (dY++news).length:=by omega
      simp only[List.getD,List.getElem?_eq_getElem c4,Option.getD_some];exact yI _ (getElem_mem c4)
     ·rw[aY j af];exact (Is j af).mono (hf.weak fun i hi=>hi ▸ wX) (fun _ _ h=>h) (fun _ _=>rfl))
    have VB:=bA.move (b:=b) (b':=nm) (by rw[FS.a7,am rfl];trivial) (by rw[FS.a7,aa fun h=>cb h.symm,bq]);have BZ:((s.aH b (.cells (Xt s es2 (.sl es2 b 0 n cc)++Xt s es2 vx))).aH b .dead).aH nm ((s.aH b (.cells (Xt s es2 (.sl es2 b 0 n cc)++Xt s es2 vx))).H b)=(s.aH b .dead).aH nm (.cells (Xt s es2 (.sl es2 b 0 n cc)++Xt s es2 vx)):=by
     refine qc (fun _=>rfl) fun j=>?_;simp only[FS.a7,am];split
     ·rfl
     ·split<;>rfl
    rw[BZ]at VB;refine ⟨_,_,_,hr,VB,.sl (k:=k) (e:=e') (fz:=fz) (by rw[B6];exact h1) (Nat.le_refl _) eC h4 (setRow_heap w k cur _ e' fz h5) (by rw[cC];exact h6)⟩
   ·have jk:=Hy w (n+Xe vx) cap e;have hr:=Vt (ty:=ty) (P:=P) ht hu hi hz (some ⟨k,0,none⟩) n cap ux (Xe vx) dY news w q1 (by rw[df];exact q2) (by rw[df];exact fun w' hw=>by simpa [Builtin.firstCells] using o2 w' hw) af (by simp only[maxLen]at qT;omega) (growslice_fits af rQ);obtain ⟨g',e1,e2⟩:=Vy (es:=es2) (N:=n+Xe vx) (cap:=grownCap w (n+Xe vx) cap e) (e:=e) (zs:=Builtin.zeroCells z.cells (grownCap w (n+Xe vx) cap e-(n+Xe vx))) Ea eg hlen wW (by rw[size_zeroCells,lE]) jk (grownCap_le_maxLen w _ _ e qT) yI (fun j hj=>zc (Is j hj));exact ⟨g',_,_,by rw[hr];simp,e1,e2⟩
  ·have qU:dY=[]:=List.eq_nil_of_length_eq_zero af;have aW:Xt s es2 (.sl es2 b 0 0 0)=[]:=List.eq_nil_of_length_eq_zero af;rw[aW];simp only[Nat.zero_add,nil_append]at qT rQ ⊢;exact VA Ea eg ht hu hi hz df lE ad q1 q2 q3 q4 q5 (fun j hj=>zc (q6 j hj)) qT rQ
end
end Go.Proofs.YtogckmommodmhaaGreatDoor
