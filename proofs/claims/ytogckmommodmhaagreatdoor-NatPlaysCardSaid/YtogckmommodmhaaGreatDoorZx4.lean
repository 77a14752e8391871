import Derived.Test.YtogckmommodmhaaGreatDoorZx3
import Derived.Great.BuildSlice
namespace Go.Proofs.YtogckmommodmhaaGreatDoor
open List (length_take getElem?_append_left getElem?_take getElem?_append_right getElem?_drop nil_append mem_filter mem_range cons_append length_cons map_cons map_map all_eq_true getElem_mem mem_cons map_id map_take map_drop map_set drop_drop mem_map)
open Go.RowKit
set_option linter.all false
set_option maxRecDepth 100000
variable {fn:Func}{e:TypeId}{a:Act}{xs:List Operand}{w:World}{fz:Nat×Nat}{u:Value}(c:Option Bool)(gl:Nat->AV)(z:List AV)(ne:Bool)(m es n b:Nat)(k:IntKind)(ty:TY)(x:AV)(f:FuncId)(i:Nat)(kvs:List (AV×AV))(v:AV)(o:Nat)(cs:List AV)(y:AV)(j:Nat)(vs l r:List AV)(dn:Bool)(bk:Bk)
def DW:bB->Bool
 | .q ..=>true
 | _=>false
def wV {α:Type}(k:Nat)(l:List α):List α:=l.take k++((l.drop (k+2)).take 2++((l.drop k).take 2++l.drop (k+4)))
def Za (k p:Nat):Nat:=if p=k then k+2 else if p=k+1 then k+3 else if p=k+2 then k else if p=k+3 then k+1 else p
def Nd (k p:Nat):Za k (Za k p)=p:=by unfold Za;(repeat' split)<;>omega
def Nf {k p n:Nat}(h:p<n)(hn:n=k+5):Za k p<n:=by unfold Za;(repeat' split)<;>omega
def Xyp {k p:Nat}(h:p<k):Za k p=p:=by unfold Za;(repeat' split)<;>omega
def Xyn {α:Type}{l:List α}{k:Nat}(hl:l.length=k+5)(p:Nat):(wV k l)[p]?=l[Za k p]?:=by
 have h1:(l.take k).length=k:=by rw[length_take];omega
 have h2:((l.drop (k+2)).take 2).length=2:=by rw[length_take,List.length_drop];omega
 have h3:((l.drop k).take 2).length=2:=by rw[length_take,List.length_drop];omega
 unfold wV Za;by_cases c0:p<k
 ·rw[getElem?_append_left af,getElem?_take,am c0,aa af,aa af,aa af,aa af]
 ·rw[getElem?_append_right af,h1];by_cases c1:p < k + 2
  ·rw[getElem?_append_left af,getElem?_take,am af,getElem?_drop];by_cases e:p=k
   ·rw[am e];congr 1;omega
   ·rw[aa e,am af];congr 1;omega
  ·rw[getElem?_append_right af,h2];by_cases c2:p < k + 4
   ·rw[getElem?_append_left af,getElem?_take,am af,getElem?_drop,aa af,aa af];by_cases e:p=k + 2
    ·rw[am e];congr 1;omega
    ·rw[aa e,am af];congr 1;omega
   ·rw[getElem?_append_right af,h3,getElem?_drop,aa af,aa af,aa af,aa af];congr 1;omega
def Xxc {α:Type}{l:List α}{k:Nat}(hl:l.length=k+5):(wV k l).length=k+5:=by unfold wV;simp;omega
def Yka (l:List bB):Option Nat:=match l.reverse with
 | .pd none (.DQ _) _ none::.q _ _ _ _::.pd (some _) (.BK _) _ none::.q _ _ _ _::.pd (some _) (.wR _ _) _ none::pre=>if pre.all DW=true then some pre.length else none
 | _=>none
def Ng (anc a1 a2:List Nat)(k n:Nat):Bool:=decide (n=k+5) &&
 (List.range n).all fun p=>(List.range n).all fun q =>
  (!(a1.getD p 0).testBit q||((anc.getD p 0).testBit q||(p==k+2&&q==k))) &&
  (!(a2.getD p 0).testBit q||((anc.getD (Za k p) 0).testBit (Za k q)||(Za k p==k&&Za k q==k+2))) &&
  (decide (p<k)||p==k||p==k+2||(anc.getD p 0).testBit k||(anc.getD p 0).testBit (k+2))
def U5 (anc:List Nat)(k:Nat):List Nat:=anc.set (k+2) (anc.getD (k+2) 0 ||| 1 <<< k)
def U6 (anc:List Nat)(k:Nat):List Nat:=(List.range (k+5)).map fun p=>((List.range (k+5)).filter fun q=>(anc.getD (Za k p) 0).testBit (Za k q)||(Za k p==k&&Za k q==k+2)).foldl (fun m q=>m ||| 1 <<< q) 0
inductive TC where
 | skip
 | Nh (l:List bB)
 | vf (l:List bB) (anc:List Nat)
 | zc (l l2:List bB) (a1 a2:List Nat)
 | seq (a b:TC)
 | cond (x:TV) (a b:TC)
 | block (i:Nat) (b:TC)
 | loop (b:TC)
 | exit (i:Nat)
 | ret
def U7 (l:List bB)(anc:List Nat):TC:=match Yka l with
 | some k=>if (l.take k).all DW=true/\Ng anc (U5 anc k) (U6 anc k) k l.length=true then .zc l (wV k l) (U5 anc k) (U6 anc k) else .vf l anc
 | none=>.vf l anc
def Js (P:Program)(N:Nat):Code->Option TC
 | .skip=>some .skip
 | .region _ ops false=>(Zu P N ops ops.toList).map .Nh
 | .region _ ops true=>if DU ops=true then (Zu P N ops ops.toList).map fun l=>U7 l (qc ops.toList []) else none
 | .seq a b=>match Js P N a,Js P N b with
  | some x,some y=>some (.seq x y)
  | _,_=>none
 | .cond c a b=>match Js P N a,Js P N b with
  | some x,some y=>some (.cond (aP c) x y)
  | _,_=>none
 | .block i b=>(Js P N b).map (.block i)
 | .loop b=>(Js P N b).map .loop
 | .exit i=>some (.exit i)
 | .ret=>some .ret
 | _=>none
inductive EX where
 | normal
 | exit (i:Nat)
 | ret
def vg (c:Cx)(Q:EX->St->Prop):Exit->Act->World->Prop
 | .normal,a,w=>∃ g s,R c g s.fs a w/\Q .normal s
 | .exit i,a,w=>∃ g s,R c g s.fs a w/\Q (.exit i) s
 | .ret,a,w=>∃ g s,R c g s.fs a w/\Q .ret s
 | _,_,_=>False
def AW (P:Program)(c:Cx)(code:Code)(Q:EX->St->Prop)(s:St):Prop:=∀ g a w,R c g s.fs a w->code.wp P (vg c Q) a w
def U8 (k:(EX->St->Prop)->St->Prop)(Q:EX->St->Prop):EX->St->Prop
 | .normal,s=>k Q s
 | e,s=>Q e s
def BS (i:Nat)(Q:EX->St->Prop):EX->St->Prop
 | .exit j,s=>if j=i then Q .normal s else Q (.exit j) s
 | e,s=>Q e s
def rf (P:Program)(c:Cx)(b:TC)(Q:EX->St->Prop)(s:St):Prop:=∀ code,Js P c.N code=some b->AW P c (.loop code) Q s
def xw (P:Program)(c:Cx):TC->(EX->St->Prop)->St->Prop
 | .skip,Q,s=>Q .normal s
 | .Nh l,Q,s=>XP P c l (Q .normal) s
 | .vf l anc,Q,s=>XD P c anc l [] (Q .normal) s
 | .zc l l2 a1 a2,Q,s=>XD P c a1 l [] (Q .normal) s/\XD P c a2 l2 [] (Q .normal) s
 | .seq a b,Q,s=>xw P c a (U8 (xw P c b) Q) s
 | .cond x a b,Q,s=>fL (aV c.gl s.fs x)/\(eY (aV c.gl s.fs x)=true->xw P c a Q s)/\(eY (aV c.gl s.fs x)=false->xw P c b Q s)
 | .block i b,Q,s=>xw P c b (BS i Q) s
 | .loop b,Q,s=>rf P c b Q s
 | .exit i,Q,s=>Q (.exit i) s
 | .ret,Q,s=>Q .ret s
def Ip (P:Program)(c:Cx)(b:TC)(Q:EX->St->Prop):EX->St->Prop:=U8 (xw P c b) Q
section
variable {P:Program}{c:Cx}{Q:EX->St->Prop}{s:St}
theorem Ydp:xw P c .skip Q s=Q .normal s:=rfl
theorem Yf3 (l:List bB):xw P c (.Nh l) Q s=XP P c l (Q .normal) s:=rfl
theorem Yau (l l2:List bB)(a1 a2:List Nat):xw P c (.zc l l2 a1 a2) Q s=(XD P c a1 l [] (Q .normal) s/\XD P c a2 l2 [] (Q .normal) s):=rfl
theorem Ycd (l:List bB)(anc:List Nat):xw P c (.vf l anc) Q s=XD P c anc l [] (Q .normal) s:=rfl
theorem Yhw (a b:TC):xw P c (.seq a b) Q s=xw P c a (Ip P c b Q) s:=rfl
theorem Yas (x:TV)(a b:TC):xw P c (.cond x a b) Q s=(fL (aV c.gl s.fs x)/\(eY (aV c.gl s.fs x)=true->xw P c a Q s)/\(eY (aV c.gl s.fs x)=false->xw P c b Q s)):=rfl
theorem Xvr (b:TC):xw P c (.block i b) Q s=xw P c b (BS i Q) s:=rfl
theorem Yd9 (b:TC):xw P c (.loop b) Q s=rf P c b Q s:=rfl
theorem Ydg:xw P c (.exit i) Q s=Q (.exit i) s:=rfl
theorem Yh7:xw P c .ret Q s=Q .ret s:=rfl
theorem Xb8 (b:TC):Ip P c b Q .normal s=xw P c b Q s:=rfl
theorem Xox (b:TC)(i:Nat):Ip P c b Q (.exit i) s=Q (.exit i) s:=rfl
theorem Xww (b:TC):Ip P c b Q .ret s=Q .ret s:=rfl
end
section
variable {P:Program}{c:Cx}
def U9 {ops:Array Oper}{id:Nat}{l:List bB}{Q:EX->St->Prop}{s:St}(hm:P.follows .mixedOrders=true)(hb:DU ops=true)(he:Zu P c.N ops ops.toList=some l)
  (h:XD P c (qc ops.toList []) l [] (Q .normal) s):AW P c (.region id ops true) Q s:=by
 intro g a w hR;obtain ⟨S,F,sn,h1,h2,h3,h4,h5⟩:=Io ops.toList l [] s he h;have hn:ops.toList.length=ops.size:=by simp
 rw[hn]at h3 h5;simp only[List.reverse_nil,nil_append]at h5;have hc:Ch ops.size S F (fun j=>(List.range ops.size).filter fun i=>((qc ops.toList []).getD j 0).testBit i):=by
  refine ⟨fun j hj=>?_,fun j hj=>?_,fun i j gn hj aY=>?_⟩
  ·exact (h2 j ops[j] (by simp[hj])).a7
  ·exact (h2 j ops[j] (by simp[hj])).dt
  ·have:=Im _ [] h5 j (by simpa using hj) i (by simp;omega) (by simpa using gn) (by simpa using M5 aY);simp only[mem_filter,mem_range];exact ⟨by omega,by simpa using this⟩
 refine wp_region_any hm ?_
 have zd:HeadInv .any ops ops.size (Array.replicate ops.size false) :=
  ⟨by simp,fun j oj _ hl=>(by rw[getD_replicate_false]at hl;cases hl),fun t ht nu=>by omega⟩
 have bh:R c g s.fs a { w with drawn:=w.drawn+1 }:=hR.grow (Fr.drew w _);refine Xru (S:=S) (F:=F) rfl hb hc (fun L' fv j hj=>?_) (fun j o ho=>h2 j o (by simpa using ho)) (fun g' a' w' rT=>⟨g',sn,by rw[h3];exact rT,h4⟩) _ _ g a _ zd ?_ ?_
 ·intro i hi;exact M0 (ops:=ops) (L:=fun k=>L' k=true) fv ops.toList [] (fun i=>by simp) (fun j hj=>by simp at hj) j hj i (mem_filter.1 hi).2
 ·rw[Na _ fun j _=>getD_replicate_false _ _,h1];exact bh
 ·unfold cd;rw[List.filter_eq_self.2 (fun j hj=>by
   have dd:=mem_range.1 hj;rw[getD_in (by simp;omega) (getD_replicate_false _ _)];rfl)]
  simp
end
section
variable {P:Program}{c:Cx}{ops:Array Oper}
def Va {N:Nat}:∀ (os:List Oper) (l:List bB),Zu P N ops os=some l->l.length=os.length
 | [],l,h=>by simp[Zu]at h;subst h;rfl
 | o::os,l,h=>by
  unfold Zu at h;split at h
  ·rename_i x l' hx hl;simp at h;subst h;simp[Va os l' hl]
  ·cases h
def Ni {N:Nat}:∀ (os DX:List Oper) (l l':List bB),Zu P N ops os=some l->Zu P N ops DX=some l'->Zu P N ops (os++DX)=some (l++l')
 | [],DX,l,l',h,h'=>by simp[Zu]at h;subst h;simpa using h'
 | o::os,DX,l,l',h,h'=>by
  unfold Zu at h;split at h
  ·rename_i x l2 hx hl;simp at h;subst h;have:=Ni os DX l2 l' hl h';simp only[cons_append];unfold Zu;rw[hx,this]
  ·cases h
def ze {N:Nat}:∀ (k:Nat) (os:List Oper) (l:List bB),Zu P N ops os=some l->Zu P N ops (os.take k)=some (l.take k)/\Zu P N ops (os.drop k)=some (l.drop k)
 | 0,os,l,h=>⟨by simp[Zu],by simpa using h⟩
 | k+1,[],l,h=>by simp[Zu]at h;subst h;simp[Zu]
 | k+1,o::os,l,h=>by
  unfold Zu at h;split at h
  ·rename_i x l2 hx hl;simp at h;subst h;obtain ⟨h1,h2⟩:=ze k os l2 hl;simp only[List.take_succ_cons,List.drop_succ_cons];refine ⟨?_,h2⟩;unfold Zu;rw[hx,h1]
  ·cases h
def Vb {DY DZ:List Nat}{K:St->Prop}{D2 D4:List Oper}{l1 l2:List bB}(e1:Zu P c.N ops D2=some l1)(e2:Zu P c.N ops D4=some l2):∀ (pre:List Oper) (lp:List bB) (fs:List bc) (s:St),lp.all DW=true->Zu P c.N ops pre=some lp->XD P c DY (lp++l1) fs K s->XD P c DZ (lp++l2) fs K s ->
  ∃ (S1:Nat→FS) (F1:Nat→bc) (wW:St) (S2:Nat→FS) (F2:Nat→bc) (wX:St),(S1 0=s.fs∧(∀ j o,(pre++D2)[j]?=some o→kL P c ops o (S1 j) (F1 j) (S1 (j + 1)))∧wW.fs=S1 (pre++D2).length∧K wW∧Wp DY [] (fs.reverse++(List.range (pre++D2).length).map F1)=true) ∧
   (S2 0=s.fs/\(∀ j o,(pre++D4)[j]?=some o->kL P c ops o (S2 j) (F2 j) (S2 (j+1)))/\wX.fs=S2 (pre++D4).length/\K wX/\Wp DZ [] (fs.reverse++(List.range (pre++D4).length).map F2)=true) /\
   (∀ p,p<=pre.length->S1 p=S2 p)/\∀ p,p<pre.length->F1 p=F2 p
 | [],lp,fs,s,_,he,h1,h2=>by
  simp[Zu]at he;subst he;obtain ⟨S1,F1,wW,a1,a2,a3,a4,a5⟩:=Io D2 l1 fs s e1 h1;obtain ⟨S2,F2,wX,b1,b2,b3,b4,b5⟩:=Io D4 l2 fs s e2 h2;refine ⟨S1,F1,wW,S2,F2,wX,⟨a1,a2,a3,a4,a5⟩,⟨b1,b2,b3,b4,b5⟩,fun p hp=>?_,fun p hp=>by simp at hp⟩;have:p=0:=by simpa using hp
  subst this;rw[a1,b1]
 | o::pre,lp,fs,s,hq,he,h1,h2=>by
  unfold Zu at he;split at he
  ·rename_i x l' hx hl;simp at he;subst he;simp only[List.all_cons,Bool.and_eq_true]at hq;cases x<;>simp only[DW,Bool.false_eq_true,false_and]at hq
   rename_i d q xs gd;obtain ⟨qo,h1⟩:=h1;obtain ⟨_,h2⟩:=h2;obtain ⟨S1,F1,wW,S2,F2,wX,⟨a1,a2,a3,a4,a5⟩,⟨b1,b2,b3,b4,b5⟩,c1,c2⟩:=Vb e1 e2 pre l' _ _ hq.2 hl h1 h2;have hA:=(MY (P:=P) (c:=c) qo) ops o hx;refine ⟨fun j=>match j with|0=>s.fs|j+1=>S1 j,fun j=>match j with|0=>qY c.gl s.fs q d xs gd|j+1=>F1 j,wW,fun j=>match j with|0=>s.fs|j+1=>S2 j,fun j=>match j with|0=>qY c.gl s.fs q d xs gd|j+1=>F2 j,wX,⟨rfl,fun j o' ho=>?_,a3,a4,?_⟩,⟨rfl,fun j o' ho=>?_,b3,b4,?_⟩,fun p hp=>?_,fun p hp=>?_⟩
   ·cases j with
    | zero=>simp at ho;subst ho;simpa [a1] using hA
    | succ j=>exact a2 j o' (by simpa using ho)
   ·rw[cons_append,length_cons,List.range_succ_eq_map];simp only[map_cons,map_map];simp only[List.reverse_cons,List.append_assoc,List.singleton_append]at a5;exact a5
   ·cases j with
    | zero=>simp at ho;subst ho;simpa [b1] using hA
    | succ j=>exact b2 j o' (by simpa using ho)
   ·rw[cons_append,length_cons,List.range_succ_eq_map];simp only[map_cons,map_map];simp only[List.reverse_cons,List.append_assoc,List.singleton_append]at b5;exact b5
   ·cases p with
    | zero=>rfl
    | succ p=>exact c1 p (by simpa using hp)
   ·cases p with
    | zero=>rfl
    | succ p=>exact c2 p (by simpa using hp)
  ·cases he
variable {n:Nat}{S:Nat->FS}{F:Nat->bc}{A:Nat->List Nat}
def Nj {L L':Nat->Bool}{p:Nat}{o:Oper}(hc:Ch n S F A)(hp:p<n)(zf:L p=false)(eA:∀ q ∈ A p,q<p->L q=true)(aY:∀ m,m<n->L m=true->∀ q ∈ A m,L q=true)(dd:L' p=true)(ho:∀ i,i≠p->L' i=L i)(hA:kL P c ops o (S p) (F p) (S (p+1)))
  {g:Nat->GM} {a:Act} {w:World} (hR:R c g (SL L S F n) a w) {K:Act->World->Prop} {Q:Exit->Act->World->Prop} (hK:∀ g' a' w',R c g' (SL L' S F n) a' w'->K a' w'):Uo P ops o a w K Q:=by
 refine hA.step _ (fun t ht=>?_) (fun t ht=>?_) g a w hR K Q fun g' a' w' bh=>hK g' a' w' ?_
 ·rw[M6 hc hp zf eA aY ht n (Nat.le_refl _),Nat.min_eq_right (Nat.le_of_lt hp)]
 ·rw[M7 hc hp zf eA aY ht n (Nat.le_refl _),Nat.min_eq_right (Nat.le_of_lt hp)]
 ·have:=M8 (L:=L) hc zf aY (L':=L') dd ho n (Nat.le_refl _);rw[aa af]at this;rw[this];exact bh
def Vc {Q:Exit->Act->World->Prop}{σ:Nat->Nat}{q0:Nat}(hσ:∀ p,σ (σ p)=p)(hσn:∀ p,p<n->σ p<n)(hn:n=ops.size)(jt:DU ops=true)(hc:Ch n S F A)
  (eA:∀ L':Nat->Bool,(∀ (j:Nat) o,ops[j]?=some o->L' j=true->∀ e ∈ lJ o,L' e=true)->L' q0=true->∀ p,p<n->L' (σ p)=true->∀ i ∈ A p,L' (σ i)=true)
  (hA:∀ p o,ops[σ p]?=some o->kL P c ops o (S p) (F p) (S (p+1))) (gj:∀ g a w,R c g (S n) a w->Q .normal a w) :
  ∀ (f:Nat) (listed:Array Bool) (g:Nat->GM) (a:Act) (w:World),HeadInv .any ops n listed->listed.getD q0 false=true->R c g (SL (fun p=>listed.getD (σ p) false) S F n) a w->cd listed n=f->wpAny P .any ops Q f listed a w:=by
 intro f
 induction f with
 | zero =>
  intro listed g a w inv BT hR hf;have bl:∀ j,j<n->listed.getD j true=true:=by
   rcases BP (listed:=listed) n with h|⟨i,hi,hu,_⟩
   ·exact h
   ·have:=zb hu n hi;omega
  refine ⟨?_,gj g a w ?_⟩
  ·rw[List.eq_nil_iff_forall_not_mem];intro j hj;obtain ⟨h1,o,h2,_⟩:=mem_ready.1 hj;have:j < n:=by rw[hn];exact (Array.getElem?_eq_some_iff.1 h2).1
   rw[bl j this]at h1;cases h1
  ·rw[M9 hc (fun j hj=>?_) n (Nat.le_refl _)]at hR
   ·exact hR
   ·have:=bl (σ j) (hσn j hj);have cE:σ j < listed.size:=by rw[inv.size,← hn];exact hσn j hj
    simpa [cE] using this
 | succ f ih =>
  intro listed g a w inv BT hR hf;rcases BP (listed:=listed) n with h|⟨i,hi,hu,hl⟩
  ·have:=Nb h;omega
  ·have n9:i < ops.size:=by omega
   have ml:i ∈ Region.ready .any ops listed:=mem_ready.2 ⟨hu,ops[i],Array.getElem?_eq_getElem n9,fun e he hb=>by
    have h1:=all_eq_true.1 jt i (mem_range.2 n9);rw[Array.getElem?_eq_getElem n9]at h1;have hlt:e.on<i:=by simpa using all_eq_true.1 h1 e.on (Nc he hb)
    have:=hl e.on hlt;have cE:e.on<listed.size:=by rw[inv.size];omega
    simpa [cE] using this⟩
   refine ⟨fun h0=>(by rw[h0]at ml;cases ml),fun j hj=>?_⟩;obtain ⟨mo,o,j4,bl⟩:=mem_ready.1 hj;have iu:j<n:=by rw[hn];exact (Array.getElem?_eq_some_iff.1 j4).1
   have wU:=zb mo n iu;have j3:listed.getD j false=false:=getD_both mo;have cE:j<listed.size:=by rw[inv.size];omega
   have fI:∀ (j:Nat) o,ops[j]?=some o->listed.getD j false=true->∀ e ∈ lJ o,listed.getD e false=true:=fun j o ho hL e he=>by
    obtain ⟨x,h1,h2,rfl⟩:=BQ he;exact inv.closed j o ho hL x h1 h2
   have aY:=eA (fun j=>listed.getD j false) fI BT;have Vd:j≠q0:=fun e=>by rw[e,BT]at j3;cases j3
   have h1:=inv.set hj iu;have Iq:σ (σ j)=j:=hσ j;have gL:∀ i ∈ A (σ j),i<σ j->listed.getD (σ i) false=true:=by
    intro i hi gn;have fv:=eA (fun k=>(listed.setIfInBounds j true).getD k false) (fun k o' pf hL e he=>by
     obtain ⟨x,h3,h4,rfl⟩:=BQ he;exact h1.closed k o' pf hL x h3 h4) (by rw[getD_set_ne false Vd];exact BT) (σ j) (hσn j iu) (by
      rw[Iq];simp[cE]) i hi
    rw[getD_set_ne false (fun e=>by rw[e,hσ]at gn;omega)]at fv;exact fv
   have dX:=Nj (P:=P) (c:=c) (ops:=ops) (L:=fun p=>listed.getD (σ p) false) (L':=fun p=>(listed.setIfInBounds j true).getD (σ p) false) (p:=σ j) (o:=o) hc (hσn j iu) (by rw[Iq];exact j3) gL (fun m hm=>aY m hm) (by rw[Iq];simp[cE])
    (fun i hi=>getD_set_ne false (fun e=>hi (by rw[e,hσ]))) (hA (σ j) o (by rw[Iq];exact j4)) hR (K:=wpAny P .any ops Q f (listed.setIfInBounds j true)) (Q:=Q) fun g' a' w' bh =>
     ih _ g' a' w' (inv.set hj iu) (by rw[getD_set_ne false Vd];exact BT) bh af
   unfold wpOp;rw[j4];unfold Uo at dX;show if Region.wanted o (yielded ops a.tmps)=true then _ else _;split
   ·rename_i hw;rw[am hw]at dX;exact .inl dX
   ·rename_i hw;rw[aa hw]at dX;exact dX
def Ve {S1 S2:Nat->FS}{F1 F2:Nat->bc}{k:Nat}{L1 L2:Nat->Bool}(hS:∀ p,p<=k->S1 p=S2 p)(hF:∀ p,p<k->F1 p=F2 p)(hL:∀ p,p<k->L1 p=L2 p)(h1:∀ p,k<=p->L1 p=false)(h2:∀ p,k<=p->L2 p=false):∀ m,SL L1 S1 F1 m=SL L2 S2 F2 m
 | 0=>hS 0 (Nat.zero_le _)
 | m+1=>by
  have e1:SL L1 S1 F1 (m+1)=if L1 m then dB (SL L1 S1 F1 m) (S1 (m+1)) (F1 m) else SL L1 S1 F1 m:=rfl;have e2:SL L2 S2 F2 (m+1)=if L2 m then dB (SL L2 S2 F2 m) (S2 (m+1)) (F2 m) else SL L2 S2 F2 m:=rfl;rw[e1,e2,Ve hS hF hL h1 h2 m];by_cases hm:m<k
  ·rw[hL m hm,hS (m+1) hm,hF m hm]
  ·rw[h1 m af,h2 m af];simp
end
section
variable {P:Program}{c:Cx}
def Xls {ops:Array Oper}{id k:Nat}{l:List bB}{a1 a2:List Nat}{Q:EX->St->Prop}{s:St}(hm:P.follows .mixedOrders=true)(hb:DU ops=true)(he:Zu P c.N ops ops.toList=some l)(b6:(l.take k).all DW=true)(aS:Ng (qc ops.toList []) a1 a2 k l.length=true)
  (h1:XD P c a1 l [] (Q .normal) s) (h2:XD P c a2 (wV k l) [] (Q .normal) s):AW P c (.region id ops true) Q s:=by
 intro g a w hR;have kN:=Va _ _ he;unfold Ng at aS;simp only[Bool.and_eq_true,decide_eq_true_eq,all_eq_true,mem_range]at aS;obtain ⟨lK,aS⟩:=aS;have hn:ops.toList.length=ops.size:=by simp
 have BU:ops.size=k+5:=by omega
 obtain ⟨t1,t2⟩:=ze k _ _ he
 have Nk:Zu P c.N ops ((ops.toList.drop (k + 2)).take 2++((ops.toList.drop k).take 2++ops.toList.drop (k + 4)))=some ((l.drop (k + 2)).take 2++((l.drop k).take 2++l.drop (k + 4))) :=
  Ni _ _ _ _ (ze 2 _ _ (ze (k+2) _ l he).2).1 (Ni _ _ _ _ (ze 2 _ _ (ze k _ l he).2).1 (ze (k+4) _ l he).2)
 obtain ⟨S1,F1,wW,S2,F2,wX,⟨x1,x2,x3,x4,x5⟩,⟨y1,y2,y3,y4,y5⟩,z1,z2⟩:=Vb t2 Nk (ops.toList.take k) (l.take k) [] s b6 t1 (by rw[List.take_append_drop];exact h1) h2;rw[List.take_append_drop]at x2 x3 x5;have hro:ops.toList.take k++((ops.toList.drop (k+2)).take 2++((ops.toList.drop k).take 2++ops.toList.drop (k+4)))=wV k ops.toList:=rfl;rw[hro]at y2 y3 y5;have BV:(wV k ops.toList).length=ops.size:=by rw[Xxc af];omega
 rw[BV]at y3 y5;rw[hn]at x3 x5;simp only[List.reverse_nil,nil_append]at x5 y5;have fO:(ops.toList.take k).length=k:=by rw[length_take];omega
 rw[fO]at z1 z2;have tN:∀ p o,ops[p]?=some o->kL P c ops o (S1 p) (F1 p) (S1 (p+1)):=fun p o ho=>x2 p o (by simpa using ho);have nv:∀ p o,ops[Za k p]?=some o->kL P c ops o (S2 p) (F2 p) (S2 (p+1)):=fun p o ho=>y2 p o (by rw[Xyn af];simpa using ho);have get:∀ p,p<ops.size->∃ o,ops[p]?=some o:=fun p hp=>⟨ops[p],Array.getElem?_eq_getElem hp⟩
 have iD:Ch ops.size S1 F1 (fun j=>(List.range ops.size).filter fun i=>(a1.getD j 0).testBit i):=by
  refine ⟨fun j hj=>?_,fun j hj=>?_,fun i j gn hj aY=>?_⟩
  ·obtain ⟨o,ho⟩:=get j hj;exact (tN j o ho).a7
  ·obtain ⟨o,ho⟩:=get j hj;exact (tN j o ho).dt
  ·have:=Im _ [] x5 j (by simpa using hj) i (by simp;omega) (by simpa using gn) (by simpa using M5 aY);simp only[mem_filter,mem_range];exact ⟨by omega,by simpa using this⟩
 have ny:Ch ops.size S2 F2 (fun j=>(List.range ops.size).filter fun i=>(a2.getD j 0).testBit i):=by
  refine ⟨fun j hj=>?_,fun j hj=>?_,fun i j gn hj aY=>?_⟩
  ·obtain ⟨o,ho⟩:=get (Za k j) (Nf hj BU);exact (nv j o ho).a7
  ·obtain ⟨o,ho⟩:=get (Za k j) (Nf hj BU);exact (nv j o ho).dt
  ·have:=Im _ [] y5 j (by simpa using hj) i (by simp;omega) (by simpa using gn) (by simpa using M5 aY);simp only[mem_filter,mem_range];exact ⟨by omega,by simpa using this⟩
 have eA:∀ L':Nat->Bool,(∀ (j:Nat) o,ops[j]?=some o->L' j=true->∀ e ∈ lJ o,L' e=true)->∀ j,L' j=true->∀ i,((qc ops.toList []).getD j 0).testBit i=true->L' i=true:=fun L' aY j hj i hi =>
  M0 (ops:=ops) (L:=fun k=>L' k=true) aY ops.toList [] (fun i=>by simp) (fun j hj=>by simp at hj) j hj i hi
 have zg:∀ p q,p<ops.size->q<ops.size->(a1.getD p 0).testBit q=true->((qc ops.toList []).getD p 0).testBit q=true\/p=k+2/\q=k:=fun p q hp hq h=>by
  have:=(aS p af q af).1.1;rw[h]at this;simpa using this
 have kO:∀ p q,p<ops.size->q<ops.size->(a2.getD p 0).testBit q=true->((qc ops.toList []).getD (Za k p) 0).testBit (Za k q)=true\/Za k p=k/\Za k q=k+2:=fun p q hp hq h=>by
  have:=(aS p af q af).1.2;rw[h]at this;simpa using this
 have Nl:∀ p,p<ops.size->k<p->p≠k+2->((qc ops.toList []).getD p 0).testBit k=true\/((qc ops.toList []).getD p 0).testBit (k+2)=true:=fun p hp hk cf=>by
  have:=(aS p af 0 af).2;simp only[Bool.or_eq_true,decide_eq_true_eq,beq_iff_eq]at this;rcases this with (((h|h)|h)|h)|h
  ·omega
  ·omega
  ·omega
  ·exact .inl h
  ·exact .inr h
 refine wp_region_any hm ?_
 have zd:HeadInv .any ops ops.size (Array.replicate ops.size false) :=
  ⟨by simp,fun j oj _ hl=>(by rw[getD_replicate_false]at hl;cases hl),fun t ht nu=>by omega⟩
 have bh:R c g s.fs a { w with drawn:=w.drawn+1 }:=hR.grow (Fr.drew w _);have D5:=Vc (Q:=vg c Q) (σ:=fun p=>p) (q0:=k) (fun _=>rfl) (fun _ h=>h) rfl hb iD (fun L' aY hq p hp zf i hi=>by
   obtain ⟨n7,nn⟩:=mem_filter.1 hi;rcases zg p i hp (mem_range.1 n7) nn with h|⟨h3,h4⟩
   ·exact eA L' aY p zf i h
   ·rw[h4];exact hq) tN (fun g' a' w' rT=>⟨g',wW,by rw[x3];exact rT,x4⟩)
 have D6:=Vc (Q:=vg c Q) (σ:=Za k) (q0:=k+2) (Nd k) (fun p h=>Nf h BU) rfl hb ny (fun L' aY hq p hp zf i hi=>by
   obtain ⟨n7,nn⟩:=mem_filter.1 hi;rcases kO p i hp (mem_range.1 n7) nn with h|⟨h3,h4⟩
   ·exact eA L' aY _ zf _ h
   ·rw[h4];exact hq) nv (fun g' a' w' rT=>⟨g',wX,by rw[y3];exact rT,y4⟩)
 -- gf fKa gf Ir of the two is behind
 have phase:∀ (f:Nat) (listed:Array Bool) (g:Nat->GM) (a:Act) (w:World),HeadInv .any ops ops.size listed->(∀ p,k<=p->listed.getD p false=false)->R c g (SL (fun p=>listed.getD p false) S1 F1 ops.size) a w->cd listed ops.size=f->wpAny P .any ops (vg c Q) f listed a w:=by
  intro f
  induction f with
  | zero =>
   intro listed g a w inv br hR hf;exfalso;have cE:k<listed.size:=by rw[inv.size];omega
   have hu:listed.getD k true=false:=getD_in cE (br k (Nat.le_refl _));have:=zb hu ops.size af;omega
  | succ f ih =>
   intro listed g a w inv br hR hf;rcases BP (listed:=listed) ops.size with h|⟨i,hi,hu,hl⟩
   ·have:=Nb h;omega
   ·have ml:i ∈ Region.ready .any ops listed:=mem_ready.2 ⟨hu,ops[i],Array.getElem?_eq_getElem hi,fun e lL bL=>by
     have h1:=all_eq_true.1 hb i (mem_range.2 hi);rw[Array.getElem?_eq_getElem hi]at h1;have hlt:e.on<i:=by simpa using all_eq_true.1 h1 e.on (Nc lL bL)
     have:=hl e.on hlt;have cE:e.on<listed.size:=by rw[inv.size];omega
     simpa [cE] using this⟩
    refine ⟨fun h0=>(by rw[h0]at ml;cases ml),fun j hj=>?_⟩;obtain ⟨mo,o,j4,bl⟩:=mem_ready.1 hj;have iu:j<ops.size:=(Array.getElem?_eq_some_iff.1 j4).1;have wU:=zb mo ops.size iu;have j3:listed.getD j false=false:=getD_both mo;have cE:j<listed.size:=by rw[inv.size];omega
    have h1:=inv.set hj iu;have fI:∀ (j:Nat) o,ops[j]?=some o->listed.getD j false=true->∀ e ∈ lJ o,listed.getD e false=true:=fun j o ho hL e he=>by
     obtain ⟨x,h1,h2,rfl⟩:=BQ he;exact inv.closed j o ho hL x h1 h2
    have rU:∀ (k:Nat) o',ops[k]?=some o'->(listed.setIfInBounds j true).getD k false=true->∀ e ∈ lJ o',(listed.setIfInBounds j true).getD e false=true:=fun k o' pf hL e he=>by
     obtain ⟨x,h3,h4,rfl⟩:=BQ he;exact h1.closed k o' pf hL x h3 h4
    have cr:(listed.setIfInBounds j true).getD j false=true:=by simp[cE]
    have gL:∀ i,((qc ops.toList []).getD j 0).testBit i=true->i≠j->listed.getD i false=true:=fun i hi gn=>by
     have:=eA (fun k=>(listed.setIfInBounds j true).getD k false) rU j cr i hi;rw[getD_set_ne false (fun e=>gn e.symm)]at this;exact this
    have iL:∀ m,m<ops.size->listed.getD m false=true->∀ q ∈ (List.range ops.size).filter (fun i=>(a1.getD m 0).testBit i),listed.getD q false=true:=fun m hm za q hq=>by
     obtain ⟨n7,nn⟩:=mem_filter.1 hq;rcases zg m q hm (mem_range.1 n7) nn with h|⟨h3,h4⟩
     ·exact eA (fun k=>listed.getD k false) fI m za q h
     ·rw[br m af]at za;cases za
    have dX:Uo P ops o a w (wpAny P .any ops (vg c Q) f (listed.setIfInBounds j true)) (vg c Q):=by
     by_cases eJ:j=k+2
     ·-- the entry first
      subst eJ;have hσk:Za k (k+2)=k:=by unfold Za;(repeat' split)<;>omega
      have D7:SL (fun p=>listed.getD p false) S1 F1 ops.size=SL (fun p=>listed.getD (Za k p) false) S2 F2 ops.size :=
       Ve z1 z2 (fun p hp=>by show listed.getD p false=listed.getD (Za k p) false;rw[Xyp hp]) br (fun p hp=>by
        show listed.getD (Za k p) false=false;exact br _ (by unfold Za;(repeat' split)<;>omega)) ops.size
      rw[D7]at hR
      refine Nj (P:=P) (c:=c) (ops:=ops) (L:=fun p=>listed.getD (Za k p) false) (L':=fun p=>(listed.setIfInBounds (k + 2) true).getD (Za k p) false) (p:=k) (o:=o) ny (by omega) (br _ (by unfold Za;(repeat' split)<;>omega)) (fun q hq hlt=>?_) (fun m hm za q hq=>?_)
       (by show (listed.setIfInBounds (k+2) true).getD (Za k k) false=true;rw[show Za k k=k+2 by unfold Za;rw[am rfl]];exact cr) (fun i hi=>getD_set_ne false (fun e=>hi (by have:=congrArg (Za k) e;rw[Nd,hσk]at this;exact this.symm))) (nv k o (by rw[show Za k k=k+2 by unfold Za;rw[am rfl]];exact j4)) hR fun g' a' w' bh=>?_
      ·obtain ⟨n7,nn⟩:=mem_filter.1 hq;rcases kO k q af (mem_range.1 n7) nn with h|⟨h3,h4⟩
       ·rw[show Za k k=k+2 by unfold Za;rw[am rfl]]at h;exact gL _ h (fun e=>by have:=congrArg (Za k) e;rw[Nd,hσk]at this;omega)
       ·rw[show Za k k=k+2 by unfold Za;rw[am rfl]]at h3;omega
      ·have zj:listed.getD (Za k m) false=true:=za;have BW:Za k m<k:=by
        rcases Nat.lt_or_ge (Za k m) k with h|h
        ·exact h
        ·rw[br _ h]at zj;cases zj
       obtain ⟨n7,nn⟩:=mem_filter.1 hq;rcases kO m q hm (mem_range.1 n7) nn with h|⟨h3,h4⟩
       ·exact eA (fun k=>listed.getD k false) fI _ zj _ h
       ·omega
      ·exact D6 f _ g' a' w' h1 cr bh af
     ·have D8:∀ {K:Act->World->Prop} {Q':Exit->Act->World->Prop},j<=k->(∀ g' a' w',R c g' (SL (fun p=>(listed.setIfInBounds j true).getD p false) S1 F1 ops.size) a' w'->K a' w')->Uo P ops o a w K Q':=fun {K Q'} tO hK =>
       Nj (P:=P) (c:=c) (ops:=ops) (L:=fun p=>listed.getD p false) (L':=fun p=>(listed.setIfInBounds j true).getD p false) (p:=j) (o:=o) iD iu j3 (fun q hq hlt=>by
        obtain ⟨n7,nn⟩:=mem_filter.1 hq;rcases zg j q iu (mem_range.1 n7) nn with h|⟨h3,h4⟩
        ·exact gL q h af
        ·exact (eJ h3).elim) iL cr (fun i hi=>getD_set_ne false (fun e=>hi e.symm)) (tN j o j4) hR hK
      rcases Nat.lt_trichotomy j k with tO|tO|tO
      ·refine D8 af fun g' a' w' bh=>ih _ g' a' w' h1 (fun p hp=>?_) bh af;rw[getD_set_ne false af];exact br p hp
      ·subst tO;exact D8 (Nat.le_refl _) fun g' a' w' bh=>D5 f _ g' a' w' h1 cr bh af
      ·exfalso;rcases Nl j iu tO eJ with h|h
       ·have:=gL k h af;rw[br k (Nat.le_refl _)]at this;cases this
       ·have:=gL (k+2) h (fun e=>eJ e.symm);rw[br (k+2) af]at this;cases this
    unfold wpOp;rw[j4];unfold Uo at dX;show if Region.wanted o (yielded ops a.tmps)=true then _ else _;split
    ·rename_i hw;rw[am hw]at dX;exact .inl dX
    ·rename_i hw;rw[aa hw]at dX;exact dX
 refine phase _ _ g a _ zd (fun p _=>getD_replicate_false _ _) ?_ ?_
 ·rw[Na _ fun j _=>getD_replicate_false _ _,x1];exact bh
 ·unfold cd;rw[List.filter_eq_self.2 (fun j hj=>by
   have dd:=mem_range.1 hj;rw[getD_in (by simp;omega) (getD_replicate_false _ _)];rfl)]
  simp
end
section
variable {P:Program}{c:Cx}
def zn (hm:P.follows .mixedOrders=true):∀ (code:Code) (t:TC) (Q:EX->St->Prop) (s:St),Js P c.N code=some t->xw P c t Q s->AW P c code Q s:=by
 intro code
 induction code with
 | skip =>
  intro t Q s he h g a w hR;simp[Js]at he;subst he;exact wp_skip ⟨g,s,hR,h⟩
 | region id ops d =>
  intro t Q s he h;cases d with
  | false =>
   simp only[Js,Option.map_eq_some_iff]at he;obtain ⟨l,hl,rfl⟩:=he;intro g a w hR;exact wp_region_list (MZ (K:=Q .normal) (fun s g a w hs hR=>⟨g,s,hR,hs⟩) ops.toList l s hl h g a w hR)
  | true =>
   simp only[Js]at he;split at he
   ·rename_i hb;simp only[Option.map_eq_some_iff]at he;obtain ⟨l,hl,rfl⟩:=he;unfold U7 at h;split at h
    ·split at h
     ·rename_i hk;exact Xls hm hb hl hk.1 hk.2 h.1 h.2
     ·exact U9 hm hb hl h
    ·exact U9 hm hb hl h
   ·cases he
 | seq x y ihx ihy =>
  intro t Q s he h g a w hR;simp only[Js]at he;split at he
  ·rename_i tx ty hx hy;simp at he;subst he;refine wp_seq (wp_mono (ihx tx _ s hx h g a w hR) fun e a' w' hq=>?_);cases e with
   | normal =>
    obtain ⟨g',s',bh,db⟩:=hq;exact ihy ty Q s' hy db g' a' w' bh
   | exit i=>exact hq
   | ret=>exact hq
   | goto l=>exact hq
   | panic ch=>exact hq
   | outgrown=>exact hq
  ·cases he
 | cond x a b Vf Vg =>
  intro t Q s he h g act w hR;simp only[Js]at he;split at he
  ·rename_i ta tb ha hb;simp at he;subst he;obtain ⟨h1,h2,h3⟩:=h;have hv:=(hR.ev x).d6 h1;refine wp_cond_split hv (fun ht=>?_) fun hf=>?_
   ·exact Vf ta Q s ha (h2 ht) g act w hR
   ·exact Vg tb Q s hb (h3 hf) g act w hR
  ·cases he
 | block i b ih =>
  intro t Q s he h g a w hR;simp only[Js,Option.map_eq_some_iff]at he;obtain ⟨tb,hb,rfl⟩:=he;refine wp_block (wp_mono (ih tb _ s hb h g a w hR) fun e a' w' hq=>?_);cases e with
  | exit j =>
   obtain ⟨g',s',bh,db⟩:=hq;simp only[BS]at db;simp only[Exit.inBlock];split
   ·rename_i e;rw[am e]at db;exact ⟨g',s',bh,db⟩
   ·rename_i e;rw[aa e]at db;exact ⟨g',s',bh,db⟩
  | normal=>exact hq
  | ret=>exact hq
  | goto l=>exact hq
  | panic ch=>exact hq
  | outgrown=>exact hq
 | loop b ih =>
  intro t Q s he h;simp only[Js,Option.map_eq_some_iff]at he;obtain ⟨tb,hb,rfl⟩:=he;exact h b hb
 | exit i =>
  intro t Q s he h g a w hR;simp[Js]at he;subst he;exact wp_exit ⟨g,s,hR,h⟩
 | ret =>
  intro t Q s he h g a w hR;simp[Js]at he;subst he;exact wp_ret ⟨g,s,hR,h⟩
 | rangeFunc f ps a b Vf Vg=>intro t Q s he;simp[Js]at he
 | scope b ih=>intro t Q s he;simp[Js]at he
 | label l=>intro t Q s he;simp[Js]at he
 | goto l=>intro t Q s he;simp[Js]at he
 | refuse why=>intro t Q s he;simp[Js]at he
end
mutual
def Qe (n:Nat):AV->Prop
 | .dV _ v=>Qe n v
 | .agg cs=>ah n cs
 | .aR cs=>ah n cs
 | .xp cs _=>ah n cs
 | .isl _ cs=>ah n cs
 | .cl _ cs=>ah n cs
 | .ptr b _=>b<n
 | .sl _ b _ _ _=>b<n
 | .mp b=>b<n
 | _=>True
def ah (n:Nat):List AV->Prop
 | []=>True
 | x::xs=>Qe n x/\ah n xs
end
mutual
def aB (ρ:Nat->Nat):AV->AV
 | .dV b v=>.dV b (aB ρ v)
 | .agg cs=>.agg (ay ρ cs)
 | .aR cs=>.aR (ay ρ cs)
 | .xp cs o=>.xp (ay ρ cs) o
 | .isl n cs=>.isl n (ay ρ cs)
 | .cl f cs=>.cl f (ay ρ cs)
 | .ptr b o=>.ptr (ρ b) o
 | .sl es b o n c=>.sl es (ρ b) o n c
 | .mp b=>.mp (ρ b)
 | .any=>.any
 | .int k n=>.int k n
 | .bool b=>.bool b
 | .str l=>.str l
 | .nils=>.nils
 | .lit v=>.lit v
def ay (ρ:Nat->Nat):List AV->List AV
 | []=>[]
 | x::xs=>aB ρ x::ay ρ xs
end
def Xw {n:Nat}:∀ {cs:List AV},ah n cs ↔ ∀ x ∈ cs,Qe n x
 | []=>by simp[ah]
 | x::xs=>by simp[ah,Xw (cs:=xs)]
def Zx (ρ:Nat->Nat):∀ cs:List AV,ay ρ cs=cs.map (aB ρ)
 | []=>by simp[ay]
 | x::xs=>by simp[ay,Zx ρ xs]
def Yr (ρ:Nat->Nat)(cs:List AV):(ay ρ cs).length=cs.length:=by rw[Zx];simp
def Ky (ρ:Nat->Nat)(cs:List AV)(j:Nat):(ay ρ cs).getD j .any=aB ρ (cs.getD j .any):=by
 rw[Zx];simp only[List.getD,List.getElem?_map];cases cs[j]?<;>simp[aB]
def Jc {n:Nat}{cs:List AV}(h:ah n cs)(j:Nat):Qe n (cs.getD j .any):=by
 by_cases hj:j<cs.length
 ·rw[DG hj];exact Xw.1 h _ (getElem_mem _)
 ·have:cs.getD j .any=.any:=by simp[List.getD,Nat.le_of_not_lt hj]
  rw[this];simp[Qe]
section
variable {P:Program}{W:Nat->Prop}{w:World}{g g':Nat->GM}{n:Nat}{ρ:Nat->Nat}
def VR.bv (hg:∀ b,b<n->g (ρ b)=g' b){v:AV}  (h:VR g' W w v u):Qe n v->VR g W w (aB ρ v) u:=by
 induction h with
 | any v=>intro _;simp only[aB];exact .any _
 | dV h h0 ih=>intro hn;simp only[aB];simp only[Qe]at hn;exact .dV (fun hb=>ih hb hn) h0
 | int k n=>intro _;simp only[aB];exact .int _ _
 | bool b=>intro _;simp only[aB];exact .bool _
 | str l=>intro _;simp only[aB];exact .str _
 | agg hs h1 h ih =>
  intro hn;simp only[aB];simp only[Qe]at hn;exact .agg (by rw[Yr];exact hs) (fun j hj=>h1 j (by rwa [Yr]at hj)) fun j hj=>by rw[Ky];exact ih j (by rwa [Yr]at hj) (Jc hn j)
 | aR hs h ih =>
  intro hn;simp only[aB];simp only[Qe]at hn;exact .aR (by rw[Yr];exact hs) fun j hj=>by rw[Ky];exact ih j (by rwa [Yr]at hj) (Jc hn j)
 | ptr e=>intro hn;simp only[aB];simp only[Qe]at hn;exact .ptr (by rw[hg _ hn];exact e)
 | xp hc h ih =>
  intro hn;simp only[aB];simp only[Qe]at hn;exact .xp (fun j hj=>hc j (by rwa [Yr]at hj)) fun j hj=>by rw[Ky];exact ih j (by rwa [Yr]at hj) (Jc hn j)
 | sl e a b c d f=>intro hn;simp only[aB];simp only[Qe]at hn;exact .sl (by rw[hg _ hn];exact e) a b c d f
 | kH e hc=>intro hn;simp only[aB];simp only[Qe]at hn;exact .kH (by rw[hg _ hn];exact e) hc
 | isl a b hc h ih =>
  intro hn;simp only[aB];simp only[Qe]at hn;exact .isl a b (fun j hj=>hc j (by rwa [Yr]at hj)) fun j hj=>by rw[Ky];exact ih j (by rwa [Yr]at hj) (Jc hn j)
 | nils a=>intro _;simp only[aB];exact .nils _
 | cl hs h ih =>
  intro hn;simp only[aB];simp only[Qe]at hn;exact .cl (by rw[Yr];exact hs) fun j hj=>by rw[Ky];exact ih j (by rwa [Yr]at hj) (Jc hn j)
 | mp e=>intro hn;simp only[aB];simp only[Qe]at hn;exact .mp (by rw[hg _ hn];exact e)
 | lit v=>intro _;simp only[aB];exact .lit _
def VR.ju (hg:∀ b,b<n->g (ρ b)≠.un->g (ρ b)=g' b){x:AV}  (h:VR g W w x u):∀ v,x=aB ρ v->Qe n v->VR g' W w v u:=by
 induction h with
 | any=>intro v e _;cases v<;>simp[aB]at e;exact .any _
 | dV h h0 ih=>intro v e hn;cases v<;>simp[aB]at e;obtain ⟨rfl,rfl⟩:=e;exact .dV (fun hb=>ih hb _ rfl (by simpa [Qe] using hn)) h0
 | int k n=>intro v e _;cases v<;>simp[aB]at e;obtain ⟨rfl,rfl⟩:=e;exact .int _ _
 | bool b=>intro v e _;cases v<;>simp[aB]at e;subst e;exact .bool _
 | str l=>intro v e _;cases v<;>simp[aB]at e;subst e;exact .str _
 | agg hs h1 h ih =>
  intro v e hn;cases v<;>simp[aB]at e;subst e;simp only[Qe]at hn
  rw[Yr]at hs h1 ih;exact .agg hs h1 fun j hj=>ih j hj _ (Ky _ _ _) (Jc hn j)
 | aR hs h ih =>
  intro v e hn;cases v<;>simp[aB]at e;subst e;simp only[Qe]at hn
  rw[Yr]at hs ih;exact .aR hs fun j hj=>ih j hj _ (Ky _ _ _) (Jc hn j)
 | ptr e0=>intro v e hn;cases v<;>simp[aB]at e;obtain ⟨rfl,rfl⟩:=e;simp only[Qe]at hn;exact .ptr (by rw[<- hg _ hn (by rw[e0];intro x;cases x)];exact e0)
 | xp hc h ih =>
  intro v e hn;cases v<;>simp[aB]at e;obtain ⟨rfl,rfl⟩:=e;simp only[Qe]at hn
  rw[Yr]at hc ih;exact .xp hc fun j hj=>ih j hj _ (Ky _ _ _) (Jc hn j)
 | sl e0 a b c d f=>intro v e hn;cases v<;>simp[aB]at e;obtain ⟨rfl,rfl,rfl,rfl,rfl⟩:=e;simp only[Qe]at hn;exact .sl (by rw[<- hg _ hn (by rw[e0];intro x;cases x)];exact e0) a b c d f
 | kH e0 hc=>intro v e hn;cases v<;>simp[aB]at e;obtain ⟨rfl,rfl,rfl,rfl,rfl⟩:=e;simp only[Qe]at hn;exact .kH (by rw[<- hg _ hn (by rw[e0];intro x;cases x)];exact e0) hc
 | isl a b hc h ih =>
  intro v e hn;cases v<;>simp[aB]at e;obtain ⟨rfl,rfl⟩:=e;simp only[Qe]at hn
  rw[Yr]at hc ih;exact .isl a b hc fun j hj=>ih j hj _ (Ky _ _ _) (Jc hn j)
 | nils a=>intro v e _;cases v<;>simp[aB]at e;exact .nils _
 | cl hs h ih =>
  intro v e hn;cases v<;>simp[aB]at e;obtain ⟨rfl,rfl⟩:=e;simp only[Qe]at hn
  rw[Yr]at hs ih;exact .cl hs fun j hj=>ih j hj _ (Ky _ _ _) (Jc hn j)
 | mp e0=>intro v e hn;cases v<;>simp[aB]at e;subst e;simp only[Qe]at hn;exact .mp (by rw[<- hg _ hn (by rw[e0];intro x;cases x)];exact e0)
 | lit=>intro v e _;cases v<;>simp[aB]at e;subst e;exact .lit _
def tP (ρ:Nat->Nat)(h:∀ b,ρ b=b):∀ v:AV,aB ρ v=v:=by
 have:ρ=id:=funext h;subst this;intro v
 exact AV.rec (motive_1:=fun v=>aB id v=v) (motive_2:=fun l=>ay id l=l) (by simp[aB]) (fun b v h=>by simp[aB,h]) (fun _ _=>by simp[aB]) (fun _=>by simp[aB]) (fun _=>by simp[aB])
  (fun cs h=>by simp[aB,h]) (fun cs h=>by simp[aB,h]) (fun _ _=>by simp[aB]) (fun cs _ h=>by simp[aB,h]) (fun _ _ _ _ _=>by simp[aB]) (fun _ cs h=>by simp[aB,h]) (by simp[aB])
  (fun _ cs h=>by simp[aB,h]) (fun _=>by simp[aB]) (fun _=>by simp[aB]) (by simp[ay]) (fun x xs h1 h2=>by simp[ay,h1,h2]) v
def VR.nm {v:AV}  (h:VR g W w v u)(hn:Qe n v)(hg:∀ b,b<n->g b=g' b):VR g' W w v u :=
 h.ju (ρ:=id) (n:=n) (g':=g') (fun b hb _=>hg b hb) v (tP _ (fun _=>rfl) v).symm hn
end
def rl:List (Nat×Nat)->Nat->Nat
 | [],b=>b
 | (i,j)::r,b=>bif i==b then j else rl r b
def Qw (ρ:Nat->Nat):Bk->Bk
 | .cells cs=>.cells (ay ρ cs)
 | .az kvs dn=>.az (kvs.map fun p=>(aB ρ p.1,aB ρ p.2)) dn
 | .bp kvs bs ck=>.bp (kvs.map fun p=>(aB ρ p.1,aB ρ p.2)) bs ck
 | .iter b ck seen=>.iter (ρ b) ck seen
 | .dM ls=>.dM ls
 | x=>x
def bX (n:Nat):Bk->Prop
 | .cells cs=>ah n cs
 | .az kvs _=>∀ p ∈ kvs,Qe n p.1/\Qe n p.2
 | .bp kvs _ _=>∀ p ∈ kvs,Qe n p.1/\Qe n p.2
 | .iter b _ _=>b<n
 | .dM ls=>∀ l ∈ ls,ah 0 l
 | _=>False
def Qs (ρ:Nat->Nat)(n:Nat)(st:List (Nat×AV)):List (Nat×AV)->Prop
 | []=>True
 | (i,v)::r=>(Qe n v/\look st i=aB ρ v)/\Qs ρ n st r
def vh (ρ:Nat->Nat)(b:Nat):List (Nat×Bk)->Prop
 | []=>True
 | (b',_)::r=>ρ b'≠ρ b/\vh ρ b r
def qd (ρ:Nat->Nat)(n:Nat)(s:St):List (Nat×Bk)->Prop
 | []=>True
 | (b,x)::r=>(b<n/\bX n x/\Qb s.h s.n (ρ b)=Qw ρ x/\vh ρ b r)/\qd ρ n s r
def Sub (ρ:Nat->Nat)(s s':St):Prop:=Qs ρ s'.n s.t s'.t/\qd ρ s'.n s s'.h
def Vh:∀ (l:List (Nat×AV)) (i:Nat),look l i=.any\/∃ p ∈ l,p.1=i/\look l i=p.2
 | [],_=>.inl rfl
 | (j,v)::l,i=>by
   rw[Jn];by_cases h:j=i
   ·rw[am h];exact .inr ⟨(j,v),by simp,h,rfl⟩
   ·rw[aa h];rcases Vh l i with h'|⟨p,h1,h2,h3⟩
    ·exact .inl h'
    ·exact .inr ⟨p,by simp[h1],h2,h3⟩
def Jk:∀ (l:List (Nat×Bk)) (n i:Nat),(Qb l n i=if i<n then .dead else .free)\/∃ p ∈ l,p.1=i/\Qb l n i=p.2
 | [],n,i=>by
  exact .inl rfl
 | (j,v)::l,n,i=>by
   rw[Qf];by_cases h:j=i
   ·rw[am h];exact .inr ⟨(j,v),by simp,h,rfl⟩
   ·rw[aa h];rcases Jk l n i with h'|⟨p,h1,h2,h3⟩
    ·exact .inl h'
    ·exact .inr ⟨p,by simp[h1],h2,h3⟩
def Vi {ρ:Nat->Nat}{n:Nat}{st:List (Nat×AV)}:∀ {l:List (Nat×AV)},Qs ρ n st l->∀ p ∈ l,Qe n p.2/\look st p.1=aB ρ p.2
 | [],_,p,hp=>by cases hp
 | (i,v)::r,h,p,hp=>by
   rcases mem_cons.1 hp with rfl|hp
   ·exact h.1
   ·exact Vi h.2 p hp
def Nn {ρ:Nat->Nat}{b:Nat}:∀ {l:List (Nat×Bk)},vh ρ b l->∀ p ∈ l,ρ p.1≠ρ b
 | [],_,p,hp=>by cases hp
 | (i,v)::r,h,p,hp=>by
   rcases mem_cons.1 hp with rfl|hp
   ·exact h.1
   ·exact Nn h.2 p hp
def No {ρ:Nat->Nat}{n:Nat}{s:St}:∀ {l:List (Nat×Bk)},qd ρ n s l->∀ p ∈ l,p.1<n/\bX n p.2/\Qb s.h s.n (ρ p.1)=Qw ρ p.2
 | [],_,p,hp=>by cases hp
 | (i,v)::r,h,p,hp=>by
   rcases mem_cons.1 hp with rfl|hp
   ·exact ⟨h.1.1,h.1.2.1,h.1.2.2.1⟩
   ·exact No h.2 p hp
def Vj {ρ:Nat->Nat}{n:Nat}{s:St}:∀ {l:List (Nat×Bk)},qd ρ n s l->∀ p ∈ l,∀ q ∈ l,ρ p.1=ρ q.1->p.1=q.1
 | [],_,p,hp=>by cases hp
 | (i,v)::r,h,p,hp=>by
   intro q hq e;rcases mem_cons.1 hp with rfl|hp<;>rcases mem_cons.1 hq with rfl|hq
   ·rfl
   ·exact absurd e.symm (Nn h.1.2.2.2 q hq)
   ·exact absurd e (Nn h.1.2.2.2 p hp)
   ·exact Vj h.2 p hp q hq e
def Ycn {ls DE:List (List AV)}(hp:DE.Perm ls)(hn:∀ l ∈ ls,ah 0 l):ah 0 DE.flatten:=Xw.2 fun x hx=>by
 obtain ⟨l,hl,hx⟩:=List.mem_flatten.1 hx;exact Xw.1 (hn l (hp.mem_iff.1 hl)) x hx
def BR.kQ {g g':Nat->GM}{W W':Nat->Prop}  {m:GM}{ls:List (List AV)}(h:BR g W w m (.dM ls))(hn:∀ l ∈ ls,ah 0 l)(hW:∀ k,W' k->W k):BR g' W' w m (.dM ls):=by
 cases h with
 | dM hp h =>
  refine .dM hp ?_;have hf:=Ycn hp hn;generalize List.flatten _=cs at h hf;cases h with
  | ph=>exact .ph
  | cells hb hl h1 hv hz=>exact .cells hb hl h1 (fun j hj=>((hv j hj).nm (Jc hf j) (fun b hb=>by omega)).mono (Fr.refl w W) (fun k _=>hW k) (fun _ _=>rfl)) hz
section
variable {g g':Nat->GM}{W W':Nat->Prop}{w:World}
def BR.ju {ρ:Nat->Nat}{n:Nat}(fN:∀ b,b<n->g (ρ b)≠.un->g (ρ b)=g' b){mm:GM}{x:Bk}(h:BR g W w mm (Qw ρ x))(hn:bX n x)(hW:∀ k,W' k->W k):BR g' W' w mm x:=by
 have back:∀ {v u},Qe n v->VR g W w (aB ρ v) u->VR g' W' w v u:=fun hn h=>(h.ju fN _ rfl hn).mono (Fr.refl w W) (fun k _=>hW k) (fun _ _=>rfl);cases x with
 | free=>exact hn.elim
 | dead=>exact hn.elim
 | cells cs =>
  simp only[Qw]at h;simp only[bX]at hn;generalize iV:ay ρ cs=cs' at h;cases h with
  | ph =>
   have:cs=[]:=by cases cs<;>simp_all [ay]
   subst this;exact .ph
  | cells hb hl h1 hv hz =>
   subst iV;rw[Yr]at hl h1 hv;exact .cells hb hl h1 (fun j hj=>back (Jc hn j) (by have:=hv j hj;rwa [Ky]at this)) hz
 | az kvs dn =>
  simp only[Qw]at h;simp only[bX]at hn;generalize iV:(kvs.map fun p=>(aB ρ p.1,aB ρ p.2))=kvs' at h;cases h with
  | az hb hs jm hv hc ha hd =>
   subst iV;rw[List.length_map]at hs jm hv;have a6:∀ j,j<kvs.length->(kvs.map fun p=>(aB ρ p.1,aB ρ p.2)).getD j (.any,.any)=(aB ρ (kvs.getD j (.any,.any)).1,aB ρ (kvs.getD j (.any,.any)).2):=fun j hj=>by simp[List.getD,hj]
   have bQ:∀ j,j<kvs.length->kvs.getD j (.any,.any) ∈ kvs:=fun j hj=>by simp[List.getD,hj]
   exact .az hb hs (fun j hj=>back (hn _ (bQ j hj)).1 (by have:=jm j hj;rwa [a6 j hj]at this)) (fun j hj=>back (hn _ (bQ j hj)).2 (by have:=hv j hj;rwa [a6 j hj]at this)) hc ha hd
 | bp kvs bs ck =>
  simp only[Qw]at h;simp only[bX]at hn;generalize iV:(kvs.map fun p=>(aB ρ p.1,aB ρ p.2))=kvs' at h;cases h with
  | bp hb hs jm hv hc ha hd =>
   subst iV;rw[List.length_map]at hs jm hv;have a6:∀ j,j<kvs.length->(kvs.map fun p=>(aB ρ p.1,aB ρ p.2)).getD j (.any,.any)=(aB ρ (kvs.getD j (.any,.any)).1,aB ρ (kvs.getD j (.any,.any)).2):=fun j hj=>by simp[List.getD,hj]
   have bQ:∀ j,j<kvs.length->kvs.getD j (.any,.any) ∈ kvs:=fun j hj=>by simp[List.getD,hj]
   exact .bp hb hs (fun j hj=>back (hn _ (bQ j hj)).1 (by have:=jm j hj;rwa [a6 j hj]at this)) (fun j hj=>back (hn _ (bQ j hj)).2 (by have:=hv j hj;rwa [a6 j hj]at this)) hc ha hd
 | iter b0 ck seen =>
  simp only[Qw]at h;simp only[bX]at hn;generalize iV:ρ b0=b1 at h;cases h with
  | iter hb l8=>exact .iter hb (by rw[<- fN b0 hn (by rw[iV,l8];intro x;cases x),iV];exact l8)
 | dM ls=>exact BR.kQ h hn hW
end
def Xa {n:Nat}{x:Bk}(h:bX n x):x.live:=by cases x<;>simp_all [bX,Bk.live]
def BX {ρ:Nat->Nat}{x:Bk}:(Qw ρ x).live ↔ x.live:=by cases x<;>simp[Qw,Bk.live]
section
variable {P:Program}{c:Cx}
open Classical in
def Sub.to {ρ:Nat->Nat}{s s':St}(hs:Sub ρ s s'){g:Nat->GM}   (hR:R c g s.fs a w)(jv:∀ p ∈ c.gh,ρ p.1=p.1/\p.1<s'.n):∃ g',R c g' s'.fs a w:=by
 obtain ⟨hT,hH⟩:=hs
 let g':Nat->GM:=fun b=>if b<s'.n then (if g (ρ b)=.un then .ph else g (ρ b)) else .un
 have fN:∀ b,b<s'.n->g (ρ b)≠.un->g (ρ b)=g' b:=fun b hb h=>by simp only[g',am hb,aa h]
 have jY:∀ b,s'.n<=b->g' b=.un:=fun b hb=>by simp only[g'];rw[aa af]
 have cf:∀ b,b<s'.n->g' b≠.un:=fun b hb=>by
  simp only[g',am hb];split
  ·intro h;cases h
  ·assumption
 -- Np a live name of s' is
 have aO:∀ b,(s'.fs.H b).live->∃ p ∈ s'.h,p.1=b/\s'.fs.H b=p.2:=fun b hl=>by
  rcases Jk s'.h s'.n b with h|h
  ·have:s'.fs.H b=if b<s'.n then .dead else .free:=h;rw[this]at hl;split at hl<;>exact hl.elim
  ·exact h
 have jw:∀ b,(s'.fs.H b).live->b<s'.n/\(s.fs.H (ρ b)).live/\g' b=g (ρ b):=fun b hl=>by
  obtain ⟨p,hp,rfl,e⟩:=aO b hl;obtain ⟨h1,h2,h3⟩:=No hH p hp;have dJ:(s.fs.H (ρ p.1)).live:=by
   show (Qb s.h s.n (ρ p.1)).live;rw[h3,BX];exact Xa h2
  refine ⟨h1,dJ,(fN _ h1 fun e=>?_).symm⟩;have:=hR.h (ρ p.1);rw[e]at this;generalize s.fs.H (ρ p.1)=x at this dJ;exact this.gK dJ
 have hW:∀ k,Qm c g' s'.fs k->Qm c g s.fs k:=by
  rintro k (h|⟨b,h1,h2⟩)
  ·exact .inl h
  ·obtain ⟨_,h4,h5⟩:=jw b h1;exact .inr ⟨ρ b,h4,by rw[<- h5];exact h2⟩
 have hf:=Fr.refl w (Qm c g s.fs);have D9:∀ {v u},VR g' (Qm c g s.fs) w v u->VR g' (Qm c g' s'.fs) w v u:=fun h=>h.mono hf (fun k _=>hW k) (fun _ _=>rfl);have back:∀ {v u},Qe s'.n v->VR g (Qm c g s.fs) w (aB ρ v) u->VR g' (Qm c g' s'.fs) w v u:=fun hn h=>D9 (h.ju fN _ rfl hn);refine ⟨g',hR.size,hR.ew,fun i=>?_,fun i=>(hR.gl i).mono hf (fun k _=>hW k) (fun _ _=>rfl),fun b=>?_,fun b b' k h1 h2 e1 e2=>?_,fun b k h1 e1=>?_,hR.fr,hR.xs,fun p hp=>?_⟩
 ·rcases Vh s'.t i with h|⟨p,h1,rfl,h3⟩
  ·show VR g' _ w (look s'.t i) _;rw[h];exact .any _
  ·show VR g' _ w (look s'.t p.1) _;rw[h3];obtain ⟨q1,q2⟩:=Vi hT p h1;have:=hR.t p.1;have e:s.fs.T p.1=aB ρ p.2:=q2;rw[e]at this;exact back q1 this
 ·rcases Jk s'.h s'.n b with h|⟨p,h1,rfl,h3⟩
  ·show BR g' _ w _ (Qb s'.h s'.n b);rw[h];split
   ·rename_i hb;exact .dead (cf b hb)
   ·rename_i hb;rw[jY b af];exact .free
  ·show BR g' _ w _ (Qb s'.h s'.n p.1);rw[h3];obtain ⟨q1,q2,q3⟩:=No hH p h1;have hl:(s'.fs.H p.1).live:=by
    show (Qb s'.h s'.n p.1).live;rw[h3];exact Xa q2
   obtain ⟨_,_,e5⟩:=jw p.1 hl;rw[e5];have ez:=hR.h (ρ p.1);have e:s.fs.H (ρ p.1)=Qw ρ p.2:=q3;rw[e]at ez;exact ez.ju fN q2 hW
 ·obtain ⟨p1,Ea,rfl,_⟩:=aO b h1;obtain ⟨p2,fk,rfl,_⟩:=aO b' h2;obtain ⟨_,l1,d1⟩:=jw _ h1;obtain ⟨_,l2,d2⟩:=jw _ h2;exact Vj hH p1 Ea p2 fk (hR.inj _ _ k l1 l2 (by rw[<- d1];exact e1) (by rw[<- d2];exact e2))
 ·obtain ⟨_,l1,d1⟩:=jw _ h1;exact hR.old _ k l1 (by rw[<- d1];exact e1)
 ·obtain ⟨q1,q2⟩:=hR.jn p hp;obtain ⟨q3,q4⟩:=jv p hp;have:=fN p.1 q4 (by rw[q3,q1];exact q2);rw[<- this,q3];exact ⟨q1,q2⟩
def Is {σ:Type}(I:σ->Prop)(df:σ->St)(μ:σ->Nat)(x:σ)(Q:EX->St->Prop):EX->St->Prop
 | .normal,s=>∃ y,I y/\(∃ ρ,Sub (rl ρ) s (df y))/\μ y<μ x
 | e,s=>Q e s
def Qv {σ:Type}(I:σ->Prop)(df:σ->St)(μ:σ->Nat){b:TC}{Q:EX->St->Prop}{s:St}(hm:P.follows .mixedOrders=true)(bf:c.gh=[])(h0:∃ y,I y/\∃ ρ,Sub (rl ρ) s (df y))
  (hr:∀ x,I x->xw P c b (Is I df μ x Q) (df x)):rf P c b Q s:=by
 intro code he g a w hR;obtain ⟨y0,Eb,ρ0,fT⟩:=h0;obtain ⟨g0,mr⟩:=fT.to hR (by rw[bf];intro p hp;cases hp);have key:∀ n (x:σ),μ x=n->I x->∀ g a w,R c g (df x).fs a w->∀ (fr:Frame) (k:List Item) (cs:List Frame),∃ e a' w',vg c Q e a' w'/\Arrives P (lone (fr.at a (.code code::.inLoop code::k)) cs w) fr k cs e a' w':=by
  intro n
  induction n using Nat.strongRecOn with
  | _ n ih =>
   intro x hx hI g a w hR fr k cs;have hb:=zn hm code b _ _ he (hr x hI) g a w hR;obtain ⟨e,a1,w1,hq,fw⟩:=hb fr (.inLoop code::k) cs;cases e with
   | normal =>
    obtain ⟨g1,s1,gE,y,Ec,⟨ρ,hs⟩,hlt⟩:=hq;obtain ⟨g2,cp⟩:=hs.to gE (by rw[bf];intro p hp;cases hp);obtain ⟨e2,a2,w2,nz,mw⟩:=ih (μ y) af y rfl Ec g2 a1 w1 cp fr k cs;exact ⟨e2,a2,w2,nz,.of_steps (Steps.trans fw (.one step_inLoop)) mw⟩
   | exit i=>exact ⟨.exit i,a1,w1,hq,.pass (x:=.inLoop code) rfl (fun _ _=>.inl av) fw⟩
   | ret=>exact ⟨.ret,a1,w1,hq,.pass (x:=.inLoop code) rfl (fun _ _=>.inl av) fw⟩
   | goto l=>exact hq.elim
   | panic ch=>exact hq.elim
   | outgrown=>exact hq.elim
 intro fr k cs;obtain ⟨e,a',w',hq,fw⟩:=key _ y0 rfl Eb g0 a w mr fr k cs;exact ⟨e,a',w',hq,.of_steps (.one step_loop) fw⟩
def rV (m:Nat)(ρ:List (Nat×Nat))(n:Nat):Prop:=(∀ p ∈ ρ,m<=p.1)/\m<=n
def Vk {m:Nat}:∀ {ρ:List (Nat×Nat)} (_:∀ p ∈ ρ,m<=p.1) {b:Nat},b<m->rl ρ b=b
 | [],_,_,_=>rfl
 | (i,j)::ρ,h,b,hb=>by
   have h1:m<=i:=h (i,j) av;have h2:=Vk (ρ:=ρ) (fun p hp=>h p (by simp[hp])) hb;have:(i==b)=false:=by simp;omega
   simp only[rl,this,cond_false,h2]
def Nq {m:Nat}{ρ:List (Nat×Nat)}{n:Nat}(bf:∀ p ∈ c.gh,p.1<m)(h:rV m ρ n):∀ p ∈ c.gh,rl ρ p.1=p.1/\p.1<n:=fun p hp=>⟨Vk h.1 (bf p hp),Nat.lt_of_lt_of_le (bf p hp) h.2⟩
def It {σ:Type}(m:Nat)(I:σ->Prop)(df:σ->St)(μ:σ->Nat)(x:σ)(Q:EX->St->Prop):EX->St->Prop
 | .normal,s=>∃ y,I y/\(∃ ρ,rV m ρ (df y).n/\Sub (rl ρ) s (df y))/\μ y<μ x
 | e,s=>Q e s
def wY {σ:Type}(I:σ->Prop)(df:σ->St)(μ:σ->Nat){b:TC}{Q:EX->St->Prop}{s:St}(hm:P.follows .mixedOrders=true)(m:Nat)(bf:∀ p ∈ c.gh,p.1<m)(h0:∃ y,I y/\∃ ρ,rV m ρ (df y).n/\Sub (rl ρ) s (df y))
  (hr:∀ x,I x->xw P c b (It m I df μ x Q) (df x)):rf P c b Q s:=by
 intro code he g a w hR;obtain ⟨y0,Eb,ρ0,hp0,fT⟩:=h0;obtain ⟨g0,mr⟩:=fT.to hR (Nq bf hp0);have key:∀ n (x:σ),μ x=n->I x->∀ g a w,R c g (df x).fs a w->∀ (fr:Frame) (k:List Item) (cs:List Frame),∃ e a' w',vg c Q e a' w'/\Arrives P (lone (fr.at a (.code code::.inLoop code::k)) cs w) fr k cs e a' w':=by
  intro n
  induction n using Nat.strongRecOn with
  | _ n ih =>
   intro x hx hI g a w hR fr k cs;have hb:=zn hm code b _ _ he (hr x hI) g a w hR;obtain ⟨e,a1,w1,hq,fw⟩:=hb fr (.inLoop code::k) cs;cases e with
   | normal =>
    obtain ⟨g1,s1,gE,y,Ec,⟨ρ,hp,hs⟩,hlt⟩:=hq;obtain ⟨g2,cp⟩:=hs.to gE (Nq bf hp);obtain ⟨e2,a2,w2,nz,mw⟩:=ih (μ y) af y rfl Ec g2 a1 w1 cp fr k cs;exact ⟨e2,a2,w2,nz,.of_steps (Steps.trans fw (.one step_inLoop)) mw⟩
   | exit i=>exact ⟨.exit i,a1,w1,hq,.pass (x:=.inLoop code) rfl (fun _ _=>.inl av) fw⟩
   | ret=>exact ⟨.ret,a1,w1,hq,.pass (x:=.inLoop code) rfl (fun _ _=>.inl av) fw⟩
   | goto l=>exact hq.elim
   | panic ch=>exact hq.elim
   | outgrown=>exact hq.elim
 intro fr k cs;obtain ⟨e,a',w',hq,fw⟩:=key _ y0 rfl Eb g0 a w mr fr k cs;exact ⟨e,a',w',hq,.of_steps (.one step_loop) fw⟩
def BY (P : Program) (f : FuncId) : Prop := ∃ fn, P.funcs[f]? = some fn /\ fn.body.isNone = false /\ (fn.name == "runtime.NumGoroutine") = false
def PS (P:Program)(gl:Nat->AV)(f:FuncId)(args:List AV)(r:AV):Prop :=
 BY P f∧∀ (w:World) (vs:List Value) (X:Nat→Prop),(∀ k,X k→k < w.heap.size)→(∀ i,VR (fun _=>.un) X w (gl i) (.pointer (some ⟨i,0,none⟩)))→bT (fun _=>.un) X w args vs →
  Calls P f vs.toArray w fun e w'=>∃ v,e=.returned v/\VR (fun _=>.un) X w' r v/\Fr w w' (fun _=>False)
inductive RS where
 | t (i:Nat)
 | cell (a:Nat) (ty:TY)
def qe (P:Program):List ResultVar->Option (List RS)
 | []=>some []
 | .tmp t::r=>(qe P r).map (.t t::·)
 | .cell a t::r=>match l9 P t,qe P r with
  | some ty,some l=>some (.cell a ty::l)
  | _,_=>none
def rv (s:FS):RS->AV
 | .t i=>s.T i
 | .cell a ty=>match s.T a with
  | .ptr b off=>match s.H b with
   | .cells cs=>wr ty cs off
   | _=>.any
  | _=>.any
def Un (s:FS):List RS->Prop
 | []=>True
 | .t _::r=>Un s r
 | .cell a ty::r=>(match s.T a with
  | .ptr b off=>match s.H b with
   | .cells cs=>kK ty cs off
   | _=>False
  | _=>False)/\Un s r
def iE (s:FS):List RS->AV
 | [x]=>rv s x
 | l=>.aR (l.map (rv s))
def Yv (s:FS):AV->AV
 | .sl es b off n _=>match s.H b with
  | .cells cs=>.isl n ((cs.drop off).take (n*es))
  | _=>.any
 | v=>v
def Zi (s:FS):AV->AV
 | .agg cs=>.agg (cs.map (Yv s))
 | v=>Yv s v
def gM (s:FS):AV->AV
 | .aR vs=>.aR (vs.map (Zi s))
 | v=>Zi s v
def Ed (rs:List RS)(r:AV):EX->St->Prop
 | .exit _,_=>False
 | _,s=>Un s.fs rs/\gM s.fs (iE s.fs rs)=r
def kR:Nat->List AV->List (Nat×AV)
 | _,[]=>[]
 | k,x::xs=>(k,x)::kR (k+1) xs
def Nr:∀ (xs:List AV) (k i:Nat),look (kR k xs) i=if k<=i/\i<k+xs.length then xs.getD (i-k) .any else .any
 | [],k,i=>by
  rw[aa (fun h=>by have:=h.2;simp at this;omega)];rfl
 | x::xs,k,i=>by
  simp only[kR];rw[Jn,Nr xs (k+1) i];by_cases h:k=i
  ·subst h;rw[am rfl,am av];simp
  ·rw[aa h];simp only[length_cons];by_cases h2:k + 1≤i∧i < k + 1 + xs.length
   ·rw[am h2,am af];have:i - k=(i - (k + 1)) + 1:=by omega
    rw[this];simp
   ·rw[aa h2,aa af]
def Ns {g:Nat->GM}{s:FS}{a:Act}{w:World}(hR:R c g s a w):∀ (rs:List ResultVar) (l:List RS),qe P rs=some l->Un s l ->
  ∃ vs:List Value,(rs.mapM (fun x=>(match x with|.tmp t=>pure (a.tmps.getD t undef)|.cell ad t=>do loadVar t (<- asAddr (a.tmps.getD ad undef)):Sem Value))).run P w=.ok vs w/\bT g (Qm c g s) w (l.map (rv s)) vs
 | [],l,he,_=>by simp[qe]at he;subst he;exact ⟨[],by simp,trivial⟩
 | .tmp t::r,l,he,ho=>by
  simp only[qe,Option.map_eq_some_iff]at he;obtain ⟨l',h1,rfl⟩:=he;obtain ⟨vs,h2,h3⟩:=Ns hR r l' h1 ho;exact ⟨a.tmps.getD t undef::vs,by simp only[List.mapM_cons,Sem.run_bind,Sem.run_pure,Result.andThen_ok,h2],hR.t t,h3⟩
 | .cell ad t::r,l,he,ho=>by
  simp only[qe]at he;split at he
  ·rename_i ty l' j0 hl;simp at he;subst he;obtain ⟨zo,Iu⟩:=ho;obtain ⟨vs,h2,h3⟩:=Ns hR r l' hl Iu;have ht:=hR.t ad;cases hT:s.T ad<;>rw[hT]at zo<;>simp only at zo
   rename_i b off;rw[hT]at ht;obtain ⟨k,e1,e2⟩:=BH ht;cases hH:s.H b<;>rw[hH]at zo<;>simp only at zo
   rename_i cs;have ez:=hR.h b;rw[hH]at ez;have Ee:∃ v,(loadVar t ⟨k,off,none⟩).run P w=.ok v w/\VR g (Qm c g s) w (wr ty cs off) v:=by
    by_cases fa:0<cs.length
    ·obtain ⟨k',us,q1,q2,q3,q4⟩:=MF ez fa;rw[e2]at q1;cases q1;obtain ⟨v,hr,qb⟩:=DH (P:=P) (o:=0) j0 q2 q3 q4 zo;exact ⟨v,by simpa [Instr.loadAt,Instr.sureAddr] using hr,qb⟩
    ·obtain ⟨rfl,rfl,rfl⟩:=UF zo fa;obtain ⟨v,hr,qb⟩:=DH (P:=P) (g:=g) (W:=Qm c g s) (k:=k) (o:=0) (us:=fun _=>undef) j0 (fun j hj=>absurd hj av) (fun j hj=>absurd hj av) (fun j hj=>absurd hj av) zo;exact ⟨v,by simpa [Instr.loadAt,Instr.sureAddr] using hr,qb⟩
   obtain ⟨v,kh,ec⟩:=Ee;refine ⟨v::vs,?_,?_,h3⟩
   ·have Nt:(asAddr (a.tmps.getD ad undef)).run P w=.ok ⟨k,off,none⟩ w:=by rw[e1];rfl
    simp only[List.mapM_cons,Sem.run_bind,Nt,Sem.run_pure,Result.andThen_ok,kh,h2]
   ·have:rv s (.cell ad ty)=wr ty cs off:=by simp only[rv,hT,hH]
    rw[this];exact ec
  ·cases he
def Iv {l:List RS}{g:Nat->GM}{s:FS}   (hR:R c g s a w)(he:qe P fn.results.toList=some l)(ho:Un s l):∃ v,(results fn a.tmps).run P w=.ok v w/\VR g (Qm c g s) w (iE s l) v:=by
 obtain ⟨vs,h1,h2⟩:=Ns hR _ _ he ho;have h3:(fn.results.mapM (fun x=>(match x with|.tmp t=>pure (a.tmps.getD t undef)|.cell ad t=>do loadVar t (<- asAddr (a.tmps.getD ad undef)):Sem Value))).run P w=.ok vs.toArray w:=by
  rw[Array.mapM_eq_mapM_toList];simp only[Sem.run_map,h1,Result.andThen_ok]
 have h4:(results fn a.tmps).run P w=.ok (if h:vs.toArray.size=1 then vs.toArray[0] else .tuple vs.toArray) w:=by
  unfold results;rw[Sem.run_bind];exact (congrArg (fun r=>Result.andThen r _) h3).trans rfl
 refine ⟨_,h4,?_⟩;clear h4 h3 h1
 match l,vs,h2 with
 | [x],[v],h2=>exact h2.1
 | [],[],_=>exact .aR rfl fun j hj=>absurd hj av
 | x::y::l,u::v::vs,h2 =>
  rw[dif_neg av];have hl:=h2.length;exact .aR (by simp at hl ⊢;omega) fun j hj=>by
   have:=h2.get j hj;simpa using this
def Vl {g:Nat->GM}{s:FS}   (hR:R c g s a w){b k:Nat}(hl:(s.H b).live)(hg:g b=.re k):¬ c.X k:=fun hx=>by
 have h1:=hR.xs k hx;rcases hR.old b k hl hg with h|h
 ·omega
 ·exact h1.2 h
def VR.shut {g:Nat->GM}{s:FS}   (hR:R c g s a w){v:AV}  (h:VR g (Qm c g s) w v u)(hn:Qe 0 v):VR (fun _=>.un) c.X w v u :=
 (h.nm hn (g':=fun _=>.un) (fun b hb=>absurd hb af)).mono (Fr.refl _ _) (fun _ _ h=>.inl h) (fun _ _=>rfl)
def Vm {g:Nat->GM}{s:FS}   (hR:R c g s a w){v:AV}  (h:VR g (Qm c g s) w v u)(hn:Qe 0 (Yv s v)):VR (fun _=>.un) c.X w (Yv s v) u:=by
 by_cases hs:∃ es b off n k,v=.sl es b off n k
 ·obtain ⟨es,b,off,n,k,rfl⟩:=hs;simp only[Yv]at hn ⊢;cases hH:s.H b with
  | cells cs =>
   rw[hH]at hn;simp only at hn ⊢;simp only[Qe]at hn;have ez:=hR.h b;rw[hH]at ez;rcases qW h with ⟨kk,cap,e,cur,fz,rfl,hg,h1,h2,h3,h4,h5⟩|⟨wQ,rfl,hg,rfl,rfl⟩
   ·rw[hg]at ez;have hx:=Vl hR (by rw[hH];trivial) hg;cases ez with
    | cells hb hl iJ hv hz =>
     rename_i Nu e2 fz2;rw[h4]at hb;cases hb;have hlen:∀ j,j<((cs.drop off).take (n*es)).length->off+j<cs.length/\j<n*es:=fun j hj=>by simp at hj;omega
     refine .isl (us:=fun j=>cur.getD (off+j) undef) af h3 (fun j hj=>?_) fun j hj=>?_
     ·obtain ⟨qX,eJ⟩:=hlen j hj;refine ⟨kk,off,rfl,?_,hx,iJ _ qX⟩;have:=cell_of_row w kk (off + j) cur e fz h4;unfold Uw;rw[this];have:off + j < cur.size:=by omega
      simp[Array.getD,this]
     ·obtain ⟨qX,eJ⟩:=hlen j hj;have ee:((cs.drop off).take (n * es)).getD j .any=cs.getD (off + j) .any:=by simp only[List.getD,getElem?_take,getElem?_drop,am eJ]
      have oc:=Jc hn j;rw[ee]at oc ⊢;exact (hv _ qX).shut hR oc
   ·refine .isl (us:=fun _=>undef) (Nat.le_refl 0) (by simp[maxLen]) (fun j hj=>?_) fun j hj=>?_
    ·simp at hj
    ·simp at hj
  | _=>exact .any _
 ·have:Yv s v=v:=by
   cases v<;>first|rfl|exact absurd ⟨_,_,_,_,_,rfl⟩ hs
  rw[this]at hn ⊢;exact h.shut hR hn
def Nv {g:Nat->GM}{s:FS}   (hR:R c g s a w){v:AV}  (h:VR g (Qm c g s) w v u)(hn:Qe 0 (Zi s v)):VR (fun _=>.un) c.X w (Zi s v) u:=by
 by_cases hs:∃ cs,v=.agg cs
 ·obtain ⟨cs,rfl⟩:=hs;simp only[Zi]at hn ⊢;simp only[Qe]at hn;obtain ⟨us,rfl,h1,h2,h3⟩:=Uq h;refine .agg (by simpa using h1) (fun j hj=>h2 j (by simpa using hj)) fun j hj=>?_;have dd:j < cs.length:=by simpa using hj
  have ee:(cs.map (Yv s)).getD j .any=Yv s (cs.getD j .any):=by simp[List.getD,dd]
  have oc:=Jc hn j;rw[ee]at oc ⊢;exact Vm hR (h3 j dd) oc
 ·have:Zi s v=Yv s v:=by
   cases v<;>first|rfl|exact absurd ⟨_,rfl⟩ hs
  rw[this]at hn ⊢;exact Vm hR h hn
def Yfy {g:Nat->GM}{s:FS}   (hR:R c g s a w){v:AV}  (h:VR g (Qm c g s) w v u)(hn:Qe 0 (gM s v)):VR (fun _=>.un) c.X w (gM s v) u:=by
 by_cases hs:∃ cs,v=.aR cs
 ·obtain ⟨cs,rfl⟩:=hs;simp only[gM]at hn ⊢;simp only[Qe]at hn;obtain ⟨us,rfl,h1,h3⟩:=DJ h;refine .aR (by simpa using h1) fun j hj=>?_;have dd:j < cs.length:=by simpa using hj
  have ee:(cs.map (Zi s)).getD j .any=Zi s (cs.getD j .any):=by simp[List.getD,dd]
  have oc:=Jc hn j;rw[ee]at oc ⊢;exact Nv hR (h3 j dd) oc
 ·have:gM s v=Zi s v:=by
   cases v<;>first|rfl|exact absurd ⟨_,rfl⟩ hs
  rw[this]at hn ⊢;exact Nv hR h hn
def Yee {w:World}{vs:List Value}{args:List AV}{N:Nat}(hN:args.length<=N){X:Nat->Prop}{gl:Nat->AV}(hX:∀ k,X k->k<w.heap.size)(jS:∀ i,VR (fun _=>.un) X w (gl i) (.pointer (some ⟨i,0,none⟩)))
  (hv:bT (fun _=>.un) X w args vs):R ⟨N,w,fun _=>False,X,gl,[]⟩ (fun _=>.un) (⟨kR 0 args,[],0⟩:St).fs { tmps:=vs.toArray++Array.replicate (N-vs.toArray.size) undef,defers:=[] } w:=by
 have hl:=hv.length;have hH:∀ b,(⟨kR 0 args,[],0⟩:St).fs.H b=.free:=fun b=>by
  show Qb [] 0 b=.free;rcases Jk [] 0 b with h|⟨p,hp,_⟩
  ·rw[h];simp
  ·cases hp
 have hW:∀ k,Qm ⟨N,w,fun _=>False,X,gl,[]⟩ (fun _=>.un) (⟨kR 0 args,[],0⟩:St).fs k->X k:=by
  rintro k (h|⟨b,h1,_⟩)
  ·exact h
  ·rw[hH]at h1;exact h1.elim
 have mh:∀ {v u},VR (fun _=>.un) X w v u->VR (fun _=>.un) (Qm ⟨N,w,fun _=>False,X,gl,[]⟩ (fun _=>.un) (⟨kR 0 args,[],0⟩:St).fs) w v u:=fun h=>h.mono (Fr.refl _ _) (fun k _=>hW k) (fun _ _=>rfl);refine ⟨by simp;omega,rfl,fun i=>?_,fun i=>mh (jS i),fun b=>by rw[hH];exact .free,fun b b' k h=>by rw[hH]at h;exact h.elim,fun b k h=>by rw[hH]at h;exact h.elim,Fr.refl _ _,fun k hk=>⟨hX k hk,id⟩,fun p hp=>by cases hp⟩;show VR _ _ w (look (kR 0 args) i) _;rw[Nr];split
 ·rename_i h;have hi:i < vs.length:=by omega
  have:=hv.get i af;have e:(vs.toArray++Array.replicate (N-vs.toArray.size) undef).getD i undef=vs.getD i undef:=by
   simp only[Array.getD_eq_getD_getElem?,List.getD];rw[Array.getElem?_append_left (by simpa using hi)];simp
  rw[e];simpa using mh this
 ·exact .any _
def Xvt {gl : Nat -> AV} {f : FuncId} {fn : Func} {code : Code} {t : TC} {rs : List RS} {args : List AV} {r : AV} (hm : P.follows .mixedOrders = true) (hf : P.funcs[f]? = some fn) (hb : fn.body = some code) (fx : (fn.name == "runtime.NumGoroutine") = false)
  (he:Js P fn.ntmps code=some t) (hr:qe P fn.results.toList=some rs) (hN:args.length<=fn.ntmps) (fU:Qe 0 r)
  (h:∀ c:Cx,c.gh=[]->c.gl=gl->xw P c t (Ed rs r) ⟨kR 0 args,[],0⟩):PS P gl f args r:=by
 refine ⟨⟨fn,hf,by rw[hb];rfl,fx⟩,fun w vs X hX jS hv=>?_⟩;refine calls_of_wp hf hb ?_;have hR:=Yee hN hX jS hv;have:=zn (c:=⟨fn.ntmps,w,fun _=>False,X,gl,[]⟩) hm code t _ _ he (h _ rfl rfl) _ _ _ hR;refine wp_mono this fun e a' w' hq=>?_;have fin:∀ (g:Nat->GM) (s:St),R ⟨fn.ntmps,w,fun _=>False,X,gl,[]⟩ g s.fs a' w'->(Un s.fs rs/\gM s.fs (iE s.fs rs)=r)->a'.defers=[]/\∃ v,(results fn a'.tmps).run P w'=.ok v w'/\(∃ rW,Ending.returned v=.returned rW/\VR (fun _=>.un) X w' r rW/\Fr w w' fun _=>False):=by
  intro g s bh ⟨h1,h2⟩;obtain ⟨v,h3,h4⟩:=Iv bh hr h1;refine ⟨bh.ew,v,h3,v,rfl,?_,bh.fr⟩;rw[<- h2]at fU ⊢;exact Yfy bh h4 fU
 cases e with
 | normal=>obtain ⟨g,s,bh,db⟩:=hq;exact fin g s bh db
 | ret=>obtain ⟨g,s,bh,db⟩:=hq;exact fin g s bh db
 | exit i=>obtain ⟨g,s,bh,db⟩:=hq;exact db.elim
 | goto l=>exact hq.elim
 | panic ch=>exact hq.elim
 | outgrown=>exact hq.elim
def BZ {o:Oper}{f:FuncId}  (h:Xt P o=some (.call f,xs)):∃ ts,o.op=.call ⟨.value (.func f),xs.toArray,ts⟩:=by
 unfold Xt at h
 repeat' split at h
 all_goals first
  | (simp only[Option.some.injEq,Prod.mk.injEq,PK.call.injEq]at h;obtain ⟨rfl,rfl⟩:=h;rename_i hop;exact ⟨_,by rw[hop]⟩)
  | (simp at h;done)
  | (cases h;done)
  | (simp[Option.map_eq_some_iff]at h;done)
def B0 {f:FuncId}(hc:BY P f){o:Oper}  {ts:Array TypeId}(ho:o.op=.call ⟨.value (.func f),xs.toArray,ts⟩)(a:Act)(w:World) :
  (execOp a.eval o).run P w=.ok (.enter f (xs.map a.eval).toArray) w:=by
 obtain ⟨fn,h1,h2,h3⟩:=hc;have nA:fn.body≠none:=fun e=>by rw[e]at h2;cases h2
 have Nw : fn.name ≠ "runtime.NumGoroutine" := fun e => by rw [e] at h3; cases h3
 simp[execOp,ho,resolve,Act.eval,Deferred.ofValue,invoke,callFunc,program,Sem.run,h1,nA,Nw]
def Nx {g g':Nat->GM}{W:Nat->Prop}{w:World}{n:Nat}(hg:∀ b,b<n->g b=g' b):∀ {xs:List AV} {vs:List Value},bT g W w xs vs->ah n xs->bT g' W w xs vs
 | [],[],_,_=>trivial
 | _::_,_::_,h,hn=>⟨h.1.nm hn.1 hg,Nx hg h.2 hn.2⟩
 | [],_::_,h,_=>h.elim
 | _::_,[],h,_=>h.elim
def Zd (d:Option Nat)(xs:List TV)(gd:Option (Nat×Bool)):bc:=⟨jQ gd++Xe xs,[],d.toList,[]⟩
def St.ca (s:St)(d:Option Nat)(v:AV):St :=
 match d with
 | some d=>s.put d v
 | none=>s
def Ux (gl:Nat->AV)(s:FS)(xs:List TV)(gd:Option (Nat×Bool)):Prop:=gg s gd/\Qr (gB s gd) (aD gl s xs)
theorem Vn {s:St}{d:Option Nat}{f:FuncId}{xs:List TV}{gd:Option (Nat×Bool)}{args:List AV}{r:AV}(aS:Ux c.gl s.fs xs gd)(aM:(aD c.gl s.fs xs).map Qh=args)(fU:ah 0 args)
  (eg:ob (gB s.fs gd) (PS P c.gl f args r)):Ki P c (.pd d (.call f) xs gd) s.fs (Zd d xs gd) (s.ca d (cw (gB s.fs gd) r)).fs:=by
 intro ops io he;obtain ⟨aX,bb,hd,ys,aE,rfl⟩:=Zm he;obtain ⟨ts,hop⟩:=BZ aE;have jx:(s.ca d (cw (gB s.fs gd) r)).fs=match d with|some d=>s.fs.put d (cw (gB s.fs gd) r)|none=>s.fs:=by
  cases d with
  | none=>rfl
  | some d=>exact St.bU _ _ _
 rw[jx];refine ⟨fun i hi=>?_,fun b _=>by cases d<;>rfl,?_⟩
 ·cases d with
  | none=>rfl
  | some d=>show (s.fs.put d _).T i=_;rw[FS.dF,aa (fun e=>hi (by simp[Zd,e]))]
 ·intro s2 hT hH g a w hR K Q' hK;have bj:aD c.gl s2 (ys.map aP)=aD c.gl s.fs (ys.map aP):=Yd fun i hi=>hT i (by simp[Zd,hi]);have hg:∀ t b,gd=some (t,b)->s2.T t=s.fs.T t:=fun t b e=>hT t (by simp[Zd,e,jQ]);have j1:gB s2 gd=gB s.fs gd:=by
   cases gd with
   | none=>rfl
   | some p=>obtain ⟨t,b⟩:=p;simp only[gB,hg t b rfl]
  have j2:gg s2 gd:=by
   have:=aS.1;cases gd with
   | none=>exact this
   | some p=>obtain ⟨t,b⟩:=p;simpa only[gg,hg t b rfl] using this
  have np:∀ v w',Fr w w' (fun _=>False)->VR g (Qm c g s2) w' (cw (gB s.fs gd) r) v->K (a.put io.dst v) w':=fun v w' hf hv=>by
   rw[bb];have bh:=hR.grow hf;cases d with
   | none =>
    refine hK g _ w' ?_;have:dB s2 s.fs (Zd none (ys.map aP) gd)=s2:=by unfold dB Zd;simp
    simp only[this];exact bh
   | some d =>
    refine hK g _ w' ?_;show R c g (dB s2 (s.fs.put d _) ⟨jQ gd++Xe (ys.map aP),[],[d],[]⟩) _ _;rw[yY];exact bh.put (by simpa using hd) hv
  unfold Uo;rw[wS aX hR j2,j1];have run:(∀ b,gB s.fs gd=some b->b=true)->io.wp P a w K Q':=by
   intro hb;have iD:Qr none (aD c.gl s2 (ys.map aP)):=by
    rw[bj];have:=aS.2;cases bZ:gB s.fs gd with
    | none=>rw[bZ]at this;exact this
    | some b=>rw[bZ]at this;exact BL (hb b bZ) this
   have rX:PS P c.gl f args r:=by
    cases bZ:gB s.fs gd with
    | none=>rw[bZ]at eg;exact eg
    | some b=>rw[bZ]at eg;exact eg (hb b bZ)
   have hv:=Yk (hR.ci ys) iD;rw[bj,aM]at hv;have qa:bT (fun _=>.un) (Qm c g s2) w args (ys.map a.eval):=Nx (n:=0) (fun b hb=>absurd hb af) hv fU;have hX:∀ k,Qm c g s2 k->k<w.heap.size:=by
    rintro k (h|⟨b',hl,fN⟩)
    ·have:=(hR.xs k h).1;have:=hR.fr.size;omega
    ·exact BR.lt (fN ▸ hR.h b') hl
   have eB:=rX.2 w _ _ hX (fun i=>(hR.gl i)) qa;unfold Oper.wp;rw[B0 rX.1 hop];rw[Oper.upon_enter];refine eB.mono fun e w' ⟨v,e1,e2,e3⟩=>?_;subst e1;refine np v w' e3 ?_;have ec:VR g (Qm c g s2) w' r v:=e2.mono (Fr.refl _ _) (fun _ _ h=>h) (fun _ h=>absurd rfl h);cases bZ:gB s.fs gd with
   | none=>exact ec
   | some b=>exact .dV (fun _=>ec) fun h=>by rw[hb b bZ]at h;cases h
  cases bZ:gB s.fs gd with
  | none=>simp only[Option.getD_none,if_true];exact run fun b h=>by rw[bZ]at h;cases h
  | some b =>
   cases b with
   | true=>simp only[Option.getD_some,if_true];exact run fun b h=>by rw[bZ]at h;cases h;rfl
   | false =>
    simp only[Option.getD_some,Bool.false_eq_true,if_false];refine np undef w (Fr.refl _ _) ?_;rw[bZ];exact .dV (fun h=>by cases h) fun _=>rfl
def Yi8 {r0:List bB}{K:St->Prop}{s:St}{d:Option Nat}{f:FuncId}{xs:List TV}{gd:Option (Nat×Bool)}{args:List AV}{r:AV}(eg:ob (gB s.fs gd) (PS P c.gl f args r))(aM:(aD c.gl s.fs xs).map Qh=args)
  (aS:Ux c.gl s.fs xs gd/\ah 0 args/\XP P c r0 K (s.ca d (cw (gB s.fs gd) r))):Yo P c (.pd d (.call f) xs gd) r0 K s :=
 .inl ⟨_,_,Vn aS.1 aM aS.2.1 eg,aS.2.2⟩
def Yev {anc:List Nat}{fs:List bc}{r0:List bB}{K:St->Prop}{s:St}{d:Option Nat}{f:FuncId}{xs:List TV}{gd:Option (Nat×Bool)}{args:List AV}{r:AV}(eg:ob (gB s.fs gd) (PS P c.gl f args r))(aM:(aD c.gl s.fs xs).map Qh=args)
  (aS:Ux c.gl s.fs xs gd/\ah 0 args/\XD P c anc r0 (Zd d xs gd::fs) K (s.ca d (cw (gB s.fs gd) r))):Yz P c anc (.pd d (.call f) xs gd) r0 fs K s :=
 ⟨_,_,Vn aS.1 aM aS.2.1 eg,aS.2.2⟩
structure FT (P:Program)(f:FuncId)(fn:Func)(t:TC)(rs:List RS):Prop where
 func:P.funcs[f]?=some fn
 code:fn.body.bind (Js P fn.ntmps)=some t
 res:qe P fn.results.toList=some rs
 name : (fn.name == "runtime.NumGoroutine") = false
 mixed:P.follows .mixedOrders=true
def aG (P:Program)(fn:Func):TC:=(fn.body.bind (Js P fn.ntmps)).getD .skip
theorem Yd7 {α:Type}{o:Option α}(d:α)(h:o.isSome=true):o=some (o.getD d):=by
 cases o with
 | none=>cases h
 | some x=>rfl
def FT.of {P : Program} {f : FuncId}  {rs : List RS} (h1 : P.funcs[f]? = some fn) (h2 : (fn.body.bind (Js P fn.ntmps)).isSome = true := by kernel_rfl) (h3 : qe P fn.results.toList = some rs := by kernel_rfl) (h4 : (fn.name == "runtime.NumGoroutine") = false := by kernel_rfl) (h5 : P.follows .mixedOrders = true := by kernel_rfl) : FT P f fn (aG P fn) rs :=
 ⟨h1,Yd7 _ h2,h3,h4,h5⟩
def FT.ps {gl:Nat->AV}{f:FuncId}{fn:Func}{t:TC}{rs:List RS}(hF:FT P f fn t rs){args:List AV}{r:AV}(hN:args.length<=fn.ntmps)(fU:Qe 0 r)
  (h:∀ c:Cx,c.gh=[]->c.gl=gl->xw P c t (Ed rs r) ⟨kR 0 args,[],0⟩):PS P gl f args r:=by
 have hc:=hF.code;cases hb:fn.body with
 | none=>rw[hb]at hc;simp at hc
 | some code =>
  rw[hb]at hc;exact Xvt hF.mixed hF.func hb hF.name hc hF.res hN fU h
end
def Ny (n es o:Nat):Bk->AV
 | .cells cs=>.isl n ((cs.drop o).take (n*es))
 | _=>.any
def Nz (s:FS):Option Nat->Bk
 | some b=>s.H b
 | none=>.free
def NA:AV->Bool->Option Bool
 | .bool b,w=>some (b==w)
 | .dV c (.bool b),w=>some (c&&(b==w))
 | _,_=>some false
def Ef:AV->Prop
 | .bool _=>True
 | .dV _ (.bool _)=>True
 | _=>False
def NC:Bk->TY->Nat->AV->Prop
 | .cells cs,ty,o,v=>BM ty cs o v
 | _,_,_,_=>False
def Iw:Bk->TY->Nat->AV
 | .cells cs,ty,o=>wr ty cs o
 | _,_,_=>.any
def ND (s:FS)(ty:TY):AV->AV
 | .ptr b o=>Iw (s.H b) ty o
 | _=>.any
def Ix:Bk->TY->Nat->Prop
 | .cells cs,ty,o=>kK ty cs o
 | _,_,_=>False
def NF (s:FS)(ty:TY):AV->Prop
 | .ptr b o=>Ix (s.H b) ty o
 | _=>False
theorem Xl6 (n es o:Nat)(cs:List AV):Ny n es o (.cells cs)=.isl n ((cs.drop o).take (n*es)):=rfl
theorem Ykf (s:St)(i:Nat):s.fs.T i=look s.t i:=rfl
theorem Yke (s:St)(i:Nat):s.fs.H i=Qb s.h s.n i:=rfl
theorem Xrf (b:Bool):(b==true)=b:=by cases b<;>rfl
theorem Xjq (b:Bool):(b==false)=!b:=by cases b<;>rfl
theorem Yht (b:Bool):(true != b)=!b:=by cases b<;>rfl
theorem Yg7 (b:Bool):(false != b)=b:=by cases b<;>rfl
theorem Qxs (b c:Bool):((b&&c)=true->b=true)=True:=by cases b<;>simp
theorem Yh0 (b:Bool):(bif b then true else false)=b:=by cases b<;>rfl
theorem Yho (b c:Bool):(bif b then true else c)=(b||c):=by cases b<;>rfl
theorem Yb3 (b c:Bool):(bif b then c else false)=(b&&c):=by cases b<;>rfl
theorem Iy:Qb [] n j=if j<n then .dead else .free:=rfl
theorem Xbx (v:Bk)(l:List (Nat×Bk))(n j:Nat):Qb ((i,v)::l) n j=bif i==j then v else Qb l n j:=rfl
theorem Xyc:look [] j=.any:=rfl
theorem Xke (l:List (Nat×AV))(j:Nat):look ((i,v)::l) j=bif i==j then v else look l j:=rfl
theorem Xb6 (n:Int):Qh (.int k n)=(.int k n):=rfl
theorem Xnn (g:Option Bool)(k:IntKind)(n:Int):fh g (.int k n)=True:=rfl
theorem Qzr (n:Int):Kh (.int k n)=[.int k n]:=rfl
theorem Xjb (s:FS)(k:IntKind)(n:Int):Zi s (.int k n)=Yv s (.int k n):=rfl
theorem Xic (s:FS)(k:IntKind)(n:Int):Yv s (.int k n)=(.int k n):=rfl
theorem Xns (s:FS)(k:IntKind)(n:Int):gM s (.int k n)=Zi s (.int k n):=rfl
theorem Xoe (n:Int):one (.int k n)=True:=rfl
theorem Xhd (n:Int):lI (.int k n)=True:=rfl
theorem Qww (n:Int)(r:List AV):Jz ((.int k n)::r)=none:=rfl
theorem Xjc (n:Int):Qe m (.int k n)=True:=by simp only[Qe]
theorem Xms (ρ:Nat->Nat)(k:IntKind)(n:Int):aB ρ (.int k n)=(.int k n):=by simp only[aB]
theorem Qxb (b:Bool):Qh (.bool b)=(.bool b):=rfl
theorem Xld (g:Option Bool)(b:Bool):fh g (.bool b)=True:=rfl
theorem Quk (b:Bool):Kh (.bool b)=[.bool b]:=rfl
theorem Xc8 (s:FS)(b:Bool):Zi s (.bool b)=Yv s (.bool b):=rfl
theorem Xc7 (s:FS)(b:Bool):Yv s (.bool b)=(.bool b):=rfl
theorem Xgk (s:FS)(b:Bool):gM s (.bool b)=Zi s (.bool b):=rfl
theorem Xgd (b:Bool):one (.bool b)=True:=rfl
theorem Xcg (b:Bool):lI (.bool b)=True:=rfl
theorem Quj (b:Bool)(r:List AV):Jz ((.bool b)::r)=none:=rfl
theorem Xd8 (b:Bool):Qe m (.bool b)=True:=by simp only[Qe]
theorem Xfm (ρ:Nat->Nat)(b:Bool):aB ρ (.bool b)=(.bool b):=by simp only[aB]
theorem Xcb (l:List UInt8):Qh (.str l)=(.str l):=rfl
theorem Xnd (g:Option Bool)(l:List UInt8):fh g (.str l)=True:=rfl
theorem Qwe (l:List UInt8):Kh (.str l)=[.str l]:=rfl
theorem Xh1 (s:FS)(l:List UInt8):Zi s (.str l)=Yv s (.str l):=rfl
theorem Xhn (s:FS)(l:List UInt8):Yv s (.str l)=(.str l):=rfl
theorem Xo5 (s:FS)(l:List UInt8):gM s (.str l)=Zi s (.str l):=rfl
theorem Xsj (l:List UInt8):one (.str l)=True:=rfl
theorem Xgi (l:List UInt8):lI (.str l)=True:=rfl
theorem Xa6 (l:List UInt8)(r:List AV):Jz ((.str l)::r)=none:=rfl
theorem Xlh (l:List UInt8):Qe m (.str l)=True:=by simp only[Qe]
theorem Xt6 (ρ:Nat->Nat)(l:List UInt8):aB ρ (.str l)=(.str l):=by simp only[aB]
theorem Xdh:Qh (.agg cs)=(.agg cs):=rfl
theorem Xqj (g:Option Bool)(cs:List AV):fh g (.agg cs)=True:=rfl
theorem Xi8 (s:FS)(cs:List AV):Yv s (.agg cs)=(.agg cs):=rfl
theorem Xsv (s:FS)(cs:List AV):gM s (.agg cs)=Zi s (.agg cs):=rfl
theorem Xaz:Jz ((.agg cs)::r)=none:=rfl
theorem Xbq:Qh (.aR cs)=(.aR cs):=rfl
theorem Xrm (g:Option Bool)(cs:List AV):fh g (.aR cs)=True:=rfl
theorem Qvq:Kh (.aR cs)=[.aR cs]:=rfl
theorem Xhm (s:FS)(cs:List AV):Zi s (.aR cs)=Yv s (.aR cs):=rfl
theorem Xjw (s:FS)(cs:List AV):Yv s (.aR cs)=(.aR cs):=rfl
theorem Qxw:Jz ((.aR cs)::r)=none:=rfl
theorem Xct:Qh (.ptr b o)=(.ptr b o):=rfl
theorem Xsz (g:Option Bool)(b o:Nat):fh g (.ptr b o)=True:=rfl
theorem Xax:Kh (.ptr b o)=[.ptr b o]:=rfl
theorem Xfy (s:FS)(b o:Nat):Zi s (.ptr b o)=Yv s (.ptr b o):=rfl
theorem Xjg (s:FS)(b o:Nat):Yv s (.ptr b o)=(.ptr b o):=rfl
theorem Xmz (s:FS)(b o:Nat):gM s (.ptr b o)=Zi s (.ptr b o):=rfl
theorem Xr6:one (.ptr b o)=True:=rfl
theorem Xgw:lI (.ptr b o)=True:=rfl
theorem Xkv (o:Nat):Qh (.xp cs o)=(.xp cs o):=rfl
theorem Xu8 (g:Option Bool)(cs:List AV)(o:Nat):fh g (.xp cs o)=True:=rfl
theorem Xcs (o:Nat):Kh (.xp cs o)=[.xp cs o]:=rfl
theorem Xrv (s:FS)(cs:List AV)(o:Nat):Zi s (.xp cs o)=Yv s (.xp cs o):=rfl
theorem Xp1 (s:FS)(cs:List AV)(o:Nat):Yv s (.xp cs o)=(.xp cs o):=rfl
theorem Xw1 (s:FS)(cs:List AV)(o:Nat):gM s (.xp cs o)=Zi s (.xp cs o):=rfl
theorem Xvv (o:Nat):one (.xp cs o)=True:=rfl
theorem Xrp (o:Nat):lI (.xp cs o)=True:=rfl
theorem Xc5 (o:Nat)(r:List AV):Jz ((.xp cs o)::r)=none:=rfl
theorem Xjk (es b o n c:Nat):Qh (.sl es b o n c)=(.sl es b o n c):=rfl
theorem Xu4 (g:Option Bool)(es b o n c:Nat):fh g (.sl es b o n c)=True:=rfl
theorem Xbt (es b o n c:Nat):Kh (.sl es b o n c)=[.sl es b o n c]:=rfl
theorem Xpk (s:FS)(es b o n c:Nat):Zi s (.sl es b o n c)=Yv s (.sl es b o n c):=rfl
theorem Xzo (s:FS)(es b o n c:Nat):gM s (.sl es b o n c)=Zi s (.sl es b o n c):=rfl
theorem Xv8 (es b o n c:Nat):one (.sl es b o n c)=True:=rfl
theorem Xtd (es b o n c:Nat):lI (.sl es b o n c)=True:=rfl
theorem Xcn:Qh (.isl n cs)=(.isl n cs):=rfl
theorem Xlp (g:Option Bool)(n:Nat)(cs:List AV):fh g (.isl n cs)=True:=rfl
theorem Xa0:Kh (.isl n cs)=[.isl n cs]:=rfl
theorem Xgu (s:FS)(n:Nat)(cs:List AV):Zi s (.isl n cs)=Yv s (.isl n cs):=rfl
theorem Xh7 (s:FS)(n:Nat)(cs:List AV):Yv s (.isl n cs)=(.isl n cs):=rfl
theorem Xmy (s:FS)(n:Nat)(cs:List AV):gM s (.isl n cs)=Zi s (.isl n cs):=rfl
theorem Xpd:one (.isl n cs)=True:=rfl
theorem Xg5:lI (.isl n cs)=True:=rfl
theorem Qw9:Jz ((.isl n cs)::r)=none:=rfl
theorem Xa7:Qh .nils=.nils:=rfl
theorem Xh6 (g:Option Bool):fh g .nils=True:=rfl
theorem Quu:Kh .nils=[.nils]:=rfl
theorem Xd5 (s:FS):Zi s .nils=Yv s .nils:=rfl
theorem Xbd (s:FS):Yv s .nils=.nils:=rfl
theorem Xi4 (s:FS):gM s .nils=Zi s .nils:=rfl
theorem Xhl:one .nils=True:=rfl
theorem Xba:lI .nils=True:=rfl
theorem Qus:Jz (.nils::r)=none:=rfl
def Xbs:Qe m .nils=True:=by simp only[Qe]
theorem Xjt (ρ:Nat->Nat):aB ρ .nils=.nils:=by simp only[aB]
theorem Xl2:Qh (.cl f cs)=(.cl f cs):=rfl
theorem Xzh (g:Option Bool)(f:FuncId)(cs:List AV):fh g (.cl f cs)=True:=rfl
theorem Xdf:Kh (.cl f cs)=[.cl f cs]:=rfl
theorem Xnv (s:FS)(f:FuncId)(cs:List AV):Zi s (.cl f cs)=Yv s (.cl f cs):=rfl
theorem Xpr (s:FS)(f:FuncId)(cs:List AV):Yv s (.cl f cs)=(.cl f cs):=rfl
theorem Xum (s:FS)(f:FuncId)(cs:List AV):gM s (.cl f cs)=Zi s (.cl f cs):=rfl
theorem Xze:one (.cl f cs)=True:=rfl
theorem Xlq:lI (.cl f cs)=True:=rfl
theorem Xda:Jz ((.cl f cs)::r)=none:=rfl
theorem Xhr:Qh (.mp b)=(.mp b):=rfl
theorem Xws (g:Option Bool)(b:Nat):fh g (.mp b)=True:=rfl
theorem Xbw:Kh (.mp b)=[.mp b]:=rfl
theorem Xpb (s:FS)(b:Nat):Zi s (.mp b)=Yv s (.mp b):=rfl
theorem Xmr (s:FS)(b:Nat):Yv s (.mp b)=(.mp b):=rfl
theorem Xuj (s:FS)(b:Nat):gM s (.mp b)=Zi s (.mp b):=rfl
theorem Xxd:one (.mp b)=True:=rfl
theorem Xsq:lI (.mp b)=True:=rfl
theorem Xbb (v:Value):Qh (.lit v)=(.lit v):=rfl
theorem Xn8 (g:Option Bool)(v:Value):fh g (.lit v)=True:=rfl
theorem Qz7 (v:Value):Kh (.lit v)=[.lit v]:=rfl
theorem Xkc (s:FS)(v:Value):Zi s (.lit v)=Yv s (.lit v):=rfl
theorem Xhx (s:FS)(v:Value):Yv s (.lit v)=(.lit v):=rfl
theorem Xtu (s:FS)(v:Value):gM s (.lit v)=Zi s (.lit v):=rfl
theorem Qwy (v:Value)(r:List AV):Jz ((.lit v)::r)=none:=rfl
theorem Xgs (v:Value):Qe m (.lit v)=True:=by simp only[Qe]
theorem Xol (ρ:Nat->Nat)(v:Value):aB ρ (.lit v)=(.lit v):=by simp only[aB]
theorem Xby:Qh .any=.any:=rfl
theorem Xpn (g:Option Bool):fh g .any=True:=rfl
theorem Qxl:Kh .any=[.any]:=rfl
theorem Xft (s:FS):Zi s .any=Yv s .any:=rfl
theorem Xla (s:FS):Yv s .any=.any:=rfl
theorem Xnr (s:FS):gM s .any=Zi s .any:=rfl
theorem Qy9:Jz (.any::r)=none:=rfl
def Xkk:Qe m .any=True:=by simp only[Qe]
theorem Xop (ρ:Nat->Nat):aB ρ .any=.any:=by simp only[aB]
theorem Xbn (b:Bool)(v:AV):Qh (.dV b v)=v:=rfl
theorem Xtx (g:Option Bool)(b:Bool)(v:AV):fh g (.dV b v)=ob g (b=true):=rfl
theorem Xak:Kh (.agg cs)=cs:=rfl
theorem Xmj (s:FS)(es b o n c:Nat):Yv s (.sl es b o n c)=Ny n es o (s.H b):=by simp only[Yv,Ny]<;>(generalize s.H b=x;cases x<;>rfl)
theorem Xk4 (s:FS)(cs:List AV):Zi s (.agg cs)=.agg (cs.map (Yv s)):=rfl
theorem Xqc (s:FS)(cs:List AV):gM s (.aR cs)=.aR (cs.map (Zi s)):=rfl
theorem Xgh:lI (.agg cs)=True:=rfl
def Xkp:one (.lit (.pointer none))=True:=by simp[one,Value.oneCell']
def Xhu:one (.lit (.map none))=True:=by simp[one,Value.oneCell']
theorem Qwb:Jz (.ptr b o::r)=some b:=rfl
theorem Xcl (es b o n c:Nat)(r:List AV):Jz (.sl es b o n c::r)=some b:=rfl
theorem Xd2:Jz (.mp b::r)=some b:=rfl
theorem Qyr:Jz []=none:=rfl
theorem Xgy (s:FS)(l:List AV):nZ s l=Nz s (Jz l):=by simp only[nZ];generalize Jz l=x;cases x<;>rfl
theorem Xcy (s:FS)(b:Nat):Nz s (some b)=s.H b:=rfl
theorem Xc3 (s:FS):Nz s none=.free:=rfl
theorem Xqe (n:Int):bD (.int k n)=n:=rfl
theorem Xkd (b:Bool):eY (.bool b)=b:=rfl
theorem Xmb (l:List UInt8):cV (.str l)=l:=rfl
theorem Xnz (n:Int):cb k (.int k n)=True:=by simp[cb]
theorem Xrz (n:Int):gD (.int k n)=True:=by simp[gD]
theorem Xij (b:Bool):fL (.bool b)=True:=by simp[fL]
theorem Xn4 (l:List UInt8):ga (.str l)=True:=by simp[ga]
theorem Xqu (p:Prop):ob none p=p:=rfl
theorem Xnh (b:Bool)(p:Prop):ob (some b) p=(b=true->p):=rfl
theorem Xlj:cw none v=v:=rfl
theorem Xo8 (b:Bool)(v:AV):cw (some b) v=.dV b v:=rfl
theorem Xmn (s:FS):gB s none=none:=rfl
theorem Xrt (s:FS)(t:Nat)(w:Bool):gB s (some (t,w))=NA (s.T t) w:=by simp only[gB];generalize s.T t=x;rcases x with _|⟨_,y⟩|_|_|_|_|_|_|_|_|_|_|_|_|_<;>first|rfl|(cases y<;>rfl)
theorem Xfq (b w:Bool):NA (.bool b) w=some (b==w):=rfl
theorem Xqz (c b w:Bool):NA (.dV c (.bool b)) w=some (c&&(b==w)):=rfl
theorem Xhp (s:FS):gg s none=True:=by simp[gg]
theorem Xiu (s:FS)(t:Nat)(w:Bool):gg s (some (t,w))=Ef (s.T t):=by simp only[gg];generalize s.T t=x;rcases x with _|⟨_,y⟩|_|_|_|_|_|_|_|_|_|_|_|_|_<;>first|rfl|(cases y<;>rfl)
theorem Xdc (b:Bool):Ef (.bool b)=True:=by simp[Ef]
theorem Xg3 (c b:Bool):Ef (.dV c (.bool b))=True:=by simp[Ef]
theorem Xo6:yM (.int k) v=.int k (bD v):=rfl
theorem Xj7:yM .bool v=.bool (eY v):=rfl
theorem Xo0:yM .str v=.str (cV v):=rfl
theorem Xmt:yM .ref v=v:=rfl
theorem Xow:uV (.int k) v=cb k v:=rfl
theorem Xk7:uV .bool v=fL v:=rfl
theorem Xsw:uV .str v=ga v:=rfl
theorem Xlx:uV .ref v=True:=rfl
theorem Yb5 (k:SK)(cs:List AV)(o:Nat):wr (.sc k) cs o=yM k (cs.getD o .any):=rfl
theorem Ycw (o:Nat):wr (.ag n) cs o=.agg ((cs.drop o).take n):=rfl
theorem Xs4 (k:SK)(cs:List AV)(o:Nat):kK (.sc k) cs o=(o<cs.length/\uV k (cs.getD o .any)):=rfl
theorem Xss (o:Nat):kK (.ag n) cs o=(o+n<=cs.length):=rfl
theorem Xoz (k:SK)(cs:List AV)(o:Nat)(v:AV):uW (.sc k) cs o v=cs.set o v:=rfl
theorem Xnt (o:Nat)(vs:List AV):uW (.ag n) cs o (.agg vs)=Ym cs o vs:=rfl
theorem Xhz (k:SK)(cs:List AV)(o:Nat)(v:AV):BM (.sc k) cs o v=(o<cs.length/\one v):=rfl
theorem Xi2 (o:Nat)(vs:List AV):BM (.ag n) cs o (.agg vs)=(vs.length=n/\o+n<=cs.length):=rfl
theorem Xj0 (s:FS)(ty:TY)(b o:Nat)(v:AV):vd s ty (.ptr b o) v=NC (s.H b) ty o v:=by simp only[vd,NC];generalize s.H b=x;cases x<;>rfl
theorem Quo (ty:TY)(o:Nat)(v:AV):NC (.cells cs) ty o v=BM ty cs o v:=rfl
theorem Xko:jR (.ptr b o)=b:=rfl
theorem Xii:wT (.ptr b o)=o:=rfl
theorem Qrd:Zc (.cells cs)=cs:=rfl
theorem Ygs (s:FS)(i:Nat):rv s (.t i)=s.T i:=rfl
theorem Xp2 (s:FS)(a:Nat)(ty:TY):rv s (.cell a ty)=ND s ty (s.T a):=by simp only[rv];generalize s.T a=x;cases x<;>first|rfl|(simp only[ND,Iw];generalize s.H _=y;cases y<;>rfl)
theorem Xo3 (s:FS)(ty:TY)(b o:Nat):ND s ty (.ptr b o)=Iw (s.H b) ty o:=rfl
theorem Xc6 (ty:TY)(o:Nat):Iw (.cells cs) ty o=wr ty cs o:=rfl
def Xfp:aB (rl []) v=v:=tP _ (fun _=>rfl) v
def Vo:ay (rl []) l=l:=by rw[Zx];exact (List.map_congr_left fun x _=>tP _ (fun _=>rfl) x).trans (map_id l)
def Xd1:Qw (rl []) (.cells cs)=.cells cs:=by simp only[Qw,Vo]
theorem Xud:rl [] b=b:=rfl
theorem Xll (r:List (Nat×Nat))(b:Nat):rl ((i,j)::r) b=bif i==b then j else rl r b:=rfl
theorem Xr3 (ρ:Nat->Nat)(cs:List AV):aB ρ (.agg cs)=.agg (ay ρ cs):=by simp only[aB]
theorem Xtb (ρ:Nat->Nat)(cs:List AV):aB ρ (.aR cs)=.aR (ay ρ cs):=by simp only[aB]
theorem Xul (ρ:Nat->Nat)(cs:List AV)(o:Nat):aB ρ (.xp cs o)=.xp (ay ρ cs) o:=by simp only[aB]
theorem Xqg (ρ:Nat->Nat)(n:Nat)(cs:List AV):aB ρ (.isl n cs)=.isl n (ay ρ cs):=by simp only[aB]
theorem Xlk (ρ:Nat->Nat)(b o:Nat):aB ρ (.ptr b o)=.ptr (ρ b) o:=by simp only[aB]
theorem Xz0 (ρ:Nat->Nat)(es b o n c:Nat):aB ρ (.sl es b o n c)=.sl es (ρ b) o n c:=by simp only[aB]
theorem Xvz (ρ:Nat->Nat)(b:Nat):aB ρ (.mp b)=.mp (ρ b):=by simp only[aB]
theorem Xxx (ρ:Nat->Nat)(f:FuncId)(cs:List AV):aB ρ (.cl f cs)=.cl f (ay ρ cs):=by simp only[aB]
def Xit:Qe m (.agg cs)=ah m cs:=by simp only[Qe]
def Xh3:Qe m (.aR cs)=ah m cs:=by simp only[Qe]
def Xp4:Qe m (.xp cs o)=ah m cs:=by simp only[Qe]
def Xgl:Qe m (.isl n cs)=ah m cs:=by simp only[Qe]
theorem Xqq (m f:Nat)(cs:List AV):Qe m (.cl f cs)=ah m cs:=by simp only[Qe]
def Xh8:Qe m (.ptr b o)=(b<m):=by simp only[Qe]
theorem Xnk (m es b o n c:Nat):Qe m (.sl es b o n c)=(b<m):=by simp only[Qe]
def Xm8:Qe m (.mp b)=(b<m):=by simp only[Qe]
theorem Xlb (s:FS):Un s []=True:=by simp[Un]
theorem Xyu (s:FS)(i:Nat)(r:List RS):Un s (.t i::r)=Un s r:=rfl
theorem Xbl (s:FS)(a:Nat)(ty:TY)(r:List RS):Un s (.cell a ty::r)=(NF s ty (s.T a)/\Un s r):=by simp only[Un];congr 1;generalize s.T a=x;cases x<;>first|rfl|(simp only[NF,Ix];generalize s.H _=y;cases y<;>rfl)
theorem Xb9 (s:FS)(ty:TY)(b o:Nat):NF s ty (.ptr b o)=Ix (s.H b) ty o:=rfl
theorem Qul (ty:TY)(o:Nat):Ix (.cells cs) ty o=kK ty cs o:=rfl
theorem Xq3 (s:FS)(x:RS):iE s [x]=rv s x:=rfl
theorem Xt5 (s:FS)(x y:RS)(l:List RS):iE s (x::y::l)=.aR (rv s x::rv s y::l.map (rv s)):=rfl
theorem Xcr (rs:List RS)(r:AV)(s:St):Ed rs r .ret s=(Un s.fs rs/\gM s.fs (iE s.fs rs)=r):=rfl
theorem Qrn (rs:List RS)(r:AV)(s:St):Ed rs r .normal s=(Un s.fs rs/\gM s.fs (iE s.fs rs)=r):=rfl
theorem Qvk (rs:List RS)(r:AV)(i:Nat)(s:St):Ed rs r (.exit i) s=False:=rfl
theorem Qqq (Q:EX->St->Prop)(s:St):BS i Q .normal s=Q .normal s:=rfl
theorem Qzo (Q:EX->St->Prop)(s:St):BS i Q .ret s=Q .ret s:=rfl
theorem Quq (Q:EX->St->Prop)(s:St):BS i Q (.exit j) s=if j=i then Q .normal s else Q (.exit j) s:=rfl
theorem Qre {σ:Type}(I:σ->Prop)(df:σ->St)(μ:σ->Nat)(x:σ)(Q:EX->St->Prop)(s:St):Is I df μ x Q .normal s=∃ y,I y/\(∃ ρ,Sub (rl ρ) s (df y))/\μ y<μ x:=rfl
theorem Xdd {σ:Type}(I:σ->Prop)(df:σ->St)(μ:σ->Nat)(x:σ)(Q:EX->St->Prop)(s:St):Is I df μ x Q .ret s=Q .ret s:=rfl
theorem Qw1 {σ:Type}(I:σ->Prop)(df:σ->St)(μ:σ->Nat)(x:σ)(Q:EX->St->Prop)(i:Nat)(s:St):Is I df μ x Q (.exit i) s=Q (.exit i) s:=rfl
theorem Yd8 (s:FS)(i:Nat):aV gl s (.t i)=s.T i:=rfl
theorem Yc4 (s:FS)(v:AV):aV gl s (.c v)=v:=rfl
theorem Xwe (s:FS)(i:Nat):aV gl s (.gl i)=gl i:=rfl
theorem Xml (s:FS):aD gl s []=[]:=rfl
theorem Xhs (s:FS)(x:TV)(r:List TV):aD gl s (x::r)=aV gl s x::aD gl s r:=rfl
theorem Xc1 (x y z:AV):Jp c .pick [x,y,z]=(fh c x/\ob c (eY (Qh x)=true->fh none y)/\ob c (eY (Qh x)=false->fh none z)):=rfl
theorem Xto:Jp c .mv l=Qr c l:=rfl
theorem Xg1:Jp c .not l=Qr c l:=rfl
theorem Xpo (o:BinOp)(k:IntKind)(l:List AV):Jp c (.ar o k) l=Qr c l:=rfl
theorem Xrr (o:BinOp)(k:IntKind)(l:List AV):Jp c (.dv o k) l=Qr c l:=rfl
theorem Xsu (o:BinOp)(k:IntKind)(l:List AV):Jp c (.bt o k) l=Qr c l:=rfl
theorem Xnb (o:BinOp)(k:IntKind)(l:List AV):Jp c (.sh o k) l=Qr c l:=rfl
theorem Xmd (o:BinOp)(k:IntKind)(l:List AV):Jp c (.cm o k) l=Qr c l:=rfl
theorem Xq0:Jp c (.cB ne) l=Qr c l:=rfl
theorem Xpa:Jp c (.cS ne) l=Qr c l:=rfl
theorem Xgf:Jp c .cat l=Qr c l:=rfl
theorem Xpw:Jp c (.cv k) l=Qr c l:=rfl
theorem Xhh (off:Nat)(l:List AV):Jp c (.yO ty off) l=Qr c l:=rfl
theorem Xg7 (es len:Nat)(ty:TY)(l:List AV):Jp c (.nh es len ty) l=Qr c l:=rfl
theorem Xj2:Jp c .yP l=Qr c l:=rfl
theorem Xbg (off:Nat)(l:List AV):Jp c (.jo off) l=Qr c l:=rfl
theorem Qwu (len es:Nat)(l:List AV):Jp c (.fq len es) l=Qr c l:=rfl
theorem Qzy:Jp c (.ft es) l=Qr c l:=rfl
theorem Xqb:Jp c (.ld ty) l=Qr c l:=rfl
theorem Xdg:Jp c .nW l=Qr c l:=rfl
theorem Xbf:Jp c .gb l=Qr c l:=rfl
theorem Xd7:Jp c .nX l=Qr c l:=rfl
theorem Xkq (lo hi:Bool)(l:List AV):Jp c (.yQ lo hi) l=Qr c l:=rfl
theorem Xk5 (lo hi:Bool)(l:List AV):Jp c (.oV es lo hi) l=Qr c l:=rfl
theorem Xhj:Jp c (.ext i) l=Qr c l:=rfl
theorem Qx7:Jp c .fS l=Qr c l:=rfl
theorem Xiw (ps:List (Nat×Nat))(l:List AV):Jp c (.wP z ps) l=Qr c l:=rfl
theorem Xh2:Jp c (.yR f) l=Qr c l:=rfl
theorem Xrk:Jp c (.mn k) l=Qr c l:=rfl
theorem Xmi:Jp c (.mx k) l=Qr c l:=rfl
theorem Xca:Jp c (.eZ ne) l=Qr c l:=rfl
theorem Xk8:Jp c .nY l=Qr c l:=rfl
theorem Yc6:qv .mv [x] bk=x:=rfl
def Ycg:qp .mv [x] bk=True:=by simp[qp]
theorem Xvo:qv .not [x] bk=.bool (!eY x):=rfl
theorem Xx9:qp .not [x] bk=fL x:=rfl
theorem Xnm (c x y:AV)(bk:Bk):qv .pick [c,x,y] bk=.bool (bif eY c then eY x else eY y):=rfl
theorem Xtv (c x y:AV)(bk:Bk):qp .pick [c,x,y] bk=(fL c/\(eY c=true->fL x)/\(eY c=false->fL y)):=rfl
theorem Ye6 (o:BinOp)(k:IntKind)(x y:AV)(bk:Bk):qv (.ar o k) [x,y] bk=.int k (k.wrap (yN o (bD x) (bD y))):=rfl
theorem Ybp (o:BinOp)(k:IntKind)(x y:AV)(bk:Bk):qp (.ar o k) [x,y] bk=(cb k x/\cb k y):=rfl
theorem Ycq (o:BinOp)(k:IntKind)(x y:AV)(bk:Bk):qv (.dv o k) [x,y] bk=.int k (BA o k (bD x) (bD y)):=rfl
theorem Ye1 (o:BinOp)(k:IntKind)(x y:AV)(bk:Bk):qp (.dv o k) [x,y] bk=(cb k x/\cb k y/\bD y≠0):=rfl
theorem Ydx (o:BinOp)(k:IntKind)(x y:AV)(bk:Bk):qv (.bt o k) [x,y] bk=.int k (bits o k (bD x) (bD y)):=rfl
theorem Yb2 (o:BinOp)(k:IntKind)(x y:AV)(bk:Bk):qp (.bt o k) [x,y] bk=(cb k x/\cb k y):=rfl
theorem Yb8 (o:BinOp)(k:IntKind)(x y:AV)(bk:Bk):qv (.sh o k) [x,y] bk=.int k (BB o k (bD x) (bD y)):=rfl
theorem Ybu (o:BinOp)(k:IntKind)(x y:AV)(bk:Bk):qp (.sh o k) [x,y] bk=(cb k x/\gD y/\0<=bD y):=rfl
theorem Ydz (o:BinOp)(k:IntKind)(x y:AV)(bk:Bk):qv (.cm o k) [x,y] bk=.bool (tJ o (bD x) (bD y)):=rfl
theorem Ydl (o:BinOp)(k:IntKind)(x y:AV)(bk:Bk):qp (.cm o k) [x,y] bk=(cb k x/\cb k y):=rfl
theorem Ydk:qv (.cB ne) [x,y] bk=.bool (ne != (eY x==eY y)):=rfl
theorem Ybb:qp (.cB ne) [x,y] bk=(fL x/\fL y):=rfl
theorem Ydv:qv (.cS ne) [x,y] bk=.bool (ne != (cV x==cV y)):=rfl
theorem Ydj:qp (.cS ne) [x,y] bk=(ga x/\ga y):=rfl
theorem Xyb:qv .cat [x,y] bk=.str (cV x++cV y):=rfl
theorem Xvl:qp .cat [x,y] bk=(ga x/\ga y/\(cV x).length+(cV y).length<=9223372036854775807):=rfl
theorem Ye5:qv (.cv k) [x] bk=.int k (k.wrap (bD x)):=rfl
theorem Yad:qp (.cv k) [x] bk=gD x:=rfl
theorem Xyr (off:Nat)(cs:List AV)(bk:Bk):qv (.yO ty off) [.agg cs] bk=wr ty cs off:=rfl
theorem Xy1 (off:Nat)(cs:List AV)(bk:Bk):qp (.yO ty off) [.agg cs] bk=kK ty cs off:=rfl
theorem Xy0 (es len:Nat)(ty:TY)(cs:List AV)(i:AV)(bk:Bk):qv (.nh es len ty) [.agg cs,i] bk=wr ty cs ((bD i).toNat*es):=rfl
theorem Xwd (es len:Nat)(ty:TY)(cs:List AV)(i:AV)(bk:Bk):qp (.nh es len ty) [.agg cs,i] bk=(gD i/\0<=bD i/\bD i<len/\kK ty cs ((bD i).toNat*es)):=rfl
theorem Xya (x i:AV)(bk:Bk):qv .yP [x,i] bk=.int .u8 ((cV x).getD (bD i).toNat 0).toNat:=rfl
theorem Xzd (x i:AV)(bk:Bk):qp .yP [x,i] bk=(ga x/\gD i/\0<=bD i/\bD i<(cV x).length):=rfl
theorem Xqo (o b off:Nat)(bk:Bk):qv (.jo o) [.ptr b off] bk=.ptr b (off+o):=rfl
theorem Xt1 (o b off:Nat)(bk:Bk):qp (.jo o) [.ptr b off] bk=True:=by simp[qp]
theorem Xfo (o off:Nat)(cs:List AV)(bk:Bk):qv (.jo o) [.xp cs off] bk=.xp cs (off+o):=rfl
theorem Xjo (o off:Nat)(cs:List AV)(bk:Bk):qp (.jo o) [.xp cs off] bk=True:=by simp[qp]
theorem Xj1 (len es b off:Nat)(i:AV)(bk:Bk):qv (.fq len es) [.ptr b off,i] bk=.ptr b (off+(bD i).toNat*es):=rfl
theorem Xhe (len es b off:Nat)(i:AV)(bk:Bk):qp (.fq len es) [.ptr b off,i] bk=(gD i/\0<=bD i/\bD i<len):=rfl
theorem Xbm (len es off:Nat)(cs:List AV)(i:AV)(bk:Bk):qv (.fq len es) [.xp cs off,i] bk=.xp cs (off+(bD i).toNat*es):=rfl
theorem Xbo (len es off:Nat)(cs:List AV)(i:AV)(bk:Bk):qp (.fq len es) [.xp cs off,i] bk=(gD i/\0<=bD i/\bD i<len):=rfl
theorem Xhq (es es2 b off n c:Nat)(i:AV)(bk:Bk):qv (.ft es) [.sl es2 b off n c,i] bk=.ptr b (off+(bD i).toNat*es):=rfl
theorem Xju (es es2 b off n c:Nat)(i:AV)(bk:Bk):qp (.ft es) [.sl es2 b off n c,i] bk=(es2=es/\gD i/\0<=bD i/\bD i<n):=rfl
theorem Xd4 (i:AV)(bk:Bk):qv (.ft es) [.isl n cs,i] bk=.xp cs ((bD i).toNat*es):=rfl
theorem Xcj (i:AV)(bk:Bk):qp (.ft es) [.isl n cs,i] bk=(gD i/\0<=bD i/\bD i<n/\(bD i).toNat*es<cs.length):=rfl
theorem Ydd (b off:Nat)(cs:List AV):qv (.ld ty) [.ptr b off] (.cells cs)=wr ty cs off:=rfl
theorem Ydm (b off:Nat)(cs:List AV):qp (.ld ty) [.ptr b off] (.cells cs)=kK ty cs off:=rfl
theorem Xxz (off:Nat)(cs:List AV)(bk:Bk):qv (.ld ty) [.xp cs off] bk=wr ty cs off:=rfl
theorem Xvj (off:Nat)(cs:List AV)(bk:Bk):qp (.ld ty) [.xp cs off] bk=kK ty cs off:=rfl
theorem Xpx:qv .nW [x] bk=.int .i64 (cV x).length:=rfl
theorem Xq4:qp .nW [x] bk=ga x:=rfl
theorem Xl9:qv .gb [.isl n cs] bk=.int .i64 n:=rfl
def Xk1:qp .gb [.isl n cs] bk=True:=by simp[qp]
theorem Xl3 (es b o n c:Nat)(bk:Bk):qv .gb [.sl es b o n c] bk=.int .i64 n:=rfl
theorem Xgo (es b o n c:Nat)(bk:Bk):qp .gb [.sl es b o n c] bk=True:=by simp[qp]
theorem Xfz:qv .gb [.nils] bk=.int .i64 0:=rfl
def Xi9:qp .gb [.nils] bk=True:=by simp[qp]
theorem Xt0:qv .nX [.mp b] (.az kvs dn)=.int .i64 kvs.length:=rfl
def Xti:qp .nX [.mp b] (.az kvs dn)=True:=by simp[qp]
theorem Xux (lo hi:Bool)(x:AV)(r:List AV)(bk:Bk):qv (.yQ lo hi) (x::r) bk=.str (((cV x).drop (Xs lo r).toNat).take ((Jf lo hi (cV x).length r).toNat-(Xs lo r).toNat)):=rfl
theorem Xxn (lo hi:Bool)(x:AV)(r:List AV)(bk:Bk):qp (.yQ lo hi) (x::r) bk=(ga x/\nk lo hi r/\0<=Xs lo r/\Xs lo r<=Jf lo hi (cV x).length r/\Jf lo hi (cV x).length r<=(cV x).length):=rfl
theorem Xsy (lo hi:Bool)(r:List AV)(bk:Bk):qv (.oV es lo hi) (.isl n cs::r) bk=.isl ((Jf lo hi n r).toNat-(Xs lo r).toNat) ((cs.drop ((Xs lo r).toNat*es)).take (((Jf lo hi n r).toNat-(Xs lo r).toNat)*es)):=rfl
theorem Xps (lo hi:Bool)(r:List AV)(bk:Bk):qp (.oV es lo hi) (.isl n cs::r) bk=(nk lo hi r/\0<=Xs lo r/\Xs lo r<=Jf lo hi n r/\Jf lo hi n r<=n/\cs.length<=n*es):=rfl
theorem Xmp {es es2 b off n c:Nat}{lo hi:Bool}{r:List AV}{bk:Bk}(h:Xs lo r<c):qv (.oV es lo hi) (.sl es2 b off n c::r) bk=.sl es b (off+(Xs lo r).toNat*es) ((Jf lo hi n r).toNat-(Xs lo r).toNat) (c-(Xs lo r).toNat):=am h
theorem Xqa {es es2 b off n c:Nat}{lo hi:Bool}{r:List AV}{bk:Bk}(h:¬ Xs lo r<c):qv (.oV es lo hi) (.sl es2 b off n c::r) bk=.isl 0 []:=aa h
theorem Xr1 (es es2 b off n c:Nat)(lo hi:Bool)(r:List AV)(bk:Bk):qp (.oV es lo hi) (.sl es2 b off n c::r) bk=(es2=es/\nk lo hi r/\0<=Xs lo r/\Xs lo r<=Jf lo hi n r/\Jf lo hi n r<=c):=rfl
theorem Xyd:qv (.ext i) [.aR vs] bk=vs.getD i .any:=rfl
theorem Xwx:qp (.ext i) [.aR vs] bk=(i<vs.length):=rfl
theorem Xid:qv .fS [.ptr b o] bk=.ptr b o:=rfl
def Xj8:qp .fS [.ptr b o] bk=True:=by simp[qp]
theorem Xce (o:Nat)(bk:Bk):qv .fS [.xp cs o] bk=.xp cs o:=rfl
theorem Xcq (o:Nat)(bk:Bk):qp .fS [.xp cs o] bk=True:=by simp[qp]
theorem Xz2 (ps:List (Nat×Nat))(vs:List AV)(bk:Bk):qv (.wP z ps) vs bk=.agg (Jg z ps vs):=by rcases vs with _|⟨a,_|⟨b,_|⟨c,_|⟨d,r⟩⟩⟩⟩<;>rfl
theorem Xwu (ps:List (Nat×Nat))(vs:List AV)(bk:Bk):qp (.wP z ps) vs bk=Zf z.length ps vs:=by rcases vs with _|⟨a,_|⟨b,_|⟨c,_|⟨d,r⟩⟩⟩⟩<;>rfl
def Xw4:qv (.yR f) vs bk=.cl f vs:=by rcases vs with _|⟨a,_|⟨b,_|⟨c,_|⟨d,r⟩⟩⟩⟩<;>rfl
def Xuk:qp (.yR f) vs bk=True:=by rcases vs with _|⟨a,_|⟨b,_|⟨c,_|⟨d,r⟩⟩⟩⟩<;>simp[qp]
theorem Ydh:qv (.mn k) [x,y] bk=.int k (if bD y<bD x then bD y else bD x):=rfl
theorem Ycj:qp (.mn k) [x,y] bk=(cb k x/\cb k y):=rfl
theorem Ybs:qv (.mx k) [x,y] bk=.int k (if bD y>bD x then bD y else bD x):=rfl
theorem Ybq:qp (.mx k) [x,y] bk=(cb k x/\cb k y):=rfl
theorem Xkb:qv (.eZ ne) [.lit (.pointer none)] bk=.bool (!ne):=rfl
def Xkg:qp (.eZ ne) [.lit (.pointer none)] bk=True:=by simp[qp]
theorem Xil:qv (.eZ ne) [.ptr b o] bk=.bool ne:=rfl
def Xhk:qp (.eZ ne) [.ptr b o] bk=True:=by simp[qp]
theorem Xjv (o:Nat)(bk:Bk):qv (.eZ ne) [.xp cs o] bk=.bool ne:=rfl
theorem Xk6 (o:Nat)(bk:Bk):qp (.eZ ne) [.xp cs o] bk=True:=by simp[qp]
theorem Xq2:qv .nY [.nils] bk=.str []:=rfl
def Xln:qp .nY [.nils] bk=True:=by simp[qp]
theorem Xs8:qv .nY [.isl n cs] bk=.str (toB (cs.take n)):=rfl
theorem Xs7:qp .nY [.isl n cs] bk=(n<=cs.length/\∀ v ∈ cs.take n,cb .u8 v):=rfl
theorem Xsp (es b off n c:Nat)(cs:List AV):qv .nY [.sl es b off n c] (.cells cs)=.str (toB ((cs.drop off).take n)):=rfl
theorem Xr5 (es b off n c:Nat)(cs:List AV):qp .nY [.sl es b off n c] (.cells cs)=(es=1/\off+n<=cs.length/\∀ v ∈ (cs.drop off).take n,cb .u8 v):=rfl
theorem Xtl (x y:Int):yN .add x y=x+y:=rfl
theorem Xso (x y:Int):yN .sub x y=x-y:=rfl
theorem Xm4 (x y:Int):yN .mul x y=x*y:=rfl
theorem Xpm (x y:Int):tJ .eql x y=(x==y):=rfl
theorem Xpf (x y:Int):tJ .neq x y=(x != y):=rfl
theorem Xtt (x y:Int):tJ .lss x y=decide (x<y):=rfl
theorem Xpt (x y:Int):tJ .leq x y=decide (x<=y):=rfl
theorem Xq5 (x y:Int):tJ .gtr x y=decide (y<x):=rfl
theorem Xmq (x y:Int):tJ .geq x y=decide (y<=x):=rfl
theorem Xrx (x y:Int):BA .quo k x y=k.wrap (x.tdiv y):=rfl
theorem Xrb (x y:Int):BA .rem k x y=x.tmod y:=rfl
theorem Xmc (x y:Int):BB .shl k x y=k.wrap (x*2 ^ min y.toNat k.bits):=rfl
theorem Xnf (x y:Int):BB .shr k x y=x.fdiv (2 ^ min y.toNat k.bits):=rfl
def Xmw:Xs false r=0:=by cases r<;>rfl
theorem Xht:Xs true (x::r)=bD x:=rfl
theorem Xm2 (lo:Bool)(n:Nat)(r:List AV):Jf lo false n r=n:=by rcases r with _|⟨a,_|⟨b,_|⟨d,r⟩⟩⟩<;>simp[Jf]
theorem Xi6:Jf false true n [x]=bD x:=rfl
theorem Xj4:Jf true true n [x,y]=bD y:=rfl
def Xkw:nk false false []=True:=by simp[nk]
def Xtw:nk true false [x]=cb .i64 x:=by simp[nk]
def Xng:nk false true [x]=cb .i64 x:=by simp[nk]
def Xgq:nk true true [x,y]=(cb .i64 x/\cb .i64 y):=by simp[nk]
theorem Xfw (q m:Nat)(ps:List (Nat×Nat))(r:List AV)(k:IntKind)(n:Int):Jg z ((q,m)::ps) ((.int k n)::r)=Jg (z.set q (.int k n)) ps r:=rfl
theorem Xbz (n1 q m:Nat)(ps:List (Nat×Nat))(r:List AV)(k:IntKind)(n:Int):Zf n1 ((q,m)::ps) ((.int k n)::r)=(one (.int k n)/\m=1/\q<n1/\Zf n1 ps r):=rfl
theorem Xcw (q m:Nat)(ps:List (Nat×Nat))(r:List AV)(b:Bool):Jg z ((q,m)::ps) ((.bool b)::r)=Jg (z.set q (.bool b)) ps r:=rfl
theorem Qyu (n1 q m:Nat)(ps:List (Nat×Nat))(r:List AV)(b:Bool):Zf n1 ((q,m)::ps) ((.bool b)::r)=(one (.bool b)/\m=1/\q<n1/\Zf n1 ps r):=rfl
theorem Xfl (q m:Nat)(ps:List (Nat×Nat))(r:List AV)(l:List UInt8):Jg z ((q,m)::ps) ((.str l)::r)=Jg (z.set q (.str l)) ps r:=rfl
theorem Xci (n1 q m:Nat)(ps:List (Nat×Nat))(r:List AV)(l:List UInt8):Zf n1 ((q,m)::ps) ((.str l)::r)=(one (.str l)/\m=1/\q<n1/\Zf n1 ps r):=rfl
theorem Xgz (o m:Nat)(ps:List (Nat×Nat))(cs r:List AV):Jg z ((o,m)::ps) (.agg cs::r)=Jg (Ym z o cs) ps r:=rfl
theorem Xcu (n o m:Nat)(ps:List (Nat×Nat))(cs r:List AV):Zf n ((o,m)::ps) (.agg cs::r)=(cs.length=m/\o+m<=n/\Zf n ps r):=rfl
theorem Xg2 (q m:Nat)(ps:List (Nat×Nat))(r:List AV)(b o:Nat):Jg z ((q,m)::ps) ((.ptr b o)::r)=Jg (z.set q (.ptr b o)) ps r:=rfl
theorem Xcf (n1 q m:Nat)(ps:List (Nat×Nat))(r:List AV)(b o:Nat):Zf n1 ((q,m)::ps) ((.ptr b o)::r)=(one (.ptr b o)/\m=1/\q<n1/\Zf n1 ps r):=rfl
theorem Xqp (q m:Nat)(ps:List (Nat×Nat))(r:List AV)(cs:List AV)(o:Nat):Jg z ((q,m)::ps) ((.xp cs o)::r)=Jg (z.set q (.xp cs o)) ps r:=rfl
theorem Xgt (n1 q m:Nat)(ps:List (Nat×Nat))(r:List AV)(cs:List AV)(o:Nat):Zf n1 ((q,m)::ps) ((.xp cs o)::r)=(one (.xp cs o)/\m=1/\q<n1/\Zf n1 ps r):=rfl
theorem Xnx (q m:Nat)(ps:List (Nat×Nat))(r:List AV)(es b o n c:Nat):Jg z ((q,m)::ps) ((.sl es b o n c)::r)=Jg (z.set q (.sl es b o n c)) ps r:=rfl
theorem Xlg (n1 q m:Nat)(ps:List (Nat×Nat))(r:List AV)(es b o n c:Nat):Zf n1 ((q,m)::ps) ((.sl es b o n c)::r)=(one (.sl es b o n c)/\m=1/\q<n1/\Zf n1 ps r):=rfl
theorem Xkl (q m:Nat)(ps:List (Nat×Nat))(r:List AV)(n:Nat)(cs:List AV):Jg z ((q,m)::ps) ((.isl n cs)::r)=Jg (z.set q (.isl n cs)) ps r:=rfl
theorem Xbc (n1 q m:Nat)(ps:List (Nat×Nat))(r:List AV)(n:Nat)(cs:List AV):Zf n1 ((q,m)::ps) ((.isl n cs)::r)=(one (.isl n cs)/\m=1/\q<n1/\Zf n1 ps r):=rfl
theorem Xch (q m:Nat)(ps:List (Nat×Nat))(r:List AV):Jg z ((q,m)::ps) (.nils::r)=Jg (z.set q .nils) ps r:=rfl
theorem Qz6 (n1 q m:Nat)(ps:List (Nat×Nat))(r:List AV):Zf n1 ((q,m)::ps) (.nils::r)=(one .nils/\m=1/\q<n1/\Zf n1 ps r):=rfl
theorem Xre (q m:Nat)(ps:List (Nat×Nat))(r:List AV)(f:FuncId)(cs:List AV):Jg z ((q,m)::ps) ((.cl f cs)::r)=Jg (z.set q (.cl f cs)) ps r:=rfl
theorem Xl0 (n1 q m:Nat)(ps:List (Nat×Nat))(r:List AV)(f:FuncId)(cs:List AV):Zf n1 ((q,m)::ps) ((.cl f cs)::r)=(one (.cl f cs)/\m=1/\q<n1/\Zf n1 ps r):=rfl
theorem Xon (q m:Nat)(ps:List (Nat×Nat))(r:List AV)(b:Nat):Jg z ((q,m)::ps) ((.mp b)::r)=Jg (z.set q (.mp b)) ps r:=rfl
theorem Xi1 (n1 q m:Nat)(ps:List (Nat×Nat))(r:List AV)(b:Nat):Zf n1 ((q,m)::ps) ((.mp b)::r)=(one (.mp b)/\m=1/\q<n1/\Zf n1 ps r):=rfl
theorem Xjp (q m:Nat)(ps:List (Nat×Nat))(r:List AV)(v:Value):Jg z ((q,m)::ps) ((.lit v)::r)=Jg (z.set q (.lit v)) ps r:=rfl
theorem Xb4 (n1 q m:Nat)(ps:List (Nat×Nat))(r:List AV)(v:Value):Zf n1 ((q,m)::ps) ((.lit v)::r)=(one (.lit v)/\m=1/\q<n1/\Zf n1 ps r):=rfl
theorem Xgr:Jg z [] []=z:=rfl
def Xbr:Zf n [] []=True:=by simp[Zf]
theorem Yjo:fj .mv=false:=rfl
theorem Yja:fj .not=true:=rfl
theorem Yit:fj .pick=true:=rfl
theorem Yi1 {o}{k}:fj (.ar o k)=true:=rfl
theorem Yjb {o}{k}:fj (.dv o k)=true:=rfl
theorem Yio {o}{k}:fj (.bt o k)=true:=rfl
theorem Yjl {o}{k}:fj (.sh o k)=true:=rfl
theorem Yih {o}{k}:fj (.cm o k)=true:=rfl
theorem Yiw {n}:fj (.cB n)=true:=rfl
theorem Yjj {n}:fj (.cS n)=true:=rfl
theorem Yfu:fj .cat=true:=rfl
theorem Yhh {k}:fj (.cv k)=true:=rfl
theorem Yga {t}{n}:fj (.yO t n)=true:=rfl
theorem Ygj {i}{j}{t}:fj (.nh i j t)=true:=rfl
theorem Yex:fj .yP=true:=rfl
theorem Yh4 {i}:fj (.jo i)=true:=rfl
theorem Yh1 {i}{j}:fj (.fq i j)=true:=rfl
theorem Yg2 {i}:fj (.ft i)=true:=rfl
theorem Yg5 {t}:fj (.ld t)=true:=rfl
theorem Yfa:fj .nW=true:=rfl
theorem Yh3:fj .gb=true:=rfl
theorem Ygc:fj .nX=true:=rfl
theorem Yhm {a}{b}:fj (.yQ a b)=true:=rfl
theorem Ygp {i}{a}{b}:fj (.oV i a b)=true:=rfl
theorem Yf0 {i}:fj (.ext i)=true:=rfl
theorem Yhu:fj .fS=true:=rfl
theorem Yez {z}{p}:fj (.wP z p)=true:=rfl
theorem Ygq {f}:fj (.yR f)=true:=rfl
theorem Yfk {k}:fj (.mn k)=true:=rfl
theorem Yf7 {k}:fj (.mx k)=true:=rfl
theorem Yet {n}:fj (.eZ n)=true:=rfl
theorem Yg9:fj .nY=true:=rfl
attribute [go_sem] Yjo Yja Yit Yi1 Yjb Yio Yjl Yih Yiw Yjj Yfu Yhh Yga Ygj Yex Yh4 Yh1 Yg2 Yg5 Yfa Yh3 Ygc Yhm Ygp Yf0 Yhu Yez Ygq Yfk Yf7 Yet Yg9
attribute [go_sem] Ykf Yke Xl6 Ygx Yjv Yj9 Yj6 Yha Yi7 Yes Yjz Yib Yiz Yg8 Yia Ydp Yf3 Ycd Yau Yhw Xvr Yd9 Ydg Yh7 Xb8 Xox Xww yX tM St.put St.aI St.nw St.ca Iy Xbx Xyc Xke Qr kR Ux Xe jQ qY Zd ah Qs qd vh bX Qw ay Sub Xrf Xjq Yht Yg7 Qxs Yh0 Yho Yb3 cond_true cond_false true_and and_true map_cons List.map_nil cons_append nil_append Option.toList_some Option.toList_none List.getD_cons_zero List.getD_cons_succ List.set_cons_zero List.set_cons_succ List.take_succ_cons List.take_zero List.drop_succ_cons List.drop_zero length_cons List.length_nil Nat.zero_add Nat.add_zero Bool.and_true Bool.true_and Bool.and_false Bool.false_and Bool.or_true Bool.true_or Bool.or_false Bool.false_or Bool.not_true Bool.not_false Bool.not_not forall_const implies_true true_implies Bool.false_eq_true false_implies imp_self Xb6 Xnn Qzr Xjb Xic Xns Xoe Xhd Qww Xjc Xms Qxb Xld Quk Xc8 Xc7 Xgk Xgd Xcg Quj Xd8 Xfm Xcb Xnd Qwe Xh1 Xhn Xo5 Xsj Xgi Xa6 Xlh Xt6 Xdh Xqj Xi8 Xsv Xaz Xbq Xrm Qvq Xhm Xjw Qxw Xct Xsz Xax Xfy Xjg Xmz Xr6 Xgw Xkv Xu8 Xcs Xrv Xp1 Xw1 Xvv Xrp Xc5 Xjk Xu4 Xbt Xpk Xzo Xv8 Xtd Xcn Xlp Xa0 Xgu Xh7 Xmy Xpd Xg5 Qw9 Xa7 Xh6 Quu Xd5 Xbd Xi4 Xhl Xba Qus Xbs Xjt Xl2 Xzh Xdf Xnv Xpr Xum Xze Xlq Xda Xhr Xws Xbw Xpb Xmr Xuj Xxd Xsq Xbb Xn8 Qz7 Xkc Xhx Xtu Qwy Xgs Xol Xby Xpn Qxl Xft Xla Xnr Qy9 Xkk Xop Xbn Xtx Xak Xmj Xk4 Xqc Xgh Xkp Xhu Qwb Xcl Xd2 Qyr Xgy Xcy Xc3 Xqe Xkd Xmb Xnz Xrz Xij Xn4 Xqu Xnh Xlj Xo8 Xmn Xrt Xfq Xqz Xhp Xiu Xdc Xg3 Xo6 Xj7 Xo0 Xmt Xow Xk7 Xsw Xlx Yb5 Ycw Xs4 Xss Xoz Xnt Xhz Xi2 Xj0 Quo Xko Xii Qrd Ygs Xp2 Xo3 Xc6 Xfp Vo Xd1 Xud Xll Xr3 Xtb Xul Xqg Xlk Xz0 Xvz Xxx Xit Xh3 Xp4 Xgl Xqq Xh8 Xnk Xm8 Xlb Xyu Xbl Xb9 Qul Xq3 Xt5 Xcr Qrn Qvk Qqq Qzo Quq Qre Xdd Qw1 Yd8 Yc4 Xwe Xml Xhs Xc1 Xto Xg1 Xpo Xrr Xsu Xnb Xmd Xq0 Xpa Xgf Xpw Xhh Xg7 Xj2 Xbg Qwu Qzy Xqb Xdg Xbf Xd7 Xkq Xk5 Xhj Qx7 Xiw Xh2 Xrk Xmi Xca Xk8 Yc6 Ycg Xvo Xx9 Xnm Xtv Ye6 Ybp Ycq Ye1 Ydx Yb2 Yb8 Ybu Ydz Ydl Ydk Ybb Ydv Ydj Xyb Xvl Ye5 Yad Xyr Xy1 Xy0 Xwd Xya Xzd Xqo Xt1 Xfo Xjo Xj1 Xhe Xbm Xbo Xhq Xju Xd4 Xcj Ydd Ydm Xxz Xvj Xpx Xq4 Xl9 Xk1 Xl3 Xgo Xfz Xi9 Xt0 Xti Xux Xxn Xsy Xps Xmp Xqa Xr1 Xyd Xwx Xid Xj8 Xce Xcq Xz2 Xwu Xw4 Xuk Ydh Ycj Ybs Ybq Xkb Xkg Xil Xhk Xjv Xk6 Xq2 Xln Xs8 Xs7 Xsp Xr5 Xtl Xso Xm4 Xpm Xpf Xtt Xpt Xq5 Xmq Xrx Xrb Xmc Xnf Xmw Xht Xm2 Xi6 Xj4 Xkw Xtw Xng Xgq Xfw Xbz Xcw Qyu Xfl Xci Xgz Xcu Xg2 Xcf Xqp Xgt Xnx Xlg Xkl Xbc Xch Qz6 Xre Xl0 Xon Xi1 Xjp Xb4 Xgr Xbr
def Ql (l:List Int):List AV:=l.map (.int .i64)
def Zp (l:List Bool):List AV:=l.map .bool
def Xi (l:List UInt8):List AV:=l.map fun (b:UInt8)=>.int .u8 b.toNat
theorem Xp (l:List Int):(Ql l).length=l.length:=by simp[Ql]
theorem Xqx (l:List Bool):(Zp l).length=l.length:=by simp[Zp]
theorem Vp (l:List UInt8):(Xi l).length=l.length:=by simp[Xi]
theorem B5 {l:List Int}{i:Nat}(h:i<l.length):(Ql l).getD i .any=.int .i64 (l.getD i 0):=by simp[Ql,List.getD,h]
theorem NG {l:List Bool}{i:Nat}(h:i<l.length):(Zp l).getD i .any=.bool (l.getD i false):=by simp[Zp,List.getD,h]
theorem Vq {l:List UInt8}{i:Nat}(h:i<l.length):(Xi l).getD i .any=.int .u8 (l.getD i 0).toNat:=by simp[Xi,List.getD,h]
theorem Xpv (l:List Int)(n:Nat):(Ql l).take n=Ql (l.take n):=by simp[Ql,map_take]
theorem Xqi (l:List Int)(n:Nat):(Ql l).drop n=Ql (l.drop n):=by simp[Ql,map_drop]
theorem Xo9 (l:List UInt8)(n:Nat):(Xi l).take n=Xi (l.take n):=by simp[Xi,map_take]
theorem Xo4 (l:List UInt8)(n:Nat):(Xi l).drop n=Xi (l.drop n):=by simp[Xi,map_drop]
theorem Xku (l:List Bool)(n:Nat):(Zp l).take n=Zp (l.take n):=by simp[Zp,map_take]
theorem Xk9 (l:List Bool)(n:Nat):(Zp l).drop n=Zp (l.drop n):=by simp[Zp,map_drop]
theorem Xuc (l m:List Int):Ql l++Ql m=Ql (l++m):=by simp[Ql]
theorem Xvc (l m:List UInt8):Xi l++Xi m=Xi (l++m):=by simp[Xi]
theorem Xs2 {α:Type}{l:List α}{b j:Nat}{d:α}(h:j<b):(l.take b).getD j d=l.getD j d:=by simp only[List.getD,getElem?_take,am h]
theorem Xpi {α:Type}{l:List α}{a j:Nat}{d:α}:(l.drop a).getD j d=l.getD (a+j) d:=by simp only[List.getD,getElem?_drop]
def zq {α:Type}{l:List α}{i j:Nat}{v d:α}(h:i<l.length):(l.set i v).getD j d=if i=j then v else l.getD j d:=by
 simp only[List.getD,List.getElem?_set];split
 ·next e=>subst e;simp[h]
 ·rfl
theorem Xup {α:Type}{l:List α}{n:Nat}(h:l.length<=n):l.take n=l:=List.take_of_length_le h
theorem Xfx {l r:List AV}{i:Nat}(h:i<l.length):(l++r).getD i .any=l.getD i .any:=by simp only[List.getD];rw[getElem?_append_left h]
theorem Xt7 {l r:List AV}{i:Nat}{v:AV}(h:i<l.length):(l++r).set i v=l.set i v++r:=by rw[List.set_append,am h]
theorem Yff (b:Bool):(b=false->(!b)=true)=True:=by cases b<;>simp
theorem Ya6 (b:Bool):((!b)=true->b=false)=True:=by cases b<;>simp
theorem Qu (ρ:Nat->Nat)(l:List Int):ay ρ (Ql l)=Ql l:=by rw[Zx];simp[Ql,aB]
theorem Xsx (ρ:Nat->Nat)(l:List UInt8):ay ρ (Xi l)=Xi l:=by rw[Zx];simp[Xi,aB]
theorem Vr (ρ:Nat->Nat)(l:List Bool):ay ρ (Zp l)=Zp l:=by rw[Zx];simp[Zp,aB]
theorem B6 (ρ:Nat->Nat)(l m:List AV):ay ρ (l++m)=ay ρ l++ay ρ m:=by simp[Zx]
theorem Xwp (l:List Int)(i:Nat)(n:Int):(Ql l).set i (.int .i64 n)=Ql (l.set i n):=by simp[Ql,map_set]
theorem Xsb (l:List Bool)(i:Nat)(n:Bool):(Zp l).set i (.bool n)=Zp (l.set i n):=by simp[Zp,map_set]
theorem Vs {l:List AV}{a b j:Nat}(h:j<b):((l.drop a).take b).getD j .any=l.getD (a+j) .any:=by simp only[List.getD,getElem?_take,getElem?_drop,am h]
theorem Xvy {l:List AV}{b j:Nat}(h:j<b):(l.take b).getD j .any=l.getD j .any:=by simp only[List.getD,getElem?_take,am h]
theorem Xx5 {l:List AV}{a j:Nat}:(l.drop a).getD j .any=l.getD (a+j) .any:=by simp only[List.getD,getElem?_drop]
theorem Yc8 {l:List AV}{a b:Nat}(h:a+b<=l.length):((l.drop a).take b).length=b:=by simp;omega
theorem Xvp {l:List AV}{b:Nat}(h:b<=l.length):(l.take b).length=b:=by simp;omega
theorem Xno {cs vs:List AV}(h:cs.length=vs.length):Ym cs 0 vs=vs:=by unfold Ym;simp[h]
theorem Xz8 (o:Nat):Ym cs o []=cs:=by unfold Ym;simp
theorem Xnu (c v:AV)(cs vs:List AV):Ym (c::cs) 0 (v::vs)=v::Ym cs 0 vs:=by unfold Ym;simp
theorem Xrl (c:AV)(cs vs:List AV)(o:Nat):Ym (c::cs) (o+1) vs=c::Ym cs o vs:=by unfold Ym;simp[Nat.add_right_comm]
theorem Xq1 {cs vs:List AV}{o:Nat}(h:o+vs.length<=cs.length):(Ym cs o vs).length=cs.length:=by unfold Ym;simp;omega
theorem Eg (l:List Int):ah n (Ql l)=True:=eq_true (Xw.2 fun x hx=>by simp[Ql]at hx;obtain ⟨a,_,rfl⟩:=hx;simp[Qe])
theorem Vt (l:List Bool):ah n (Zp l)=True:=eq_true (Xw.2 fun x hx=>by simp[Zp]at hx;rcases hx with ⟨_,rfl⟩|⟨_,rfl⟩<;>simp[Qe])
theorem Yah (l:List UInt8):ah n (Xi l)=True:=eq_true (Xw.2 fun x hx=>by simp[Xi]at hx;obtain ⟨a,_,rfl⟩:=hx;simp[Qe])
theorem B7 (l m:List AV):ah n (l++m)=(ah n l/\ah n m):=by simp only[Xw,List.mem_append,eq_iff_iff];exact ⟨fun h=>⟨fun x hx=>h x (.inl hx),fun x hx=>h x (.inr hx)⟩,fun h x hx=>hx.elim (h.1 x) (h.2 x)⟩
theorem Xw8 (l:List UInt8):toB (Xi l)=l:=by
 simp only[toB,Xi,map_map]
 conv=>rhs;rw[<- map_id l]
 refine List.map_congr_left fun b _=>?_;simp[bD]
def Yck (l:List UInt8):∀ v ∈ Xi l,cb .u8 v:=fun v hv=>by simp[Xi]at hv;obtain ⟨a,_,rfl⟩:=hv;simp[cb]
theorem Xx6 (l:List UInt8):(∀ v ∈ Xi l,cb .u8 v)=True:=eq_true (Yck l)
theorem NH (s:FS)(l:List Int):(Ql l).map (Yv s)=Ql l:=by simp[Ql,Yv]
theorem Vu (s:FS)(l:List Bool):(Zp l).map (Yv s)=Zp l:=by simp[Zp,Yv]
theorem wrap_i64 {n:Int}(h0:-9223372036854775808<=n)(h1:n<9223372036854775808):IntKind.i64.wrap n=n:=by rw[IntKind.wrap_i64];omega
theorem wrap_u32 {n:Int}(h0:0<=n)(h1:n<4294967296):IntKind.u32.wrap n=n:=by rw[IntKind.wrap_u32];omega
theorem wrap_u8 {n:Int}(h0:0<=n)(h1:n<256):IntKind.u8.wrap n=n:=by rw[IntKind.wrap_u8];omega
theorem Xy4 {n:Int}(h0:0<=n)(h1:n<18446744073709551616):IntKind.u64.wrap n=n:=by simp[IntKind.wrap,IntKind.bits,IntKind.signed];omega
theorem Yie:((0:Nat):Int)=0:=rfl
theorem Yix:((no_index (OfNat.ofNat n):Nat):Int)=OfNat.ofNat n:=rfl
def Yif {P:Program}{c:Cx}{Q:EX->St->Prop}{s:St}{x:TV}{a b:TC}{t:Bool}(h:aV c.gl s.fs x=.bool t)(ht:t=true->xw P c a Q s)(hf:t=false->xw P c b Q s):xw P c (.cond x a b) Q s:=by
 rw[Yas,h];exact ⟨trivial,ht,hf⟩
attribute [go_sem] Xp Xqx Vp B5 NG Vq Xpv Xqi Xo9 Xo4 Xku Xk9 Xs2 Xpi Xfx Xt7 Xup Yff Ya6 Qu Xsx Vr B6 List.take_take Nat.min_self Nat.mul_one Nat.one_mul Xwp Xsb Vs Xvy Xx5 Yc8 Xvp Xno Xz8 Xnu Xrl Xq1 Eg Vt Yah B7 Xw8 Xx6 NH Vu wrap_i64 wrap_u32 wrap_u8 Xy4 Int.toNat_natCast Yie Yix AV.int.injEq AV.bool.injEq AV.str.injEq AV.agg.injEq AV.aR.injEq AV.isl.injEq AV.sl.injEq AV.ptr.injEq AV.xp.injEq Bk.cells.injEq
section
variable {P:Program}
def kS (P:Program)(c:Cx)(k:PK)(vs:List AV)(r:AV):Prop :=
 ∀ (o:Oper) (ys:List Operand),Xt P o=some (k,ys)→∀ (g:Nat→GM) (W:Nat→Prop) (a:Act) (w:World),(∀ i,W i→i < w.heap.size)→(∀ i,VR (fun _=>.un) W w (c.gl i) (.pointer (some ⟨i,0,none⟩)))→bT g W w vs (ys.map a.eval) →
  ∀ (K:Act->World->Prop) (Q:Exit->Act->World->Prop),(∀ v w',Fr w w' (fun _=>False)->VR g W w' r v->K (a.put o.dst v) w')->o.wp P a w K Q
theorem Vv {c:Cx}{s:St}{d:Option Nat}{k:PK}{xs:List TV}{gd:Option (Nat×Bool)}{args:List AV}{r:AV}(aS:Ux c.gl s.fs xs gd)(aM:(aD c.gl s.fs xs).map Qh=args)
  (hq:ob (gB s.fs gd) (kS P c k args r)):Ki P c (.pd d k xs gd) s.fs (Zd d xs gd) (s.ca d (cw (gB s.fs gd) r)).fs:=by
 intro ops io he;obtain ⟨aX,bb,hd,ys,aE,rfl⟩:=Zm he;have jx:(s.ca d (cw (gB s.fs gd) r)).fs=match d with|some d=>s.fs.put d (cw (gB s.fs gd) r)|none=>s.fs:=by
  cases d with
  | none=>rfl
  | some d=>exact St.bU _ _ _
 rw[jx];refine ⟨fun i hi=>?_,fun b _=>by cases d<;>rfl,?_⟩
 ·cases d with
  | none=>rfl
  | some d=>show (s.fs.put d _).T i=_;rw[FS.dF,aa (fun e=>hi (by simp[Zd,e]))]
 ·intro s2 hT hH g a w hR K Q' hK;have bj:aD c.gl s2 (ys.map aP)=aD c.gl s.fs (ys.map aP):=Yd fun i hi=>hT i (by simp[Zd,hi]);have hg:∀ t b,gd=some (t,b)->s2.T t=s.fs.T t:=fun t b e=>hT t (by simp[Zd,e,jQ]);have j1:gB s2 gd=gB s.fs gd:=by
   cases gd with
   | none=>rfl
   | some p=>obtain ⟨t,b⟩:=p;simp only[gB,hg t b rfl]
  have j2:gg s2 gd:=by
   have:=aS.1;cases gd with
   | none=>exact this
   | some p=>obtain ⟨t,b⟩:=p;simpa only[gg,hg t b rfl] using this
  have np:∀ v w',Fr w w' (fun _=>False)->VR g (Qm c g s2) w' (cw (gB s.fs gd) r) v->K (a.put io.dst v) w':=fun v w' hf hv=>by
   rw[bb];have bh:=hR.grow hf;cases d with
   | none =>
    refine hK g _ w' ?_;have:dB s2 s.fs (Zd none (ys.map aP) gd)=s2:=by unfold dB Zd;simp
    simp only[this];exact bh
   | some d =>
    refine hK g _ w' ?_;show R c g (dB s2 (s.fs.put d _) ⟨jQ gd++Xe (ys.map aP),[],[d],[]⟩) _ _;rw[yY];exact bh.put (by simpa using hd) hv
  unfold Uo;rw[wS aX hR j2,j1];have run:(∀ b,gB s.fs gd=some b->b=true)->io.wp P a w K Q':=by
   intro hb;have iD:Qr none (aD c.gl s2 (ys.map aP)):=by
    rw[bj];have:=aS.2;cases bZ:gB s.fs gd with
    | none=>rw[bZ]at this;exact this
    | some b=>rw[bZ]at this;exact BL (hb b bZ) this
   have db:kS P c k args r:=by
    cases bZ:gB s.fs gd with
    | none=>rw[bZ]at hq;exact hq
    | some b=>rw[bZ]at hq;exact hq (hb b bZ)
   have hv:=Yk (hR.ci ys) iD;rw[bj,aM]at hv;have hX:∀ k,Qm c g s2 k->k<w.heap.size:=by
    rintro k (h|⟨b',hl,fN⟩)
    ·have:=(hR.xs k h).1;have:=hR.fr.size;omega
    ·exact BR.lt (fN ▸ hR.h b') hl
   refine db io ys aE g _ a w hX (fun i=>(hR.gl i)) hv K Q' fun v w' hf ec=>?_;refine np v w' hf ?_;cases bZ:gB s.fs gd with
   | none=>exact ec
   | some b=>exact .dV (fun _=>ec) fun h=>by rw[hb b bZ]at h;cases h
  cases bZ:gB s.fs gd with
  | none=>simp only[Option.getD_none,if_true];exact run fun b h=>by rw[bZ]at h;cases h
  | some b =>
   cases b with
   | true=>simp only[Option.getD_some,if_true];exact run fun b h=>by rw[bZ]at h;cases h;rfl
   | false =>
    simp only[Option.getD_some,Bool.false_eq_true,if_false];refine np undef w (Fr.refl _ _) ?_;rw[bZ];exact .dV (fun h=>by cases h) fun _=>rfl
def Ybh {c:Cx}{r0:List bB}{K:St->Prop}{s:St}{d:Option Nat}{k:PK}{xs:List TV}{gd:Option (Nat×Bool)}{args:List AV}{r:AV}(hq:ob (gB s.fs gd) (kS P c k args r))(aM:(aD c.gl s.fs xs).map Qh=args)
  (aS:Ux c.gl s.fs xs gd/\XP P c r0 K (s.ca d (cw (gB s.fs gd) r))):Yo P c (.pd d k xs gd) r0 K s :=
 .inl ⟨_,_,Vv aS.1 aM hq,aS.2⟩
def Xvn {c:Cx}{anc:List Nat}{fs:List bc}{r0:List bB}{K:St->Prop}{s:St}{d:Option Nat}{k:PK}{xs:List TV}{gd:Option (Nat×Bool)}{args:List AV}{r:AV}(hq:ob (gB s.fs gd) (kS P c k args r))(aM:(aD c.gl s.fs xs).map Qh=args)
  (aS:Ux c.gl s.fs xs gd/\XD P c anc r0 (Zd d xs gd::fs) K (s.ca d (cw (gB s.fs gd) r))):Yz P c anc (.pd d k xs gd) r0 fs K s :=
 ⟨_,_,Vv aS.1 aM hq,aS.2⟩
def zr {o:Option Bool}{p:Prop}(h:p):ob o p:=by cases o<;>first|exact h|exact fun _=>h
def Yy {c:Cx}{r0:List bB}{K:St->Prop}{s:St}{d:Option Nat}{f:FuncId}{xs:List TV}{gd:Option (Nat×Bool)}{args:List AV}{r:AV}(aM:(aD c.gl s.fs xs).map Qh=args)(eg:PS P c.gl f args r)
  (aS:Ux c.gl s.fs xs gd/\ah 0 args/\XP P c r0 K (s.ca d (cw (gB s.fs gd) r))):Yo P c (.pd d (.call f) xs gd) r0 K s:=Yi8 (zr eg) aM aS
def Yh {c:Cx}{anc:List Nat}{fs:List bc}{r0:List bB}{K:St->Prop}{s:St}{d:Option Nat}{f:FuncId}{xs:List TV}{gd:Option (Nat×Bool)}{args:List AV}{r:AV}(aM:(aD c.gl s.fs xs).map Qh=args)(eg:PS P c.gl f args r)
  (aS:Ux c.gl s.fs xs gd/\ah 0 args/\XD P c anc r0 (Zd d xs gd::fs) K (s.ca d (cw (gB s.fs gd) r))):Yz P c anc (.pd d (.call f) xs gd) r0 fs K s:=Yev (zr eg) aM aS
def Xo {c:Cx}{r0:List bB}{K:St->Prop}{s:St}{d:Option Nat}{k:PK}{xs:List TV}{gd:Option (Nat×Bool)}{args:List AV}{r:AV}(aM:(aD c.gl s.fs xs).map Qh=args)(hq:kS P c k args r)
  (aS:Ux c.gl s.fs xs gd/\XP P c r0 K (s.ca d (cw (gB s.fs gd) r))):Yo P c (.pd d k xs gd) r0 K s:=Ybh (zr hq) aM aS
def Xg {c:Cx}{anc:List Nat}{fs:List bc}{r0:List bB}{K:St->Prop}{s:St}{d:Option Nat}{k:PK}{xs:List TV}{gd:Option (Nat×Bool)}{args:List AV}{r:AV}(aM:(aD c.gl s.fs xs).map Qh=args)(hq:kS P c k args r)
  (aS:Ux c.gl s.fs xs gd/\XD P c anc r0 (Zd d xs gd::fs) K (s.ca d (cw (gB s.fs gd) r))):Yz P c anc (.pd d k xs gd) r0 fs K s:=Xvn (zr hq) aM aS
def B8 (rec:TypeId->Option (List SK))(P:Program):Nat->List Field->Option (List SK)
 | _,[]=>some []
 | o, f :: fs => if f.name = "_" \/ f.offset ≠ o \/ (P.info? f.type).isNone then none else (rec f.type).bind fun ks => if P.cellsOf f.type = ks.length then (B8 rec P (o+ks.length) fs).map (ks ++ ·) else none
def jT (P:Program):Nat->TypeId->Option (List SK)
 | 0,_=>none
 | d+1,t=>match P.underlying t with
  | some .bool=>some [.bool]
  | some (.int k)=>some [.int k]
  | some .string=>some [.str]
  | some (.struct fs)=>if P.stoodInHeld t then none else B8 (jT P d) P 0 fs.toList
  | some (.array n e)=>if (P.info? e).isNone then none else (jT P d e).bind fun ks=>if P.cellsOf e=ks.length then some (List.replicate n ks).flatten else none
  | _=>none
def Eh:SK->Value->Value->Bool
 | .int _,.int _ a,.int _ b=>a==b
 | .bool,.bool a,.bool b=>a==b
 | .str,.string a,.string b=>a.toList==b.toList
 | _,_,_=>true
def Yfg:SK->Value->Prop
 | .int k,v=>∃ n,v=.int k n
 | .bool,v=>∃ b,v=.bool b
 | .str,v=>∃ b,v=.string b
 | .ref,_=>False
def Jx:List SK->List Value->List Value->Bool
 | k::ks,u::us,v::vs=>Eh k u v&&Jx ks us vs
 | _,_,_=>true
def lM:List SK->List Value->Prop
 | k::ks,u::us=>Yfg k u/\lM ks us
 | [],_=>True
 | _::_,[]=>False
def wZ:∀ (ks ls:List SK) (us:List Value),lM (ks++ls) us->lM ks us/\lM ls (us.drop ks.length)
 | [],_,us,h=>⟨by cases us<;>trivial,by simpa using h⟩
 | _::ks,ls,[],h=>h.elim
 | _::ks,ls,_::us,h=>⟨⟨h.1,(wZ ks ls us h.2).1⟩,by simpa using (wZ ks ls us h.2).2⟩
def w3:∀ (ks:List SK) (us:List Value),lM ks us->ks.length<=us.length
 | [],_,_=>by simp
 | _::_,[],h=>h.elim
 | _::ks,_::us,h=>by have:=w3 ks us h.2;simp;omega
def NL:∀ (ks ls:List SK) (us vs:List Value),ks.length<=us.length->ks.length<=vs.length->Jx (ks++ls) us vs=(Jx ks us vs&&Jx ls (us.drop ks.length) (vs.drop ks.length))
 | [],_,_,_,_,_=>by simp[Jx]
 | _::_,_,[],_,h,_=>by simp at h
 | _::_,_,_::_,[],_,h=>by simp at h
 | k::ks,ls,u::us,v::vs,h1,h2=>by
  simp only[length_cons]at h1 h2;simp[Jx,NL ks ls us vs af af,Bool.and_assoc]
def zt:∀ (ks:List SK) (us:List Value),lM ks us->lM ks (us.take ks.length)
 | [],us,_=>by cases us<;>trivial
 | _::_,[],h=>h.elim
 | k::ks,u::us,h=>⟨h.1,zt ks us h.2⟩
def NM:∀ (ks:List SK) (us vs:List Value),Jx ks (us.take ks.length) (vs.take ks.length)=Jx ks us vs
 | [],_,_=>by simp[Jx]
 | _::_,[],_=>by simp[Jx]
 | _::_,_::_,[]=>by simp[Jx]
 | k::ks,u::us,v::vs=>by simp[Jx,NM ks us vs]
def Uk (P:Program)(t:TypeId)(x:Value)(us:List Value):Prop :=
 match P.underlying t with
 | some (.struct _)=>x=.agg us.toArray
 | some (.array _ _)=>x=.agg us.toArray
 | _=>us=[x]
def B9 (w:World){m:Nat}  {ks:List SK}(h:jT P m e=some ks)(hi:(P.info? e).isSome)(hc:P.cellsOf e=ks.length){xs:Array Value}{o:Nat}(hr:lM ks (xs.toList.drop o)) :
  ∃ a,(part e xs o).run P w=.ok a w/\Uk P e a ((xs.toList.drop o).take ks.length):=by
 obtain ⟨i,hi⟩:=Option.isSome_iff_exists.1 hi;cases m with
 | zero=>cases h
 | succ m =>
  have one:∀ k,ks=[k]->∃ v,xs[o]?=some v/\(xs.toList.drop o).take ks.length=[v]:=by
   rintro k rfl;have hl:=w3 _ _ hr;cases hd:xs.toList.drop o with
   | nil=>rw[hd]at hl;simp at hl
   | cons v r =>
    refine ⟨v,?_,by simp⟩;have:(xs.toList.drop o)[0]?=some v:=by rw[hd];rfl
    simpa using this
  have agg:(xs.extract o (o+P.cellsOf e)).toList=(xs.toList.drop o).take ks.length:=by
   rw[Array.toList_extract,hc];simp[List.extract]
  unfold jT at h;cases hu:P.underlying e with
  | none=>simp[hu]at h
  | some kd =>
   rw[hu]at h;cases kd<;>simp at h
   case bool=>obtain ⟨v,h1,h2⟩:=one _ h.symm;exact ⟨v,by simp[part,isAgg,run_underlying hu,h1],by simp only[Uk,hu];exact h2⟩
   case int k=>obtain ⟨v,h1,h2⟩:=one _ h.symm;exact ⟨v,by simp[part,isAgg,run_underlying hu,h1],by simp only[Uk,hu];exact h2⟩
   case string=>obtain ⟨v,h1,h2⟩:=one _ h.symm;exact ⟨v,by simp[part,isAgg,run_underlying hu,h1],by simp only[Uk,hu];exact h2⟩
   case struct fs=>exact ⟨.agg (xs.extract o (o+P.cellsOf e)),by simp[part,isAgg,run_underlying hu,run_sizeOf w hi],by simp only[Uk,hu];rw[<- agg]⟩
   case array n e'=>exact ⟨.agg (xs.extract o (o+P.cellsOf e)),by simp[part,isAgg,run_underlying hu,run_sizeOf w hi],by simp only[Uk,hu];rw[<- agg]⟩
def Iz {α:Type}{x:Option α}(h:¬ x.isNone=true):x.isSome=true:=by cases x<;>simp_all
def NN (P:Program)(D:Nat)(t:TypeId)(ks:List SK):Prop :=
 ∀ (w:World) (x y:Value) (us vs:List Value),Uk P t x us->Uk P t y vs->us.length=ks.length->vs.length=ks.length->lM ks us->lM ks vs->(Op.equalIn D t x y).run P w=.ok (Jx ks us vs) w
def Vw {m D:Nat}(IH:∀ t ks,jT P m t=some ks->NN P D t ks):∀ (fs:List Field) (o:Nat) (ks:List SK),B8 (jT P m) P o fs=some ks->∀ (w:World) (xs ys:Array Value),lM ks (xs.toList.drop o)->lM ks (ys.toList.drop o) ->
  (Op.eqFields D xs ys fs).run P w=.ok (Jx ks (xs.toList.drop o) (ys.toList.drop o)) w
 | [],o,ks,h,w,xs,ys,_,_=>by cases h;simp[Op.eqFields,Jx]
 | f::fs,o,ks,h,w,xs,ys,hx,hy=>by
  unfold B8 at h;split at h
  ·cases h
  ·rename_i hn;simp only[not_or,Decidable.not_not]at hn;obtain ⟨fx,fy,od⟩:=hn;have pg:=Iz od;simp only[Option.bind_eq_some_iff]at h;obtain ⟨k1,h1,h2⟩:=h;split at h2
   ·rename_i hc;simp only[Option.map_eq_some_iff]at h2;obtain ⟨k2,h2,rfl⟩:=h2;obtain ⟨x1,x2⟩:=wZ _ _ _ hx;obtain ⟨y1,y2⟩:=wZ _ _ _ hy;obtain ⟨a,pa,ha⟩:=B9 w h1 pg hc x1;obtain ⟨b,pb,hb⟩:=B9 w h1 pg hc y1;have lx:=w3 _ _ x1;have ly:=w3 _ _ y1;have hr:=IH _ _ h1 w a b _ _ ha hb (by rw[length_take];omega) (by rw[length_take];omega) (zt _ _ x1) (zt _ _ y1);rw[NM]at hr;rw[drop_drop]at x2 y2;have ih:=Vw IH fs (o+k1.length) k2 h2 w xs ys x2 y2;rw[NL _ _ _ _ lx ly,drop_drop,drop_drop];simp only[Op.eqFields,fx,ne_eq,not_false_eq_true,if_true,Sem.run_bind,fy,pa,pb,hr,Result.andThen_ok];cases hq:Jx k1 (xs.toList.drop o) (ys.toList.drop o) with
    | false=>simp
    | true=>simpa using ih
   ·cases h2
def Vx {m D:Nat}{e:TypeId}{ks:List SK}(he:jT P m e=some ks)(hi:(P.info? e).isSome)(hc:P.cellsOf e=ks.length)(IH:NN P D e ks)(xs ys:Array Value):∀ (n i:Nat) (w:World),lM (List.replicate n ks).flatten (xs.toList.drop (i*ks.length))->lM (List.replicate n ks).flatten (ys.toList.drop (i*ks.length)) ->
  (Op.eqItems D e (P.cellsOf e) xs ys (List.range' i n)).run P w=.ok (Jx (List.replicate n ks).flatten (xs.toList.drop (i*ks.length)) (ys.toList.drop (i*ks.length))) w
 | 0,i,w,_,_=>by simp[Op.eqItems,Jx]
 | n+1,i,w,hx,hy=>by
  rw[List.replicate_succ,List.flatten_cons]at hx hy ⊢;obtain ⟨x1,x2⟩:=wZ _ _ _ hx;obtain ⟨y1,y2⟩:=wZ _ _ _ hy;obtain ⟨a,pa,ha⟩:=B9 w he hi hc x1;obtain ⟨b,pb,hb⟩:=B9 w he hi hc y1;have lx:=w3 _ _ x1;have ly:=w3 _ _ y1;have hr:=IH w a b _ _ ha hb (by rw[length_take];omega) (by rw[length_take];omega) (zt _ _ x1) (zt _ _ y1);rw[NM]at hr;have e1:i*ks.length+ks.length=(i+1)*ks.length:=by rw[Nat.add_mul,Nat.one_mul]
  rw[drop_drop,e1]at x2 y2;have ih:=Vx he hi hc IH xs ys n (i+1) w x2 y2;rw[NL _ _ _ _ lx ly,drop_drop,drop_drop,e1];rw[List.range'_succ];simp only[Op.eqItems,Sem.run_bind,hc,pa,pb,hr,Result.andThen_ok];cases hq:Jx ks (xs.toList.drop (i*ks.length)) (ys.toList.drop (i*ks.length)) with
  | false=>simp
  | true=>rw[hc]at ih;simpa using ih
def IA (d:Nat):∀ (m:Nat) (t:TypeId) (ks:List SK),jT P m t=some ks->NN P (d+m) t ks
 | 0,_,_,h=>by cases h
 | m+1,t,ks,h=>by
  intro w x y us vs hx hy lu lv ou ov;unfold jT at h;cases hu:P.underlying t with
  | none=>simp[hu]at h
  | some kd =>
   rw[hu]at h;simp only[Uk,hu]at hx hy;cases kd<;>simp only[Option.some.injEq,reduceCtorEq]at h hx hy
   case bool =>
    subst h hx hy;obtain ⟨⟨a,rfl⟩,_⟩:=ou;obtain ⟨⟨b,rfl⟩,_⟩:=ov;rw[<- Nat.add_assoc,run_equalIn_bool' w _ t a b hu];simp[Jx,Eh]
   case int k =>
    subst h hx hy;obtain ⟨⟨a,rfl⟩,_⟩:=ou;obtain ⟨⟨b,rfl⟩,_⟩:=ov;rw[<- Nat.add_assoc,run_equalIn_int w _ t k k a b hu];simp[Jx,Eh]
   case string =>
    subst h hx hy;obtain ⟨⟨a,rfl⟩,_⟩:=ou;obtain ⟨⟨b,rfl⟩,_⟩:=ov;rw[<- Nat.add_assoc,run_equalIn_string w _ t a b hu];simp[Jx,Eh]
   case struct fs =>
    subst hx hy;split at h
    ·cases h
    ·rename_i hp;have Ca:P.fieldsOf t=fs:=by simp[Program.fieldsOf,hu]
     rw[<- Nat.add_assoc,run_equalIn_struct w (d+m) t _ _ (by rw[Ca];exact hu) (by simpa using hp),Ca];have:=Vw (IA d m) fs.toList 0 ks h w us.toArray vs.toArray (by simpa using ou) (by simpa using ov);simpa using this
   case array n e =>
    subst hx hy;split at h
    ·cases h
    ·rename_i hi;replace hi:=Iz hi;obtain ⟨i,n8⟩:=Option.isSome_iff_exists.1 hi;simp only[Option.bind_eq_some_iff]at h;obtain ⟨k1,h1,h2⟩:=h;split at h2
     ·rename_i hc;cases h2;rw[<- Nat.add_assoc,run_equalIn_array w (d+m) _ _ hu n8,List.range_eq_range'];have:=Vx h1 hi hc (IA d m e k1 h1) us.toArray vs.toArray n 0 w (by simpa using ou) (by simpa using ov);simpa using this
     ·cases h2
def Yt:AV->Option SK
 | .int k _=>some (.int k)
 | .bool _=>some .bool
 | .str _=>some .str
 | _=>none
def Cb {g:Nat->GM}{W:Nat->Prop}{w:World}:∀ (ks:List SK) (cs:List AV) (us:List Value),cs.map Yt=ks.map some->us.length=cs.length->(∀ j,j<cs.length->VR g W w (cs.getD j .any) (us.getD j undef))->lM ks us
 | [],_,us,_,_,_=>by cases us<;>trivial
 | _::_,[],_,h,_,_=>by simp at h
 | _::_,_::_,[],_,h,_=>by simp at h
 | k::ks,x::cs,u::us,h,hl,hv=>by
  simp only[map_cons,List.cons.injEq]at h;have h0:=hv 0 av;simp only[List.getD_cons_zero]at h0;refine ⟨?_,Cb ks cs us h.2 (by simpa using hl) fun j hj=>by simpa using hv (j+1) (by simp;omega)⟩;have hk:=h.1;cases x<;>simp[Yt]at hk<;>subst hk<;>cases h0<;>exact ⟨_,rfl⟩
def NO {g:Nat->GM}{W:Nat->Prop}{w:World}:∀ (ks:List SK) (cs ds:List AV) (us vs:List Value),cs.map Yt=ks.map some->ds.map Yt=ks.map some->us.length=cs.length->vs.length=ds.length->(∀ j,j<cs.length->VR g W w (cs.getD j .any) (us.getD j undef))->(∀ j,j<ds.length->VR g W w (ds.getD j .any) (vs.getD j undef)) ->
  (Jx ks us vs=true ↔ cs=ds)
 | [],[],[],_,_,_,_,_,_,_,_=>by simp[Jx]
 | [],[],_::_,_,_,_,h,_,_,_,_=>by simp at h
 | [],_::_,_,_,_,h,_,_,_,_,_=>by simp at h
 | _::_,[],_,_,_,h,_,_,_,_,_=>by simp at h
 | _::_,_::_,[],_,_,_,h,_,_,_,_=>by simp at h
 | _::_,_::_,_::_,[],_,_,_,h,_,_,_=>by simp at h
 | _::_,_::_,_::_,_::_,[],_,_,_,h,_,_=>by simp at h
 | k::ks,x::cs,y::ds,u::us,v::vs,hc,hd,lu,lv,hu,hv=>by
  simp only[map_cons,List.cons.injEq]at hc hd;have h0:=hu 0 av;have h1:=hv 0 av;simp only[List.getD_cons_zero]at h0 h1;have ih:=NO ks cs ds us vs hc.2 hd.2 (by simpa using lu) (by simpa using lv) (fun j hj=>by simpa using hu (j+1) (by simp;omega)) (fun j hj=>by simpa using hv (j+1) (by simp;omega));simp only[Jx,Bool.and_eq_true,ih,List.cons.injEq];refine and_congr_left fun _=>?_;have k1:=hc.1;have k2:=hd.1;cases x<;>simp[Yt]at k1<;>subst k1<;>cases y<;>simp[Yt]at k2<;>cases h0<;>cases h1<;>simp_all [Eh,ByteArray.toList_eq]
def Vy {o:Oper}{ne:Bool}{t:TypeId}  (h:Xt P o=some (.cA ne t,xs)):∃ x y u,o.op=.binOp (bif ne then .neq else .eql) t x y u/\xs=[x,y]:=by
 unfold Xt at h
 repeat' split at h
 all_goals first
  | (simp only[Option.some.injEq,Prod.mk.injEq,PK.cA.injEq]at h;obtain ⟨⟨rfl,rfl⟩,rfl⟩:=h;rename_i hop;exact ⟨_,_,_,by rw[hop];rfl,rfl⟩)
  | (simp at h;done)
  | (cases h;done)
  | (simp[Option.map_eq_some_iff]at h;done)
def Ei {c:Cx}{ne:Bool}{t:TypeId}{ks:List SK}{cs ds:List AV}{b:Bool}(hs:jT P 100 t=some ks)(hk:(match P.underlying t with|some (.struct _)=>true|some (.array _ _)=>true|_=>false)=true)(hm:P.eqGuardType P.depth t=false)
  (hc:cs.map Yt=ks.map some) (hd:ds.map Yt=ks.map some) (hb:b=true ↔ cs=ds):kS P c (.cA ne t) [.agg cs,.agg ds] (.bool (ne != b)):=by
 intro o ys aE g W a w _ _ hv K Q hK;obtain ⟨x,y,u,hop,rfl⟩:=Vy aE;obtain ⟨hx,hy,_⟩:=hv;obtain ⟨xs,ex,lx,_,vx⟩:=Uq hx;obtain ⟨zs,ey,ly,_,vy⟩:=Uq hy;have Vz:xs.toList.length=cs.length:=by simpa using lx
 have VA:zs.toList.length=ds.length:=by simpa using ly
 have gx:∀ j,xs.toList.getD j undef=xs.getD j undef:=fun j=>by simp[Array.getD_eq_getD_getElem?,List.getD]
 have gy:∀ j,zs.toList.getD j undef=zs.getD j undef:=fun j=>by simp[Array.getD_eq_getD_getElem?,List.getD]
 have VB:∀ j,j<cs.length->VR g W w (cs.getD j .any) (xs.toList.getD j undef):=fun j hj=>by rw[gx];exact vx j hj
 have VC:∀ j,j<ds.length->VR g W w (ds.getD j .any) (zs.toList.getD j undef):=fun j hj=>by rw[gy];exact vy j hj
 have kl:cs.length=ks.length:=by simpa using congrArg List.length hc
 have kl':ds.length=ks.length:=by simpa using congrArg List.length hd
 have hold:∀ z:Array Value,Uk P t (.agg z) z.toList:=fun z=>by
  unfold Uk;split at hk<;>simp_all
 have hr:=IA (P:=P) 9900 100 t ks hs w _ _ _ _ (hold xs) (hold zs) af af (Cb ks cs _ hc Vz VB) (Cb ks ds _ hd VA VC);have he:Jx ks xs.toList zs.toList=b:=by
  have:=(NO ks cs ds _ _ hc hd Vz VA VB VC).trans hb.symm;cases hq:Jx ks xs.toList zs.toList<;>cases b<;>simp_all
 rw[he]at hr;have run:(execOp a.eval o).run P w=.ok (.value (.bool (ne != b))) w:=by
  unfold execOp;cases ne
  ·simp only[hop,ex,ey,cond_false,Sem.run_bind,run_eqGuard_agg w _ t x y xs zs hm,run_eql_struct,hr,Result.andThen_ok,Sem.run_pure];cases b<;>rfl
  ·simp only[hop,ex,ey,cond_true,Sem.run_bind,run_eqGuard_agg w _ t x y xs zs hm,run_neq_struct,hr,Result.andThen_ok,Sem.run_pure];cases b<;>rfl
 unfold Oper.wp;rw[run];exact hK _ _ (Fr.refl _ _) (.bool _)
end
section
variable {P:Program}{c:Cx}{g:Nat->GM}{s:FS}{a:Act}{w w':World}
def R.kT (hR:R c g s a w){b:Nat}(bq:s.H b=.free):R c (Zh g b .ph) (s.aI b (.cells [])) a w:=by
 have kJ:g b=.un:=by
  have:=hR.h b;rw[bq]at this;generalize g b=m at this;cases this;rfl
 have hg:=Bz (m:=.ph) kJ;have cr:Zh g b .ph b=.ph:=by simp[Zh]
 have eN:∀ i,i≠b->Zh g b .ph i=g i:=fun i h=>by simp[Zh,h]
 have hl:∀ i k,((s.aI b (.cells [])).H i).live->Zh g b .ph i=.re k->i≠b/\(s.H i).live/\g i=.re k:=fun i k h e=>by
  have cf:i≠b:=fun h=>by subst h;rw[cr]at e;cases e
  rw[FS.a8,aa (fun h=>cf h.symm)]at h;rw[eN i cf]at e;exact ⟨cf,h,e⟩
 have hW:∀ k,Qm c (Zh g b .ph) (s.aI b (.cells [])) k->Qm c g s k:=by
  rintro k (h|⟨i,h1,h2⟩)
  ·exact .inl h
  ·exact .inr ⟨i,(hl i k h1 h2).2.1,(hl i k h1 h2).2.2⟩
 have hf:=Fr.refl w (Qm c g s);refine ⟨hR.size,hR.ew,fun i=>(hR.t i).mono hf (fun k _=>hW k) hg,fun i=>(hR.gl i).mono hf (fun k _=>hW k) (fun _ _=>rfl),fun i=>?_,fun p q m hp hq h1 h2=>?_,fun p m hp h1=>?_,hR.fr,hR.xs,HT hR kJ⟩
 ·rw[FS.a8];split
  ·rename_i e;subst e;rw[cr];exact .ph
  ·rename_i e;rw[eN i fun h=>e h.symm];exact (hR.h i).mono hf (fun k _=>hW k) hg fun _ _ _=>rfl
 ·exact hR.inj p q m (hl p m hp h1).2.1 (hl q m hq h2).2.1 (hl p m hp h1).2.2 (hl q m hq h2).2.2
 ·exact hR.old p m (hl p m hp h1).2.1 (hl p m hp h1).2.2
def VD (k o:Nat)(t:TypeId)(fz:Nat×Nat):∀ (vs:List Value) (i:Nat) (cur:Array Value) (w:World),w.heap[k]?=some (.cells cur t fz)->(fz=(0,0)\/cur.size<=fz.1)->o+i+vs.length<=cur.size->(∀ v ∈ vs,v.oneCell'=true) ->
  (storeCells ⟨k,o,none⟩ vs i).run P w=.ok () (w.setRow k (cur.toList.take (o+i)++vs++cur.toList.drop (o+i+vs.length)).toArray)
 | [],i,cur,w,hg,_,_,_=>by
  simp only[storeCells,List.append_nil,List.length_nil,Nat.add_zero,List.take_append_drop,Array.toArray_toList];rw[setRow_self w k cur t fz hg];rfl
 | v::rest,i,cur,w,hg,hz,hl,h1=>by
  have hi:o+i<cur.size:=by simp at hl;omega
  have dY:(⟨k,o,none⟩:Addr).add i=⟨k,o+i,none⟩:=by unfold Addr.add;split<;>simp_all
  have eS:w.cell? ⟨k,o+i,none⟩=some cur[o+i]:=by simp[World.cell?,hg,hi]
  have NP:w.frozen? ⟨k,o+i,none⟩=false:=by
   simp only[World.frozen?,hg];rcases hz with rfl|hz
   ·simp
   ·have:¬ fz.1≤o + i:=by omega
    simp[this]
  have dX:(store ((⟨k,o,none⟩:Addr).add i) v).run P w=.ok () (w.setRow k (cur.setIfInBounds (o+i) v)):=by
   rw[dY,run_store P w _ v _ (h1 v av),eS];simp[NP,setCell_eq_setRow w k (o+i) cur t fz v hg]
  have ih:=VD k o t fz rest (i+1) (cur.setIfInBounds (o+i) v) (w.setRow k (cur.setIfInBounds (o+i) v)) (setRow_heap w k cur _ t _ hg) (by simpa using hz) (by simp at hl ⊢;omega) (fun x hx=>h1 x (by simp[hx]));simp only[storeCells,Sem.run_bind,dX,Result.andThen_ok,ih,setRow_setRow];congr 3;have e:=list_seg_step cur.toList (o+i) v rest (by simp at hl ⊢;omega);simpa [Array.toList_setIfInBounds,Nat.add_assoc] using e
def VE {t u ty e:TypeId}{i:TypeInfo}{z:Value}(ht:P.underlying t=some (.slice e))(hu:u=t\/P.underlying u=some .string)(hi:P.info? e=some i)(hz:i.zero=some z)
  (ba:Option Addr) (dC fP:Nat) (x:Value) (m:Nat) (dZ news:List Value) (w:World) (hlen:∀ w,(Builtin.lenOf x).run P w=.ok m w)
  (cz:∀ w':World,w'.heap=w.heap->(Builtin.firstCells i.size m x).run P w'=.ok news.toArray w') (hold:∀ w':World,w'.heap=w.heap->(Builtin.firstCells i.size dC (.slice ba dC fP)).run P w'=.ok dZ.toArray w')
  (hg:fP<dC+m) (rh:((dC+m:Nat):Int)<=9223372036854775807) (iM:Builtin.nextslicecap (dC+m) fP*i.bytes<=281474976710656) :
  (Builtin.append_ #[t,u] ty #[.slice ba dC fP,x]).run P w =
   .ok (.slice (some ⟨w.heap.size,0,none⟩) (dC + m) (grownCap w (dC + m) fP e))
    (w.drew.alloc (.cells (dZ.toArray++news.toArray++Builtin.zeroCells z.cells (grownCap w (dC+m) fP e-(dC+m))) e)):=by
 have hn:¬ (dC+m<=fP):=by omega
 have Ej:¬ (9223372036854775807<((dC:Int)+(m:Int))):=by omega
 have Ek:¬ (281474976710656<Builtin.nextslicecap (dC+m) fP*i.bytes):=by omega
 have hf:=cz w.drew rfl;have VF:=hold w.drew rfl;rcases hu with rfl|hu
 ·simp[Builtin.append_,run_underlying ht,sizeOf,typeInfo,zeroValue,hi,hz,hlen,hn,Ej,Ek,Question.forced,hf,VF,newRow,grownCap];congr 2;apply Array.ext';simp
 ·simp[Builtin.append_,run_underlying ht,run_underlying hu,sizeOf,typeInfo,zeroValue,hi,hz,hlen,hn,Ej,Ek,Question.forced,hf,VF,newRow,grownCap];congr 2;apply Array.ext';simp
def VG {t u ty e:TypeId}{i:TypeInfo}(ht:P.underlying t=some (.slice e))(hu:u=t\/P.underlying u=some .string)(hi:P.info? e=some i)
  (k dC fP:Nat) (x:Value) (m:Nat) (news:List Value) (cur:Array Value) (e':TypeId) (fz:Nat×Nat) (w:World) (hlen:∀ w,(Builtin.lenOf x).run P w=.ok m w) (hk:w.heap[k]?=some (.cells cur e' fz)) (qZ:fz=(0,0)\/cur.size<=fz.1)
  (cz:∀ w':World,w'.heap=w.heap->(Builtin.firstCells i.size m x).run P w'=.ok news.toArray w') (h1:∀ u ∈ news,u.oneCell'=true)
  (eC:dC+m<=fP) (iM:dC*i.size+news.length<=cur.size) :
  (Builtin.append_ #[t,u] ty #[.slice (some ⟨k,0,none⟩) dC fP,x]).run P w =
   .ok (.slice (some ⟨k,0,none⟩) (dC+m) fP) (w.setRow k (cur.toList.take (dC*i.size)++news++cur.toList.drop (dC*i.size+news.length)).toArray):=by
 have dX:=VD (P:=P) k (dC*i.size) e' fz news 0 cur w hk qZ (by simpa using iM) h1;simp only[Nat.add_zero]at dX;have hf:=cz w rfl;rcases hu with rfl|hu
 ·simp[Builtin.append_,run_underlying ht,sizeOf,typeInfo,hi,hlen,eC,hf,Addr.add_lit,dX]
 ·simp[Builtin.append_,run_underlying ht,run_underlying hu,sizeOf,typeInfo,hi,hlen,eC,hf,Addr.add_lit,dX]
def VH {t u ty e:TypeId}{i:TypeInfo}(ht:P.underlying t=some (.slice e))(hu:u=t\/P.underlying u=some .string)(hi:P.info? e=some i)
  (ba:Option Addr) (dC fP:Nat) (x:Value) (w:World) (hlen:∀ w,(Builtin.lenOf x).run P w=.ok 0 w)
  (cz:∀ w':World,w'.heap=w.heap->(Builtin.firstCells i.size 0 x).run P w'=.ok #[] w') (eC:dC<=fP) :
  (Builtin.append_ #[t,u] ty #[.slice ba dC fP,x]).run P w=.ok (.slice ba dC fP) w:=by
 have hf:=cz w rfl;rcases hu with rfl|hu
 ·cases ba<;>simp[Builtin.append_,run_underlying ht,sizeOf,typeInfo,hi,hlen,eC,hf,storeCells]
 ·cases ba<;>simp[Builtin.append_,run_underlying ht,run_underlying hu,sizeOf,typeInfo,hi,hlen,eC,hf,storeCells]
def Xf:AV->Nat
 | .isl m _=>m
 | .sl _ _ _ m _=>m
 | .str l=>l.length
 | _=>0
theorem NQ (es b o m cc:Nat):Xf (.sl es b o m cc)=m:=rfl
theorem Xzj (ds:List AV):Xf (.isl m ds)=m:=rfl
theorem Xxf (l:List UInt8):Xf (.str l)=l.length:=rfl
theorem Xtj:Xf .nils=0:=rfl
def Xu (s:FS)(es:Nat):AV->List AV
 | .isl m ds=>ds.take (m*es)
 | .sl _ b o m _=>((Zc (s.H b)).drop o).take (m*es)
 | .str l=>Xi l
 | _=>[]
def IB:Value->Prop
 | .slice _ 0 _=>True
 | _=>False
def Xtr {v:Value}(h:IB v):∃ a c,v=.slice a 0 c:=by
 unfold IB at h;split at h
 ·exact ⟨_,_,rfl⟩
 ·exact h.elim
def my (s:FS)(es:Nat)(str:Bool):AV->Prop
 | .isl m ds=>str=false/\m*es<=ds.length
 | .sl es2 b o m _=>str=false/\es2=es/\o+m*es<=(Zc (s.H b)).length
 | .nils=>str=false
 | .lit v=>str=false/\IB v
 | .str _=>str=true/\es=1
 | _=>False
def j5:AV->Option Nat
 | .sl _ b _ _ _=>some b
 | _=>none
def vi (s:FS)(es:Nat):AV->Prop
 | .sl es2 b o n _=>es2=es/\o=0/\n*es<=(Zc (s.H b)).length/\(s.H b).live
 | .nils=>True
 | _=>False
def FS.cK (s:FS):Option Nat->FS
 | some b=>s.aI b .dead
 | none=>s
def Xjm {s:FS}{b:Nat}{n:Nat}(h:n<=(Zc (s.H b)).length)(hn:0<n):∃ cs,s.H b=.cells cs:=by
 cases hh:s.H b with
 | cells cs=>exact ⟨cs,rfl⟩
 | _=>rw[hh]at h;simp[Zc]at h;omega
def NR {k o:Nat}{cur:Array Value}   (hb:w.heap[k]?=some (.cells cur e fz)){n:Nat}(hn:o+n<=cur.size) :
  ∀ (w':World),w'.heap=w.heap->∀ j v,((cur.toList.drop o).take n)[j]?=some v->w'.cell? ((⟨k,o,none⟩:Addr).add j)=some v:=by
 intro w' hw j v hv;have dY:(⟨k,o,none⟩:Addr).add j=⟨k,o+j,none⟩:=by unfold Addr.add;split<;>simp_all
 rw[dY];rw[getElem?_take]at hv;split at hv
 ·rw[getElem?_drop]at hv;simp only[World.cell?,hw,hb];simpa using hv
 ·cases hv
def Cc (es m:Nat){a':Option Addr}{len cap:Nat}{vs:List Value}(hl:vs.length=m*es)(h:∀ w':World,w'.heap=w.heap->∀ j v,vs[j]?=some v->∃ a0,a'=some a0/\w'.cell? (a0.add j)=some v) :
  ∀ w':World,w'.heap=w.heap->(Builtin.firstCells es m (.slice a' len cap)).run P w'=.ok vs.toArray w':=by
 intro w' hw;cases a' with
 | none =>
  cases vs with
  | nil=>simp[Builtin.firstCells]
  | cons v vs=>obtain ⟨a0,h1,_⟩:=h w' hw 0 v rfl;cases h1
 | some a0 =>
  refine run_firstCells_some w' es m a0 len cap vs hl fun j v hj=>?_;obtain ⟨a1,h1,h2⟩:=h w' hw j v hj;cases h1;exact h2
def IC (hR:R c g s a w){es:Nat}{str:Bool}{x:AV}  (hx:VR g (Qm c g s) w x u)(ok:my s es str x) :
  ∃ news:List Value,(∀ w,(Builtin.lenOf u).run P w=.ok (Xf x) w)∧(∀ w':World,w'.heap=w.heap→(Builtin.firstCells es (Xf x) u).run P w'=.ok news.toArray w') ∧
   news.length=Xf x*es/\(Xu s es x).length=Xf x*es/\(∀ v ∈ news,v.oneCell'=true)/\∀ j,j<Xf x*es->VR g (Qm c g s) w ((Xu s es x).getD j .any) (news.getD j undef):=by
 cases x<;>simp only[my]at ok
 case isl m ds =>
  obtain ⟨rfl,hl⟩:=ok;obtain ⟨ad,cap,us,rfl,h1,h2,h3,h4⟩:=tK hx;simp only[Xf];have hlen:((List.range (m*es)).map us).length=m*es:=by simp
  have a6:∀ j,j<m*es->((List.range (m*es)).map us).getD j undef=us j:=fun j hj=>by simp[List.getD,hj]
  refine ⟨(List.range (m*es)).map us,fun w=>rfl,Cc es m hlen fun w' hw j v hj=>?_,hlen,by simp[Xu];omega,fun v hv=>?_,fun j hj=>?_⟩
  ·obtain ⟨dd,rfl⟩:=List.getElem?_eq_some_iff.1 hj;rw[hlen]at dd;obtain ⟨k,o,rfl,h5,_⟩:=h3 j af;refine ⟨_,rfl,?_⟩;have dY:(⟨k,o,none⟩:Addr).add j=⟨k,o + j,none⟩:=by unfold Addr.add;split<;>simp_all
   rw[dY];simp only[List.getElem_map,List.getElem_range];rw[<- h5];unfold Uw World.cell?;simp only[hw]
  ·obtain ⟨j,hj,rfl⟩:=mem_map.1 hv;simp at hj;obtain ⟨k,o,_,_,_,h6⟩:=h3 j af;exact h6
  ·rw[a6 j hj];have:(Xu s es (.isl m ds)).getD j .any=ds.getD j .any:=by simp[Xu,List.getD,getElem?_take,hj]
   rw[this];exact h4 j af
 case sl es2 b o m cc =>
  obtain ⟨rfl,rfl,hl⟩:=ok;simp only[Xf];rcases qW hx with ⟨k,cap,e,cur,fz,rfl,h1,h2,h3,h4,h5,h6⟩|⟨ad,rfl,h1,rfl,rfl⟩
  ·by_cases fa:0 < m * es2
   ·obtain ⟨cs,iV⟩:=Xjm (s:=s) (b:=b) (n:=o+m*es2) hl af;have hb:=hR.h b;rw[h1,iV]at hb;cases hb with
    | cells hb kN mz hv hf =>
    rename_i eX e' VI;rw[h5]at hb;cases hb;have hlc:o+m*es2<=cs.length:=by rw[iV]at hl;exact hl
    have hlen:((cur.toList.drop o).take (m*es2)).length=m*es2:=by simp;omega
    have a6:∀ j,j<m*es2->((cur.toList.drop o).take (m*es2)).getD j undef=cur.getD (o+j) undef:=fun j hj=>by simp[List.getD,getElem?_take,hj,Array.getD_eq_getD_getElem?]
    refine ⟨(cur.toList.drop o).take (m*es2),fun w=>rfl,Cc es2 m hlen fun w' hw j v hj=>⟨_,rfl,NR h5 af w' hw j v hj⟩,hlen,by simp[Xu,iV,Zc];omega,fun v hv=>?_,fun j hj=>?_⟩
    ·obtain ⟨j,hj,rfl⟩:=List.getElem_of_mem hv;rw[hlen]at hj;have:=mz (o+j) af;have hg:=a6 j hj;simp only[List.getD,List.getElem?_eq_getElem (show j<((cur.toList.drop o).take (m*es2)).length by omega),Option.getD_some]at hg;rw[hg];exact this
    ·rw[a6 j hj];have:(Xu s es2 (.sl es2 b o m cc)).getD j .any=cs.getD (o + j) .any:=by simp[Xu,iV,Zc,List.getD,getElem?_take,hj]
     rw[this];exact hv _ af
   ·have hz:m * es2=0:=by omega
    refine ⟨[],fun w=>rfl,Cc es2 m (by simp[hz]) fun w' hw j v hj=>by simp at hj,by simp[Xf,hz],by simp[Xf,Xu,hz],fun v hv=>(by cases hv),fun j hj=>af⟩
  ·refine ⟨[],fun w=>rfl,Cc es2 0 av fun w' hw j v hj=>by simp at hj,by simp[Xf],by simp[Xf,Xu],fun v hv=>(by cases hv),fun j hj=>af⟩
 case lit v =>
  obtain ⟨_,ok⟩:=ok;obtain ⟨ad,cap,rfl⟩:=Xtr ok;have:u=.slice ad 0 cap:=by cases hx;rfl
  subst this;simp only[Xf];refine ⟨[],fun w=>rfl,Cc es 0 av fun w' hw j v hj=>by simp at hj,by simp[Xf],by simp[Xf,Xu],fun v hv=>(by cases hv),fun j hj=>af⟩
 case nils =>
  obtain ⟨ad,rfl⟩:=DK hx;simp only[Xf];refine ⟨[],fun w=>rfl,Cc es 0 av fun w' hw j v hj=>by simp at hj,by simp[Xf],by simp[Xf,Xu],fun v hv=>(by cases hv),fun j hj=>af⟩
 case str l =>
  obtain ⟨rfl,rfl⟩:=ok;cases hx;simp only[Xf];refine ⟨l.map fun b=>.int .u8 b.toNat,fun w=>?_,fun w' _=>?_,by simp[Xf],by simp[Xf,Xu,Xi],fun v hv=>?_,fun j hj=>?_⟩
  ·simp[Builtin.lenOf,Xf,ByteArray.size]
  ·have hx:(⟨l.toArray⟩:ByteArray).extract 0 l.length=⟨l.toArray⟩:=by
    have:l.length=(⟨l.toArray⟩:ByteArray).size:=rfl;rw[this,ByteArray.extract_zero_size]
   simp[Builtin.firstCells,Xf,hx]
  ·obtain ⟨b,_,rfl⟩:=mem_map.1 hv;rfl
  ·simp only[Nat.mul_one]at hj;have e1:(Xu s 1 (.str l)).getD j .any=.int .u8 (l[j]).toNat:=by simp[Xu,Xi,List.getD,hj]
   have e2:(l.map fun b:UInt8=>Value.int .u8 b.toNat).getD j undef=.int .u8 (l[j]).toNat:=by simp[List.getD,hj]
   rw[e1,e2];exact .int _ _
def Cd {g:Nat->GM}{b:Nat}{m:GM}:Zh g b m b=m:=by simp[Zh]
def VJ (hR:R c g s a w){nm:Nat}(bq:s.H nm=.free){es N cap:Nat}{e:TypeId}{cs:List AV}{vs:List Value}{zs:Array Value}(hl:vs.length=N*es)(aY:cs.length=N*es)(lN:zs.size=(cap-N)*es)(hN:N<=cap)(hm:cap<=maxLen)
  (h1:∀ v ∈ vs,v.oneCell'=true) (hv:∀ j,j<N*es->VR g (Qm c g s) w (cs.getD j .any) (vs.getD j undef)) :
  ∃ g',R c g' (s.aI nm (.cells cs)) a (w.drew.alloc (.cells (vs.toArray++zs) e))/\VR g' (Qm c g' (s.aI nm (.cells cs))) (w.drew.alloc (.cells (vs.toArray++zs) e)) (.sl es nm 0 N N) (.slice (some ⟨w.heap.size,0,none⟩) N cap):=by
 have Ce:R c g s a w.drew:=hR.grow (Fr.drew w _);have jY:∀ k,Qm c g s k->k<w.heap.size:=by
  rintro k (h|⟨b',hl,fN⟩)
  ·have:=(hR.xs k h).1;have:=hR.fr.size;omega
  ·exact BR.lt (fN ▸ hR.h b') hl
 have a6:∀ j,j<N*es->(vs.toArray++zs).getD j undef=vs.getD j undef:=fun j hj=>by
  simp[Array.getD_eq_getD_getElem?,List.getD,Array.getElem?_append,hl,hj]
 have cz:=heap_alloc_new w.drew (.cells (vs.toArray++zs) e);have bh:=Ce.new (b:=nm) (x:=.cells cs) (.cells (vs.toArray++zs) e) bq trivial fun g' fN=>by
  refine .cells (cur:=vs.toArray++zs) (e:=e) (fz:=(0,0)) cz (by simp[hl,aY]) (fun j hj=>?_) (fun j hj=>?_) (.inl rfl)
  ·rw[a6 j af];have dd:j < vs.length:=by omega
   simp only[List.getD,List.getElem?_eq_getElem dd,Option.getD_some];exact h1 _ (getElem_mem dd)
  ·rw[a6 j af];exact ((hv j af).mono (Fr.drew w _) (fun _ _ h=>h) (fun _ _=>rfl)).mono (Fr.alloc w.drew _ _) (fun k hk h=>h.resolve_right (by simp at hk;simp;omega)) fN
 refine ⟨_,bh,.sl (k:=w.heap.size) (e:=e) (cur:=vs.toArray++zs) (fz:=(0,0)) Cd (Nat.le_refl _) hN hm cz ?_⟩;simp[hl,lN,<- Nat.add_mul];exact Nat.mul_le_mul_right _ af
def pj {s s':FS}(hT:∀ i,s.T i=s'.T i)(hH:∀ i,s.H i=s'.H i):s=s':=by
 cases s;cases s';congr 1<;>funext i
 ·exact hT i
 ·exact hH i
def VK {w:World}{k:Nat}{cur new:Array Value}   (hk:w.heap[k]?=some (.cells cur e fz))(hs:new.size=cur.size):Fr w (w.setRow k new) (fun i=>i=k) :=
 ⟨rfl,rfl,rfl,by simp[World.setRow],fun i _ cf=>setRow_other w k i new cf,fun i eX e' VI hi=>by
  by_cases h:i=k
  ·subst h;rw[hk]at hi;cases hi;exact ⟨new,setRow_heap w i cur new e fz hk,hs⟩
  ·exact ⟨eX,by rw[setRow_other w k i new h];exact hi,rfl⟩⟩
def VL (hR:R c g s a w){nm:Nat}(bq:s.H nm=.free){t u ty e:TypeId}{i:TypeInfo}{z:Value}{es:Nat}(ht:P.underlying t=some (.slice e))(hu:u=t\/P.underlying u=some .string)(hi:P.info? e=some i)(hz:i.zero=some z)(dj:i.size=es)(lN:z.cells.size=es)
  (ad:Option Addr) {ux:Value} {m:Nat} {cs:List AV} {news:List Value} (q1:∀ w,(Builtin.lenOf ux).run P w=.ok m w) (q2:∀ w':World,w'.heap=w.heap->(Builtin.firstCells es m ux).run P w'=.ok news.toArray w')
  (q3:news.length=m*es) (q4:cs.length=m*es) (q5:∀ v ∈ news,v.oneCell'=true) (q6:∀ j,j<m*es->VR g (Qm c g s) w (cs.getD j .any) (news.getD j undef)) (rh:m<=maxLen) (rY:m*i.bytes<=140737488355328) :
  ∃ g' v' w',(Builtin.append_ #[t,u] ty #[.slice ad 0 0,ux]).run P w=.ok v' w'/\R c g' (s.aI nm (.cells cs)) a w'/\VR g' (Qm c g' (s.aI nm (.cells cs))) w' (.sl es nm 0 m m) v':=by
 by_cases hm:m=0
 ·subst hm;have hn:news=[]:=List.eq_nil_of_length_eq_zero af;have hc:cs=[]:=List.eq_nil_of_length_eq_zero af;subst hn hc;exact ⟨_,_,_,VH ht hu hi ad 0 0 ux w q1 (by rw[dj];exact q2) (Nat.le_refl _),hR.kT bq,.kH Cd rfl⟩
 ·have hr:=VE (ty:=ty) (P:=P) ht hu hi hz ad 0 0 ux m [] news w q1 (by rw[dj];exact q2) (fun w' _=>by cases ad<;>simp[Builtin.firstCells,loadCells,loadCellsFrom]) (by omega) (by simp only[maxLen]at rh;omega) (growslice_fits (by omega) (by simpa using rY));simp only[Nat.zero_add,nil_append]at hr;have jY:=HP w m 0 e;obtain ⟨g',h1,h2⟩:=VJ (es:=es) (N:=m) (cap:=grownCap w m 0 e) (e:=e) (zs:=Builtin.zeroCells z.cells (grownCap w m 0 e-m)) hR bq q3 q4 (by rw[size_zeroCells,lN]) jY (grownCap_le_maxLen w m 0 e rh) q5 q6;exact ⟨g',_,_,by rw[hr];simp,h1,h2⟩
def Xx8 (hR:R c g s a w){nm:Nat}(bq:s.H nm=.free){t u ty e:TypeId}{i:TypeInfo}{z:Value}{es:Nat}(ht:P.underlying t=some (.slice e))(hu:u=t\/P.underlying u=some .string)(hi:P.info? e=some i)(hz:i.zero=some z)(dj:i.size=es)(lN:z.cells.size=es)
  {vb vx:AV} {ub ux:Value} {str:Bool} (hb:VR g (Qm c g s) w vb ub) (hx:VR g (Qm c g s) w vx ux) (ID:vi s es vb) (zu:my s es str vx) (rh:Xf vb+Xf vx<=maxLen) (rY:(Xf vb+Xf vx)*i.bytes<=140737488355328) :
  ∃ g' v' w',(Builtin.append_ #[t,u] ty #[ub,ux]).run P w=.ok v' w'∧R c g' ((s.cK (j5 vb)).aI nm (.cells (Xu s es vb++Xu s es vx))) a w' ∧
   VR g' (Qm c g' ((s.cK (j5 vb)).aI nm (.cells (Xu s es vb++Xu s es vx)))) w' (.sl es nm 0 (Xf vb+Xf vx) (Xf vb+Xf vx)) v':=by
 obtain ⟨news,q1,q2,q3,q4,q5,q6⟩:=IC (P:=P) hR hx zu;cases vb<;>simp only[vi]at ID
 case nils =>
  obtain ⟨ad,rfl⟩:=DK hb;simp only[Xf,Xu,j5,FS.cK,Nat.zero_add,nil_append]at rh rY ⊢;exact VL hR bq ht hu hi hz dj lN ad q1 q2 q3 q4 q5 q6 rh rY
 case sl es2 b o n cc =>
  obtain ⟨rfl,rfl,hl,aO⟩:=ID;have cf:nm≠b:=fun h=>by subst h;rw[bq]at aO;exact aO
  have bZ:g b≠.un:=fun h=>by
   have:=hR.h b;rw[h]at this;exact this.gK aO
  have ei:(s.aI b .dead).H nm=.free:=by rw[FS.a8,aa fun h=>cf h.symm,bq]
  have El:=hR.kill bZ;have Cf:∀ k,Qm c g (s.aI b .dead) k->Qm c g s k:=HQ;obtain ⟨dZ,o1,o2,o3,o4,o5,o6⟩:=IC (P:=P) (str:=false) hR hb (x:=.sl es2 b 0 n cc) ⟨rfl,rfl,by simpa using hl⟩;have zw:∀ {x:AV} {y:Value},VR g (Qm c g s) w x y->VR g (Qm c g (s.aI b .dead)) w x y:=fun h=>h.mono (Fr.refl _ _) (fun k _=>Cf k) (fun _ _=>rfl);simp only[NQ]at rh rY o1 o2 o3 o4 o6 ⊢;simp only[j5,FS.cK];rcases qW hb with ⟨k,cap,e',cur,fz,rfl,h1,h2,h3,h4,h5,h6⟩|⟨ad,rfl,h1,rfl,rfl⟩
  ·have hlen:(dZ++news).length=(n + Xf vx) * es2:=by rw[List.length_append,o3,q3,Nat.add_mul]
   have w5:(Xu s es2 (.sl es2 b 0 n cc)++Xu s es2 vx).length=(n+Xf vx)*es2:=by rw[List.length_append,o4,q4,Nat.add_mul]
   have yU:∀ v ∈ dZ++news,v.oneCell'=true:=fun v hv=>(List.mem_append.1 hv).elim (o5 v) (q5 v);have IE:∀ j,j<(n+Xf vx)*es2->VR g (Qm c g s) w ((Xu s es2 (.sl es2 b 0 n cc)++Xu s es2 vx).getD j .any) ((dZ++news).getD j undef):=fun j hj=>by
    by_cases iu:j<n*es2
    ·have:=o6 j iu;simp only[List.getD,getElem?_append_left (show j<(Xu s es2 (.sl es2 b 0 n cc)).length by omega),getElem?_append_left (show j<dZ.length by omega)]at this ⊢;exact this
    ·have:=q6 (j-n*es2) (by rw[Nat.add_mul]at hj;omega);simp only[List.getD,getElem?_append_right (show (Xu s es2 (.sl es2 b 0 n cc)).length<=j by omega),getElem?_append_right (show dZ.length<=j by omega),o3,o4]at this ⊢;exact this
   by_cases eC:n+Xf vx<=cap
   ·-- in place
    have dk:=hR.h b;rw[h1]at dk;have qZ:fz=(0,0)\/cur.size<=fz.1:=by
     cases hh:s.H b with
     | cells cs=>rw[hh]at dk;cases dk with|cells bL _ _ _ hf=>rw[h5]at bL;cases bL;exact hf
     | az kvs dn=>rw[hh]at dk;cases dk with|az bL=>rw[h5]at bL;cases bL
     | bp kvs bs ck=>rw[hh]at dk;cases dk with|bp bL=>rw[h5]at bL;cases bL
     | iter b0 ck seen=>rw[hh]at dk;cases dk with|iter bL=>rw[h5]at bL;cases bL
     | dM ls=>rw[hh]at dk;cases dk with|dM _ h'=>cases h' with|cells bL _ _ _ hf=>rw[h5]at bL;cases bL;exact hf
     | free=>rw[hh]at aO;exact aO.elim
     | dead=>rw[hh]at aO;exact aO.elim
    have hmul:(n+Xf vx)*es2<=cap*es2:=Nat.mul_le_mul_right _ eC;have iM:n*i.size+news.length<=cur.size:=by rw[dj,q3,<- Nat.add_mul];omega
    have hr:=VG (ty:=ty) (P:=P) ht hu hi k n cap ux (Xf vx) news cur e' fz w q1 h5 qZ (by rw[dj];exact q2) q5 eC iM;rw[dj]at hr;have holds:dZ=cur.toList.take (n*es2):=by
     have a1:=o2 w rfl;have a2:=run_firstCells_some (P:=P) w es2 n ⟨k,0,none⟩ n cap (cur.toList.take (n*es2)) (by simp;have:=Nat.mul_le_mul_right es2 (Nat.le_trans h2 h3);omega) (by have:=NR h5 (o:=0) (n:=n*es2) (by have:=Nat.mul_le_mul_right es2 (Nat.le_trans h2 h3);omega) w rfl;simpa using this);rw[a1]at a2;simpa using a2
    have cE:(cur.toList.take (n*es2)++news++cur.toList.drop (n*es2+news.length)).toArray.size=cur.size:=by
     have:n*es2<=cur.size:=by have:=Nat.mul_le_mul_right es2 (Nat.le_trans h2 h3);omega
     rw[dj]at iM;simp;omega
    have a6:∀ j,j<(n+Xf vx)*es2->(cur.toList.take (n*es2)++news++cur.toList.drop (n*es2+news.length)).toArray.getD j undef=(dZ++news).getD j undef:=fun j hj=>by
     rw[<- holds];simp only[Array.getD_eq_getD_getElem?,List.getD,List.getElem?_toArray];rw[getElem?_append_left af]
    have hf:=VK (new:=(cur.toList.take (n*es2)++news++cur.toList.drop (n*es2+news.length)).toArray) h5 cE;have w7:Qm c g s k:=.inr ⟨b,aO,h1⟩;have bw:=hR.setBlock (x:=.cells (Xu s es2 (.sl es2 b 0 n cc)++Xu s es2 vx)) h1 aO trivial hf (by
     refine .cells (cur:=(cur.toList.take (n*es2)++news++cur.toList.drop (n*es2+news.length)).toArray) (e:=e') (fz:=fz) (setRow_heap w k cur _ e' fz h5) af (fun j hj=>?_) (fun j hj=>?_) (by rw[cE];exact qZ)
     ·rw[a6 j af];have dd:j < (dZ++news).length:=by omega
      simp only[List.getD,List.getElem?_eq_getElem dd,Option.getD_some];exact yU _ (getElem_mem dd)
     ·rw[a6 j af];exact (IE j af).mono (hf.weak fun i hi=>hi ▸ w7) (fun _ _ h=>h) (fun _ _=>rfl))
    have VM:=bw.move (b:=b) (b':=nm) (by rw[FS.a8,am rfl];trivial) (by rw[FS.a8,aa fun h=>cf h.symm,bq]);have Ca:((s.aI b (.cells (Xu s es2 (.sl es2 b 0 n cc)++Xu s es2 vx))).aI b .dead).aI nm ((s.aI b (.cells (Xu s es2 (.sl es2 b 0 n cc)++Xu s es2 vx))).H b)=(s.aI b .dead).aI nm (.cells (Xu s es2 (.sl es2 b 0 n cc)++Xu s es2 vx)):=by
     refine pj (fun _=>rfl) fun j=>?_;simp only[FS.a8,am];split
     ·rfl
     ·split<;>rfl
    rw[Ca]at VM;refine ⟨_,_,_,hr,VM,.sl (k:=k) (e:=e') (fz:=fz) (by rw[Cd];exact h1) (Nat.le_refl _) eC h4 (setRow_heap w k cur _ e' fz h5) (by rw[cE];exact h6)⟩
   ·have jY:=HP w (n+Xf vx) cap e;have hr:=VE (ty:=ty) (P:=P) ht hu hi hz (some ⟨k,0,none⟩) n cap ux (Xf vx) dZ news w q1 (by rw[dj];exact q2) (by rw[dj];exact fun w' hw=>by simpa [Builtin.firstCells] using o2 w' hw) af (by simp only[maxLen]at rh;omega) (growslice_fits af rY);obtain ⟨g',e1,e2⟩:=VJ (es:=es2) (N:=n+Xf vx) (cap:=grownCap w (n+Xf vx) cap e) (e:=e) (zs:=Builtin.zeroCells z.cells (grownCap w (n+Xf vx) cap e-(n+Xf vx))) El ei hlen w5 (by rw[size_zeroCells,lN]) jY (grownCap_le_maxLen w _ _ e rh) yU (fun j hj=>zw (IE j hj));exact ⟨g',_,_,by rw[hr];simp,e1,e2⟩
  ·have rj:dZ=[]:=List.eq_nil_of_length_eq_zero af;have aY:Xu s es2 (.sl es2 b 0 0 0)=[]:=List.eq_nil_of_length_eq_zero af;rw[aY];simp only[Nat.zero_add,nil_append]at rh rY ⊢;exact VL El ei ht hu hi hz dj lN ad q1 q2 q3 q4 q5 (fun j hj=>zw (q6 j hj)) rh rY
end
end Go.Proofs.YtogckmommodmhaaGreatDoor
