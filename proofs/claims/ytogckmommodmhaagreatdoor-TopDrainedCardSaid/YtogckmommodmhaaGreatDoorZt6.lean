import Derived.Test.YtogckmommodmhaaGreatDoorZt5
import Derived.MapKept
import Derived.WideKeyRuns
import Derived.Maps.RangeRun
set_option maxHeartbeats 16000000
namespace Go.Proofs.YtogckmommodmhaaGreatDoor
open Go.RowKit
set_option linter.all false
set_option linter.unusedSimpArgs false
set_option maxRecDepth 100000
section
variable {P:Program} {w:World}
def CM (P:Program) (c:Cx) (k:PK) (xs:List TV) (vs:List AV) (r:AV):Prop :=
 ∀ (o:Oper) (ys:List Operand),Yh P o=some (k,ys)→ys.map aT=xs→∀ (g:Nat→GM) (W:Nat→Prop) (a:Act) (w:World),(∀ i,W i→i < w.heap.size)→(∀ i,VR (fun _=>.un) W w (c.gl i) (.pointer (some ⟨i,0,none⟩)))→bL g W w vs (ys.map a.eval) →
  ∀ (K:Act→World→Prop) (Q:Exit→Act→World→Prop),(∀ v w',Fr w w' (fun _=>False)→VR g W w' r v→K (a.put o.dst v) w')→o.wp P a w K Q
theorem Xhn {c:Cx} {s:St} {d:Option Nat} {k:PK} {xs:List TV} {gd:Option (Nat × Bool)} {args:List AV} {r:AV} (aU:Uh c.gl s.fs xs gd) (aM:(aG c.gl s.fs xs).map Qk=args)
  (hq:ob (gB s.fs gd) (CM P c k xs args r)):Ky P c (.pd d k xs gd) s.fs (Za d xs gd) (s.bQ d (cw (gB s.fs gd) r)).fs:=by
 intro ops io he
 obtain ⟨bm,bc,hd,ys,aJ,rfl⟩:=Zt he
 have eS:(s.bQ d (cw (gB s.fs gd) r)).fs=match d with|some d=>s.fs.put d (cw (gB s.fs gd) r)|none=>s.fs:=by
  cases d with
  | none=>rfl
  | some d=>exact St.bS _ _ _
 rw[eS]
 refine ⟨fun i hi=>?_,fun b _=>by cases d<;>rfl,?_⟩
 ·cases d with
  | none=>rfl
  | some d=>show (s.fs.put d _).T i=_;rw[FS.de,if_neg (fun e=>hi (by simp[Za,e]))]
 ·intro s2 hT hH g a w hR K Q' hK
  have bn:aG c.gl s2 (ys.map aT)=aG c.gl s.fs (ys.map aT):=Yj fun i hi=>hT i (by simp[Za,hi])
  have hg:∀ t b,gd=some (t,b)→s2.T t=s.fs.T t:=fun t b e=>hT t (by simp[Za,e,jL])
  have n8:gB s2 gd=gB s.fs gd:=by
   cases gd with
   | none=>rfl
   | some p=>obtain ⟨t,b⟩:=p;simp only[gB,hg t b rfl]
  have n9:fL s2 gd:=by
   have:=aU.1
   cases gd with
   | none=>exact this
   | some p=>obtain ⟨t,b⟩:=p;simpa only[fL,hg t b rfl] using this
  have l7:∀ v w',Fr w w' (fun _=>False)→VR g (Qo c g s2) w' (cw (gB s.fs gd) r) v→K (a.put io.dst v) w':=fun v w' hf hv=>by
   rw[bc]
   have bb:=hR.grow hf
   cases d with
   | none =>
    refine hK g _ w' ?_
    have:dh s2 s.fs (Za none (ys.map aT) gd)=s2:=by unfold dh Za;simp
    simp only[this];exact bb
   | some d =>
    refine hK g _ w' ?_
    show R c g (dh s2 (s.fs.put d _) ⟨jL gd++Xp (ys.map aT),[],[d],[]⟩) _ _
    rw[wV]
    exact bb.put (by simpa using hd) hv
  unfold mq
  rw[u6 bm hR n9,n8]
  have run:(∀ b,gB s.fs gd=some b→b=true)→io.wp P a w K Q':=by
   intro hb
   have m8:Qv none (aG c.gl s2 (ys.map aT)):=by
    rw[bn]
    have:=aU.2
    cases b7:gB s.fs gd with
    | none=>rw[b7]at this;exact this
    | some b=>rw[b7]at this;exact zL (hb b b7) this
   have cF:CM P c k (ys.map aT) args r:=by
    cases b7:gB s.fs gd with
    | none=>rw[b7]at hq;exact hq
    | some b=>rw[b7]at hq;exact hq (hb b b7)
   have hv:=Yp (hR.aG ys) m8
   rw[bn,aM]at hv
   have hX:∀ k,Qo c g s2 k→k < w.heap.size:=by
    rintro k (h|⟨b',hl,fh⟩)
    ·have:=(hR.xs k h).1;have:=hR.fr.size;omega
    ·exact BR.lt (fh ▸ hR.h b') hl
   refine cF io ys aJ rfl g _ a w hX (fun i=>(hR.gl i)) hv K Q' fun v w' hf fM=>?_
   refine l7 v w' hf ?_
   cases b7:gB s.fs gd with
   | none=>exact fM
   | some b=>exact .dp (fun _=>fM) fun h=>by rw[hb b b7]at h;cases h
  cases b7:gB s.fs gd with
  | none=>simp only[Option.getD_none,if_true];exact run fun b h=>by rw[b7]at h;cases h
  | some b =>
   cases b with
   | true=>simp only[Option.getD_some,if_true];exact run fun b h=>by rw[b7]at h;cases h;rfl
   | false =>
    simp only[Option.getD_some,Bool.false_eq_true,if_false]
    refine l7 undef w (Fr.refl _ _) ?_
    rw[b7]
    exact .dp (fun h=>by cases h) fun _=>rfl
theorem Al {c:Cx} {r0:List bF} {K:St→Prop} {s:St} {d:Option Nat} {k:PK} {xs:List TV} {gd:Option (Nat × Bool)} {args:List AV} {r:AV} (aM:(aG c.gl s.fs xs).map Qk=args) (hq:CM P c k xs args r)
  (aU:Uh c.gl s.fs xs gd∧XP P c r0 K (s.bQ d (cw (gB s.fs gd) r))):Yl P c (.pd d k xs gd) r0 K s:=.inl ⟨_,_,Xhn aU.1 aM (xg hq),aU.2⟩
def sC:AV→Option Bool
 | .isl _ (_::_)=>some false
 | .lit (.slice a _ _)=>some a.isNone
 | _=>none
theorem Xum {g:Nat→GM} {W:Nat→Prop} {x:AV} {v:Value} {b:Bool} (hx:VR g W w x v) (h:sC x=some b):∃ a n cap,v=.slice a n cap∧a.isNone=b:=by
 unfold sC at h
 split at h
 ·obtain ⟨a,cap,us,rfl,_,_,h3,_⟩:=rZ hx
  obtain ⟨k,o,rfl,_⟩:=h3 0 au
  cases h
  exact ⟨_,_,_,rfl,rfl⟩
 ·cases h;cases hx;exact ⟨_,_,_,rfl,rfl⟩
 ·cases h
theorem Qzg (w:World) (t e:TypeId) (a:Option Addr) (l c:Nat) (h:P.underlying t=some (.slice e)):(binOp .eql t (.slice a l c) (.slice none 0 0)).run P w=.ok (.bool a.isNone) w:=by
 simp only[binOp]
 simp[run_equal_slice_nil w t e a l c h]
theorem Xrw {y:Operand} (h:aT y=.c .nils):y=.const (.slice none 0 0):=by
 cases y with
 | const v =>
  simp only[aT,TV.c.injEq]at h
  cases v<;>simp only[tn,fg]at h<;>first|(cases h;done)|skip
  all_goals split at h
  all_goals first|(cases h;done)|rfl|(simp at h;obtain ⟨rfl,rfl,rfl⟩:=h;rfl)|simp_all
 | _=>simp[aT]at h
theorem Xxc {c:Cx} {ne:Bool} {t e:TypeId} {x:TV} {v:AV} {b:Bool} (ht:P.underlying t=some (.slice e)) (hb:sC v=some b):CM P c (.cA ne t) [x,.c .nils] [v,.nils] (.bool (ne != b)):=by
 intro o ys aJ mC g W a w _ _ hv K Q hK
 obtain ⟨x',y',u,bh,rfl⟩:=QQ aJ
 simp only[List.map_cons,List.map_nil,List.cons.injEq,and_true]at mC
 have hy:=Xrw mC.2
 subst hy
 obtain ⟨hx,_,_⟩:=hv
 obtain ⟨ad,n,cap,RB,rfl⟩:=Xum hx hb
 have ey:a.eval (.const (.slice none 0 0))=.slice none 0 0:=rfl
 have run:(execOp a.eval o).run P w=.ok (.value (.bool (ne != ad.isNone))) w:=by
  unfold execOp
  cases ne
  ·simp only[bh,RB,ey,cond_false,Sem.run_bind];simp[eqGuard,Qzg w t e ad n cap ht]
  ·simp only[bh,RB,ey,cond_true,Sem.run_bind];simp[eqGuard,run_neq_slice_nil w t e ad n cap ht]
 unfold Oper.wp
 rw[run]
 exact hK _ _ (Fr.refl _ _) (.bool _)
theorem Gi {c:Cx} {es:Nat} {zs:List AV}:jN P c (.wS es 0 zs []) [] .nils:=by
 intro o ys aJ g W a w _ _ hv K Q hK
 obtain ⟨t,e,i,z,parts,bh,hu,hi,hz,ky,eF,so,h24,J7,rfl,rfl,dK,rfl⟩:=Rg aJ
 have hp:parts=#[]:=by
  have:=congrArg List.length dK
  simp at this
  exact Array.eq_empty_of_size_eq_zero this.symm
 subst hp
 have run:(execOp a.eval o).run P w=.ok (.value (.slice (some ⟨w.heap.size,0,none⟩) 0 0)) (w.alloc (.cells #[] e)):=by
  unfold execOp
  simp only[bh,Sem.run_bind]
  simp[Instr.buildSlice,run_underlying hu,sizeOf,typeInfo,hi,Instr.fill,newRow]
  have:(Array.map (fun x:Nat=>(default:Value)) (Array.range 0))=#[]:=Array.eq_empty_of_size_eq_zero au
  rw[this]
 unfold Oper.wp
 rw[run]
 exact hK _ _ (Fr.alloc _ _ _) (.nils _)
theorem GS.empty {gl:Nat→AV} {f:FuncId} {es:Nat} {cs:List AV} (h1:∀ cap,GS P gl f [.lit (.slice none 0 cap)] [] 0 .nils [] 0) (h2:∀ a cap,GS P gl f [.lit (.slice (some a) 0 cap)] [] 0 (.sl es 0 0 0 0) [(0,.cells [])] 1):GS P gl f [.isl 0 cs] [] 0 (.sl es 0 0 0 0) [(0,.cells [])] 1:=by
 refine ⟨(h1 0).1,fun w vs G X g hR hv=>?_⟩
 cases vs with
 | nil=>exact hv.elim
 | cons v vs =>
 cases vs with
 | cons _ _=>exact hv.2.elim
 | nil =>
 obtain ⟨hv,_⟩:=hv
 obtain ⟨a,cap,us,rfl,_⟩:=rZ hv
 cases a with
 | some a=>exact (h2 a cap).2 w [.slice (some a) 0 cap] G X g hR ⟨.lit _,trivial⟩
 | none =>
  refine ((h1 cap).2 w [.slice none 0 cap] G X g hR ⟨.lit _,trivial⟩).mono ?_
  rintro e w' ⟨v,g',rfl,bb,_,nX⟩
  have cy:R ⟨1,w,G,X,gl,[]⟩ g' (⟨[(0,.nils)],[],0⟩:St).fs ⟨#[v],[]⟩ w':=by
   refine ⟨rfl,rfl,fun i=>?_,bb.gl,bb.h,bb.inj,bb.old,bb.fr,bb.xs,fun p hp=>by cases hp⟩
   show VR g' _ w' (look [(0,.nils)] i) _
   rw[Zo]
   split
   ·rename_i hi;subst hi;exact nX
   ·exact .any _
  have bV:=cy.named (i:=0) (es:=es) rfl rfl
  exact ⟨v,_,rfl,⟨rfl,rfl,fun i=>.any _,bV.gl,bV.h,bV.inj,bV.old,bV.fr,bV.xs,fun p hp=>by cases hp⟩,fun b hb=>by omega,bV.t 0⟩
end
def xB:Bk→Prop
 | .cells _=>True
 | _=>False
theorem RC {x:Bk} (h:xB x):x.live:=by cases x<;>first|exact h.elim|trivial
theorem Yew (cs:List AV):xB (.cells cs)=True:=rfl
attribute [go_sem] Yew
section
variable {P:Program} {c:Cx} {ops:Array Oper} {io:Oper}
theorem Xwx {o:Oper} {es:Nat} {lo hi:Bool} {xs:List Operand} (h:Yh P o=some (.FC es lo hi,xs)):∃ t x l h' mx e,o.op=.slice t x l h' (some mx)∧P.underlying t=some (.slice e)∧Zk P e=some es∧l.isSome=lo∧h'.isSome=hi∧xs=x::(l.toList++h'.toList++[mx]):=by
 unfold Yh at h
 repeat' split at h
 all_goals first
  | (simp only[Option.map_eq_some_iff,Prod.mk.injEq,PK.FC.injEq]at h;obtain ⟨es',h1,⟨rfl,rfl,rfl⟩,rfl⟩:=h;exact ⟨_,_,_,_,_,_,by assumption,by assumption,h1,rfl,rfl,rfl⟩)
  | (simp at h;done)
  | (cases h;done)
  | (simp[Option.map_eq_some_iff]at h;done)
theorem KQ {g:Nat→GM} {W:Nat→Prop} {w:World} {k:IntKind} {n:Int} {v:Value} (h:VR g W w (.int k n) v):v=.int k n:=by cases h;rfl
theorem Yal {es b off n cc:Nat} {k1 k2 k3:IntKind} {i j m:Int} (h0:0≤i) (h1:i≤j) (h2:j≤m) (h3:m≤cc):jN P c (.FC es true true) [.sl es b off n cc,.int k1 i,.int k2 j,.int k3 m] .any:=by
 intro o ys aJ g W a w _ _ hv K Q hK
 obtain ⟨t,x,l,h',mx,e,bh,hu,c5,hl,hh,rfl⟩:=Xwx aJ
 obtain ⟨lo,rfl⟩:=Option.isSome_iff_exists.1 hl
 obtain ⟨hi,rfl⟩:=Option.isSome_iff_exists.1 hh
 obtain ⟨hx,nc,fM,tK,_⟩:=hv
 have he:P.elem t=e:=by simp[Program.elem,hu]
 have CN:∀ (ad:Option Addr) (len cap:Nat),cc≤cap→a.eval x=.slice ad len cap→∃ v,(execOp a.eval o).run P w=.ok (.value v) w:=by
  intro ad len cap mD hx
  have e1:a.eval lo=.int k1 i:=KQ nc
  have e2:a.eval hi=.int k2 j:=KQ fM
  have e3:a.eval mx=.int k3 m:=KQ tK
  refine ⟨sliced ad i.toNat j.toNat m.toNat es,?_⟩
  simp only[execOp,bh]
  refine Zw ?_
  simp only[Option.map_some,hx,e1,e2,e3]
  rw[run_sliceAt_slice _ _ _ _ _ _ (by rw[he];exact hu),run_slice_lhm _ _ _ _ _ (by rw[he];exact hu) k1 k2 k3 i j m h0 h1 h2 af,he,Js c5]
  rfl
 have bE:∃ v,(execOp a.eval o).run P w=.ok (.value v) w:=by
  rcases po hx with ⟨k,cap,e',cur,fz,e1,_,_,q2,_,_,_⟩|⟨ad,e1,_,_,q⟩
  ·exact CN _ _ cap q2 e1
  ·exact CN _ _ 0 af e1
 obtain ⟨v,hr⟩:=bE
 unfold Oper.wp
 rw[hr]
 exact hK _ _ (Fr.refl _ _) (.any _)
variable {g:Nat→GM} {s:FS} {a:Act} {w:World}
theorem Xpj (hR:R c g s a w) {t u ty e:TypeId} {i:TypeInfo} {z:Value} {es:Nat} (ht:P.underlying t=some (.slice e)) (hu:u=t∨P.underlying u=some .string) (hi:P.info? e=some i) (hz:i.zero=some z) (c5:i.size=es) (ky:z.cells.size=es)
  {b n cc:Nat} {vx:AV} {ub ux:Value} {str:Bool} (hb:VR g (Qo c g s) w (.sl es b 0 n cc) ub) (hx:VR g (Qo c g s) w vx ux) (hl:n * es≤(Yw (s.H b)).length) (ia:xB (s.H b)) (xi:lg s es str vx) (dR:n + Xk vx≤cc) :
  ∃ v' w',(Builtin.append_ #[t,u] ty #[ub,ux]).run P w=.ok v' w'∧R c g (s.aK b (.cells (Xy s es (.sl es b 0 n cc)++Xy s es vx))) a w' ∧
   VR g (Qo c g (s.aK b (.cells (Xy s es (.sl es b 0 n cc)++Xy s es vx)))) w' (.sl es b 0 (n + Xk vx) cc) v':=by
 have aP:=RC ia
 obtain ⟨news,q1,q2,q3,q4,q5,q6⟩:=FU (P:=P) hR hx xi
 obtain ⟨dF,o1,o2,o3,o4,o5,o6⟩:=FU (P:=P) (str:=false) hR hb (x:=.sl es b 0 n cc) ⟨rfl,rfl,by simpa using hl⟩
 simp only[J3]at o1 o2 o3 o4 o6
 rcases po hb with ⟨k,cap,e',cur,fz,rfl,h1,h2,h3,h4,h5,h6⟩|⟨ad,rfl,h1,rfl,rfl⟩
 ·have hlen:(dF++news).length=(n + Xk vx) * es:=by rw[List.length_append,o3,q3,Nat.add_mul]
  have vg:(Xy s es (.sl es b 0 n cc)++Xy s es vx).length=(n + Xk vx) * es:=by rw[List.length_append,o4,q4,Nat.add_mul]
  have wR:∀ v ∈ dF++news,v.oneCell'=true:=fun v hv=>(List.mem_append.1 hv).elim (o5 v) (q5 v)
  have FW:∀ j,j < (n + Xk vx) * es→VR g (Qo c g s) w ((Xy s es (.sl es b 0 n cc)++Xy s es vx).getD j .any) ((dF++news).getD j undef):=fun j hj=>by
   by_cases my:j < n * es
   ·have:=o6 j my
    simp only[List.getD,List.getElem?_append_left (show j < (Xy s es (.sl es b 0 n cc)).length by omega),List.getElem?_append_left (show j < dF.length by omega)]at this ⊢
    exact this
   ·have:=q6 (j - n * es) (by rw[Nat.add_mul]at hj;omega)
    simp only[List.getD,List.getElem?_append_right (show (Xy s es (.sl es b 0 n cc)).length≤j by omega),List.getElem?_append_right (show dF.length≤j by omega),o3,o4]at this ⊢
    exact this
  have qC:n + Xk vx≤cap:=by omega
  have df:=hR.h b
  rw[h1]at df
  have pw:fz=(0,0)∨cur.size≤fz.1:=by
   cases hh:s.H b with
   | cells cs=>rw[hh]at df;cases df with|cells bJ _ _ _ hf=>rw[h5]at bJ;cases bJ;exact hf
   | aE kvs dn=>rw[hh]at df;cases df with|aE bJ=>rw[h5]at bJ;cases bJ
   | bl kvs bs ck=>rw[hh]at df;cases df with|bl bJ=>rw[h5]at bJ;cases bJ
   | iter b0 ck seen=>rw[hh]at df;cases df with|iter bJ=>rw[h5]at bJ;cases bJ
   | c7 ls=>rw[hh]at ia;exact ia.elim
   | free=>rw[hh]at aP;exact aP.elim
   | dead=>rw[hh]at aP;exact aP.elim
  have hmul:(n + Xk vx) * es≤cap * es:=Nat.mul_le_mul_right _ qC
  have gZ:n * i.size + news.length≤cur.size:=by rw[c5,q3,← Nat.add_mul];omega
  have hr:=QY (ty:=ty) (P:=P) ht hu hi k n cap ux (Xk vx) news cur e' fz w q1 h5 pw (by rw[c5];exact q2) q5 qC gZ
  rw[c5]at hr
  have hnc:n * es≤cap * es:=Nat.mul_le_mul_right es (Nat.le_trans h2 h3)
  have holds:dF=cur.toList.take (n * es):=by
   have a1:=o2 w rfl
   have a2:=run_firstCells_some (P:=P) w es n ⟨k,0,none⟩ n cap (cur.toList.take (n * es)) (by simp;omega) (by have:=J4 h5 (o:=0) (n:=n * es) af w rfl;simpa using this)
   rw[a1]at a2
   simpa using a2
  have cd:(cur.toList.take (n * es)++news++cur.toList.drop (n * es + news.length)).toArray.size=cur.size:=by
   rw[c5]at gZ
   simp;omega
  have aW:∀ j,j < (n + Xk vx) * es→(cur.toList.take (n * es)++news++cur.toList.drop (n * es + news.length)).toArray.getD j undef=(dF++news).getD j undef:=fun j hj=>by
   rw[← holds]
   simp only[Array.getD_eq_getD_getElem?,List.getD,List.getElem?_toArray]
   rw[List.getElem?_append_left af]
  have hf:=Q3 (new:=(cur.toList.take (n * es)++news++cur.toList.drop (n * es + news.length)).toArray) h5 cd
  have vh:Qo c g s k:=.inr ⟨b,aP,h1⟩
  have bu:=hR.setBlock (x:=.cells (Xy s es (.sl es b 0 n cc)++Xy s es vx)) h1 aP trivial hf (by
   refine .cells (cur:=(cur.toList.take (n * es)++news++cur.toList.drop (n * es + news.length)).toArray) (e:=e') (fz:=fz) (setRow_heap w k cur _ e' fz h5) af (fun j hj=>?_) (fun j hj=>?_) (by rw[cd];exact pw)
   ·rw[aW j af]
    have cV:j < (dF++news).length:=by omega
    simp only[List.getD,List.getElem?_eq_getElem cV,Option.getD_some]
    exact wR _ (List.getElem_mem cV)
   ·rw[aW j af]
    exact (FW j af).mono (hf.weak fun i hi=>hi ▸ vh) (fun _ _ h=>h) (fun _ _=>rfl))
  exact ⟨_,_,hr,bu,.sl (k:=k) (e:=e') (fz:=fz) h1 dR h3 h4 (setRow_heap w k cur _ e' fz h5) (by rw[cd];exact h6)⟩
 ·have hm:Xk vx=0:=by omega
  rw[hm]at q1 q2 q3 q4
  have hn:news=[]:=List.eq_nil_of_length_eq_zero af
  have hc:Xy s es vx=[]:=List.eq_nil_of_length_eq_zero af
  have Gj:Xy s es (.sl es b 0 0 0)=[]:=List.eq_nil_of_length_eq_zero af
  subst hn
  have hr:=QZ (P:=P) (ty:=ty) ht hu hi ad 0 0 ux w q1 (by rw[c5];exact q2) (Nat.le_refl _)
  have vp:s.H b=.cells []:=by
   have df:=hR.h b
   rw[h1]at df
   cases hh:s.H b with
   | cells cs=>rw[hh]at df;cases df;rfl
   | aE kvs dn=>rw[hh]at df;cases df
   | bl kvs bs ck=>rw[hh]at df;cases df
   | iter b0 ck seen=>rw[hh]at df;cases df
   | c7 ls=>rw[hh]at ia;exact ia.elim
   | free=>rw[hh]at aP;exact aP.elim
   | dead=>rw[hh]at aP;exact aP.elim
  have hs:s.aK b (.cells (Xy s es (.sl es b 0 0 0)++Xy s es vx))=s:=by
   rw[hc,Gj]
   refine pA (fun _=>rfl) fun j=>?_
   rw[FS.a7];split
   ·rename_i h;subst h;rw[vp];rfl
   ·rfl
  rw[hs,hm]
  exact ⟨_,_,hr,hR,.kr h1 rfl⟩
def CO (s:FS) (es:Nat) (str:Bool):List AV→Prop
 | [.sl es2 b o n cc,vx]=>es2=es∧o=0∧n * es≤(Yw (s.H b)).length∧xB (s.H b)∧lg s es str vx∧n + Xk vx≤cc
 | _=>False
def KR (es:Nat):List AV→AV
 | [.sl _ b _ n cc,vx]=>.sl es b 0 (n + Xk vx) cc
 | _=>.any
def CP:List AV→Nat
 | .sl _ b _ _ _::_=>b
 | _=>0
theorem Xsj (s:FS) (es es2 b o n cc:Nat) (str:Bool) (vx:AV):CO s es str [.sl es2 b o n cc,vx]=(es2=es∧o=0∧n * es≤(Yw (s.H b)).length∧xB (s.H b)∧lg s es str vx∧n + Xk vx≤cc):=rfl
theorem Xzt (es es2 b o n cc:Nat) (vx:AV):KR es [.sl es2 b o n cc,vx]=.sl es b 0 (n + Xk vx) cc:=rfl
theorem Xz8 (es2 b o n cc:Nat) (r:List AV):CP (.sl es2 b o n cc::r)=b:=rfl
attribute [go_sem] Xsj Xzt Xz8
def Gk (s:St) (gl:Nat→AV) (d:Nat) (xs:List TV):bq:=⟨Xp xs,CP ((aG gl s.fs xs).map Qk)::Cy ((aG gl s.fs xs).map Qk),[d],[CP ((aG gl s.fs xs).map Qk)]⟩
def CQ (s:St) (gl:Nat→AV) (d es:Nat) (xs:List TV):St:=(s.aK (CP ((aG gl s.fs xs).map Qk)) (.cells (Cw s.fs es ((aG gl s.fs xs).map Qk)))).put d (KR es ((aG gl s.fs xs).map Qk))
theorem RD {s:St} {d es iI:Nat} {str:Bool} {xs:List TV} (hc:Qv none (aG c.gl s.fs xs)) (aU:CO s.fs es str ((aG c.gl s.fs xs).map Qk)) :
  Ky P c (.pd (some d) (.app es iI str) xs none) s.fs (Gk s c.gl d xs) (CQ s c.gl d es xs).fs:=by
 intro ops io he
 obtain ⟨bm,bc,hd,ys,aJ,rfl⟩:=Zt he
 obtain ⟨x,y,t,u,e,i,z,rfl,bh,hu,hi,hz,ky,c5,qn,J6⟩:=Q8 aJ
 have fM:(aG c.gl s.fs ([x,y].map aT)).map Qk=[Qk (aZ c.gl s.fs (aT x)),Qk (aZ c.gl s.fs (aT y))]:=rfl
 unfold Gk CQ
 rw[fM]at aU ⊢
 generalize hvb:Qk (aZ c.gl s.fs (aT x))=vb at *
 generalize Rb:Qk (aZ c.gl s.fs (aT y))=vx at *
 cases vb<;>simp only[CO]at aU
 rename_i es2 b o n cc
 obtain ⟨rfl,rfl,hl,aP,xi,dR⟩:=aU
 rw[St.bS,St.cK]
 simp only[CP,KR,Cy,Cw]
 refine FX (kb:=none) (Jz bm) bc (by simpa using hd) fun s2 hT hH g a w hR=>?_
 have bn:aG c.gl s2 ([x,y].map aT)=aG c.gl s.fs ([x,y].map aT):=Yj hT
 have fo:=Yp (hR.aG [x,y]) (by rw[bn];exact hc)
 rw[bn,fM]at fo
 obtain ⟨v1,v2,_⟩:=fo
 have sm:s2.H b=s.fs.H b:=hH b au
 have CA:∀ b',jy vx=some b'→s2.H b'=s.fs.H b':=fun b' h=>hH b' (by simp[h])
 obtain ⟨v',w',hr,h1,h2⟩:=Xpj (P:=P) (ty:=io.type) hR hu J6 hi hz c5 (ky.trans c5) v1 v2 (by rw[sm];exact hl) (by rw[sm];exact aP) (Q9 CA xi) dR
 rw[F4 (s:=s.fs) (x:=.sl es2 b 0 n cc) fun b' h=>by cases h;exact sm,F4 CA]at h1 h2
 refine ⟨g,v',w',?_,h1,h2⟩
 unfold execOp
 simp only[bh,resolve,invoke,builtin,Sem.run_bind,Sem.run_pure,Result.andThen_ok,List.map_toArray,List.map_cons,List.map_nil,hr]
theorem RE {r0:List bF} {K:St→Prop} {s:St} {d es iI:Nat} {str:Bool} {xs:List TV} (h:Qv none (aG c.gl s.fs xs)∧CO s.fs es str ((aG c.gl s.fs xs).map Qk)∧XP P c r0 K (CQ s c.gl d es xs)) :
  Yl P c (.pd (some d) (.app es iI str) xs none) r0 K s:=.inl ⟨_,_,RD h.1 h.2.1,h.2.2⟩
theorem RF {anc:List Nat} {fs:List bq} {r0:List bF} {K:St→Prop} {s:St} {d es iI:Nat} {str:Bool} {xs:List TV} (h:Qv none (aG c.gl s.fs xs)∧CO s.fs es str ((aG c.gl s.fs xs).map Qk)∧XD P c anc r0 (Gk s c.gl d xs::fs) K (CQ s c.gl d es xs)) :
  Zr P c anc (.pd (some d) (.app es iI str) xs none) r0 fs K s:=⟨_,_,RD h.1 h.2.1,h.2.2⟩
attribute [go_sem] CQ Gk
theorem Xsc {o:Oper} {t:TypeId} {xs:List Operand} (h:Yh P o=some (.FB t,xs)):∃ x,o.op=.call ⟨.builtin .clear,⟨[x]⟩,⟨[t]⟩⟩∧xs=[x]:=by
 unfold Yh at h
 repeat' split at h
 all_goals first
  | (cases h;exact ⟨_,by assumption,rfl⟩)
  | (simp at h;done)
  | (cases h;done)
  | (simp[Option.map_eq_some_iff]at h;done)
def Am (P:Program) (t:TypeId) (es:Nat):Prop:=∃ e i z,P.underlying t=some (.slice e)∧P.info? e=some i∧i.zero=some z∧z.cells.size=es∧z.cells.all (·.oneCell')=true
def RG (P:Program) (t:TypeId) (es:Nat):Bool:=match P.underlying t with
 | some (.slice e)=>match P.info? e with
  | some i=>match i.zero with
   | some z=>decide (z.cells.size=es) && z.cells.all (·.oneCell')
   | none=>false
  | none=>false
 | _=>false
theorem KS {t:TypeId} {es:Nat} (h:RG P t es=true):Am P t es:=by
 unfold RG at h
 split at h
 ·split at h
  ·split at h
   ·rw[Bool.and_eq_true,decide_eq_true_eq]at h
    exact ⟨_,_,_,by assumption,by assumption,by assumption,h.1,h.2⟩
   ·cases h
  ·cases h
 ·cases h
def Gl (s:FS) (es:Nat):List AV→Prop
 | [.sl es2 b _ n cc]=>es2=es∧xB (s.H b)∧n≤cc
 | _=>False
def Ao:List AV→Nat
 | .sl _ b _ _ _::_=>b
 | _=>0
def Gm (s:FS):List AV→List AV
 | .sl _ b off _ _::_=>(Yw (s.H b)).take off
 | _=>[]
theorem Yb0 (s:FS) (es es2 b o n cc:Nat):Gl s es [.sl es2 b o n cc]=(es2=es∧xB (s.H b)∧n≤cc):=rfl
theorem Yee (es2 b o n cc:Nat) (r:List AV):Ao (.sl es2 b o n cc::r)=b:=rfl
theorem Ycp (s:FS) (es2 b o n cc:Nat) (r:List AV):Gm s (.sl es2 b o n cc::r)=(Yw (s.H b)).take o:=rfl
attribute [go_sem] Yb0 Yee Ycp
theorem Xuc {z:Array Value} (h:z.all (·.oneCell')=true) (n:Nat):∀ v ∈ (Builtin.zeroCells z n).toList,v.oneCell'=true:=by
 intro v hv
 unfold Builtin.zeroCells at hv
 simp only[Array.toList_map,List.mem_map]at hv
 obtain ⟨i,hi,rfl⟩:=hv
 have mr:i < n * z.size:=by simpa using hi
 have hz:0 < z.size:=by
  rcases Nat.eq_zero_or_pos z.size with h0|h0
  ·rw[h0]at mr;omega
  ·exact h0
 have hm:=Nat.mod_lt i hz
 rw[getElem!_pos z _ hm]
 exact Array.all_eq_true.1 h _ hm
theorem Xu3 {s:St} {t:TypeId} {es:Nat} {xs:List TV} (hz:Am P t es) (hc:Qv none (aG c.gl s.fs xs)) (aU:Gl s.fs es ((aG c.gl s.fs xs).map Qk)) :
  Ky P c (.pd none (.FB t) xs none) s.fs ⟨Xp xs,[Ao ((aG c.gl s.fs xs).map Qk)],[],[Ao ((aG c.gl s.fs xs).map Qk)]⟩ (s.aK (Ao ((aG c.gl s.fs xs).map Qk)) (.cells (Gm s.fs ((aG c.gl s.fs xs).map Qk)))).fs:=by
 intro ops io he
 obtain ⟨bm,bc,hd,ys,aJ,rfl⟩:=Zt he
 obtain ⟨x,bh,rfl⟩:=Xsc aJ
 obtain ⟨e,i,z,hu,hi,hzi,ky,so⟩:=hz
 have nc:(aG c.gl s.fs ([x].map aT)).map Qk=[Qk (aZ c.gl s.fs (aT x))]:=rfl
 rw[nc]at aU ⊢
 generalize Rb:Qk (aZ c.gl s.fs (aT x))=vx at *
 cases vx<;>simp only[Gl]at aU
 rename_i es2 b off n cc
 obtain ⟨rfl,ia,hn⟩:=aU
 rw[St.cK]
 simp only[Ao,Gm]
 refine ⟨fun i _=>rfl,fun i hi=>by rw[FS.a7,if_neg (fun e=>hi (by simp[e]))],fun s2 hT hH g a w hR K Q' hK=>Yz (Jz bm) ?_⟩
 have bn:aG c.gl s2 ([x].map aT)=aG c.gl s.fs ([x].map aT):=Yj hT
 have fo:=Yp (hR.aG [x]) (by rw[bn];exact hc)
 rw[bn,nc]at fo
 obtain ⟨hx,_⟩:=fo
 have sm:s2.H b=s.fs.H b:=hH b au
 rw[← sm]at ia hK
 have aP:=RC ia
 have hzv:(zeroValue e).run P w=.ok z w:=by simp[zeroValue,typeInfo,hi,hzi]
 have CR:∀ n,(Builtin.zeroCells z.cells n).toList.length=n * es2:=fun n=>by rw[Array.length_toList,size_zeroCells,ky]
 have CS:∃ w',(execOp a.eval io).run P w=.ok (.value (.tuple #[])) w'∧R c g (s2.aK b (.cells ((Yw (s2.H b)).take off))) a w':=by
  have df:=hR.h b
  rcases po hx with ⟨k,cap,e',cur,fz,e1,h1,h2,h3,h4,h5,h6⟩|⟨ad,e1,h1,rfl,rfl⟩
  ·rw[h1]at df
   have dg:=aP
   have l9:=sm
   clear sm l9 hK
   cases hh:s2.H b with
   | aE kvs dn=>rw[hh]at df;cases df with|aE bJ=>rw[h5]at bJ;cases bJ
   | bl kvs bs ck=>rw[hh]at df;cases df with|bl bJ=>rw[h5]at bJ;cases bJ
   | iter b0 ck seen=>rw[hh]at df;cases df with|iter bJ=>rw[h5]at bJ;cases bJ
   | c7 ls=>rw[hh]at ia;exact ia.elim
   | free=>rw[hh]at aP;exact aP.elim
   | dead=>rw[hh]at aP;exact aP.elim
   | cells cs =>
   rw[hh]at df
   cases df with
   | cells bJ kW pz nX ml =>
   rw[h5]at bJ;cases bJ
   have hmul:n * es2≤cap * es2:=Nat.mul_le_mul_right _ af
   obtain ⟨w',eD,r1,r2,r3,r4,r5⟩:=IZ (P:=P) off (Builtin.zeroCells z.cells n).toList 0 w cur h5 (Xuc so n) (by rw[CR];omega) ml
   have dJ:(execOp a.eval io).run P w=.ok (.value (.tuple #[])) w':=by
    unfold execOp
    simp only[bh,resolve,invoke,builtin,Sem.run_bind,Sem.run_pure,Result.andThen_ok,List.map_toArray,List.map_cons,List.map_nil,e1]
    cases n with
    | zero =>
     have:(Builtin.zeroCells z.cells 0).toList=[]:=List.eq_nil_of_length_eq_zero (by rw[CR];omega)
     rw[this]at r1
     have hw:w'=w:=by
      have:(storeCells ⟨k,off,none⟩ [] 0).run P w=.ok () w:=rfl
      rw[this]at r1;cases r1;rfl
     subst hw
     simp[Builtin.clear_,run_underlying hu]
    | succ n=>simp[Builtin.clear_,run_underlying hu,hzv,r1]
   have vh:Qo c g s2 k:=.inr ⟨b,dg,h1⟩
   refine ⟨w',dJ,hR.setBlock h1 dg trivial r5 (.cells r2 (by rw[r3];simp[Yw];omega) (fun j hj=>?_) (fun j hj=>?_) (by rw[r3];exact ml))⟩
   ·have cV:j < cs.length∧j < off:=by simp[Yw]at hj;omega
    rw[r4 j,if_neg af]
    exact pz j cV.1
   ·have cV:j < cs.length∧j < off:=by simp[Yw]at hj;omega
    rw[r4 j,if_neg af]
    have:((Yw (Bk.cells cs)).take off).getD j .any=cs.getD j .any:=by simp[Yw,List.getD,List.getElem?_take,cV.2]
    rw[this]
    exact (nX j cV.1).mono (r5.weak fun i hi=>hi ▸ vh) (fun _ _ h=>h) (fun _ _=>rfl)
  ·rw[h1]at df
   have vp:s2.H b=.cells []:=by
    cases hh:s2.H b with
    | cells cs=>rw[hh]at df;cases df;rfl
    | aE kvs dn=>rw[hh]at df;cases df
    | bl kvs bs ck=>rw[hh]at df;cases df
    | iter b0 ck seen=>rw[hh]at df;cases df
    | c7 ls=>rw[hh]at ia;exact ia.elim
    | free=>rw[hh]at aP;exact aP.elim
    | dead=>rw[hh]at aP;exact aP.elim
   have hs:s2.aK b (.cells ((Yw (s2.H b)).take off))=s2:=by
    refine pA (fun _=>rfl) fun j=>?_
    rw[FS.a7];split
    ·rename_i h;subst h;rw[vp];simp[Yw]
    ·rfl
   rw[hs]
   refine ⟨w,?_,hR⟩
   unfold execOp
   simp only[bh,resolve,invoke,builtin,Sem.run_bind,Sem.run_pure,Result.andThen_ok,List.map_toArray,List.map_cons,List.map_nil,e1]
   cases ad<;>simp[Builtin.clear_,run_underlying hu]
 obtain ⟨w',hr,bb⟩:=CS
 unfold Oper.wp
 rw[hr]
 show K (a.put io.dst (.tuple #[])) w'
 rw[bc]
 refine hK g a w' ?_
 rw[Cb]
 exact bb
theorem Gn {r0:List bF} {K:St→Prop} {s:St} {t:TypeId} {es:Nat} {xs:List TV} (hz:Am P t es) (h:Qv none (aG c.gl s.fs xs)∧Gl s.fs es ((aG c.gl s.fs xs).map Qk)∧XP P c r0 K (s.aK (Ao ((aG c.gl s.fs xs).map Qk)) (.cells (Gm s.fs ((aG c.gl s.fs xs).map Qk))))) :
  Yl P c (.pd none (.FB t) xs none) r0 K s:=.inl ⟨_,_,Xu3 hz h.1 h.2.1,h.2.2⟩
end
def CT (P:Program) (kt:TypeId):Bool:=match P.underlying kt with
 | some (.struct _)=>true
 | some (.array _ _)=>true
 | _=>false
def jl (wide:Bool):AV→Option (List AV)
 | .agg cs=>bif wide then some cs else none
 | x=>bif wide then none else some [x]
def Kv (wide:Bool) (ks:List SK) (x:AV):Prop:=(jl wide x).map (List.map Zi)=some (ks.map some)
structure mH (P:Program) (kt:TypeId) (wide:Bool) (ks:List SK):Prop where
 sh:jh P 100 kt=some ks
 wd:CT P kt=wide
 ns:∀ k ∈ ks,k≠.str
section
variable {P:Program} {g:Nat→GM} {W:Nat→Prop} {w:World}
theorem KT {wide:Bool} {ks:List SK} {x:AV} (hx:Kv wide ks x):∃ cs,jl wide x=some cs∧cs.map Zi=ks.map some:=by
 unfold Kv at hx
 cases h:jl wide x with
 | none=>rw[h]at hx;cases hx
 | some cs=>rw[h]at hx;exact ⟨cs,rfl,by simpa using hx⟩
theorem RH {x:AV} {cs:List AV} (h:jl false x=some cs):cs=[x]:=by cases x<;>simp[jl]at h<;>exact h.symm
theorem RJ {x:AV} {cs:List AV} (h:jl true x=some cs):x=.agg cs:=by cases x<;>simp[jl]at h;rw[h]
theorem Xv6 {wide:Bool} {x y:AV} {cs:List AV} (hx:jl wide x=some cs) (hy:jl wide y=some cs):x=y:=by
 cases wide with
 | true=>rw[RJ hx,RJ hy]
 | false=>have h1:=RH hx;have h2:=RH hy;rw[h1]at h2;injection h2
theorem key_holds {kt:TypeId} {wide:Bool} {ks:List SK} (hT:mH P kt wide ks) {x:AV} {v:Value} (hx:Kv wide ks x) (hv:VR g W w x v) :
  ∃ cs us,jl wide x=some cs∧cs.map Zi=ks.map some∧Wy P kt v us∧us.length=cs.length∧∀ j,j < cs.length→VR g W w (cs.getD j .any) (us.getD j undef):=by
 obtain ⟨cs,h1,h2⟩:=KT hx
 have hw:=hT.wd
 unfold CT at hw
 cases wide with
 | true =>
  cases x<;>simp[jl]at h1
  subst h1
  obtain ⟨us,rfl,q1,q2,q3⟩:=Uc hv
  refine ⟨_,us.toList,rfl,h2,?_,by simpa using q1,fun j hj=>by have:=q3 j hj;simpa [Array.getD_eq_getD_getElem?,List.getD] using this⟩
  unfold Wy
  split<;>simp_all
 | false =>
  have pz:cs=[x]:=by cases x<;>simp[jl]at h1<;>exact h1.symm
  refine ⟨cs,[v],h1,h2,?_,by rw[pz];rfl,fun j hj=>?_⟩
  ·unfold Wy
   split<;>simp_all
  ·rw[pz]at hj ⊢
   simp at hj
   subst hj
   exact hv
theorem Yd7 {kt:TypeId} {wide:Bool} {ks:List SK} (hT:mH P kt wide ks) {x y:AV} {u v:Value} (hx:Kv wide ks x) (hy:Kv wide ks y) (hu:VR g W w x u) (hv:VR g W w y v):∃ r:Bool,(∀ w',(Op.equal kt u v).run P w'=.ok r w')∧(r=true ↔ x=y):=by
 obtain ⟨cs,us,x1,x2,x3,x4,x5⟩:=key_holds hT hx hu
 obtain ⟨ds,vs,y1,y2,y3,y4,y5⟩:=key_holds hT hy hv
 have kl:cs.length=ks.length:=by simpa using congrArg List.length x2
 have kl':ds.length=ks.length:=by simpa using congrArg List.length y2
 refine ⟨Jr ks us vs,fun w'=>FQ (P:=P) 9900 100 kt ks hT.sh w' _ _ _ _ x3 y3 af af (zY ks cs _ x2 x4 x5) (zY ks ds _ y2 y4 y5),?_⟩
 rw[J1 ks cs ds _ _ x2 y2 x4 y4 x5 y5]
 exact ⟨fun h=>by subst h;exact Xv6 x1 y1,fun h=>by subst h;rw[x1]at y1;injection y1⟩
theorem Ybf {wide:Bool} {ks:List SK} {x:AV} {u v:Value} (hx:Kv wide ks x) (hu:VR g W w x u) (hv:VR g W w x v):u=v:=by
 obtain ⟨cs,h1,h2⟩:=KT hx
 have one:∀ {y:AV} {k:SK} {a b:Value},Zi y=some k→VR g W w y a→VR g W w y b→a=b:=by
  intro y k a b hk ha hb
  cases y<;>simp[Zi]at hk<;>cases ha<;>cases hb<;>rfl
 have all:∀ c ∈ cs,∃ k,Zi c=some k:=fun c hc=>by
  have:Zi c ∈ ks.map some:=by rw[← h2];exact List.mem_map_of_mem hc
  obtain ⟨k,_,hk⟩:=List.mem_map.1 this
  exact ⟨k,hk.symm⟩
 cases x with
 | agg ds =>
  cases wide<;>simp[jl]at h1
  subst h1
  obtain ⟨a,rfl,a1,a2,a3⟩:=Uc hu
  obtain ⟨b,rfl,b1,b2,b3⟩:=Uc hv
  congr 1
  apply Array.ext
  ·rw[a1,b1]
  ·intro j hj fB
   have mI:j < ds.length:=by omega
   obtain ⟨k,hk⟩:=all (ds.getD j .any) (by simp[List.getD,mI])
   have:=one hk (a3 j mI) (b3 j mI)
   simpa [Array.getD_eq_getD_getElem?,hj,fB] using this
 | _ =>
  cases wide<;>simp[jl]at h1
  subst h1
  obtain ⟨k,hk⟩:=all _ (List.mem_singleton.2 rfl)
  exact one hk hu hv
theorem KU (em:Bool) (d:Nat):∀ (m:Nat) (t:TypeId) (ks:List SK),jh P m t=some ks→∀ (w:World) (x:Value) (us:List Value),Wy P t x us→us.length=ks.length→kx ks us→(Instr.checkKey em (d + m) t x).run P w=.ok () w
 | 0,_,_,h=>by cases h
 | m + 1,t,ks,h=>by
  intro w x us hx lu ou
  unfold jh at h
  cases hu:P.underlying t with
  | none=>simp[hu]at h
  | some kd =>
   rw[hu]at h
   simp only[Wy,hu]at hx
   rw[show d + (m + 1)=(d + m) + 1 from rfl]
   cases kd<;>simp only[Option.some.injEq,reduceCtorEq]at h hx
   case bool=>subst h hx;obtain ⟨⟨a,rfl⟩,_⟩:=ou;simp[Instr.checkKey,run_underlying hu]
   case int k=>subst h hx;obtain ⟨⟨a,rfl⟩,_⟩:=ou;simp[Instr.checkKey,run_underlying hu]
   case string=>subst h hx;obtain ⟨⟨a,rfl⟩,_⟩:=ou;simp[Instr.checkKey,run_underlying hu]
   case struct fs =>
    subst hx
    split at h
    ·cases h
    ·rw[Instr.checkKey]
     simp only[Sem.run_bind,run_underlying hu,Result.andThen_ok]
     rw[← Array.forIn_toList]
     have key:∀ (L:List Field) (o:Nat) (ks:List SK),zW (jh P m) P o L=some ks→kx ks (us.toArray.toList.drop o) →
       (forIn L PUnit.unit fun f r=>do
        if f.name ≠ "_" then do
         let v ← part f.type us.toArray f.offset
         Instr.checkKey em (d + m) f.type v
         pure (ForInStep.yield PUnit.unit)
        else pure (ForInStep.yield PUnit.unit):Sem PUnit).run P w=.ok PUnit.unit w:=by
      intro L
      induction L with
      | nil=>intro o ks _ _;simp
      | cons f L ih =>
       intro o ks h hx
       unfold zW at h
       split at h
       ·cases h
       ·rename_i hn
        simp only[not_or,Decidable.not_not]at hn
        obtain ⟨dQ,dY,mB⟩:=hn
        have nf:=FO mB
        simp only[Option.bind_eq_some_iff]at h
        obtain ⟨k1,h1,h2⟩:=h
        split at h2
        ·rename_i hc
         simp only[Option.map_eq_some_iff]at h2
         obtain ⟨k2,h2,rfl⟩:=h2
         obtain ⟨x1,x2⟩:=ve _ _ _ hx
         obtain ⟨a,pa,ha⟩:=zX w h1 nf hc x1
         have lx:=vf _ _ x1
         have hr:=KU em d m _ _ h1 w a _ ha (by rw[List.length_take];omega) (xh _ _ x1)
         rw[List.drop_drop]at x2
         simp only[List.forIn_cons,Sem.run_bind,dQ,ne_eq,not_false_eq_true,if_true,dY,pa,hr,Result.andThen_ok,Sem.run_pure]
         exact ih _ _ h2 x2
        ·cases h2
     have h3:=key fs.toList 0 ks h (by simpa using ou)
     rw[h3];rfl
   case array n e =>
    subst hx
    split at h
    ·cases h
    ·rename_i aI
     obtain ⟨i,hi⟩:=Option.isSome_iff_exists.1 (FO aI)
     simp only[Option.bind_eq_some_iff]at h
     obtain ⟨k1,h1,h2⟩:=h
     split at h2
     ·rename_i hc
      cases h2
      rw[Instr.checkKey]
      simp only[Sem.run_bind,run_underlying hu,Result.andThen_ok]
      simp only[Std.Legacy.Range.forIn_eq_forIn_range',Std.Legacy.Range.size,Nat.sub_zero,Nat.add_one_sub_one,Nat.div_one]
      have key:∀ (n i0:Nat),kx (List.replicate n k1).flatten (us.toArray.toList.drop (i0 * k1.length)) →
        (forIn (List.range' i0 n) PUnit.unit fun i r=>do
         let z ← sizeOf e
         let v ← part e us.toArray (i * z)
         Instr.checkKey em (d + m) e v
         pure (ForInStep.yield PUnit.unit):Sem PUnit).run P w=.ok PUnit.unit w:=by
       intro n
       induction n with
       | zero=>intro i0 _;simp
       | succ n ih =>
        intro i0 hx
        rw[List.replicate_succ,List.flatten_cons]at hx
        obtain ⟨x1,x2⟩:=ve _ _ _ hx
        obtain ⟨a,pa,ha⟩:=zX w h1 (by rw[hi];rfl) hc x1
        have lx:=vf _ _ x1
        have hr:=KU em d m _ _ h1 w a _ ha (by rw[List.length_take];omega) (xh _ _ x1)
        have e1:i0 * k1.length + k1.length=(i0 + 1) * k1.length:=by rw[Nat.add_mul,Nat.one_mul]
        rw[List.drop_drop,e1]at x2
        rw[List.range'_succ]
        simp only[List.forIn_cons,Sem.run_bind,run_sizeOf w hi,hc,pa,hr,Result.andThen_ok,Sem.run_pure]
        exact ih (i0 + 1) x2
      have h3:=key n 0 (by simpa using ou)
      rw[h3];rfl
     ·cases h2
theorem KV {kt:TypeId} {wide:Bool} {ks:List SK} (hT:mH P kt wide ks) {x:AV} {v:Value} (hx:Kv wide ks x) (hv:VR g W w x v) (em:Bool) (w':World):(Instr.checkKey em 10000 kt v).run P w'=.ok () w':=by
 obtain ⟨cs,us,x1,x2,x3,x4,x5⟩:=key_holds hT hx hv
 have kl:cs.length=ks.length:=by simpa using congrArg List.length x2
 exact KU em 9900 100 kt ks hT.sh w' v us x3 af (zY ks cs _ x2 x4 x5)
open Classical in
noncomputable def jm (kvs:List (AV × AV)) (x:AV):Option Nat:=kvs.findIdx? fun p=>decide (p.1=x)
theorem RK {kt:TypeId} {wide:Bool} {ks:List SK} (hT:mH P kt wide ks) {x:AV} {v:Value} (hx:Kv wide ks x) (hv:VR g W w x v):∀ (kvs:List (AV × AV)) (es:List MapEntry) (i:Nat),es.length=kvs.length→(∀ p ∈ kvs,Kv wide ks p.1) →
  (∀ j,j < kvs.length→VR g W w (kvs.getD j (.any,.any)).1 (es.getD j default).key)→∀ w',(Instr.findAsking kt v es i).run P w'=.ok ((jm kvs x).map fun j=>(i + j,(es.getD j default).val)) w'
 | [],[],i,_,_,_,w'=>by simp[Instr.findAsking,jm]
 | [],_::_,_,h,_,_,_=>by simp at h
 | _::_,[],_,h,_,_,_=>by simp at h
 | p::kvs,e::es,i,hl,hk,fo,w'=>by
  have h0:=fo 0 au
  simp only[List.getD_cons_zero]at h0
  obtain ⟨r,hr,qD⟩:=Yd7 hT hx (hk p au) hv h0
  have ih:=RK hT hx hv kvs es (i + 1) (by simpa using hl) (fun q hq=>hk q (by simp[hq])) (fun j hj=>by simpa using fo (j + 1) (by simp;omega)) w'
  simp only[Instr.findAsking,Sem.run_bind,hr,Result.andThen_ok]
  unfold jm at ih ⊢
  rw[List.findIdx?_cons]
  cases r with
  | true =>
   have:p.1=x:=(qD.1 rfl).symm
   simp[this]
  | false =>
   have bX:¬ p.1=x:=fun h=>by have:=qD.2 h.symm;cases this
   simp only[Bool.false_eq_true,if_false,bX,decide_false]
   rw[ih]
   generalize List.findIdx? _ kvs=o
   cases o with
   | none=>rfl
   | some j=>simp only[Option.map_some,List.getD_cons_succ];rw[show i + 1 + j=i + (j + 1) by omega]
theorem RL {kt:TypeId} {ks:List SK} {d:TypeDesc} (hu:P.underlying kt=some d) (hT:mH P kt false ks) {x:AV} {v:Value} (hx:Kv false ks x) (hv:VR g W w x v):∀ (kvs:List (AV × AV)) (es:List MapEntry) (i:Nat),es.length=kvs.length→(∀ p ∈ kvs,Kv false ks p.1) →
  (∀ j,j < kvs.length→VR g W w (kvs.getD j (.any,.any)).1 (es.getD j default).key)→Instr.findNow d v es i=some ((jm kvs x).map fun j=>(i + j,(es.getD j default).val))
 | [],[],i,_,_,_=>by simp[Instr.findNow,jm]
 | [],_::_,_,h,_,_=>by simp at h
 | _::_,[],_,h,_,_=>by simp at h
 | p::kvs,e::es,i,hl,hk,fo=>by
  have h0:=fo 0 au
  simp only[List.getD_cons_zero]at h0
  have ih:=RL hu hT hx hv kvs es (i + 1) (by simpa using hl) (fun q hq=>hk q (by simp[hq])) (fun j hj=>by simpa using fo (j + 1) (by simp;omega))
  have dH:∃ r:Bool,Instr.sameNow d v e.key=some r∧(r=true ↔ p.1=x):=by
   obtain ⟨cs,us,x1,x2,x3,x4,x5⟩:=key_holds hT hx hv
   obtain ⟨ds,vs,y1,y2,y3,y4,y5⟩:=key_holds hT (hk p au) h0
   have xC:=hT.sh
   have xD:=hT.wd
   unfold CT at xD
   unfold jh at xC
   rw[hu]at xC xD
   simp only[Wy,hu]at x3 y3
   have om:jl false p.1=some [p.1]:=by revert y1;cases p.1<;>simp[jl]
   have sB:jl false x=some [x]:=by revert x1;cases x<;>simp[jl]
   rw[sB]at x1;rw[om]at y1
   cases x1;cases y1
   cases d<;>simp only[Option.some.injEq,reduceCtorEq]at xC xD
   case bool =>
    subst xC
    simp at x2 y2
    cases x<;>simp[Zi]at x2
    cases hp:p.1<;>rw[hp]at y2 h0<;>simp[Zi]at y2
    cases hv;cases hq:e.key<;>rw[hq]at h0<;>cases h0
    refine ⟨_,rfl,?_⟩
    simp;exact eq_comm
   case int k =>
    subst xC
    simp at x2 y2
    cases x<;>simp[Zi]at x2
    cases hp:p.1<;>rw[hp]at y2 h0<;>simp[Zi]at y2
    subst x2 y2
    cases hv;cases hq:e.key<;>rw[hq]at h0<;>cases h0
    refine ⟨_,by simp only[Instr.sameNow,if_true];rfl,?_⟩
    simp;exact eq_comm
   case string=>exact (hT.ns _ (by rw[← xC];simp) rfl).elim
   all_goals first|(cases xC;done)|(simp at xD;done)
  obtain ⟨r,hr,qD⟩:=dH
  unfold Instr.findNow
  rw[hr]
  unfold jm at ih ⊢
  rw[List.findIdx?_cons]
  cases r with
  | true=>simp[qD.1 rfl]
  | false =>
   have bX:¬ p.1=x:=fun h=>by have:=qD.2 h;cases this
   simp only[Bool.false_eq_true,if_false,bX,decide_false]
   rw[ih]
   generalize List.findIdx? _ kvs=o
   cases o with
   | none=>rfl
   | some j=>simp only[Option.map_some,List.getD_cons_succ];rw[show i + 1 + j=i + (j + 1) by omega]
theorem KW {kt:TypeId} {wide:Bool} {ks:List SK} (hT:mH P kt wide ks) {x:AV} {v:Value} (hx:Kv wide ks x) (hv:VR g W w x v) {kvs:List (AV × AV)} {es:List MapEntry} (hl:es.length=kvs.length) (hk:∀ p ∈ kvs,Kv wide ks p.1)
  (fo:∀ j,j < kvs.length→VR g W w (kvs.getD j (.any,.any)).1 (es.getD j default).key) (w':World):(Instr.findKey kt v es).run P w'=.ok ((jm kvs x).map fun j=>(j,(es.getD j default).val)) w':=by
 cases wide with
 | true =>
  have xD:=hT.wd
  unfold CT at xD
  rw[run_findKey_eq w' (by split at xD<;>simp_all) v es,RK hT hx hv kvs es 0 hl hk fo w']
  simp
 | false =>
  cases hu:P.underlying kt with
  | none=>have:=hT.sh;unfold jh at this;rw[hu]at this;cases this
  | some d =>
   rw[MapKept.run_findKey hu (RL hu hT hx hv kvs es 0 hl hk fo)]
   simp
theorem Xug {wide:Bool} {ks:List SK} (KX:∀ k ∈ ks,k≠.str) {x:AV} {v:Value} (hx:Kv wide ks x) (hv:VR g W w x v):Instr.sameBits 10000 v v=true:=by
 obtain ⟨cs,h1,h2⟩:=KT hx
 have all:∀ c ∈ cs,∃ k,Zi c=some k∧k≠.str:=fun c hc=>by
  have:Zi c ∈ ks.map some:=by rw[← h2];exact List.mem_map_of_mem hc
  obtain ⟨k,tP,hk⟩:=List.mem_map.1 this
  exact ⟨k,hk.symm,KX k tP⟩
 have one:∀ {y:AV} {k:SK} {a:Value} (n:Nat),Zi y=some k∧k≠.str→VR g W w y a→Instr.sameBits n a a=true:=by
  rintro y k a n ⟨hk,hk2⟩ ha
  cases y<;>simp[Zi]at hk<;>(try (exact (hk2 hk.symm).elim))<;>cases ha<;>cases n<;>simp[Instr.sameBits]
 cases x with
 | agg ds =>
  cases wide<;>simp[jl]at h1
  subst h1
  obtain ⟨a,rfl,a1,a2,a3⟩:=Uc hv
  show (a.size == a.size && (a.toList.zip a.toList).all fun (x,y)=>Instr.sameBits 9999 x y)=true
  simp only[beq_self_eq_true,Bool.true_and,List.all_eq_true]
  rintro ⟨u1,u2⟩ hm
  obtain ⟨j,hj,he⟩:=List.getElem_of_mem hm
  simp at hj
  simp only[List.getElem_zip,Prod.mk.injEq]at he
  obtain ⟨e1,e2⟩:=he
  subst e1 e2
  have mI:j < ds.length:=by omega
  obtain ⟨k,hk⟩:=all (ds.getD j .any) (by simp[List.getD,mI])
  have:=one 9999 hk (a3 j mI)
  simpa [Array.getD_eq_getD_getElem?,hj] using this
 | _ =>
  cases wide<;>simp[jl]at h1
  subst h1
  obtain ⟨k,hk⟩:=all _ (List.mem_singleton.2 rfl)
  exact one _ hk hv
end
def RM (P:Program) (t:TypeId):Option (Bool × List SK × AV):=match P.underlying t with
 | some (.map kt et)=>match jh P 100 kt with
  | some ks=>if ks.all (fun k=>match k with|.str=>false|_=>true) then ((P.info? et).bind (·.zero)).map fun z=>(CT P kt,ks,tn z) else none
  | none=>none
 | _=>none
structure dG (P:Program) (t:TypeId) (wide:Bool) (ks:List SK) (z:AV):Prop where
 of:∃ kt et zv,P.underlying t=some (.map kt et)∧mH P kt wide ks∧(∀ w,(zeroValue et).run P w=.ok zv w)∧tn zv=z
theorem dG.mk' {P:Program} {t:TypeId} {wide:Bool} {ks:List SK} {z:AV} (h:RM P t=some (wide,ks,z)):dG P t wide ks z:=by
 unfold RM at h
 split at h
 ·rename_i kt et hu
  split at h
  ·rename_i ks' dZ
   split at h
   ·rename_i KX
    simp only[Option.map_eq_some_iff,Prod.mk.injEq]at h
    obtain ⟨zv,hz,rfl,rfl,rfl⟩:=h
    refine ⟨kt,et,zv,hu,⟨dZ,rfl,fun k hk e=>?_⟩,fun w=>?_,rfl⟩
    ·have:=List.all_eq_true.1 KX k hk
     subst e;cases this
    ·cases hi:P.info? et with
     | none=>rw[hi]at hz;cases hz
     | some i=>rw[hi]at hz;simp at hz;simp[zeroValue,typeInfo,hi,hz]
   ·cases h
  ·cases h
 ·cases h
noncomputable def pG (kvs:List (AV × AV)) (x z:AV):AV:=match jm kvs x with
 | some i=>(kvs.getD i (.any,.any)).2
 | none=>z
noncomputable def Ap (kvs:List (AV × AV)) (x:AV):Bool:=(jm kvs x).isSome
noncomputable def pH (kvs:List (AV × AV)) (x v:AV):List (AV × AV):=match jm kvs x with
 | some i=>kvs.set i (x,v)
 | none=>kvs++[(x,v)]
noncomputable def xE (kvs:List (AV × AV)) (x:AV):List (AV × AV):=match jm kvs x with
 | some i=>kvs.eraseIdx i
 | none=>kvs
noncomputable def Yg7 (kvs:List (AV × AV)) (x z:AV):List (AV × AV):=match jm kvs x with
 | some _=>kvs
 | none=>kvs++[(x,z)]
noncomputable def u0 (kvs:List (AV × AV)) (x:AV):Nat:=(jm kvs x).getD kvs.length
def Aq (wide:Bool) (ks:List SK) (kvs:List (AV × AV)):Prop:=∀ p ∈ kvs,Kv wide ks p.1
theorem KY {kvs:List (AV × AV)} {x:AV} {i:Nat} (h:jm kvs x=some i):i < kvs.length∧(kvs.getD i (.any,.any)).1=x:=by
 unfold jm at h
 obtain ⟨hi,h1,_⟩:=List.findIdx?_eq_some_iff_getElem.1 h
 refine ⟨hi,?_⟩
 have e:kvs.getD i (.any,.any)=kvs[i]:=by simp[List.getD,hi]
 rw[e];exact @of_decide_eq_true _ (Classical.propDecidable _) h1
section
variable {P:Program} {c:Cx} {ops:Array Oper} {io:Oper} {g:Nat→GM} {s:FS} {a:Act} {w:World}
theorem CU (hR:R c g s a w) {b k:Nat} {kvs:List (AV × AV)} {dn:Bool} (hb:s.H b=.aE kvs dn) (hg:g b=.re k):∃ es clock,w.heap[k]?=some (.map es clock)∧es.size=kvs.length ∧
  (∀ j,j < kvs.length→VR g (Qo c g s) w (kvs.getD j (.any,.any)).1 (es.getD j default).key)∧(∀ j,j < kvs.length→VR g (Qo c g s) w (kvs.getD j (.any,.any)).2 (es.getD j default).val) ∧
  (∀ j,j < es.size→(es.getD j default).born < clock)∧(∀ i j,i < j→j < es.size→(es.getD i default).born < (es.getD j default).born)∧(dn=true→(∀ j,j < es.size→(es.getD j default).born=j)∧clock=es.size):=by
 have:=hR.h b
 rw[hb,hg]at this
 cases this with
 | aE h1 h2 h3 h4 h5 h6 h7=>exact ⟨_,_,h1,h2,h3,h4,h5,h6,h7⟩
theorem vq {es:Array MapEntry} (j:Nat):es.toList.getD j default=es.getD j default:=by simp[Array.getD_eq_getD_getElem?,List.getD]
theorem Gp {k:Nat} {o:Obj} {es:Array MapEntry} {clock:Nat} (hk:w.heap[k]?=some (.map es clock)):(setObj k o).run P w=.ok () { w with heap:=w.heap.setIfInBounds k o }:=by
 simp[setObj,Sem.run,hk]
theorem Xqw {k:Nat} {es es':Array MapEntry} {clock clock':Nat} (hk:w.heap[k]?=some (.map es clock)):Fr w { w with heap:=w.heap.setIfInBounds k (.map es' clock') } (fun i=>i=k) :=
 ⟨rfl,rfl,rfl,by simp,fun i _ bX=>by simp only[Array.getElem?_setIfInBounds];rw[if_neg fun e=>bX e.symm],fun i cur e fz hi=>by
  by_cases h:i=k
  ·subst h;rw[hk]at hi;cases hi
  ·exact ⟨cur,by simp only[Array.getElem?_setIfInBounds];rw[if_neg fun e=>h e.symm];exact hi,rfl⟩⟩
theorem Xlg {k:Nat} {o o':Obj} (hk:w.heap[k]?=some o):({ w with heap:=w.heap.setIfInBounds k o' }:World).heap[k]?=some o':=by
 have:=Ua hk
 simp[this]
theorem R.ka (hR:R c g s a w) {b k:Nat} {kvs kvs':List (AV × AV)} {dn dn':Bool} {es es':Array MapEntry} {clock clock':Nat} (hb:s.H b=.aE kvs dn) (hg:g b=.re k) (hk:w.heap[k]?=some (.map es clock)) (hs:es'.size=kvs'.length)
  (h1:∀ j,j < kvs'.length→VR g (Qo c g s) w (kvs'.getD j (.any,.any)).1 (es'.getD j default).key) (h2:∀ j,j < kvs'.length→VR g (Qo c g s) w (kvs'.getD j (.any,.any)).2 (es'.getD j default).val)
  (h3:∀ j,j < es'.size→(es'.getD j default).born < clock') (h4:∀ i j,i < j→j < es'.size→(es'.getD i default).born < (es'.getD j default).born) (h5:dn'=true→(∀ j,j < es'.size→(es'.getD j default).born=j)∧clock'=es'.size) :
  R c g (s.aK b (.aE kvs' dn')) a { w with heap:=w.heap.setIfInBounds k (.map es' clock') }:=by
 have aP:(s.H b).live:=by rw[hb];trivial
 have hf:=Xqw (es':=es') (clock':=clock') hk
 have vh:Qo c g s k:=.inr ⟨b,aP,hg⟩
 have hm:∀ {x v},VR g (Qo c g s) w x v→VR g (Qo c g s) { w with heap:=w.heap.setIfInBounds k (.map es' clock') } x v:=fun h=>h.mono (hf.weak fun i hi=>hi ▸ vh) (fun _ _ h=>h) (fun _ _=>rfl)
 exact hR.setBlock hg aP trivial hf (.aE (Xlg hk) hs (fun j hj=>hm (h1 j hj)) (fun j hj=>hm (h2 j hj)) h3 h4 h5)
theorem R.gf (hR:R c g s a w) {b:Nat} {kvs:List (AV × AV)} {dn:Bool} (hb:s.H b=.aE kvs dn):R c g (s.aK b (.aE kvs false)) a w:=by
 have h:=hR.h b
 rw[hb]at h
 generalize hg:g b=m at h
 cases h with
 | aE h1 h2 h3 h4 h5 h6 h7 =>
  exact hR.setBlock hg (by rw[hb];trivial) trivial (Fr.refl _ _) (.aE h1 h2 h3 h4 h5 h6 fun h=>by cases h)
theorem Yb7 (hR:R c g s a w) {t:TypeId} {wide:Bool} {ks:List SK} {z:AV} (hT:dG P t wide ks z) {b:Nat} {kvs:List (AV × AV)} {dn:Bool} (hb:s.H b=.aE kvs dn) {x:AV} {m v:Value} (hm:VR g (Qo c g s) w (.mp b) m) (hx:VR g (Qo c g s) w x v) (sD:Kv wide ks x) (dZ:Aq wide ks kvs) (ok:Bool) :
  ∃ r,(Instr.lookup t m v ok).run P w=.ok r w∧VR g (Qo c g s) w (bif ok then .aX [pG kvs x z,.bool (Ap kvs x)] else pG kvs x z) r:=by
 obtain ⟨kt,et,zv,hu,hK,hz,rfl⟩:=hT.of
 obtain ⟨k,rfl,hg⟩:=BZ hm
 obtain ⟨es,clock,q1,q2,q3,q4,q5,q6,q7⟩:=CU hR hb hg
 have jj:=KW hK sD hx (kvs:=kvs) (es:=es.toList) (by simpa using q2) dZ (fun j hj=>by rw[vq];exact q3 j hj) w
 have cX:=KV hK sD hx es.isEmpty w
 have eT:(getObj k).run P w=.ok (.map es clock) w:=by simp[getObj,Sem.run,q1]
 have eO:∃ r0,VR g (Qo c g s) w (pG kvs x (tn zv)) r0∧(Instr.lookup t (.map (some k)) v ok).run P w=.ok (if ok then .tuple #[r0,.bool (Ap kvs x)] else r0) w:=by
  unfold pG Ap
  cases hf:jm kvs x with
  | none =>
   rw[hf]at jj
   refine ⟨zv,Fo zv,?_⟩
   simp only[Instr.lookup,Sem.run_bind,run_underlying hu,Result.andThen_ok,eT,cX,jj,Option.map_none,hz,Sem.run_pure]
   rfl
  | some i =>
   rw[hf]at jj
   obtain ⟨hi,_⟩:=KY hf
   refine ⟨_,q4 i hi,?_⟩
   simp only[Instr.lookup,Sem.run_bind,run_underlying hu,Result.andThen_ok,eT,cX,jj,Option.map_some,Sem.run_pure,vq]
   rfl
 obtain ⟨r0,hv,hr⟩:=eO
 refine ⟨_,hr,?_⟩
 cases ok with
 | false=>exact hv
 | true =>
  refine .aX rfl fun j hj=>?_
  match j,hj with
  | 0,_=>exact hv
  | 1,_=>exact .bool _
  | j + 2,hj=>simp at hj;omega
theorem Ar {es:Array MapEntry} {e:MapEntry} (j:Nat):(es.push e).getD j default=if j=es.size then e else es.getD j default:=by
 simp only[Array.getD_eq_getD_getElem?,Array.getElem?_push]
 split<;>rfl
theorem KZ {es:Array MapEntry} {f:MapEntry→MapEntry} {i:Nat} (hi:i < es.size) (j:Nat):(es.modify i f).getD j default=if j=i then f (es.getD j default) else es.getD j default:=by
 simp only[Array.getD_eq_getD_getElem?,Array.getElem?_modify]
 by_cases h:j=i
 ·subst h;simp[hi]
 ·rw[if_neg h,if_neg fun e=>h e.symm]
theorem RN {kvs:List (AV × AV)} {p:AV × AV} (j:Nat):(kvs++[p]).getD j (.any,.any)=if j=kvs.length then p else kvs.getD j (.any,.any):=by
 by_cases h:j=kvs.length
 ·subst h;simp[List.getD]
 ·rw[if_neg h]
  rcases Nat.lt_or_ge j kvs.length with h1|h1
  ·simp[List.getD,List.getElem?_append_left h1]
  ·have:(kvs++[p])[j]?=none:=List.getElem?_eq_none (by simp;omega)
   simp[List.getD,this,List.getElem?_eq_none h1]
theorem RO {kvs:List (AV × AV)} {p:AV × AV} {i:Nat} (hi:i < kvs.length) (j:Nat):(kvs.set i p).getD j (.any,.any)=if j=i then p else kvs.getD j (.any,.any):=by
 by_cases h:j=i
 ·subst h;simp[List.getD,hi]
 ·rw[if_neg h];simp[List.getD,List.getElem?_set_ne fun e=>h e.symm]
theorem Yer (hR:R c g s a w) {b k:Nat} {kvs:List (AV × AV)} {dn:Bool} (hb:s.H b=.aE kvs dn) (hg:g b=.re k) {es:Array MapEntry} {clock:Nat} (q1:w.heap[k]?=some (.map es clock)) {i:Nat} (hi:i < kvs.length) {y:AV} {u:Value} (hy:VR g (Qo c g s) w y u) {f:MapEntry→MapEntry}
  (qE:∀ e,(f e).born=e.born) (gY:(f (es.getD i default)).val=u) (CV:(f (es.getD i default)).key=(es.getD i default).key) :
  R c g (s.aK b (.aE (kvs.set i ((kvs.getD i (.any,.any)).1,y)) dn)) a { w with heap:=w.heap.setIfInBounds k (.map (es.modify i f) clock) }:=by
 obtain ⟨es',clock',r1,q2,q3,q4,q5,q6,q7⟩:=CU hR hb hg
 rw[q1]at r1;cases r1
 have jO:i < es.size:=by omega
 have dE:∀ j,((es.modify i f).getD j default).born=(es.getD j default).born:=fun j=>by
  rw[KZ jO];split
  ·exact qE _
  ·rfl
 refine hR.ka hb hg q1 (by simp;exact q2) (fun j hj=>?_) (fun j hj=>?_) (fun j hj=>?_) (fun i' j iJ hj=>?_) (fun hd=>?_)
 ·rw[List.length_set]at hj
  rw[RO hi,KZ jO]
  split
  ·rename_i e;subst e;rw[CV];exact q3 _ hj
  ·exact q3 _ hj
 ·rw[List.length_set]at hj
  rw[RO hi,KZ jO]
  split
  ·rename_i e;subst e;rw[gY];exact hy
  ·exact q4 _ hj
 ·rw[dE];exact q5 j (by simpa using hj)
 ·rw[dE,dE];exact q6 i' j iJ (by simpa using hj)
 ·obtain ⟨d1,d2⟩:=q7 hd
  exact ⟨fun j hj=>by rw[dE];exact d1 j (by simpa using hj),by simpa using d2⟩
theorem Ycq (hR:R c g s a w) {b k:Nat} {kvs:List (AV × AV)} {dn:Bool} (hb:s.H b=.aE kvs dn) (hg:g b=.re k) {es:Array MapEntry} {clock:Nat} (q1:w.heap[k]?=some (.map es clock)) {x y:AV} {v u:Value} (hx:VR g (Qo c g s) w x v) (hy:VR g (Qo c g s) w y u) :
  R c g (s.aK b (.aE (kvs++[(x,y)]) dn)) a { w with heap:=w.heap.setIfInBounds k (.map (es.push { key:=v,val:=u,born:=clock }) (clock + 1)) }:=by
 obtain ⟨es',clock',r1,q2,q3,q4,q5,q6,q7⟩:=CU hR hb hg
 rw[q1]at r1;cases r1
 refine hR.ka hb hg q1 (by simp;exact q2) (fun j hj=>?_) (fun j hj=>?_) (fun j hj=>?_) (fun i j iJ hj=>?_) (fun hd=>?_)
 ·rw[List.length_append,List.length_singleton]at hj
  rw[RN,Ar,q2]
  split
  ·exact hx
  ·exact q3 j af
 ·rw[List.length_append,List.length_singleton]at hj
  rw[RN,Ar,q2]
  split
  ·exact hy
  ·exact q4 j af
 ·rw[Array.size_push]at hj
  rw[Ar]
  split
  ·show clock < clock + 1;omega
  ·have:=q5 j af;omega
 ·rw[Array.size_push]at hj
  rw[Ar,Ar,if_neg af]
  split
  ·exact q5 i af
  ·exact q6 i j iJ af
 ·obtain ⟨d1,d2⟩:=q7 hd
  refine ⟨fun j hj=>?_,by rw[Array.size_push];omega⟩
  rw[Array.size_push]at hj
  rw[Ar]
  split
  ·rename_i e;show clock=j;omega
  ·exact d1 j af
theorem Xyj (hR:R c g s a w) {t:TypeId} {wide:Bool} {ks:List SK} {z:AV} (hT:dG P t wide ks z) {b:Nat} {kvs:List (AV × AV)} {dn:Bool} (hb:s.H b=.aE kvs dn) {x y:AV} {m v u:Value} (hm:VR g (Qo c g s) w (.mp b) m) (hx:VR g (Qo c g s) w x v) (hy:VR g (Qo c g s) w y u)
  (sD:Kv wide ks x) (dZ:Aq wide ks kvs):∃ w',(Instr.mapUpdate t m v u).run P w=.ok () w'∧R c g (s.aK b (.aE (pH kvs x y) dn)) a w':=by
 obtain ⟨kt,et,zv,hu,hK,hz,rfl⟩:=hT.of
 obtain ⟨k,rfl,hg⟩:=BZ hm
 obtain ⟨es,clock,q1,q2,q3,q4,q5,q6,q7⟩:=CU hR hb hg
 have jj:=KW hK sD hx (kvs:=kvs) (es:=es.toList) (by simpa using q2) dZ (fun j hj=>by rw[vq];exact q3 j hj) w
 have cX:=KV hK sD hx false w
 have eT:(getObj k).run P w=.ok (.map es clock) w:=by simp[getObj,Sem.run,q1]
 have iO:=Ua q1
 unfold pH
 cases hf:jm kvs x with
 | none =>
  rw[hf]at jj
  refine ⟨_,?_,Ycq hR hb hg q1 hx hy⟩
  simp only[Instr.mapUpdate,Sem.run_bind,run_underlying hu,Result.andThen_ok,eT,cX,jj,Option.map_none,Gp q1]
 | some i =>
  rw[hf]at jj
  obtain ⟨hi,La⟩:=KY hf
  have jO:i < es.size:=by omega
  have h3:=q3 i hi
  rw[La]at h3
  have Lb:(es.getD i default).key=v:=Ybf sD h3 hx
  have wP:Instr.sameBits 10000 v v=true:=Xug hK.ns sD hx
  have vr:(Instr.keyThatStays (((es[i]?).map (·.key)).getD v) v).run P w=.ok v w:=by
   have e:((es[i]?).map (·.key)).getD v=v:=by
    have:es.getD i default=es[i]:=by simp[Array.getD_eq_getD_getElem?,jO]
    rw[Array.getElem?_eq_getElem jO]
    rw[this]at Lb
    simpa using Lb
   rw[e]
   simp[Instr.keyThatStays,wP]
  have bu:=Yer hR hb hg q1 hi hy (f:=fun e=>{ e with key:=v,val:=u }) (fun _=>rfl) rfl Lb.symm
  rw[La]at bu
  refine ⟨_,?_,bu⟩
  simp only[Instr.mapUpdate,Sem.run_bind,run_underlying hu,Result.andThen_ok,eT,cX,jj,Option.map_some,vr,Gp q1]
end
def fu:List AV→Nat
 | .mp b::_=>b
 | _=>0
def Gq:List AV→Prop
 | .mp _::_=>True
 | _=>False
def mJ:List AV→AV
 | _::x::_=>x
 | _=>.any
def As:List AV→AV
 | _::_::x::_=>x
 | _=>.any
def CW:List AV→Int
 | _::.int _ n::_=>n
 | _=>0
def RQ:List AV→Prop
 | _::.int .i64 _::_=>True
 | _=>False
def kB:Bk→List (AV × AV)
 | .aE kvs _=>kvs
 | _=>[]
def CX:Bk→Bool
 | .aE _ dn=>dn
 | _=>false
def Gr:Bk→Prop
 | .aE _ _=>True
 | _=>False
theorem Yff (b:Nat) (r:List AV):fu (.mp b::r)=b:=rfl
theorem Ycf (b:Nat) (r:List AV):Gq (.mp b::r)=True:=rfl
theorem Ydn (x y:AV) (r:List AV):mJ (x::y::r)=y:=rfl
theorem Yec (x y z:AV) (r:List AV):As (x::y::z::r)=z:=rfl
theorem Yej (x:AV) (k:IntKind) (n:Int) (r:List AV):CW (x::.int k n::r)=n:=rfl
theorem Yat (x:AV) (n:Int) (r:List AV):RQ (x::.int .i64 n::r)=True:=rfl
theorem Yf4 (kvs:List (AV × AV)) (dn:Bool):kB (.aE kvs dn)=kvs:=rfl
theorem Yfq (kvs:List (AV × AV)) (dn:Bool):CX (.aE kvs dn)=dn:=rfl
theorem Xw5 (kvs:List (AV × AV)) (dn:Bool):Gr (.aE kvs dn)=True:=rfl
theorem Qyv (ks:List SK) (cs:List AV):Kv true ks (.agg cs)=(cs.map Zi=ks.map some):=by simp[Kv,jl]
theorem Xa7 (k:IntKind) (n:Int):Kv false [.int k] (.int k n)=True:=by simp[Kv,jl,Zi]
theorem Qz7 (k:IntKind) (n:Int):Zi (.int k n)=some (.int k):=rfl
theorem Qve (b:Bool):Zi (.bool b)=some .bool:=rfl
attribute [go_sem] Yff Ycf Ydn Yec Yej Yat Yf4 Yfq Xw5 Qyv Xa7 Qz7 Qve
theorem Lc {vs:List AV} (h:Gq vs):∃ b r,vs=.mp b::r:=by
 match vs,h with
 | .mp b::r,_=>exact ⟨b,r,rfl⟩
theorem Ld {x:Bk} (h:Gr x):∃ kvs dn,x=.aE kvs dn:=by
 cases x<;>first|exact h.elim|exact ⟨_,_,rfl⟩
section
variable {P:Program} {c:Cx} {ops:Array Oper} {io:Oper}
theorem Xtm {o:Oper} {t:TypeId} {ok:Bool} {xs:List Operand} (h:Yh P o=some (.zK t ok,xs)):∃ m k,o.op=.lookup t m k ok∧xs=[m,k]:=by
 unfold Yh at h
 repeat' split at h
 all_goals first
  | (cases h;exact ⟨_,_,by assumption,rfl⟩)
  | (simp at h;done)
  | (cases h;done)
  | (simp[Option.map_eq_some_iff]at h;done)
theorem Xtp {o:Oper} {t:TypeId} {xs:List Operand} (h:Yh P o=some (.B8 t,xs)):∃ m k v,o.op=.mapUpdate t m k v∧xs=[m,k,v]:=by
 unfold Yh at h
 repeat' split at h
 all_goals first
  | (cases h;exact ⟨_,_,_,by assumption,rfl⟩)
  | (simp at h;done)
  | (cases h;done)
  | (simp[Option.map_eq_some_iff]at h;done)
theorem Xws {o:Oper} {t:TypeId} {xs:List Operand} (h:Yh P o=some (.FA t,xs)):∃ r,o.op=.makeMap t r∧(r=none∨∃ k n,r=some (.const (.int k n)))∧xs=[]:=by
 unfold Yh at h
 repeat' split at h
 all_goals first
  | (rename_i hh;exact Bool.noConfusion hh)
  | (cases h;exact ⟨_,by assumption,.inl rfl,rfl⟩)
  | (cases h;exact ⟨_,by assumption,.inr ⟨_,_,rfl⟩,rfl⟩)
  | (simp at h;done)
  | (cases h;done)
  | (simp[Option.map_eq_some_iff]at h;done)
theorem Ycx {s:FS} {d:Nat} {V:AV} {rt rb:List Nat} (hg:io.guard=none) (bc:io.dst=some d) (hd:d < c.N)
  (core:∀ s2:FS,(∀ i ∈ rt,s2.T i=s.T i)→(∀ b ∈ rb,s2.H b=s.H b)→∀ g a w,R c g s2 a w→∃ v',(execOp a.eval io).run P w=.ok (.value v') w∧VR g (Qo c g s2) w V v') :
  n7 P c ops io s ⟨rt,rb,[d],[]⟩ (s.put d V):=by
 refine ⟨fun i hi=>?_,fun j hj=>rfl,fun s2 hT hH g a w hR K Q' hK=>Yz hg ?_⟩
 ·rw[FS.de,if_neg (fun e=>hi (by simp[e]))]
 ·obtain ⟨v',hr,hv⟩:=core s2 hT hH g a w hR
  unfold Oper.wp
  rw[hr]
  show K (a.put io.dst v') w
  rw[bc]
  refine hK g _ w ?_
  rw[wV]
  exact hR.put hd hv
theorem Ydl {s:FS} {b d:Nat} {X:Bk} {V:AV} {rt rb:List Nat} (hg:io.guard=none) (bc:io.dst=some d) (hd:d < c.N)
  (core:∀ s2:FS,(∀ i ∈ rt,s2.T i=s.T i)→(∀ b ∈ rb,s2.H b=s.H b)→∀ g a w,R c g s2 a w→∃ g' v' w',(execOp a.eval io).run P w=.ok (.value v') w'∧R c g' (s2.aK b X) a w'∧VR g' (Qo c g' (s2.aK b X)) w' V v') :
  n7 P c ops io s ⟨rt,rb,[d],[b]⟩ ((s.aK b X).put d V):=by
 refine ⟨fun i hi=>?_,fun j hj=>?_,fun s2 hT hH g a w hR K Q' hK=>Yz hg ?_⟩
 ·rw[FS.de,if_neg (fun e=>hi (by simp[e]))];rfl
 ·rw[FS.qh,FS.a7,if_neg (fun e=>hj (by simp[e]))]
 ·obtain ⟨g',v',w',hr,bb,hv⟩:=core s2 hT hH g a w hR
  unfold Oper.wp
  rw[hr]
  show K (a.put io.dst v') w'
  rw[bc]
  refine hK g' _ w' ?_
  rw[PJ]
  exact bb.put hd hv
theorem Ycc {s:FS} {b:Nat} {X:Bk} {rt rb:List Nat} (hg:io.guard=none) (bc:io.dst=none)
  (core:∀ s2:FS,(∀ i ∈ rt,s2.T i=s.T i)→(∀ b ∈ rb,s2.H b=s.H b)→∀ g a w,R c g s2 a w→∃ g' w',(execOp a.eval io).run P w=.ok .skip w'∧R c g' (s2.aK b X) a w') :
  n7 P c ops io s ⟨rt,rb,[],[b]⟩ (s.aK b X):=by
 refine ⟨fun i hi=>rfl,fun j hj=>?_,fun s2 hT hH g a w hR K Q' hK=>Yz hg ?_⟩
 ·rw[FS.a7,if_neg (fun e=>hj (by simp[e]))]
 ·obtain ⟨g',w',hr,bb⟩:=core s2 hT hH g a w hR
  unfold Oper.wp
  rw[hr]
  show K (a.put io.dst undef) w'
  rw[bc]
  refine hK g' _ w' ?_
  rw[Cb]
  exact bb
def pI (s:FS) (wide:Bool) (ks:List SK) (vs:List AV):Prop:=Gq vs∧Gr (s.H (fu vs))∧Kv wide ks (mJ vs)∧Aq wide ks (kB (s.H (fu vs)))
noncomputable def Au (s:FS) (z:AV) (ok:Bool) (vs:List AV):AV:=bif ok then .aX [pG (kB (s.H (fu vs))) (mJ vs) z,.bool (Ap (kB (s.H (fu vs))) (mJ vs))] else pG (kB (s.H (fu vs))) (mJ vs) z
def sE (s:FS) (gl:Nat→AV) (xs:List TV) (wt:List Nat) (wr:Bool):bq:=⟨Xp xs,[fu ((aG gl s xs).map Qk)],wt,bif wr then [fu ((aG gl s xs).map Qk)] else []⟩
theorem Le {s:St} {d:Nat} {t:TypeId} {ok:Bool} {xs:List TV} {wide:Bool} {ks:List SK} {z:AV} (hT:dG P t wide ks z) (hc:Qv none (aG c.gl s.fs xs)) (aU:pI s.fs wide ks ((aG c.gl s.fs xs).map Qk)) :
  Ky P c (.pd (some d) (.zK t ok) xs none) s.fs (sE s.fs c.gl xs [d] false) (s.put d (Au s.fs z ok ((aG c.gl s.fs xs).map Qk))).fs:=by
 intro ops io he
 obtain ⟨bm,bc,hd,ys,aJ,rfl⟩:=Zt he
 obtain ⟨m,k,bh,rfl⟩:=Xtm aJ
 have fM:(aG c.gl s.fs ([m,k].map aT)).map Qk=[Qk (aZ c.gl s.fs (aT m)),Qk (aZ c.gl s.fs (aT k))]:=rfl
 unfold sE
 rw[fM]at aU ⊢
 generalize RT:Qk (aZ c.gl s.fs (aT m))=vm at *
 generalize Cv:Qk (aZ c.gl s.fs (aT k))=vk at *
 obtain ⟨h1,h2,h3,h4⟩:=aU
 obtain ⟨b,r,hb⟩:=Lc h1
 injection hb with fO dE
 subst fO
 obtain ⟨kvs,dn,l9⟩:=Ld h2
 simp only[Au,fu,mJ,cond_false]at h3 h4 l9 ⊢
 rw[l9]at h4 ⊢
 simp only[kB]at h4 ⊢
 rw[St.bS]
 refine Ycx (Jz bm) bc (by simpa using hd) fun s2 jn sF g a w hR=>?_
 have bn:aG c.gl s2 ([m,k].map aT)=aG c.gl s.fs ([m,k].map aT):=Yj jn
 have fo:=Yp (hR.aG [m,k]) (by rw[bn];exact hc)
 rw[bn,fM]at fo
 obtain ⟨v1,v2,_⟩:=fo
 obtain ⟨r0,hr,hv⟩:=Yb7 hR hT (b:=b) (kvs:=kvs) (dn:=dn) (by rw[sF b au,l9]) v1 v2 h3 h4 ok
 refine ⟨r0,?_,hv⟩
 unfold execOp
 simp only[bh]
 exact Zw hr
theorem oz {r0:List bF} {K:St→Prop} {s:St} {d:Nat} {t:TypeId} {ok:Bool} {xs:List TV} {wide:Bool} {ks:List SK} {z:AV} (hT:dG P t wide ks z) (h:Qv none (aG c.gl s.fs xs)∧pI s.fs wide ks ((aG c.gl s.fs xs).map Qk)∧XP P c r0 K (s.put d (Au s.fs z ok ((aG c.gl s.fs xs).map Qk)))) :
  Yl P c (.pd (some d) (.zK t ok) xs none) r0 K s:=.inl ⟨_,_,Le hT h.1 h.2.1,h.2.2⟩
theorem Ut {anc:List Nat} {fs:List bq} {r0:List bF} {K:St→Prop} {s:St} {d:Nat} {t:TypeId} {ok:Bool} {xs:List TV} {wide:Bool} {ks:List SK} {z:AV} (hT:dG P t wide ks z) (h:Qv none (aG c.gl s.fs xs)∧pI s.fs wide ks ((aG c.gl s.fs xs).map Qk)∧XD P c anc r0 (sE s.fs c.gl xs [d] false::fs) K (s.put d (Au s.fs z ok ((aG c.gl s.fs xs).map Qk)))) :
  Zr P c anc (.pd (some d) (.zK t ok) xs none) r0 fs K s:=⟨_,_,Le hT h.1 h.2.1,h.2.2⟩
def CY (s:FS) (vs:List AV) (kvs:List (AV × AV)):Bk:=.aE kvs (CX (s.H (fu vs)))
theorem RU {s:St} {t:TypeId} {xs:List TV} {wide:Bool} {ks:List SK} {z:AV} (hT:dG P t wide ks z) (hc:Qv none (aG c.gl s.fs xs)) (aU:pI s.fs wide ks ((aG c.gl s.fs xs).map Qk)) :
  Ky P c (.pd none (.B8 t) xs none) s.fs (sE s.fs c.gl xs [] true) (s.aK (fu ((aG c.gl s.fs xs).map Qk)) (CY s.fs ((aG c.gl s.fs xs).map Qk) (pH (kB (s.fs.H (fu ((aG c.gl s.fs xs).map Qk)))) (mJ ((aG c.gl s.fs xs).map Qk)) (As ((aG c.gl s.fs xs).map Qk))))).fs:=by
 intro ops io he
 obtain ⟨bm,bc,hd,ys,aJ,rfl⟩:=Zt he
 obtain ⟨m,k,v,bh,rfl⟩:=Xtp aJ
 have fM:(aG c.gl s.fs ([m,k,v].map aT)).map Qk=[Qk (aZ c.gl s.fs (aT m)),Qk (aZ c.gl s.fs (aT k)),Qk (aZ c.gl s.fs (aT v))]:=rfl
 unfold sE
 rw[fM]at aU ⊢
 generalize RT:Qk (aZ c.gl s.fs (aT m))=vm at *
 generalize Cv:Qk (aZ c.gl s.fs (aT k))=vk at *
 generalize tz:Qk (aZ c.gl s.fs (aT v))=vv at *
 obtain ⟨h1,h2,h3,h4⟩:=aU
 obtain ⟨b,r,hb⟩:=Lc h1
 injection hb with fO dE
 subst fO
 obtain ⟨kvs,dn,l9⟩:=Ld h2
 simp only[CY,fu,mJ,As,cond_true]at h3 h4 l9 ⊢
 rw[l9]at h4 ⊢
 simp only[kB,CX]at h4 ⊢
 rw[St.cK]
 refine Ycc (Jz bm) bc fun s2 jn sF g a w hR=>?_
 have bn:aG c.gl s2 ([m,k,v].map aT)=aG c.gl s.fs ([m,k,v].map aT):=Yj jn
 have fo:=Yp (hR.aG [m,k,v]) (by rw[bn];exact hc)
 rw[bn,fM]at fo
 obtain ⟨v1,v2,v3,_⟩:=fo
 obtain ⟨w',hr,bb⟩:=Xyj hR hT (b:=b) (kvs:=kvs) (dn:=dn) (by rw[sF b au,l9]) v1 v2 v3 h3 h4
 refine ⟨g,w',?_,bb⟩
 unfold execOp
 simp only[bh,Sem.run_bind,hr,Result.andThen_ok,Sem.run_pure]
theorem CZ {r0:List bF} {K:St→Prop} {s:St} {t:TypeId} {xs:List TV} {wide:Bool} {ks:List SK} {z:AV} (hT:dG P t wide ks z) (h:Qv none (aG c.gl s.fs xs)∧pI s.fs wide ks ((aG c.gl s.fs xs).map Qk)∧XP P c r0 K (s.aK (fu ((aG c.gl s.fs xs).map Qk)) (CY s.fs ((aG c.gl s.fs xs).map Qk) (pH (kB (s.fs.H (fu ((aG c.gl s.fs xs).map Qk)))) (mJ ((aG c.gl s.fs xs).map Qk)) (As ((aG c.gl s.fs xs).map Qk)))))) :
  Yl P c (.pd none (.B8 t) xs none) r0 K s:=.inl ⟨_,_,RU hT h.1 h.2.1,h.2.2⟩
theorem C0 {anc:List Nat} {fs:List bq} {r0:List bF} {K:St→Prop} {s:St} {t:TypeId} {xs:List TV} {wide:Bool} {ks:List SK} {z:AV} (hT:dG P t wide ks z) (h:Qv none (aG c.gl s.fs xs)∧pI s.fs wide ks ((aG c.gl s.fs xs).map Qk)∧XD P c anc r0 (sE s.fs c.gl xs [] true::fs) K (s.aK (fu ((aG c.gl s.fs xs).map Qk)) (CY s.fs ((aG c.gl s.fs xs).map Qk) (pH (kB (s.fs.H (fu ((aG c.gl s.fs xs).map Qk)))) (mJ ((aG c.gl s.fs xs).map Qk)) (As ((aG c.gl s.fs xs).map Qk)))))) :
  Zr P c anc (.pd none (.B8 t) xs none) r0 fs K s:=⟨_,_,RU hT h.1 h.2.1,h.2.2⟩
def Yf0 (s:FS) (wide:Bool) (ks:List SK) (vs:List AV):Prop:=pI s wide ks vs∧CX (s.H (fu vs))=true
noncomputable def Yg0 (s:FS) (z:AV) (vs:List AV):AV:=.aX [pG (kB (s.H (fu vs))) (mJ vs) z,.int .i64 (u0 (kB (s.H (fu vs))) (mJ vs))]
noncomputable def Yge (s:FS) (z:AV) (vs:List AV):Bk:=.aE (Yg7 (kB (s.H (fu vs))) (mJ vs) z) true
theorem VR.C2 {g:Nat→GM} {s:FS} {b:Nat} {X:Bk} {w w':World} {x:AV} {v:Value} (h:VR g (Qo c g s) w x v) (hb:(s.H b).live) (hX:X.live) (hf:Fr w w' (fun i=>g b=.re i)):VR g (Qo c g (s.aK b X)) w' x v :=
 h.mono (hf.weak fun i hi=>.inr ⟨b,hb,hi⟩) (fun k _ hk=>by
  rcases hk with h|⟨b',h1,h2⟩
  ·exact .inl h
  ·rw[FS.a7]at h1
   split at h1
   ·rename_i e;subst e;exact .inr ⟨_,hb,h2⟩
   ·exact .inr ⟨b',h1,h2⟩) (fun _ _=>rfl)
def Yfn (s:FS) (vs:List AV):Prop:=Gq vs∧Gr (s.H (fu vs))∧CX (s.H (fu vs))=true∧RQ vs∧0≤CW vs∧CW vs < (kB (s.H (fu vs))).length
def Yg5 (s:FS) (vs:List AV):Bk:=.aE ((kB (s.H (fu vs))).set (CW vs).toNat (((kB (s.H (fu vs))).getD (CW vs).toNat (.any,.any)).1,As vs)) true
theorem Xwk {s:St} {d:Nat} {t:TypeId} {wide:Bool} {ks:List SK} {z:AV} (hT:dG P t wide ks z) (hf:s.fs.H s.n=.free):Ky P c (.pd (some d) (.FA t) [] none) s.fs ⟨[],[s.n],[d],[s.n]⟩ ((s.nw (.aE [] true)).put d (.mp s.n)).fs:=by
 intro ops io he
 obtain ⟨bm,bc,hd,ys,aJ,mC⟩:=Zt he
 obtain ⟨r,bh,hr,rfl⟩:=Xws aJ
 obtain ⟨kt,et,zv,hu,_,_,_⟩:=hT.of
 rw[St.bS,St.gR]
 refine Ydl (Jz bm) bc (by simpa using hd) fun s2 jn sF g a w hR=>?_
 have bp:s2.H s.n=.free:=by rw[sF _ au];exact hf
 have bN:=heap_alloc_new w (.map #[] 0)
 have dJ:(execOp a.eval io).run P w=.ok (.value (.map (some w.heap.size))) (w.alloc (.map #[] 0)):=by
  rcases hr with rfl|⟨k,n,rfl⟩
  ·simp[execOp,bh,Instr.makeMap,newObj,Sem.run]
  ·simp[execOp,bh,Instr.makeMap,newObj,Sem.run_bind,run_underlying hu,asInt,asIntOf,Act.eval];simp[Sem.run]
 refine ⟨_,_,_,dJ,hR.new (.map #[] 0) bp trivial fun g' fh=>?_,.mp (by simp[Zf])⟩
 exact .aE bN rfl (fun j hj=>by simp at hj) (fun j hj=>by simp at hj) (fun j hj=>by simp at hj) (fun i j _ hj=>by simp at hj) (fun _=>⟨fun j hj=>by simp at hj,rfl⟩)
theorem RV {r0:List bF} {K:St→Prop} {s:St} {d:Nat} {t:TypeId} {wide:Bool} {ks:List SK} {z:AV} (hT:dG P t wide ks z) (h:s.fs.H s.n=.free∧XP P c r0 K ((s.nw (.aE [] true)).put d (.mp s.n))) :
  Yl P c (.pd (some d) (.FA t) [] none) r0 K s:=.inl ⟨_,_,Xwk hT h.1,h.2⟩
attribute [go_sem] pI Au sE CY Yf0 Yg0 Yge Yfn Yg5
end
mutual
def cQ (S:Nat→Prop):AV→Prop
 | .dp _ v=>cQ S v
 | .agg cs=>cU S cs
 | .aX cs=>cU S cs
 | .xp cs _=>cU S cs
 | .isl _ cs=>cU S cs
 | .cl _ cs=>cU S cs
 | .ptr b _=>S b
 | .sl _ b _ _ _=>S b
 | .mp b=>S b
 | _=>True
def cU (S:Nat→Prop):List AV→Prop
 | []=>True
 | x::xs=>cQ S x∧cU S xs
end
theorem C3 {S:Nat→Prop}:∀ {cs:List AV},cU S cs ↔ ∀ x ∈ cs,cQ S x
 | []=>by simp[cU]
 | x::xs=>by simp[cU,C3 (cs:=xs)]
theorem Av {S:Nat→Prop} {cs:List AV} (h:cU S cs) (j:Nat):cQ S (cs.getD j .any):=by
 by_cases hj:j < cs.length
 ·rw[BU hj];exact C3.1 h _ (List.getElem_mem _)
 ·have:cs.getD j .any=.any:=by simp[List.getD,Nat.le_of_not_lt hj]
  rw[this];simp[cQ]
def nk (S:Nat→Prop):Bk→Prop
 | .cells cs=>cU S cs
 | .aE kvs _=>∀ p ∈ kvs,cQ S p.1∧cQ S p.2
 | .bl kvs _ _=>∀ p ∈ kvs,cQ S p.1∧cQ S p.2
 | .iter b _ _=>S b
 | .c7 ls=>∀ l ∈ ls,ai 0 l
 | _=>True
section
variable {S:Nat→Prop} {W W':Nat→Prop} {w w':World} {g g':Nat→GM}
theorem VR.only (hg:∀ b,S b→g b≠.un→g b=g' b) {v:AV} {u:Value} (h:VR g W w v u):cQ S v→VR g' W w v u:=by
 induction h with
 | any v=>intro _;exact .any _
 | dp h h0 ih=>intro hn;simp only[cQ]at hn;exact .dp (fun hb=>ih hb hn) h0
 | int k n=>intro _;exact .int _ _
 | bool b=>intro _;exact .bool _
 | str l=>intro _;exact .str _
 | agg hs h1 h ih=>intro hn;simp only[cQ]at hn;exact .agg hs h1 fun j hj=>ih j hj (Av hn j)
 | aX hs h ih=>intro hn;simp only[cQ]at hn;exact .aX hs fun j hj=>ih j hj (Av hn j)
 | ptr e=>intro hn;simp only[cQ]at hn;exact .ptr (by rw[← hg _ hn (by rw[e];intro x;cases x)];exact e)
 | xp hc h ih=>intro hn;simp only[cQ]at hn;exact .xp hc fun j hj=>ih j hj (Av hn j)
 | sl e a b c d f=>intro hn;simp only[cQ]at hn;exact .sl (by rw[← hg _ hn (by rw[e];intro x;cases x)];exact e) a b c d f
 | kr e hc=>intro hn;simp only[cQ]at hn;exact .kr (by rw[← hg _ hn (by rw[e];intro x;cases x)];exact e) hc
 | isl a b hc h ih=>intro hn;simp only[cQ]at hn;exact .isl a b hc fun j hj=>ih j hj (Av hn j)
 | nils a=>intro _;exact .nils _
 | cl hs h ih=>intro hn;simp only[cQ]at hn;exact .cl hs fun j hj=>ih j hj (Av hn j)
 | mp e=>intro hn;simp only[cQ]at hn;exact .mp (by rw[← hg _ hn (by rw[e];intro x;cases x)];exact e)
 | lit v=>intro _;exact .lit _
theorem BR.only (hg:∀ b,S b→g b≠.un→g b=g' b) {m:GM} {x:Bk} (h:BR g W w m x) (hn:nk S x):BR g' W w m x:=by
 cases h with
 | free=>exact .free
 | dead h=>exact .dead h
 | ph=>exact .ph
 | cells hb hl h1 hv hz=>exact .cells hb hl h1 (fun j hj=>(hv j hj).only hg (Av hn j)) hz
 | aE hb hs j5 hv hc ha hd =>
  rename_i k kvs dn es clock
  have bH:∀ j,j < kvs.length→kvs.getD j (.any,.any) ∈ kvs:=fun j hj=>by simp[List.getD,hj]
  exact .aE hb hs (fun j hj=>(j5 j hj).only hg (hn _ (bH j hj)).1) (fun j hj=>(hv j hj).only hg (hn _ (bH j hj)).2) hc ha hd
 | bl hb hs j5 hv hc ha hd =>
  rename_i k kvs bs es clock
  have bH:∀ j,j < kvs.length→kvs.getD j (.any,.any) ∈ kvs:=fun j hj=>by simp[List.getD,hj]
  exact .bl hb hs (fun j hj=>(j5 j hj).only hg (hn _ (bH j hj)).1) (fun j hj=>(hv j hj).only hg (hn _ (bH j hj)).2) hc ha hd
 | iter hb kR=>exact .iter hb (by rw[← hg _ hn (by rw[kR];intro x;cases x)];exact kR)
 | c7 hp h=>exact BR.j7 (.c7 hp h) hn fun _ h=>h
end
def To (p:List Nat) (s s':St):Prop:=∀ (c:Cx) (g:Nat→GM) (a:Act) (w:World),(∀ q ∈ c.gh,q.1 ∈ p)→R c g s.fs a w→∃ g',R c g' s'.fs a w
theorem To.refl (p:List Nat) (s:St):To p s s:=fun c g a w _ hR=>⟨g,hR⟩
theorem To.trans {p:List Nat} {s s' s2:St} (h:To p s s') (k:To p s' s2):To p s s2:=fun c g a w hp hR=>by
 obtain ⟨g1,h1⟩:=h c g a w hp hR
 exact k c g1 a w hp h1
theorem To.C4 {p:List Nat} {s s':St} {ρ:Nat→Nat} (hp:∀ b,b ∈ p→ρ b=b∧b < s'.n) (h:Sub ρ s s'):To p s s':=fun c g a w hg hR=>h.to hR fun q hq=>hp _ (hg q hq)
section
variable {P:Program} {c:Cx}
theorem nn {p:List Nat} {o:bF} {r0:List bF} {K:St→Prop} {s s':St} (aY:∀ q ∈ c.gh,q.1 ∈ p) (h:To p s s') (k:Yl P c o r0 K s'):Yl P c o r0 K s:=by
 refine .inr fun ops io he g a w hR K' Q' hK=>?_
 obtain ⟨g',bb⟩:=h c g a w aY hR
 rcases k with ⟨F,s2,hA,hr⟩|hS
 ·have wX:=hA ops io he
  refine wX.step s'.fs (fun _ _=>rfl) (fun _ _=>rfl) g' a w bb K' Q' fun g2 a' w' bV=>?_
  rw[B9 wX.bf wX.da]at bV
  exact hK g2 s2 a' w' hr bV
 ·exact hS ops io he g' a w bb K' Q' hK
def Gs {σ:Type} (p:List Nat) (I:σ→Prop) (cY:σ→St) (μ:σ→Nat) (x:σ) (Q:EX→St→Prop):EX→St→Prop
 | .normal,s=>∃ y,I y∧To p s (cY y)∧μ y < μ x
 | e,s=>Q e s
theorem Yi {σ:Type} (I:σ→Prop) (cY:σ→St) (μ:σ→Nat) {b:TC} {Q:EX→St→Prop} {s:St} (hm:P.follows .mixedOrders=true) (p:List Nat) (aY:∀ q ∈ c.gh,q.1 ∈ p) (h0:∃ y,I y∧To p s (cY y))
  (hr:∀ x,I x→xw P c b (Gs p I cY μ x Q) (cY x)):sk P c b Q s:=by
 intro code he g a w hR
 obtain ⟨y0,Ci,lb⟩:=h0
 obtain ⟨g0,jM⟩:=lb c g a w aY hR
 have key:∀ n (x:σ),μ x=n→I x→∀ g a w,R c g (cY x).fs a w→∀ (fr:Frame) (k:List Item) (cs:List Frame),∃ e a' w',FG c Q e a' w'∧Arrives P (lone (fr.at a (.code code::.inLoop code::k)) cs w) fr k cs e a' w':=by
  intro n
  induction n using Nat.strongRecOn with
  | _ n ih =>
   intro x hx hI g a w hR fr k cs
   have hb:=va hm code b _ _ he (hr x hI) g a w hR
   obtain ⟨e,a1,w1,hq,eR⟩:=hb fr (.inLoop code::k) cs
   cases e with
   | normal =>
    obtain ⟨g1,s1,cy,y,Cj,hs,hlt⟩:=hq
    obtain ⟨g2,bV⟩:=hs c g1 a1 w1 aY cy
    obtain ⟨e2,a2,w2,kv,lf⟩:=ih (μ y) af y rfl Cj g2 a1 w1 bV fr k cs
    exact ⟨e2,a2,w2,kv,.of_steps (Steps.trans eR (.one step_inLoop)) lf⟩
   | exit i=>exact ⟨.exit i,a1,w1,hq,.pass (x:=.inLoop code) rfl (fun _ _=>.inl au) eR⟩
   | ret=>exact ⟨.ret,a1,w1,hq,.pass (x:=.inLoop code) rfl (fun _ _=>.inl au) eR⟩
   | goto l=>exact hq.elim
   | panic ch=>exact hq.elim
   | outgrown=>exact hq.elim
 intro fr k cs
 obtain ⟨e,a',w',hq,eR⟩:=key _ y0 rfl Ci g0 a w jM fr k cs
 exact ⟨e,a',w',hq,.of_steps (.one step_loop) eR⟩
def GQ (P:Program) (gl:Nat→AV) (f:FuncId) (args:List AV) (aI:List (Nat × Bk)) (m:Nat) (p:List Nat) {ι:Type} (Q:ι→Prop) (r:ι→AV) (ax:ι→List (Nat × Bk)):Prop :=
 zS P f∧∀ (w:World) (vs:List Value) (G X:Nat→Prop) (g:Nat→GM),R ⟨0,w,G,X,gl,[]⟩ g (cW aI m) ⟨#[],[]⟩ w→bL g (Qo ⟨0,w,G,X,gl,[]⟩ g (cW aI m)) w args vs →
  Calls P f vs.toArray w fun e w'=>∃ x v g',Q x∧e=.returned v∧R ⟨0,w,G,X,gl,[]⟩ g' (cW (ax x) m) ⟨#[],[]⟩ w'∧(∀ b,b ∈ p→g' b=g b)∧VR g' (Qo ⟨0,w,G,X,gl,[]⟩ g' (cW (ax x) m)) w' (r x) v
def Gt (m:Nat) (p:List Nat) (rs:List RS) {ι:Type} (Q:ι→Prop) (r:ι→AV) (ax:ι→List (Nat × Bk)):EX→St→Prop
 | .exit _,_=>False
 | _,s=>Wr s.fs rs∧∃ x,Q x∧To p ⟨[(0,ga s.fs rs)],s.h,s.n⟩ ⟨[(0,r x)],ax x,m⟩
theorem Xtx {gl : Nat → AV} {f : FuncId} {fn : Func} {code : Code} {t : TC} {rs : List RS} {args : List AV} {aI : List (Nat × Bk)} {m : Nat} {p : List Nat} {ι : Type} {Q : ι → Prop} {r : ι → AV} {ax : ι → List (Nat × Bk)} (hm : P.follows .mixedOrders = true) (hf : P.funcs[f]? = some fn) (hb : fn.body = some code) (dQ : (fn.name == "runtime.NumGoroutine") = false)
  (he:Jh P fn.ntmps code=some t) (hr:m9 P fn.results.toList=some rs) (hN:args.length≤fn.ntmps) (aP:∀ q ∈ aI,q.2.live) (Lf:∀ b ∈ p,b < m)
  (h:∀ c:Cx,(∀ q ∈ c.gh,q.1 ∈ p)→c.gl=gl→xw P c t (Gt m p rs Q r ax) ⟨jx 0 args,aI,m⟩):GQ P gl f args aI m p Q r ax:=by
 refine ⟨⟨fn,hf,by rw[hb];rfl,dQ⟩,fun w vs G X g jM hv=>?_⟩
 refine calls_of_wp hf hb ?_
 have js:∀ b,b < m→g b≠.un:=fun b hU e=>by
  have:=jM.h b
  rw[e]at this
  have hh:(cW aI m).H b=Qc aI m b:=rfl
  rw[hh]at this
  rcases Zx aI m b with q|⟨q0,hp,_,q⟩
  ·rw[q,if_pos hU]at this;cases this;rename_i h;exact h rfl
  ·rw[q]at this
   have hl:=aP q0 hp
   cases hx:q0.2 with
   | free=>rw[hx]at hl;exact hl.elim
   | dead=>rw[hx]at hl;exact hl.elim
   | cells cs=>rw[hx]at this;cases this
   | aE kvs dn=>rw[hx]at this;cases this
   | bl kvs bs ck=>rw[hx]at this;cases this
   | iter b0 ck seen=>rw[hx]at this;cases this
   | c7 ls=>rw[hx]at this;cases this with|c7 _ h=>cases h
 have gJ:∀ q ∈ p.map (fun b=>(b,g b)),g q.1=q.2∧q.2≠.un:=fun q hp=>by
  obtain ⟨b,hU,rfl⟩:=List.mem_map.1 hp
  exact ⟨rfl,js b (Lf b hU)⟩
 have aY:∀ q ∈ p.map (fun b=>(b,g b)),q.1 ∈ p:=fun q hp=>by
  obtain ⟨b,hU,rfl⟩:=List.mem_map.1 hp
  exact hU
 have hR:=Ga (N:=fn.ntmps) hN jM hv gJ
 have:=va (c:=⟨fn.ntmps,w,G,X,gl,p.map (fun b=>(b,g b))⟩) hm code t _ _ he (h _ aY rfl) _ _ _ hR
 refine wp_mono this fun e a' w' hq=>?_
 have fin:∀ (g1:Nat→GM) (s:St),R ⟨fn.ntmps,w,G,X,gl,p.map (fun b=>(b,g b))⟩ g1 s.fs a' w'→(Wr s.fs rs∧∃ x,Q x∧To p ⟨[(0,ga s.fs rs)],s.h,s.n⟩ ⟨[(0,r x)],ax x,m⟩) →
   a'.defers=[]∧∃ v,(results fn a'.tmps).run P w'=.ok v w'∧(∃ x nd g',Q x∧Ending.returned v=.returned nd∧R ⟨0,w,G,X,gl,[]⟩ g' (cW (ax x) m) ⟨#[],[]⟩ w'∧(∀ b,b ∈ p→g' b=g b)∧VR g' (Qo ⟨0,w,G,X,gl,[]⟩ g' (cW (ax x) m)) w' (r x) nd):=by
  intro g1 s bb ⟨h1,x,hQ,h3⟩
  obtain ⟨v,h4,h5⟩:=Cm bb hr h1
  refine ⟨bb.dI,v,h4,x,v,?_⟩
  have cy:R ⟨1,w,G,X,gl,p.map (fun b=>(b,g b))⟩ g1 (⟨[(0,ga s.fs rs)],s.h,s.n⟩:St).fs ⟨#[v],[]⟩ w':=by
   refine ⟨rfl,rfl,fun i=>?_,bb.gl,bb.h,bb.inj,bb.old,bb.fr,bb.xs,bb.gX⟩
   show VR g1 _ w' (look [(0,ga s.fs rs)] i) _
   rw[Zo]
   split
   ·rename_i hi;subst hi;exact h5
   ·exact .any _
  obtain ⟨g2,bV⟩:=h3 _ g1 _ _ aY cy
  refine ⟨g2,hQ,rfl,⟨rfl,rfl,fun i=>.any _,bV.gl,bV.h,bV.inj,bV.old,bV.fr,bV.xs,fun q hp=>by cases hp⟩,fun b hb=>?_,?_⟩
  ·exact (bV.gX (b,g b) (List.mem_map.2 ⟨b,hb,rfl⟩)).1
  ·exact bV.t 0
 cases e with
 | normal=>obtain ⟨g,s,bb,cF⟩:=hq;exact fin g s bb cF
 | ret=>obtain ⟨g,s,bb,cF⟩:=hq;exact fin g s bb cF
 | exit i=>obtain ⟨g,s,bb,cF⟩:=hq;exact cF.elim
 | goto l=>exact hq.elim
 | panic ch=>exact hq.elim
 | outgrown=>exact hq.elim
theorem FT.gq {P:Program} {gl:Nat→AV} {f:FuncId} {fn:Func} {t:TC} {rs:List RS} (hF:FT P f fn t rs) {args:List AV} {aI:List (Nat × Bk)} {m:Nat} {p:List Nat} {ι:Type} {Q:ι→Prop} {r:ι→AV} {ax:ι→List (Nat × Bk)} (hN:args.length≤fn.ntmps) (aP:∀ q ∈ aI,q.2.live) (Lf:∀ b ∈ p,b < m)
  (h:∀ c:Cx,(∀ q ∈ c.gh,q.1 ∈ p)→c.gl=gl→xw P c t (Gt m p rs Q r ax) ⟨jx 0 args,aI,m⟩):GQ P gl f args aI m p Q r ax:=by
 have hc:=hF.code
 cases hb:fn.body with
 | none=>rw[hb]at hc;simp at hc
 | some code =>
  rw[hb]at hc
  exact Xtx hF.mixed hF.func hb hF.name hc hF.res hN aP Lf h
structure HL (h:List (Nat × Bk)) (m:Nat):Prop where
 mem:∀ q ∈ h,q.1 < m∧bG m q.2
 fN:∀ b,b < m→∃ q ∈ h,q.1=b
 self:∀ q ∈ h,Qc h m q.1=q.2
theorem HL.live {h:List (Nat × Bk)} {m b:Nat} (H:HL h m) (hb:b < m) (n:Nat):Qc h n b=Qc h m b∧∃ q ∈ h,q.1=b∧Qc h m b=q.2:=by
 have key:∀ (l:List (Nat × Bk)),(∃ q ∈ l,q.1=b)→Qc l n b=Qc l m b∧∃ q ∈ l,q.1=b∧Qc l m b=q.2:=fun l=>by
  induction l with
  | nil=>rintro ⟨q,hq,_⟩;cases hq
  | cons p l ih =>
   obtain ⟨i,x⟩:=p
   rintro ⟨q,hq,e⟩
   rw[Qd,Qd]
   by_cases hi:i=b
   ·rw[if_pos hi,if_pos hi]
    exact ⟨rfl,(i,x),by simp,hi,rfl⟩
   ·rw[if_neg hi,if_neg hi]
    rcases List.mem_cons.1 hq with rfl|hq
    ·exact (hi e).elim
    ·obtain ⟨h1,q',h2,h3,h4⟩:=ih ⟨q,hq,e⟩
     exact ⟨h1,q',by simp[h2],h3,h4⟩
 exact key h (H.fN b hb)
def tS (σ:Nat→Nat) (p:List Nat) (m:Nat) (j:Nat):Prop:=∀ b,b < m→σ b=j→b ∈ p
def jB (σ:Nat→Nat) (m:Nat) (j:Nat):Prop:=∀ b,b < m→σ b≠j
theorem Ybs {σ:Nat→Nat} {s s3:FS} {a:Act} {w w':World} {g g1 g2:Nat→GM} {h h':List (Nat × Bk)} {m:Nat} {p:List Nat} (hR:R c g s a w) (bT:∀ b b',b < m→b' < m→σ b=σ b'→b=b') (hh:HL h m) (sG:HL h' m) (fit:∀ b,b < m→s.H (σ b)=Xg σ (Qc h m b))
  (hT:∀ i,cQ (tS σ p m) (s.T i)) (hB:∀ j,jB σ m j→nk (tS σ p m) (s.H j)) (aY:∀ q ∈ c.gh,tS σ p m q.1)
  (jz:∀ b,b < m→g (σ b)≠.un→g (σ b)=g1 b) (vj:∀ b,b ∈ p→g2 b=g1 b) (bV:R (pB c g s w σ h m) g2 (cW h' m) ⟨#[],[]⟩ w')
  (Lg:∀ i,s3.T i=s.T i) (C5:∀ b,b < m→s3.H (σ b)=Xg σ (Qc h' m b)) (xF:∀ j,jB σ m j→s3.H j=s.H j) :
  R c (Jx g g2 σ m) s3 a w'∧∀ {r:AV} {v:Value},Qe m r→VR g2 (Qo (pB c g s w σ h m) g2 (cW h' m)) w' r v→VR (Jx g g2 σ m) (Qo c (Jx g g2 σ m) s3) w' (aD σ r) v:=by
 have dg:∀ b,b < m→(Qc h m b).live:=fun b hb=>by
  obtain ⟨_,q,hq,_,e⟩:=hh.live hb m
  rw[e];exact Xf (hh.mem q hq).2
 have jC:∀ b,b < m→(Qc h' m b).live:=fun b hb=>by
  obtain ⟨_,q,hq,_,e⟩:=sG.live hb m
  rw[e];exact Xf (sG.mem q hq).2
 have ea:∀ b,b < m→(s.H (σ b)).live:=fun b hb=>by rw[fit b hb,zR];exact dg b hb
 have named:∀ b,b < m→g (σ b)≠.un:=fun b hb e=>by
  have:=hR.h (σ b)
  rw[e]at this
  have hl:=ea b hb
  generalize s.H (σ b)=x at this hl
  exact this.fV hl
 have low:∀ b,(Qc h m b).live→b < m:=fun b hl=>by
  rcases Zx h m b with q|⟨q,hq,rfl,_⟩
  ·rw[q]at hl;split at hl<;>exact hl.elim
  ·exact (hh.mem q hq).1
 have kKa:∀ b,(Qc h' m b).live→b < m:=fun b hl=>by
  rcases Zx h' m b with q|⟨q,hq,rfl,_⟩
  ·rw[q]at hl;split at hl<;>exact hl.elim
  ·exact (sG.mem q hq).1
 have gs:∀ b,b < m→Jx g g2 σ m (σ b)=g2 b:=fun b dO=>by
  unfold Jx
  have hex:∃ b',b' < m∧σ b'=σ b:=⟨b,dO,rfl⟩
  rw[dif_pos hex]
  rw[bT _ _ hex.choose_spec.1 dO hex.choose_spec.2]
 have go:∀ j,jB σ m j→Jx g g2 σ m j=g j:=fun j h=>by
  unfold Jx
  rw[dif_neg]
  rintro ⟨b,h1,h2⟩;exact h b h1 h2
 have part:∀ j,(∃ b,b < m∧σ b=j)∨jB σ m j:=fun j=>by
  by_cases e:∃ b,b < m∧σ b=j
  ·exact .inl e
  ·exact .inr fun b h1 h2=>e ⟨b,h1,h2⟩
 have gS:∀ j,tS σ p m j→g j≠.un→g j=Jx g g2 σ m j:=fun j hj bX=>by
  rcases part j with ⟨b,hb,rfl⟩|dY
  ·rw[gs b hb,vj b (hj b hb rfl)];exact jz b hb bX
  ·rw[go j dY]
 have hf:Fr w w' (qq g σ h m):=bV.fr
 have Ag:∀ k,qq g σ h m k→Qo c g s k:=fun k ⟨b,h1,h2⟩=>.inr ⟨σ b,ea b (low b h1),h2⟩
 have qw:Fr w w' (Qo c g s):=hf.weak Ag
 have sq:∀ j k,jB σ m j→(s.H j).live→g j=.re k→¬ qq g σ h m k:=fun j k h1 h2 h3 ⟨b,q1,q2⟩ =>
  h1 b (low b q1) (hR.inj (σ b) j k (ea b (low b q1)) h2 q2 h3)
 have gb:∀ b k,b < m→g2 b=.re k→w.heap.size≤k∨∃ b0,b0 < m∧g (σ b0)=.re k:=fun b k hb hk=>by
  rcases bV.old b k (jC b hb) hk with h|⟨b0,q1,q2⟩
  ·exact .inl h
  ·exact .inr ⟨b0,low b0 q1,q2⟩
 have cZ:∀ j,(s3.H j).live→(∃ b,b < m∧σ b=j)∨(jB σ m j∧(s.H j).live):=fun j hl=>by
  rcases part j with h|h
  ·exact .inl h
  ·rw[xF j h]at hl;exact .inr ⟨h,hl⟩
 have mE:∀ k,k < w.heap.size→Qo c (Jx g g2 σ m) s3 k→Qo c g s k:=by
  rintro k hk (h|⟨j,h1,h2⟩)
  ·exact .inl h
  ·rcases cZ j h1 with ⟨b,hb,rfl⟩|⟨hj,hl⟩
   ·rw[gs b hb]at h2
    rcases gb b k hb h2 with h|⟨b0,q1,q2⟩
    ·omega
    ·exact .inr ⟨σ b0,ea b0 q1,q2⟩
   ·rw[go j hj]at h2;exact .inr ⟨j,hl,h2⟩
 have lj:∀ k,Qo c (Jx g g2 σ m) s3 k→Qo (pB c g s w σ h m) g2 (cW h' m) k:=by
  rintro k (h|⟨j,h1,h2⟩)
  ·refine .inl ⟨.inl h,fun ⟨b,q1,q2⟩=>?_⟩
   obtain ⟨x1,x2⟩:=hR.xs k h
   rcases hR.old (σ b) k (ea b (low b q1)) q2 with h|h
   ·omega
   ·exact x2 h
  ·rcases cZ j h1 with ⟨b,hb,rfl⟩|⟨hj,hl⟩
   ·rw[gs b hb]at h2;exact .inr ⟨b,jC b hb,h2⟩
   ·rw[go j hj]at h2;exact .inl ⟨.inr ⟨j,hl,h2⟩,sq j k hj hl h2⟩
 refine ⟨⟨hR.size,hR.dI,fun i=>?_,fun i=>(hR.gl i).mono qw mE (fun _ _=>rfl),fun j=>?_,fun j j' k h1 h2 e1 e2=>?_,fun j k h1 e1=>?_,hR.fr.trans hf fun k hk ⟨b,q1,q2⟩=>?_,hR.xs,fun q hq=>?_⟩,fun {r v} hn hv=>?_⟩
 ·rw[Lg];exact ((hR.t i).only gS (hT i)).mono qw mE (fun _ _=>rfl)
 ·rcases part j with ⟨b,hb,rfl⟩|hj
  ·rw[gs b hb,C5 b hb]
   have dP:=bV.h b
   have e:(cW h' m).H b=Qc h' m b:=rfl
   rw[e]at dP
   obtain ⟨_,q,hq,_,eq⟩:=sG.live hb m
   rw[eq]at dP ⊢
   exact dP.aD (n:=m) gs (sG.mem q hq).2 lj
  ·rw[go j hj,xF j hj]
   refine ((hR.h j).only gS (hB j hj)).mono qw mE (fun _ _=>rfl) fun k hk hl=>hf.eC k ?_ (sq j k hj hl hk)
   exact BR.lt (hk ▸ hR.h j) hl
 ·rcases cZ j h1 with ⟨b,hb,rfl⟩|⟨hj,hl⟩<;>rcases cZ j' h2 with ⟨b',bJ,rfl⟩|⟨cV,kW⟩
  ·rw[gs b hb]at e1;rw[gs b' bJ]at e2
   rw[bV.inj b b' k (jC b hb) (jC b' bJ) e1 e2]
  ·rw[gs b hb]at e1;rw[go j' cV]at e2
   have hlt:=BR.lt (e2 ▸ hR.h j') kW
   rcases gb b k hb e1 with h|⟨b0,q1,q2⟩
   ·omega
   ·exact (cV b0 q1 (hR.inj (σ b0) j' k (ea b0 q1) kW q2 e2)).elim
  ·rw[gs b' bJ]at e2;rw[go j hj]at e1
   have hlt:=BR.lt (e1 ▸ hR.h j) hl
   rcases gb b' k bJ e2 with h|⟨b0,q1,q2⟩
   ·omega
   ·exact (hj b0 q1 (hR.inj (σ b0) j k (ea b0 q1) hl q2 e1)).elim
  ·rw[go j hj]at e1;rw[go j' cV]at e2
   exact hR.inj j j' k hl kW e1 e2
 ·rcases cZ j h1 with ⟨b,hb,rfl⟩|⟨hj,hl⟩
  ·rw[gs b hb]at e1
   rcases gb b k hb e1 with h|⟨b0,q1,q2⟩
   ·have:=hR.fr.size;exact .inl af
   ·exact hR.old (σ b0) k (ea b0 q1) q2
  ·rw[go j hj]at e1;exact hR.old j k hl e1
 ·rcases hR.old (σ b) k (ea b (low b q1)) q2 with h|h
  ·omega
  ·exact h
 ·obtain ⟨q1,q2⟩:=hR.gX q hq
  refine ⟨?_,q2⟩
  have:=gS q.1 (aY q hq) (by rw[q1];exact q2)
  rw[← this,q1]
 ·exact (hv.aD (ρ:=σ) (g:=Jx g g2 σ m) gs hn).mono (Fr.refl _ _) (fun k _=>lj k) (fun _ _=>rfl)
end
theorem Ws {x:Bk}:Xg id x=x:=by
 cases x with
 | cells cs=>simp only[Xg];rw[Yf];congr 1;exact (List.map_congr_left fun x _=>qk id (fun _=>rfl) x).trans (List.map_id cs)
 | aE kvs dn=>simp only[Xg];congr 1;exact (List.map_congr_left fun x _=>by rw[qk id (fun _=>rfl),qk id (fun _=>rfl)];rfl).trans (List.map_id kvs)
 | bl kvs bs ck=>simp only[Xg];congr 1;exact (List.map_congr_left fun x _=>by rw[qk id (fun _=>rfl),qk id (fun _=>rfl)];rfl).trans (List.map_id kvs)
 | iter b0 ck seen=>rfl
 | c7 ls=>rfl
 | free=>rfl
 | dead=>rfl
theorem Jp (l:List AV):ay id l=l:=by rw[Yf];exact (List.map_congr_left fun x _=>qk id (fun _=>rfl) x).trans (List.map_id l)
def xG (S:Nat→Prop):List (Nat × AV)→Prop
 | []=>True
 | q::l=>cQ S q.2∧xG S l
theorem RW {S:Nat→Prop}:∀ {l:List (Nat × AV)},xG S l→∀ i,cQ S (look l i)
 | [],_,i=>by simp[look,cQ]
 | (j,v)::l,h,i=>by
  rw[Zo]
  split
  ·exact h.1
  ·exact RW h.2 i
def Xc (σ:Nat→Nat) (h:List (Nat × Bk)):List (Nat × Bk):=h.map fun q=>(σ q.1,Xg σ q.2)
theorem Kj (h:List (Nat × Bk)):Xc id h=h:=by
 unfold Xc
 exact (List.map_congr_left fun q _=>by rw[Ws];rfl).trans (List.map_id h)
theorem Kk {σ:Nat→Nat} {m:Nat} (bT:∀ b b',b < m→b' < m→σ b=σ b'→b=b') {n b:Nat} (hb:b < m):∀ {h:List (Nat × Bk)},(∀ q ∈ h,q.1 < m)→(∃ q ∈ h,q.1=b)→Qc (Xc σ h) n (σ b)=Xg σ (Qc h m b)
 | [],_,⟨q,hq,_⟩=>by cases hq
 | (i,x)::l,hm,⟨q,hq,e⟩=>by
  show Qc ((σ i,Xg σ x)::Xc σ l) n (σ b)=_
  rw[Qd,Qd]
  by_cases hi:i=b
  ·rw[if_pos hi,if_pos (by rw[hi])]
  ·rw[if_neg hi,if_neg fun e=>hi (bT _ _ (hm (i,x) au) hb e)]
   rcases List.mem_cons.1 hq with rfl|hq
   ·exact (hi e).elim
   ·exact Kk bT hb (fun q hq=>hm q (by simp[hq])) ⟨q,hq,e⟩
theorem Ww {σ:Nat→Nat} {m n j:Nat} (hj:jB σ m j):∀ {h:List (Nat × Bk)},(∀ q ∈ h,q.1 < m)→Qc (Xc σ h) n j=if j < n then .dead else .free
 | [],_=>rfl
 | (i,x)::l,hm=>by
  show Qc ((σ i,Xg σ x)::Xc σ l) n j=_
  rw[Qd,if_neg (hj i (hm (i,x) au))]
  exact Ww hj fun q hq=>hm q (by simp[hq])
theorem Xm {n j:Nat} {h:List (Nat × Bk)}:∀ {ex:List (Nat × Bk)},(∀ q ∈ ex,q.1≠j)→Qc (ex++h) n j=Qc h n j
 | [],_=>rfl
 | (i,x)::l,hm=>by
  rw[List.cons_append,Qd,if_neg (hm (i,x) au)]
  exact Xm fun q hq=>hm q (by simp[hq])
theorem C6 {n j:Nat} {h h':List (Nat × Bk)} (e:Qc h n j=Qc h' n j):∀ {ex:List (Nat × Bk)},Qc (ex++h) n j=Qc (ex++h') n j
 | []=>e
 | (i,x)::l=>by
  rw[List.cons_append,List.cons_append,Qd,Qd,C6 e]
def Yg4 (σ:Nat→Nat) (p:List Nat) (m:Nat) (ex:List (Nat × Bk)):Prop:=∀ q ∈ ex,jB σ m q.1∧nk (tS σ p m) q.2
def mK (v:Bool) (f:FuncId) (l:List AV):Option (FuncId × List AV):=bif v then tL l else some (f,l)
structure C7 (gl:Nat→AV) (s:St) (xs:List TV) (v:Bool) (f:FuncId) (args:List AV) (σ:Nat→Nat) (p pc:List Nat) (m:Nat) (t:List (Nat × AV)) (ex aI:List (Nat × Bk)) (n:Nat):Prop where
 to:To pc s ⟨t,ex++Xc σ aI,n⟩
 inj:∀ b b',b < m→b' < m→σ b=σ b'→b=b'
 hl:HL aI m
 pc:∀ b ∈ pc,tS σ p m b
 hex:Yg4 σ p m ex
 ht:xG (tS σ p m) t
 eL:Qv none (aG gl (⟨t,ex++Xc σ aI,n⟩:St).fs xs)
 aM:mK v f ((aG gl (⟨t,ex++Xc σ aI,n⟩:St).fs xs).map Qk)=some (f,ay σ args)
 nm:ai m args
section
variable {P:Program} {c:Cx}
theorem Xyp {v:Bool} {s:St} {f:FuncId} {xs:List TV} {args:List AV} {aI:List (Nat × Bk)} {σ:Nat→Nat} {m n:Nat} {p pc:List Nat} {ι:Type} {Q:ι→Prop} {r:ι→AV} {ax:ι→List (Nat × Bk)} {t:List (Nat × AV)} {ex:List (Nat × Bk)} (hq:GQ P c.gl f args aI m p Q r ax)
  (aY:∀ q ∈ c.gh,q.1 ∈ pc) (ok:C7 c.gl s xs v f args σ p pc m t ex aI n) (gg:∀ x,Q x→HL (ax x) m) (hr:∀ x,Q x→Qe m (r x)) {g0:Nat→GM} {a:Act} {w:World} (jM:R c g0 s.fs a w) :
  ∃ g,R c g (⟨t,ex++Xc σ aI,n⟩:St).fs a w∧∀ vs,bL g (Qo c g (⟨t,ex++Xc σ aI,n⟩:St).fs) w (ay σ args) vs→Calls P f vs.toArray w fun e w'=>∃ x v g3,Q x∧e=.returned v∧R c g3 (⟨t,ex++Xc σ (ax x),n⟩:St).fs a w'∧VR g3 (Qo c g3 (⟨t,ex++Xc σ (ax x),n⟩:St).fs) w' (aD σ (r x)) v:=by
 obtain ⟨g,hR⟩:=ok.to c g0 a w aY jM
 refine ⟨g,hR,fun vs hv=>?_⟩
 have oA:∀ b,b < m→∀ q ∈ ex,q.1≠σ b:=fun b hb q hq e=>(ok.hex q hq).1 b hb e.symm
 have fit:∀ b,b < m→(⟨t,ex++Xc σ aI,n⟩:St).fs.H (σ b)=Xg σ (Qc aI m b):=fun b hb=>by
  show Qc (ex++Xc σ aI) n (σ b)=_
  rw[Xm (oA b hb)];exact Kk ok.inj hb (fun q hq=>(ok.hl.mem q hq).1) (ok.hl.fN b hb)
 have xH:Fit σ (⟨t,ex++Xc σ aI,n⟩:St).fs aI m:=by
  refine ⟨fun q hq=>⟨(ok.hl.mem q hq).1,(ok.hl.mem q hq).2,?_⟩,fun q hq q' cF e=>ok.inj _ _ (ok.hl.mem q hq).1 (ok.hl.mem q' cF).1 e⟩
  rw[fit q.1 (ok.hl.mem q hq).1,ok.hl.self q hq]
 obtain ⟨g1,jz,sr,ss⟩:=F8 hR xH
 have nc:=CG (σ:=σ) (g1:=g1) jz ss ok.nm hv
 refine (hq.2 w _ _ _ g1 sr nc).mono fun e w' ⟨x,v,g2,hQ,e1,e2,e3,e4⟩=>?_
 have hXB:∀ j,jB σ m j→nk (tS σ p m) ((⟨t,ex++Xc σ aI,n⟩:St).fs.H j):=fun j hj=>by
  show nk _ (Qc (ex++Xc σ aI) n j)
  rcases Zx (ex++Xc σ aI) n j with q|⟨q,hq,rfl,q2⟩
  ·rw[q];split<;>trivial
  ·rw[q2]
   rcases List.mem_append.1 hq with h|h
   ·exact (ok.hex q h).2
   ·obtain ⟨q',cF,rfl⟩:=List.mem_map.1 h
    exact (hj q'.1 (ok.hl.mem q' cF).1 rfl).elim
 obtain ⟨j9,eO⟩:=Ybs (s3:=(⟨t,ex++Xc σ (ax x),n⟩:St).fs) hR ok.inj ok.hl (gg x hQ) fit (RW ok.ht) hXB (fun q hq=>ok.pc _ (aY q hq)) jz e3 e2 (fun i=>rfl)
  (fun b hb=>by
   show Qc (ex++Xc σ (ax x)) n (σ b)=_
   rw[Xm (oA b hb)];exact Kk ok.inj hb (fun q hq=>((gg x hQ).mem q hq).1) ((gg x hQ).fN b hb))
  (fun j hj=>C6 (by rw[Ww hj fun q hq=>((gg x hQ).mem q hq).1,Ww hj fun q hq=>(ok.hl.mem q hq).1]))
 exact ⟨x,v,_,hQ,e1,j9,eO (hr x hQ) e4⟩
theorem Yf5 {r0:List bF} {K:St→Prop} {s:St} {d:Option Nat} {f:FuncId} {xs:List TV} {args:List AV} {aI:List (Nat × Bk)} {σ:Nat→Nat} {m n:Nat} {p pc:List Nat} {ι:Type} {Q:ι→Prop} {r:ι→AV} {ax:ι→List (Nat × Bk)} (hq:GQ P c.gl f args aI m p Q r ax)
  (aY:∀ q ∈ c.gh,q.1 ∈ pc) (t:List (Nat × AV)) (ex:List (Nat × Bk)) (ok:C7 c.gl s xs false f args σ p pc m t ex aI n) (gg:∀ x,Q x→HL (ax x) m) (hr:∀ x,Q x→Qe m (r x))
  (hk:∀ x,Q x→XP P c r0 K (St.bQ ⟨t,ex++Xc σ (ax x),n⟩ d (aD σ (r x)))):Yl P c (.pd d (.call f) xs none) r0 K s:=by
 refine .inr fun ops io he g0 a w jM K' Q' hK=>?_
 obtain ⟨g,hR,cN⟩:=Xyp hq aY ok gg hr jM
 obtain ⟨bm,bc,hd,ys,aJ,rfl⟩:=Zt he
 obtain ⟨ts,bh⟩:=xd aJ
 have hv:=Yp (hR.aG ys) ok.eL
 have aM:=ok.aM
 simp only[mK,cond_false,Option.some.injEq,Prod.mk.injEq,true_and]at aM
 rw[aM]at hv
 refine Yz (Jz bm) ?_
 unfold Oper.wp
 rw[xe hq.1 bh]
 rw[Oper.upon_enter]
 refine (cN _ hv).mono fun e w' ⟨x,v,g3,hQ,e1,j9,tK⟩=>?_
 subst e1
 show K' (a.put io.dst v) w'
 rw[bc]
 cases d with
 | none=>exact hK g3 _ _ _ (hk x hQ) (j9.ti v)
 | some d =>
  refine hK g3 ((⟨t,ex++Xc σ (ax x),n⟩:St).put d (aD σ (r x))) _ _ (hk x hQ) ?_
  rw[St.bS]
  exact j9.put (by simpa using hd) tK
end
end Go.Proofs.YtogckmommodmhaaGreatDoor
namespace Go.Proofs.YtogckmommodmhaaGreatDoor
open Go.RowKit
set_option linter.all false
set_option linter.unusedSimpArgs false
set_option maxRecDepth 100000
theorem Lh {α:Type} (l:List α) (i j:Nat) (d:α):(l.eraseIdx i).getD j d=if j < i then l.getD j d else l.getD (j + 1) d:=by
 simp only[List.getD,List.getElem?_eraseIdx]
 split<;>rfl
theorem C8 (es:Array MapEntry) (i j:Nat):(es.eraseIdxIfInBounds i).getD j default=if j < i then es.getD j default else es.getD (j + 1) default:=by
 rw[← vq,← vq,← vq,← Lh]
 congr 1
 unfold Array.eraseIdxIfInBounds
 split
 ·simp
 ·rename_i h
  rw[List.eraseIdx_of_length_le (by simpa using h)]
theorem Li {es:Array MapEntry} {i:Nat} (hi:i < es.size):(es.eraseIdxIfInBounds i).size=es.size - 1:=by
 unfold Array.eraseIdxIfInBounds
 rw[dif_pos hi];simp
section
variable {P:Program} {c:Cx} {g:Nat→GM} {s:FS} {a:Act} {w:World}
theorem Xzw (hR:R c g s a w) {t t2 ty:TypeId} {wide:Bool} {ks:List SK} {z:AV} (hT:dG P t wide ks z) {b:Nat} {kvs:List (AV × AV)} {dn:Bool} (hb:s.H b=.aE kvs dn) {x:AV} {m v:Value} (hm:VR g (Qo c g s) w (.mp b) m) (hx:VR g (Qo c g s) w x v)
  (sD:Kv wide ks x) (dZ:Aq wide ks kvs):∃ w',(Builtin.delete_ #[t,t2] ty #[m,v]).run P w=.ok (.tuple #[]) w'∧R c g (s.aK b (.aE (xE kvs x) false)) a w':=by
 obtain ⟨kt,et,zv,hu,hK,hz,rfl⟩:=hT.of
 obtain ⟨k,rfl,hg⟩:=BZ hm
 obtain ⟨es,clock,q1,q2,q3,q4,q5,q6,q7⟩:=CU hR hb hg
 have jj:=KW hK sD hx (kvs:=kvs) (es:=es.toList) (by simpa using q2) dZ (fun j hj=>by rw[vq];exact q3 j hj) w
 have cX:=KV hK sD hx es.isEmpty w
 have eT:(getObj k).run P w=.ok (.map es clock) w:=by simp[getObj,Sem.run,q1]
 have iO:=Ua q1
 unfold xE
 cases hf:jm kvs x with
 | none =>
  rw[hf]at jj
  refine ⟨_,?_,hR.ka (kvs':=kvs) (dn':=false) (es':=es) (clock':=clock) hb hg q1 q2 q3 q4 q5 q6 (fun h=>by cases h)⟩
  simp only[Builtin.delete_,Sem.run_bind,run_underlying hu,Result.andThen_ok,eT,cX,jj,Option.map_none,Gp q1,Sem.run_pure,List.getElem?_toArray,List.getElem?_cons_zero,List.getElem?_cons_succ]
 | some i =>
  rw[hf]at jj
  obtain ⟨hi,La⟩:=KY hf
  have jO:i < es.size:=by omega
  have bu:=hR.ka (kvs':=kvs.eraseIdx i) (dn':=false) (es':=es.eraseIdxIfInBounds i) (clock':=clock) hb hg q1 (by rw[Li jO,List.length_eraseIdx,if_pos hi,q2])
   (fun j hj=>by
    rw[List.length_eraseIdx,if_pos hi]at hj
    rw[Lh,C8];split
    ·exact q3 j af
    ·exact q3 (j + 1) af)
   (fun j hj=>by
    rw[List.length_eraseIdx,if_pos hi]at hj
    rw[Lh,C8];split
    ·exact q4 j af
    ·exact q4 (j + 1) af)
   (fun j hj=>by
    rw[Li jO]at hj
    rw[C8];split
    ·exact q5 j af
    ·exact q5 (j + 1) af)
   (fun i' j iJ hj=>by
    rw[Li jO]at hj
    rw[C8,C8]
    split<;>split
    ·exact q6 i' j iJ af
    ·exact q6 i' (j + 1) af af
    ·omega
    ·exact q6 (i' + 1) (j + 1) af af) (fun h=>by cases h)
  refine ⟨_,?_,bu⟩
  simp only[Builtin.delete_,Sem.run_bind,run_underlying hu,Result.andThen_ok,eT,cX,jj,Option.map_some,Gp q1,Sem.run_pure,List.getElem?_toArray,List.getElem?_cons_zero,List.getElem?_cons_succ]
end
section
variable {P:Program} {c:Cx} {ops:Array Oper} {io:Oper}
theorem Xwb {o:Oper} {t:TypeId} {xs:List Operand} (h:Yh P o=some (.del t,xs)):∃ x y t2,o.op=.call ⟨.builtin .delete,⟨[x,y]⟩,⟨[t,t2]⟩⟩∧xs=[x,y]:=by
 unfold Yh at h
 repeat' split at h
 all_goals first
  | (cases h;exact ⟨_,_,_,by assumption,rfl⟩)
  | (simp at h;done)
  | (cases h;done)
  | (simp[Option.map_eq_some_iff]at h;done)
theorem Xt0 {o:Oper} {t:TypeId} {xs:List Operand} (h:Yh P o=some (.IU t,xs)):∃ x,o.op=.range t x∧xs=[x]:=by
 unfold Yh at h
 repeat' split at h
 all_goals first
  | (cases h;exact ⟨_,by assumption,rfl⟩)
  | (simp at h;done)
  | (cases h;done)
  | (simp[Option.map_eq_some_iff]at h;done)
theorem Xua {o:Oper} {xs:List Operand} (h:Yh P o=some (.b8,xs)):∃ x,o.op=.next x false∧xs=[x]:=by
 unfold Yh at h
 repeat' split at h
 all_goals first
  | (cases h;exact ⟨_,by assumption,rfl⟩)
  | (simp at h;done)
  | (cases h;done)
  | (simp[Option.map_eq_some_iff]at h;done)
theorem Xu6 {o:Oper} {xs:List Operand} (h:Yh P o=some (.IV,xs)):∃ x,o.op=.entry x∧xs=[x]:=by
 unfold Yh at h
 repeat' split at h
 all_goals first
  | (cases h;exact ⟨_,by assumption,rfl⟩)
  | (simp at h;done)
  | (cases h;done)
  | (simp[Option.map_eq_some_iff]at h;done)
theorem Xy2 {s:FS} {b:Nat} {X:Bk} {rt rb:List Nat} (hg:io.guard=none) (bc:io.dst=none)
  (core:∀ s2:FS,(∀ i ∈ rt,s2.T i=s.T i)→(∀ b ∈ rb,s2.H b=s.H b)→∀ g a w,R c g s2 a w→∃ g' v' w',(execOp a.eval io).run P w=.ok (.value v') w'∧R c g' (s2.aK b X) a w') :
  n7 P c ops io s ⟨rt,rb,[],[b]⟩ (s.aK b X):=by
 refine ⟨fun i hi=>rfl,fun j hj=>?_,fun s2 hT hH g a w hR K Q' hK=>Yz hg ?_⟩
 ·rw[FS.a7,if_neg (fun e=>hj (by simp[e]))]
 ·obtain ⟨g',v',w',hr,bb⟩:=core s2 hT hH g a w hR
  unfold Oper.wp
  rw[hr]
  show K (a.put io.dst v') w'
  rw[bc]
  refine hK g' _ w' ?_
  rw[Cb]
  exact bb
noncomputable def C9 (s:FS) (vs:List AV):Bk:=.aE (xE (kB (s.H (fu vs))) (mJ vs)) false
theorem RX {s:St} {t:TypeId} {xs:List TV} {wide:Bool} {ks:List SK} {z:AV} (hT:dG P t wide ks z) (hc:Qv none (aG c.gl s.fs xs)) (aU:pI s.fs wide ks ((aG c.gl s.fs xs).map Qk)) :
  Ky P c (.pd none (.del t) xs none) s.fs (sE s.fs c.gl xs [] true) (s.aK (fu ((aG c.gl s.fs xs).map Qk)) (C9 s.fs ((aG c.gl s.fs xs).map Qk))).fs:=by
 intro ops io he
 obtain ⟨bm,bc,hd,ys,aJ,rfl⟩:=Zt he
 obtain ⟨m,k,t2,bh,rfl⟩:=Xwb aJ
 have fM:(aG c.gl s.fs ([m,k].map aT)).map Qk=[Qk (aZ c.gl s.fs (aT m)),Qk (aZ c.gl s.fs (aT k))]:=rfl
 unfold sE
 rw[fM]at aU ⊢
 generalize RT:Qk (aZ c.gl s.fs (aT m))=vm at *
 generalize Cv:Qk (aZ c.gl s.fs (aT k))=vk at *
 obtain ⟨h1,h2,h3,h4⟩:=aU
 obtain ⟨b,r,hb⟩:=Lc h1
 injection hb with fO dE
 subst fO
 obtain ⟨kvs,dn,l9⟩:=Ld h2
 simp only[C9,fu,mJ,cond_true]at h3 h4 l9 ⊢
 rw[l9]at h4 ⊢
 simp only[kB]at h4 ⊢
 rw[St.cK]
 refine Xy2 (Jz bm) bc fun s2 jn sF g a w hR=>?_
 have bn:aG c.gl s2 ([m,k].map aT)=aG c.gl s.fs ([m,k].map aT):=Yj jn
 have fo:=Yp (hR.aG [m,k]) (by rw[bn];exact hc)
 rw[bn,fM]at fo
 obtain ⟨v1,v2,_⟩:=fo
 obtain ⟨w',hr,bb⟩:=Xzw hR hT (t2:=t2) (ty:=io.type) (b:=b) (kvs:=kvs) (dn:=dn) (by rw[sF b au,l9]) v1 v2 h3 h4
 refine ⟨g,.tuple #[],w',?_,bb⟩
 unfold execOp
 simp only[bh,resolve,invoke,builtin,Sem.run_bind,Sem.run_pure,Result.andThen_ok,List.map_toArray,List.map_cons,List.map_nil]
 rw[show (Builtin.delete_ { toList:=[t,t2] } io.type #[a.eval m,a.eval k]).run P w=_ from hr]
 rfl
theorem Lj {r0:List bF} {K:St→Prop} {s:St} {t:TypeId} {xs:List TV} {wide:Bool} {ks:List SK} {z:AV} (hT:dG P t wide ks z) (h:Qv none (aG c.gl s.fs xs)∧pI s.fs wide ks ((aG c.gl s.fs xs).map Qk)∧XP P c r0 K (s.aK (fu ((aG c.gl s.fs xs).map Qk)) (C9 s.fs ((aG c.gl s.fs xs).map Qk)))) :
  Yl P c (.pd none (.del t) xs none) r0 K s:=.inl ⟨_,_,RX hT h.1 h.2.1,h.2.2⟩
theorem Lk {anc:List Nat} {fs:List bq} {r0:List bF} {K:St→Prop} {s:St} {t:TypeId} {xs:List TV} {wide:Bool} {ks:List SK} {z:AV} (hT:dG P t wide ks z) (h:Qv none (aG c.gl s.fs xs)∧pI s.fs wide ks ((aG c.gl s.fs xs).map Qk)∧XD P c anc r0 (sE s.fs c.gl xs [] true::fs) K (s.aK (fu ((aG c.gl s.fs xs).map Qk)) (C9 s.fs ((aG c.gl s.fs xs).map Qk)))) :
  Zr P c anc (.pd none (.del t) xs none) r0 fs K s:=⟨_,_,RX hT h.1 h.2.1,h.2.2⟩
attribute [go_sem] C9
def Ll (bs:List Nat) (n ck:Nat):Prop:=bs.length=n∧(∀ i j,i < j→j < n→bs.getD i 0 < bs.getD j 0)∧∀ i,i < n→bs.getD i 0 < ck
theorem Gu {es:Array MapEntry} (j:Nat) (hj:j < es.size):(es.toList.map (·.born)).getD j 0=(es.getD j default).born:=by
 simp[List.getD,Array.getD_eq_getD_getElem?,hj]
theorem R.toX {g:Nat→GM} {s:FS} {a:Act} {w:World} (hR:R c g s a w) {b:Nat} {kvs:List (AV × AV)} {dn:Bool} (hb:s.H b=.aE kvs dn):∃ bs ck,Ll bs kvs.length ck∧R c g (s.aK b (.bl kvs bs ck)) a w:=by
 have h:=hR.h b
 rw[hb]at h
 generalize hg:g b=m at h
 cases h with
 | aE h1 h2 h3 h4 h5 h6 h7 =>
  rename_i k es clock
  refine ⟨es.toList.map (·.born),clock,⟨by simpa using h2,fun i j iJ hj=>?_,fun i hi=>?_⟩,hR.setBlock hg (by rw[hb];trivial) trivial (Fr.refl _ _) (.bl h1 h2 h3 h4 h5 h6 rfl)⟩
  ·rw[Gu i af,Gu j af];exact h6 i j iJ af
  ·rw[Gu i af];exact h5 i af
theorem Lm {g:Nat→GM} {s:FS} {a:Act} {w:World} (hR:R c g s a w) {b k:Nat} {kvs:List (AV × AV)} {bs:List Nat} {ck:Nat} (hb:s.H b=.bl kvs bs ck) (hg:g b=.re k):∃ es,w.heap[k]?=some (.map es ck)∧es.size=kvs.length ∧
  (∀ j,j < kvs.length→VR g (Qo c g s) w (kvs.getD j (.any,.any)).1 (es.getD j default).key)∧(∀ j,j < kvs.length→VR g (Qo c g s) w (kvs.getD j (.any,.any)).2 (es.getD j default).val) ∧
  (∀ j,j < es.size→(es.getD j default).born < ck)∧(∀ i j,i < j→j < es.size→(es.getD i default).born < (es.getD j default).born)∧(∀ j,j < es.size→(es.getD j default).born=bs.getD j 0)∧bs.length=kvs.length:=by
 have:=hR.h b
 rw[hb,hg]at this
 cases this with
 | bl h1 h2 h3 h4 h5 h6 h7=>exact ⟨_,h1,h2,h3,h4,h5,h6,fun j hj=>by rw[← h7,Gu j hj],by rw[← h7];simpa using h2⟩
theorem RY {g:Nat→GM} {s:FS} {a:Act} {w:World} (hR:R c g s a w) {bi k b ck:Nat} {seen:List Nat} (hb:s.H bi=.iter b ck seen) (hg:g bi=.re k):∃ m,w.heap[k]?=some (.mapIter (some m) ck seen.toArray ck)∧g b=.re m:=by
 have:=hR.h bi
 rw[hb,hg]at this
 cases this with
 | iter h1 h2=>exact ⟨_,h1,h2⟩
theorem R.Gv {g:Nat→GM} {s:FS} {a:Act} {w:World} (hR:R c g s a w) {b:Nat} {kvs:List (AV × AV)} {bs:List Nat} {ck:Nat} (hb:s.H b=.bl kvs bs ck):R c g (s.aK b (.aE kvs false)) a w:=by
 have h:=hR.h b
 rw[hb]at h
 generalize hg:g b=m at h
 cases h with
 | bl h1 h2 h3 h4 h5 h6 h7=>exact hR.setBlock hg (by rw[hb];trivial) trivial (Fr.refl _ _) (.aE h1 h2 h3 h4 h5 h6 fun h=>by cases h)
theorem To.Gv {p:List Nat} {b:Nat} {s:St} {kvs:List (AV × AV)} {bs:List Nat} {ck:Nat} (hb:s.fs.H b=.bl kvs bs ck):To p s (s.aK b (.aE kvs false)):=fun c g a w _ hR=>⟨g,by rw[St.cK];exact hR.Gv hb⟩
theorem RZ {r0:List bF} {K:St→Prop} {s:St} {d:Nat} {t:TypeId} {x:TV} {b:Nat} {kvs:List (AV × AV)} {dn wide:Bool} {ks:List SK} {z:AV} (hT:dG P t wide ks z) (hx:aZ c.gl s.fs x=.mp b) (hb:s.fs.H b=.aE kvs dn) (hf:s.fs.H s.n=.free)
  (h:∀ bs ck,Ll bs kvs.length ck→XP P c r0 K (((s.aK b (.bl kvs bs ck)).nw (.iter b ck [])).put d (.ptr s.n 0))):Yl P c (.pd (some d) (.IU t) [x] none) r0 K s:=by
 refine .inr fun ops io he g a w hR K' Q' hK=>?_
 obtain ⟨bm,bc,hd,ys,aJ,mC⟩:=Zt he
 obtain ⟨y,bh,rfl⟩:=Xt0 aJ
 obtain rfl:x=aT y:=by simpa using mC
 obtain ⟨kt,et,zv,hu,_,_,_⟩:=hT.of
 have hv:=Yp (hR.aG [y]) (by
  show Qv none (aG c.gl s.fs [aT y])
  simp only[aG,List.map_cons,List.map_nil,hx]
  simp[Qv,eL])
 have hv:VR g (Qo c g s.fs) w (.mp b) (a.eval y):=by
  have e:(aG c.gl s.fs ([y].map aT)).map Qk=[.mp b]:=by
   show [Qk (aZ c.gl s.fs (aT y))]=_
   rw[hx];rfl
  rw[e]at hv;exact hv.1
 obtain ⟨k,e1,hg⟩:=BZ hv
 obtain ⟨bs,ck,dN,cy⟩:=hR.toX hb
 obtain ⟨es,q1,q2,_⟩:=Lm cy (b:=b) (k:=k) (kvs:=kvs) (bs:=bs) (ck:=ck) (by rw[FS.a7,if_pos rfl]) hg
 have bX:b≠s.n:=by rintro rfl;rw[hb]at hf;cases hf
 have bp:(s.fs.aK b (.bl kvs bs ck)).H s.n=.free:=by rw[FS.a7,if_neg bX];exact hf
 have bV:=cy.new (.mapIter (some k) ck #[] ck) bp (x:=.iter b ck []) trivial fun g' fh=>.iter (heap_alloc_new w _) (by rw[fh b (by rw[hg];intro x;cases x)];exact hg)
 refine Yz (Jz bm) ?_
 have dJ:(execOp a.eval io).run P w=.ok (.value (.pointer (some ⟨w.heap.size,0,none⟩))) (w.alloc (.mapIter (some k) ck #[] ck)):=by
  unfold execOp
  simp[bh,Instr.range,run_underlying hu,e1,getObj,newObj,Sem.run,Sem.run_bind,q1]
 unfold Oper.wp
 rw[dJ]
 show K' (a.put io.dst _) _
 rw[bc]
 refine hK (Zf g s.n (.re w.heap.size)) _ _ _ (h bs ck dN) ?_
 rw[St.bS,St.gR,St.cK]
 exact bV.put (by simpa using hd) (.ptr (by simp[Zf]))
theorem Xvc {w:World} {k:Nat} {m:Option Nat} {s0 c0:Nat} {se:Array Nat} (o':Obj) (hk:w.heap[k]?=some (.mapIter m s0 se c0)):Fr w (ChangeMaps.setBlock w k o') (fun i=>i=k) :=
 ⟨rfl,rfl,rfl,by simp[ChangeMaps.setBlock],fun i _ bX=>by simp only[ChangeMaps.setBlock,Array.getElem?_setIfInBounds];rw[if_neg fun e=>bX e.symm],fun i cur e fz hi=>by
  by_cases h:i=k
  ·subst h;rw[hk]at hi;cases hi
  ·exact ⟨cur,by simp only[ChangeMaps.setBlock,Array.getElem?_setIfInBounds];rw[if_neg fun e=>h e.symm];exact hi,rfl⟩⟩
theorem R0 {r0:List bF} {K:St→Prop} {s:St} {d:Nat} {x:TV} {bi b ck:Nat} {seen bs:List Nat} {kvs:List (AV × AV)} (hx:aZ c.gl s.fs x=.ptr bi 0) (hi:s.fs.H bi=.iter b ck seen) (hb:s.fs.H b=.bl kvs bs ck)
  (h0:(∀ i,i < kvs.length→bs.getD i 0 ∈ seen)→XP P c r0 K (s.put d (.aX [.bool false])))
  (h1:∀ i,i < kvs.length→bs.getD i 0 ∉ seen→XP P c r0 K ((s.aK bi (.iter b ck (seen++[bs.getD i 0]))).put d (.aX [.bool true,(kvs.getD i (.any,.any)).1,(kvs.getD i (.any,.any)).2]))):Yl P c (.pd (some d) .b8 [x] none) r0 K s:=by
 refine .inr fun ops io he g a w hR K' Q' hK=>?_
 obtain ⟨bm,bc,hd,ys,aJ,mC⟩:=Zt he
 obtain ⟨y,bh,rfl⟩:=Xua aJ
 obtain rfl:x=aT y:=by simpa using mC
 have hv:=Yp (hR.aG [y]) (by
  show Qv none (aG c.gl s.fs [aT y])
  simp only[aG,List.map_cons,List.map_nil,hx]
  simp[Qv,eL])
 have hv:VR g (Qo c g s.fs) w (.ptr bi 0) (a.eval y):=by
  have e:(aG c.gl s.fs ([y].map aT)).map Qk=[.ptr bi 0]:=by
   show [Qk (aZ c.gl s.fs (aT y))]=_
   rw[hx];rfl
  rw[e]at hv;exact hv.1
 obtain ⟨k,e1,hg⟩:∃ k,a.eval y=.pointer (some ⟨k,0,none⟩)∧g bi=.re k:=by
  generalize a.eval y=u at hv
  cases hv;exact ⟨_,rfl,by assumption⟩
 obtain ⟨m,q1,b7⟩:=RY hR hi hg
 obtain ⟨es,p1,p2,p3,p4,p5,p6,p7,p8⟩:=Lm hR hb b7
 refine Yz (Jz bm) ?_
 have dJ:=run_next_at (P:=P) w io.type k m ck ck seen.toArray es ck q1 p1 (fun x hx=>by
  obtain ⟨j,hj,rfl⟩:=List.getElem_of_mem hx
  have fB:j < es.size:=by simpa using hj
  have:=p5 j fB
  simp only[Array.getD_eq_getD_getElem?,Array.getElem?_eq_getElem fB,Option.getD_some]at this
  simpa using this) (Nat.le_refl _)
 have np:∀ r w',(Instr.next (.pointer (some ⟨k,0,none⟩)) false io.type).run P w=.ok r w'→(execOp a.eval io).run P w=.ok (.value r) w':=fun r w' h=>by
  unfold execOp
  simp only[bh,e1]
  exact Zw h
 unfold Oper.wp
 rcases dJ with ⟨hz,hr⟩|⟨e,lD,w1,mL,hr⟩
 ·rw[np _ _ hr]
  show K' (a.put io.dst _) _
  rw[bc]
  refine hK g _ _ _ (h0 fun i hi=>?_) (by
   rw[St.bS]
   refine hR.put (by simpa using hd) (.aX rfl fun j hj=>?_)
   have:j=0:=by simp at hj;omega
   subst this;exact .bool _)
  ·have hl:leftOf es seen.toArray=#[]:=Array.eq_empty_of_size_eq_zero hz
   have jO:i < es.size:=by omega
   have:=Array.filter_eq_empty_iff.1 hl es[i] (Array.getElem_mem jO)
   have bJ:=p7 i jO
   simp only[Array.getD_eq_getD_getElem?,Array.getElem?_eq_getElem jO,Option.getD_some]at bJ
   rw[← bJ]
   simpa using this
 ·obtain ⟨Da,Ln⟩:e ∈ es.toList∧e.born ∉ seen:=by
   unfold leftOf at lD
   simp at lD
   exact ⟨by simpa using lD.1,lD.2⟩
  obtain ⟨i,mr,rfl⟩:=List.getElem_of_mem Da
  have jO:i < es.size:=by simpa using mr
  have heq:es.toList[i]=es.getD i default:=by simp[Array.getD_eq_getD_getElem?,jO]
  have R1:=p7 i jO
  rw[heq]at Ln hr
  rw[R1]at Ln
  rw[np _ _ hr]
  show K' (a.put io.dst _) _
  rw[bc]
  have hRw:R c g s.fs a w1:=by
   rcases mL with rfl|rfl
   ·exact hR
   ·exact hR.grow (Fr.drew w _)
  have R2:w1.heap[k]?=some (.mapIter (some m) ck seen.toArray ck):=by rcases mL with rfl|rfl<;>exact q1
  have aP:(s.fs.H bi).live:=by rw[hi];trivial
  have iO:=Ua R2
  have vh:Qo c g s.fs k:=.inr ⟨bi,aP,hg⟩
  have hf:=Xvc (.mapIter (some m) ck (seen.toArray.push (es.getD i default).born) ck) R2
  have j9:=hRw.setBlock (x:=.iter b ck (seen++[bs.getD i 0])) hg aP trivial hf (.iter (m:=m) (by
   rw[R1,← List.push_toArray]
   simp[ChangeMaps.setBlock,iO]) b7)
  refine hK g _ _ _ (h1 i af Ln) (by
   rw[St.bS,St.cK]
   refine j9.put (by simpa using hd) (.aX rfl fun j hj=>?_)
   have hm:∀ {x v},VR g (Qo c g s.fs) w x v→VR g (Qo c g (s.fs.aK bi (.iter b ck (seen++[bs.getD i 0])))) (ChangeMaps.setBlock w1 k (.mapIter (some m) ck (seen.toArray.push (es.getD i default).born) ck)) x v:=fun h =>
    (h.mono (w':=w1) (W':=Qo c g s.fs) (by rcases mL with rfl|rfl;exact Fr.refl _ _;exact Fr.drew _ _) (fun _ _ h=>h) (fun _ _=>rfl)).C2 aP trivial (hf.weak fun q hq=>by rw[hq];exact hg)
   have hj3:j < 3:=hj
   rcases (by omega:j=0∨j=1∨j=2) with rfl|rfl|rfl
   ·exact .bool _
   ·exact hm (p3 i af)
   ·exact hm (p4 i af))
theorem R3 {r0:List bF} {K:St→Prop} {s:St} {d:Nat} {x:TV} {bi b ck i:Nat} {seen bs:List Nat} {kvs:List (AV × AV)} (hx:aZ c.gl s.fs x=.ptr bi 0) (hi:s.fs.H bi=.iter b ck (seen++[bs.getD i 0])) (hb:s.fs.H b=.bl kvs bs ck) (cJ:i < kvs.length)
  (h:XP P c r0 K (s.put d (.aX [(kvs.getD i (.any,.any)).1,(kvs.getD i (.any,.any)).2]))):Yl P c (.pd (some d) .IV [x] none) r0 K s:=by
 refine .inr fun ops io he g a w hR K' Q' hK=>?_
 obtain ⟨bm,bc,hd,ys,aJ,mC⟩:=Zt he
 obtain ⟨y,bh,rfl⟩:=Xu6 aJ
 obtain rfl:x=aT y:=by simpa using mC
 have hv:=Yp (hR.aG [y]) (by
  show Qv none (aG c.gl s.fs [aT y])
  simp only[aG,List.map_cons,List.map_nil,hx]
  simp[Qv,eL])
 have hv:VR g (Qo c g s.fs) w (.ptr bi 0) (a.eval y):=by
  have e:(aG c.gl s.fs ([y].map aT)).map Qk=[.ptr bi 0]:=by
   show [Qk (aZ c.gl s.fs (aT y))]=_
   rw[hx];rfl
  rw[e]at hv;exact hv.1
 obtain ⟨k,e1,hg⟩:∃ k,a.eval y=.pointer (some ⟨k,0,none⟩)∧g bi=.re k:=by
  generalize a.eval y=u at hv
  cases hv;exact ⟨_,rfl,by assumption⟩
 obtain ⟨m,q1,b7⟩:=RY hR hi hg
 obtain ⟨es,p1,p2,p3,p4,p5,p6,p7,p8⟩:=Lm hR hb b7
 have jO:i < es.size:=by omega
 refine Yz (Jz bm) ?_
 have dJ:=run_entry_at (P:=P) w k m ck seen.toArray es ck (es.getD i default) (by rw[p7 i jO,List.push_toArray];exact q1) p1 (by
  rw[← vq]
  have:i < es.toList.length:=by simpa using jO
  simp only[List.getD,List.getElem?_eq_getElem this,Option.getD_some]
  exact List.getElem_mem _) (by
  rw[List.nodup_iff_pairwise_ne,List.pairwise_iff_getElem]
  intro x y R4 Lp hxy
  simp only[List.length_map,Array.length_toList]at R4 Lp
  have:=p6 x y hxy Lp
  simp only[List.getElem_map,Array.getElem_toList]
  simp only[Array.getD_eq_getD_getElem?,Array.getElem?_eq_getElem R4,Array.getElem?_eq_getElem Lp,Option.getD_some]at this
  omega)
 have np:(execOp a.eval io).run P w=.ok (.value (.tuple #[(es.getD i default).key,(es.getD i default).val])) w:=by
  unfold execOp
  simp only[bh,e1]
  exact Zw dJ
 unfold Oper.wp
 rw[np]
 show K' (a.put io.dst _) _
 rw[bc]
 refine hK g _ _ _ h (by
  rw[St.bS]
  refine hR.put (by simpa using hd) (.aX rfl fun j hj=>?_)
  have fB:j < 2:=hj
  rcases (by omega:j=0∨j=1) with rfl|rfl
  ·exact p3 i cJ
  ·exact p4 i cJ)
end
end Go.Proofs.YtogckmommodmhaaGreatDoor
