import Derived.Test.YtogckmommodmhaaGreatDoorZt4
import Derived.Test.YtogckmommodmhaaGreatDoorZt1
import Derived.Test.YtogckmommodmhaaGreatDoorZt2
import Derived.KernelRfl
import Derived.Test.YtogckmommodmhaaGreatDoorChecked
import Derived.LaidMore
import Derived.Stop.Joined
set_option maxHeartbeats 16000000
namespace Go.Proofs.YtogckmommodmhaaGreatDoor
open Go.RowKit
set_option linter.all false
set_option linter.unusedSimpArgs false
set_option maxRecDepth 100000
section
variable {P:Program} {c:Cx} {ops:Array Oper} {io:Oper}
theorem Q6 (s:FS) (kb:Option Nat) (i:Nat):(s.cz kb).T i=s.T i:=by cases kb<;>rfl
theorem Q7 (s:FS) (kb:Option Nat) (j:Nat):(s.cz kb).H j=if kb=some j then .dead else s.H j:=by
 cases kb with
 | none=>rfl
 | some b=>simp only[FS.cz,FS.a7,Option.some.injEq]
theorem Ybe {s s2:FS} {nm d:Nat} {kb:Option Nat} {X:Bk} {V:AV} {rt rb:List Nat}:dh s2 (((s.cz kb).aK nm X).put d V) ⟨rt,rb,[d],nm::kb.toList⟩=((s2.cz kb).aK nm X).put d V:=by
 refine pA (fun i=>?_) fun j=>?_
 ·show (if i ∈ [d] then _ else _)=_
  simp only[FS.de,List.mem_singleton]
  by_cases h:i=d
  ·subst h;simp
  ·rw[if_neg h,if_neg fun e=>h e.symm];show _=(s2.cz kb).T i;rw[Q6]
 ·show (if j ∈ nm::kb.toList then (((s.cz kb).aK nm X).put d V).H j else s2.H j)=_
  simp only[FS.qh,FS.a7,Q7,List.mem_cons,Option.mem_toList]
  by_cases h:nm=j
  ·subst h;simp
  ·simp only[if_neg h,if_neg (fun e:j=nm=>h e.symm),false_or,(fun e=>h e.symm:¬ j=nm)]
   by_cases hk:kb=some j
   ·subst hk;simp
   ·have I6:¬ j ∈ kb:=fun e=>hk e
    simp[hk,I6]
    exact fun e=>absurd e.symm h
theorem FX {s:FS} {nm d:Nat} {kb:Option Nat} {X:List AV} {V:AV} {rt rb:List Nat} (hg:io.guard=none) (bc:io.dst=some d) (hd:d < c.N)
  (core:∀ s2:FS,(∀ i ∈ rt,s2.T i=s.T i)→(∀ b ∈ rb,s2.H b=s.H b)→∀ g a w,R c g s2 a w→∃ g' v' w',(execOp a.eval io).run P w=.ok (.value v') w'∧R c g' ((s2.cz kb).aK nm (.cells X)) a w'∧VR g' (Qo c g' ((s2.cz kb).aK nm (.cells X))) w' V v') :
  n7 P c ops io s ⟨rt,rb,[d],nm::kb.toList⟩ (((s.cz kb).aK nm (.cells X)).put d V):=by
 refine ⟨fun i hi=>?_,fun j hj=>?_,fun s2 hT hH g a w hR K Q' hK=>Yz hg ?_⟩
 ·rw[FS.de,if_neg (fun e=>hi (by simp[e]))];exact Q6 s kb i
 ·rw[FS.qh,FS.a7,Q7,if_neg (fun e=>hj (by simp[e])),if_neg (fun e=>hj (by simp[e]))]
 ·obtain ⟨g',v',w',hr,bb,hv⟩:=core s2 hT hH g a w hR
  unfold Oper.wp
  rw[hr]
  show K (a.put io.dst v') w'
  rw[bc]
  refine hK g' _ w' ?_
  rw[Ybe]
  exact bb.put hd hv
theorem Q8 {o:Oper} {es iI:Nat} {str:Bool} {xs:List Operand} (h:Yh P o=some (.app es iI str,xs)) :
  ∃ x y t u e i z,xs=[x,y]∧o.op=.call ⟨.builtin .append,⟨[x,y]⟩,⟨[t,u]⟩⟩∧P.underlying t=some (.slice e)∧P.info? e=some i∧i.zero=some z∧z.cells.size=i.size∧i.size=es∧i.bytes=iI∧(u=t∨P.underlying u=some .string):=by
 unfold Yh at h
 repeat' split at h
 all_goals first
  | (cases h;exact ⟨_,_,_,_,_,_,_,rfl,by assumption,by assumption,by assumption,by assumption,(by rename_i hc _;exact hc.1),rfl,rfl,.inl (by assumption)⟩)
  | (cases h;exact ⟨_,_,_,_,_,_,_,rfl,by assumption,by assumption,by assumption,by assumption,(by rename_i hc _ _ _;exact hc.1),rfl,rfl,.inr (by assumption)⟩)
  | (simp at h;done)
  | (cases h;done)
  | (simp[Option.map_eq_some_iff]at h;done)
  | trace_state
def FY (s:FS) (es iI:Nat) (str:Bool) (nm:Nat):List AV→Prop
 | [vb,vx]=>tD s es vb∧lg s es str vx∧s.H nm=.free∧Xk vb + Xk vx≤9223372036854775807∧(Xk vb + Xk vx) * iI≤140737488355328
 | _=>False
def J5 (es nm:Nat):List AV→AV
 | [vb,vx]=>.sl es nm 0 (Xk vb + Xk vx) (Xk vb + Xk vx)
 | _=>.any
def Cw (s:FS) (es:Nat):List AV→List AV
 | [vb,vx]=>Xy s es vb++Xy s es vx
 | _=>[]
def FZ:List AV→Option Nat
 | vb::_=>jy vb
 | []=>none
def Cy:List AV→List Nat
 | [vb,vx]=>(jy vb).toList++(jy vx).toList
 | _=>[]
def St.cz (s:St):Option Nat→St
 | some b=>s.aK b .dead
 | none=>s
theorem St.qo (s:St) (kb:Option Nat):(s.cz kb).fs=s.fs.cz kb:=by
 cases kb with
 | none=>rfl
 | some b=>exact St.cK _ _ _
theorem St.tF (s:St) (kb:Option Nat):(s.cz kb).n=s.n:=by cases kb<;>rfl
theorem F4 {s s2:FS} {es:Nat} {x:AV} (h:∀ b,jy x=some b→s2.H b=s.H b):Xy s2 es x=Xy s es x:=by
 cases x<;>simp only[Xy]
 rename_i b o n cc
 rw[h _ rfl]
theorem Q9 {s s2:FS} {es:Nat} {str:Bool} {x:AV} (h:∀ b,jy x=some b→s2.H b=s.H b) (ok:lg s es str x):lg s2 es str x:=by
 cases x<;>simp only[lg]at ok ⊢<;>try exact ok
 rw[h _ rfl];exact ok
theorem Qxm {s s2:FS} {es:Nat} {x:AV} (h:∀ b,jy x=some b→s2.H b=s.H b) (ok:tD s es x):tD s2 es x:=by
 cases x<;>simp only[tD]at ok ⊢<;>try exact ok
 rw[h _ rfl];exact ok
def F5 (s:St) (gl:Nat→AV) (d:Nat) (xs:List TV):bq:=⟨Xp xs,s.n::Cy ((aG gl s.fs xs).map Qk),[d],s.n::(FZ ((aG gl s.fs xs).map Qk)).toList⟩
def Cz (s:St) (gl:Nat→AV) (d es:Nat) (xs:List TV):St:=((s.cz (FZ ((aG gl s.fs xs).map Qk))).nw (.cells (Cw s.fs es ((aG gl s.fs xs).map Qk)))).put d (J5 es s.n ((aG gl s.fs xs).map Qk))
theorem Ra {s:St} {d es iI:Nat} {str:Bool} {xs:List TV} (hc:Qv none (aG c.gl s.fs xs)) (aU:FY s.fs es iI str s.n ((aG c.gl s.fs xs).map Qk)) :
  Ky P c (.pd (some d) (.app es iI str) xs none) s.fs (F5 s c.gl d xs) (Cz s c.gl d es xs).fs:=by
 intro ops io he
 obtain ⟨bm,bc,hd,ys,aJ,rfl⟩:=Zt he
 obtain ⟨x,y,t,u,e,i,z,rfl,bh,hu,hi,hz,ky,c5,qn,J6⟩:=Q8 aJ
 have fM:(aG c.gl s.fs ([x,y].map aT)).map Qk=[Qk (aZ c.gl s.fs (aT x)),Qk (aZ c.gl s.fs (aT y))]:=rfl
 unfold F5 Cz
 rw[fM]at aU ⊢
 generalize hvb:Qk (aZ c.gl s.fs (aT x))=vb at *
 generalize Rb:Qk (aZ c.gl s.fs (aT y))=vx at *
 obtain ⟨FV,xi,bp,py,hb⟩:=aU
 rw[St.bS,St.gR,St.qo,St.tF]
 simp only[FZ,Cw,J5,Cy]
 refine FX (Jz bm) bc (by simpa using hd) fun s2 hT hH g a w hR=>?_
 have bn:aG c.gl s2 ([x,y].map aT)=aG c.gl s.fs ([x,y].map aT):=Yj hT
 have fo:=Yp (hR.aG [x,y]) (by rw[bn];exact hc)
 rw[bn,fM]at fo
 obtain ⟨v1,v2,_⟩:=fo
 have sm:∀ b,jy vb=some b→s2.H b=s.fs.H b:=fun b h=>hH b (by simp[h])
 have CA:∀ b,jy vx=some b→s2.H b=s.fs.H b:=fun b h=>hH b (by simp[h])
 obtain ⟨g',v',w',hr,h1,h2⟩:=Xt5 (P:=P) (ty:=io.type) hR (nm:=s.n) (by rw[hH _ au];exact bp) hu J6 hi hz c5 (ky.trans c5) v1 v2 (Qxm sm FV) (Q9 CA xi) (by unfold maxLen;omega) (by rw[qn];exact hb)
 rw[F4 sm,F4 CA]at h1 h2
 refine ⟨g',v',w',?_,h1,h2⟩
 unfold execOp
 simp only[bh,resolve,invoke,builtin,Sem.run_bind,Sem.run_pure,Result.andThen_ok,List.map_toArray,List.map_cons,List.map_nil,hr]
theorem z7 {r0:List bF} {K:St→Prop} {s:St} {d es iI:Nat} {str:Bool} {xs:List TV} (h:Qv none (aG c.gl s.fs xs)∧FY s.fs es iI str s.n ((aG c.gl s.fs xs).map Qk)∧XP P c r0 K (Cz s c.gl d es xs)) :
  Yl P c (.pd (some d) (.app es iI str) xs none) r0 K s:=.inl ⟨_,_,Ra h.1 h.2.1,h.2.2⟩
theorem z8 {anc:List Nat} {fs:List bq} {r0:List bF} {K:St→Prop} {s:St} {d es iI:Nat} {str:Bool} {xs:List TV} (h:Qv none (aG c.gl s.fs xs)∧FY s.fs es iI str s.n ((aG c.gl s.fs xs).map Qk)∧XD P c anc r0 (F5 s c.gl d xs::fs) K (Cz s c.gl d es xs)) :
  Zr P c anc (.pd (some d) (.app es iI str) xs none) r0 fs K s:=⟨_,_,Ra h.1 h.2.1,h.2.2⟩
theorem Xkf (v:List (Value × Nat)):∀ (off:Nat) (cs:Array Value),(v.foldl (fun cs (c,j)=>cs.setIfInBounds (off + j) c) cs).size=cs.size:=by
 induction v with
 | nil=>intro off cs;rfl
 | cons p v ih=>intro off cs;rw[List.foldl_cons,ih];simp
theorem Rc {place:Nat→Option (Nat × Nat)}:∀ (l:List (Nat × Value)) (cells cells':Array Value),Instr.fill place cells l=some cells'→cells'.size=cells.size
 | [],cells,cells',h=>by simp[Instr.fill]at h;rw[h]
 | (i,v)::l,cells,cells',h=>by
  unfold Instr.fill at h
  split at h
  ·cases h
  ·split at h
   ·cases h
   ·rw[Rc l _ _ h]
    rw[← Array.foldl_toList]
    exact Xkf _ _ _
theorem Qoo {place:Nat→Option (Nat × Nat)} {cells cells':Array Value} {l:List (Nat × Value)} (h:Instr.fill place cells l=some cells'):cells'.size=cells.size:=Rc l cells cells' h
def j8:Nat→List AV→List AV
 | 0,_=>[]
 | n + 1,z=>z++j8 n z
theorem Re (z:List AV):∀ n,(j8 n z).length=n * z.length
 | 0=>by simp[j8]
 | n + 1=>by simp[j8,Re z n,Nat.add_mul];omega
theorem Rf (z:List AV):∀ n j,j < n * z.length→(j8 n z).getD j .any=z.getD (j % z.length) .any
 | 0,j,h=>by simp at h
 | n + 1,j,h=>by
  simp only[j8,List.getD]
  by_cases hj:j < z.length
  ·rw[List.getElem?_append_left hj,Nat.mod_eq_of_lt hj]
  ·rw[List.getElem?_append_right af]
   have h2:j - z.length < n * z.length:=by rw[Nat.add_mul]at h;omega
   have ih:=Rf z n (j - z.length) h2
   simp only[List.getD]at ih
   rw[ih,← Nat.mod_eq_sub_mod af]
theorem Rg {o:Oper} {es len:Nat} {zs:List AV} {ps:List (Nat × Nat)} {xs:List Operand} (h:Yh P o=some (.wS es len zs ps,xs)) :
  ∃ t e i z parts,o.op=.buildSlice t len parts∧P.underlying t=some (.slice e)∧P.info? e=some i∧i.zero=some z∧z.cells.size=i.size∧0 < i.size∧z.cells.all (·.oneCell')=true∧len * i.size≤2 ^ 24∧len≤2 ^ 24 ∧
   es=i.size∧zs=z.cells.toList.map fg∧ps=parts.toList.map (fun p=>(p.1 * i.size,i.size))∧xs=parts.toList.map (·.2):=by
 unfold Yh at h
 repeat' split at h
 all_goals first
  | (simp only[Option.some.injEq,Prod.mk.injEq,PK.wS.injEq]at h;obtain ⟨⟨rfl,rfl,rfl,rfl⟩,rfl⟩:=h
     rename_i hc;exact ⟨_,_,_,_,_,by assumption,by assumption,by assumption,by assumption,hc.1,hc.2.1,hc.2.2.1,hc.2.2.2.1,hc.2.2.2.2,rfl,rfl,rfl,rfl⟩)
  | (simp at h;done)
  | (cases h;done)
  | (simp[Option.map_eq_some_iff]at h;done)
theorem Rh {s:St} {d es len:Nat} {zs:List AV} {ps:List (Nat × Nat)} {xs:List TV} (hc:Qv none (aG c.gl s.fs xs)) (hlen:0 < len) (bp:s.fs.H s.n=.free) (aU:Zb (j8 len zs).length ps ((aG c.gl s.fs xs).map Qk)) :
  Ky P c (.pd (some d) (.wS es len zs ps) xs none) s.fs ⟨Xp xs,[s.n],[d],[s.n]⟩ ((s.nw (.cells (Jc (j8 len zs) ps ((aG c.gl s.fs xs).map Qk)))).put d (.sl es s.n 0 len len)).fs:=by
 intro ops io he
 obtain ⟨bm,bc,hd,ys,aJ,rfl⟩:=Zt he
 obtain ⟨t,e,i,z,parts,bh,hu,hi,hz,ky,eF,so,h24,J7,rfl,rfl,rfl,rfl⟩:=Rg aJ
 rw[St.bS,St.gR]
 refine FX (kb:=none) (Jz bm) bc (by simpa using hd) fun s2 hT hH g a w hR=>?_
 have bn:=Yj (gl:=c.gl) hT
 have fo:=Yp (hR.aG (parts.toList.map (·.2))) (by rw[bn];exact hc)
 rw[bn]at fo
 have gY:s2.H s.n=.free:=by rw[hH _ au,bp]
 have J8:(z.cells.toList.map fg).length=i.size:=by simp[ky]
 have ft:(j8 len (z.cells.toList.map fg)).length=len * i.size:=by rw[Re,J8]
 have aV:((Array.range (len * i.size)).map (z.cells[· % z.cells.size]!)).size=len * i.size:=by simp
 have F6:∀ j,j < len * i.size→((Array.range (len * i.size)).map (z.cells[· % z.cells.size]!)).getD j undef=z.cells.getD (j % i.size) undef:=fun j hj=>by
  have hm:=Nat.mod_lt j eF
  simp[Array.getD_eq_getD_getElem?,hj,ky,hm]
 have h1z:∀ j,j < i.size→(z.cells.getD j undef).oneCell'=true:=fun j hj=>by
  have:=Array.all_eq_true.1 so j af
  simpa [Array.getD_eq_getD_getElem?,show j < z.cells.size by omega] using this
 have hgz:∀ j,j < i.size→(z.cells.toList.map fg).getD j .any=fg (z.cells.getD j undef):=fun j hj=>by
  simp[List.getD,Array.getD_eq_getD_getElem?,show j < z.cells.size by omega]
 obtain ⟨cells',f1,f2⟩:=IN (g:=g) (W:=Qo c g s2) (w:=w) (place:=fun j=>some (j * i.size,i.size)) (parts.toList.map fun (p:Nat × Operand)=>(p.1 * i.size,i.size)) (parts.toList.map (fun (p:Nat × Operand)=>p.1)) au fo au (cs:=j8 len (z.cells.toList.map fg)) (cells:=(Array.range (len * i.size)).map (z.cells[· % z.cells.size]!)) aU (by rw[aV,ft])
  (fun j hj=>by rw[ft]at hj;rw[F6 j hj];exact h1z _ (Nat.mod_lt _ eF)) (fun j hj=>by
   rw[ft]at hj
   rw[F6 j hj,Rf _ _ _ (by rw[J8];exact hj),J8,hgz _ (Nat.mod_lt _ eF)]
   exact Fm _)
 obtain ⟨us,eu,q1,q2,q3⟩:=Uc f2
 cases eu
 have Fz:(parts.map fun (p:Nat × Operand)=>(p.1,a.eval p.2)).toList=(parts.toList.map (·.1)).zip ((parts.toList.map (·.2)).map a.eval):=by
  simp only[Array.toList_map]
  induction parts.toList with
  | nil=>rfl
  | cons p l ih=>simp[ih]
 have iw:(Jc (j8 len (z.cells.toList.map fg)) (parts.toList.map fun p=>(p.1 * i.size,i.size)) ((aG c.gl s.fs ((parts.toList.map (·.2)).map aT)).map Qk)).length=len * i.size:=by
  rw[← q1]
  have:=Qoo f1
  rw[this,aV]
 have hr:=run_buildSlice (P:=P) w t e len (parts.map fun (j,x)=>(j,a.eval x)) cells' i z hu hi hz af (Nat.ne_of_gt (Nat.mul_pos hlen eF)) (by rw[← Fz]at f1;exact f1)
 have fy:∀ k,Qo c g s2 k→k < w.heap.size:=by
  rintro k (h|⟨b',hl,fh⟩)
  ·have:=(hR.xs k h).1;have:=hR.fr.size;omega
  ·exact BR.lt (fh ▸ hR.h b') hl
 have bN:=heap_alloc_new w (.cells cells' e)
 have bb:=hR.new (b:=s.n) (x:=.cells (Jc (j8 len (z.cells.toList.map fg)) (parts.toList.map fun p=>(p.1 * i.size,i.size)) ((aG c.gl s.fs ((parts.toList.map (·.2)).map aT)).map Qk))) (.cells cells' e) gY trivial fun g' fh =>
  .cells (cur:=cells') (e:=e) (fz:=(0,0)) bN af q2 (fun j hj=>(q3 j hj).mono (Fr.alloc w _ _) (fun k hk h=>h.resolve_right af) fh) (.inl rfl)
 refine ⟨_,_,_,?_,bb,.sl (k:=w.heap.size) (e:=e) (cur:=cells') (fz:=(0,0)) Cu (Nat.le_refl _) (Nat.le_refl _) (by unfold maxLen;omega) bN (by rw[q1,iw];omega)⟩
 unfold execOp
 simp only[bh,Sem.run_bind,hr,Result.andThen_ok,Sem.run_pure]
theorem Aa {r0:List bF} {K:St→Prop} {s:St} {d es len:Nat} {zs:List AV} {ps:List (Nat × Nat)} {xs:List TV} (h:Qv none (aG c.gl s.fs xs)∧0 < len∧s.fs.H s.n=.free∧Zb (j8 len zs).length ps ((aG c.gl s.fs xs).map Qk) ∧
  XP P c r0 K ((s.nw (.cells (Jc (j8 len zs) ps ((aG c.gl s.fs xs).map Qk)))).put d (.sl es s.n 0 len len))):Yl P c (.pd (some d) (.wS es len zs ps) xs none) r0 K s:=.inl ⟨_,_,Rh h.1 h.2.1 h.2.2.1 h.2.2.2.1,h.2.2.2.2⟩
theorem Ab {anc:List Nat} {fs:List bq} {r0:List bF} {K:St→Prop} {s:St} {d es len:Nat} {zs:List AV} {ps:List (Nat × Nat)} {xs:List TV} (h:Qv none (aG c.gl s.fs xs)∧0 < len∧s.fs.H s.n=.free∧Zb (j8 len zs).length ps ((aG c.gl s.fs xs).map Qk) ∧
  XD P c anc r0 (⟨Xp xs,[s.n],[d],[s.n]⟩::fs) K ((s.nw (.cells (Jc (j8 len zs) ps ((aG c.gl s.fs xs).map Qk)))).put d (.sl es s.n 0 len len))):Zr P c anc (.pd (some d) (.wS es len zs ps) xs none) r0 fs K s:=⟨_,_,Rh h.1 h.2.1 h.2.2.1 h.2.2.2.1,h.2.2.2.2⟩
theorem Xvj {o:Oper} {xs:List Operand} (h:Yh P o=some (.B7,xs)):∃ src dst e x,o.op=.convert src dst x∧P.underlying src=some .string∧P.underlying dst=some (.slice e)∧P.underlying e=some (.int .u8)∧xs=[x]:=by
 unfold Yh at h
 repeat' split at h
 all_goals first
  | (simp only[Option.some.injEq,Prod.mk.injEq,true_and]at h;subst h;exact ⟨_,_,_,_,by assumption,by assumption,by assumption,by assumption,rfl⟩)
  | (simp at h;done)
  | (cases h;done)
  | (simp[Option.map_eq_some_iff]at h;done)
def CB:AV→Prop
 | .str _=>True
 | _=>False
theorem Ri {s:St} {d:Nat} {x:TV} (hc:eL none (aZ c.gl s.fs x)) (bp:s.fs.H s.n=.free) (aU:CB (Qk (aZ c.gl s.fs x))∧(cL (Qk (aZ c.gl s.fs x))).length≤9223372036854775807) :
  Ky P c (.pd (some d) .B7 [x] none) s.fs ⟨Xp [x],[s.n],[d],[s.n]⟩ ((s.nw (.cells (Xo (cL (Qk (aZ c.gl s.fs x)))))).put d (.sl 1 s.n 0 (cL (Qk (aZ c.gl s.fs x))).length (cL (Qk (aZ c.gl s.fs x))).length)).fs:=by
 intro ops io he
 obtain ⟨bm,bc,hd,ys,aJ,mC⟩:=Zt he
 obtain ⟨src,dst,e,y,bh,hs,hdd,hee,rfl⟩:=Xvj aJ
 simp only[List.map_cons,List.map_nil,List.cons.injEq,and_true]at mC
 subst mC
 rw[St.bS,St.gR]
 refine FX (kb:=none) (Jz bm) bc (by simpa using hd) fun s2 hT hH g a w hR=>?_
 have jv:aZ c.gl s2 (aT y)=aZ c.gl s.fs (aT y):=by
  have:=Yj (gl:=c.gl) (xs:=[aT y]) hT
  simpa [aG] using this
 have hv:=Ca (hR.ev y) (by rw[jv];exact hc)
 rw[jv]at hv
 obtain ⟨h1,h2⟩:=aU
 generalize Qk (aZ c.gl s.fs (aT y))=v at *
 cases v<;>simp only[CB]at h1
 rename_i l
 simp only[cL]at h2 ⊢
 have gY:s2.H s.n=.free:=by rw[hH _ au,bp]
 generalize hy:a.eval y=uy at hv
 cases hv
 have hr:=run_bytes_of_string (P:=P) w src dst e ⟨l.toArray⟩ hs hdd hee
 have cd:(⟨l.toArray⟩:ByteArray).size=l.length:=rfl
 rw[cd]at hr
 generalize mD:grownCap w l.length 0 e=cap at hr
 have fy:l.length≤cap:=by rw[← mD];exact IA w _ _ _
 have hle:cap≤maxLen:=by rw[← mD];exact grownCap_le_maxLen w _ _ _ (by unfold maxLen;omega)
 have Rj:(bytesRow ⟨l.toArray⟩ cap).size=cap:=by simp[bytesRow,cd];omega
 have Rk:∀ j (hj:j < l.length),(bytesRow ⟨l.toArray⟩ cap).getD j undef=.int .u8 (l[j]).toNat:=fun j hj=>by
  have:=bytesRow_at ⟨l.toArray⟩ cap j (by simpa using hj)
  rw[Array.getD_eq_getD_getElem?,this];simp
 have z6:R c g s2 a w.drew:=hR.grow (Fr.drew w _)
 have iAa:∀ k,Qo c g s2 k→k < w.drew.heap.size:=by
  rintro k (h|⟨b',hl,fh⟩)
  ·have:=(z6.xs k h).1;have:=z6.fr.size;omega
  ·exact BR.lt (fh ▸ z6.h b') hl
 have bN:=heap_alloc_new w.drew (.cells (bytesRow ⟨l.toArray⟩ cap) e ((bytesRow ⟨l.toArray⟩ cap).size,(bytesRow ⟨l.toArray⟩ cap).size + 1))
 have iw:(Xo l).length=l.length:=QH l
 have bb:=z6.new (b:=s.n) (x:=.cells (Xo l)) (.cells (bytesRow ⟨l.toArray⟩ cap) e ((bytesRow ⟨l.toArray⟩ cap).size,(bytesRow ⟨l.toArray⟩ cap).size + 1)) gY trivial fun g' fh=>by
  refine .cells (cur:=bytesRow ⟨l.toArray⟩ cap) (e:=e) bN (by rw[iw,Rj];exact fy) (fun j hj=>?_) (fun j hj=>?_) (.inr (Nat.le_refl _))
  ·rw[Rk j af];rfl
  ·rw[Rk j af,QI af]
   simp only[List.getD,List.getElem?_eq_getElem (show j < l.length by omega),Option.getD_some]
   exact .int _ _
 refine ⟨_,_,_,?_,bb,.sl (k:=w.heap.size) (e:=e) Cu (Nat.le_refl _) fy hle bN (by rw[Rj];omega)⟩
 unfold execOp
 simp only[bh,hy,Sem.run_bind,hr,Result.andThen_ok,Sem.run_pure]
theorem Ad {r0:List bF} {K:St→Prop} {s:St} {d:Nat} {x:TV} (h:eL none (aZ c.gl s.fs x)∧s.fs.H s.n=.free∧(CB (Qk (aZ c.gl s.fs x))∧(cL (Qk (aZ c.gl s.fs x))).length≤9223372036854775807) ∧
  XP P c r0 K ((s.nw (.cells (Xo (cL (Qk (aZ c.gl s.fs x)))))).put d (.sl 1 s.n 0 (cL (Qk (aZ c.gl s.fs x))).length (cL (Qk (aZ c.gl s.fs x))).length))):Yl P c (.pd (some d) .B7 [x] none) r0 K s:=.inl ⟨_,_,Ri h.1 h.2.1 h.2.2.1,h.2.2.2⟩
theorem Ae {anc:List Nat} {fs:List bq} {r0:List bF} {K:St→Prop} {s:St} {d:Nat} {x:TV} (h:eL none (aZ c.gl s.fs x)∧s.fs.H s.n=.free∧(CB (Qk (aZ c.gl s.fs x))∧(cL (Qk (aZ c.gl s.fs x))).length≤9223372036854775807) ∧
  XD P c anc r0 (⟨Xp [x],[s.n],[d],[s.n]⟩::fs) K ((s.nw (.cells (Xo (cL (Qk (aZ c.gl s.fs x)))))).put d (.sl 1 s.n 0 (cL (Qk (aZ c.gl s.fs x))).length (cL (Qk (aZ c.gl s.fs x))).length))):Zr P c anc (.pd (some d) .B7 [x] none) r0 fs K s:=⟨_,_,Ri h.1 h.2.1 h.2.2.1,h.2.2.2⟩
end
theorem Xhh (s:FS) (es m:Nat) (ds:List AV):Xy s es (.isl m ds)=ds.take (m * es):=rfl
theorem Xnx (s:FS) (es es2 b o m c:Nat):Xy s es (.sl es2 b o m c)=((Yw (s.H b)).drop o).take (m * es):=rfl
theorem Xd5 (s:FS) (es:Nat) (l:List UInt8):Xy s es (.str l)=Xo l:=rfl
theorem Qyj (s:FS) (es:Nat):Xy s es .nils=[]:=rfl
theorem Qyi (s:FS) (es m:Nat) (b:Bool) (ds:List AV):lg s es b (.isl m ds)=(b=false∧m * es≤ds.length):=rfl
theorem Xh6 (s:FS) (es es2 k o m c:Nat) (b:Bool):lg s es b (.sl es2 k o m c)=(b=false∧es2=es∧o + m * es≤(Yw (s.H k)).length):=rfl
theorem Qys (s:FS) (es:Nat) (b:Bool) (l:List UInt8):lg s es b (.str l)=(b=true∧es=1):=rfl
theorem Xao (s:FS) (es:Nat) (b:Bool) (a:Option Addr) (c:Nat):lg s es b (.lit (.slice a 0 c))=(b=false):=by simp[lg,FR]
theorem Xcx (v:Value):Xk (.lit v)=0:=rfl
theorem Xi8 (v:Value):jy (.lit v)=none:=rfl
theorem Xdc (s:FS) (es:Nat) (v:Value):Xy s es (.lit v)=[]:=rfl
theorem Qv9 (s:FS) (es:Nat) (b:Bool):lg s es b .nils=(b=false):=rfl
theorem Xak (s:FS) (es es2 b o n c:Nat):tD s es (.sl es2 b o n c)=(es2=es∧o=0∧n * es≤(Yw (s.H b)).length∧(s.H b).live):=rfl
theorem Qsx (s:FS) (es:Nat):tD s es .nils=True:=rfl
theorem Xmg (es b o n c:Nat):jy (.sl es b o n c)=some b:=rfl
theorem Qyg:jy .nils=none:=rfl
theorem Xda (n:Nat) (cs:List AV):jy (.isl n cs)=none:=rfl
theorem Xi5 (l:List UInt8):jy (.str l)=none:=rfl
theorem Xxz (s:FS) (es iI nm:Nat) (b:Bool) (x y:AV):FY s es iI b nm [x,y]=(tD s es x∧lg s es b y∧s.H nm=.free∧Xk x + Xk y≤9223372036854775807∧(Xk x + Xk y) * iI≤140737488355328):=rfl
theorem Ydk (es nm:Nat) (x y:AV):J5 es nm [x,y]=.sl es nm 0 (Xk x + Xk y) (Xk x + Xk y):=rfl
theorem Ydj (s:FS) (es:Nat) (x y:AV):Cw s es [x,y]=Xy s es x++Xy s es y:=rfl
theorem Ydd (x:AV) (r:List AV):FZ (x::r)=jy x:=rfl
theorem Ye6 (x y:AV):Cy [x,y]=(jy x).toList++(jy y).toList:=rfl
theorem Ybu (s:St) (b:Nat):s.cz (some b)=s.aK b .dead:=rfl
theorem Ybh (s:St):s.cz none=s:=rfl
theorem Xyt (z:List AV):j8 0 z=[]:=rfl
theorem Xzn (n:Nat) (z:List AV):j8 (n + 1) z=z++j8 n z:=rfl
theorem Xzd (l:List UInt8):CB (.str l)=True:=rfl
theorem Yel (cs:List AV):(Bk.cells cs).live=True:=rfl
theorem J9 (l:List UInt8) (n:Int) (r:List AV):Xo l++(.int .u8 (IntKind.u8.wrap n)::r)=Xo (l++[UInt8.ofNat (IntKind.u8.wrap n).toNat])++r:=by
 have h0:0≤IntKind.u8.wrap n∧IntKind.u8.wrap n < 256:=by rw[IntKind.wrap_u8];omega
 generalize IntKind.u8.wrap n=k at h0 ⊢
 simp[Xo];omega
theorem Xl5 {l:List UInt8} {n:Int} {r:List AV} (h0:0≤n) (h1:n < 256):Xo l++(.int .u8 n::r)=Xo (l++[UInt8.ofNat n.toNat])++r:=by
 simp[Xo];omega
theorem Xtk:Xo []=[]:=rfl
theorem Xsi:Qp []=[]:=rfl
theorem Xo2 {l:List Int} {n:Int} {r:List AV}:Qp l++(.int .i64 n::r)=Qp (l++[n])++r:=by simp[Qp]
attribute [go_sem] J3 Xx6 Xu7 Xot Xhh Xnx Xd5 Qyj Qyi Xh6 Qys Qv9 Xao Xcx Xi8 Xdc Xak Qsx Xmg Qyg Xda Xi5 Xxz Ydk Ydj Ydd Ye6 Ybu Ybh Xyt Xzn Xzd Yel J9 Xl5 Xo2 Xtk Xsi F5 Cz List.append_nil List.length_append Xtf Xus
def Jy (r:AV):Prop:=∀ (g g':Nat→GM) (W W':Nat→Prop) (w w':World) (v:Value),VR g W w r v→VR g' W' w' r v
theorem Jy.int (k:IntKind) (n:Int):Jy (.int k n):=fun _ _ _ _ _ _ _ h=>by cases h;exact .int _ _
theorem Jy.bool (b:Bool):Jy (.bool b):=fun _ _ _ _ _ _ _ h=>by cases h;exact .bool _
theorem Jy.str (l:List UInt8):Jy (.str l):=fun _ _ _ _ _ _ _ h=>by cases h;exact .str _
theorem Jy.aX {cs:List AV} (h:∀ x ∈ cs,Jy x):Jy (.aX cs):=fun g g' W W' w w' v hv=>by
 obtain ⟨us,rfl,h1,h3⟩:=BY hv
 refine .aX h1 fun j hj=>?_
 refine h _ ?_ _ _ _ _ _ _ _ (h3 j hj)
 simp only[List.getD,List.getElem?_eq_getElem hj,Option.getD_some];exact List.getElem_mem hj
def Af:AV→List Nat
 | .sl _ b _ _ _=>[b]
 | _=>[]
def F7:AV→List Nat
 | .agg cs=>cs.flatMap Af
 | v=>Af v
theorem Rl {s s2:FS}:∀ {v:AV},(∀ b ∈ Af v,s2.H b=s.H b)→Yt s2 v=Yt s v:=fun {v} h=>by
 cases v<;>simp only[Yt]
 rw[h _ (by simp[Af])]
theorem Xhg {s s2:FS} {v:AV} (h:∀ b ∈ F7 v,s2.H b=s.H b):Zc s2 v=Zc s v:=by
 cases v<;>simp only[Zc]
 case agg cs =>
  congr 1
  refine List.map_congr_left fun x hx=>Rl fun b hb=>h b ?_
  simp only[F7,List.mem_flatMap];exact ⟨x,hx,hb⟩
 all_goals exact Rl h
section
variable {P:Program} {c:Cx}
def tG (s:FS) (gl:Nat→AV) (d:Option Nat) (xs:List TV) (gd:Option (Nat × Bool)):bq:=⟨jL gd++Xp xs,((aG gl s xs).map Qk).flatMap F7,d.toList,[]⟩
theorem Rm {g g':Nat→GM} {W W':Nat→Prop} {w:World} {f:AV→AV}:∀ {xs:List AV} {vs:List Value},bL g W w xs vs→(∀ x ∈ xs,∀ v,VR g W w x v→VR g' W' w (f x) v)→bL g' W' w (xs.map f) vs
 | [],[],_,_=>trivial
 | x::xs,v::vs,h,k=>⟨k x au v h.1,Rm h.2 fun y hy=>k y (by simp[hy])⟩
 | [],_::_,h,_=>h.elim
 | _::_,[],h,_=>h.elim
theorem Rn {s:St} {d:Option Nat} {f:FuncId} {xs:List TV} {gd:Option (Nat × Bool)} {args:List AV} {r:AV} (aU:Uh c.gl s.fs xs gd) (aM:((aG c.gl s.fs xs).map Qk).map (Zc s.fs)=args) (eM:ai 0 args) (kz:Jy r)
  (dK:ob (gB s.fs gd) (PS P c.gl f args r)):Ky P c (.pd d (.call f) xs gd) s.fs (tG s.fs c.gl d xs gd) (s.bQ d (cw (gB s.fs gd) r)).fs:=by
 intro ops io he
 obtain ⟨bm,bc,hd,ys,aJ,rfl⟩:=Zt he
 obtain ⟨ts,bh⟩:=xd aJ
 have eS:(s.bQ d (cw (gB s.fs gd) r)).fs=match d with|some d=>s.fs.put d (cw (gB s.fs gd) r)|none=>s.fs:=by
  cases d with
  | none=>rfl
  | some d=>exact St.bS _ _ _
 rw[eS]
 refine ⟨fun i hi=>?_,fun b _=>by cases d<;>rfl,?_⟩
 ·cases d with
  | none=>rfl
  | some d=>show (s.fs.put d _).T i=_;rw[FS.de,if_neg (fun e=>hi (by simp[tG,e]))]
 ·intro s2 hT hH g a w hR K Q' hK
  have bn:aG c.gl s2 (ys.map aT)=aG c.gl s.fs (ys.map aT):=Yj fun i hi=>hT i (by simp[tG,hi])
  have hg:∀ t b,gd=some (t,b)→s2.T t=s.fs.T t:=fun t b e=>hT t (by simp[tG,e,jL])
  have n8:gB s2 gd=gB s.fs gd:=by
   cases gd with
   | none=>rfl
   | some p=>obtain ⟨t,b⟩:=p;simp only[gB,hg t b rfl]
  have n9:fL s2 gd:=by
   have:=aU.1
   cases gd with
   | none=>exact this
   | some p=>obtain ⟨t,b⟩:=p;simpa only[fL,hg t b rfl] using this
  have l7:∀ v w',Fr w w' (fun _=>False)→VR g (Qo c g s2) w' (cw (gB s.fs gd) r) v→K (a.put io.dst v) w':=fun v w' hf hv=>by
   rw[bc]
   have bb:=hR.grow hf
   cases d with
   | none =>
    refine hK g _ w' ?_
    have:dh s2 s.fs (tG s.fs c.gl none (ys.map aT) gd)=s2:=by unfold dh tG;simp
    simp only[this];exact bb
   | some d =>
    refine hK g _ w' ?_
    show R c g (dh s2 (s.fs.put d _) ⟨jL gd++Xp (ys.map aT),_,[d],[]⟩) _ _
    rw[wV]
    exact bb.put (by simpa using hd) hv
  unfold mq
  rw[u6 bm hR n9,n8]
  have run:(∀ b,gB s.fs gd=some b→b=true)→io.wp P a w K Q':=by
   intro hb
   have m8:Qv none (aG c.gl s2 (ys.map aT)):=by
    rw[bn]
    have:=aU.2
    cases b7:gB s.fs gd with
    | none=>rw[b7]at this;exact this
    | some b=>rw[b7]at this;exact zL (hb b b7) this
   have qm:PS P c.gl f args r:=by
    cases b7:gB s.fs gd with
    | none=>rw[b7]at dK;exact dK
    | some b=>rw[b7]at dK;exact dK (hb b b7)
   have hv:=Yp (hR.aG ys) m8
   rw[bn]at hv
   have F6:∀ x ∈ (aG c.gl s.fs (ys.map aT)).map Qk,Zc s2 x=Zc s.fs x:=fun x hx=>Xhg fun b hb=>hH b (by simp only[tG,List.mem_flatMap];exact ⟨x,hx,hb⟩)
   have nX:bL (fun _=>.un) c.X w args (ys.map a.eval):=by
    rw[← aM]at eM ⊢
    refine Rm hv fun x hx v h=>?_
    have hn:=Xj.1 eM (Zc s.fs x) (List.mem_map_of_mem hx)
    rw[← F6 x hx]at hn ⊢
    exact JM hR h hn
   have hX:∀ k,c.X k→k < w.heap.size:=fun k h=>by have:=(hR.xs k h).1;have:=hR.fr.size;omega
   have fD:∀ i,VR (fun _=>.un) c.X w (c.gl i) (.pointer (some ⟨i,0,none⟩)):=fun i=>(hR.gl i).mono (Fr.refl _ _) (fun k _ h=>.inl h) (fun _ _=>rfl)
   have cN:=qm.2 w _ _ hX fD nX
   unfold Oper.wp
   rw[xe qm.1 bh]
   rw[Oper.upon_enter]
   refine cN.mono fun e w' ⟨v,e1,e2,e3⟩=>?_
   subst e1
   refine l7 v w' e3 ?_
   have fM:VR g (Qo c g s2) w' r v:=kz _ _ _ _ _ _ _ e2
   cases b7:gB s.fs gd with
   | none=>exact fM
   | some b=>exact .dp (fun _=>fM) fun h=>by rw[hb b b7]at h;cases h
  cases b7:gB s.fs gd with
  | none=>simp only[Option.getD_none,if_true];exact run fun b h=>by rw[b7]at h;cases h
  | some b =>
   cases b with
   | true=>simp only[Option.getD_some,if_true];exact run fun b h=>by rw[b7]at h;cases h;rfl
   | false =>
    simp only[Option.getD_some,Bool.false_eq_true,if_false]
    refine l7 undef w (Fr.refl _ _) ?_
    rw[b7]
    exact .dp (fun h=>by cases h) fun _=>rfl
theorem Wx {r0:List bF} {K:St→Prop} {s:St} {d:Option Nat} {f:FuncId} {xs:List TV} {gd:Option (Nat × Bool)} {args:List AV} {r:AV} (aM:((aG c.gl s.fs xs).map Qk).map (Zc s.fs)=args) (dK:PS P c.gl f args r) (kz:Jy r)
  (aU:Uh c.gl s.fs xs gd∧ai 0 args∧XP P c r0 K (s.bQ d (cw (gB s.fs gd) r))):Yl P c (.pd d (.call f) xs gd) r0 K s:=.inl ⟨_,_,Rn aU.1 aM aU.2.1 kz (xg dK),aU.2.2⟩
theorem Ku {anc:List Nat} {fs:List bq} {r0:List bF} {K:St→Prop} {s:St} {d:Option Nat} {f:FuncId} {xs:List TV} {gd:Option (Nat × Bool)} {args:List AV} {r:AV} (aM:((aG c.gl s.fs xs).map Qk).map (Zc s.fs)=args) (dK:PS P c.gl f args r) (kz:Jy r)
  (aU:Uh c.gl s.fs xs gd∧ai 0 args∧XD P c anc r0 (tG s.fs c.gl d xs gd::fs) K (s.bQ d (cw (gB s.fs gd) r))):Zr P c anc (.pd d (.call f) xs gd) r0 fs K s:=⟨_,_,Rn aU.1 aM aU.2.1 kz (xg dK),aU.2.2⟩
end
theorem Qzu (es b o n c:Nat):Af (.sl es b o n c)=[b]:=rfl
attribute [go_sem] tG Qzu Af F7 List.flatMap_cons List.flatMap_nil
section
variable {P:Program} {c:Cx} {g g':Nat→GM} {s:FS} {a:Act} {w w':World} {W W':Nat→Prop}
structure Fit (σ:Nat→Nat) (s:FS) (aI:List (Nat × Bk)) (m:Nat):Prop where
 mem:∀ p ∈ aI,p.1 < m∧bG m p.2∧s.H (σ p.1)=Xg σ p.2
 inj:∀ p ∈ aI,∀ q ∈ aI,σ p.1=σ q.1→p.1=q.1
def qq (g:Nat→GM) (σ:Nat→Nat) (aI:List (Nat × Bk)) (m:Nat) (k:Nat):Prop:=∃ b,(Qc aI m b).live∧g (σ b)=.re k
def Yfk (c:Cx) (g:Nat→GM) (s:FS) (G:Nat→Prop) (k:Nat):Prop:=Qo c g s k∧¬ G k
def pB (c:Cx) (g:Nat→GM) (s:FS) (w:World) (σ:Nat→Nat) (aI:List (Nat × Bk)) (m:Nat):Cx:=⟨0,w,qq g σ aI m,Yfk c g s (qq g σ aI m),c.gl,[]⟩
theorem Us {h:List (Nat × Bk)} {m b:Nat} (hl:(Qc h m b).live):∃ p ∈ h,p.1=b∧Qc h m b=p.2:=by
 rcases Zx h m b with e|e
 ·rw[e]at hl;split at hl<;>exact hl.elim
 ·exact e
open Classical in
theorem F8 {σ:Nat→Nat} {aI:List (Nat × Bk)} {m:Nat} (hR:R c g s a w) (fit:Fit σ s aI m):∃ g1:Nat→GM,(∀ b,b < m→g (σ b)≠.un→g (σ b)=g1 b) ∧
  R (pB c g s w σ aI m) g1 (⟨[],aI,m⟩:St).fs ⟨#[],[]⟩ w∧(∀ k,Qo (pB c g s w σ aI m) g1 (⟨[],aI,m⟩:St).fs k→Qo c g s k):=by
 let g1:Nat→GM:=fun b=>if b < m then (if g (σ b)=.un then .ph else g (σ b)) else .un
 have jz:∀ b,b < m→g (σ b)≠.un→g (σ b)=g1 b:=fun b hb h=>by simp only[g1,if_pos hb,if_neg h]
 have fy:∀ b,m≤b→g1 b=.un:=fun b hb=>by simp only[g1];rw[if_neg af]
 have bX:∀ b,b < m→g1 b≠.un:=fun b hb=>by
  simp only[g1,if_pos hb]
  split
  ·intro h;cases h
  ·assumption
 have dg:∀ b,(Qc aI m b).live→b < m∧(s.H (σ b)).live∧g1 b=g (σ b):=fun b hl=>by
  obtain ⟨p,hp,rfl,e⟩:=Us hl
  obtain ⟨h1,h2,h3⟩:=fit.mem p hp
  have dg:(s.H (σ p.1)).live:=by rw[h3,zR];exact Xf h2
  refine ⟨h1,dg,(jz _ h1 fun e=>?_).symm⟩
  have:=hR.h (σ p.1)
  rw[e]at this
  generalize s.H (σ p.1)=x at this dg
  exact this.fV dg
 have hW:∀ k,Qo (pB c g s w σ aI m) g1 (⟨[],aI,m⟩:St).fs k→Qo c g s k:=by
  rintro k (h|⟨b,h1,h2⟩)
  ·exact h.1
  ·obtain ⟨_,h4,h5⟩:=dg b h1
   exact .inr ⟨σ b,h4,by rw[← h5];exact h2⟩
 refine ⟨g1,jz,⟨rfl,rfl,fun i=>.any _,fun i=>(hR.gl i).mono (Fr.refl w _) (fun k _=>hW k) (fun _ _=>rfl),fun b=>?_,fun b b' k h1 h2 e1 e2=>?_,fun b k h1 e1=>?_,Fr.refl _ _,fun k hk=>⟨?_,hk.2⟩,fun p hp=>by cases hp⟩,hW⟩
 ·show BR g1 _ w _ (Qc aI m b)
  rcases Zx aI m b with h|⟨p,h1,rfl,h3⟩
  ·rw[h]
   split
   ·rename_i hb;exact .dead (bX b hb)
   ·rename_i hb;rw[fy b af];exact .free
  ·rw[h3]
   obtain ⟨q1,q2,q3⟩:=fit.mem p h1
   obtain ⟨_,_,e5⟩:=dg p.1 (by rw[h3];exact Xf q2)
   rw[e5]
   have dP:=hR.h (σ p.1)
   rw[q3]at dP
   exact dP.iK jz q2 hW
 ·obtain ⟨p1,om,rfl,_⟩:=Us h1
  obtain ⟨p2,fb,rfl,_⟩:=Us h2
  obtain ⟨_,l1,d1⟩:=dg _ h1
  obtain ⟨_,l2,d2⟩:=dg _ h2
  exact fit.inj p1 om p2 fb (hR.inj _ _ k l1 l2 (by rw[← d1];exact e1) (by rw[← d2];exact e2))
 ·obtain ⟨_,l1,d1⟩:=dg _ h1
  exact .inr ⟨b,h1,by rw[← d1];exact e1⟩
 ·rcases hk.1 with h|⟨b',hl,fh⟩
  ·have:=(hR.xs k h).1;have:=hR.fr.size;show k < w.heap.size;omega
  ·exact BR.lt (fh ▸ hR.h b') hl
def cW (h:List (Nat × Bk)) (n:Nat):FS:=(⟨[],h,n⟩:St).fs
def GS (P:Program) (gl:Nat→AV) (f:FuncId) (args:List AV) (aI:List (Nat × Bk)) (m:Nat) (r:AV) (ax:List (Nat × Bk)) (n:Nat):Prop :=
 zS P f∧∀ (w:World) (vs:List Value) (G X:Nat→Prop) (g:Nat→GM),R ⟨0,w,G,X,gl,[]⟩ g (cW aI m) ⟨#[],[]⟩ w→bL g (Qo ⟨0,w,G,X,gl,[]⟩ g (cW aI m)) w args vs →
  Calls P f vs.toArray w fun e w'=>∃ v g',e=.returned v∧R ⟨0,w,G,X,gl,[]⟩ g' (cW ax n) ⟨#[],[]⟩ w'∧(∀ b,b < m→g' b=g b)∧VR g' (Qo ⟨0,w,G,X,gl,[]⟩ g' (cW ax n)) w' r v
def F9 (m:Nat) (rs:List RS) (r:AV) (ax:List (Nat × Bk)) (n:Nat):EX→St→Prop
 | .exit _,_=>False
 | _,s=>Wr s.fs rs∧∃ ρ,ql m ρ n∧Sub (rl ρ) ⟨[(0,ga s.fs rs)],s.h,s.n⟩ ⟨[(0,r)],ax,n⟩
theorem Ga {w:World} {vs:List Value} {args:List AV} {N:Nat} (hN:args.length≤N) {G X:Nat→Prop} {gl:Nat→AV} {g:Nat→GM} {aI:List (Nat × Bk)} {m:Nat} {gh:List (Nat × GM)} (hR:R ⟨0,w,G,X,gl,[]⟩ g (cW aI m) ⟨#[],[]⟩ w)
  (hv:bL g (Qo ⟨0,w,G,X,gl,[]⟩ g (cW aI m)) w args vs) (gJ:∀ p ∈ gh,g p.1=p.2∧p.2≠.un) :
  R ⟨N,w,G,X,gl,gh⟩ g (⟨jx 0 args,aI,m⟩:St).fs { tmps:=vs.toArray++Array.replicate (N - vs.toArray.size) undef,defers:=[] } w:=by
 have hl:=hv.length
 refine ⟨by simp;omega,rfl,fun i=>?_,hR.gl,hR.h,hR.inj,hR.old,hR.fr,hR.xs,gJ⟩
 show VR g _ w (look (jx 0 args) i) _
 rw[JI]
 split
 ·rename_i h
  have hi:i < vs.length:=by omega
  have:=hv.get i af
  have e:(vs.toArray++Array.replicate (N - vs.toArray.size) undef).getD i undef=vs.getD i undef:=by
   simp only[Array.getD_eq_getD_getElem?,List.getD]
   rw[Array.getElem?_append_left (by simpa using hi)]
   simp
  rw[e]
  have h2:VR g (Qo ⟨0,w,G,X,gl,[]⟩ g (cW aI m)) w (args.getD (i - 0) .any) (vs.getD i undef):=by simpa using this
  exact h2
 ·exact .any _
theorem Xv2 {gl : Nat → AV} {f : FuncId} {fn : Func} {code : Code} {t : TC} {rs : List RS} {args : List AV} {aI ax : List (Nat × Bk)} {m n : Nat} {r : AV} (hm : P.follows .mixedOrders = true) (hf : P.funcs[f]? = some fn) (hb : fn.body = some code) (dQ : (fn.name == "runtime.NumGoroutine") = false)
  (he:Jh P fn.ntmps code=some t) (hr:m9 P fn.results.toList=some rs) (hN:args.length≤fn.ntmps) (aP:∀ p ∈ aI,p.2.live)
  (h:∀ c:Cx,(∀ p ∈ c.gh,p.1 < m)→c.gl=gl→xw P c t (F9 m rs r ax n) ⟨jx 0 args,aI,m⟩):GS P gl f args aI m r ax n:=by
 refine ⟨⟨fn,hf,by rw[hb];rfl,dQ⟩,fun w vs G X g jM hv=>?_⟩
 refine calls_of_wp hf hb ?_
 have js:∀ b,b < m→g b≠.un:=fun b hU e=>by
  have:=jM.h b
  rw[e]at this
  have hh:(cW aI m).H b=Qc aI m b:=rfl
  rw[hh]at this
  rcases Zx aI m b with q|⟨p,hp,_,q⟩
  ·rw[q,if_pos hU]at this;cases this;rename_i h;exact h rfl
  ·rw[q]at this
   have hl:=aP p hp
   cases hx:p.2 with
   | free=>rw[hx]at hl;exact hl.elim
   | dead=>rw[hx]at hl;exact hl.elim
   | cells cs=>rw[hx]at this;cases this
   | aE kvs dn=>rw[hx]at this;cases this
   | bl kvs bs ck=>rw[hx]at this;cases this
   | iter b0 ck seen=>rw[hx]at this;cases this
   | c7 ls=>rw[hx]at this;cases this with|c7 _ h=>cases h
 have gJ:∀ p ∈ (List.range m).map (fun b=>(b,g b)),g p.1=p.2∧p.2≠.un:=fun p hp=>by
  obtain ⟨b,hU,rfl⟩:=List.mem_map.1 hp
  exact ⟨rfl,js b (List.mem_range.1 hU)⟩
 have aY:∀ p ∈ (List.range m).map (fun b=>(b,g b)),p.1 < m:=fun p hp=>by
  obtain ⟨b,hU,rfl⟩:=List.mem_map.1 hp
  exact List.mem_range.1 hU
 have hR:=Ga (N:=fn.ntmps) hN jM hv gJ
 have:=va (c:=⟨fn.ntmps,w,G,X,gl,(List.range m).map (fun b=>(b,g b))⟩) hm code t _ _ he (h _ aY rfl) _ _ _ hR
 refine wp_mono this fun e a' w' hq=>?_
 have fin:∀ (g1:Nat→GM) (s:St),R ⟨fn.ntmps,w,G,X,gl,(List.range m).map (fun b=>(b,g b))⟩ g1 s.fs a' w'→(Wr s.fs rs∧∃ ρ,ql m ρ n∧Sub (rl ρ) ⟨[(0,ga s.fs rs)],s.h,s.n⟩ ⟨[(0,r)],ax,n⟩) →
   a'.defers=[]∧∃ v,(results fn a'.tmps).run P w'=.ok v w'∧(∃ nd g',Ending.returned v=.returned nd∧R ⟨0,w,G,X,gl,[]⟩ g' (cW ax n) ⟨#[],[]⟩ w'∧(∀ b,b < m→g' b=g b)∧VR g' (Qo ⟨0,w,G,X,gl,[]⟩ g' (cW ax n)) w' r nd):=by
  intro g1 s bb ⟨h1,ρ,h2,h3⟩
  obtain ⟨v,h4,h5⟩:=Cm bb hr h1
  refine ⟨bb.dI,v,h4,v,?_⟩
  have cy:R ⟨1,w,G,X,gl,(List.range m).map (fun b=>(b,g b))⟩ g1 (⟨[(0,ga s.fs rs)],s.h,s.n⟩:St).fs ⟨#[v],[]⟩ w':=by
   refine ⟨rfl,rfl,fun i=>?_,bb.gl,bb.h,bb.inj,bb.old,bb.fr,bb.xs,bb.gX⟩
   show VR g1 _ w' (look [(0,ga s.fs rs)] i) _
   rw[Zo]
   split
   ·rename_i hi;subst hi;exact h5
   ·exact .any _
  obtain ⟨g2,bV⟩:=h3.to cy (JH aY h2)
  refine ⟨g2,rfl,⟨rfl,rfl,fun i=>.any _,bV.gl,bV.h,bV.inj,bV.old,bV.fr,bV.xs,fun p hp=>by cases hp⟩,fun b hb=>?_,?_⟩
  ·exact (bV.gX (b,g b) (List.mem_map.2 ⟨b,List.mem_range.2 hb,rfl⟩)).1
  ·exact bV.t 0
 cases e with
 | normal=>obtain ⟨g,s,bb,cF⟩:=hq;exact fin g s bb cF
 | ret=>obtain ⟨g,s,bb,cF⟩:=hq;exact fin g s bb cF
 | exit i=>obtain ⟨g,s,bb,cF⟩:=hq;exact cF.elim
 | goto l=>exact hq.elim
 | panic ch=>exact hq.elim
 | outgrown=>exact hq.elim
def qs (σ:Nat→Nat):Bk→Bk
 | .dead=>.dead
 | x=>Xg σ x
theorem BR.aD {σ:Nat→Nat} {n:Nat} (hg:∀ b,b < n→g' (σ b)=g b) {mm:GM} {x:Bk} (h:BR g W w mm x) (hn:bG n x) (hW:∀ k,W' k→W k):BR g' W' w mm (Xg σ x):=by
 have fwd:∀ {v u},Qe n v→VR g W w v u→VR g' W' w (Proofs.YtogckmommodmhaaGreatDoor.aD σ v) u:=fun hn h=>(h.aD (ρ:=σ) (g:=g') hg hn).mono (Fr.refl w W) (fun k _=>hW k) (fun _ _=>rfl)
 cases h with
 | free=>exact hn.elim
 | dead h=>exact hn.elim
 | ph=>simp only[Xg,ay];exact .ph
 | cells hb hl h1 hv hz =>
  simp only[Xg,bG]at hn ⊢
  refine .cells hb (by rw[Ys];exact hl) (by rw[Ys];exact h1) (fun j hj=>?_) hz
  rw[Ys]at hj
  rw[Kq];exact fwd (Ja hn j) (hv j hj)
 | aE hb hs j5 hv hc ha hd =>
  rename_i k kvs dn es clock
  simp only[Xg,bG]at hn ⊢
  have aW:∀ j,j < kvs.length→(kvs.map fun p=>(Proofs.YtogckmommodmhaaGreatDoor.aD σ p.1,Proofs.YtogckmommodmhaaGreatDoor.aD σ p.2)).getD j (.any,.any)=(Proofs.YtogckmommodmhaaGreatDoor.aD σ (kvs.getD j (.any,.any)).1,Proofs.YtogckmommodmhaaGreatDoor.aD σ (kvs.getD j (.any,.any)).2):=fun j hj=>by simp[List.getD,hj]
  have bH:∀ j,j < kvs.length→kvs.getD j (.any,.any) ∈ kvs:=fun j hj=>by simp[List.getD,hj]
  refine .aE hb (by rw[List.length_map];exact hs) (fun j hj=>?_) (fun j hj=>?_) hc ha hd
  ·rw[List.length_map]at hj;rw[aW j hj];exact fwd (hn _ (bH j hj)).1 (j5 j hj)
  ·rw[List.length_map]at hj;rw[aW j hj];exact fwd (hn _ (bH j hj)).2 (hv j hj)
 | bl hb hs j5 hv hc ha hd =>
  rename_i k kvs bs es clock
  simp only[Xg,bG]at hn ⊢
  have aW:∀ j,j < kvs.length→(kvs.map fun p=>(Proofs.YtogckmommodmhaaGreatDoor.aD σ p.1,Proofs.YtogckmommodmhaaGreatDoor.aD σ p.2)).getD j (.any,.any)=(Proofs.YtogckmommodmhaaGreatDoor.aD σ (kvs.getD j (.any,.any)).1,Proofs.YtogckmommodmhaaGreatDoor.aD σ (kvs.getD j (.any,.any)).2):=fun j hj=>by simp[List.getD,hj]
  have bH:∀ j,j < kvs.length→kvs.getD j (.any,.any) ∈ kvs:=fun j hj=>by simp[List.getD,hj]
  refine .bl hb (by rw[List.length_map];exact hs) (fun j hj=>?_) (fun j hj=>?_) hc ha hd
  ·rw[List.length_map]at hj;rw[aW j hj];exact fwd (hn _ (bH j hj)).1 (j5 j hj)
  ·rw[List.length_map]at hj;rw[aW j hj];exact fwd (hn _ (bH j hj)).2 (hv j hj)
 | iter hb kR =>
  simp only[Xg,bG]at hn ⊢
  exact .iter hb (by rw[hg _ hn];exact kR)
 | c7 hp h=>exact BR.j7 (.c7 hp h) hn hW
structure xj (σ:Nat→Nat) (s s3:FS) (ax:List (Nat × Bk)) (n:Nat):Prop where
 T:∀ i,s3.T i=s.T i
 H:∀ b,b < n→s3.H (σ b)=qs σ (Qc ax n b)
 rest:∀ j,(∀ b,b < n→σ b≠j)→s3.H j=s.H j
open Classical in
noncomputable def Jx (g g2:Nat→GM) (σ:Nat→Nat) (n:Nat) (j:Nat):GM:=if h:∃ b,b < n∧σ b=j then g2 h.choose else g j
theorem Ro {σ:Nat→Nat} {aI ax:List (Nat × Bk)} {m n:Nat} {s3:FS} {g1 g2:Nat→GM} (hR:R c g s a w) (fit:Fit σ s aI m) (qt:∀ b,b < m→∃ p ∈ aI,p.1=b) (xk:m≤n) (bT:∀ b b',b < n→b' < n→σ b=σ b'→b=b') (bN:∀ b,m≤b→b < n→s.H (σ b)=.free)
  (eM:∀ p ∈ ax,bG n p.2) (hlt:∀ p ∈ ax,p.1 < n) (jz:∀ b,b < m→g (σ b)≠.un→g (σ b)=g1 b) (vj:∀ b,b < m→g2 b=g1 b) (bV:R (pB c g s w σ aI m) g2 (cW ax n) ⟨#[],[]⟩ w') (hb:xj σ s s3 ax n) :
  R c (Jx g g2 σ n) s3 a w'∧∀ {r:AV} {v:Value},Qe n r→VR g2 (Qo (pB c g s w σ aI m) g2 (cW ax n)) w' r v→VR (Jx g g2 σ n) (Qo c (Jx g g2 σ n) s3) w' (aD σ r) v:=by
 have gs:∀ b,b < n→Jx g g2 σ n (σ b)=g2 b:=fun b dO=>by
  unfold Jx
  have hex:∃ b',b' < n∧σ b'=σ b:=⟨b,dO,rfl⟩
  rw[dif_pos hex]
  rw[bT _ _ hex.choose_spec.1 dO hex.choose_spec.2]
 have go:∀ j,(∀ b,b < n→σ b≠j)→Jx g g2 σ n j=g j:=fun j h=>by
  unfold Jx
  rw[dif_neg]
  rintro ⟨b,h1,h2⟩;exact h b h1 h2
 have named:∀ b,b < m→g (σ b)≠.un:=fun b hU e=>by
  obtain ⟨p,hp,rfl⟩:=qt b hU
  obtain ⟨_,q2,q3⟩:=fit.mem p hp
  have:=hR.h (σ p.1)
  rw[e,q3]at this
  have hl:(Xg σ p.2).live:=zR.2 (Xf q2)
  generalize Xg σ p.2=x at this hl
  exact this.fV hl
 have gm:∀ b,b < m→g2 b=g (σ b):=fun b hU=>by rw[vj b hU,← jz b hU (named b hU)]
 have gk:∀ j,g j≠.un→Jx g g2 σ n j=g j:=fun j hj=>by
  by_cases h:∃ b,b < n∧σ b=j
  ·obtain ⟨b,dO,rfl⟩:=h
   rw[gs b dO]
   by_cases hU:b < m
   ·exact gm b hU
   ·have:=hR.h (σ b)
    rw[bN b af dO]at this
    generalize g (σ b)=x at this hj
    cases this;exact (hj rfl).elim
  ·exact go j fun b h1 h2=>h ⟨b,h1,h2⟩
 have jca:∀ b,(Qc ax n b).live→b < n:=fun b hl=>by
  obtain ⟨p,hp,rfl,_⟩:=Us hl
  exact hlt p hp
 have lin:∀ b,(Qc aI m b).live→b < m:=fun b hl=>by
  obtain ⟨p,hp,rfl,_⟩:=Us hl
  exact (fit.mem p hp).1
 have qu:∀ b,(Qc aI m b).live→(s.H (σ b)).live:=fun b hl=>by
  obtain ⟨p,hp,rfl,_⟩:=Us hl
  obtain ⟨_,q2,q3⟩:=fit.mem p hp
  rw[q3,zR];exact Xf q2
 have cZ:∀ j,(s3.H j).live→(∃ b,b < n∧σ b=j∧(Qc ax n b).live)∨((∀ b,b < n→σ b≠j)∧(s.H j).live):=fun j hl=>by
  by_cases h:∃ b,b < n∧σ b=j
  ·obtain ⟨b,dO,rfl⟩:=h
   rw[hb.H b dO]at hl
   refine .inl ⟨b,dO,rfl,?_⟩
   cases hx:Qc ax n b with
   | free=>rw[hx]at hl;exact hl.elim
   | dead=>rw[hx]at hl;exact hl.elim
   | cells cs=>trivial
   | aE kvs dn=>trivial
   | bl kvs bs ck=>trivial
   | iter b0 ck seen=>trivial
   | c7 ls=>trivial
  ·have b9:∀ b,b < n→σ b≠j:=fun b h1 h2=>h ⟨b,h1,h2⟩
   rw[hb.rest j b9]at hl
   exact .inr ⟨b9,hl⟩
 -- memory of a block wW comes back
 have gb:∀ b k,(Qc ax n b).live→g2 b=.re k→w.heap.size≤k∨∃ b0,(Qc aI m b0).live∧g (σ b0)=.re k:=fun b k hl hk=>bV.old b k hl hk
 have hf:Fr w w' (qq g σ aI m):=bV.fr
 have Ag:∀ k,qq g σ aI m k→Qo c g s k:=fun k ⟨b,h1,h2⟩=>.inr ⟨σ b,qu b h1,h2⟩
 have qw:Fr w w' (Qo c g s):=hf.weak Ag
 have sq:∀ j k,(∀ b,b < n→σ b≠j)→(s.H j).live→g j=.re k→¬ qq g σ aI m k:=fun j k h1 h2 h3 ⟨b,q1,q2⟩ =>
  h1 b (Nat.lt_of_lt_of_le (lin b q1) xk) (hR.inj (σ b) j k (qu b q1) h2 q2 h3)
 have mE:∀ k,k < w.heap.size→Qo c (Jx g g2 σ n) s3 k→Qo c g s k:=by
  rintro k hk (h|⟨j,h1,h2⟩)
  ·exact .inl h
  ·rcases cZ j h1 with ⟨b,dO,rfl,hl⟩|⟨b9,hl⟩
   ·rw[gs b dO]at h2
    rcases gb b k hl h2 with h|⟨b0,q1,q2⟩
    ·omega
    ·exact Ag k ⟨b0,q1,q2⟩
   ·rw[go j b9]at h2;exact .inr ⟨j,hl,h2⟩
 have lj:∀ k,Qo c (Jx g g2 σ n) s3 k→Qo (pB c g s w σ aI m) g2 (cW ax n) k:=by
  rintro k (h|⟨j,h1,h2⟩)
  ·refine .inl ⟨.inl h,fun ⟨b,q1,q2⟩=>?_⟩
   obtain ⟨x1,x2⟩:=hR.xs k h
   rcases hR.old (σ b) k (qu b q1) q2 with h|h
   ·omega
   ·exact x2 h
  ·rcases cZ j h1 with ⟨b,dO,rfl,hl⟩|⟨b9,hl⟩
   ·rw[gs b dO]at h2;exact .inr ⟨b,hl,h2⟩
   ·rw[go j b9]at h2;exact .inl ⟨.inr ⟨j,hl,h2⟩,sq j k b9 hl h2⟩
 refine ⟨⟨hR.size,hR.dI,fun i=>?_,fun i=>(hR.gl i).mono qw mE (fun _ _=>rfl),fun j=>?_,fun j j' k h1 h2 e1 e2=>?_,fun j k h1 e1=>?_,hR.fr.trans hf fun k hk ⟨b,q1,q2⟩=>?_,hR.xs,fun p hp=>?_⟩,fun {r v} hn hv=>?_⟩
 ·rw[hb.T];exact (hR.t i).mono qw mE gk
 ·by_cases h:∃ b,b < n∧σ b=j
  ·obtain ⟨b,dO,rfl⟩:=h
   rw[hb.H b dO,gs b dO]
   have dP:=bV.h b
   have e:(cW ax n).H b=Qc ax n b:=rfl
   rw[e]at dP
   rcases Zx ax n b with q|⟨p,hp,_,q⟩
   ·rw[q,if_pos dO]at dP ⊢
    generalize g2 b=x at dP ⊢
    cases dP with
    | dead h=>exact .dead h
   ·rw[q]at dP ⊢
    have pn:=eM p hp
    have:qs σ p.2=Xg σ p.2:=by
     cases hx:p.2<;>first|rfl|(rw[hx]at pn;exact pn.elim)
    rw[this]
    exact dP.aD (g':=Jx g g2 σ n) gs pn lj
  ·have b9:∀ b,b < n→σ b≠j:=fun b h1 h2=>h ⟨b,h1,h2⟩
   rw[hb.rest j b9,go j b9]
   refine (hR.h j).mono qw mE gk fun k hk hl=>hf.eC k ?_ (sq j k b9 hl hk)
   exact BR.lt (hk ▸ hR.h j) hl
 ·rcases cZ j h1 with ⟨b,dO,rfl,hl⟩|⟨b9,hl⟩<;>rcases cZ j' h2 with ⟨b',CC,rfl,kW⟩|⟨mF,kW⟩
  ·rw[gs b dO]at e1;rw[gs b' CC]at e2
   rw[bV.inj b b' k hl kW e1 e2]
  ·rw[gs b dO]at e1;rw[go j' mF]at e2
   have hlt:=BR.lt (e2 ▸ hR.h j') kW
   rcases gb b k hl e1 with h|hG
   ·omega
   ·exact (sq j' k mF kW e2 hG).elim
  ·rw[gs b' CC]at e2;rw[go j b9]at e1
   have hlt:=BR.lt (e1 ▸ hR.h j) hl
   rcases gb b' k kW e2 with h|hG
   ·omega
   ·exact (sq j k b9 hl e1 hG).elim
  ·rw[go j b9]at e1;rw[go j' mF]at e2
   exact hR.inj j j' k hl kW e1 e2
 ·rcases cZ j h1 with ⟨b,dO,rfl,hl⟩|⟨b9,hl⟩
  ·rw[gs b dO]at e1
   rcases gb b k hl e1 with h|⟨b0,q1,q2⟩
   ·have:=hR.fr.size;exact .inl af
   ·exact hR.old (σ b0) k (qu b0 q1) q2
  ·rw[go j b9]at e1;exact hR.old j k hl e1
 ·rcases hR.old (σ b) k (qu b q1) q2 with h|h
  ·omega
  ·exact h
 ·obtain ⟨q1,q2⟩:=hR.gX p hp
  exact ⟨by rw[gk p.1 (by rw[q1];exact q2),q1],q2⟩
 ·exact (hv.aD (ρ:=σ) (g:=Jx g g2 σ n) gs hn).mono (Fr.refl _ _) (fun k _=>lj k) (fun _ _=>rfl)
end
def sg (ins:List Nat) (m n0:Nat) (b:Nat):Nat:=if b < m then ins.getD b 0 else n0 + (b - m)
def CD (σ:Nat→Nat) (s:FS) (m:Nat):List (Nat × Bk)→Prop
 | []=>True
 | (b,x)::r=>b < m∧bG m x∧s.H (σ b)=Xg σ x∧CD σ s m r
def Ah:List Nat→Bool
 | []=>true
 | x::r=>r.all (fun y=>!(Nat.beq x y)) && Ah r
def xl (ins:List Nat) (m n0:Nat):Bool:=(ins.length == m) && Ah ins && ins.all (fun j=>decide (j < n0))
def CE (s:FS):List Nat→Prop
 | []=>True
 | j::r=>s.H j=.free∧CE s r
def CF (n:Nat):List (Nat × Bk)→Prop
 | []=>True
 | (b,x)::r=>b < n∧bG n x∧CF n r
def Ai (n0:Nat):Nat→List Nat
 | 0=>[]
 | k + 1=>Ai n0 k++[n0 + k]
def jA (n0 m n:Nat):List Nat:=Ai n0 (n - m)
theorem tH {n0 j:Nat}:∀ {k:Nat},j ∈ Ai n0 k ↔ ∃ i,i < k∧n0 + i=j
 | 0=>by simp[Ai]
 | k + 1=>by
  simp only[Ai,List.mem_append,tH (k:=k),List.mem_singleton]
  constructor
  ·rintro (⟨i,h,rfl⟩|rfl)
   ·exact ⟨i,by omega,rfl⟩
   ·exact ⟨k,by omega,rfl⟩
  ·rintro ⟨i,h,rfl⟩
   by_cases hk:i=k
   ·subst hk;exact .inr rfl
   ·exact .inl ⟨i,by omega,rfl⟩
def idx:List (Nat × Bk)→List Nat
 | []=>[]
 | p::r=>p.1::idx r
def upto:Nat→List Nat
 | 0=>[]
 | n + 1=>upto n++[n]
structure ll (s:FS) (n0:Nat) (ins:List Nat) (args:List AV) (aI:List (Nat × Bk)) (m:Nat) (r:AV) (ax:List (Nat × Bk)) (n:Nat):Prop where
 fit:CD (sg ins m n0) s m aI
 fN:idx aI=upto m
 ins:xl ins m n0=true
 free:CE s (jA n0 m n)
 out:CF n ax
 le:m≤n
 nr:Qe n r
 na:ai m args
theorem KA {σ:Nat→Nat} {s:FS} {m:Nat}:∀ {h:List (Nat × Bk)},CD σ s m h→∀ p ∈ h,p.1 < m∧bG m p.2∧s.H (σ p.1)=Xg σ p.2
 | [],_,p,hp=>by cases hp
 | (b,x)::r,h,p,hp=>by
  rcases List.mem_cons.1 hp with rfl|hp
  ·exact ⟨h.1,h.2.1,h.2.2.1⟩
  ·exact KA h.2.2.2 p hp
theorem Gb {n:Nat}:∀ {h:List (Nat × Bk)},CF n h→∀ p ∈ h,p.1 < n∧bG n p.2
 | [],_,p,hp=>by cases hp
 | (b,x)::r,h,p,hp=>by
  rcases List.mem_cons.1 hp with rfl|hp
  ·exact ⟨h.1,h.2.1⟩
  ·exact Gb h.2.2 p hp
theorem KB {s:FS}:∀ {l:List Nat},CE s l→∀ j ∈ l,s.H j=.free
 | [],_,j,hj=>by cases hj
 | x::l,h,j,hj=>by
  rcases List.mem_cons.1 hj with rfl|hj
  ·exact h.1
  ·exact KB h.2 j hj
theorem KC:∀ h:List (Nat × Bk),idx h=h.map (·.1)
 | []=>rfl
 | p::r=>by simp[idx,KC r]
theorem KD:∀ {n b:Nat},b ∈ upto n ↔ b < n
 | 0,b=>by simp[upto]
 | n + 1,b=>by simp[upto,KD (n:=n)];omega
theorem KE:∀ {l:List Nat},Ah l=true→∀ i j,i < l.length→j < l.length→l.getD i 0=l.getD j 0→i=j
 | [],_,i,j,hi,_,_=>by simp at hi
 | x::l,h,i,j,hi,hj,e=>by
  simp only[Ah,Bool.and_eq_true]at h
  have bO:∀ y ∈ l,x≠y:=fun y hy exy=>by
   have:=List.all_eq_true.1 h.1 y hy
   subst exy;simp at this
  have bH:∀ k,k < l.length→l.getD k 0 ∈ l:=fun k hk=>by simp only[List.getD,List.getElem?_eq_getElem hk,Option.getD_some];exact List.getElem_mem hk
  cases i with
  | zero =>
   cases j with
   | zero=>rfl
   | succ j=>simp only[List.getD_cons_zero,List.getD_cons_succ]at e;exact (bO _ (bH j (by simpa using hj)) e).elim
  | succ i =>
   cases j with
   | zero=>simp only[List.getD_cons_zero,List.getD_cons_succ]at e;exact (bO _ (bH i (by simpa using hi)) e.symm).elim
   | succ j=>simp only[List.getD_cons_succ]at e;rw[KE h.2 i j (by simpa using hi) (by simpa using hj) e]
theorem KF {ins:List Nat} {m n0:Nat} (h:xl ins m n0=true) {b b':Nat} (e:sg ins m n0 b=sg ins m n0 b'):b=b':=by
 simp only[xl,Bool.and_eq_true,beq_iff_eq,List.all_eq_true,decide_eq_true_eq]at h
 obtain ⟨⟨h1,h2⟩,h3⟩:=h
 have bH:∀ k,k < m→ins.getD k 0 < n0:=fun k hk=>h3 _ (by simp only[List.getD,List.getElem?_eq_getElem (show k < ins.length by omega),Option.getD_some];exact List.getElem_mem _)
 unfold sg at e
 split at e<;>split at e
 ·exact KE h2 b b' af af e
 ·rename_i x y;have:=bH b x;omega
 ·rename_i x y;have:=bH b' y;omega
 ·omega
section
variable {P:Program} {c:Cx}
def da (σ:Nat→Nat) (ax:List (Nat × Bk)) (n:Nat):Nat→List (Nat × Bk)
 | 0=>[]
 | k + 1=>(σ k,qs σ (Qc ax n k))::da σ ax n k
def ln (s:St) (d:Option Nat) (ins:List Nat) (m:Nat) (r:AV) (ax:List (Nat × Bk)) (n:Nat):St :=
 St.bQ ⟨s.t,da (sg ins m s.n) ax n n++s.h,s.n + (n - m)⟩ d (aD (sg ins m s.n) r)
def tI (s:St) (d:Option Nat) (xs:List TV) (ins:List Nat) (m n:Nat):bq:=⟨Xp xs,ins++jA s.n m n,d.toList,ins++jA s.n m n⟩
theorem Gc (h h2:List (Nat × Bk)) (n j:Nat):(∃ p ∈ h,p.1=j)∧(∃ p ∈ h,p.1=j∧Qc (h++h2) n j=p.2)∨(∀ p ∈ h,p.1≠j)∧Qc (h++h2) n j=Qc h2 n j:=by
 induction h with
 | nil=>right;exact ⟨fun p hp=>(by cases hp),rfl⟩
 | cons p r ih =>
  obtain ⟨i,x⟩:=p
  rw[List.cons_append,Qd]
  by_cases hi:i=j
  ·left
   rw[if_pos hi]
   exact ⟨⟨(i,x),by simp,hi⟩,(i,x),by simp,hi,rfl⟩
  ·rw[if_neg hi]
   rcases ih with ⟨⟨p,hp,e⟩,q,hq,e1,e2⟩|⟨h1,h2⟩
   ·exact .inl ⟨⟨p,by simp[hp],e⟩,q,by simp[hq],e1,e2⟩
   ·refine .inr ⟨fun p hp=>?_,h2⟩
    rcases List.mem_cons.1 hp with rfl|hp
    ·exact hi
    ·exact h1 p hp
theorem xm {σ:Nat→Nat} {ax:List (Nat × Bk)} {n:Nat}:∀ {k:Nat} {p:Nat × Bk},p ∈ da σ ax n k ↔ ∃ b,b < k∧p=(σ b,qs σ (Qc ax n b))
 | 0,p=>by simp[da]
 | k + 1,p=>by
  simp only[da,List.mem_cons,xm (k:=k)]
  constructor
  ·rintro (rfl|⟨b,hb,rfl⟩)
   ·exact ⟨k,by omega,rfl⟩
   ·exact ⟨b,by omega,rfl⟩
  ·rintro ⟨b,hb,rfl⟩
   by_cases h:b=k
   ·subst h;exact .inl rfl
   ·exact .inr ⟨b,by omega,rfl⟩
theorem CG {σ:Nat→Nat} {m:Nat} {g g1:Nat→GM} {W W':Nat→Prop} {w:World} (hg:∀ b,b < m→g (σ b)≠.un→g (σ b)=g1 b) (hW:∀ k,W' k→W k):∀ {args:List AV} {vs:List Value},ai m args→bL g W w (ay σ args) vs→bL g1 W' w args vs
 | [],[],_,_=>trivial
 | x::xs,v::vs,hn,h=>by
  rw[Yf,List.map_cons,← Yf]at h
  exact ⟨(h.1.iK hg x rfl hn.1).mono (Fr.refl _ _) (fun k _=>hW k) (fun _ _=>rfl),CG hg hW hn.2 h.2⟩
 | [],_::_,_,h=>by rw[Yf]at h;exact h.elim
 | _::_,[],_,h=>by rw[Yf]at h;exact h.elim
theorem Rq {s:St} {d:Option Nat} {f:FuncId} {xs:List TV} {ins:List Nat} {args:List AV} {aI:List (Nat × Bk)} {m:Nat} {r:AV} {ax:List (Nat × Bk)} {n:Nat} (eG:GS P c.gl f args aI m r ax n) (hc:Qv none (aG c.gl s.fs xs))
  (aM:(aG c.gl s.fs xs).map Qk=ay (sg ins m s.n) args) (ok:ll s.fs s.n ins args aI m r ax n):Ky P c (.pd d (.call f) xs none) s.fs (tI s d xs ins m n) (ln s d ins m r ax n).fs:=by
 intro ops io he
 obtain ⟨bm,bc,hd,ys,aJ,rfl⟩:=Zt he
 obtain ⟨ts,bh⟩:=xd aJ
 have vl:∀ b b',b < n→b' < n→sg ins m s.n b=sg ins m s.n b'→b=b':=fun b b' _ _ e=>KF ok.ins e
 have hlen:ins.length=m:=by
  have:=ok.ins;simp only[xl,Bool.and_eq_true,beq_iff_eq]at this;exact this.1.1
 -- the names wW are tJ
 have fE:∀ b,b < n→sg ins m s.n b ∈ ins++jA s.n m n:=fun b hb=>by
  unfold sg
  split
  ·rename_i h
   refine List.mem_append_left _ ?_
   simp only[List.getD,List.getElem?_eq_getElem (show b < ins.length by omega),Option.getD_some];exact List.getElem_mem _
  ·refine List.mem_append_right _ ?_
   simp only[jA,tH];exact ⟨b - m,by omega,rfl⟩
 have la:∀ j,j ∈ ins++jA s.n m n→∃ b,b < n∧sg ins m s.n b=j:=fun j hj=>by
  rcases List.mem_append.1 hj with h|h
  ·obtain ⟨i,hi,rfl⟩:=List.getElem_of_mem h
   have:=ok.le
   refine ⟨i,by omega,?_⟩
   unfold sg;rw[if_pos af];simp[List.getD,hi]
  ·simp only[jA,tH]at h
   obtain ⟨i,hi,rfl⟩:=h
   exact ⟨m + i,by omega,by unfold sg;rw[if_neg af];omega⟩
 have qx:∀ j,(ln s d ins m r ax n).fs.H j=Qc (da (sg ins m s.n) ax n n++s.h) (s.n + (n - m)) j:=fun j=>by cases d<;>rfl
 have mG:∀ i,(ln s d ins m r ax n).fs.T i=match d with|some d=>(if d=i then aD (sg ins m s.n) r else s.fs.T i)|none=>s.fs.T i:=fun i=>by
  cases d with
  | none=>rfl
  | some d=>show look ((d,_)::s.t) i=_;rw[Zo];rfl
 have qy:∀ b,b < n→Qc (da (sg ins m s.n) ax n n++s.h) (s.n + (n - m)) (sg ins m s.n b)=qs (sg ins m s.n) (Qc ax n b):=fun b hb=>by
  rcases Gc (da (sg ins m s.n) ax n n) s.h (s.n + (n - m)) (sg ins m s.n b) with ⟨_,p,hp,e1,e2⟩|⟨h1,_⟩
  ·obtain ⟨b',bJ,rfl⟩:=xm.1 hp
   have:=vl b' b bJ hb e1
   subst this;exact e2
  ·exact (h1 _ (xm.2 ⟨b,hb,rfl⟩) rfl).elim
 have lp:∀ j,j ∉ ins++jA s.n m n→Qc (da (sg ins m s.n) ax n n++s.h) (s.n + (n - m)) j=s.fs.H j:=fun j hj=>by
  rcases Gc (da (sg ins m s.n) ax n n) s.h (s.n + (n - m)) j with ⟨⟨p,hp,e⟩,_⟩|⟨_,h2⟩
  ·obtain ⟨b,hb,rfl⟩:=xm.1 hp
   exact (hj (e ▸ fE b hb)).elim
  ·rw[h2]
   show Qc s.h (s.n + (n - m)) j=Qc s.h s.n j
   have b9:∀ k,k≤n - m→Qc s.h (s.n + k) j=Qc s.h s.n j:=fun k hk=>by
    induction k with
    | zero=>rfl
    | succ k ih =>
     rw[← ih af]
     refine Kz s.h (s.n + k) j fun e=>hj ?_
     refine List.mem_append_right _ ?_
     simp only[jA,tH];exact ⟨k,by omega,e.symm⟩
   exact b9 _ (Nat.le_refl _)
 refine ⟨fun i hi=>?_,fun j hj=>?_,fun s2 hT hH g a w hR K Q' hK=>Yz (Jz bm) ?_⟩
 ·rw[mG]
  cases d with
  | none=>rfl
  | some d=>simp only[tI,Option.toList_some,List.mem_singleton]at hi;simp only;rw[if_neg fun e=>hi e.symm]
 ·rw[qx];exact lp j hj
 ·have bn:aG c.gl s2 (ys.map aT)=aG c.gl s.fs (ys.map aT):=Yj fun i hi=>hT i hi
  have hv:=Yp (hR.aG ys) (by rw[bn];exact hc)
  rw[bn,aM]at hv
  have lq:Fit (sg ins m s.n) s2 aI m:=by
   refine ⟨fun p hp=>?_,fun p hp q hq e=>KF ok.ins e⟩
   obtain ⟨q1,q2,q3⟩:=KA ok.fit p hp
   exact ⟨q1,q2,by rw[hH _ (fE p.1 (Nat.lt_of_lt_of_le q1 ok.le))];exact q3⟩
  have qt:∀ b,b < m→∃ p ∈ aI,p.1=b:=fun b hb=>by
   have:=KD.2 hb
   rw[← ok.fN,KC]at this
   obtain ⟨p,hp,e⟩:=List.mem_map.1 this
   exact ⟨p,hp,e⟩
  have bN:∀ b,m≤b→b < n→s2.H (sg ins m s.n b)=.free:=fun b h1 h2=>by
   rw[hH _ (fE b h2)]
   refine KB ok.free _ ?_
   unfold sg;rw[if_neg af]
   simp only[jA,tH];exact ⟨b - m,by omega,rfl⟩
  obtain ⟨g1,jz,sr,ss⟩:=F8 hR lq
  have nc:=CG (g1:=g1) jz ss ok.na hv
  have cN:=eG.2 w _ _ _ g1 sr nc
  unfold Oper.wp
  rw[xe eG.1 bh]
  rw[Oper.upon_enter]
  refine cN.mono fun e w' ⟨v,g2,e1,e2,e3,e4⟩=>?_
  subst e1
  let s3:FS:=⟨s2.T,fun j=>if j ∈ ins++jA s.n m n then (ln s d ins m r ax n).fs.H j else s2.H j⟩
  have hb:xj (sg ins m s.n) s2 s3 ax n:=by
   refine ⟨fun i=>rfl,fun b dO=>?_,fun j hj=>?_⟩
   ·show (if _ then _ else _)=_
    rw[if_pos (fE b dO),qx,qy b dO]
   ·show (if _ then _ else _)=_
    rw[if_neg fun h=>?_]
    obtain ⟨b,dO,rfl⟩:=la j h
    exact hj b dO rfl
  obtain ⟨j9,eO⟩:=Ro hR lq qt ok.le vl bN (fun p hp=>(Gb ok.out p hp).2) (fun p hp=>(Gb ok.out p hp).1) jz e3 e2 hb
  have tK:=eO ok.nr e4
  show K (a.put io.dst v) w'
  rw[bc]
  cases d with
  | none =>
   refine hK (Jx g g2 (sg ins m s.n) n) _ w' ?_
   have:dh s2 (ln s none ins m r ax n).fs (tI s none (ys.map aT) ins m n)=s3:=by
    refine pA (fun i=>?_) fun j=>rfl
    show (if i ∈ ([]:List Nat) then (ln s none ins m r ax n).fs.T i else s2.T i)=s2.T i
    simp
   rw[this];exact j9
  | some d =>
   refine hK (Jx g g2 (sg ins m s.n) n) _ w' ?_
   have:dh s2 (ln s (some d) ins m r ax n).fs (tI s (some d) (ys.map aT) ins m n)=s3.put d (aD (sg ins m s.n) r):=by
    refine pA (fun i=>?_) fun j=>rfl
    show (if i ∈ [d] then (ln s (some d) ins m r ax n).fs.T i else s2.T i)=_
    rw[FS.de,mG]
    by_cases h:d=i
    ·subst h;simp
    ·rw[if_neg (by simpa using fun e:i=d=>h e.symm),if_neg h]
   rw[this];exact j9.put (by simpa using hd) tK
theorem Xa {r0:List bF} {K:St→Prop} {s:St} {d:Option Nat} {f:FuncId} {xs:List TV} {ins:List Nat} {args:List AV} {aI:List (Nat × Bk)} {m:Nat} {r:AV} {ax:List (Nat × Bk)} {n:Nat} (eG:GS P c.gl f args aI m r ax n)
  (aM:(aG c.gl s.fs xs).map Qk=ay (sg ins m s.n) args) (h:Qv none (aG c.gl s.fs xs)∧ll s.fs s.n ins args aI m r ax n∧XP P c r0 K (ln s d ins m r ax n)):Yl P c (.pd d (.call f) xs none) r0 K s :=
 .inl ⟨_,_,Rq eG h.1 aM h.2.1,h.2.2⟩
theorem Qw {anc:List Nat} {fs:List bq} {r0:List bF} {K:St→Prop} {s:St} {d:Option Nat} {f:FuncId} {xs:List TV} {ins:List Nat} {args:List AV} {aI:List (Nat × Bk)} {m:Nat} {r:AV} {ax:List (Nat × Bk)} {n:Nat} (eG:GS P c.gl f args aI m r ax n)
  (aM:(aG c.gl s.fs xs).map Qk=ay (sg ins m s.n) args) (h:Qv none (aG c.gl s.fs xs)∧ll s.fs s.n ins args aI m r ax n∧XD P c anc r0 (tI s d xs ins m n::fs) K (ln s d ins m r ax n)):Zr P c anc (.pd d (.call f) xs none) r0 fs K s :=
 ⟨_,_,Rq eG h.1 aM h.2.1,h.2.2⟩
end
theorem FT.gs {P:Program} {gl:Nat→AV} {f:FuncId} {fn:Func} {t:TC} {rs:List RS} (hF:FT P f fn t rs) {args:List AV} {aI ax:List (Nat × Bk)} {m n:Nat} {r:AV} (hN:args.length≤fn.ntmps) (aP:∀ p ∈ aI,p.2.live)
  (h:∀ c:Cx,(∀ p ∈ c.gh,p.1 < m)→c.gl=gl→xw P c t (F9 m rs r ax n) ⟨jx 0 args,aI,m⟩):GS P gl f args aI m r ax n:=by
 have hc:=hF.code
 cases hb:fn.body with
 | none=>rw[hb]at hc;simp at hc
 | some code =>
  rw[hb]at hc
  exact Xv2 hF.mixed hF.func hb hF.name hc hF.res hN aP h
theorem Xzb (s:FS) (n0:Nat) (ins:List Nat) (args:List AV) (aI:List (Nat × Bk)) (m:Nat) (r:AV) (ax:List (Nat × Bk)) (n:Nat):ll s n0 ins args aI m r ax n =
  (CD (sg ins m n0) s m aI∧idx aI=upto m∧xl ins m n0=true∧CE s (jA n0 m n)∧CF n ax∧m≤n∧Qe n r∧ai m args) :=
 propext ⟨fun h=>⟨h.fit,h.fN,h.ins,h.free,h.out,h.le,h.nr,h.na⟩,fun ⟨a,b,c,d,e,f,g,h⟩=>⟨a,b,c,d,e,f,g,h⟩⟩
theorem Xga (m:Nat) (rs:List RS) (r:AV) (ax:List (Nat × Bk)) (n:Nat) (s:St):F9 m rs r ax n .ret s=(Wr s.fs rs∧∃ ρ,ql m ρ n∧Sub (rl ρ) ⟨[(0,ga s.fs rs)],s.h,s.n⟩ ⟨[(0,r)],ax,n⟩):=rfl
theorem Qsu (m:Nat) (rs:List RS) (r:AV) (ax:List (Nat × Bk)) (n:Nat) (s:St):F9 m rs r ax n .normal s=(Wr s.fs rs∧∃ ρ,ql m ρ n∧Sub (rl ρ) ⟨[(0,ga s.fs rs)],s.h,s.n⟩ ⟨[(0,r)],ax,n⟩):=rfl
theorem Qok {σ:Type} (m:Nat) (I:σ→Prop) (cY:σ→St) (μ:σ→Nat) (x:σ) (Q:EX→St→Prop) (s:St):FJ m I cY μ x Q .normal s=∃ y,I y∧(∃ ρ,ql m ρ (cY y).n∧Sub (rl ρ) s (cY y))∧μ y < μ x:=rfl
theorem Qua {σ:Type} (m:Nat) (I:σ→Prop) (cY:σ→St) (μ:σ→Nat) (x:σ) (Q:EX→St→Prop) (s:St):FJ m I cY μ x Q .ret s=Q .ret s:=rfl
theorem Qsw {σ:Type} (m:Nat) (I:σ→Prop) (cY:σ→St) (μ:σ→Nat) (x:σ) (Q:EX→St→Prop) (i:Nat) (s:St):FJ m I cY μ x Q (.exit i) s=Q (.exit i) s:=rfl
theorem Xeu (m n:Nat):ql m [] n=(m≤n):=propext ⟨fun h=>h.2,fun h=>⟨fun p hp=>(by cases hp),h⟩⟩
theorem Qzl (m i j n:Nat) (r:List (Nat × Nat)):ql m ((i,j)::r) n=(m≤i∧ql m r n):=propext ⟨fun h=>⟨h.1 (i,j) (by simp),fun p hp=>h.1 p (by simp[hp]),h.2⟩,fun h=>⟨fun p hp=>by
 rcases List.mem_cons.1 hp with rfl|hp
 ·exact h.1
 ·exact h.2.1 p hp,h.2.2⟩⟩
theorem Qst (σ:Nat→Nat) (cs:List AV):qs σ (.cells cs)=Xg σ (.cells cs):=rfl
theorem Qw1 (σ:Nat→Nat) (kvs:List (AV × AV)) (dn:Bool):qs σ (.aE kvs dn)=Xg σ (.aE kvs dn):=rfl
theorem Qwl (σ:Nat→Nat):qs σ .dead=.dead:=rfl
attribute [go_sem] Xzb ln tI sg CD CF CE jA Ai da idx upto xl Ah Xga Qsu Qok Qua Qsw Xeu Qzl Qst Qw1 Qwl List.all_cons List.all_nil
def St.ph (s:St) (d es:Nat):St:=(s.nw (.cells [])).put d (.sl es s.n 0 0 0)
def St.xn (s:St):List (Nat × Nat)→St
 | []=>s
 | (d,es)::r=>(s.ph d es).xn r
def Gd (s:St):List (Nat × Nat)→Prop
 | []=>True
 | (d,es)::r=>(s.fs.H s.n=.free∧look s.t d=.nils)∧Gd (s.ph d es) r
section
variable {P:Program} {c:Cx}
theorem R.ph {s:St} {d es:Nat} {g:Nat→GM} {a:Act} {w:World} (hR:R c g s.fs a w) (bp:s.fs.H s.n=.free) (hd:look s.t d=.nils):∃ g',R c g' (s.ph d es).fs a w:=by
 have h1:=R.ng hR bp
 refine ⟨Zf g s.n .ph,?_⟩
 have e:(s.ph d es).fs=(s.fs.aK s.n (.cells [])).put d (.sl es s.n 0 0 0):=by
  unfold St.ph;rw[St.bS,St.gR]
 rw[e]
 refine ⟨h1.size,h1.dI,fun i=>?_,h1.gl,h1.h,h1.inj,h1.old,h1.fr,h1.xs,h1.gX⟩
 rw[FS.de]
 split
 ·rename_i hi
  subst hi
  have:=hR.t d
  have e2:s.fs.T d=.nils:=hd
  rw[e2]at this
  obtain ⟨ad,h⟩:=Fx this
  rw[h]
  exact .kr (by simp[Zf]) rfl
 ·exact h1.t i
theorem R.xn:∀ {ps:List (Nat × Nat)} {s:St} {g:Nat→GM} {a:Act} {w:World},R c g s.fs a w→Gd s ps→∃ g',R c g' (s.xn ps).fs a w
 | [],s,g,a,w,hR,_=>⟨g,hR⟩
 | (d,es)::r,s,g,a,w,hR,h=>by
  obtain ⟨g1,h1⟩:=hR.ph (es:=es) h.1.1 h.1.2
  exact R.xn (ps:=r) (s:=s.ph d es) h1 h.2
theorem Xoh {ps:List (Nat × Nat)} {b:TC} {Q:EX→St→Prop} {s:St} (h0:Gd s ps) (h:sk P c b Q (s.xn ps)):sk P c b Q s:=fun code he g a w hR=>by
 obtain ⟨g1,h1⟩:=hR.xn h0
 exact h code he g1 a w h1
end
attribute [go_sem] St.ph St.xn Gd
section
variable {P:Program} {c:Cx}
def xo (d:Option Nat) (gd:Option (Nat × Bool)):bq:=⟨jL gd,[],d.toList,[]⟩
theorem Rr {s:St} {d:Option Nat} {k:PK} {xs:List TV} {gd:Option (Nat × Bool)} (hb:gB s.fs gd=some false) (aU:fL s.fs gd):Ky P c (.pd d k xs gd) s.fs (xo d gd) (s.bQ d (.dp false .any)).fs:=by
 intro ops io he
 obtain ⟨bm,bc,hd,ys,aJ,rfl⟩:=Zt he
 have eS:(s.bQ d (.dp false .any)).fs=match d with|some d=>s.fs.put d (.dp false .any)|none=>s.fs:=by
  cases d with
  | none=>rfl
  | some d=>exact St.bS _ _ _
 rw[eS]
 refine ⟨fun i hi=>?_,fun b _=>by cases d<;>rfl,?_⟩
 ·cases d with
  | none=>rfl
  | some d=>show (s.fs.put d _).T i=_;rw[FS.de,if_neg (fun e=>hi (by simp[xo,e]))]
 ·intro s2 hT hH g a w hR K Q' hK
  have hg:∀ t b,gd=some (t,b)→s2.T t=s.fs.T t:=fun t b e=>hT t (by simp[xo,e,jL])
  have n8:gB s2 gd=gB s.fs gd:=by
   cases gd with
   | none=>rfl
   | some p=>obtain ⟨t,b⟩:=p;simp only[gB,hg t b rfl]
  have n9:fL s2 gd:=by
   cases gd with
   | none=>exact aU
   | some p=>obtain ⟨t,b⟩:=p;simpa only[fL,hg t b rfl] using aU
  have l7:K (a.put io.dst undef) w:=by
   rw[bc]
   cases d with
   | none =>
    refine hK g _ w ?_
    have:dh s2 s.fs (xo none gd)=s2:=by unfold dh xo;simp
    simp only[this];exact hR
   | some d =>
    refine hK g _ w ?_
    show R c g (dh s2 (s.fs.put d _) ⟨jL gd,[],[d],[]⟩) _ _
    rw[wV]
    exact hR.put (by simpa using hd) (.dp (fun h=>by cases h) fun _=>rfl)
  unfold mq
  rw[u6 bm hR n9,n8,hb]
  simp only[Option.getD_some,Bool.false_eq_true,if_false]
  exact l7
theorem Yo {r0:List bF} {K:St→Prop} {s:St} {d:Option Nat} {k:PK} {xs:List TV} {gd:Option (Nat × Bool)} (hb:gB s.fs gd=some false) (aU:fL s.fs gd∧XP P c r0 K (s.bQ d (.dp false .any))):Yl P c (.pd d k xs gd) r0 K s :=
 .inl ⟨_,_,Rr hb aU.1,aU.2⟩
theorem Yc {anc:List Nat} {fs:List bq} {r0:List bF} {K:St→Prop} {s:St} {d:Option Nat} {k:PK} {xs:List TV} {gd:Option (Nat × Bool)} (hb:gB s.fs gd=some false) (aU:fL s.fs gd∧XD P c anc r0 (xo d gd::fs) K (s.bQ d (.dp false .any))):Zr P c anc (.pd d k xs gd) r0 fs K s :=
 ⟨_,_,Rr hb aU.1,aU.2⟩
end
attribute [go_sem] xo
section
variable {P:Program} {c:Cx}
theorem KG {s s':St} {d:Option Nat} {k:PK} {f:FuncId} {xs:List TV} {σ:Nat→Nat} {args:List AV} {aI:List (Nat × Bk)} {m:Nat} {r:AV} {ax:List (Nat × Bk)} {n:Nat} {N:List Nat} (eG:GS P c.gl f args aI m r ax n)
  (iM:∀ (o:Oper) (ys:List Operand),Yh P o=some (k,ys)→xs=ys.map aT→∀ (s2:FS) (g:Nat→GM) (a:Act) (w:World),(∀ i ∈ Xp xs,s2.T i=s.fs.T i)→R c g s2 a w→∃ vs:List Value,(execOp a.eval o).run P w=.ok (.enter f vs.toArray) w∧bL g (Qo c g s2) w (ay σ args) vs)
  (vl:∀ b b',b < n→b' < n→σ b=σ b'→b=b') (gZ:∀ p ∈ aI,p.1 < m∧bG m p.2∧s.fs.H (σ p.1)=Xg σ p.2) (qt:∀ b,b < m→∃ p ∈ aI,p.1=b) (hle:m≤n) (bp:∀ b,m≤b→b < n→s.fs.H (σ b)=.free)
  (lz:∀ p ∈ ax,p.1 < n∧bG n p.2) (KH:Qe n r) (wQ:ai m args)
  (su:∀ b,b < n→σ b ∈ N) (pC:∀ j ∈ N,∃ b,b < n∧σ b=j)
  (mG:∀ i,s'.fs.T i=match d with|some d=>(if d=i then aD σ r else s.fs.T i)|none=>s.fs.T i) (qy:∀ b,b < n→s'.fs.H (σ b)=qs σ (Qc ax n b)) (lp:∀ j,j ∉ N→s'.fs.H j=s.fs.H j):Ky P c (.pd d k xs none) s.fs ⟨Xp xs,N,d.toList,N⟩ s'.fs:=by
 intro ops io he
 obtain ⟨bm,bc,hd,ys,aJ,rfl⟩:=Zt he
 refine ⟨fun i hi=>?_,fun j hj=>lp j hj,fun s2 hT hH g a w hR K Q' hK=>Yz (Jz bm) ?_⟩
 ·rw[mG]
  cases d with
  | none=>rfl
  | some d=>simp only[Option.toList_some,List.mem_singleton]at hi;simp only;rw[if_neg fun e=>hi e.symm]
 ·obtain ⟨vs,dJ,hv⟩:=iM io ys aJ rfl s2 g a w hT hR
  have lq:Fit σ s2 aI m:=by
   refine ⟨fun p hp=>?_,fun p hp q hq e=>vl _ _ (Nat.lt_of_lt_of_le (gZ p hp).1 hle) (Nat.lt_of_lt_of_le (gZ q hq).1 hle) e⟩
   obtain ⟨q1,q2,q3⟩:=gZ p hp
   exact ⟨q1,q2,by rw[hH _ (su p.1 (Nat.lt_of_lt_of_le q1 hle))];exact q3⟩
  have bN:∀ b,m≤b→b < n→s2.H (σ b)=.free:=fun b h1 h2=>by
   rw[hH _ (su b h2)];exact bp b h1 h2
  obtain ⟨g1,jz,sr,ss⟩:=F8 hR lq
  have nc:=CG (g1:=g1) jz ss wQ hv
  have cN:=eG.2 w _ _ _ g1 sr nc
  unfold Oper.wp
  rw[dJ]
  rw[Oper.upon_enter]
  refine cN.mono fun e w' ⟨v,g2,e1,e2,e3,e4⟩=>?_
  subst e1
  let s3:FS:=⟨s2.T,fun j=>if j ∈ N then s'.fs.H j else s2.H j⟩
  have hb:xj σ s2 s3 ax n:=by
   refine ⟨fun i=>rfl,fun b dO=>?_,fun j hj=>?_⟩
   ·show (if _ then _ else _)=_
    rw[if_pos (su b dO),qy b dO]
   ·show (if _ then _ else _)=_
    rw[if_neg fun h=>?_]
    obtain ⟨b,dO,rfl⟩:=pC j h
    exact hj b dO rfl
  obtain ⟨j9,eO⟩:=Ro hR lq qt hle vl bN (fun p hp=>(lz p hp).2) (fun p hp=>(lz p hp).1) jz e3 e2 hb
  have tK:=eO KH e4
  show K (a.put io.dst v) w'
  rw[bc]
  cases d with
  | none =>
   refine hK (Jx g g2 σ n) _ w' ?_
   have:dh s2 s'.fs ⟨Xp (ys.map aT),N,[],N⟩=s3:=by
    refine pA (fun i=>?_) fun j=>rfl
    show (if i ∈ ([]:List Nat) then s'.fs.T i else s2.T i)=s2.T i
    simp
   show R c _ (dh s2 s'.fs ⟨Xp (ys.map aT),N,[],N⟩) _ _
   rw[this];exact j9
  | some d =>
   refine hK (Jx g g2 σ n) _ w' ?_
   have:dh s2 s'.fs ⟨Xp (ys.map aT),N,[d],N⟩=s3.put d (aD σ r):=by
    refine pA (fun i=>?_) fun j=>rfl
    show (if i ∈ [d] then s'.fs.T i else s2.T i)=_
    rw[FS.de,mG]
    by_cases h:d=i
    ·subst h;simp
    ·rw[if_neg (by simpa using fun e:i=d=>h e.symm),if_neg h]
   show R c _ (dh s2 s'.fs ⟨Xp (ys.map aT),N,[d],N⟩) _ _
   rw[this];exact j9.put (by simpa using hd) tK
theorem Yac {s:St} {d:Option Nat} {k:PK} {f:FuncId} {xs:List TV} {ins:List Nat} {args:List AV} {aI:List (Nat × Bk)} {m:Nat} {r:AV} {ax:List (Nat × Bk)} {n:Nat} (eG:GS P c.gl f args aI m r ax n)
  (iM:∀ (o:Oper) (ys:List Operand),Yh P o=some (k,ys)→xs=ys.map aT→∀ (s2:FS) (g:Nat→GM) (a:Act) (w:World),(∀ i ∈ Xp xs,s2.T i=s.fs.T i)→R c g s2 a w→∃ vs:List Value,(execOp a.eval o).run P w=.ok (.enter f vs.toArray) w∧bL g (Qo c g s2) w (ay (sg ins m s.n) args) vs)
  (ok:ll s.fs s.n ins args aI m r ax n):Ky P c (.pd d k xs none) s.fs (tI s d xs ins m n) (ln s d ins m r ax n).fs:=by
 have vl:∀ b b',b < n→b' < n→sg ins m s.n b=sg ins m s.n b'→b=b':=fun b b' _ _ e=>KF ok.ins e
 have hlen:ins.length=m:=by
  have:=ok.ins;simp only[xl,Bool.and_eq_true,beq_iff_eq]at this;exact this.1.1
 -- the names wW are tJ
 have fE:∀ b,b < n→sg ins m s.n b ∈ ins++jA s.n m n:=fun b hb=>by
  unfold sg
  split
  ·rename_i h
   refine List.mem_append_left _ ?_
   simp only[List.getD,List.getElem?_eq_getElem (show b < ins.length by omega),Option.getD_some];exact List.getElem_mem _
  ·refine List.mem_append_right _ ?_
   simp only[jA,tH];exact ⟨b - m,by omega,rfl⟩
 have la:∀ j,j ∈ ins++jA s.n m n→∃ b,b < n∧sg ins m s.n b=j:=fun j hj=>by
  rcases List.mem_append.1 hj with h|h
  ·obtain ⟨i,hi,rfl⟩:=List.getElem_of_mem h
   have:=ok.le
   refine ⟨i,by omega,?_⟩
   unfold sg;rw[if_pos af];simp[List.getD,hi]
  ·simp only[jA,tH]at h
   obtain ⟨i,hi,rfl⟩:=h
   exact ⟨m + i,by omega,by unfold sg;rw[if_neg af];omega⟩
 have qx:∀ j,(ln s d ins m r ax n).fs.H j=Qc (da (sg ins m s.n) ax n n++s.h) (s.n + (n - m)) j:=fun j=>by cases d<;>rfl
 have mG:∀ i,(ln s d ins m r ax n).fs.T i=match d with|some d=>(if d=i then aD (sg ins m s.n) r else s.fs.T i)|none=>s.fs.T i:=fun i=>by
  cases d with
  | none=>rfl
  | some d=>show look ((d,_)::s.t) i=_;rw[Zo];rfl
 have qy:∀ b,b < n→Qc (da (sg ins m s.n) ax n n++s.h) (s.n + (n - m)) (sg ins m s.n b)=qs (sg ins m s.n) (Qc ax n b):=fun b hb=>by
  rcases Gc (da (sg ins m s.n) ax n n) s.h (s.n + (n - m)) (sg ins m s.n b) with ⟨_,p,hp,e1,e2⟩|⟨h1,_⟩
  ·obtain ⟨b',bJ,rfl⟩:=xm.1 hp
   have:=vl b' b bJ hb e1
   subst this;exact e2
  ·exact (h1 _ (xm.2 ⟨b,hb,rfl⟩) rfl).elim
 have lp:∀ j,j ∉ ins++jA s.n m n→Qc (da (sg ins m s.n) ax n n++s.h) (s.n + (n - m)) j=s.fs.H j:=fun j hj=>by
  rcases Gc (da (sg ins m s.n) ax n n) s.h (s.n + (n - m)) j with ⟨⟨p,hp,e⟩,_⟩|⟨_,h2⟩
  ·obtain ⟨b,hb,rfl⟩:=xm.1 hp
   exact (hj (e ▸ fE b hb)).elim
  ·rw[h2]
   show Qc s.h (s.n + (n - m)) j=Qc s.h s.n j
   have b9:∀ k,k≤n - m→Qc s.h (s.n + k) j=Qc s.h s.n j:=fun k hk=>by
    induction k with
    | zero=>rfl
    | succ k ih =>
     rw[← ih af]
     refine Kz s.h (s.n + k) j fun e=>hj ?_
     refine List.mem_append_right _ ?_
     simp only[jA,tH];exact ⟨k,by omega,e.symm⟩
   exact b9 _ (Nat.le_refl _)
 exact KG (σ:=sg ins m s.n) (N:=ins++jA s.n m n) eG iM vl (fun p hp=>KA ok.fit p hp) (fun b hb=>by
  have:=KD.2 hb
  rw[← ok.fN,KC]at this
  obtain ⟨p,hp,e⟩:=List.mem_map.1 this
  exact ⟨p,hp,e⟩) ok.le (fun b h1 h2=>by
  refine KB ok.free _ ?_
  unfold sg;rw[if_neg af]
  simp only[jA,tH];exact ⟨b - m,by omega,rfl⟩) (fun p hp=>Gb ok.out p hp) ok.nr ok.na fE la (fun i=>by rw[mG];cases d<;>rfl) (fun b hb=>by rw[qx];exact qy b hb) (fun j hj=>by rw[qx];exact lp j hj)
theorem KI {o:Oper} {xs:List Operand} (h:Yh P o=some (.cu,xs)):∃ x ys ts,xs=x::ys∧o.op=.call ⟨.value x,ys.toArray,ts⟩:=by
 unfold Yh at h
 repeat' split at h
 all_goals first
  | (simp only[Option.some.injEq,Prod.mk.injEq,true_and]at h;subst h;rename_i bh;exact ⟨_,_,_,rfl,by rw[bh]⟩)
  | (simp at h;done)
  | (cases h;done)
  | (simp[Option.map_eq_some_iff]at h;done)
theorem KJ {f:FuncId} (hc:zS P f) {o:Oper} {x:Operand} {ys:List Operand} {ts:Array TypeId} (ho:o.op=.call ⟨.value x,ys.toArray,ts⟩) (a:Act) (w:World) (us:Array Value) (hx:a.eval x=.func (.func f) #[] us) :
  (execOp a.eval o).run P w=.ok (.enter f (ys.map a.eval++us.toList).toArray) w:=by
 have e:(ys.map a.eval++us.toList).toArray=(ys.map a.eval).toArray++us:=Array.ext' au
 rw[e]
 obtain ⟨fn,h1,h2,h3⟩:=hc
 have JN:fn.body≠none:=fun e=>by rw[e]at h2;cases h2
 have JO : fn.name ≠ "runtime.NumGoroutine" := fun e => by rw [e] at h3; cases h3
 simp[execOp,ho,resolve,hx,Deferred.ofValue,invoke,callFunc,program,Sem.run,h1,JN,JO]
theorem Ge {g:Nat→GM} {W:Nat→Prop} {w:World}:∀ {xs ys:List AV} {us vs:List Value},bL g W w xs us→bL g W w ys vs→bL g W w (xs++ys) (us++vs)
 | [],_,[],_,_,h=>h
 | _::_,_,_::_,_,h,k=>⟨h.1,Ge h.2 k⟩
 | [],_,_::_,_,h,_=>h.elim
 | _::_,_,[],_,h,_=>h.elim
theorem Gf {g:Nat→GM} {W:Nat→Prop} {w:World}:∀ {xs:List AV} {us:List Value},us.length=xs.length→(∀ j,j < xs.length→VR g W w (xs.getD j .any) (us.getD j undef))→bL g W w xs us
 | [],[],_,_=>trivial
 | x::xs,u::us,hl,h=>⟨by simpa using h 0 au,Gf (by simpa using hl) fun j hj=>by simpa using h (j + 1) (by simp;omega)⟩
 | [],_::_,hl,_=>by simp at hl
 | _::_,[],hl,_=>by simp at hl
def tL:List AV→Option (FuncId × List AV)
 | .cl f caps::r=>some (f,r++caps)
 | _=>none
theorem Rs {s:St} {d:Option Nat} {f:FuncId} {xs:List TV} {ins:List Nat} {args:List AV} {aI:List (Nat × Bk)} {m:Nat} {r:AV} {ax:List (Nat × Bk)} {n:Nat} (eG:GS P c.gl f args aI m r ax n) (hc:Qv none (aG c.gl s.fs xs))
  (aM:tL ((aG c.gl s.fs xs).map Qk)=some (f,ay (sg ins m s.n) args)) (ok:ll s.fs s.n ins args aI m r ax n):Ky P c (.pd d .cu xs none) s.fs (tI s d xs ins m n) (ln s d ins m r ax n).fs:=by
 refine Yac eG (fun o zs aJ tM s2 g a w hT hR=>?_) ok
 obtain ⟨x,ys,ts,rfl,bh⟩:=KI aJ
 subst tM
 have bn:aG c.gl s2 ((x::ys).map aT)=aG c.gl s.fs ((x::ys).map aT):=Yj fun i hi=>hT i hi
 have hv:=Yp (hR.aG (x::ys)) (by rw[bn];exact hc)
 rw[bn]at hv
 generalize (aG c.gl s.fs ((x::ys).map aT)).map Qk=zs at aM hv
 cases zs with
 | nil=>simp[tL]at aM
 | cons z zs =>
  unfold tL at aM
  split at aM
  ·rename_i f' qz r' heq
   simp only[Option.some.injEq,Prod.mk.injEq]at aM
   obtain ⟨rfl,aM⟩:=aM
   simp only[List.cons.injEq]at heq
   obtain ⟨rfl,rfl⟩:=heq
   rw[List.map_cons]at hv
   obtain ⟨h1,h2⟩:=hv
   generalize hx:a.eval x=vx at h1
   cases h1 with
   | cl hs h =>
    refine ⟨_,KJ eG.1 bh a w _ hx,?_⟩
    rw[← aM]
    have:=Ge h2 (Gf (xs:=qz) (us:=Array.toList _) (by simpa using hs) fun j hj=>by
     have:=h j hj
     simpa [Array.getD_eq_getD_getElem?,List.getD] using this)
    exact this
  ·cases aM
theorem Qx {r0:List bF} {K:St→Prop} {s:St} {d:Option Nat} {f:FuncId} {xs:List TV} {ins:List Nat} {args:List AV} {aI:List (Nat × Bk)} {m:Nat} {r:AV} {ax:List (Nat × Bk)} {n:Nat} (eG:GS P c.gl f args aI m r ax n)
  (aM:tL ((aG c.gl s.fs xs).map Qk)=some (f,ay (sg ins m s.n) args)) (h:Qv none (aG c.gl s.fs xs)∧ll s.fs s.n ins args aI m r ax n∧XP P c r0 K (ln s d ins m r ax n)):Yl P c (.pd d .cu xs none) r0 K s :=
 .inl ⟨_,_,Rs eG h.1 aM h.2.1,h.2.2⟩
theorem Qt {anc:List Nat} {fs:List bq} {r0:List bF} {K:St→Prop} {s:St} {d:Option Nat} {f:FuncId} {xs:List TV} {ins:List Nat} {args:List AV} {aI:List (Nat × Bk)} {m:Nat} {r:AV} {ax:List (Nat × Bk)} {n:Nat} (eG:GS P c.gl f args aI m r ax n)
  (aM:tL ((aG c.gl s.fs xs).map Qk)=some (f,ay (sg ins m s.n) args)) (h:Qv none (aG c.gl s.fs xs)∧ll s.fs s.n ins args aI m r ax n∧XD P c anc r0 (tI s d xs ins m n::fs) K (ln s d ins m r ax n)):Zr P c anc (.pd d .cu xs none) r0 fs K s :=
 ⟨_,_,Rs eG h.1 aM h.2.1,h.2.2⟩
theorem Rt {N:Nat} {ops:Array Oper} {io:Oper} {d:Option Nat} {k:PK} {xs:List TV} {gd:Option (Nat × Bool)} (h:Ui P N ops io=some (.pd d k xs gd)):Ui P N ops { io with guard:=none }=some (.pd d k xs none):=by
 have kR:mo ops { io with guard:=none }=some none:=rfl
 have hq:tq P { io with guard:=none }=tq P io:=rfl
 have hp:Yh P { io with guard:=none }=Yh P io:=rfl
 unfold Ui at h ⊢
 rw[kR,hq,hp]
 split at h
 ·cases h
 ·rename_i Cc hg
  dsimp only
  split at h
  ·split at h
   ·split at h<;>simp at h
   ·cases h
  ·split at h<;>simp at h
  ·split at h<;>simp at h
  ·rename_i n1 n2 n3
   have rest:∀ {α:Type} (x:α),x=x:=fun _=>rfl
   split at h
   ·split at h<;>simp at h
   ·rename_i n4
    split at h
    ·rename_i k' ys hk
     split at h
     ·rename_i hd
      simp only[Option.some.injEq,bF.pd.injEq]at h
      obtain ⟨rfl,rfl,rfl,rfl⟩:=h
      split
      all_goals first
       | (exfalso;apply n1<;>assumption)
       | (exfalso;apply n2<;>assumption)
       | (exfalso;apply n3<;>assumption)
       | (exfalso;apply n4<;>assumption)
       | rfl
       | (exfalso;contradiction)
     ·cases h
    ·cases h
theorem KK {s:FS} {s':FS} {d:Option Nat} {k:PK} {xs:List TV} {gd:Option (Nat × Bool)} {F:bq} (hb:gB s gd=some true) (aU:fL s gd) (h:Ky P c (.pd d k xs none) s F s'):Ky P c (.pd d k xs gd) s ⟨jL gd++F.rt,F.rb,F.wt,F.wb⟩ s':=by
 intro ops io he
 obtain ⟨bm,bc,hd,ys,aJ,rfl⟩:=Zt he
 obtain ⟨h1,h2,h3⟩:=h ops _ (Rt he)
 refine ⟨h1,h2,fun s2 hT hH g a w hR K Q' hK=>?_⟩
 have hg:∀ t b,gd=some (t,b)→s2.T t=s.T t:=fun t b e=>hT t (by simp[e,jL])
 have n8:gB s2 gd=gB s gd:=by
  cases gd with
  | none=>rfl
  | some p=>obtain ⟨t,b⟩:=p;simp only[gB,hg t b rfl]
 have n9:fL s2 gd:=by
  cases gd with
  | none=>exact aU
  | some p=>obtain ⟨t,b⟩:=p;simpa only[fL,hg t b rfl] using aU
 have h4:=h3 s2 (fun i hi=>hT i (by simp[hi])) hH g a w hR K Q' hK
 unfold mq at h4 ⊢
 rw[u6 bm hR n9,n8,hb]
 rw[FD rfl,if_pos rfl]at h4
 rw[Option.getD_some,if_pos rfl]
 exact h4
theorem vn {r0:List bF} {K:St→Prop} {s:St} {d:Option Nat} {k:PK} {xs:List TV} {gd:Option (Nat × Bool)} (hb:gB s.fs gd=some true) (aU:fL s.fs gd) (h:Yl P c (.pd d k xs none) r0 K s):Yl P c (.pd d k xs gd) r0 K s:=by
 rcases h with ⟨F,s',h1,h2⟩|h
 ·exact .inl ⟨_,s',KK hb aU h1,h2⟩
 ·refine .inr fun ops io he g a w hR K' Q' hK=>?_
  obtain ⟨bm,bc,hd,ys,aJ,rfl⟩:=Zt he
  have h4:=h ops _ (Rt he) g a w hR K' Q' hK
  unfold mq at h4 ⊢
  rw[u6 bm hR aU,hb]
  rw[FD rfl,if_pos rfl]at h4
  rw[Option.getD_some,if_pos rfl]
  exact h4
end
theorem Xhd (f:FuncId) (caps r:List AV):tL (.cl f caps::r)=some (f,r++caps):=rfl
attribute [go_sem] Xhd
section
variable {P:Program} {c:Cx}
theorem z1 {o:bF} {r:List bF} {K:St→Prop} {s:St} (h:Yl P c o r K s):Yl P c o r K s:=h
theorem z2 {t:TC} {Q:EX→St→Prop} {s:St} (h:xw P c t Q s):xw P c t Q s:=h
theorem z3 {anc:List Nat} {o:bF} {r:List bF} {fs:List bq} {K:St→Prop} {s:St} (h:Zr P c anc o r fs K s):Zr P c anc o r fs K s:=h
end
attribute [go_sem] if_true if_false List.length_replicate List.length_take List.length_drop List.length_set List.length_cons List.length_nil decide_true decide_false bne_self_eq_false beq_self_eq_true
def tN (n:Nat):Nat:=n
theorem aB:tN 1=1:=rfl
theorem aQ:tN 2=2:=rfl
theorem a8:tN 3=3:=rfl
theorem bU:tN 4=4:=rfl
theorem cI:tN 5=5:=rfl
theorem dC:tN 6=6:=rfl
theorem fc:tN 7=7:=rfl
theorem jk:tN 8=8:=rfl
theorem sv:tN 9=9:=rfl
class Main (p:Prop):Prop where
 it:True
instance {P:Program} {c:Cx} {o:bF} {r:List bF} {K:St→Prop} {s:St}:Main (Yl P c o r K s):=⟨trivial⟩
instance {P:Program} {c:Cx} {t:TC} {Q:EX→St→Prop} {s:St}:Main (xw P c t Q s):=⟨trivial⟩
instance {P:Program} {c:Cx} {anc:List Nat} {o:bF} {r:List bF} {fs:List bq} {K:St→Prop} {s:St}:Main (Zr P c anc o r fs K s):=⟨trivial⟩
instance {P:Program} {c:Cx} {b:TC} {Q:EX→St→Prop} {s:St}:Main (sk P c b Q s):=⟨trivial⟩
theorem zm {p:Prop} [Main p] (h:p):p:=h
theorem XG {p q:Prop} (k:q) (h:p=q:=by (conv=>lhs;simp (disch:=first|omega|(simp only[go_sem]<;>omega)|fail) only[go_sem,↓reduceIte,Nat.reduceBEq,Nat.reduceAdd,Nat.reduceMul,Nat.reduceSub,Nat.reduceLT,Nat.reduceLeDiff,Nat.reduceEqDiff,Int.reduceToNat,Int.reduceBEq,Int.reduceBNe,Int.reduceLT,Int.reduceLE,Int.reduceEq,aB,aQ,a8,bU,cI,dC,fc,jk,sv])):p:=h.mpr k
theorem XM {p q:Prop} (k:q) (h:p=q:=by (conv=>lhs;simp (disch:=first|omega|(simp only[go_sem]<;>omega)|fail) only[go_sem,↓reduceIte,Nat.reduceBEq,Nat.reduceAdd,Nat.reduceMul,Nat.reduceSub,Nat.reduceLT,Nat.reduceLeDiff,Nat.reduceEqDiff,Int.reduceToNat,Int.reduceBEq,Int.reduceBNe,Int.reduceLT,Int.reduceLE,Int.reduceEq,Int.reduceMul,Int.reduceAdd,Int.reduceSub,aB,aQ,a8,bU,cI,dC,fc,jk,sv])):p:=h.mpr k
theorem CL {p:Prop} (h:p:=by (first|exact True.intro|omega|(show Uw _ _ _=true;decide +kernel)|(refine fun _=>?_;simp_all;done)|fail)):p:=h
theorem Qa {P:Program} {c:Cx} {Q:EX→St→Prop} {s:St} {x:TV} {a b:TC} {t:Bool} {A B:Prop} (ht:A→xw P c a Q s) (hf:B→xw P c b Q s)
  (h:aZ c.gl s.fs x=.bool t:=by (refine XG ?_;first|exact rfl|exact True.intro|fail))
  (hA:(t=true)=A:=by (conv=>lhs;(try simp only[decide_eq_true_eq,decide_eq_false_iff_not,Bool.or_eq_true,Bool.and_eq_true,Bool.not_eq_true',Bool.or_eq_false_iff,Bool.and_eq_false_iff,Bool.not_eq_false',beq_iff_eq,bne_iff_ne,ne_eq,beq_eq_false_iff_ne,bne_eq_false_iff_eq,Bool.true_eq_false,Bool.false_eq_true,Decidable.not_not])))
  (hB:(t=false)=B:=by (conv=>lhs;(try simp only[decide_eq_true_eq,decide_eq_false_iff_not,Bool.or_eq_true,Bool.and_eq_true,Bool.not_eq_true',Bool.or_eq_false_iff,Bool.and_eq_false_iff,Bool.not_eq_false',beq_iff_eq,bne_iff_ne,ne_eq,beq_eq_false_iff_ne,bne_eq_false_iff_eq,Bool.true_eq_false,Bool.false_eq_true,Decidable.not_not]))):xw P c (.cond x a b) Q s :=
 Yfd h (fun e=>ht (hA.mp e)) (fun e=>hf (hB.mp e))
structure hZ (q:Prop):Prop where
 it:q
def sx (_:List Nat):Prop:=True
theorem ip (l:List Nat):sx l:=trivial
theorem An {p q:Prop} (a:p) (b:q):p∧q:=⟨a,b⟩
@[reducible] def sy {l:List Nat} (_:sx l):List Nat:=l
theorem Qf {p q:Prop} (k:q) (h:hZ q→p:=by (intro zk;(refine XG ?_;(try (repeat' with_reducible refine And.intro ?_ ?_));(try any_goals (first|refine zm ?_|exact CL|fail)));exact zk.it)):p:=h ⟨k⟩
theorem Qs {p:Prop} (h:p:=by ((refine XG ?_;(try (repeat' with_reducible refine And.intro ?_ ?_));(try any_goals (first|refine zm ?_|exact CL|fail))))):p:=h
theorem Zg {FP:Prop} {p q:Prop} (fp:FP) (k:q) (h:FP→hZ q→p:=by (intro zp zk;((first|apply Yx|apply Ym|apply Xz|apply Xs)<;>(first|exact zp|(refine XG ?_;first|exact rfl|exact True.intro|((try (repeat' with_reducible refine And.intro ?_ ?_));(try any_goals (first|refine zm ?_|exact CL|fail))))));exact zk.it)):p:=h fp ⟨k⟩
theorem KL {FP:Prop} {p:Prop} (fp:FP) (h:FP→p:=by (intro zp;((first|apply Yx|apply Ym|apply Xz|apply Xs)<;>(first|exact zp|(refine XG ?_;first|exact rfl|exact True.intro|((try (repeat' with_reducible refine And.intro ?_ ?_));(try any_goals (first|refine zm ?_|exact CL|fail)))))))):p:=h fp
theorem Jw {p q:Prop} (k:q) (h:hZ q→p:=by (intro zk;((first|apply z7|apply z8|apply Aa|apply Ab|apply Ad|apply Ae);refine XG ?_;(try (repeat' with_reducible refine And.intro ?_ ?_));(try any_goals (first|refine zm ?_|exact CL|fail)));exact zk.it)):p:=h ⟨k⟩
theorem Yg9 {li:List Nat} {FP:Prop} {p q:Prop} (fi:sx li) (fp:FP) (k:q) (h:sx li→FP→hZ q→p:=by (intro zi zp zk;((first|refine Xa (ins:=sy zi) zp ?_ ?_|refine Qw (ins:=sy zi) zp ?_ ?_|refine Qx (ins:=sy zi) zp ?_ ?_|refine Qt (ins:=sy zi) zp ?_ ?_)<;>(dsimp only[sy];refine XG ?_;(try first|exact rfl|exact True.intro);(try (repeat' with_reducible refine And.intro ?_ ?_));(try any_goals (first|refine zm ?_|exact CL|fail))));exact zk.it)):p:=h fi fp ⟨k⟩
theorem Yfw {li:List Nat} {FP:Prop} {p:Prop} (fi:sx li) (fp:FP) (h:sx li→FP→p:=by (intro zi zp;((first|refine Xa (ins:=sy zi) zp ?_ ?_|refine Qw (ins:=sy zi) zp ?_ ?_|refine Qx (ins:=sy zi) zp ?_ ?_|refine Qt (ins:=sy zi) zp ?_ ?_)<;>(dsimp only[sy];refine XG ?_;(try first|exact rfl|exact True.intro);(try (repeat' with_reducible refine And.intro ?_ ?_));(try any_goals (first|refine zm ?_|exact CL|fail)))))):p:=h fi fp
theorem Ux {p q:Prop} (k:q) (h:hZ q→p:=by (intro zk;(refine XM ?_;(try (repeat' with_reducible refine And.intro ?_ ?_));(try any_goals (first|refine zm ?_|exact CL|fail)));exact zk.it)):p:=h ⟨k⟩
theorem Yg1 {p:Prop} (h:p:=by ((refine XM ?_;(try (repeat' with_reducible refine And.intro ?_ ?_));(try any_goals (first|refine zm ?_|exact CL|fail))))):p:=h
theorem ox {FP:Prop} {p q:Prop} (fp:FP) (k:q) (h:FP→hZ q→p:=by (intro zp zk;((first|apply Yx|apply Ym|apply Xz|apply Xs)<;>(first|exact zp|(refine XM ?_;first|exact rfl|exact True.intro|((try (repeat' with_reducible refine And.intro ?_ ?_));(try any_goals (first|refine zm ?_|exact CL|fail))))));exact zk.it)):p:=h fp ⟨k⟩
theorem Qh {F:Prop} {p q:Prop} (f:F) (k:q) (h:F→hZ q→p:=by (intro aB zk;exact Qf zk.it)):p:=h f ⟨k⟩
theorem Qr {F:Prop} {p:Prop} (f:F) (h:F→p:=by (intro aB;exact Qs )):p:=h f
theorem Qy {FP:Prop} {F:Prop} {p q:Prop} (fp:FP) (f:F) (k:q) (h:FP→F→hZ q→p:=by (intro zp aB zk;exact Zg zp zk.it)):p:=h fp f ⟨k⟩
theorem xq {FP:Prop} {F:Prop} {p:Prop} (fp:FP) (f:F) (h:FP→F→p:=by (intro zp aB;exact KL zp)):p:=h fp f
theorem Zm {F:Prop} {p q:Prop} (f:F) (k:q) (h:F→hZ q→p:=by (intro aB zk;exact Jw zk.it)):p:=h f ⟨k⟩
theorem tO {li:List Nat} {FP:Prop} {F:Prop} {p q:Prop} (fi:sx li) (fp:FP) (f:F) (k:q) (h:sx li→FP→F→hZ q→p:=by (intro zi zp aB zk;exact Yg9 zi zp zk.it)):p:=h fi fp f ⟨k⟩
theorem Ke {li:List Nat} {FP:Prop} {F:Prop} {p:Prop} (fi:sx li) (fp:FP) (f:F) (h:sx li→FP→F→p:=by (intro zi zp aB;exact Yfw zi zp)):p:=h fi fp f
theorem Zy {F:Prop} {p q:Prop} (f:F) (k:q) (h:F→hZ q→p:=by (intro aB zk;exact Ux zk.it)):p:=h f ⟨k⟩
theorem kA {F:Prop} {p:Prop} (f:F) (h:F→p:=by (intro aB;exact Yg1 )):p:=h f
theorem Aj {FP:Prop} {F:Prop} {p q:Prop} (fp:FP) (f:F) (k:q) (h:FP→F→hZ q→p:=by (intro zp aB zk;exact ox zp zk.it)):p:=h fp f ⟨k⟩
theorem Ru:FT Tryz.prog 135 Tryz.f135 (aO Tryz.prog Tryz.f135) [.t 4,.t 5]:=.of Tryz.func135
theorem Rv:FT Tryz.prog 83 Tryz.f83 (aO Tryz.prog Tryz.f83) [.t 2,.t 3]:=.of Tryz.func83
theorem Xgu:FT Tryz.prog 85 Tryz.f85 (aO Tryz.prog Tryz.f85) [.t 2]:=.of Tryz.func85
theorem Gg:FT Tryz.prog 122 Tryz.f122 (aO Tryz.prog Tryz.f122) [.t 6]:=.of Tryz.func122
theorem Xfo:FT Tryz.prog 123 Tryz.f123 (aO Tryz.prog Tryz.f123) [.t 8,.t 9]:=.of Tryz.func123
structure CH where
 k:Nat
 l:List UInt8
theorem Xb (gl:Nat→AV) (l:List UInt8) (v:Int) (n:Nat) (hn:n≤8) (hl:l.length≤100000000) :
  GS Tryz.prog gl 122 [.sl 1 0 0 l.length l.length,.int .i64 v,.int .i64 n] [(0,.cells (Xo l))] 1 (.sl 1 1 0 (l.length + n) (l.length + n)) [(1,.cells (Xo (l++be v n)))] 2:=by
 refine Gg.gs (of_decide_eq_true rfl) (by simp[Bk.live]) fun c aY hg=>?_
 conv in aO _ _=>cbv
 refine Qf ?_
 refine vd (fun x:CH=>x.k≤n∧x.l++be v x.k=l++be v n) (fun x=>⟨[(0,.sl 1 1 0 x.l.length x.l.length),(1,.int .i64 v),(7,.int .i64 ((x.k:Int) - 1))],[(1,.cells (Xo x.l))],2⟩) (fun x=>x.k) Gg.mixed 1 aY
  ⟨⟨n,l⟩,⟨Nat.le_refl _,rfl⟩,[(1,0)],by exact Qs⟩ fun ⟨k,l'⟩ ⟨hk,he⟩=>?_
 dsimp only at hk he
 refine Qf ?_
 have lh:l'.length + k=l.length + n:=by
  have:=congrArg List.length he
  simpa [Qi] using this
 (refine Qa (fun h1=>?_) (fun h1=>?_)<;>try exact h1.elim)
 ·obtain ⟨k,rfl⟩:∃ j,k=j + 1:=⟨k - 1,by omega⟩
  have e1:(((k + 1:Nat):Int) - 1)=k:=by omega
  rw[e1]at h1 ⊢
  refine Qf ?_
  refine Jw ?_
  refine Jw ?_
  refine ⟨⟨k,l'++[Qg v k]⟩,⟨by dsimp only;omega,?_⟩,⟨[(1,3)],?_⟩,by dsimp only;omega⟩
  ·simpa [be] using he
  ·refine Qf ?_
   rfl
 ·have gT:k=0:=by omega
  subst gT
  simp only[be,List.append_nil]at he
  subst he
  refine Qf ?_
  refine ⟨[],?_⟩
  exact Qr @Qi
structure CI where
 k:Nat
 l:Option (List UInt8)
theorem Ur (gl:Nat→AV) (v:Int) (n:Nat) (hn:n≤8) (h0:0 < n) :
  GS Tryz.prog gl 122 [.nils,.int .i64 v,.int .i64 n] [] 0 (.sl 1 0 0 n n) [(0,.cells (Xo (be v n)))] 1:=by
 refine Gg.gs (of_decide_eq_true rfl) au fun c aY hg=>?_
 conv in aO _ _=>cbv
 refine Qf ?_
 refine vd (fun x:CI=>x.k≤n∧(x.l.getD [])++be v x.k=be v n∧(x.l=none→x.k=n)) (fun x=>match x.l with|none=>⟨[(0,.nils),(1,.int .i64 v),(7,.int .i64 ((x.k:Int) - 1))],[],0⟩|some l=>⟨[(0,.sl 1 0 0 l.length l.length),(1,.int .i64 v),(7,.int .i64 ((x.k:Int) - 1))],[(0,.cells (Xo l))],1⟩) (fun x=>x.k) Gg.mixed 0 aY
  ⟨⟨n,none⟩,⟨Nat.le_refl _,rfl,fun _=>rfl⟩,[],by exact Qs⟩ fun ⟨k,o⟩ ⟨hk,he,b9⟩=>?_
 cases o with
 | none =>
  dsimp only at hk he b9
  obtain rfl:=b9 rfl
  refine Qf ?_
  (refine Qa (fun h1=>?_) (fun h1=>?_)<;>try exact h1.elim)
  ·obtain ⟨k,rfl⟩:∃ j,k=j + 1:=⟨k - 1,by omega⟩
   have e1:(((k + 1:Nat):Int) - 1)=k:=by omega
   rw[e1]at h1 ⊢
   refine Qf ?_
   refine Jw ?_
   refine Jw ?_
   refine ⟨⟨k,some [Qg v k]⟩,⟨by dsimp only;omega,?_,fun h=>by cases h⟩,⟨[(0,1)],?_⟩,by dsimp only;omega⟩
   ·simp[be]
   ·refine Qf ?_
    exact J9 [] _ []
  ·omega
 | some l' =>
  dsimp only[Option.getD_some]at hk he b9
  have lh:l'.length + k=n:=by
   have:=congrArg List.length he
   simpa [Qi] using this
  refine Qf ?_
  (refine Qa (fun h1=>?_) (fun h1=>?_)<;>try exact h1.elim)
  ·obtain ⟨k,rfl⟩:∃ j,k=j + 1:=⟨k - 1,by omega⟩
   have e1:(((k + 1:Nat):Int) - 1)=k:=by omega
   rw[e1]at h1 ⊢
   refine Qf ?_
   refine Jw ?_
   refine Jw ?_
   refine ⟨⟨k,some (l'++[Qg v k])⟩,⟨by dsimp only;omega,?_,fun h=>by cases h⟩,⟨[(0,2)],?_⟩,by dsimp only;omega⟩
   ·simpa [be] using he
   ·refine Qf ?_
    rfl
  ·have gT:k=0:=by omega
   subst gT
   simp only[be,List.append_nil]at he
   subst he
   refine Qf ?_
   refine ⟨[],?_⟩
   exact Qr @Qi
def Ul (t s a b:Int):Bool:=decide (0≤t) && decide (t≤1099511627776) && decide (0≤s) && decide (s < 8) && decide (0≤a) && decide (a < 3) && decide (0≤b) && decide (b < 6)
def Ak (t s a b:Int):Int:=if Ul t s a b=true then 0 else 2
theorem Xf7 (gl:Nat→AV) (t s a b:Int) (f:Bool):PS Tryz.prog gl 85 [.agg [.int .i64 t,.int .i64 s,.int .i64 a,.int .i64 b,.bool f]] (.int .i64 (Ak t s a b)):=by
 refine Xgu.ps (of_decide_eq_true rfl) (by simp[Qe]) fun c hN hg=>?_
 conv in aO _ _=>cbv
 refine Qf ?_
 (repeat' (first|((refine Qa (fun hh=>?_) (fun hh=>?_)<;>try exact hh.elim)<;>refine Qf ?_) ))
 ·unfold Ak Ul;rw[if_neg];simp;omega
 ·unfold Ak Ul;rw[if_pos];simp;omega
def pD (seq time set:Int) (bs:List UInt8):List UInt8:=be 10 2++be (20 + bs.length) 2++be (time.tmod 4294967296) 4++be seq 4++be 1 4++be set 2++be (4 + bs.length) 2++bs
def lA (seq time set:Int) (bs:List UInt8):AV:=if 0≤seq∧seq < 4294967296 then .aX [.str (pD seq time set bs),.int .i64 0] else .aX [.str [],.int .i64 2]
theorem Rw (gl:Nat→AV) (seq time set:Int) (bs:List UInt8) (hl:bs.length≤10000000):PS Tryz.prog gl 123 [.int .i64 seq,.int .i64 time,.int .i64 set,.isl bs.length (Xo bs)] (lA seq time set bs):=by
 refine Xfo.ps (of_decide_eq_true rfl) (by unfold lA;split<;>simp[Qe,ai]) fun c hN hg=>?_
 conv in aO _ _=>cbv
 refine Qf ?_
 (refine Qa (fun h1=>?_) (fun h1=>?_)<;>try exact h1.elim)
 ·refine Qf ?_
  unfold lA;rw[if_neg af]
 ·refine Qf ?_
  ((first|refine Xa (ins:=[]) (Ur c.gl 10 2 (by decide) (by decide)) ?_ ?_|refine Qw (ins:=[]) (Ur c.gl 10 2 (by decide) (by decide)) ?_ ?_|refine Qx (ins:=[]) (Ur c.gl 10 2 (by decide) (by decide)) ?_ ?_|refine Qt (ins:=[]) (Ur c.gl 10 2 (by decide) (by decide)) ?_ ?_)<;>(have aB:=@Qi;refine XG ?_;clear aB;(try first|exact rfl|exact True.intro);((try (repeat' with_reducible refine And.intro ?_ ?_));(try any_goals (first|refine zm ?_|exact CL|fail)))))
  ((first|refine Xa (ins:=[0]) (Xb c.gl (be 10 2) (20 + bs.length) 2 (by decide) (by simp[Qi])) ?_ ?_|refine Qw (ins:=[0]) (Xb c.gl (be 10 2) (20 + bs.length) 2 (by decide) (by simp[Qi])) ?_ ?_|refine Qx (ins:=[0]) (Xb c.gl (be 10 2) (20 + bs.length) 2 (by decide) (by simp[Qi])) ?_ ?_|refine Qt (ins:=[0]) (Xb c.gl (be 10 2) (20 + bs.length) 2 (by decide) (by simp[Qi])) ?_ ?_)<;>(have aB:=@Qi;refine XG ?_;clear aB;(try first|exact rfl|exact True.intro);((try (repeat' with_reducible refine And.intro ?_ ?_));(try any_goals (first|refine zm ?_|exact CL|fail)))))
  ((first|refine Xa (ins:=[1]) (Xb c.gl (be 10 2++be (20 + bs.length) 2) (time.tmod 4294967296) 4 (by decide) (by simp[Qi])) ?_ ?_|refine Qw (ins:=[1]) (Xb c.gl (be 10 2++be (20 + bs.length) 2) (time.tmod 4294967296) 4 (by decide) (by simp[Qi])) ?_ ?_|refine Qx (ins:=[1]) (Xb c.gl (be 10 2++be (20 + bs.length) 2) (time.tmod 4294967296) 4 (by decide) (by simp[Qi])) ?_ ?_|refine Qt (ins:=[1]) (Xb c.gl (be 10 2++be (20 + bs.length) 2) (time.tmod 4294967296) 4 (by decide) (by simp[Qi])) ?_ ?_)<;>(have aB:=@Qi;refine XG ?_;clear aB;(try first|exact rfl|exact True.intro);((try (repeat' with_reducible refine And.intro ?_ ?_));(try any_goals (first|refine zm ?_|exact CL|fail)))))
  ((first|refine Xa (ins:=[2]) (Xb c.gl (be 10 2++be (20 + bs.length) 2++be (time.tmod 4294967296) 4) seq 4 (by decide) (by simp[Qi])) ?_ ?_|refine Qw (ins:=[2]) (Xb c.gl (be 10 2++be (20 + bs.length) 2++be (time.tmod 4294967296) 4) seq 4 (by decide) (by simp[Qi])) ?_ ?_|refine Qx (ins:=[2]) (Xb c.gl (be 10 2++be (20 + bs.length) 2++be (time.tmod 4294967296) 4) seq 4 (by decide) (by simp[Qi])) ?_ ?_|refine Qt (ins:=[2]) (Xb c.gl (be 10 2++be (20 + bs.length) 2++be (time.tmod 4294967296) 4) seq 4 (by decide) (by simp[Qi])) ?_ ?_)<;>(have aB:=@Qi;refine XG ?_;clear aB;(try first|exact rfl|exact True.intro);((try (repeat' with_reducible refine And.intro ?_ ?_));(try any_goals (first|refine zm ?_|exact CL|fail)))))
  ((first|refine Xa (ins:=[3]) (Xb c.gl (be 10 2++be (20 + bs.length) 2++be (time.tmod 4294967296) 4++be seq 4) 1 4 (by decide) (by simp[Qi])) ?_ ?_|refine Qw (ins:=[3]) (Xb c.gl (be 10 2++be (20 + bs.length) 2++be (time.tmod 4294967296) 4++be seq 4) 1 4 (by decide) (by simp[Qi])) ?_ ?_|refine Qx (ins:=[3]) (Xb c.gl (be 10 2++be (20 + bs.length) 2++be (time.tmod 4294967296) 4++be seq 4) 1 4 (by decide) (by simp[Qi])) ?_ ?_|refine Qt (ins:=[3]) (Xb c.gl (be 10 2++be (20 + bs.length) 2++be (time.tmod 4294967296) 4++be seq 4) 1 4 (by decide) (by simp[Qi])) ?_ ?_)<;>(have aB:=@Qi;refine XG ?_;clear aB;(try first|exact rfl|exact True.intro);((try (repeat' with_reducible refine And.intro ?_ ?_));(try any_goals (first|refine zm ?_|exact CL|fail)))))
  ((first|refine Xa (ins:=[4]) (Xb c.gl (be 10 2++be (20 + bs.length) 2++be (time.tmod 4294967296) 4++be seq 4++be 1 4) set 2 (by decide) (by simp[Qi])) ?_ ?_|refine Qw (ins:=[4]) (Xb c.gl (be 10 2++be (20 + bs.length) 2++be (time.tmod 4294967296) 4++be seq 4++be 1 4) set 2 (by decide) (by simp[Qi])) ?_ ?_|refine Qx (ins:=[4]) (Xb c.gl (be 10 2++be (20 + bs.length) 2++be (time.tmod 4294967296) 4++be seq 4++be 1 4) set 2 (by decide) (by simp[Qi])) ?_ ?_|refine Qt (ins:=[4]) (Xb c.gl (be 10 2++be (20 + bs.length) 2++be (time.tmod 4294967296) 4++be seq 4++be 1 4) set 2 (by decide) (by simp[Qi])) ?_ ?_)<;>(have aB:=@Qi;refine XG ?_;clear aB;(try first|exact rfl|exact True.intro);((try (repeat' with_reducible refine And.intro ?_ ?_));(try any_goals (first|refine zm ?_|exact CL|fail)))))
  ((first|refine Xa (ins:=[5]) (Xb c.gl (be 10 2++be (20 + bs.length) 2++be (time.tmod 4294967296) 4++be seq 4++be 1 4++be set 2) (4 + bs.length) 2 (by decide) (by simp[Qi])) ?_ ?_|refine Qw (ins:=[5]) (Xb c.gl (be 10 2++be (20 + bs.length) 2++be (time.tmod 4294967296) 4++be seq 4++be 1 4++be set 2) (4 + bs.length) 2 (by decide) (by simp[Qi])) ?_ ?_|refine Qx (ins:=[5]) (Xb c.gl (be 10 2++be (20 + bs.length) 2++be (time.tmod 4294967296) 4++be seq 4++be 1 4++be set 2) (4 + bs.length) 2 (by decide) (by simp[Qi])) ?_ ?_|refine Qt (ins:=[5]) (Xb c.gl (be 10 2++be (20 + bs.length) 2++be (time.tmod 4294967296) 4++be seq 4++be 1 4++be set 2) (4 + bs.length) 2 (by decide) (by simp[Qi])) ?_ ?_)<;>(have aB:=@Qi;refine XG ?_;clear aB;(try first|exact rfl|exact True.intro);((try (repeat' with_reducible refine And.intro ?_ ?_));(try any_goals (first|refine zm ?_|exact CL|fail)))))
  refine Zm @Qi ?_
  unfold lA pD
  rw[if_pos af,List.take_of_length_le (by simp[Qi])]
def Xi:List Int:=[323,8,8,4,225,4,361,2,362,2,230,1]
def Uy (k:Nat):List UInt8:=be 300 2++be 6 2++(Xi.take (2 * k)).flatMap fun f=>be f 2
theorem Rx:∀ k,k≤6→(Uy k).length=4 + 4 * k:=by decide +kernel
theorem Xpc:∀ k,k < 6→Uy k++be (Xi.getD (2 * k) 0) 2++be (Xi.getD (2 * k + 1) 0) 2=Uy (k + 1):=by decide +kernel
theorem Qzh (gl:Nat→AV) (h0:gl 0=.xp (Qp Xi) 0) (seq:Int):PS Tryz.prog gl 83 [.int .i64 seq] (lA seq 0 2 (Uy 6)):=by
 refine Rv.ps (of_decide_eq_true rfl) (by unfold lA;split<;>simp[Qe,ai]) fun c hN hg=>?_
 conv in aO _ _=>cbv
 have kR:c.gl 0=.xp (Qp Xi) 0:=by rw[hg];exact h0
 have hf:Xi.length=12:=rfl
 refine Qf ?_
 ((first|refine Xa (ins:=[]) (Ur c.gl 300 2 (by decide) (by decide)) ?_ ?_|refine Qw (ins:=[]) (Ur c.gl 300 2 (by decide) (by decide)) ?_ ?_|refine Qx (ins:=[]) (Ur c.gl 300 2 (by decide) (by decide)) ?_ ?_|refine Qt (ins:=[]) (Ur c.gl 300 2 (by decide) (by decide)) ?_ ?_)<;>(have aB:=@Qi;refine XG ?_;clear aB;(try first|exact rfl|exact True.intro);((try (repeat' with_reducible refine And.intro ?_ ?_));(try any_goals (first|refine zm ?_|exact CL|fail)))))
 ((first|refine Xa (ins:=[0]) (Xb c.gl (be 300 2) 6 2 (by decide) (by simp[Qi])) ?_ ?_|refine Qw (ins:=[0]) (Xb c.gl (be 300 2) 6 2 (by decide) (by simp[Qi])) ?_ ?_|refine Qx (ins:=[0]) (Xb c.gl (be 300 2) 6 2 (by decide) (by simp[Qi])) ?_ ?_|refine Qt (ins:=[0]) (Xb c.gl (be 300 2) 6 2 (by decide) (by simp[Qi])) ?_ ?_)<;>(have aB:=@Qi;have aQ:=@kR;have a8:=@hf;refine XG ?_;clear aB aQ a8;(try first|exact rfl|exact True.intro);((try (repeat' with_reducible refine And.intro ?_ ?_));(try any_goals (first|refine zm ?_|exact CL|fail)))))
 refine Xr (fun k:Nat=>k≤6) (fun k=>⟨[(0,.int .i64 seq),(4,.sl 1 0 0 (4 + 4 * k) (4 + 4 * k)),(10,.agg (Qp Xi)),(11,.int .i64 k)],[(0,.cells (Xo (Uy k)))],1⟩) (fun k=>6 - k) Rv.mixed hN
  ⟨0,by omega,[(0,1)],by refine Qf ?_;rfl⟩ fun k hk=>?_
 refine Qf ?_
 (refine Qa (fun h1=>?_) (fun h1=>?_)<;>try exact h1.elim)
 ·have l8:k < 6:=by omega
  have hl:=Rx k hk
  have hs:=Xpc k l8
  have hl2:(Uy k).length≤100000000:=by omega
  have e3:k * 2=2 * k:=by omega
  refine Qh @hf ?_
  ((first|refine Xa (ins:=[0]) (Xb c.gl (Uy k) (Xi.getD (2 * k) 0) 2 (by decide) hl2) ?_ ?_|refine Qw (ins:=[0]) (Xb c.gl (Uy k) (Xi.getD (2 * k) 0) 2 (by decide) hl2) ?_ ?_|refine Qx (ins:=[0]) (Xb c.gl (Uy k) (Xi.getD (2 * k) 0) 2 (by decide) hl2) ?_ ?_|refine Qt (ins:=[0]) (Xb c.gl (Uy k) (Xi.getD (2 * k) 0) 2 (by decide) hl2) ?_ ?_)<;>(have aB:=@Qi;have aQ:=@hf;have a8:=@hl;have bU:=@e3;refine XG ?_;clear aB aQ a8 bU;(try first|exact rfl|exact True.intro);((try (repeat' with_reducible refine And.intro ?_ ?_));(try any_goals (first|refine zm ?_|exact CL|fail)))))
  ((first|refine Xa (ins:=[2]) (Xb c.gl (Uy k++be (Xi.getD (2 * k) 0) 2) (Xi.getD (2 * k + 1) 0) 2 (by decide) (by simp[Qi];omega)) ?_ ?_|refine Qw (ins:=[2]) (Xb c.gl (Uy k++be (Xi.getD (2 * k) 0) 2) (Xi.getD (2 * k + 1) 0) 2 (by decide) (by simp[Qi];omega)) ?_ ?_|refine Qx (ins:=[2]) (Xb c.gl (Uy k++be (Xi.getD (2 * k) 0) 2) (Xi.getD (2 * k + 1) 0) 2 (by decide) (by simp[Qi];omega)) ?_ ?_|refine Qt (ins:=[2]) (Xb c.gl (Uy k++be (Xi.getD (2 * k) 0) 2) (Xi.getD (2 * k + 1) 0) 2 (by decide) (by simp[Qi];omega)) ?_ ?_)<;>(have aB:=@Qi;have aQ:=@hf;have a8:=@hl;have bU:=@e3;refine XG ?_;clear aB aQ a8 bU;(try first|exact rfl|exact True.intro);((try (repeat' with_reducible refine And.intro ?_ ?_));(try any_goals (first|refine zm ?_|exact CL|fail)))))
  refine ⟨k + 1,by omega,⟨[(0,3)],?_⟩,by omega⟩
  exact Qr @hs
 ·have:k=6:=by omega
  subst this
  have KM:(Uy 6).length=28:=Rx 6 af
  have hm:=Rw c.gl seq 0 2 (Uy 6) af
  rw[KM]at hm
  by_cases hq:0≤seq∧seq < 4294967296
  ·have e:lA seq 0 2 (Uy 6)=.aX [.str (pD seq 0 2 (Uy 6)),.int .i64 0]:=if_pos hq
   rw[e]at hm ⊢
   refine Qf ?_
   ((first|apply Wx|apply Ku)<;>(first|exact hm|(with_reducible exact .aX (by simp[Jy.str,Jy.int]))|(have aB:=@KM;refine XG ?_;clear aB;first|exact rfl|exact True.intro|((try (repeat' with_reducible refine And.intro ?_ ?_));(try any_goals (first|refine zm ?_|exact CL|fail))))))
  ·have e:lA seq 0 2 (Uy 6)=.aX [.str [],.int .i64 2]:=if_neg hq
   rw[e]at hm ⊢
   refine Qf ?_
   ((first|apply Wx|apply Ku)<;>(first|exact hm|(with_reducible exact .aX (by simp[Jy.str,Jy.int]))|(have aB:=@KM;refine XG ?_;clear aB;first|exact rfl|exact True.intro|((try (repeat' with_reducible refine And.intro ?_ ?_));(try any_goals (first|refine zm ?_|exact CL|fail))))))
end Go.Proofs.YtogckmommodmhaaGreatDoor
namespace Go.Proofs.YtogckmommodmhaaGreatDoor
open Go.ChangeShapes Go.WideShapes Go.ChangeAt Go.WideMaps Go.WideElems Go.RowKit
open Go.RowKit
set_option linter.all false
set_option linter.unusedSimpArgs false
set_option maxRecDepth 100000
noncomputable def Uk : List (String × DataW Unit) := [("rentroll/record.fields", Rows.laid_rentroll_record_fields)]
theorem Ybt : Tryz.prog.globalNamed "rentroll/record.fields" = some 0 := by kernel_rfl
theorem Xzj:(Tryz.prog.globals[0]?).map (·.type)=some 156:=by kernel_rfl
theorem uF6:Tryz.prog.underlying 156=some (.array 6 155):=by kernel_rfl
theorem uF2:Tryz.prog.underlying 155=some (.array 2 3):=by kernel_rfl
theorem cF2:Tryz.prog.cellsOf 155=2:=by kernel_rfl
theorem cF1:Tryz.prog.cellsOf 3=1:=by kernel_rfl
theorem cF6:Tryz.prog.cellsOf 156=12:=by kernel_rfl
def Ry:List (Int × Int):=[(323,8),(8,4),(225,4),(361,2),(362,2),(230,1)]
theorem Xzs:(Rows.laid_rentroll_record_fields:DataW Unit)=.agg (Ry.map fun p=>.agg [.lit (.int .i64 p.1),.lit (.int .i64 p.2)]):=rfl
theorem xr (os:Os) (args:Array Value):laidMetH Tryz.prog Uk ((World.doorLaid Tryz.prog 400 os).forCall (fun _ _=>0) ⟨#[],args,[]⟩).memory :=
 laidMetH_of_parts3 (fuel:=8) (laidMet_of_run' 8 (by kernel_rfl) (by kernel_rfl)) (by kernel_rfl) (by kernel_rfl)
theorem Qqb {W:World} (h:laidMetH Tryz.prog Uk W):∀ j,j < 12→W.cell? ⟨0,j,none⟩=some (.int .i64 (Xi.getD j 0)):=by
 rw[MakeChecks.laidMetH_plain _ _ _ (by kernel_rfl)]at h
 obtain ⟨ps,⟨g0,t0,KN,f0,p0,q0,kR,sA,I0,hd0,_,_⟩,_,_⟩:=h
 obtain rfl:=Option.some.inj (Ybt.symm.trans kR)
 obtain rfl:=Option.some.inj (Xzj.symm.trans sA)
 obtain ⟨xs,m1,rfl,sB,hlen,hn6,aJ⟩:=DataW.trod_array uF6 hd0
 rw[cF6]at hlen
 rw[Xzs]at sB
 simp only[Prod.mk.injEq,DataW.agg.injEq]at sB
 have key:∀ i,i < 6→∀ k,k < 2→KN.toList[i * 2 + k]?=some (.int .i64 (Xi.getD (i * 2 + k) 0)):=by
  intro i hi k hk
  have h1:=aJ i hi
  rw[cF2]at h1
  have Rz:xs[i]?=some (xs[i]'af):=List.getElem?_eq_getElem af
  rw[Rz]at h1
  obtain ⟨ys,m2,rfl,hy,vo,hy2,KO⟩:=DataW.trod_array uF2 h1
  have tP:=KO k hk
  rw[cF1]at tP
  have RA:ys[k]?=some (ys[k]'af):=List.getElem?_eq_getElem af
  rw[RA]at tP
  obtain ⟨z,e1,e2,_⟩:=DataW.trod_int Tryz.underlying3 tP
  have Gh:(xs[i]'af).1=.agg (ys.map (·.1)):=by rw[hy]
  have hL:(xs.map (·.1))[i]?=some (.agg (ys.map (·.1))):=by rw[List.getElem?_map,Rz,Option.map_some,Gh]
  rw[← sB.1]at hL
  have hz:(ys.map (·.1))[k]?=some (.lit (.int .i64 z)):=by rw[List.getElem?_map,RA,Option.map_some,e2]
  have ep:KN.toList[i * 2 + k]?=some (.int .i64 z):=by
   have:((((KN.toList.drop (i * 2)).take 2).drop (k * 1)).take 1)[0]?=some (.int .i64 z):=by rw[e1];rfl
   rw[List.getElem?_take,if_pos af,List.getElem?_drop,List.getElem?_take,if_pos af,List.getElem?_drop]at this
   simpa using this
  rw[ep]
  have bO:∀ i,i < 6→∀ k,k < 2→∀ l:List (DataW Unit),(Ry.map fun p=>(DataW.agg [.lit (.int .i64 p.1),.lit (.int .i64 p.2)]:DataW Unit))[i]?=some (.agg l)→l[k]?=some (.lit (.int .i64 (Xi.getD (i * 2 + k) 0))):=by
   intro i hi k hk l hl
   match i,k,hi,hk,hl with
   | 0,0,_,_,hl=>cases hl;rfl
   | 0,1,_,_,hl=>cases hl;rfl
   | 1,0,_,_,hl=>cases hl;rfl
   | 1,1,_,_,hl=>cases hl;rfl
   | 2,0,_,_,hl=>cases hl;rfl
   | 2,1,_,_,hl=>cases hl;rfl
   | 3,0,_,_,hl=>cases hl;rfl
   | 3,1,_,_,hl=>cases hl;rfl
   | 4,0,_,_,hl=>cases hl;rfl
   | 4,1,_,_,hl=>cases hl;rfl
   | 5,0,_,_,hl=>cases hl;rfl
   | 5,1,_,_,hl=>cases hl;rfl
  have:=bO i hi k hk _ hL
  rw[hz]at this
  simp only[Option.some.injEq,DataW.lit.injEq,Lit.int.injEq,true_and]at this
  rw[this]
 intro j hj
 rw[World.var?_cell kR I0 j,← Array.getElem?_toList]
 have:=key (j / 2) af (j % 2) af
 rwa [show j / 2 * 2 + j % 2=j by omega]at this
def oy (i:Nat):AV:=if i=0 then .xp (Qp Xi) 0 else .any
theorem xt:oy 0=.xp (Qp Xi) 0:=rfl
theorem Ych {W:World} (h:∀ j,j < 12→W.cell? ⟨0,j,none⟩=some (.int .i64 (Xi.getD j 0))) (i:Nat):VR (fun _=>.un) (fun _=>False) W (oy i) (.pointer (some ⟨i,0,none⟩)):=by
 unfold oy
 split
 ·rename_i e
  subst e
  have hl:(Qp Xi).length=12:=rfl
  have hx:=VR.xp (g:=fun _=>GM.un) (W:=fun _=>False) (w:=W) (cs:=Qp Xi) (off:=0) (k:=0) (o:=0) (us:=fun j=>.int .i64 (Xi.getD j 0)) (fun j hj=>by
   rw[hl]at hj
   exact ⟨by have:=h j hj;rw[Nat.zero_add];exact this,id,rfl⟩) (fun j hj=>by
   rw[hl]at hj
   rw[zU (show j < Xi.length from hj)]
   exact .int _ _)
  simpa using hx
 ·exact .any _
set_option maxRecDepth 100000 in
theorem xu {f:FuncId} {fn:Func} (xx:Tryz.prog.inits.idxOf? f=none) (lB:Tryz.prog.funcs[f]?=some fn)
  (hrd:∀ t ∈ fn.params.toList,Tryz.prog.readableRec t=true∧t < Tryz.prog.types.size) (KP:fn.resultTypes=#[4])
  (s:ChangeSpec) (hv:s.vars=[]) (hs:∀ (H:Type) (ds:List (DataW H)),ds.length=fn.params.size→s.fn H ds={ results:=[.lit (.bool true)],args:=ds,vars:=[] })
  (os:Os) (started:os.Started) (H:Type) (enc:TypeId × Value→H)
  (witness:∃ (w:World) (tape:Tape) (i:Input),w.os=os∧(w.forCall tape i).Shaped Tryz.prog∧i.vars=[]∧Input.okWide Tryz.prog (w.forCall tape i) .any w.heap.size f i ∧
   ((s.pre enc Tryz.prog fn [] false (w.forCall tape i).memory i.args∧laidMetH Tryz.prog Uk (w.forCall tape i).memory)∧sizedMet enc Tryz.prog fn (OpenSpec.ofChange s) false (w.forCall tape i).memory i.args)∧({}:Assume).holds Tryz.prog (lone (Frame.enter Tryz.prog f i.args .normal) [] (w.forCall tape i)))
  (qA:∀ (W:World) (base:Nat) (args:Array Value) (ds:List (DataW H)),wJ H enc Tryz.prog fn W base args ds→(∀ i,VR (fun _=>.un) (fun _=>False) W (oy i) (.pointer (some ⟨i,0,none⟩))) →
   Calls Tryz.prog f args W fun e W'=>e=.returned (.bool true)∧Below W.heap.size W W') :
  ReturnsInHanded {} Tryz.checked os f .any (fun w args=>(s.pre enc Tryz.prog fn [] false w args∧laidMetH Tryz.prog Uk w)∧sizedMet enc Tryz.prog fn (OpenSpec.ofChange s) false w args) (s.post enc Tryz.prog fn false true false false):=by
 refine returnsInHanded_of_change_and (C:=Tryz.checked) (X:=fun w _=>laidMetH Tryz.prog Uk w) (fun _ _ _ hh h=>h.of_heap hh) Tryz.own started xx lB witness ?_
 intro W base args ds gs before eO hW _ cd hL _
 have lC:=hW
 obtain ⟨p,q,hA,hV,rfl,pw,qB⟩:=hW
 have eG:gs=[]∧q=[]:=by
  rw[hv]at hV
  exact trodVars_none hV
 obtain ⟨rfl,rfl⟩:=eG
 have ju:s.plain.varTypes Tryz.checked.prog=[]:=by
  simp[ChangeSpec.plain,hv,DataSpec.varTypes]
 rw[ju,List.append_nil,List.append_nil]at cd
 refine (qA W base args ds ⟨eO,⟨p,hA⟩,cd⟩ (Ych (Qqb hL))).mono fun e W' ⟨he,BO⟩=>?_
 subst he
 have hlen:ds.length=fn.params.size:=by rw[Pg hA];simp
 have hS:=hs H (ds++[]) (by simpa using hlen)
 refine ⟨_,rfl,ds,[],p++[],[],p,[],lC,?_,?_,?_,BO.frame _,fun h=>by cases h⟩
 ·rw[hS,KP]
  exact trodAll_mk1 (shut_bool Tryz.underlying4 _)
 ·rw[hS]
  simp only[List.append_nil]
  exact Pf Tryz.laidOut BO hrd hA
 ·rw[hS,hv]
  simp[DataW.TrodVars]
end Go.Proofs.YtogckmommodmhaaGreatDoor
namespace Go.Proofs.YtogckmommodmhaaGreatDoor
open Go.RowKit
set_option linter.all false
set_option linter.unusedSimpArgs false
set_option maxRecDepth 100000
def Fix (x:AV) (v:Value):Prop:=∀ (g:Nat→GM) (W:Nat→Prop) (w:World) (u:Value),VR g W w x u ↔ u=v
def CJ:List AV→List Value→Prop
 | [],[]=>True
 | x::xs,v::vs=>Fix x v∧CJ xs vs
 | _,_=>False
theorem Fix.int (k:IntKind) (n:Int):Fix (.int k n) (.int k n):=fun _ _ _ u=>⟨fun h=>by cases h;rfl,fun h=>by subst h;exact .int _ _⟩
theorem CJ.args {g:Nat→GM} {W:Nat→Prop} {w:World}:∀ {xs:List AV} {vs us:List Value},CJ xs vs→bL g W w xs us→us=vs
 | [],[],[],_,_=>rfl
 | _::_,_::_,_::_,h,k=>by rw[(h.1 g W w _).1 k.1,CJ.args h.2 k.2]
 | [],_::_,_,h,_=>h.elim
 | _::_,[],_,h,_=>h.elim
 | [],[],_::_,_,k=>k.elim
 | _::_,_::_,[],_,k=>k.elim
theorem Fr.xy {w w':World} (h:Ext w w'):Fr w w' (fun _=>False) :=
 ⟨h.os,h.tape,h.output,h.size,fun k hk _=>h.block k hk,fun k cur e fz hk=>⟨cur,(h.block k (Ua hk)).trans hk,rfl⟩⟩
theorem PS.iN {P:Program} {gl:Nat→AV} {f:FuncId} {args:List AV} {vs:List Value} {r:AV} {v:Value} (hc:zS P f) (ha:CJ args vs) (hr:Fix r v)
  (h:∀ w,Calls P f vs.toArray w fun e w'=>e=.returned v∧Ext w w'):PS P gl f args r :=
 ⟨hc,fun w us X _ _ hv=>by
  rw[ha.args hv]
  exact (h w).mono fun e w' ⟨e1,e2⟩=>⟨v,e1,(hr _ _ _ _).2 rfl,.xy e2⟩⟩
theorem Fix.str (l:List UInt8):Fix (.str l) (.string ⟨l.toArray⟩):=fun _ _ _ u=>⟨fun h=>by cases h;rfl,fun h=>by subst h;exact .str _⟩
theorem pF (gl:Nat→AV) (l:List UInt8) (h:l.length≤140737488351232):PS Tryz.prog gl 38 [.str l] (.int .i64 (cj l)) :=
 .iN (vs:=[.string ⟨l.toArray⟩]) ⟨_,Tryz.func38,by kernel_rfl,by kernel_rfl⟩ ⟨.str l,trivial⟩ (.int _ _) fun w=>YU ⟨l.toArray⟩ w h
theorem CK (gl:Nat→AV) (l:List UInt8) (h:l.length≤140737488351232):PS Tryz.prog gl 120 [.str l] (.int .i64 (Zd l)) :=
 .iN (vs:=[.string ⟨l.toArray⟩]) ⟨_,Tryz.func120,by kernel_rfl,by kernel_rfl⟩ ⟨.str l,trivial⟩ (.int _ _)
  fun w=>(YW ⟨l.toArray⟩ w (Nat.le_trans h aR)).mono fun _ _ ⟨he,n,hn⟩=>⟨he,by rw[hn];exact Ext.drewN w n⟩
theorem Xns (gl:Nat→AV) (c m n:Int):PS Tryz.prog gl 166 [.int .i64 c,.int .i64 m,.int .i64 n] (.int .i64 (65535 - pj (pj (65535 - c % 65536) (65535 - m % 65536)) n)) :=
 .iN (vs:=[.int .i64 c,.int .i64 m,.int .i64 n]) ⟨_,Tryz.func166,by kernel_rfl,by kernel_rfl⟩ ⟨.int _ _,.int _ _,.int _ _,trivial⟩ (.int _ _)
  fun w=>(YX c m n w).mono fun _ _ ⟨he,hn⟩=>⟨he,by rw[hn];exact Ext.refl w⟩
section
variable {P:Program} {c:Cx} {g:Nat→GM} {s:St} {a:Act} {w:World}
def St.named (s:St) (i es:Nat):St:=⟨(i,.sl es s.n 0 0 0)::s.t,(s.n,.cells [])::s.h,s.n + 1⟩
theorem R.named {i es:Nat} (hR:R c g s.fs a w) (hi:look s.t i=.nils) (hf:s.fs.H s.n=.free):R c (fun b=>if b=s.n then .ph else g b) (s.named i es).fs a w:=by
 have js:g s.n=.un:=by
  have:=hR.h s.n
  rw[hf]at this
  generalize g s.n=m at this
  cases this;rfl
 have hH:∀ b,b≠s.n→(s.named i es).fs.H b=s.fs.H b:=fun b hb=>by
  show Qc ((s.n,_)::s.h) (s.n + 1) b=Qc s.h s.n b
  rw[Qd,if_neg (fun e=>hb e.symm),Kz _ _ _ hb]
 have tQ:(s.named i es).fs.H s.n=.cells []:=by
  show Qc ((s.n,_)::s.h) (s.n + 1) s.n=_
  rw[Qd,if_pos rfl]
 have bX:∀ {b k},(if b=s.n then GM.ph else g b)=.re k→b≠s.n∧g b=.re k:=fun {b k} h=>by
  by_cases hb:b=s.n
  ·rw[if_pos hb]at h;cases h
  ·rw[if_neg hb]at h;exact ⟨hb,h⟩
 have hg:∀ b,g b≠.un→(if b=s.n then GM.ph else g b)=g b:=fun b hb=>by
  rw[if_neg];rintro rfl;exact hb js
 have hW:∀ k,Qo c (fun b=>if b=s.n then .ph else g b) (s.named i es).fs k→Qo c g s.fs k:=by
  rintro k (h|⟨b,h1,h2⟩)
  ·exact .inl h
  ·obtain ⟨hb,h3⟩:=bX h2
   rw[hH b hb]at h1
   exact .inr ⟨b,h1,h3⟩
 have mono:∀ {v u},VR g (Qo c g s.fs) w v u→VR (fun b=>if b=s.n then .ph else g b) (Qo c (fun b=>if b=s.n then .ph else g b) (s.named i es).fs) w v u:=fun h=>h.mono (Fr.refl _ _) (fun k _=>hW k) hg
 refine ⟨hR.size,hR.dI,fun j=>?_,fun j=>(hR.gl j).mono (Fr.refl _ _) (fun k _=>hW k) (fun _ _=>rfl),fun b=>?_,fun b b' k h1 h2 e1 e2=>?_,fun b k h1 e1=>?_,hR.fr,hR.xs,fun p hp=>?_⟩
 ·show VR _ _ w (look ((i,_)::s.t) j) _
  rw[Zo]
  split
  ·rename_i iJ
   subst iJ
   have:=hR.t i
   have e:s.fs.T i=.nils:=hi
   rw[e]at this
   generalize a.tmps.getD i undef=u at this ⊢
   cases this
   exact .kr (if_pos rfl) rfl
  ·exact mono (hR.t j)
 ·by_cases hb:b=s.n
  ·subst hb
   show BR _ _ w (if s.n=s.n then _ else _) _
   rw[if_pos rfl,tQ];exact .ph
  ·show BR _ _ w (if b=s.n then _ else _) _
   rw[if_neg hb,hH b hb]
   exact (hR.h b).mono (Fr.refl _ _) (fun k _=>hW k) hg (fun _ _ _=>rfl)
 ·obtain ⟨b1,g1⟩:=bX e1
  obtain ⟨b2,g2⟩:=bX e2
  rw[hH b b1]at h1
  rw[hH b' b2]at h2
  exact hR.inj b b' k h1 h2 g1 g2
 ·obtain ⟨b1,g1⟩:=bX e1
  rw[hH b b1]at h1
  exact hR.old b k h1 g1
 ·obtain ⟨q1,q2⟩:=hR.gX p hp
  exact ⟨by show (if p.1=s.n then GM.ph else g p.1)=_;rw[hg _ (by rw[q1];exact q2)];exact q1,q2⟩
theorem xA {b:TC} {Q:EX→St→Prop} (i es:Nat) (hi:look s.t i=.nils) (hf:s.fs.H s.n=.free) (h:sk P c b Q (s.named i es)):sk P c b Q s :=
 fun code he g a w hR=>h code he _ a w (hR.named hi hf)
end
end Go.Proofs.YtogckmommodmhaaGreatDoor
