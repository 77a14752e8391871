import Derived.Test.YtogckmommodmhaaGreatDoorZv4
import Derived.Test.YtogckmommodmhaaGreatDoorZv1
import Derived.Test.YtogckmommodmhaaGreatDoorZv2
import Derived.KernelRfl
import Derived.Test.YtogckmommodmhaaGreatDoorChecked
import Derived.LaidMore
import Derived.Stop.Joined
namespace Go.Proofs.YtogckmommodmhaaGreatDoor
open Go.RowKit
set_option linter.all false
set_option linter.unusedSimpArgs false
set_option maxRecDepth 100000
section
variable {P:Program} {c:Cx} {ops:Array Oper} {io:Oper}
theorem QZ (s:FS) (kb:Option Nat) (i:Nat):(s.cx kb).T i=s.T i:=by cases kb<;>rfl
theorem Q0 (s:FS) (kb:Option Nat) (j:Nat):(s.cx kb).H j=if kb=some j then .dead else s.H j:=by
 cases kb with
 | none=>rfl
 | some b=>simp only[FS.cx,FS.bc,Option.some.injEq]
theorem Ya5 {s s2:FS} {nm d:Nat} {kb:Option Nat} {X:Bk} {V:AV} {rt rb:List Nat}:dj s2 (((s.cx kb).aK nm X).put d V) ⟨rt,rb,[d],nm::kb.toList⟩=((s2.cx kb).aK nm X).put d V:=by
 refine pG (fun i=>?_) fun j=>?_
 ·show (if i ∈ [d] then _ else _)=_
  simp only[FS.dg,List.mem_singleton]
  by_cases h:i=d
  ·subst h;simp
  ·rw[if_neg h,if_neg fun e=>h e.symm];show _=(s2.cx kb).T i;rw[QZ]
 ·show (if j ∈ nm::kb.toList then (((s.cx kb).aK nm X).put d V).H j else s2.H j)=_
  simp only[FS.qi,FS.bc,Q0,List.mem_cons,Option.mem_toList]
  by_cases h:nm=j
  ·subst h;simp
  ·simp only[if_neg h,if_neg (fun e:j=nm=>h e.symm),false_or,(fun e=>h e.symm:¬ j=nm)]
   by_cases hk:kb=some j
   ·subst hk;simp
   ·have IP:¬ j ∈ kb:=fun e=>hk e
    simp[hk,IP]
    exact fun e=>absurd e.symm h
theorem Fy {s:FS} {nm d:Nat} {kb:Option Nat} {X:List AV} {V:AV} {rt rb:List Nat} (hg:io.guard=none) (bh:io.dst=some d) (hd:d < c.N)
  (core:∀ s2:FS,(∀ i ∈ rt,s2.T i=s.T i)→(∀ b ∈ rb,s2.H b=s.H b)→∀ g a w,R c g s2 a w→∃ g' v' w',(execOp a.eval io).run P w=.ok (.value v') w'∧R c g' ((s2.cx kb).aK nm (.cells X)) a w'∧VR g' (Qo c g' ((s2.cx kb).aK nm (.cells X))) w' V v') :
  oy P c ops io s ⟨rt,rb,[d],nm::kb.toList⟩ (((s.cx kb).aK nm (.cells X)).put d V):=by
 refine ⟨fun i hi=>?_,fun j hj=>?_,fun s2 hT hH g a w hR K Q' hK=>Zc hg ?_⟩
 ·rw[FS.dg,if_neg (fun e=>hi (by simp[e]))];exact QZ s kb i
 ·rw[FS.qi,FS.bc,Q0,if_neg (fun e=>hj (by simp[e])),if_neg (fun e=>hj (by simp[e]))]
 ·obtain ⟨g',v',w',hr,bg,hv⟩:=core s2 hT hH g a w hR
  unfold Oper.wp
  rw[hr]
  show K (a.put io.dst v') w'
  rw[bh]
  refine hK g' _ w' ?_
  rw[Ya5]
  exact bg.put hd hv
theorem Q2 {o:Oper} {es iF:Nat} {str:Bool} {xs:List Operand} (h:Yf P o=some (.app es iF str,xs)) :
  ∃ x y t u e i z,xs=[x,y]∧o.op=.call ⟨.builtin .append,⟨[x,y]⟩,⟨[t,u]⟩⟩∧P.underlying t=some (.slice e)∧P.info? e=some i∧i.zero=some z∧z.cells.size=i.size∧i.size=es∧i.bytes=iF∧(u=t∨P.underlying u=some .string):=by
 unfold Yf at h
 repeat' split at h
 all_goals first
  | (cases h;exact ⟨_,_,_,_,_,_,_,rfl,by assumption,by assumption,by assumption,by assumption,(by rename_i hc _;exact hc.1),rfl,rfl,.inl (by assumption)⟩)
  | (cases h;exact ⟨_,_,_,_,_,_,_,rfl,by assumption,by assumption,by assumption,by assumption,(by rename_i hc _ _ _;exact hc.1),rfl,rfl,.inr (by assumption)⟩)
  | (simp at h;done)
  | (cases h;done)
  | (simp[Option.map_eq_some_iff]at h;done)
  | trace_state
def Fz (s:FS) (es iF:Nat) (str:Bool) (nm:Nat):List AV→Prop
 | [vb,vx]=>tN s es vb∧kZ s es str vx∧s.H nm=.free∧Xm vb + Xm vx≤9223372036854775807∧(Xm vb + Xm vx) * iF≤140737488355328
 | _=>False
def JP (es nm:Nat):List AV→AV
 | [vb,vx]=>.sl es nm 0 (Xm vb + Xm vx) (Xm vb + Xm vx)
 | _=>.any
def BZ (s:FS) (es:Nat):List AV→List AV
 | [vb,vx]=>Xz s es vb++Xz s es vx
 | _=>[]
def FA:List AV→Option Nat
 | vb::_=>ju vb
 | []=>none
def B0:List AV→List Nat
 | [vb,vx]=>(ju vb).toList++(ju vx).toList
 | _=>[]
def St.cx (s:St):Option Nat→St
 | some b=>s.aK b .dead
 | none=>s
theorem St.qq (s:St) (kb:Option Nat):(s.cx kb).fs=s.fs.cx kb:=by
 cases kb with
 | none=>rfl
 | some b=>exact St.cK _ _ _
theorem St.tO (s:St) (kb:Option Nat):(s.cx kb).n=s.n:=by cases kb<;>rfl
theorem FB {s s2:FS} {es:Nat} {x:AV} (h:∀ b,ju x=some b→s2.H b=s.H b):Xz s2 es x=Xz s es x:=by
 cases x<;>simp only[Xz]
 rename_i b o n cc
 rw[h _ rfl]
theorem Q3 {s s2:FS} {es:Nat} {str:Bool} {x:AV} (h:∀ b,ju x=some b→s2.H b=s.H b) (ok:kZ s es str x):kZ s2 es str x:=by
 cases x<;>simp only[kZ]at ok ⊢<;>try exact ok
 rw[h _ rfl];exact ok
theorem Qtw {s s2:FS} {es:Nat} {x:AV} (h:∀ b,ju x=some b→s2.H b=s.H b) (ok:tN s es x):tN s2 es x:=by
 cases x<;>simp only[tN]at ok ⊢<;>try exact ok
 rw[h _ rfl];exact ok
def FC (s:St) (gl:Nat→AV) (d:Nat) (xs:List TV):bn:=⟨Xr xs,s.n::B0 ((aG gl s.fs xs).map Qk),[d],s.n::(FA ((aG gl s.fs xs).map Qk)).toList⟩
def B5 (s:St) (gl:Nat→AV) (d es:Nat) (xs:List TV):St:=((s.cx (FA ((aG gl s.fs xs).map Qk))).nw (.cells (BZ s.fs es ((aG gl s.fs xs).map Qk)))).put d (JP es s.n ((aG gl s.fs xs).map Qk))
theorem Q4 {s:St} {d es iF:Nat} {str:Bool} {xs:List TV} (hc:Qv none (aG c.gl s.fs xs)) (aY:Fz s.fs es iF str s.n ((aG c.gl s.fs xs).map Qk)) :
  Ky P c (.pd (some d) (.app es iF str) xs none) s.fs (FC s c.gl d xs) (B5 s c.gl d es xs).fs:=by
 intro ops io he
 obtain ⟨bf,bh,hd,ys,aJ,rfl⟩:=Zr he
 obtain ⟨x,y,t,u,e,i,z,rfl,bl,hu,hi,hz,kz,cR,qo,JQ⟩:=Q2 aJ
 have fL:(aG c.gl s.fs ([x,y].map aT)).map Qk=[Qk (aZ c.gl s.fs (aT x)),Qk (aZ c.gl s.fs (aT y))]:=rfl
 unfold FC B5
 rw[fL]at aY ⊢
 generalize hvb:Qk (aZ c.gl s.fs (aT x))=vb at *
 generalize Q5:Qk (aZ c.gl s.fs (aT y))=vx at *
 obtain ⟨Fw,w3,bq,pE,hb⟩:=aY
 rw[St.bT,St.gV,St.qq,St.tO]
 simp only[FA,BZ,JP,B0]
 refine Fy (Ka bf) bh (by simpa using hd) fun s2 hT hH g a w hR=>?_
 have bp:aG c.gl s2 ([x,y].map aT)=aG c.gl s.fs ([x,y].map aT):=Yi hT
 have fv:=Yn (hR.aG [x,y]) (by rw[bp];exact hc)
 rw[bp,fL]at fv
 obtain ⟨v1,v2,_⟩:=fv
 have sx:∀ b,ju vb=some b→s2.H b=s.fs.H b:=fun b h=>hH b (by simp[h])
 have B6:∀ b,ju vx=some b→s2.H b=s.fs.H b:=fun b h=>hH b (by simp[h])
 obtain ⟨g',v',w',hr,h1,h2⟩:=Xry (P:=P) (ty:=io.type) hR (nm:=s.n) (by rw[hH _ av];exact bq) hu JQ hi hz cR (kz.trans cR) v1 v2 (Qtw sx Fw) (Q3 B6 w3) (by unfold maxLen;omega) (by rw[qo];exact hb)
 rw[FB sx,FB B6]at h1 h2
 refine ⟨g',v',w',?_,h1,h2⟩
 unfold execOp
 simp only[bl,resolve,invoke,builtin,Sem.run_bind,Sem.run_pure,Result.andThen_ok,List.map_toArray,List.map_cons,List.map_nil,hr]
theorem qs {r0:List bG} {K:St→Prop} {s:St} {d es iF:Nat} {str:Bool} {xs:List TV} (h:Qv none (aG c.gl s.fs xs)∧Fz s.fs es iF str s.n ((aG c.gl s.fs xs).map Qk)∧XP P c r0 K (B5 s c.gl d es xs)) :
  Yh P c (.pd (some d) (.app es iF str) xs none) r0 K s:=.inl ⟨_,_,Q4 h.1 h.2.1,h.2.2⟩
theorem qt {anc:List Nat} {fs:List bn} {r0:List bG} {K:St→Prop} {s:St} {d es iF:Nat} {str:Bool} {xs:List TV} (h:Qv none (aG c.gl s.fs xs)∧Fz s.fs es iF str s.n ((aG c.gl s.fs xs).map Qk)∧XD P c anc r0 (FC s c.gl d xs::fs) K (B5 s c.gl d es xs)) :
  Zm P c anc (.pd (some d) (.app es iF str) xs none) r0 fs K s:=⟨_,_,Q4 h.1 h.2.1,h.2.2⟩
theorem Xmr (v:List (Value × Nat)):∀ (off:Nat) (cs:Array Value),(v.foldl (fun cs (c,j)=>cs.setIfInBounds (off + j) c) cs).size=cs.size:=by
 induction v with
 | nil=>intro off cs;rfl
 | cons p v ih=>intro off cs;rw[List.foldl_cons,ih];simp
theorem Q6 {place:Nat→Option (Nat × Nat)}:∀ (l:List (Nat × Value)) (cells cells':Array Value),Instr.fill place cells l=some cells'→cells'.size=cells.size
 | [],cells,cells',h=>by simp[Instr.fill]at h;rw[h]
 | (i,v)::l,cells,cells',h=>by
  unfold Instr.fill at h
  split at h
  ·cases h
  ·split at h
   ·cases h
   ·rw[Q6 l _ _ h]
    rw[← Array.foldl_toList]
    exact Xmr _ _ _
theorem Qp4 {place:Nat→Option (Nat × Nat)} {cells cells':Array Value} {l:List (Nat × Value)} (h:Instr.fill place cells l=some cells'):cells'.size=cells.size:=Q6 l cells cells' h
def j7:Nat→List AV→List AV
 | 0,_=>[]
 | n + 1,z=>z++j7 n z
theorem Q7 (z:List AV):∀ n,(j7 n z).length=n * z.length
 | 0=>by simp[j7]
 | n + 1=>by simp[j7,Q7 z n,Nat.add_mul];omega
theorem Q8 (z:List AV):∀ n j,j < n * z.length→(j7 n z).getD j .any=z.getD (j % z.length) .any
 | 0,j,h=>by simp at h
 | n + 1,j,h=>by
  simp only[j7,List.getD]
  by_cases hj:j < z.length
  ·rw[List.getElem?_append_left hj,Nat.mod_eq_of_lt hj]
  ·rw[List.getElem?_append_right af]
   have h2:j - z.length < n * z.length:=by rw[Nat.add_mul]at h;omega
   have ih:=Q8 z n (j - z.length) h2
   simp only[List.getD]at ih
   rw[ih,← Nat.mod_eq_sub_mod af]
theorem Q9 {o:Oper} {es len:Nat} {zs:List AV} {ps:List (Nat × Nat)} {xs:List Operand} (h:Yf P o=some (.wN es len zs ps,xs)) :
  ∃ t e i z parts,o.op=.buildSlice t len parts∧P.underlying t=some (.slice e)∧P.info? e=some i∧i.zero=some z∧z.cells.size=i.size∧0 < i.size∧z.cells.all (·.oneCell')=true∧len * i.size≤2 ^ 24∧len≤2 ^ 24 ∧
   es=i.size∧zs=z.cells.toList.map fj∧ps=parts.toList.map (fun p=>(p.1 * i.size,i.size))∧xs=parts.toList.map (·.2):=by
 unfold Yf at h
 repeat' split at h
 all_goals first
  | (simp only[Option.some.injEq,Prod.mk.injEq,PK.wN.injEq]at h;obtain ⟨⟨rfl,rfl,rfl,rfl⟩,rfl⟩:=h
     rename_i hc;exact ⟨_,_,_,_,_,by assumption,by assumption,by assumption,by assumption,hc.1,hc.2.1,hc.2.2.1,hc.2.2.2.1,hc.2.2.2.2,rfl,rfl,rfl,rfl⟩)
  | (simp at h;done)
  | (cases h;done)
  | (simp[Option.map_eq_some_iff]at h;done)
theorem Ra {s:St} {d es len:Nat} {zs:List AV} {ps:List (Nat × Nat)} {xs:List TV} (hc:Qv none (aG c.gl s.fs xs)) (hlen:0 < len) (bq:s.fs.H s.n=.free) (aY:Zd (j7 len zs).length ps ((aG c.gl s.fs xs).map Qk)) :
  Ky P c (.pd (some d) (.wN es len zs ps) xs none) s.fs ⟨Xr xs,[s.n],[d],[s.n]⟩ ((s.nw (.cells (Zz (j7 len zs) ps ((aG c.gl s.fs xs).map Qk)))).put d (.sl es s.n 0 len len)).fs:=by
 intro ops io he
 obtain ⟨bf,bh,hd,ys,aJ,rfl⟩:=Zr he
 obtain ⟨t,e,i,z,parts,bl,hu,hi,hz,kz,dU,sy,h24,JR,rfl,rfl,rfl,rfl⟩:=Q9 aJ
 rw[St.bT,St.gV]
 refine Fy (kb:=none) (Ka bf) bh (by simpa using hd) fun s2 hT hH g a w hR=>?_
 have bp:=Yi (gl:=c.gl) hT
 have fv:=Yn (hR.aG (parts.toList.map (·.2))) (by rw[bp];exact hc)
 rw[bp]at fv
 have jq:s2.H s.n=.free:=by rw[hH _ av,bq]
 have JS:(z.cells.toList.map fj).length=i.size:=by simp[kz]
 have fM:(j7 len (z.cells.toList.map fj)).length=len * i.size:=by rw[Q7,JS]
 have aX:((Array.range (len * i.size)).map (z.cells[· % z.cells.size]!)).size=len * i.size:=by simp
 have FD:∀ j,j < len * i.size→((Array.range (len * i.size)).map (z.cells[· % z.cells.size]!)).getD j undef=z.cells.getD (j % i.size) undef:=fun j hj=>by
  have hm:=Nat.mod_lt j dU
  simp[Array.getD_eq_getD_getElem?,hj,kz,hm]
 have h1z:∀ j,j < i.size→(z.cells.getD j undef).oneCell'=true:=fun j hj=>by
  have:=Array.all_eq_true.1 sy j af
  simpa [Array.getD_eq_getD_getElem?,show j < z.cells.size by omega] using this
 have hgz:∀ j,j < i.size→(z.cells.toList.map fj).getD j .any=fj (z.cells.getD j undef):=fun j hj=>by
  simp[List.getD,Array.getD_eq_getD_getElem?,show j < z.cells.size by omega]
 obtain ⟨cells',f1,f2⟩:=Iw (g:=g) (W:=Qo c g s2) (w:=w) (place:=fun j=>some (j * i.size,i.size)) (parts.toList.map fun (p:Nat × Operand)=>(p.1 * i.size,i.size)) (parts.toList.map (fun (p:Nat × Operand)=>p.1)) av fv av (cs:=j7 len (z.cells.toList.map fj)) (cells:=(Array.range (len * i.size)).map (z.cells[· % z.cells.size]!)) aY (by rw[aX,fM])
  (fun j hj=>by rw[fM]at hj;rw[FD j hj];exact h1z _ (Nat.mod_lt _ dU)) (fun j hj=>by
   rw[fM]at hj
   rw[FD j hj,Q8 _ _ _ (by rw[JS];exact hj),JS,hgz _ (Nat.mod_lt _ dU)]
   exact EV _)
 obtain ⟨us,eu,q1,q2,q3⟩:=Ub f2
 cases eu
 have Fa:(parts.map fun (p:Nat × Operand)=>(p.1,a.eval p.2)).toList=(parts.toList.map (·.1)).zip ((parts.toList.map (·.2)).map a.eval):=by
  simp only[Array.toList_map]
  induction parts.toList with
  | nil=>rfl
  | cons p l ih=>simp[ih]
 have fo:(Zz (j7 len (z.cells.toList.map fj)) (parts.toList.map fun p=>(p.1 * i.size,i.size)) ((aG c.gl s.fs ((parts.toList.map (·.2)).map aT)).map Qk)).length=len * i.size:=by
  rw[← q1]
  have:=Qp4 f1
  rw[this,aX]
 have hr:=run_buildSlice (P:=P) w t e len (parts.map fun (j,x)=>(j,a.eval x)) cells' i z hu hi hz af (Nat.ne_of_gt (Nat.mul_pos hlen dU)) (by rw[← Fa]at f1;exact f1)
 have iu:∀ k,Qo c g s2 k→k < w.heap.size:=by
  rintro k (h|⟨b',hl,fk⟩)
  ·have:=(hR.xs k h).1;have:=hR.fr.size;omega
  ·exact BR.lt (fk ▸ hR.h b') hl
 have b6:=heap_alloc_new w (.cells cells' e)
 have bg:=hR.new (b:=s.n) (x:=.cells (Zz (j7 len (z.cells.toList.map fj)) (parts.toList.map fun p=>(p.1 * i.size,i.size)) ((aG c.gl s.fs ((parts.toList.map (·.2)).map aT)).map Qk))) (.cells cells' e) jq trivial fun g' fk =>
  .cells (cur:=cells') (e:=e) (fz:=(0,0)) b6 af q2 (fun j hj=>(q3 j hj).mono (Fr.alloc w _ _) (fun k hk h=>h.resolve_right af) fk) (.inl rfl)
 refine ⟨_,_,_,?_,bg,.sl (k:=w.heap.size) (e:=e) (cur:=cells') (fz:=(0,0)) BX (Nat.le_refl _) (Nat.le_refl _) (by unfold maxLen;omega) b6 (by rw[q1,fo];omega)⟩
 unfold execOp
 simp only[bl,Sem.run_bind,hr,Result.andThen_ok,Sem.run_pure]
theorem qu {r0:List bG} {K:St→Prop} {s:St} {d es len:Nat} {zs:List AV} {ps:List (Nat × Nat)} {xs:List TV} (h:Qv none (aG c.gl s.fs xs)∧0 < len∧s.fs.H s.n=.free∧Zd (j7 len zs).length ps ((aG c.gl s.fs xs).map Qk) ∧
  XP P c r0 K ((s.nw (.cells (Zz (j7 len zs) ps ((aG c.gl s.fs xs).map Qk)))).put d (.sl es s.n 0 len len))):Yh P c (.pd (some d) (.wN es len zs ps) xs none) r0 K s:=.inl ⟨_,_,Ra h.1 h.2.1 h.2.2.1 h.2.2.2.1,h.2.2.2.2⟩
theorem qw {anc:List Nat} {fs:List bn} {r0:List bG} {K:St→Prop} {s:St} {d es len:Nat} {zs:List AV} {ps:List (Nat × Nat)} {xs:List TV} (h:Qv none (aG c.gl s.fs xs)∧0 < len∧s.fs.H s.n=.free∧Zd (j7 len zs).length ps ((aG c.gl s.fs xs).map Qk) ∧
  XD P c anc r0 (⟨Xr xs,[s.n],[d],[s.n]⟩::fs) K ((s.nw (.cells (Zz (j7 len zs) ps ((aG c.gl s.fs xs).map Qk)))).put d (.sl es s.n 0 len len))):Zm P c anc (.pd (some d) (.wN es len zs ps) xs none) r0 fs K s:=⟨_,_,Ra h.1 h.2.1 h.2.2.1 h.2.2.2.1,h.2.2.2.2⟩
theorem Xsp {o:Oper} {xs:List Operand} (h:Yf P o=some (.BC,xs)):∃ src dst e x,o.op=.convert src dst x∧P.underlying src=some .string∧P.underlying dst=some (.slice e)∧P.underlying e=some (.int .u8)∧xs=[x]:=by
 unfold Yf at h
 repeat' split at h
 all_goals first
  | (simp only[Option.some.injEq,Prod.mk.injEq,true_and]at h;subst h;exact ⟨_,_,_,_,by assumption,by assumption,by assumption,by assumption,rfl⟩)
  | (simp at h;done)
  | (cases h;done)
  | (simp[Option.map_eq_some_iff]at h;done)
def B7:AV→Prop
 | .str _=>True
 | _=>False
theorem Rb {s:St} {d:Nat} {x:TV} (hc:eP none (aZ c.gl s.fs x)) (bq:s.fs.H s.n=.free) (aY:B7 (Qk (aZ c.gl s.fs x))∧(cL (Qk (aZ c.gl s.fs x))).length≤9223372036854775807) :
  Ky P c (.pd (some d) .BC [x] none) s.fs ⟨Xr [x],[s.n],[d],[s.n]⟩ ((s.nw (.cells (Xq (cL (Qk (aZ c.gl s.fs x)))))).put d (.sl 1 s.n 0 (cL (Qk (aZ c.gl s.fs x))).length (cL (Qk (aZ c.gl s.fs x))).length)).fs:=by
 intro ops io he
 obtain ⟨bf,bh,hd,ys,aJ,my⟩:=Zr he
 obtain ⟨src,dst,e,y,bl,hs,hdd,hee,rfl⟩:=Xsp aJ
 simp only[List.map_cons,List.map_nil,List.cons.injEq,and_true]at my
 subst my
 rw[St.bT,St.gV]
 refine Fy (kb:=none) (Ka bf) bh (by simpa using hd) fun s2 hT hH g a w hR=>?_
 have ed:aZ c.gl s2 (aT y)=aZ c.gl s.fs (aT y):=by
  have:=Yi (gl:=c.gl) (xs:=[aT y]) hT
  simpa [aG] using this
 have hv:=BF (hR.ev y) (by rw[ed];exact hc)
 rw[ed]at hv
 obtain ⟨h1,h2⟩:=aY
 generalize Qk (aZ c.gl s.fs (aT y))=v at *
 cases v<;>simp only[B7]at h1
 rename_i l
 simp only[cL]at h2 ⊢
 have jq:s2.H s.n=.free:=by rw[hH _ av,bq]
 generalize hy:a.eval y=uy at hv
 cases hv
 have hr:=run_bytes_of_string (P:=P) w src dst e ⟨l.toArray⟩ hs hdd hee
 have cE:(⟨l.toArray⟩:ByteArray).size=l.length:=rfl
 rw[cE]at hr
 generalize mz:grownCap w l.length 0 e=cap at hr
 have iu:l.length≤cap:=by rw[← mz];exact Ig w _ _ _
 have hle:cap≤maxLen:=by rw[← mz];exact grownCap_le_maxLen w _ _ _ (by unfold maxLen;omega)
 have Rc:(bytesRow ⟨l.toArray⟩ cap).size=cap:=by simp[bytesRow,cE];omega
 have Re:∀ j (hj:j < l.length),(bytesRow ⟨l.toArray⟩ cap).getD j undef=.int .u8 (l[j]).toNat:=fun j hj=>by
  have:=bytesRow_at ⟨l.toArray⟩ cap j (by simpa using hj)
  rw[Array.getD_eq_getD_getElem?,this];simp
 have la:R c g s2 a w.drew:=hR.grow (Fr.drew w _)
 have iEa:∀ k,Qo c g s2 k→k < w.drew.heap.size:=by
  rintro k (h|⟨b',hl,fk⟩)
  ·have:=(la.xs k h).1;have:=la.fr.size;omega
  ·exact BR.lt (fk ▸ la.h b') hl
 have b6:=heap_alloc_new w.drew (.cells (bytesRow ⟨l.toArray⟩ cap) e ((bytesRow ⟨l.toArray⟩ cap).size,(bytesRow ⟨l.toArray⟩ cap).size + 1))
 have fo:(Xq l).length=l.length:=QB l
 have bg:=la.new (b:=s.n) (x:=.cells (Xq l)) (.cells (bytesRow ⟨l.toArray⟩ cap) e ((bytesRow ⟨l.toArray⟩ cap).size,(bytesRow ⟨l.toArray⟩ cap).size + 1)) jq trivial fun g' fk=>by
  refine .cells (cur:=bytesRow ⟨l.toArray⟩ cap) (e:=e) b6 (by rw[fo,Rc];exact iu) (fun j hj=>?_) (fun j hj=>?_) (.inr (Nat.le_refl _))
  ·rw[Re j af];rfl
  ·rw[Re j af,QC af]
   simp only[List.getD,List.getElem?_eq_getElem (show j < l.length by omega),Option.getD_some]
   exact .int _ _
 refine ⟨_,_,_,?_,bg,.sl (k:=w.heap.size) (e:=e) BX (Nat.le_refl _) iu hle b6 (by rw[Rc];omega)⟩
 unfold execOp
 simp only[bl,hy,Sem.run_bind,hr,Result.andThen_ok,Sem.run_pure]
theorem qx {r0:List bG} {K:St→Prop} {s:St} {d:Nat} {x:TV} (h:eP none (aZ c.gl s.fs x)∧s.fs.H s.n=.free∧(B7 (Qk (aZ c.gl s.fs x))∧(cL (Qk (aZ c.gl s.fs x))).length≤9223372036854775807) ∧
  XP P c r0 K ((s.nw (.cells (Xq (cL (Qk (aZ c.gl s.fs x)))))).put d (.sl 1 s.n 0 (cL (Qk (aZ c.gl s.fs x))).length (cL (Qk (aZ c.gl s.fs x))).length))):Yh P c (.pd (some d) .BC [x] none) r0 K s:=.inl ⟨_,_,Rb h.1 h.2.1 h.2.2.1,h.2.2.2⟩
theorem qy {anc:List Nat} {fs:List bn} {r0:List bG} {K:St→Prop} {s:St} {d:Nat} {x:TV} (h:eP none (aZ c.gl s.fs x)∧s.fs.H s.n=.free∧(B7 (Qk (aZ c.gl s.fs x))∧(cL (Qk (aZ c.gl s.fs x))).length≤9223372036854775807) ∧
  XD P c anc r0 (⟨Xr [x],[s.n],[d],[s.n]⟩::fs) K ((s.nw (.cells (Xq (cL (Qk (aZ c.gl s.fs x)))))).put d (.sl 1 s.n 0 (cL (Qk (aZ c.gl s.fs x))).length (cL (Qk (aZ c.gl s.fs x))).length))):Zm P c anc (.pd (some d) .BC [x] none) r0 fs K s:=⟨_,_,Rb h.1 h.2.1 h.2.2.1,h.2.2.2⟩
end
theorem Xgz (s:FS) (es m:Nat) (ds:List AV):Xz s es (.isl m ds)=ds.take (m * es):=rfl
theorem Xje (s:FS) (es es2 b o m c:Nat):Xz s es (.sl es2 b o m c)=((Zb (s.H b)).drop o).take (m * es):=rfl
theorem Xiv (s:FS) (es:Nat) (l:List UInt8):Xz s es (.str l)=Xq l:=rfl
theorem Xaz (s:FS) (es:Nat):Xz s es .nils=[]:=rfl
theorem Qzo (s:FS) (es m:Nat) (b:Bool) (ds:List AV):kZ s es b (.isl m ds)=(b=false∧m * es≤ds.length):=rfl
theorem Xh8 (s:FS) (es es2 k o m c:Nat) (b:Bool):kZ s es b (.sl es2 k o m c)=(b=false∧es2=es∧o + m * es≤(Zb (s.H k)).length):=rfl
theorem Qz1 (s:FS) (es:Nat) (b:Bool) (l:List UInt8):kZ s es b (.str l)=(b=true∧es=1):=rfl
theorem Qzm (s:FS) (es:Nat) (b:Bool) (a:Option Addr) (c:Nat):kZ s es b (.lit (.slice a 0 c))=(b=false):=by simp[kZ,Fu]
theorem Xib (v:Value):Xm (.lit v)=0:=rfl
theorem Xhh (v:Value):ju (.lit v)=none:=rfl
theorem Xdy (s:FS) (es:Nat) (v:Value):Xz s es (.lit v)=[]:=rfl
theorem Quk (s:FS) (es:Nat) (b:Bool):kZ s es b .nils=(b=false):=rfl
theorem Qze (s:FS) (es es2 b o n c:Nat):tN s es (.sl es2 b o n c)=(es2=es∧o=0∧n * es≤(Zb (s.H b)).length∧(s.H b).live):=rfl
theorem Qt1 (s:FS) (es:Nat):tN s es .nils=True:=rfl
theorem Xql (es b o n c:Nat):ju (.sl es b o n c)=some b:=rfl
theorem Qzx:ju .nils=none:=rfl
theorem Xgs (n:Nat) (cs:List AV):ju (.isl n cs)=none:=rfl
theorem Xhl (l:List UInt8):ju (.str l)=none:=rfl
theorem Xxy (s:FS) (es iF nm:Nat) (b:Bool) (x y:AV):Fz s es iF b nm [x,y]=(tN s es x∧kZ s es b y∧s.H nm=.free∧Xm x + Xm y≤9223372036854775807∧(Xm x + Xm y) * iF≤140737488355328):=rfl
theorem Yd7 (es nm:Nat) (x y:AV):JP es nm [x,y]=.sl es nm 0 (Xm x + Xm y) (Xm x + Xm y):=rfl
theorem Ydd (s:FS) (es:Nat) (x y:AV):BZ s es [x,y]=Xz s es x++Xz s es y:=rfl
theorem Yd6 (x:AV) (r:List AV):FA (x::r)=ju x:=rfl
theorem Yde (x y:AV):B0 [x,y]=(ju x).toList++(ju y).toList:=rfl
theorem Xyx (s:St) (b:Nat):s.cx (some b)=s.aK b .dead:=rfl
theorem Xzn (s:St):s.cx none=s:=rfl
theorem Ybg (z:List AV):j7 0 z=[]:=rfl
theorem Xyn (n:Nat) (z:List AV):j7 (n + 1) z=z++j7 n z:=rfl
theorem Ya8 (l:List UInt8):B7 (.str l)=True:=rfl
theorem Ybu (cs:List AV):(Bk.cells cs).live=True:=rfl
theorem JT (l:List UInt8) (n:Int) (r:List AV):Xq l++(.int .u8 (IntKind.u8.wrap n)::r)=Xq (l++[UInt8.ofNat (IntKind.u8.wrap n).toNat])++r:=by
 have h0:0≤IntKind.u8.wrap n∧IntKind.u8.wrap n < 256:=by rw[IntKind.wrap_u8];omega
 generalize IntKind.u8.wrap n=k at h0 ⊢
 simp[Xq];omega
theorem Xo3 {l:List UInt8} {n:Int} {r:List AV} (h0:0≤n) (h1:n < 256):Xq l++(.int .u8 n::r)=Xq (l++[UInt8.ofNat n.toNat])++r:=by
 simp[Xq];omega
theorem Xwi:Xq []=[]:=rfl
theorem Xvt:Qp []=[]:=rfl
theorem Xny {l:List Int} {n:Int} {r:List AV}:Qp l++(.int .i64 n::r)=Qp (l++[n])++r:=by simp[Qp]
attribute [go_sem] JN Xv5 Xv9 Xp3 Xgz Xje Xiv Xaz Qzo Xh8 Qz1 Quk Qzm Xib Xhh Xdy Qze Qt1 Xql Qzx Xgs Xhl Xxy Yd7 Ydd Yd6 Yde Xyx Xzn Ybg Xyn Ya8 Ybu JT Xo3 Xny Xwi Xvt FC B5 List.append_nil List.length_append Xsq Xtk
def Kd (r:AV):Prop:=∀ (g g':Nat→GM) (W W':Nat→Prop) (w w':World) (v:Value),VR g W w r v→VR g' W' w' r v
theorem Kd.int (k:IntKind) (n:Int):Kd (.int k n):=fun _ _ _ _ _ _ _ h=>by cases h;exact .int _ _
theorem Kd.bool (b:Bool):Kd (.bool b):=fun _ _ _ _ _ _ _ h=>by cases h;exact .bool _
theorem Kd.str (l:List UInt8):Kd (.str l):=fun _ _ _ _ _ _ _ h=>by cases h;exact .str _
theorem Kd.aU {cs:List AV} (h:∀ x ∈ cs,Kd x):Kd (.aU cs):=fun g g' W W' w w' v hv=>by
 obtain ⟨us,rfl,h1,h3⟩:=Bw hv
 refine .aU h1 fun j hj=>?_
 refine h _ ?_ _ _ _ _ _ _ _ (h3 j hj)
 simp only[List.getD,List.getElem?_eq_getElem hj,Option.getD_some];exact List.getElem_mem hj
def zM:AV→List Nat
 | .sl _ b _ _ _=>[b]
 | _=>[]
def FE:AV→List Nat
 | .agg cs=>cs.flatMap zM
 | v=>zM v
theorem Rf {s s2:FS}:∀ {v:AV},(∀ b ∈ zM v,s2.H b=s.H b)→Yt s2 v=Yt s v:=fun {v} h=>by
 cases v<;>simp only[Yt]
 rw[h _ (by simp[zM])]
theorem Xf6 {s s2:FS} {v:AV} (h:∀ b ∈ FE v,s2.H b=s.H b):Ze s2 v=Ze s v:=by
 cases v<;>simp only[Ze]
 case agg cs =>
  congr 1
  refine List.map_congr_left fun x hx=>Rf fun b hb=>h b ?_
  simp only[FE,List.mem_flatMap];exact ⟨x,hx,hb⟩
 all_goals exact Rf h
section
variable {P:Program} {c:Cx}
def tP (s:FS) (gl:Nat→AV) (d:Option Nat) (xs:List TV) (gd:Option (Nat × Bool)):bn:=⟨jo gd++Xr xs,((aG gl s xs).map Qk).flatMap FE,d.toList,[]⟩
theorem Rg {g g':Nat→GM} {W W':Nat→Prop} {w:World} {f:AV→AV}:∀ {xs:List AV} {vs:List Value},bO g W w xs vs→(∀ x ∈ xs,∀ v,VR g W w x v→VR g' W' w (f x) v)→bO g' W' w (xs.map f) vs
 | [],[],_,_=>trivial
 | x::xs,v::vs,h,k=>⟨k x av v h.1,Rg h.2 fun y hy=>k y (by simp[hy])⟩
 | [],_::_,h,_=>h.elim
 | _::_,[],h,_=>h.elim
theorem Rh {s:St} {d:Option Nat} {f:FuncId} {xs:List TV} {gd:Option (Nat × Bool)} {args:List AV} {r:AV} (aY:Uh c.gl s.fs xs gd) (aN:((aG c.gl s.fs xs).map Qk).map (Ze s.fs)=args) (fc:ai 0 args) (iJ:Kd r)
  (ec:ob (gB s.fs gd) (PS P c.gl f args r)):Ky P c (.pd d (.call f) xs gd) s.fs (tP s.fs c.gl d xs gd) (s.bQ d (cw (gB s.fs gd) r)).fs:=by
 intro ops io he
 obtain ⟨bf,bh,hd,ys,aJ,rfl⟩:=Zr he
 obtain ⟨ts,bl⟩:=wV aJ
 have eU:(s.bQ d (cw (gB s.fs gd) r)).fs=match d with|some d=>s.fs.put d (cw (gB s.fs gd) r)|none=>s.fs:=by
  cases d with
  | none=>rfl
  | some d=>exact St.bT _ _ _
 rw[eU]
 refine ⟨fun i hi=>?_,fun b _=>by cases d<;>rfl,?_⟩
 ·cases d with
  | none=>rfl
  | some d=>show (s.fs.put d _).T i=_;rw[FS.dg,if_neg (fun e=>hi (by simp[tP,e]))]
 ·intro s2 hT hH g a w hR K Q' hK
  have bp:aG c.gl s2 (ys.map aT)=aG c.gl s.fs (ys.map aT):=Yi fun i hi=>hT i (by simp[tP,hi])
  have hg:∀ t b,gd=some (t,b)→s2.T t=s.fs.T t:=fun t b e=>hT t (by simp[tP,e,jo])
  have oz:gB s2 gd=gB s.fs gd:=by
   cases gd with
   | none=>rfl
   | some p=>obtain ⟨t,b⟩:=p;simp only[gB,hg t b rfl]
  have oA:fE s2 gd:=by
   have:=aY.1
   cases gd with
   | none=>exact this
   | some p=>obtain ⟨t,b⟩:=p;simpa only[fE,hg t b rfl] using this
  have lP:∀ v w',Fr w w' (fun _=>False)→VR g (Qo c g s2) w' (cw (gB s.fs gd) r) v→K (a.put io.dst v) w':=fun v w' hf hv=>by
   rw[bh]
   have bg:=hR.grow hf
   cases d with
   | none =>
    refine hK g _ w' ?_
    have:dj s2 s.fs (tP s.fs c.gl none (ys.map aT) gd)=s2:=by unfold dj tP;simp
    simp only[this];exact bg
   | some d =>
    refine hK g _ w' ?_
    show R c g (dj s2 (s.fs.put d _) ⟨jo gd++Xr (ys.map aT),_,[d],[]⟩) _ _
    rw[wP]
    exact bg.put (by simpa using hd) hv
  unfold mg
  rw[vi bf hR oA,oz]
  have run:(∀ b,gB s.fs gd=some b→b=true)→io.wp P a w K Q':=by
   intro hb
   have pA:Qv none (aG c.gl s2 (ys.map aT)):=by
    rw[bp]
    have:=aY.2
    cases ca:gB s.fs gd with
    | none=>rw[ca]at this;exact this
    | some b=>rw[ca]at this;exact zu (hb b ca) this
   have qn:PS P c.gl f args r:=by
    cases ca:gB s.fs gd with
    | none=>rw[ca]at ec;exact ec
    | some b=>rw[ca]at ec;exact ec (hb b ca)
   have hv:=Yn (hR.aG ys) pA
   rw[bp]at hv
   have FD:∀ x ∈ (aG c.gl s.fs (ys.map aT)).map Qk,Ze s2 x=Ze s.fs x:=fun x hx=>Xf6 fun b hb=>hH b (by simp only[tP,List.mem_flatMap];exact ⟨x,hx,hb⟩)
   have oh:bO (fun _=>.un) c.X w args (ys.map a.eval):=by
    rw[← aN]at fc ⊢
    refine Rg hv fun x hx v h=>?_
    have hn:=Xv.1 fc (Ze s.fs x) (List.mem_map_of_mem hx)
    rw[← FD x hx]at hn ⊢
    exact I6 hR h hn
   have hX:∀ k,c.X k→k < w.heap.size:=fun k h=>by have:=(hR.xs k h).1;have:=hR.fr.size;omega
   have jt:∀ i,VR (fun _=>.un) c.X w (c.gl i) (.pointer (some ⟨i,0,none⟩)):=fun i=>(hR.gl i).mono (Fr.refl _ _) (fun k _ h=>.inl h) (fun _ _=>rfl)
   have cN:=qn.2 w _ _ hX jt oh
   unfold Oper.wp
   rw[wW qn.1 bl]
   rw[Oper.upon_enter]
   refine cN.mono fun e w' ⟨v,e1,e2,e3⟩=>?_
   subst e1
   refine lP v w' e3 ?_
   have fL:VR g (Qo c g s2) w' r v:=iJ _ _ _ _ _ _ _ e2
   cases ca:gB s.fs gd with
   | none=>exact fL
   | some b=>exact .dw (fun _=>fL) fun h=>by rw[hb b ca]at h;cases h
  cases ca:gB s.fs gd with
  | none=>simp only[Option.getD_none,if_true];exact run fun b h=>by rw[ca]at h;cases h
  | some b =>
   cases b with
   | true=>simp only[Option.getD_some,if_true];exact run fun b h=>by rw[ca]at h;cases h;rfl
   | false =>
    simp only[Option.getD_some,Bool.false_eq_true,if_false]
    refine lP undef w (Fr.refl _ _) ?_
    rw[ca]
    exact .dw (fun h=>by cases h) fun _=>rfl
theorem Wy {r0:List bG} {K:St→Prop} {s:St} {d:Option Nat} {f:FuncId} {xs:List TV} {gd:Option (Nat × Bool)} {args:List AV} {r:AV} (aN:((aG c.gl s.fs xs).map Qk).map (Ze s.fs)=args) (ec:PS P c.gl f args r) (iJ:Kd r)
  (aY:Uh c.gl s.fs xs gd∧ai 0 args∧XP P c r0 K (s.bQ d (cw (gB s.fs gd) r))):Yh P c (.pd d (.call f) xs gd) r0 K s:=.inl ⟨_,_,Rh aY.1 aN aY.2.1 iJ (wY ec),aY.2.2⟩
theorem Kv {anc:List Nat} {fs:List bn} {r0:List bG} {K:St→Prop} {s:St} {d:Option Nat} {f:FuncId} {xs:List TV} {gd:Option (Nat × Bool)} {args:List AV} {r:AV} (aN:((aG c.gl s.fs xs).map Qk).map (Ze s.fs)=args) (ec:PS P c.gl f args r) (iJ:Kd r)
  (aY:Uh c.gl s.fs xs gd∧ai 0 args∧XD P c anc r0 (tP s.fs c.gl d xs gd::fs) K (s.bQ d (cw (gB s.fs gd) r))):Zm P c anc (.pd d (.call f) xs gd) r0 fs K s:=⟨_,_,Rh aY.1 aN aY.2.1 iJ (wY ec),aY.2.2⟩
end
theorem Qzt (es b o n c:Nat):zM (.sl es b o n c)=[b]:=rfl
attribute [go_sem] tP Qzt zM FE List.flatMap_cons List.flatMap_nil
section
variable {P:Program} {c:Cx} {g g':Nat→GM} {s:FS} {a:Act} {w w':World} {W W':Nat→Prop}
structure Fit (σ:Nat→Nat) (s:FS) (aI:List (Nat × Bk)) (m:Nat):Prop where
 mem:∀ p ∈ aI,p.1 < m∧bJ m p.2∧s.H (σ p.1)=Xg σ p.2
 inj:∀ p ∈ aI,∀ q ∈ aI,σ p.1=σ q.1→p.1=q.1
def qz (g:Nat→GM) (σ:Nat→Nat) (aI:List (Nat × Bk)) (m:Nat) (k:Nat):Prop:=∃ b,(Qc aI m b).live∧g (σ b)=.re k
def Yeu (c:Cx) (g:Nat→GM) (s:FS) (G:Nat→Prop) (k:Nat):Prop:=Qo c g s k∧¬ G k
def pH (c:Cx) (g:Nat→GM) (s:FS) (w:World) (σ:Nat→Nat) (aI:List (Nat × Bk)) (m:Nat):Cx:=⟨0,w,qz g σ aI m,Yeu c g s (qz g σ aI m),c.gl,[]⟩
theorem Uq {h:List (Nat × Bk)} {m b:Nat} (hl:(Qc h m b).live):∃ p ∈ h,p.1=b∧Qc h m b=p.2:=by
 rcases Zs h m b with e|e
 ·rw[e]at hl;split at hl<;>exact hl.elim
 ·exact e
open Classical in
theorem FF {σ:Nat→Nat} {aI:List (Nat × Bk)} {m:Nat} (hR:R c g s a w) (fit:Fit σ s aI m):∃ g1:Nat→GM,(∀ b,b < m→g (σ b)≠.un→g (σ b)=g1 b) ∧
  R (pH c g s w σ aI m) g1 (⟨[],aI,m⟩:St).fs ⟨#[],[]⟩ w∧(∀ k,Qo (pH c g s w σ aI m) g1 (⟨[],aI,m⟩:St).fs k→Qo c g s k):=by
 let g1:Nat→GM:=fun b=>if b < m then (if g (σ b)=.un then .ph else g (σ b)) else .un
 have jv:∀ b,b < m→g (σ b)≠.un→g (σ b)=g1 b:=fun b hb h=>by simp only[g1,if_pos hb,if_neg h]
 have iu:∀ b,m≤b→g1 b=.un:=fun b hb=>by simp only[g1];rw[if_neg af]
 have bN:∀ b,b < m→g1 b≠.un:=fun b hb=>by
  simp only[g1,if_pos hb]
  split
  ·intro h;cases h
  ·assumption
 have di:∀ b,(Qc aI m b).live→b < m∧(s.H (σ b)).live∧g1 b=g (σ b):=fun b hl=>by
  obtain ⟨p,hp,rfl,e⟩:=Uq hl
  obtain ⟨h1,h2,h3⟩:=fit.mem p hp
  have di:(s.H (σ p.1)).live:=by rw[h3,zC];exact Xj h2
  refine ⟨h1,di,(jv _ h1 fun e=>?_).symm⟩
  have:=hR.h (σ p.1)
  rw[e]at this
  generalize s.H (σ p.1)=x at this di
  exact this.fU di
 have hW:∀ k,Qo (pH c g s w σ aI m) g1 (⟨[],aI,m⟩:St).fs k→Qo c g s k:=by
  rintro k (h|⟨b,h1,h2⟩)
  ·exact h.1
  ·obtain ⟨_,h4,h5⟩:=di b h1
   exact .inr ⟨σ b,h4,by rw[← h5];exact h2⟩
 refine ⟨g1,jv,⟨rfl,rfl,fun i=>.any _,fun i=>(hR.gl i).mono (Fr.refl w _) (fun k _=>hW k) (fun _ _=>rfl),fun b=>?_,fun b b' k h1 h2 e1 e2=>?_,fun b k h1 e1=>?_,Fr.refl _ _,fun k hk=>⟨?_,hk.2⟩,fun p hp=>by cases hp⟩,hW⟩
 ·show BR g1 _ w _ (Qc aI m b)
  rcases Zs aI m b with h|⟨p,h1,rfl,h3⟩
  ·rw[h]
   split
   ·rename_i hb;exact .dead (bN b hb)
   ·rename_i hb;rw[iu b af];exact .free
  ·rw[h3]
   obtain ⟨q1,q2,q3⟩:=fit.mem p h1
   obtain ⟨_,_,e5⟩:=di p.1 (by rw[h3];exact Xj q2)
   rw[e5]
   have dV:=hR.h (σ p.1)
   rw[q3]at dV
   exact dV.iH jv q2 hW
 ·obtain ⟨p1,oE,rfl,_⟩:=Uq h1
  obtain ⟨p2,fb,rfl,_⟩:=Uq h2
  obtain ⟨_,l1,d1⟩:=di _ h1
  obtain ⟨_,l2,d2⟩:=di _ h2
  exact fit.inj p1 oE p2 fb (hR.inj _ _ k l1 l2 (by rw[← d1];exact e1) (by rw[← d2];exact e2))
 ·obtain ⟨_,l1,d1⟩:=di _ h1
  exact .inr ⟨b,h1,by rw[← d1];exact e1⟩
 ·rcases hk.1 with h|⟨b',hl,fk⟩
  ·have:=(hR.xs k h).1;have:=hR.fr.size;show k < w.heap.size;omega
  ·exact BR.lt (fk ▸ hR.h b') hl
def cV (h:List (Nat × Bk)) (n:Nat):FS:=(⟨[],h,n⟩:St).fs
def GS (P:Program) (gl:Nat→AV) (f:FuncId) (args:List AV) (aI:List (Nat × Bk)) (m:Nat) (r:AV) (ax:List (Nat × Bk)) (n:Nat):Prop :=
 zD P f∧∀ (w:World) (vs:List Value) (G X:Nat→Prop) (g:Nat→GM),R ⟨0,w,G,X,gl,[]⟩ g (cV aI m) ⟨#[],[]⟩ w→bO g (Qo ⟨0,w,G,X,gl,[]⟩ g (cV aI m)) w args vs →
  Calls P f vs.toArray w fun e w'=>∃ v g',e=.returned v∧R ⟨0,w,G,X,gl,[]⟩ g' (cV ax n) ⟨#[],[]⟩ w'∧(∀ b,b < m→g' b=g b)∧VR g' (Qo ⟨0,w,G,X,gl,[]⟩ g' (cV ax n)) w' r v
def FG (m:Nat) (rs:List RS) (r:AV) (ax:List (Nat × Bk)) (n:Nat):EX→St→Prop
 | .exit _,_=>False
 | _,s=>Wt s.fs rs∧∃ ρ,qm m ρ n∧Sub (rl ρ) ⟨[(0,fY s.fs rs)],s.h,s.n⟩ ⟨[(0,r)],ax,n⟩
theorem FH {w:World} {vs:List Value} {args:List AV} {N:Nat} (hN:args.length≤N) {G X:Nat→Prop} {gl:Nat→AV} {g:Nat→GM} {aI:List (Nat × Bk)} {m:Nat} {gh:List (Nat × GM)} (hR:R ⟨0,w,G,X,gl,[]⟩ g (cV aI m) ⟨#[],[]⟩ w)
  (hv:bO g (Qo ⟨0,w,G,X,gl,[]⟩ g (cV aI m)) w args vs) (gN:∀ p ∈ gh,g p.1=p.2∧p.2≠.un) :
  R ⟨N,w,G,X,gl,gh⟩ g (⟨js 0 args,aI,m⟩:St).fs { tmps:=vs.toArray++Array.replicate (N - vs.toArray.size) undef,defers:=[] } w:=by
 have hl:=hv.length
 refine ⟨by simp;omega,rfl,fun i=>?_,hR.gl,hR.h,hR.inj,hR.old,hR.fr,hR.xs,gN⟩
 show VR g _ w (look (js 0 args) i) _
 rw[I2]
 split
 ·rename_i h
  have hi:i < vs.length:=by omega
  have:=hv.get i af
  have e:(vs.toArray++Array.replicate (N - vs.toArray.size) undef).getD i undef=vs.getD i undef:=by
   simp only[Array.getD_eq_getD_getElem?,List.getD]
   rw[Array.getElem?_append_left (by simpa using hi)]
   simp
  rw[e]
  have h2:VR g (Qo ⟨0,w,G,X,gl,[]⟩ g (cV aI m)) w (args.getD (i - 0) .any) (vs.getD i undef):=by simpa using this
  exact h2
 ·exact .any _
theorem Xx0 {gl : Nat → AV} {f : FuncId} {fn : Func} {code : Code} {t : TC} {rs : List RS} {args : List AV} {aI ax : List (Nat × Bk)} {m n : Nat} {r : AV} (hm : P.follows .mixedOrders = true) (hf : P.funcs[f]? = some fn) (hb : fn.body = some code) (dW : (fn.name == "runtime.NumGoroutine") = false)
  (he:Jf P fn.ntmps code=some t) (hr:m8 P fn.results.toList=some rs) (hN:args.length≤fn.ntmps) (aO:∀ p ∈ aI,p.2.live)
  (h:∀ c:Cx,(∀ p ∈ c.gh,p.1 < m)→c.gl=gl→xw P c t (FG m rs r ax n) ⟨js 0 args,aI,m⟩):GS P gl f args aI m r ax n:=by
 refine ⟨⟨fn,hf,by rw[hb];rfl,dW⟩,fun w vs G X g jJ hv=>?_⟩
 refine calls_of_wp hf hb ?_
 have jl:∀ b,b < m→g b≠.un:=fun b gG e=>by
  have:=jJ.h b
  rw[e]at this
  have hh:(cV aI m).H b=Qc aI m b:=rfl
  rw[hh]at this
  rcases Zs aI m b with q|⟨p,hp,_,q⟩
  ·rw[q,if_pos gG]at this;cases this;rename_i h;exact h rfl
  ·rw[q]at this
   have hl:=aO p hp
   cases hx:p.2 with
   | free=>rw[hx]at hl;exact hl.elim
   | dead=>rw[hx]at hl;exact hl.elim
   | cells cs=>rw[hx]at this;cases this
   | aC kvs dn=>rw[hx]at this;cases this
   | bm kvs bs ck=>rw[hx]at this;cases this
   | iter b0 ck seen=>rw[hx]at this;cases this
   | db ls=>rw[hx]at this;cases this with|db _ h=>cases h
 have gN:∀ p ∈ (List.range m).map (fun b=>(b,g b)),g p.1=p.2∧p.2≠.un:=fun p hp=>by
  obtain ⟨b,gG,rfl⟩:=List.mem_map.1 hp
  exact ⟨rfl,jl b (List.mem_range.1 gG)⟩
 have a7:∀ p ∈ (List.range m).map (fun b=>(b,g b)),p.1 < m:=fun p hp=>by
  obtain ⟨b,gG,rfl⟩:=List.mem_map.1 hp
  exact List.mem_range.1 gG
 have hR:=FH (N:=fn.ntmps) hN jJ hv gN
 have:=vn (c:=⟨fn.ntmps,w,G,X,gl,(List.range m).map (fun b=>(b,g b))⟩) hm code t _ _ he (h _ a7 rfl) _ _ _ hR
 refine wp_mono this fun e a' w' hq=>?_
 have fin:∀ (g1:Nat→GM) (s:St),R ⟨fn.ntmps,w,G,X,gl,(List.range m).map (fun b=>(b,g b))⟩ g1 s.fs a' w'→(Wt s.fs rs∧∃ ρ,qm m ρ n∧Sub (rl ρ) ⟨[(0,fY s.fs rs)],s.h,s.n⟩ ⟨[(0,r)],ax,n⟩) →
   a'.defers=[]∧∃ v,(results fn a'.tmps).run P w'=.ok v w'∧(∃ nc g',Ending.returned v=.returned nc∧R ⟨0,w,G,X,gl,[]⟩ g' (cV ax n) ⟨#[],[]⟩ w'∧(∀ b,b < m→g' b=g b)∧VR g' (Qo ⟨0,w,G,X,gl,[]⟩ g' (cV ax n)) w' r nc):=by
  intro g1 s bg ⟨h1,ρ,h2,h3⟩
  obtain ⟨v,h4,h5⟩:=BQ bg hr h1
  refine ⟨bg.dL,v,h4,v,?_⟩
  have cu:R ⟨1,w,G,X,gl,(List.range m).map (fun b=>(b,g b))⟩ g1 (⟨[(0,fY s.fs rs)],s.h,s.n⟩:St).fs ⟨#[v],[]⟩ w':=by
   refine ⟨rfl,rfl,fun i=>?_,bg.gl,bg.h,bg.inj,bg.old,bg.fr,bg.xs,bg.ib⟩
   show VR g1 _ w' (look [(0,fY s.fs rs)] i) _
   rw[Zn]
   split
   ·rename_i hi;subst hi;exact h5
   ·exact .any _
  obtain ⟨g2,bV⟩:=h3.to cu (I1 a7 h2)
  refine ⟨g2,rfl,⟨rfl,rfl,fun i=>.any _,bV.gl,bV.h,bV.inj,bV.old,bV.fr,bV.xs,fun p hp=>by cases hp⟩,fun b hb=>?_,?_⟩
  ·exact (bV.ib (b,g b) (List.mem_map.2 ⟨b,List.mem_range.2 hb,rfl⟩)).1
  ·exact bV.t 0
 cases e with
 | normal=>obtain ⟨g,s,bg,cF⟩:=hq;exact fin g s bg cF
 | ret=>obtain ⟨g,s,bg,cF⟩:=hq;exact fin g s bg cF
 | exit i=>obtain ⟨g,s,bg,cF⟩:=hq;exact cF.elim
 | goto l=>exact hq.elim
 | panic ch=>exact hq.elim
 | outgrown=>exact hq.elim
def qA (σ:Nat→Nat):Bk→Bk
 | .dead=>.dead
 | x=>Xg σ x
theorem BR.aE {σ:Nat→Nat} {n:Nat} (hg:∀ b,b < n→g' (σ b)=g b) {mm:GM} {x:Bk} (h:BR g W w mm x) (hn:bJ n x) (hW:∀ k,W' k→W k):BR g' W' w mm (Xg σ x):=by
 have fwd:∀ {v u},Qe n v→VR g W w v u→VR g' W' w (Proofs.YtogckmommodmhaaGreatDoor.aE σ v) u:=fun hn h=>(h.aE (ρ:=σ) (g:=g') hg hn).mono (Fr.refl w W) (fun k _=>hW k) (fun _ _=>rfl)
 cases h with
 | free=>exact hn.elim
 | dead h=>exact hn.elim
 | ph=>simp only[Xg,az];exact .ph
 | cells hb hl h1 hv hz =>
  simp only[Xg,bJ]at hn ⊢
  refine .cells hb (by rw[Ys];exact hl) (by rw[Ys];exact h1) (fun j hj=>?_) hz
  rw[Ys]at hj
  rw[Ku];exact fwd (Zv hn j) (hv j hj)
 | aC hb hs j4 hv hc ha hd =>
  rename_i k kvs dn es clock
  simp only[Xg,bJ]at hn ⊢
  have aW:∀ j,j < kvs.length→(kvs.map fun p=>(Proofs.YtogckmommodmhaaGreatDoor.aE σ p.1,Proofs.YtogckmommodmhaaGreatDoor.aE σ p.2)).getD j (.any,.any)=(Proofs.YtogckmommodmhaaGreatDoor.aE σ (kvs.getD j (.any,.any)).1,Proofs.YtogckmommodmhaaGreatDoor.aE σ (kvs.getD j (.any,.any)).2):=fun j hj=>by simp[List.getD,hj]
  have bI:∀ j,j < kvs.length→kvs.getD j (.any,.any) ∈ kvs:=fun j hj=>by simp[List.getD,hj]
  refine .aC hb (by rw[List.length_map];exact hs) (fun j hj=>?_) (fun j hj=>?_) hc ha hd
  ·rw[List.length_map]at hj;rw[aW j hj];exact fwd (hn _ (bI j hj)).1 (j4 j hj)
  ·rw[List.length_map]at hj;rw[aW j hj];exact fwd (hn _ (bI j hj)).2 (hv j hj)
 | bm hb hs j4 hv hc ha hd =>
  rename_i k kvs bs es clock
  simp only[Xg,bJ]at hn ⊢
  have aW:∀ j,j < kvs.length→(kvs.map fun p=>(Proofs.YtogckmommodmhaaGreatDoor.aE σ p.1,Proofs.YtogckmommodmhaaGreatDoor.aE σ p.2)).getD j (.any,.any)=(Proofs.YtogckmommodmhaaGreatDoor.aE σ (kvs.getD j (.any,.any)).1,Proofs.YtogckmommodmhaaGreatDoor.aE σ (kvs.getD j (.any,.any)).2):=fun j hj=>by simp[List.getD,hj]
  have bI:∀ j,j < kvs.length→kvs.getD j (.any,.any) ∈ kvs:=fun j hj=>by simp[List.getD,hj]
  refine .bm hb (by rw[List.length_map];exact hs) (fun j hj=>?_) (fun j hj=>?_) hc ha hd
  ·rw[List.length_map]at hj;rw[aW j hj];exact fwd (hn _ (bI j hj)).1 (j4 j hj)
  ·rw[List.length_map]at hj;rw[aW j hj];exact fwd (hn _ (bI j hj)).2 (hv j hj)
 | iter hb kN =>
  simp only[Xg,bJ]at hn ⊢
  exact .iter hb (by rw[hg _ hn];exact kN)
 | db hp h=>exact BR.j6 (.db hp h) hn hW
structure w5 (σ:Nat→Nat) (s s3:FS) (ax:List (Nat × Bk)) (n:Nat):Prop where
 T:∀ i,s3.T i=s.T i
 H:∀ b,b < n→s3.H (σ b)=qA σ (Qc ax n b)
 rest:∀ j,(∀ b,b < n→σ b≠j)→s3.H j=s.H j
open Classical in
noncomputable def Jx (g g2:Nat→GM) (σ:Nat→Nat) (n:Nat) (j:Nat):GM:=if h:∃ b,b < n∧σ b=j then g2 h.choose else g j
theorem Ri {σ:Nat→Nat} {aI ax:List (Nat × Bk)} {m n:Nat} {s3:FS} {g1 g2:Nat→GM} (hR:R c g s a w) (fit:Fit σ s aI m) (qB:∀ b,b < m→∃ p ∈ aI,p.1=b) (sA:m≤n) (bU:∀ b b',b < n→b' < n→σ b=σ b'→b=b') (b6:∀ b,m≤b→b < n→s.H (σ b)=.free)
  (fc:∀ p ∈ ax,bJ n p.2) (hlt:∀ p ∈ ax,p.1 < n) (jv:∀ b,b < m→g (σ b)≠.un→g (σ b)=g1 b) (vu:∀ b,b < m→g2 b=g1 b) (bV:R (pH c g s w σ aI m) g2 (cV ax n) ⟨#[],[]⟩ w') (hb:w5 σ s s3 ax n) :
  R c (Jx g g2 σ n) s3 a w'∧∀ {r:AV} {v:Value},Qe n r→VR g2 (Qo (pH c g s w σ aI m) g2 (cV ax n)) w' r v→VR (Jx g g2 σ n) (Qo c (Jx g g2 σ n) s3) w' (aE σ r) v:=by
 have gs:∀ b,b < n→Jx g g2 σ n (σ b)=g2 b:=fun b dR=>by
  unfold Jx
  have hex:∃ b',b' < n∧σ b'=σ b:=⟨b,dR,rfl⟩
  rw[dif_pos hex]
  rw[bU _ _ hex.choose_spec.1 dR hex.choose_spec.2]
 have go:∀ j,(∀ b,b < n→σ b≠j)→Jx g g2 σ n j=g j:=fun j h=>by
  unfold Jx
  rw[dif_neg]
  rintro ⟨b,h1,h2⟩;exact h b h1 h2
 have named:∀ b,b < m→g (σ b)≠.un:=fun b gG e=>by
  obtain ⟨p,hp,rfl⟩:=qB b gG
  obtain ⟨_,q2,q3⟩:=fit.mem p hp
  have:=hR.h (σ p.1)
  rw[e,q3]at this
  have hl:(Xg σ p.2).live:=zC.2 (Xj q2)
  generalize Xg σ p.2=x at this hl
  exact this.fU hl
 have gm:∀ b,b < m→g2 b=g (σ b):=fun b gG=>by rw[vu b gG,← jv b gG (named b gG)]
 have gk:∀ j,g j≠.un→Jx g g2 σ n j=g j:=fun j hj=>by
  by_cases h:∃ b,b < n∧σ b=j
  ·obtain ⟨b,dR,rfl⟩:=h
   rw[gs b dR]
   by_cases gG:b < m
   ·exact gm b gG
   ·have:=hR.h (σ b)
    rw[b6 b af dR]at this
    generalize g (σ b)=x at this hj
    cases this;exact (hj rfl).elim
  ·exact go j fun b h1 h2=>h ⟨b,h1,h2⟩
 have jga:∀ b,(Qc ax n b).live→b < n:=fun b hl=>by
  obtain ⟨p,hp,rfl,_⟩:=Uq hl
  exact hlt p hp
 have lin:∀ b,(Qc aI m b).live→b < m:=fun b hl=>by
  obtain ⟨p,hp,rfl,_⟩:=Uq hl
  exact (fit.mem p hp).1
 have qC:∀ b,(Qc aI m b).live→(s.H (σ b)).live:=fun b hl=>by
  obtain ⟨p,hp,rfl,_⟩:=Uq hl
  obtain ⟨_,q2,q3⟩:=fit.mem p hp
  rw[q3,zC];exact Xj q2
 have cZ:∀ j,(s3.H j).live→(∃ b,b < n∧σ b=j∧(Qc ax n b).live)∨((∀ b,b < n→σ b≠j)∧(s.H j).live):=fun j hl=>by
  by_cases h:∃ b,b < n∧σ b=j
  ·obtain ⟨b,dR,rfl⟩:=h
   rw[hb.H b dR]at hl
   refine .inl ⟨b,dR,rfl,?_⟩
   cases hx:Qc ax n b with
   | free=>rw[hx]at hl;exact hl.elim
   | dead=>rw[hx]at hl;exact hl.elim
   | cells cs=>trivial
   | aC kvs dn=>trivial
   | bm kvs bs ck=>trivial
   | iter b0 ck seen=>trivial
   | db ls=>trivial
  ·have cd:∀ b,b < n→σ b≠j:=fun b h1 h2=>h ⟨b,h1,h2⟩
   rw[hb.rest j cd]at hl
   exact .inr ⟨cd,hl⟩
 -- memory of a block wQ comes back
 have ga:∀ b k,(Qc ax n b).live→g2 b=.re k→w.heap.size≤k∨∃ b0,(Qc aI m b0).live∧g (σ b0)=.re k:=fun b k hl hk=>bV.old b k hl hk
 have hf:Fr w w' (qz g σ aI m):=bV.fr
 have zN:∀ k,qz g σ aI m k→Qo c g s k:=fun k ⟨b,h1,h2⟩=>.inr ⟨σ b,qC b h1,h2⟩
 have qD:Fr w w' (Qo c g s):=hf.weak zN
 have sB:∀ j k,(∀ b,b < n→σ b≠j)→(s.H j).live→g j=.re k→¬ qz g σ aI m k:=fun j k h1 h2 h3 ⟨b,q1,q2⟩ =>
  h1 b (Nat.lt_of_lt_of_le (lin b q1) sA) (hR.inj (σ b) j k (qC b q1) h2 q2 h3)
 have nk:∀ k,k < w.heap.size→Qo c (Jx g g2 σ n) s3 k→Qo c g s k:=by
  rintro k hk (h|⟨j,h1,h2⟩)
  ·exact .inl h
  ·rcases cZ j h1 with ⟨b,dR,rfl,hl⟩|⟨cd,hl⟩
   ·rw[gs b dR]at h2
    rcases ga b k hl h2 with h|⟨b0,q1,q2⟩
    ·omega
    ·exact zN k ⟨b0,q1,q2⟩
   ·rw[go j cd]at h2;exact .inr ⟨j,hl,h2⟩
 have mA:∀ k,Qo c (Jx g g2 σ n) s3 k→Qo (pH c g s w σ aI m) g2 (cV ax n) k:=by
  rintro k (h|⟨j,h1,h2⟩)
  ·refine .inl ⟨.inl h,fun ⟨b,q1,q2⟩=>?_⟩
   obtain ⟨x1,x2⟩:=hR.xs k h
   rcases hR.old (σ b) k (qC b q1) q2 with h|h
   ·omega
   ·exact x2 h
  ·rcases cZ j h1 with ⟨b,dR,rfl,hl⟩|⟨cd,hl⟩
   ·rw[gs b dR]at h2;exact .inr ⟨b,hl,h2⟩
   ·rw[go j cd]at h2;exact .inl ⟨.inr ⟨j,hl,h2⟩,sB j k cd hl h2⟩
 refine ⟨⟨hR.size,hR.dL,fun i=>?_,fun i=>(hR.gl i).mono qD nk (fun _ _=>rfl),fun j=>?_,fun j j' k h1 h2 e1 e2=>?_,fun j k h1 e1=>?_,hR.fr.trans hf fun k hk ⟨b,q1,q2⟩=>?_,hR.xs,fun p hp=>?_⟩,fun {r v} hn hv=>?_⟩
 ·rw[hb.T];exact (hR.t i).mono qD nk gk
 ·by_cases h:∃ b,b < n∧σ b=j
  ·obtain ⟨b,dR,rfl⟩:=h
   rw[hb.H b dR,gs b dR]
   have dV:=bV.h b
   have e:(cV ax n).H b=Qc ax n b:=rfl
   rw[e]at dV
   rcases Zs ax n b with q|⟨p,hp,_,q⟩
   ·rw[q,if_pos dR]at dV ⊢
    generalize g2 b=x at dV ⊢
    cases dV with
    | dead h=>exact .dead h
   ·rw[q]at dV ⊢
    have pw:=fc p hp
    have:qA σ p.2=Xg σ p.2:=by
     cases hx:p.2<;>first|rfl|(rw[hx]at pw;exact pw.elim)
    rw[this]
    exact dV.aE (g':=Jx g g2 σ n) gs pw mA
  ·have cd:∀ b,b < n→σ b≠j:=fun b h1 h2=>h ⟨b,h1,h2⟩
   rw[hb.rest j cd,go j cd]
   refine (hR.h j).mono qD nk gk fun k hk hl=>hf.eg k ?_ (sB j k cd hl hk)
   exact BR.lt (hk ▸ hR.h j) hl
 ·rcases cZ j h1 with ⟨b,dR,rfl,hl⟩|⟨cd,hl⟩<;>rcases cZ j' h2 with ⟨b',B8,rfl,kR⟩|⟨mB,kR⟩
  ·rw[gs b dR]at e1;rw[gs b' B8]at e2
   rw[bV.inj b b' k hl kR e1 e2]
  ·rw[gs b dR]at e1;rw[go j' mB]at e2
   have hlt:=BR.lt (e2 ▸ hR.h j') kR
   rcases ga b k hl e1 with h|hG
   ·omega
   ·exact (sB j' k mB kR e2 hG).elim
  ·rw[gs b' B8]at e2;rw[go j cd]at e1
   have hlt:=BR.lt (e1 ▸ hR.h j) hl
   rcases ga b' k kR e2 with h|hG
   ·omega
   ·exact (sB j k cd hl e1 hG).elim
  ·rw[go j cd]at e1;rw[go j' mB]at e2
   exact hR.inj j j' k hl kR e1 e2
 ·rcases cZ j h1 with ⟨b,dR,rfl,hl⟩|⟨cd,hl⟩
  ·rw[gs b dR]at e1
   rcases ga b k hl e1 with h|⟨b0,q1,q2⟩
   ·have:=hR.fr.size;exact .inl af
   ·exact hR.old (σ b0) k (qC b0 q1) q2
  ·rw[go j cd]at e1;exact hR.old j k hl e1
 ·rcases hR.old (σ b) k (qC b q1) q2 with h|h
  ·omega
  ·exact h
 ·obtain ⟨q1,q2⟩:=hR.ib p hp
  exact ⟨by rw[gk p.1 (by rw[q1];exact q2),q1],q2⟩
 ·exact (hv.aE (ρ:=σ) (g:=Jx g g2 σ n) gs hn).mono (Fr.refl _ _) (fun k _=>mA k) (fun _ _=>rfl)
end
def sg (ins:List Nat) (m n0:Nat) (b:Nat):Nat:=if b < m then ins.getD b 0 else n0 + (b - m)
def B9 (σ:Nat→Nat) (s:FS) (m:Nat):List (Nat × Bk)→Prop
 | []=>True
 | (b,x)::r=>b < m∧bJ m x∧s.H (σ b)=Xg σ x∧B9 σ s m r
def zO:List Nat→Bool
 | []=>true
 | x::r=>r.all (fun y=>!(Nat.beq x y)) && zO r
def w6 (ins:List Nat) (m n0:Nat):Bool:=(ins.length == m) && zO ins && ins.all (fun j=>decide (j < n0))
def Ca (s:FS):List Nat→Prop
 | []=>True
 | j::r=>s.H j=.free∧Ca s r
def Cb (n:Nat):List (Nat × Bk)→Prop
 | []=>True
 | (b,x)::r=>b < n∧bJ n x∧Cb n r
def zP (n0:Nat):Nat→List Nat
 | 0=>[]
 | k + 1=>zP n0 k++[n0 + k]
def jw (n0 m n:Nat):List Nat:=zP n0 (n - m)
theorem tQ {n0 j:Nat}:∀ {k:Nat},j ∈ zP n0 k ↔ ∃ i,i < k∧n0 + i=j
 | 0=>by simp[zP]
 | k + 1=>by
  simp only[zP,List.mem_append,tQ (k:=k),List.mem_singleton]
  constructor
  ·rintro (⟨i,h,rfl⟩|rfl)
   ·exact ⟨i,by omega,rfl⟩
   ·exact ⟨k,by omega,rfl⟩
  ·rintro ⟨i,h,rfl⟩
   by_cases hk:i=k
   ·subst hk;exact .inr rfl
   ·exact .inl ⟨i,by omega,rfl⟩
def idx:List (Nat × Bk)→List Nat
 | []=>[]
 | p::r=>p.1::idx r
def upto:Nat→List Nat
 | 0=>[]
 | n + 1=>upto n++[n]
structure lb (s:FS) (n0:Nat) (ins:List Nat) (args:List AV) (aI:List (Nat × Bk)) (m:Nat) (r:AV) (ax:List (Nat × Bk)) (n:Nat):Prop where
 fit:B9 (sg ins m n0) s m aI
 fN:idx aI=upto m
 ins:w6 ins m n0=true
 free:Ca s (jw n0 m n)
 out:Cb n ax
 le:m≤n
 nr:Qe n r
 na:ai m args
theorem JU {σ:Nat→Nat} {s:FS} {m:Nat}:∀ {h:List (Nat × Bk)},B9 σ s m h→∀ p ∈ h,p.1 < m∧bJ m p.2∧s.H (σ p.1)=Xg σ p.2
 | [],_,p,hp=>by cases hp
 | (b,x)::r,h,p,hp=>by
  rcases List.mem_cons.1 hp with rfl|hp
  ·exact ⟨h.1,h.2.1,h.2.2.1⟩
  ·exact JU h.2.2.2 p hp
theorem FI {n:Nat}:∀ {h:List (Nat × Bk)},Cb n h→∀ p ∈ h,p.1 < n∧bJ n p.2
 | [],_,p,hp=>by cases hp
 | (b,x)::r,h,p,hp=>by
  rcases List.mem_cons.1 hp with rfl|hp
  ·exact ⟨h.1,h.2.1⟩
  ·exact FI h.2.2 p hp
theorem JV {s:FS}:∀ {l:List Nat},Ca s l→∀ j ∈ l,s.H j=.free
 | [],_,j,hj=>by cases hj
 | x::l,h,j,hj=>by
  rcases List.mem_cons.1 hj with rfl|hj
  ·exact h.1
  ·exact JV h.2 j hj
theorem JW:∀ h:List (Nat × Bk),idx h=h.map (·.1)
 | []=>rfl
 | p::r=>by simp[idx,JW r]
theorem JX:∀ {n b:Nat},b ∈ upto n ↔ b < n
 | 0,b=>by simp[upto]
 | n + 1,b=>by simp[upto,JX (n:=n)];omega
theorem JY:∀ {l:List Nat},zO l=true→∀ i j,i < l.length→j < l.length→l.getD i 0=l.getD j 0→i=j
 | [],_,i,j,hi,_,_=>by simp at hi
 | x::l,h,i,j,hi,hj,e=>by
  simp only[zO,Bool.and_eq_true]at h
  have b8:∀ y ∈ l,x≠y:=fun y hy exy=>by
   have:=List.all_eq_true.1 h.1 y hy
   subst exy;simp at this
  have bI:∀ k,k < l.length→l.getD k 0 ∈ l:=fun k hk=>by simp only[List.getD,List.getElem?_eq_getElem hk,Option.getD_some];exact List.getElem_mem hk
  cases i with
  | zero =>
   cases j with
   | zero=>rfl
   | succ j=>simp only[List.getD_cons_zero,List.getD_cons_succ]at e;exact (b8 _ (bI j (by simpa using hj)) e).elim
  | succ i =>
   cases j with
   | zero=>simp only[List.getD_cons_zero,List.getD_cons_succ]at e;exact (b8 _ (bI i (by simpa using hi)) e.symm).elim
   | succ j=>simp only[List.getD_cons_succ]at e;rw[JY h.2 i j (by simpa using hi) (by simpa using hj) e]
theorem JZ {ins:List Nat} {m n0:Nat} (h:w6 ins m n0=true) {b b':Nat} (e:sg ins m n0 b=sg ins m n0 b'):b=b':=by
 simp only[w6,Bool.and_eq_true,beq_iff_eq,List.all_eq_true,decide_eq_true_eq]at h
 obtain ⟨⟨h1,h2⟩,h3⟩:=h
 have bI:∀ k,k < m→ins.getD k 0 < n0:=fun k hk=>h3 _ (by simp only[List.getD,List.getElem?_eq_getElem (show k < ins.length by omega),Option.getD_some];exact List.getElem_mem _)
 unfold sg at e
 split at e<;>split at e
 ·exact JY h2 b b' af af e
 ·rename_i x y;have:=bI b x;omega
 ·rename_i x y;have:=bI b' y;omega
 ·omega
section
variable {P:Program} {c:Cx}
def dc (σ:Nat→Nat) (ax:List (Nat × Bk)) (n:Nat):Nat→List (Nat × Bk)
 | 0=>[]
 | k + 1=>(σ k,qA σ (Qc ax n k))::dc σ ax n k
def lf (s:St) (d:Option Nat) (ins:List Nat) (m:Nat) (r:AV) (ax:List (Nat × Bk)) (n:Nat):St :=
 St.bQ ⟨s.t,dc (sg ins m s.n) ax n n++s.h,s.n + (n - m)⟩ d (aE (sg ins m s.n) r)
def tS (s:St) (d:Option Nat) (xs:List TV) (ins:List Nat) (m n:Nat):bn:=⟨Xr xs,ins++jw s.n m n,d.toList,ins++jw s.n m n⟩
theorem FJ (h h2:List (Nat × Bk)) (n j:Nat):(∃ p ∈ h,p.1=j)∧(∃ p ∈ h,p.1=j∧Qc (h++h2) n j=p.2)∨(∀ p ∈ h,p.1≠j)∧Qc (h++h2) n j=Qc h2 n j:=by
 induction h with
 | nil=>right;exact ⟨fun p hp=>(by cases hp),rfl⟩
 | cons p r ih =>
  obtain ⟨i,x⟩:=p
  rw[List.cons_append,Qd]
  by_cases hi:i=j
  ·left
   rw[if_pos hi]
   exact ⟨⟨(i,x),by simp,hi⟩,(i,x),by simp,hi,rfl⟩
  ·rw[if_neg hi]
   rcases ih with ⟨⟨p,hp,e⟩,q,hq,e1,e2⟩|⟨h1,h2⟩
   ·exact .inl ⟨⟨p,by simp[hp],e⟩,q,by simp[hq],e1,e2⟩
   ·refine .inr ⟨fun p hp=>?_,h2⟩
    rcases List.mem_cons.1 hp with rfl|hp
    ·exact hi
    ·exact h1 p hp
theorem w7 {σ:Nat→Nat} {ax:List (Nat × Bk)} {n:Nat}:∀ {k:Nat} {p:Nat × Bk},p ∈ dc σ ax n k ↔ ∃ b,b < k∧p=(σ b,qA σ (Qc ax n b))
 | 0,p=>by simp[dc]
 | k + 1,p=>by
  simp only[dc,List.mem_cons,w7 (k:=k)]
  constructor
  ·rintro (rfl|⟨b,hb,rfl⟩)
   ·exact ⟨k,by omega,rfl⟩
   ·exact ⟨b,by omega,rfl⟩
  ·rintro ⟨b,hb,rfl⟩
   by_cases h:b=k
   ·subst h;exact .inl rfl
   ·exact .inr ⟨b,by omega,rfl⟩
theorem Cc {σ:Nat→Nat} {m:Nat} {g g1:Nat→GM} {W W':Nat→Prop} {w:World} (hg:∀ b,b < m→g (σ b)≠.un→g (σ b)=g1 b) (hW:∀ k,W' k→W k):∀ {args:List AV} {vs:List Value},ai m args→bO g W w (az σ args) vs→bO g1 W' w args vs
 | [],[],_,_=>trivial
 | x::xs,v::vs,hn,h=>by
  rw[Yu,List.map_cons,← Yu]at h
  exact ⟨(h.1.iH hg x rfl hn.1).mono (Fr.refl _ _) (fun k _=>hW k) (fun _ _=>rfl),Cc hg hW hn.2 h.2⟩
 | [],_::_,_,h=>by rw[Yu]at h;exact h.elim
 | _::_,[],_,h=>by rw[Yu]at h;exact h.elim
theorem Rj {s:St} {d:Option Nat} {f:FuncId} {xs:List TV} {ins:List Nat} {args:List AV} {aI:List (Nat × Bk)} {m:Nat} {r:AV} {ax:List (Nat × Bk)} {n:Nat} (eM:GS P c.gl f args aI m r ax n) (hc:Qv none (aG c.gl s.fs xs))
  (aN:(aG c.gl s.fs xs).map Qk=az (sg ins m s.n) args) (ok:lb s.fs s.n ins args aI m r ax n):Ky P c (.pd d (.call f) xs none) s.fs (tS s d xs ins m n) (lf s d ins m r ax n).fs:=by
 intro ops io he
 obtain ⟨bf,bh,hd,ys,aJ,rfl⟩:=Zr he
 obtain ⟨ts,bl⟩:=wV aJ
 have vw:∀ b b',b < n→b' < n→sg ins m s.n b=sg ins m s.n b'→b=b':=fun b b' _ _ e=>JZ ok.ins e
 have hlen:ins.length=m:=by
  have:=ok.ins;simp only[w6,Bool.and_eq_true,beq_iff_eq]at this;exact this.1.1
 -- the names wQ are tT
 have fF:∀ b,b < n→sg ins m s.n b ∈ ins++jw s.n m n:=fun b hb=>by
  unfold sg
  split
  ·rename_i h
   refine List.mem_append_left _ ?_
   simp only[List.getD,List.getElem?_eq_getElem (show b < ins.length by omega),Option.getD_some];exact List.getElem_mem _
  ·refine List.mem_append_right _ ?_
   simp only[jw,tQ];exact ⟨b - m,by omega,rfl⟩
 have kW:∀ j,j ∈ ins++jw s.n m n→∃ b,b < n∧sg ins m s.n b=j:=fun j hj=>by
  rcases List.mem_append.1 hj with h|h
  ·obtain ⟨i,hi,rfl⟩:=List.getElem_of_mem h
   have:=ok.le
   refine ⟨i,by omega,?_⟩
   unfold sg;rw[if_pos af];simp[List.getD,hi]
  ·simp only[jw,tQ]at h
   obtain ⟨i,hi,rfl⟩:=h
   exact ⟨m + i,by omega,by unfold sg;rw[if_neg af];omega⟩
 have qE:∀ j,(lf s d ins m r ax n).fs.H j=Qc (dc (sg ins m s.n) ax n n++s.h) (s.n + (n - m)) j:=fun j=>by cases d<;>rfl
 have mC:∀ i,(lf s d ins m r ax n).fs.T i=match d with|some d=>(if d=i then aE (sg ins m s.n) r else s.fs.T i)|none=>s.fs.T i:=fun i=>by
  cases d with
  | none=>rfl
  | some d=>show look ((d,_)::s.t) i=_;rw[Zn];rfl
 have qF:∀ b,b < n→Qc (dc (sg ins m s.n) ax n n++s.h) (s.n + (n - m)) (sg ins m s.n b)=qA (sg ins m s.n) (Qc ax n b):=fun b hb=>by
  rcases FJ (dc (sg ins m s.n) ax n n) s.h (s.n + (n - m)) (sg ins m s.n b) with ⟨_,p,hp,e1,e2⟩|⟨h1,_⟩
  ·obtain ⟨b',bL,rfl⟩:=w7.1 hp
   have:=vw b' b bL hb e1
   subst this;exact e2
  ·exact (h1 _ (w7.2 ⟨b,hb,rfl⟩) rfl).elim
 have lg:∀ j,j ∉ ins++jw s.n m n→Qc (dc (sg ins m s.n) ax n n++s.h) (s.n + (n - m)) j=s.fs.H j:=fun j hj=>by
  rcases FJ (dc (sg ins m s.n) ax n n) s.h (s.n + (n - m)) j with ⟨⟨p,hp,e⟩,_⟩|⟨_,h2⟩
  ·obtain ⟨b,hb,rfl⟩:=w7.1 hp
   exact (hj (e ▸ fF b hb)).elim
  ·rw[h2]
   show Qc s.h (s.n + (n - m)) j=Qc s.h s.n j
   have cd:∀ k,k≤n - m→Qc s.h (s.n + k) j=Qc s.h s.n j:=fun k hk=>by
    induction k with
    | zero=>rfl
    | succ k ih =>
     rw[← ih af]
     refine We s.h (s.n + k) j fun e=>hj ?_
     refine List.mem_append_right _ ?_
     simp only[jw,tQ];exact ⟨k,by omega,e.symm⟩
   exact cd _ (Nat.le_refl _)
 refine ⟨fun i hi=>?_,fun j hj=>?_,fun s2 hT hH g a w hR K Q' hK=>Zc (Ka bf) ?_⟩
 ·rw[mC]
  cases d with
  | none=>rfl
  | some d=>simp only[tS,Option.toList_some,List.mem_singleton]at hi;simp only;rw[if_neg fun e=>hi e.symm]
 ·rw[qE];exact lg j hj
 ·have bp:aG c.gl s2 (ys.map aT)=aG c.gl s.fs (ys.map aT):=Yi fun i hi=>hT i hi
  have hv:=Yn (hR.aG ys) (by rw[bp];exact hc)
  rw[bp,aN]at hv
  have lh:Fit (sg ins m s.n) s2 aI m:=by
   refine ⟨fun p hp=>?_,fun p hp q hq e=>JZ ok.ins e⟩
   obtain ⟨q1,q2,q3⟩:=JU ok.fit p hp
   exact ⟨q1,q2,by rw[hH _ (fF p.1 (Nat.lt_of_lt_of_le q1 ok.le))];exact q3⟩
  have qB:∀ b,b < m→∃ p ∈ aI,p.1=b:=fun b hb=>by
   have:=JX.2 hb
   rw[← ok.fN,JW]at this
   obtain ⟨p,hp,e⟩:=List.mem_map.1 this
   exact ⟨p,hp,e⟩
  have b6:∀ b,m≤b→b < n→s2.H (sg ins m s.n b)=.free:=fun b h1 h2=>by
   rw[hH _ (fF b h2)]
   refine JV ok.free _ ?_
   unfold sg;rw[if_neg af]
   simp only[jw,tQ];exact ⟨b - m,by omega,rfl⟩
  obtain ⟨g1,jv,sC,sD⟩:=FF hR lh
  have m9:=Cc (g1:=g1) jv sD ok.na hv
  have cN:=eM.2 w _ _ _ g1 sC m9
  unfold Oper.wp
  rw[wW eM.1 bl]
  rw[Oper.upon_enter]
  refine cN.mono fun e w' ⟨v,g2,e1,e2,e3,e4⟩=>?_
  subst e1
  let s3:FS:=⟨s2.T,fun j=>if j ∈ ins++jw s.n m n then (lf s d ins m r ax n).fs.H j else s2.H j⟩
  have hb:w5 (sg ins m s.n) s2 s3 ax n:=by
   refine ⟨fun i=>rfl,fun b dR=>?_,fun j hj=>?_⟩
   ·show (if _ then _ else _)=_
    rw[if_pos (fF b dR),qE,qF b dR]
   ·show (if _ then _ else _)=_
    rw[if_neg fun h=>?_]
    obtain ⟨b,dR,rfl⟩:=kW j h
    exact hj b dR rfl
  obtain ⟨j8,fA⟩:=Ri hR lh qB ok.le vw b6 (fun p hp=>(FI ok.out p hp).2) (fun p hp=>(FI ok.out p hp).1) jv e3 e2 hb
  have tU:=fA ok.nr e4
  show K (a.put io.dst v) w'
  rw[bh]
  cases d with
  | none =>
   refine hK (Jx g g2 (sg ins m s.n) n) _ w' ?_
   have:dj s2 (lf s none ins m r ax n).fs (tS s none (ys.map aT) ins m n)=s3:=by
    refine pG (fun i=>?_) fun j=>rfl
    show (if i ∈ ([]:List Nat) then (lf s none ins m r ax n).fs.T i else s2.T i)=s2.T i
    simp
   rw[this];exact j8
  | some d =>
   refine hK (Jx g g2 (sg ins m s.n) n) _ w' ?_
   have:dj s2 (lf s (some d) ins m r ax n).fs (tS s (some d) (ys.map aT) ins m n)=s3.put d (aE (sg ins m s.n) r):=by
    refine pG (fun i=>?_) fun j=>rfl
    show (if i ∈ [d] then (lf s (some d) ins m r ax n).fs.T i else s2.T i)=_
    rw[FS.dg,mC]
    by_cases h:d=i
    ·subst h;simp
    ·rw[if_neg (by simpa using fun e:i=d=>h e.symm),if_neg h]
   rw[this];exact j8.put (by simpa using hd) tU
theorem Qx {r0:List bG} {K:St→Prop} {s:St} {d:Option Nat} {f:FuncId} {xs:List TV} {ins:List Nat} {args:List AV} {aI:List (Nat × Bk)} {m:Nat} {r:AV} {ax:List (Nat × Bk)} {n:Nat} (eM:GS P c.gl f args aI m r ax n)
  (aN:(aG c.gl s.fs xs).map Qk=az (sg ins m s.n) args) (h:Qv none (aG c.gl s.fs xs)∧lb s.fs s.n ins args aI m r ax n∧XP P c r0 K (lf s d ins m r ax n)):Yh P c (.pd d (.call f) xs none) r0 K s :=
 .inl ⟨_,_,Rj eM h.1 aN h.2.1,h.2.2⟩
theorem Qt {anc:List Nat} {fs:List bn} {r0:List bG} {K:St→Prop} {s:St} {d:Option Nat} {f:FuncId} {xs:List TV} {ins:List Nat} {args:List AV} {aI:List (Nat × Bk)} {m:Nat} {r:AV} {ax:List (Nat × Bk)} {n:Nat} (eM:GS P c.gl f args aI m r ax n)
  (aN:(aG c.gl s.fs xs).map Qk=az (sg ins m s.n) args) (h:Qv none (aG c.gl s.fs xs)∧lb s.fs s.n ins args aI m r ax n∧XD P c anc r0 (tS s d xs ins m n::fs) K (lf s d ins m r ax n)):Zm P c anc (.pd d (.call f) xs none) r0 fs K s :=
 ⟨_,_,Rj eM h.1 aN h.2.1,h.2.2⟩
end
theorem FT.gs {P:Program} {gl:Nat→AV} {f:FuncId} {fn:Func} {t:TC} {rs:List RS} (hF:FT P f fn t rs) {args:List AV} {aI ax:List (Nat × Bk)} {m n:Nat} {r:AV} (hN:args.length≤fn.ntmps) (aO:∀ p ∈ aI,p.2.live)
  (h:∀ c:Cx,(∀ p ∈ c.gh,p.1 < m)→c.gl=gl→xw P c t (FG m rs r ax n) ⟨js 0 args,aI,m⟩):GS P gl f args aI m r ax n:=by
 have hc:=hF.code
 cases hb:fn.body with
 | none=>rw[hb]at hc;simp at hc
 | some code =>
  rw[hb]at hc
  exact Xx0 hF.mixed hF.func hb hF.name hc hF.res hN aO h
theorem Ya3 (s:FS) (n0:Nat) (ins:List Nat) (args:List AV) (aI:List (Nat × Bk)) (m:Nat) (r:AV) (ax:List (Nat × Bk)) (n:Nat):lb s n0 ins args aI m r ax n =
  (B9 (sg ins m n0) s m aI∧idx aI=upto m∧w6 ins m n0=true∧Ca s (jw n0 m n)∧Cb n ax∧m≤n∧Qe n r∧ai m args) :=
 propext ⟨fun h=>⟨h.fit,h.fN,h.ins,h.free,h.out,h.le,h.nr,h.na⟩,fun ⟨a,b,c,d,e,f,g,h⟩=>⟨a,b,c,d,e,f,g,h⟩⟩
theorem Xfp (m:Nat) (rs:List RS) (r:AV) (ax:List (Nat × Bk)) (n:Nat) (s:St):FG m rs r ax n .ret s=(Wt s.fs rs∧∃ ρ,qm m ρ n∧Sub (rl ρ) ⟨[(0,fY s.fs rs)],s.h,s.n⟩ ⟨[(0,r)],ax,n⟩):=rfl
theorem Qt7 (m:Nat) (rs:List RS) (r:AV) (ax:List (Nat × Bk)) (n:Nat) (s:St):FG m rs r ax n .normal s=(Wt s.fs rs∧∃ ρ,qm m ρ n∧Sub (rl ρ) ⟨[(0,fY s.fs rs)],s.h,s.n⟩ ⟨[(0,r)],ax,n⟩):=rfl
theorem Qob {σ:Type} (m:Nat) (I:σ→Prop) (cY:σ→St) (μ:σ→Nat) (x:σ) (Q:EX→St→Prop) (s:St):Fm m I cY μ x Q .normal s=∃ y,I y∧(∃ ρ,qm m ρ (cY y).n∧Sub (rl ρ) s (cY y))∧μ y < μ x:=rfl
theorem Qxo {σ:Type} (m:Nat) (I:σ→Prop) (cY:σ→St) (μ:σ→Nat) (x:σ) (Q:EX→St→Prop) (s:St):Fm m I cY μ x Q .ret s=Q .ret s:=rfl
theorem Qt8 {σ:Type} (m:Nat) (I:σ→Prop) (cY:σ→St) (μ:σ→Nat) (x:σ) (Q:EX→St→Prop) (i:Nat) (s:St):Fm m I cY μ x Q (.exit i) s=Q (.exit i) s:=rfl
theorem Xe2 (m n:Nat):qm m [] n=(m≤n):=propext ⟨fun h=>h.2,fun h=>⟨fun p hp=>(by cases hp),h⟩⟩
theorem Xa2 (m i j n:Nat) (r:List (Nat × Nat)):qm m ((i,j)::r) n=(m≤i∧qm m r n):=propext ⟨fun h=>⟨h.1 (i,j) (by simp),fun p hp=>h.1 p (by simp[hp]),h.2⟩,fun h=>⟨fun p hp=>by
 rcases List.mem_cons.1 hp with rfl|hp
 ·exact h.1
 ·exact h.2.1 p hp,h.2.2⟩⟩
theorem Qt4 (σ:Nat→Nat) (cs:List AV):qA σ (.cells cs)=Xg σ (.cells cs):=rfl
theorem Qts (σ:Nat→Nat) (kvs:List (AV × AV)) (dn:Bool):qA σ (.aC kvs dn)=Xg σ (.aC kvs dn):=rfl
theorem Qvt (σ:Nat→Nat):qA σ .dead=.dead:=rfl
attribute [go_sem] Ya3 lf tS sg B9 Cb Ca jw zP dc idx upto w6 zO Xfp Qt7 Qob Qxo Qt8 Xe2 Xa2 Qt4 Qts Qvt List.all_cons List.all_nil
def St.ph (s:St) (d es:Nat):St:=(s.nw (.cells [])).put d (.sl es s.n 0 0 0)
def St.w8 (s:St):List (Nat × Nat)→St
 | []=>s
 | (d,es)::r=>(s.ph d es).w8 r
def FK (s:St):List (Nat × Nat)→Prop
 | []=>True
 | (d,es)::r=>(s.fs.H s.n=.free∧look s.t d=.nils)∧FK (s.ph d es) r
section
variable {P:Program} {c:Cx}
theorem R.ph {s:St} {d es:Nat} {g:Nat→GM} {a:Act} {w:World} (hR:R c g s.fs a w) (bq:s.fs.H s.n=.free) (hd:look s.t d=.nils):∃ g',R c g' (s.ph d es).fs a w:=by
 have h1:=R.ng hR bq
 refine ⟨Zg g s.n .ph,?_⟩
 have e:(s.ph d es).fs=(s.fs.aK s.n (.cells [])).put d (.sl es s.n 0 0 0):=by
  unfold St.ph;rw[St.bT,St.gV]
 rw[e]
 refine ⟨h1.size,h1.dL,fun i=>?_,h1.gl,h1.h,h1.inj,h1.old,h1.fr,h1.xs,h1.ib⟩
 rw[FS.dg]
 split
 ·rename_i hi
  subst hi
  have:=hR.t d
  have e2:s.fs.T d=.nils:=hd
  rw[e2]at this
  obtain ⟨ad,h⟩:=E8 this
  rw[h]
  exact .ku (by simp[Zg]) rfl
 ·exact h1.t i
theorem R.w8:∀ {ps:List (Nat × Nat)} {s:St} {g:Nat→GM} {a:Act} {w:World},R c g s.fs a w→FK s ps→∃ g',R c g' (s.w8 ps).fs a w
 | [],s,g,a,w,hR,_=>⟨g,hR⟩
 | (d,es)::r,s,g,a,w,hR,h=>by
  obtain ⟨g1,h1⟩:=hR.ph (es:=es) h.1.1 h.1.2
  exact R.w8 (ps:=r) (s:=s.ph d es) h1 h.2
theorem Xo5 {ps:List (Nat × Nat)} {b:TC} {Q:EX→St→Prop} {s:St} (h0:FK s ps) (h:sv P c b Q (s.w8 ps)):sv P c b Q s:=fun code he g a w hR=>by
 obtain ⟨g1,h1⟩:=hR.w8 h0
 exact h code he g1 a w h1
end
attribute [go_sem] St.ph St.w8 FK
section
variable {P:Program} {c:Cx}
def w9 (d:Option Nat) (gd:Option (Nat × Bool)):bn:=⟨jo gd,[],d.toList,[]⟩
theorem Rk {s:St} {d:Option Nat} {k:PK} {xs:List TV} {gd:Option (Nat × Bool)} (hb:gB s.fs gd=some false) (aY:fE s.fs gd):Ky P c (.pd d k xs gd) s.fs (w9 d gd) (s.bQ d (.dw false .any)).fs:=by
 intro ops io he
 obtain ⟨bf,bh,hd,ys,aJ,rfl⟩:=Zr he
 have eU:(s.bQ d (.dw false .any)).fs=match d with|some d=>s.fs.put d (.dw false .any)|none=>s.fs:=by
  cases d with
  | none=>rfl
  | some d=>exact St.bT _ _ _
 rw[eU]
 refine ⟨fun i hi=>?_,fun b _=>by cases d<;>rfl,?_⟩
 ·cases d with
  | none=>rfl
  | some d=>show (s.fs.put d _).T i=_;rw[FS.dg,if_neg (fun e=>hi (by simp[w9,e]))]
 ·intro s2 hT hH g a w hR K Q' hK
  have hg:∀ t b,gd=some (t,b)→s2.T t=s.fs.T t:=fun t b e=>hT t (by simp[w9,e,jo])
  have oz:gB s2 gd=gB s.fs gd:=by
   cases gd with
   | none=>rfl
   | some p=>obtain ⟨t,b⟩:=p;simp only[gB,hg t b rfl]
  have oA:fE s2 gd:=by
   cases gd with
   | none=>exact aY
   | some p=>obtain ⟨t,b⟩:=p;simpa only[fE,hg t b rfl] using aY
  have lP:K (a.put io.dst undef) w:=by
   rw[bh]
   cases d with
   | none =>
    refine hK g _ w ?_
    have:dj s2 s.fs (w9 none gd)=s2:=by unfold dj w9;simp
    simp only[this];exact hR
   | some d =>
    refine hK g _ w ?_
    show R c g (dj s2 (s.fs.put d _) ⟨jo gd,[],[d],[]⟩) _ _
    rw[wP]
    exact hR.put (by simpa using hd) (.dw (fun h=>by cases h) fun _=>rfl)
  unfold mg
  rw[vi bf hR oA,oz,hb]
  simp only[Option.getD_some,Bool.false_eq_true,if_false]
  exact lP
theorem Ym {r0:List bG} {K:St→Prop} {s:St} {d:Option Nat} {k:PK} {xs:List TV} {gd:Option (Nat × Bool)} (hb:gB s.fs gd=some false) (aY:fE s.fs gd∧XP P c r0 K (s.bQ d (.dw false .any))):Yh P c (.pd d k xs gd) r0 K s :=
 .inl ⟨_,_,Rk hb aY.1,aY.2⟩
theorem Yb {anc:List Nat} {fs:List bn} {r0:List bG} {K:St→Prop} {s:St} {d:Option Nat} {k:PK} {xs:List TV} {gd:Option (Nat × Bool)} (hb:gB s.fs gd=some false) (aY:fE s.fs gd∧XD P c anc r0 (w9 d gd::fs) K (s.bQ d (.dw false .any))):Zm P c anc (.pd d k xs gd) r0 fs K s :=
 ⟨_,_,Rk hb aY.1,aY.2⟩
end
attribute [go_sem] w9
section
variable {P:Program} {c:Cx}
theorem J0 {s s':St} {d:Option Nat} {k:PK} {f:FuncId} {xs:List TV} {σ:Nat→Nat} {args:List AV} {aI:List (Nat × Bk)} {m:Nat} {r:AV} {ax:List (Nat × Bk)} {n:Nat} {N:List Nat} (eM:GS P c.gl f args aI m r ax n)
  (iK:∀ (o:Oper) (ys:List Operand),Yf P o=some (k,ys)→xs=ys.map aT→∀ (s2:FS) (g:Nat→GM) (a:Act) (w:World),(∀ i ∈ Xr xs,s2.T i=s.fs.T i)→R c g s2 a w→∃ vs:List Value,(execOp a.eval o).run P w=.ok (.enter f vs.toArray) w∧bO g (Qo c g s2) w (az σ args) vs)
  (vw:∀ b b',b < n→b' < n→σ b=σ b'→b=b') (ic:∀ p ∈ aI,p.1 < m∧bJ m p.2∧s.fs.H (σ p.1)=Xg σ p.2) (qB:∀ b,b < m→∃ p ∈ aI,p.1=b) (hle:m≤n) (bq:∀ b,m≤b→b < n→s.fs.H (σ b)=.free)
  (lj:∀ p ∈ ax,p.1 < n∧bJ n p.2) (J1:Qe n r) (wL:ai m args)
  (vz:∀ b,b < n→σ b ∈ N) (tV:∀ j ∈ N,∃ b,b < n∧σ b=j)
  (mC:∀ i,s'.fs.T i=match d with|some d=>(if d=i then aE σ r else s.fs.T i)|none=>s.fs.T i) (qF:∀ b,b < n→s'.fs.H (σ b)=qA σ (Qc ax n b)) (lg:∀ j,j ∉ N→s'.fs.H j=s.fs.H j):Ky P c (.pd d k xs none) s.fs ⟨Xr xs,N,d.toList,N⟩ s'.fs:=by
 intro ops io he
 obtain ⟨bf,bh,hd,ys,aJ,rfl⟩:=Zr he
 refine ⟨fun i hi=>?_,fun j hj=>lg j hj,fun s2 hT hH g a w hR K Q' hK=>Zc (Ka bf) ?_⟩
 ·rw[mC]
  cases d with
  | none=>rfl
  | some d=>simp only[Option.toList_some,List.mem_singleton]at hi;simp only;rw[if_neg fun e=>hi e.symm]
 ·obtain ⟨vs,dM,hv⟩:=iK io ys aJ rfl s2 g a w hT hR
  have lh:Fit σ s2 aI m:=by
   refine ⟨fun p hp=>?_,fun p hp q hq e=>vw _ _ (Nat.lt_of_lt_of_le (ic p hp).1 hle) (Nat.lt_of_lt_of_le (ic q hq).1 hle) e⟩
   obtain ⟨q1,q2,q3⟩:=ic p hp
   exact ⟨q1,q2,by rw[hH _ (vz p.1 (Nat.lt_of_lt_of_le q1 hle))];exact q3⟩
  have b6:∀ b,m≤b→b < n→s2.H (σ b)=.free:=fun b h1 h2=>by
   rw[hH _ (vz b h2)];exact bq b h1 h2
  obtain ⟨g1,jv,sC,sD⟩:=FF hR lh
  have m9:=Cc (g1:=g1) jv sD wL hv
  have cN:=eM.2 w _ _ _ g1 sC m9
  unfold Oper.wp
  rw[dM]
  rw[Oper.upon_enter]
  refine cN.mono fun e w' ⟨v,g2,e1,e2,e3,e4⟩=>?_
  subst e1
  let s3:FS:=⟨s2.T,fun j=>if j ∈ N then s'.fs.H j else s2.H j⟩
  have hb:w5 σ s2 s3 ax n:=by
   refine ⟨fun i=>rfl,fun b dR=>?_,fun j hj=>?_⟩
   ·show (if _ then _ else _)=_
    rw[if_pos (vz b dR),qF b dR]
   ·show (if _ then _ else _)=_
    rw[if_neg fun h=>?_]
    obtain ⟨b,dR,rfl⟩:=tV j h
    exact hj b dR rfl
  obtain ⟨j8,fA⟩:=Ri hR lh qB hle vw b6 (fun p hp=>(lj p hp).2) (fun p hp=>(lj p hp).1) jv e3 e2 hb
  have tU:=fA J1 e4
  show K (a.put io.dst v) w'
  rw[bh]
  cases d with
  | none =>
   refine hK (Jx g g2 σ n) _ w' ?_
   have:dj s2 s'.fs ⟨Xr (ys.map aT),N,[],N⟩=s3:=by
    refine pG (fun i=>?_) fun j=>rfl
    show (if i ∈ ([]:List Nat) then s'.fs.T i else s2.T i)=s2.T i
    simp
   show R c _ (dj s2 s'.fs ⟨Xr (ys.map aT),N,[],N⟩) _ _
   rw[this];exact j8
  | some d =>
   refine hK (Jx g g2 σ n) _ w' ?_
   have:dj s2 s'.fs ⟨Xr (ys.map aT),N,[d],N⟩=s3.put d (aE σ r):=by
    refine pG (fun i=>?_) fun j=>rfl
    show (if i ∈ [d] then s'.fs.T i else s2.T i)=_
    rw[FS.dg,mC]
    by_cases h:d=i
    ·subst h;simp
    ·rw[if_neg (by simpa using fun e:i=d=>h e.symm),if_neg h]
   show R c _ (dj s2 s'.fs ⟨Xr (ys.map aT),N,[d],N⟩) _ _
   rw[this];exact j8.put (by simpa using hd) tU
theorem Yb9 {s:St} {d:Option Nat} {k:PK} {f:FuncId} {xs:List TV} {ins:List Nat} {args:List AV} {aI:List (Nat × Bk)} {m:Nat} {r:AV} {ax:List (Nat × Bk)} {n:Nat} (eM:GS P c.gl f args aI m r ax n)
  (iK:∀ (o:Oper) (ys:List Operand),Yf P o=some (k,ys)→xs=ys.map aT→∀ (s2:FS) (g:Nat→GM) (a:Act) (w:World),(∀ i ∈ Xr xs,s2.T i=s.fs.T i)→R c g s2 a w→∃ vs:List Value,(execOp a.eval o).run P w=.ok (.enter f vs.toArray) w∧bO g (Qo c g s2) w (az (sg ins m s.n) args) vs)
  (ok:lb s.fs s.n ins args aI m r ax n):Ky P c (.pd d k xs none) s.fs (tS s d xs ins m n) (lf s d ins m r ax n).fs:=by
 have vw:∀ b b',b < n→b' < n→sg ins m s.n b=sg ins m s.n b'→b=b':=fun b b' _ _ e=>JZ ok.ins e
 have hlen:ins.length=m:=by
  have:=ok.ins;simp only[w6,Bool.and_eq_true,beq_iff_eq]at this;exact this.1.1
 -- the names wQ are tT
 have fF:∀ b,b < n→sg ins m s.n b ∈ ins++jw s.n m n:=fun b hb=>by
  unfold sg
  split
  ·rename_i h
   refine List.mem_append_left _ ?_
   simp only[List.getD,List.getElem?_eq_getElem (show b < ins.length by omega),Option.getD_some];exact List.getElem_mem _
  ·refine List.mem_append_right _ ?_
   simp only[jw,tQ];exact ⟨b - m,by omega,rfl⟩
 have kW:∀ j,j ∈ ins++jw s.n m n→∃ b,b < n∧sg ins m s.n b=j:=fun j hj=>by
  rcases List.mem_append.1 hj with h|h
  ·obtain ⟨i,hi,rfl⟩:=List.getElem_of_mem h
   have:=ok.le
   refine ⟨i,by omega,?_⟩
   unfold sg;rw[if_pos af];simp[List.getD,hi]
  ·simp only[jw,tQ]at h
   obtain ⟨i,hi,rfl⟩:=h
   exact ⟨m + i,by omega,by unfold sg;rw[if_neg af];omega⟩
 have qE:∀ j,(lf s d ins m r ax n).fs.H j=Qc (dc (sg ins m s.n) ax n n++s.h) (s.n + (n - m)) j:=fun j=>by cases d<;>rfl
 have mC:∀ i,(lf s d ins m r ax n).fs.T i=match d with|some d=>(if d=i then aE (sg ins m s.n) r else s.fs.T i)|none=>s.fs.T i:=fun i=>by
  cases d with
  | none=>rfl
  | some d=>show look ((d,_)::s.t) i=_;rw[Zn];rfl
 have qF:∀ b,b < n→Qc (dc (sg ins m s.n) ax n n++s.h) (s.n + (n - m)) (sg ins m s.n b)=qA (sg ins m s.n) (Qc ax n b):=fun b hb=>by
  rcases FJ (dc (sg ins m s.n) ax n n) s.h (s.n + (n - m)) (sg ins m s.n b) with ⟨_,p,hp,e1,e2⟩|⟨h1,_⟩
  ·obtain ⟨b',bL,rfl⟩:=w7.1 hp
   have:=vw b' b bL hb e1
   subst this;exact e2
  ·exact (h1 _ (w7.2 ⟨b,hb,rfl⟩) rfl).elim
 have lg:∀ j,j ∉ ins++jw s.n m n→Qc (dc (sg ins m s.n) ax n n++s.h) (s.n + (n - m)) j=s.fs.H j:=fun j hj=>by
  rcases FJ (dc (sg ins m s.n) ax n n) s.h (s.n + (n - m)) j with ⟨⟨p,hp,e⟩,_⟩|⟨_,h2⟩
  ·obtain ⟨b,hb,rfl⟩:=w7.1 hp
   exact (hj (e ▸ fF b hb)).elim
  ·rw[h2]
   show Qc s.h (s.n + (n - m)) j=Qc s.h s.n j
   have cd:∀ k,k≤n - m→Qc s.h (s.n + k) j=Qc s.h s.n j:=fun k hk=>by
    induction k with
    | zero=>rfl
    | succ k ih =>
     rw[← ih af]
     refine We s.h (s.n + k) j fun e=>hj ?_
     refine List.mem_append_right _ ?_
     simp only[jw,tQ];exact ⟨k,by omega,e.symm⟩
   exact cd _ (Nat.le_refl _)
 exact J0 (σ:=sg ins m s.n) (N:=ins++jw s.n m n) eM iK vw (fun p hp=>JU ok.fit p hp) (fun b hb=>by
  have:=JX.2 hb
  rw[← ok.fN,JW]at this
  obtain ⟨p,hp,e⟩:=List.mem_map.1 this
  exact ⟨p,hp,e⟩) ok.le (fun b h1 h2=>by
  refine JV ok.free _ ?_
  unfold sg;rw[if_neg af]
  simp only[jw,tQ];exact ⟨b - m,by omega,rfl⟩) (fun p hp=>FI ok.out p hp) ok.nr ok.na fF kW (fun i=>by rw[mC];cases d<;>rfl) (fun b hb=>by rw[qE];exact qF b hb) (fun j hj=>by rw[qE];exact lg j hj)
theorem Rl {o:Oper} {xs:List Operand} (h:Yf P o=some (.cX,xs)):∃ x ys ts,xs=x::ys∧o.op=.call ⟨.value x,ys.toArray,ts⟩:=by
 unfold Yf at h
 repeat' split at h
 all_goals first
  | (simp only[Option.some.injEq,Prod.mk.injEq,true_and]at h;subst h;rename_i bl;exact ⟨_,_,_,rfl,by rw[bl]⟩)
  | (simp at h;done)
  | (cases h;done)
  | (simp[Option.map_eq_some_iff]at h;done)
theorem Rm {f:FuncId} (hc:zD P f) {o:Oper} {x:Operand} {ys:List Operand} {ts:Array TypeId} (ho:o.op=.call ⟨.value x,ys.toArray,ts⟩) (a:Act) (w:World) (us:Array Value) (hx:a.eval x=.func (.func f) #[] us) :
  (execOp a.eval o).run P w=.ok (.enter f (ys.map a.eval++us.toList).toArray) w:=by
 have e:(ys.map a.eval++us.toList).toArray=(ys.map a.eval).toArray++us:=Array.ext' av
 rw[e]
 obtain ⟨fn,h1,h2,h3⟩:=hc
 have I7:fn.body≠none:=fun e=>by rw[e]at h2;cases h2
 have I8 : fn.name ≠ "runtime.NumGoroutine" := fun e => by rw [e] at h3; cases h3
 simp[execOp,ho,resolve,hx,Deferred.ofValue,invoke,callFunc,program,Sem.run,h1,I7,I8]
theorem J2 {g:Nat→GM} {W:Nat→Prop} {w:World}:∀ {xs ys:List AV} {us vs:List Value},bO g W w xs us→bO g W w ys vs→bO g W w (xs++ys) (us++vs)
 | [],_,[],_,_,h=>h
 | _::_,_,_::_,_,h,k=>⟨h.1,J2 h.2 k⟩
 | [],_,_::_,_,h,_=>h.elim
 | _::_,_,[],_,h,_=>h.elim
theorem J3 {g:Nat→GM} {W:Nat→Prop} {w:World}:∀ {xs:List AV} {us:List Value},us.length=xs.length→(∀ j,j < xs.length→VR g W w (xs.getD j .any) (us.getD j undef))→bO g W w xs us
 | [],[],_,_=>trivial
 | x::xs,u::us,hl,h=>⟨by simpa using h 0 av,J3 (by simpa using hl) fun j hj=>by simpa using h (j + 1) (by simp;omega)⟩
 | [],_::_,hl,_=>by simp at hl
 | _::_,[],hl,_=>by simp at hl
def tW:List AV→Option (FuncId × List AV)
 | .cl f caps::r=>some (f,r++caps)
 | _=>none
theorem Rn {s:St} {d:Option Nat} {f:FuncId} {xs:List TV} {ins:List Nat} {args:List AV} {aI:List (Nat × Bk)} {m:Nat} {r:AV} {ax:List (Nat × Bk)} {n:Nat} (eM:GS P c.gl f args aI m r ax n) (hc:Qv none (aG c.gl s.fs xs))
  (aN:tW ((aG c.gl s.fs xs).map Qk)=some (f,az (sg ins m s.n) args)) (ok:lb s.fs s.n ins args aI m r ax n):Ky P c (.pd d .cX xs none) s.fs (tS s d xs ins m n) (lf s d ins m r ax n).fs:=by
 refine Yb9 eM (fun o zs aJ tX s2 g a w hT hR=>?_) ok
 obtain ⟨x,ys,ts,rfl,bl⟩:=Rl aJ
 subst tX
 have bp:aG c.gl s2 ((x::ys).map aT)=aG c.gl s.fs ((x::ys).map aT):=Yi fun i hi=>hT i hi
 have hv:=Yn (hR.aG (x::ys)) (by rw[bp];exact hc)
 rw[bp]at hv
 generalize (aG c.gl s.fs ((x::ys).map aT)).map Qk=zs at aN hv
 cases zs with
 | nil=>simp[tW]at aN
 | cons z zs =>
  unfold tW at aN
  split at aN
  ·rename_i f' qG r' heq
   simp only[Option.some.injEq,Prod.mk.injEq]at aN
   obtain ⟨rfl,aN⟩:=aN
   simp only[List.cons.injEq]at heq
   obtain ⟨rfl,rfl⟩:=heq
   rw[List.map_cons]at hv
   obtain ⟨h1,h2⟩:=hv
   generalize hx:a.eval x=vx at h1
   cases h1 with
   | cl hs h =>
    refine ⟨_,Rm eM.1 bl a w _ hx,?_⟩
    rw[← aN]
    have:=J2 h2 (J3 (xs:=qG) (us:=Array.toList _) (by simpa using hs) fun j hj=>by
     have:=h j hj
     simpa [Array.getD_eq_getD_getElem?,List.getD] using this)
    exact this
  ·cases aN
theorem Qs {r0:List bG} {K:St→Prop} {s:St} {d:Option Nat} {f:FuncId} {xs:List TV} {ins:List Nat} {args:List AV} {aI:List (Nat × Bk)} {m:Nat} {r:AV} {ax:List (Nat × Bk)} {n:Nat} (eM:GS P c.gl f args aI m r ax n)
  (aN:tW ((aG c.gl s.fs xs).map Qk)=some (f,az (sg ins m s.n) args)) (h:Qv none (aG c.gl s.fs xs)∧lb s.fs s.n ins args aI m r ax n∧XP P c r0 K (lf s d ins m r ax n)):Yh P c (.pd d .cX xs none) r0 K s :=
 .inl ⟨_,_,Rn eM h.1 aN h.2.1,h.2.2⟩
theorem Qq {anc:List Nat} {fs:List bn} {r0:List bG} {K:St→Prop} {s:St} {d:Option Nat} {f:FuncId} {xs:List TV} {ins:List Nat} {args:List AV} {aI:List (Nat × Bk)} {m:Nat} {r:AV} {ax:List (Nat × Bk)} {n:Nat} (eM:GS P c.gl f args aI m r ax n)
  (aN:tW ((aG c.gl s.fs xs).map Qk)=some (f,az (sg ins m s.n) args)) (h:Qv none (aG c.gl s.fs xs)∧lb s.fs s.n ins args aI m r ax n∧XD P c anc r0 (tS s d xs ins m n::fs) K (lf s d ins m r ax n)):Zm P c anc (.pd d .cX xs none) r0 fs K s :=
 ⟨_,_,Rn eM h.1 aN h.2.1,h.2.2⟩
theorem Ro {N:Nat} {ops:Array Oper} {io:Oper} {d:Option Nat} {k:PK} {xs:List TV} {gd:Option (Nat × Bool)} (h:Ui P N ops io=some (.pd d k xs gd)):Ui P N ops { io with guard:=none }=some (.pd d k xs none):=by
 have kN:mf ops { io with guard:=none }=some none:=rfl
 have hq:tF P { io with guard:=none }=tF P io:=rfl
 have hp:Yf P { io with guard:=none }=Yf P io:=rfl
 unfold Ui at h ⊢
 rw[kN,hq,hp]
 split at h
 ·cases h
 ·rename_i BH hg
  dsimp only
  split at h
  ·split at h
   ·split at h<;>simp at h
   ·cases h
  ·split at h<;>simp at h
  ·split at h<;>simp at h
  ·rename_i n1 n2 n3
   have rest:∀ {α:Type} (x:α),x=x:=fun _=>rfl
   split at h
   ·split at h<;>simp at h
   ·rename_i n4
    split at h
    ·rename_i k' ys hk
     split at h
     ·rename_i hd
      simp only[Option.some.injEq,bG.pd.injEq]at h
      obtain ⟨rfl,rfl,rfl,rfl⟩:=h
      split
      all_goals first
       | (exfalso;apply n1<;>assumption)
       | (exfalso;apply n2<;>assumption)
       | (exfalso;apply n3<;>assumption)
       | (exfalso;apply n4<;>assumption)
       | rfl
       | (exfalso;contradiction)
     ·cases h
    ·cases h
theorem FL {s:FS} {s':FS} {d:Option Nat} {k:PK} {xs:List TV} {gd:Option (Nat × Bool)} {F:bn} (hb:gB s gd=some true) (aY:fE s gd) (h:Ky P c (.pd d k xs none) s F s'):Ky P c (.pd d k xs gd) s ⟨jo gd++F.rt,F.rb,F.wt,F.wb⟩ s':=by
 intro ops io he
 obtain ⟨bf,bh,hd,ys,aJ,rfl⟩:=Zr he
 obtain ⟨h1,h2,h3⟩:=h ops _ (Ro he)
 refine ⟨h1,h2,fun s2 hT hH g a w hR K Q' hK=>?_⟩
 have hg:∀ t b,gd=some (t,b)→s2.T t=s.T t:=fun t b e=>hT t (by simp[e,jo])
 have oz:gB s2 gd=gB s gd:=by
  cases gd with
  | none=>rfl
  | some p=>obtain ⟨t,b⟩:=p;simp only[gB,hg t b rfl]
 have oA:fE s2 gd:=by
  cases gd with
  | none=>exact aY
  | some p=>obtain ⟨t,b⟩:=p;simpa only[fE,hg t b rfl] using aY
 have h4:=h3 s2 (fun i hi=>hT i (by simp[hi])) hH g a w hR K Q' hK
 unfold mg at h4 ⊢
 rw[vi bf hR oA,oz,hb]
 rw[Ff rfl,if_pos rfl]at h4
 rw[Option.getD_some,if_pos rfl]
 exact h4
theorem vA {r0:List bG} {K:St→Prop} {s:St} {d:Option Nat} {k:PK} {xs:List TV} {gd:Option (Nat × Bool)} (hb:gB s.fs gd=some true) (aY:fE s.fs gd) (h:Yh P c (.pd d k xs none) r0 K s):Yh P c (.pd d k xs gd) r0 K s:=by
 rcases h with ⟨F,s',h1,h2⟩|h
 ·exact .inl ⟨_,s',FL hb aY h1,h2⟩
 ·refine .inr fun ops io he g a w hR K' Q' hK=>?_
  obtain ⟨bf,bh,hd,ys,aJ,rfl⟩:=Zr he
  have h4:=h ops _ (Ro he) g a w hR K' Q' hK
  unfold mg at h4 ⊢
  rw[vi bf hR aY,hb]
  rw[Ff rfl,if_pos rfl]at h4
  rw[Option.getD_some,if_pos rfl]
  exact h4
end
theorem Xif (f:FuncId) (caps r:List AV):tW (.cl f caps::r)=some (f,r++caps):=rfl
attribute [go_sem] Xif
section
variable {P:Program} {c:Cx}
theorem z1 {o:bG} {r:List bG} {K:St→Prop} {s:St} (h:Yh P c o r K s):Yh P c o r K s:=h
theorem z2 {t:TC} {Q:EX→St→Prop} {s:St} (h:xw P c t Q s):xw P c t Q s:=h
theorem z3 {anc:List Nat} {o:bG} {r:List bG} {fs:List bn} {K:St→Prop} {s:St} (h:Zm P c anc o r fs K s):Zm P c anc o r fs K s:=h
end
attribute [go_sem] if_true if_false List.length_replicate List.length_take List.length_drop List.length_set List.length_cons List.length_nil decide_true decide_false bne_self_eq_false beq_self_eq_true
def tY (n:Nat):Nat:=n
theorem au:tY 1=1:=rfl
theorem aH:tY 2=2:=rfl
theorem aV:tY 3=3:=rfl
theorem bD:tY 4=4:=rfl
theorem cC:tY 5=5:=rfl
theorem dE:tY 6=6:=rfl
theorem fe:tY 7=7:=rfl
theorem jh:tY 8=8:=rfl
theorem sE:tY 9=9:=rfl
class Main (p:Prop):Prop where
 it:True
instance {P:Program} {c:Cx} {o:bG} {r:List bG} {K:St→Prop} {s:St}:Main (Yh P c o r K s):=⟨trivial⟩
instance {P:Program} {c:Cx} {t:TC} {Q:EX→St→Prop} {s:St}:Main (xw P c t Q s):=⟨trivial⟩
instance {P:Program} {c:Cx} {anc:List Nat} {o:bG} {r:List bG} {fs:List bn} {K:St→Prop} {s:St}:Main (Zm P c anc o r fs K s):=⟨trivial⟩
instance {P:Program} {c:Cx} {b:TC} {Q:EX→St→Prop} {s:St}:Main (sv P c b Q s):=⟨trivial⟩
theorem zm {p:Prop} [Main p] (h:p):p:=h
theorem XG {p q:Prop} (k:q) (h:p=q:=by (conv=>lhs;simp (disch:=first|omega|(simp only[go_sem]<;>omega)|fail) only[go_sem,↓reduceIte,Nat.reduceBEq,Nat.reduceAdd,Nat.reduceMul,Nat.reduceSub,Nat.reduceLT,Nat.reduceLeDiff,Nat.reduceEqDiff,Int.reduceToNat,Int.reduceBEq,Int.reduceBNe,Int.reduceLT,Int.reduceLE,Int.reduceEq,au,aH,aV,bD,cC,dE,fe,jh,sE])):p:=h.mpr k
theorem XM {p q:Prop} (k:q) (h:p=q:=by (conv=>lhs;simp (disch:=first|omega|(simp only[go_sem]<;>omega)|fail) only[go_sem,↓reduceIte,Nat.reduceBEq,Nat.reduceAdd,Nat.reduceMul,Nat.reduceSub,Nat.reduceLT,Nat.reduceLeDiff,Nat.reduceEqDiff,Int.reduceToNat,Int.reduceBEq,Int.reduceBNe,Int.reduceLT,Int.reduceLE,Int.reduceEq,Int.reduceMul,Int.reduceAdd,Int.reduceSub,au,aH,aV,bD,cC,dE,fe,jh,sE])):p:=h.mpr k
theorem CL {p:Prop} (h:p:=by (first|exact True.intro|omega|(show Uv _ _ _=true;decide +kernel)|(refine fun _=>?_;simp_all;done)|fail)):p:=h
theorem Qa {P:Program} {c:Cx} {Q:EX→St→Prop} {s:St} {x:TV} {a b:TC} {t:Bool} {A B:Prop} (ht:A→xw P c a Q s) (hf:B→xw P c b Q s)
  (h:aZ c.gl s.fs x=.bool t:=by (refine XG ?_;first|exact rfl|exact True.intro|fail))
  (hA:(t=true)=A:=by (conv=>lhs;(try simp only[decide_eq_true_eq,decide_eq_false_iff_not,Bool.or_eq_true,Bool.and_eq_true,Bool.not_eq_true',Bool.or_eq_false_iff,Bool.and_eq_false_iff,Bool.not_eq_false',beq_iff_eq,bne_iff_ne,ne_eq,beq_eq_false_iff_ne,bne_eq_false_iff_eq,Bool.true_eq_false,Bool.false_eq_true,Decidable.not_not])))
  (hB:(t=false)=B:=by (conv=>lhs;(try simp only[decide_eq_true_eq,decide_eq_false_iff_not,Bool.or_eq_true,Bool.and_eq_true,Bool.not_eq_true',Bool.or_eq_false_iff,Bool.and_eq_false_iff,Bool.not_eq_false',beq_iff_eq,bne_iff_ne,ne_eq,beq_eq_false_iff_ne,bne_eq_false_iff_eq,Bool.true_eq_false,Bool.false_eq_true,Decidable.not_not]))):xw P c (.cond x a b) Q s :=
 Yet h (fun e=>ht (hA.mp e)) (fun e=>hf (hB.mp e))
structure ie (q:Prop):Prop where
 it:q
def sF (_:List Nat):Prop:=True
theorem ip (l:List Nat):sF l:=trivial
theorem An {p q:Prop} (a:p) (b:q):p∧q:=⟨a,b⟩
@[reducible] def sG {l:List Nat} (_:sF l):List Nat:=l
theorem Qg {p q:Prop} (k:q) (h:ie q→p:=by (intro zk;(refine XG ?_;(try (repeat' with_reducible refine And.intro ?_ ?_));(try any_goals (first|refine zm ?_|exact CL|fail)));exact zk.it)):p:=h ⟨k⟩
theorem Qw {p:Prop} (h:p:=by ((refine XG ?_;(try (repeat' with_reducible refine And.intro ?_ ?_));(try any_goals (first|refine zm ?_|exact CL|fail))))):p:=h
theorem Jj {FP:Prop} {p q:Prop} (fp:FP) (k:q) (h:FP→ie q→p:=by (intro zp zk;((first|apply Xt|apply Xl|apply Xd|apply Xb)<;>(first|exact zp|(refine XG ?_;first|exact rfl|exact True.intro|((try (repeat' with_reducible refine And.intro ?_ ?_));(try any_goals (first|refine zm ?_|exact CL|fail))))));exact zk.it)):p:=h fp ⟨k⟩
theorem Rq {FP:Prop} {p:Prop} (fp:FP) (h:FP→p:=by (intro zp;((first|apply Xt|apply Xl|apply Xd|apply Xb)<;>(first|exact zp|(refine XG ?_;first|exact rfl|exact True.intro|((try (repeat' with_reducible refine And.intro ?_ ?_));(try any_goals (first|refine zm ?_|exact CL|fail)))))))):p:=h fp
theorem Jv {p q:Prop} (k:q) (h:ie q→p:=by (intro zk;((first|apply qs|apply qt|apply qu|apply qw|apply qx|apply qy);refine XG ?_;(try (repeat' with_reducible refine And.intro ?_ ?_));(try any_goals (first|refine zm ?_|exact CL|fail)));exact zk.it)):p:=h ⟨k⟩
theorem Yfb {p:Prop} (h:p:=by (((first|apply qs|apply qt|apply qu|apply qw|apply qx|apply qy);refine XG ?_;(try (repeat' with_reducible refine And.intro ?_ ?_));(try any_goals (first|refine zm ?_|exact CL|fail))))):p:=h
theorem Yfg {li:List Nat} {FP:Prop} {p q:Prop} (fi:sF li) (fp:FP) (k:q) (h:sF li→FP→ie q→p:=by (intro zi zp zk;((first|refine Qx (ins:=sG zi) zp ?_ ?_|refine Qt (ins:=sG zi) zp ?_ ?_|refine Qs (ins:=sG zi) zp ?_ ?_|refine Qq (ins:=sG zi) zp ?_ ?_)<;>(dsimp only[sG];refine XG ?_;(try first|exact rfl|exact True.intro);(try (repeat' with_reducible refine And.intro ?_ ?_));(try any_goals (first|refine zm ?_|exact CL|fail))));exact zk.it)):p:=h fi fp ⟨k⟩
theorem Yfk {li:List Nat} {FP:Prop} {p:Prop} (fi:sF li) (fp:FP) (h:sF li→FP→p:=by (intro zi zp;((first|refine Qx (ins:=sG zi) zp ?_ ?_|refine Qt (ins:=sG zi) zp ?_ ?_|refine Qs (ins:=sG zi) zp ?_ ?_|refine Qq (ins:=sG zi) zp ?_ ?_)<;>(dsimp only[sG];refine XG ?_;(try first|exact rfl|exact True.intro);(try (repeat' with_reducible refine And.intro ?_ ?_));(try any_goals (first|refine zm ?_|exact CL|fail)))))):p:=h fi fp
theorem Ut {p q:Prop} (k:q) (h:ie q→p:=by (intro zk;(refine XM ?_;(try (repeat' with_reducible refine And.intro ?_ ?_));(try any_goals (first|refine zm ?_|exact CL|fail)));exact zk.it)):p:=h ⟨k⟩
theorem Yfv {p:Prop} (h:p:=by ((refine XM ?_;(try (repeat' with_reducible refine And.intro ?_ ?_));(try any_goals (first|refine zm ?_|exact CL|fail))))):p:=h
theorem oF {FP:Prop} {p q:Prop} (fp:FP) (k:q) (h:FP→ie q→p:=by (intro zp zk;((first|apply Xt|apply Xl|apply Xd|apply Xb)<;>(first|exact zp|(refine XM ?_;first|exact rfl|exact True.intro|((try (repeat' with_reducible refine And.intro ?_ ?_));(try any_goals (first|refine zm ?_|exact CL|fail))))));exact zk.it)):p:=h fp ⟨k⟩
theorem Qh {F:Prop} {p q:Prop} (f:F) (k:q) (h:F→ie q→p:=by (intro au zk;exact Qg zk.it)):p:=h f ⟨k⟩
theorem Qu {F:Prop} {p:Prop} (f:F) (h:F→p:=by (intro au;exact Qw )):p:=h f
theorem Xf {FP:Prop} {F:Prop} {p q:Prop} (fp:FP) (f:F) (k:q) (h:FP→F→ie q→p:=by (intro zp au zk;exact Jj zp zk.it)):p:=h fp f ⟨k⟩
theorem zQ {FP:Prop} {F:Prop} {p:Prop} (fp:FP) (f:F) (h:FP→F→p:=by (intro zp au;exact Rq zp)):p:=h fp f
theorem Jd {F:Prop} {p q:Prop} (f:F) (k:q) (h:F→ie q→p:=by (intro au zk;exact Jv zk.it)):p:=h f ⟨k⟩
theorem Yfl {F:Prop} {p:Prop} (f:F) (h:F→p:=by (intro au;exact Yfb )):p:=h f
theorem xc {li:List Nat} {FP:Prop} {F:Prop} {p q:Prop} (fi:sF li) (fp:FP) (f:F) (k:q) (h:sF li→FP→F→ie q→p:=by (intro zi zp au zk;exact Yfg zi zp zk.it)):p:=h fi fp f ⟨k⟩
theorem Kh {li:List Nat} {FP:Prop} {F:Prop} {p:Prop} (fi:sF li) (fp:FP) (f:F) (h:sF li→FP→F→p:=by (intro zi zp au;exact Yfk zi zp)):p:=h fi fp f
theorem Zu {F:Prop} {p q:Prop} (f:F) (k:q) (h:F→ie q→p:=by (intro au zk;exact Ut zk.it)):p:=h f ⟨k⟩
theorem kA {F:Prop} {p:Prop} (f:F) (h:F→p:=by (intro au;exact Yfv )):p:=h f
theorem zR {FP:Prop} {F:Prop} {p q:Prop} (fp:FP) (f:F) (k:q) (h:FP→F→ie q→p:=by (intro zp au zk;exact oF zp zk.it)):p:=h fp f ⟨k⟩
theorem Rr:FT Tryz.prog 135 Tryz.f135 (aQ Tryz.prog Tryz.f135) [.t 4,.t 5]:=.of Tryz.func135
theorem Rs:FT Tryz.prog 83 Tryz.f83 (aQ Tryz.prog Tryz.f83) [.t 2,.t 3]:=.of Tryz.func83
theorem Xh2:FT Tryz.prog 85 Tryz.f85 (aQ Tryz.prog Tryz.f85) [.t 2]:=.of Tryz.func85
theorem FM:FT Tryz.prog 122 Tryz.f122 (aQ Tryz.prog Tryz.f122) [.t 6]:=.of Tryz.func122
theorem Xhx:FT Tryz.prog 123 Tryz.f123 (aQ Tryz.prog Tryz.f123) [.t 8,.t 9]:=.of Tryz.func123
structure Cd where
 k:Nat
 l:List UInt8
theorem Xa (gl:Nat→AV) (l:List UInt8) (v:Int) (n:Nat) (hn:n≤8) (hl:l.length≤100000000) :
  GS Tryz.prog gl 122 [.sl 1 0 0 l.length l.length,.int .i64 v,.int .i64 n] [(0,.cells (Xq l))] 1 (.sl 1 1 0 (l.length + n) (l.length + n)) [(1,.cells (Xq (l++be v n)))] 2:=by
 refine FM.gs (of_decide_eq_true rfl) (by simp[Bk.live]) fun c a7 hg=>?_
 conv in aQ _ _=>cbv
 refine Qg ?_
 refine Um (fun x:Cd=>x.k≤n∧x.l++be v x.k=l++be v n) (fun x=>⟨[(0,.sl 1 1 0 x.l.length x.l.length),(1,.int .i64 v),(7,.int .i64 ((x.k:Int) - 1))],[(1,.cells (Xq x.l))],2⟩) (fun x=>x.k) FM.mixed 1 a7
  ⟨⟨n,l⟩,⟨Nat.le_refl _,rfl⟩,[(1,0)],by exact Qw⟩ fun ⟨k,l'⟩ ⟨hk,he⟩=>?_
 dsimp only at hk he
 refine Qg ?_
 have gF:l'.length + k=l.length + n:=by
  have:=congrArg List.length he
  simpa [Qi] using this
 (refine Qa (fun h1=>?_) (fun h1=>?_)<;>try exact h1.elim)
 ·obtain ⟨k,rfl⟩:∃ j,k=j + 1:=⟨k - 1,by omega⟩
  have e1:(((k + 1:Nat):Int) - 1)=k:=by omega
  rw[e1]at h1 ⊢
  refine Qg ?_
  refine Jv ?_
  refine Jv ?_
  refine ⟨⟨k,l'++[Qf v k]⟩,⟨by dsimp only;omega,?_⟩,⟨[(1,3)],?_⟩,by dsimp only;omega⟩
  ·simpa [be] using he
  ·refine Qg ?_
   rfl
 ·have gW:k=0:=by omega
  subst gW
  simp only[be,List.append_nil]at he
  subst he
  refine Qg ?_
  refine ⟨[],?_⟩
  exact Qu @Qi
structure Ce where
 k:Nat
 l:Option (List UInt8)
theorem Un (gl:Nat→AV) (v:Int) (n:Nat) (hn:n≤8) (h0:0 < n) :
  GS Tryz.prog gl 122 [.nils,.int .i64 v,.int .i64 n] [] 0 (.sl 1 0 0 n n) [(0,.cells (Xq (be v n)))] 1:=by
 refine FM.gs (of_decide_eq_true rfl) av fun c a7 hg=>?_
 conv in aQ _ _=>cbv
 refine Qg ?_
 refine Um (fun x:Ce=>x.k≤n∧(x.l.getD [])++be v x.k=be v n∧(x.l=none→x.k=n)) (fun x=>match x.l with|none=>⟨[(0,.nils),(1,.int .i64 v),(7,.int .i64 ((x.k:Int) - 1))],[],0⟩|some l=>⟨[(0,.sl 1 0 0 l.length l.length),(1,.int .i64 v),(7,.int .i64 ((x.k:Int) - 1))],[(0,.cells (Xq l))],1⟩) (fun x=>x.k) FM.mixed 0 a7
  ⟨⟨n,none⟩,⟨Nat.le_refl _,rfl,fun _=>rfl⟩,[],by exact Qw⟩ fun ⟨k,o⟩ ⟨hk,he,cd⟩=>?_
 cases o with
 | none =>
  dsimp only at hk he cd
  obtain rfl:=cd rfl
  refine Qg ?_
  (refine Qa (fun h1=>?_) (fun h1=>?_)<;>try exact h1.elim)
  ·obtain ⟨k,rfl⟩:∃ j,k=j + 1:=⟨k - 1,by omega⟩
   have e1:(((k + 1:Nat):Int) - 1)=k:=by omega
   rw[e1]at h1 ⊢
   refine Qg ?_
   refine Jv ?_
   refine Jv ?_
   refine ⟨⟨k,some [Qf v k]⟩,⟨by dsimp only;omega,?_,fun h=>by cases h⟩,⟨[(0,1)],?_⟩,by dsimp only;omega⟩
   ·simp[be]
   ·refine Qg ?_
    exact JT [] _ []
  ·omega
 | some l' =>
  dsimp only[Option.getD_some]at hk he cd
  have gF:l'.length + k=n:=by
   have:=congrArg List.length he
   simpa [Qi] using this
  refine Qg ?_
  (refine Qa (fun h1=>?_) (fun h1=>?_)<;>try exact h1.elim)
  ·obtain ⟨k,rfl⟩:∃ j,k=j + 1:=⟨k - 1,by omega⟩
   have e1:(((k + 1:Nat):Int) - 1)=k:=by omega
   rw[e1]at h1 ⊢
   refine Qg ?_
   refine Jv ?_
   refine Jv ?_
   refine ⟨⟨k,some (l'++[Qf v k])⟩,⟨by dsimp only;omega,?_,fun h=>by cases h⟩,⟨[(0,2)],?_⟩,by dsimp only;omega⟩
   ·simpa [be] using he
   ·refine Qg ?_
    rfl
  ·have gW:k=0:=by omega
   subst gW
   simp only[be,List.append_nil]at he
   subst he
   refine Qg ?_
   refine ⟨[],?_⟩
   exact Qu @Qi
def Zo (t s a b:Int):Bool:=decide (0≤t) && decide (t≤1099511627776) && decide (0≤s) && decide (s < 8) && decide (0≤a) && decide (a < 3) && decide (0≤b) && decide (b < 6)
def qH (t s a b:Int):Int:=if Zo t s a b=true then 0 else 2
theorem J4 (gl:Nat→AV) (t s a b:Int) (f:Bool):PS Tryz.prog gl 85 [.agg [.int .i64 t,.int .i64 s,.int .i64 a,.int .i64 b,.bool f]] (.int .i64 (qH t s a b)):=by
 refine Xh2.ps (of_decide_eq_true rfl) (by simp[Qe]) fun c hN hg=>?_
 conv in aQ _ _=>cbv
 refine Qg ?_
 (repeat' (first|((refine Qa (fun hh=>?_) (fun hh=>?_)<;>try exact hh.elim)<;>refine Qg ?_) ))
 ·unfold qH Zo;rw[if_neg];simp;omega
 ·unfold qH Zo;rw[if_pos];simp;omega
def Yq (seq time set:Int) (bs:List UInt8):List UInt8:=be 10 2++be (20 + bs.length) 2++be (time.tmod 4294967296) 4++be seq 4++be 1 4++be set 2++be (4 + bs.length) 2++bs
def kB (seq time set:Int) (bs:List UInt8):AV:=if 0≤seq∧seq < 4294967296 then .aU [.str (Yq seq time set bs),.int .i64 0] else .aU [.str [],.int .i64 2]
theorem Rt (gl:Nat→AV) (seq time set:Int) (bs:List UInt8) (hl:bs.length≤10000000):PS Tryz.prog gl 123 [.int .i64 seq,.int .i64 time,.int .i64 set,.isl bs.length (Xq bs)] (kB seq time set bs):=by
 refine Xhx.ps (of_decide_eq_true rfl) (by unfold kB;split<;>simp[Qe,ai]) fun c hN hg=>?_
 conv in aQ _ _=>cbv
 refine Qg ?_
 (refine Qa (fun h1=>?_) (fun h1=>?_)<;>try exact h1.elim)
 ·refine Qg ?_
  unfold kB;rw[if_neg af]
 ·refine Qg ?_
  ((first|refine Qx (ins:=[]) (Un c.gl 10 2 (by decide) (by decide)) ?_ ?_|refine Qt (ins:=[]) (Un c.gl 10 2 (by decide) (by decide)) ?_ ?_|refine Qs (ins:=[]) (Un c.gl 10 2 (by decide) (by decide)) ?_ ?_|refine Qq (ins:=[]) (Un c.gl 10 2 (by decide) (by decide)) ?_ ?_)<;>(have au:=@Qi;refine XG ?_;clear au;(try first|exact rfl|exact True.intro);((try (repeat' with_reducible refine And.intro ?_ ?_));(try any_goals (first|refine zm ?_|exact CL|fail)))))
  ((first|refine Qx (ins:=[0]) (Xa c.gl (be 10 2) (20 + bs.length) 2 (by decide) (by simp[Qi])) ?_ ?_|refine Qt (ins:=[0]) (Xa c.gl (be 10 2) (20 + bs.length) 2 (by decide) (by simp[Qi])) ?_ ?_|refine Qs (ins:=[0]) (Xa c.gl (be 10 2) (20 + bs.length) 2 (by decide) (by simp[Qi])) ?_ ?_|refine Qq (ins:=[0]) (Xa c.gl (be 10 2) (20 + bs.length) 2 (by decide) (by simp[Qi])) ?_ ?_)<;>(have au:=@Qi;refine XG ?_;clear au;(try first|exact rfl|exact True.intro);((try (repeat' with_reducible refine And.intro ?_ ?_));(try any_goals (first|refine zm ?_|exact CL|fail)))))
  ((first|refine Qx (ins:=[1]) (Xa c.gl (be 10 2++be (20 + bs.length) 2) (time.tmod 4294967296) 4 (by decide) (by simp[Qi])) ?_ ?_|refine Qt (ins:=[1]) (Xa c.gl (be 10 2++be (20 + bs.length) 2) (time.tmod 4294967296) 4 (by decide) (by simp[Qi])) ?_ ?_|refine Qs (ins:=[1]) (Xa c.gl (be 10 2++be (20 + bs.length) 2) (time.tmod 4294967296) 4 (by decide) (by simp[Qi])) ?_ ?_|refine Qq (ins:=[1]) (Xa c.gl (be 10 2++be (20 + bs.length) 2) (time.tmod 4294967296) 4 (by decide) (by simp[Qi])) ?_ ?_)<;>(have au:=@Qi;refine XG ?_;clear au;(try first|exact rfl|exact True.intro);((try (repeat' with_reducible refine And.intro ?_ ?_));(try any_goals (first|refine zm ?_|exact CL|fail)))))
  ((first|refine Qx (ins:=[2]) (Xa c.gl (be 10 2++be (20 + bs.length) 2++be (time.tmod 4294967296) 4) seq 4 (by decide) (by simp[Qi])) ?_ ?_|refine Qt (ins:=[2]) (Xa c.gl (be 10 2++be (20 + bs.length) 2++be (time.tmod 4294967296) 4) seq 4 (by decide) (by simp[Qi])) ?_ ?_|refine Qs (ins:=[2]) (Xa c.gl (be 10 2++be (20 + bs.length) 2++be (time.tmod 4294967296) 4) seq 4 (by decide) (by simp[Qi])) ?_ ?_|refine Qq (ins:=[2]) (Xa c.gl (be 10 2++be (20 + bs.length) 2++be (time.tmod 4294967296) 4) seq 4 (by decide) (by simp[Qi])) ?_ ?_)<;>(have au:=@Qi;refine XG ?_;clear au;(try first|exact rfl|exact True.intro);((try (repeat' with_reducible refine And.intro ?_ ?_));(try any_goals (first|refine zm ?_|exact CL|fail)))))
  ((first|refine Qx (ins:=[3]) (Xa c.gl (be 10 2++be (20 + bs.length) 2++be (time.tmod 4294967296) 4++be seq 4) 1 4 (by decide) (by simp[Qi])) ?_ ?_|refine Qt (ins:=[3]) (Xa c.gl (be 10 2++be (20 + bs.length) 2++be (time.tmod 4294967296) 4++be seq 4) 1 4 (by decide) (by simp[Qi])) ?_ ?_|refine Qs (ins:=[3]) (Xa c.gl (be 10 2++be (20 + bs.length) 2++be (time.tmod 4294967296) 4++be seq 4) 1 4 (by decide) (by simp[Qi])) ?_ ?_|refine Qq (ins:=[3]) (Xa c.gl (be 10 2++be (20 + bs.length) 2++be (time.tmod 4294967296) 4++be seq 4) 1 4 (by decide) (by simp[Qi])) ?_ ?_)<;>(have au:=@Qi;refine XG ?_;clear au;(try first|exact rfl|exact True.intro);((try (repeat' with_reducible refine And.intro ?_ ?_));(try any_goals (first|refine zm ?_|exact CL|fail)))))
  ((first|refine Qx (ins:=[4]) (Xa c.gl (be 10 2++be (20 + bs.length) 2++be (time.tmod 4294967296) 4++be seq 4++be 1 4) set 2 (by decide) (by simp[Qi])) ?_ ?_|refine Qt (ins:=[4]) (Xa c.gl (be 10 2++be (20 + bs.length) 2++be (time.tmod 4294967296) 4++be seq 4++be 1 4) set 2 (by decide) (by simp[Qi])) ?_ ?_|refine Qs (ins:=[4]) (Xa c.gl (be 10 2++be (20 + bs.length) 2++be (time.tmod 4294967296) 4++be seq 4++be 1 4) set 2 (by decide) (by simp[Qi])) ?_ ?_|refine Qq (ins:=[4]) (Xa c.gl (be 10 2++be (20 + bs.length) 2++be (time.tmod 4294967296) 4++be seq 4++be 1 4) set 2 (by decide) (by simp[Qi])) ?_ ?_)<;>(have au:=@Qi;refine XG ?_;clear au;(try first|exact rfl|exact True.intro);((try (repeat' with_reducible refine And.intro ?_ ?_));(try any_goals (first|refine zm ?_|exact CL|fail)))))
  ((first|refine Qx (ins:=[5]) (Xa c.gl (be 10 2++be (20 + bs.length) 2++be (time.tmod 4294967296) 4++be seq 4++be 1 4++be set 2) (4 + bs.length) 2 (by decide) (by simp[Qi])) ?_ ?_|refine Qt (ins:=[5]) (Xa c.gl (be 10 2++be (20 + bs.length) 2++be (time.tmod 4294967296) 4++be seq 4++be 1 4++be set 2) (4 + bs.length) 2 (by decide) (by simp[Qi])) ?_ ?_|refine Qs (ins:=[5]) (Xa c.gl (be 10 2++be (20 + bs.length) 2++be (time.tmod 4294967296) 4++be seq 4++be 1 4++be set 2) (4 + bs.length) 2 (by decide) (by simp[Qi])) ?_ ?_|refine Qq (ins:=[5]) (Xa c.gl (be 10 2++be (20 + bs.length) 2++be (time.tmod 4294967296) 4++be seq 4++be 1 4++be set 2) (4 + bs.length) 2 (by decide) (by simp[Qi])) ?_ ?_)<;>(have au:=@Qi;refine XG ?_;clear au;(try first|exact rfl|exact True.intro);((try (repeat' with_reducible refine And.intro ?_ ?_));(try any_goals (first|refine zm ?_|exact CL|fail)))))
  refine Jd @Qi ?_
  unfold kB Yq
  rw[if_pos af,List.take_of_length_le (by simp[Qi])]
def Xo:List Int:=[323,8,8,4,225,4,361,2,362,2,230,1]
def Kc (k:Nat):List UInt8:=be 300 2++be 6 2++(Xo.take (2 * k)).flatMap fun f=>be f 2
theorem Cf:∀ k,k≤6→(Kc k).length=4 + 4 * k:=by decide +kernel
theorem Xpj:∀ k,k < 6→Kc k++be (Xo.getD (2 * k) 0) 2++be (Xo.getD (2 * k + 1) 0) 2=Kc (k + 1):=by decide +kernel
theorem Ru (gl:Nat→AV) (h0:gl 0=.xp (Qp Xo) 0) (seq:Int):PS Tryz.prog gl 83 [.int .i64 seq] (kB seq 0 2 (Kc 6)):=by
 refine Rs.ps (of_decide_eq_true rfl) (by unfold kB;split<;>simp[Qe,ai]) fun c hN hg=>?_
 conv in aQ _ _=>cbv
 have kN:c.gl 0=.xp (Qp Xo) 0:=by rw[hg];exact h0
 have hf:Xo.length=12:=rfl
 refine Qg ?_
 ((first|refine Qx (ins:=[]) (Un c.gl 300 2 (by decide) (by decide)) ?_ ?_|refine Qt (ins:=[]) (Un c.gl 300 2 (by decide) (by decide)) ?_ ?_|refine Qs (ins:=[]) (Un c.gl 300 2 (by decide) (by decide)) ?_ ?_|refine Qq (ins:=[]) (Un c.gl 300 2 (by decide) (by decide)) ?_ ?_)<;>(have au:=@Qi;refine XG ?_;clear au;(try first|exact rfl|exact True.intro);((try (repeat' with_reducible refine And.intro ?_ ?_));(try any_goals (first|refine zm ?_|exact CL|fail)))))
 ((first|refine Qx (ins:=[0]) (Xa c.gl (be 300 2) 6 2 (by decide) (by simp[Qi])) ?_ ?_|refine Qt (ins:=[0]) (Xa c.gl (be 300 2) 6 2 (by decide) (by simp[Qi])) ?_ ?_|refine Qs (ins:=[0]) (Xa c.gl (be 300 2) 6 2 (by decide) (by simp[Qi])) ?_ ?_|refine Qq (ins:=[0]) (Xa c.gl (be 300 2) 6 2 (by decide) (by simp[Qi])) ?_ ?_)<;>(have au:=@Qi;have aH:=@kN;have aV:=@hf;refine XG ?_;clear au aH aV;(try first|exact rfl|exact True.intro);((try (repeat' with_reducible refine And.intro ?_ ?_));(try any_goals (first|refine zm ?_|exact CL|fail)))))
 refine Xs (fun k:Nat=>k≤6) (fun k=>⟨[(0,.int .i64 seq),(4,.sl 1 0 0 (4 + 4 * k) (4 + 4 * k)),(10,.agg (Qp Xo)),(11,.int .i64 k)],[(0,.cells (Xq (Kc k)))],1⟩) (fun k=>6 - k) Rs.mixed hN
  ⟨0,by omega,[(0,1)],by refine Qg ?_;rfl⟩ fun k hk=>?_
 refine Qg ?_
 (refine Qa (fun h1=>?_) (fun h1=>?_)<;>try exact h1.elim)
 ·have nn:k < 6:=by omega
  have hl:=Cf k hk
  have hs:=Xpj k nn
  have hl2:(Kc k).length≤100000000:=by omega
  have e3:k * 2=2 * k:=by omega
  refine Qh @hf ?_
  ((first|refine Qx (ins:=[0]) (Xa c.gl (Kc k) (Xo.getD (2 * k) 0) 2 (by decide) hl2) ?_ ?_|refine Qt (ins:=[0]) (Xa c.gl (Kc k) (Xo.getD (2 * k) 0) 2 (by decide) hl2) ?_ ?_|refine Qs (ins:=[0]) (Xa c.gl (Kc k) (Xo.getD (2 * k) 0) 2 (by decide) hl2) ?_ ?_|refine Qq (ins:=[0]) (Xa c.gl (Kc k) (Xo.getD (2 * k) 0) 2 (by decide) hl2) ?_ ?_)<;>(have au:=@Qi;have aH:=@hf;have aV:=@hl;have bD:=@e3;refine XG ?_;clear au aH aV bD;(try first|exact rfl|exact True.intro);((try (repeat' with_reducible refine And.intro ?_ ?_));(try any_goals (first|refine zm ?_|exact CL|fail)))))
  ((first|refine Qx (ins:=[2]) (Xa c.gl (Kc k++be (Xo.getD (2 * k) 0) 2) (Xo.getD (2 * k + 1) 0) 2 (by decide) (by simp[Qi];omega)) ?_ ?_|refine Qt (ins:=[2]) (Xa c.gl (Kc k++be (Xo.getD (2 * k) 0) 2) (Xo.getD (2 * k + 1) 0) 2 (by decide) (by simp[Qi];omega)) ?_ ?_|refine Qs (ins:=[2]) (Xa c.gl (Kc k++be (Xo.getD (2 * k) 0) 2) (Xo.getD (2 * k + 1) 0) 2 (by decide) (by simp[Qi];omega)) ?_ ?_|refine Qq (ins:=[2]) (Xa c.gl (Kc k++be (Xo.getD (2 * k) 0) 2) (Xo.getD (2 * k + 1) 0) 2 (by decide) (by simp[Qi];omega)) ?_ ?_)<;>(have au:=@Qi;have aH:=@hf;have aV:=@hl;have bD:=@e3;refine XG ?_;clear au aH aV bD;(try first|exact rfl|exact True.intro);((try (repeat' with_reducible refine And.intro ?_ ?_));(try any_goals (first|refine zm ?_|exact CL|fail)))))
  refine ⟨k + 1,by omega,⟨[(0,3)],?_⟩,by omega⟩
  exact Qu @hs
 ·have:k=6:=by omega
  subst this
  have J5:(Kc 6).length=28:=Cf 6 af
  have hm:=Rt c.gl seq 0 2 (Kc 6) af
  rw[J5]at hm
  by_cases hq:0≤seq∧seq < 4294967296
  ·have e:kB seq 0 2 (Kc 6)=.aU [.str (Yq seq 0 2 (Kc 6)),.int .i64 0]:=if_pos hq
   rw[e]at hm ⊢
   refine Qg ?_
   ((first|apply Wy|apply Kv)<;>(first|exact hm|(with_reducible exact .aU (by simp[Kd.str,Kd.int]))|(have au:=@J5;refine XG ?_;clear au;first|exact rfl|exact True.intro|((try (repeat' with_reducible refine And.intro ?_ ?_));(try any_goals (first|refine zm ?_|exact CL|fail))))))
  ·have e:kB seq 0 2 (Kc 6)=.aU [.str [],.int .i64 2]:=if_neg hq
   rw[e]at hm ⊢
   refine Qg ?_
   ((first|apply Wy|apply Kv)<;>(first|exact hm|(with_reducible exact .aU (by simp[Kd.str,Kd.int]))|(have au:=@J5;refine XG ?_;clear au;first|exact rfl|exact True.intro|((try (repeat' with_reducible refine And.intro ?_ ?_));(try any_goals (first|refine zm ?_|exact CL|fail))))))
end Go.Proofs.YtogckmommodmhaaGreatDoor
namespace Go.Proofs.YtogckmommodmhaaGreatDoor
open Go.ChangeShapes Go.WideShapes Go.ChangeAt Go.WideMaps Go.WideElems Go.RowKit
open Go.RowKit
set_option linter.all false
set_option linter.unusedSimpArgs false
set_option maxRecDepth 100000
noncomputable def qI : List (String × DataW Unit) := [("rentroll/record.fields", Rows.laid_rentroll_record_fields)]
theorem Xz0 : Tryz.prog.globalNamed "rentroll/record.fields" = some 0 := by kernel_rfl
theorem Yau:(Tryz.prog.globals[0]?).map (·.type)=some 156:=by kernel_rfl
theorem uF6:Tryz.prog.underlying 156=some (.array 6 155):=by kernel_rfl
theorem uF2:Tryz.prog.underlying 155=some (.array 2 3):=by kernel_rfl
theorem cF2:Tryz.prog.cellsOf 155=2:=by kernel_rfl
theorem cF1:Tryz.prog.cellsOf 3=1:=by kernel_rfl
theorem cF6:Tryz.prog.cellsOf 156=12:=by kernel_rfl
def Rv:List (Int × Int):=[(323,8),(8,4),(225,4),(361,2),(362,2),(230,1)]
theorem Yai:(Rows.laid_rentroll_record_fields:DataW Unit)=.agg (Rv.map fun p=>.agg [.lit (.int .i64 p.1),.lit (.int .i64 p.2)]):=rfl
theorem J6 (os:Os) (args:Array Value):laidMetH Tryz.prog qI ((World.doorLaid Tryz.prog 400 os).forCall (fun _ _=>0) ⟨#[],args,[]⟩).memory :=
 laidMetH_of_parts3 (fuel:=8) (laidMet_of_run' 8 (by kernel_rfl) (by kernel_rfl)) (by kernel_rfl) (by kernel_rfl)
theorem Qq7 {W:World} (h:laidMetH Tryz.prog qI W):∀ j,j < 12→W.cell? ⟨0,j,none⟩=some (.int .i64 (Xo.getD j 0)):=by
 rw[MakeChecks.laidMetH_plain _ _ _ (by kernel_rfl)]at h
 obtain ⟨ps,⟨g0,t0,J7,f0,p0,q0,kN,Cg,II,hd0,_,_⟩,_,_⟩:=h
 obtain rfl:=Option.some.inj (Xz0.symm.trans kN)
 obtain rfl:=Option.some.inj (Yau.symm.trans Cg)
 obtain ⟨xs,m1,rfl,sH,hlen,hn6,aJ⟩:=DataW.trod_array uF6 hd0
 rw[cF6]at hlen
 rw[Yai]at sH
 simp only[Prod.mk.injEq,DataW.agg.injEq]at sH
 have key:∀ i,i < 6→∀ k,k < 2→J7.toList[i * 2 + k]?=some (.int .i64 (Xo.getD (i * 2 + k) 0)):=by
  intro i hi k hk
  have h1:=aJ i hi
  rw[cF2]at h1
  have Rw:xs[i]?=some (xs[i]'af):=List.getElem?_eq_getElem af
  rw[Rw]at h1
  obtain ⟨ys,m2,rfl,hy,vB,hy2,J8⟩:=DataW.trod_array uF2 h1
  have tZ:=J8 k hk
  rw[cF1]at tZ
  have Rx:ys[k]?=some (ys[k]'af):=List.getElem?_eq_getElem af
  rw[Rx]at tZ
  obtain ⟨z,e1,e2,_⟩:=DataW.trod_int Tryz.underlying3 tZ
  have FN:(xs[i]'af).1=.agg (ys.map (·.1)):=by rw[hy]
  have hL:(xs.map (·.1))[i]?=some (.agg (ys.map (·.1))):=by rw[List.getElem?_map,Rw,Option.map_some,FN]
  rw[← sH.1]at hL
  have hz:(ys.map (·.1))[k]?=some (.lit (.int .i64 z)):=by rw[List.getElem?_map,Rx,Option.map_some,e2]
  have eE:J7.toList[i * 2 + k]?=some (.int .i64 z):=by
   have:((((J7.toList.drop (i * 2)).take 2).drop (k * 1)).take 1)[0]?=some (.int .i64 z):=by rw[e1];rfl
   rw[List.getElem?_take,if_pos af,List.getElem?_drop,List.getElem?_take,if_pos af,List.getElem?_drop]at this
   simpa using this
  rw[eE]
  have b8:∀ i,i < 6→∀ k,k < 2→∀ l:List (DataW Unit),(Rv.map fun p=>(DataW.agg [.lit (.int .i64 p.1),.lit (.int .i64 p.2)]:DataW Unit))[i]?=some (.agg l)→l[k]?=some (.lit (.int .i64 (Xo.getD (i * 2 + k) 0))):=by
   intro i hi k hk l hl
   match i,k,hi,hk,hl with
   | 0,0,_,_,hl=>cases hl;rfl
   | 0,1,_,_,hl=>cases hl;rfl
   | 1,0,_,_,hl=>cases hl;rfl
   | 1,1,_,_,hl=>cases hl;rfl
   | 2,0,_,_,hl=>cases hl;rfl
   | 2,1,_,_,hl=>cases hl;rfl
   | 3,0,_,_,hl=>cases hl;rfl
   | 3,1,_,_,hl=>cases hl;rfl
   | 4,0,_,_,hl=>cases hl;rfl
   | 4,1,_,_,hl=>cases hl;rfl
   | 5,0,_,_,hl=>cases hl;rfl
   | 5,1,_,_,hl=>cases hl;rfl
  have:=b8 i hi k hk _ hL
  rw[hz]at this
  simp only[Option.some.injEq,DataW.lit.injEq,Lit.int.injEq,true_and]at this
  rw[this]
 intro j hj
 rw[World.var?_cell kN II j,← Array.getElem?_toList]
 have:=key (j / 2) af (j % 2) af
 rwa [show j / 2 * 2 + j % 2=j by omega]at this
def ua (i:Nat):AV:=if i=0 then .xp (Qp Xo) 0 else .any
theorem J9:ua 0=.xp (Qp Xo) 0:=rfl
theorem Ye0 {W:World} (h:∀ j,j < 12→W.cell? ⟨0,j,none⟩=some (.int .i64 (Xo.getD j 0))) (i:Nat):VR (fun _=>.un) (fun _=>False) W (ua i) (.pointer (some ⟨i,0,none⟩)):=by
 unfold ua
 split
 ·rename_i e
  subst e
  have hl:(Qp Xo).length=12:=rfl
  have hx:=VR.xp (g:=fun _=>GM.un) (W:=fun _=>False) (w:=W) (cs:=Qp Xo) (off:=0) (k:=0) (o:=0) (us:=fun j=>.int .i64 (Xo.getD j 0)) (fun j hj=>by
   rw[hl]at hj
   exact ⟨by have:=h j hj;rw[Nat.zero_add];exact this,id,rfl⟩) (fun j hj=>by
   rw[hl]at hj
   rw[zE (show j < Xo.length from hj)]
   exact .int _ _)
  simpa using hx
 ·exact .any _
set_option maxRecDepth 100000 in
theorem KA {f:FuncId} {fn:Func} (xd:Tryz.prog.inits.idxOf? f=none) (mD:Tryz.prog.funcs[f]?=some fn)
  (Ci:∀ t ∈ fn.params.toList,Tryz.prog.readableRec t=true∧t < Tryz.prog.types.size) (KB:fn.resultTypes=#[4])
  (s:ChangeSpec) (hv:s.vars=[]) (hs:∀ (H:Type) (ds:List (DataW H)),ds.length=fn.params.size→s.fn H ds={ results:=[.lit (.bool true)],args:=ds,vars:=[] })
  (os:Os) (started:os.Started) (H:Type) (enc:TypeId × Value→H)
  (witness:∃ (w:World) (tape:Tape) (i:Input),w.os=os∧(w.forCall tape i).Shaped Tryz.prog∧i.vars=[]∧Input.okWide Tryz.prog (w.forCall tape i) .any w.heap.size f i ∧
   ((s.pre enc Tryz.prog fn [] false (w.forCall tape i).memory i.args∧laidMetH Tryz.prog qI (w.forCall tape i).memory)∧sizedMet enc Tryz.prog fn (OpenSpec.ofChange s) false (w.forCall tape i).memory i.args)∧({}:Assume).holds Tryz.prog (lone (Frame.enter Tryz.prog f i.args .normal) [] (w.forCall tape i)))
  (qJ:∀ (W:World) (base:Nat) (args:Array Value) (ds:List (DataW H)),wF H enc Tryz.prog fn W base args ds→(∀ i,VR (fun _=>.un) (fun _=>False) W (ua i) (.pointer (some ⟨i,0,none⟩))) →
   Calls Tryz.prog f args W fun e W'=>e=.returned (.bool true)∧Below W.heap.size W W') :
  ReturnsInHanded {} Tryz.checked os f .any (fun w args=>(s.pre enc Tryz.prog fn [] false w args∧laidMetH Tryz.prog qI w)∧sizedMet enc Tryz.prog fn (OpenSpec.ofChange s) false w args) (s.post enc Tryz.prog fn false true false false):=by
 refine returnsInHanded_of_change_and (C:=Tryz.checked) (X:=fun w _=>laidMetH Tryz.prog qI w) (fun _ _ _ hh h=>h.of_heap hh) Tryz.own started xd mD witness ?_
 intro W base args ds gs before fA hW _ cE hL _
 have ll:=hW
 obtain ⟨p,q,hA,hV,rfl,pB,oG⟩:=hW
 have eM:gs=[]∧q=[]:=by
  rw[hv]at hV
  exact trodVars_none hV
 obtain ⟨rfl,rfl⟩:=eM
 have jn:s.plain.varTypes Tryz.checked.prog=[]:=by
  simp[ChangeSpec.plain,hv,DataSpec.varTypes]
 rw[jn,List.append_nil,List.append_nil]at cE
 refine (qJ W base args ds ⟨fA,⟨p,hA⟩,cE⟩ (Ye0 (Qq7 hL))).mono fun e W' ⟨he,Bo⟩=>?_
 subst he
 have hlen:ds.length=fn.params.size:=by rw[Pa hA];simp
 have hS:=hs H (ds++[]) (by simpa using hlen)
 refine ⟨_,rfl,ds,[],p++[],[],p,[],ll,?_,?_,?_,Bo.frame _,fun h=>by cases h⟩
 ·rw[hS,KB]
  exact trodAll_mk1 (shut_bool Tryz.underlying4 _)
 ·rw[hS]
  simp only[List.append_nil]
  exact O9 Tryz.laidOut Bo Ci hA
 ·rw[hS,hv]
  simp[DataW.TrodVars]
end Go.Proofs.YtogckmommodmhaaGreatDoor
namespace Go.Proofs.YtogckmommodmhaaGreatDoor
open Go.RowKit
set_option linter.all false
set_option linter.unusedSimpArgs false
set_option maxRecDepth 100000
section
variable {P:Program} {c:Cx} {g:Nat→GM} {s:St} {a:Act} {w:World}
def St.named (s:St) (i es:Nat):St:=⟨(i,.sl es s.n 0 0 0)::s.t,(s.n,.cells [])::s.h,s.n + 1⟩
theorem R.named {i es:Nat} (hR:R c g s.fs a w) (hi:look s.t i=.nils) (hf:s.fs.H s.n=.free):R c (fun b=>if b=s.n then .ph else g b) (s.named i es).fs a w:=by
 have jl:g s.n=.un:=by
  have:=hR.h s.n
  rw[hf]at this
  generalize g s.n=m at this
  cases this;rfl
 have hH:∀ b,b≠s.n→(s.named i es).fs.H b=s.fs.H b:=fun b hb=>by
  show Qc ((s.n,_)::s.h) (s.n + 1) b=Qc s.h s.n b
  rw[Qd,if_neg (fun e=>hb e.symm),We _ _ _ hb]
 have uc:(s.named i es).fs.H s.n=.cells []:=by
  show Qc ((s.n,_)::s.h) (s.n + 1) s.n=_
  rw[Qd,if_pos rfl]
 have bN:∀ {b k},(if b=s.n then GM.ph else g b)=.re k→b≠s.n∧g b=.re k:=fun {b k} h=>by
  by_cases hb:b=s.n
  ·rw[if_pos hb]at h;cases h
  ·rw[if_neg hb]at h;exact ⟨hb,h⟩
 have hg:∀ b,g b≠.un→(if b=s.n then GM.ph else g b)=g b:=fun b hb=>by
  rw[if_neg];rintro rfl;exact hb jl
 have hW:∀ k,Qo c (fun b=>if b=s.n then .ph else g b) (s.named i es).fs k→Qo c g s.fs k:=by
  rintro k (h|⟨b,h1,h2⟩)
  ·exact .inl h
  ·obtain ⟨hb,h3⟩:=bN h2
   rw[hH b hb]at h1
   exact .inr ⟨b,h1,h3⟩
 have mono:∀ {v u},VR g (Qo c g s.fs) w v u→VR (fun b=>if b=s.n then .ph else g b) (Qo c (fun b=>if b=s.n then .ph else g b) (s.named i es).fs) w v u:=fun h=>h.mono (Fr.refl _ _) (fun k _=>hW k) hg
 refine ⟨hR.size,hR.dL,fun j=>?_,fun j=>(hR.gl j).mono (Fr.refl _ _) (fun k _=>hW k) (fun _ _=>rfl),fun b=>?_,fun b b' k h1 h2 e1 e2=>?_,fun b k h1 e1=>?_,hR.fr,hR.xs,fun p hp=>?_⟩
 ·show VR _ _ w (look ((i,_)::s.t) j) _
  rw[Zn]
  split
  ·rename_i iG
   subst iG
   have:=hR.t i
   have e:s.fs.T i=.nils:=hi
   rw[e]at this
   generalize a.tmps.getD i undef=u at this ⊢
   cases this
   exact .ku (if_pos rfl) rfl
  ·exact mono (hR.t j)
 ·by_cases hb:b=s.n
  ·subst hb
   show BR _ _ w (if s.n=s.n then _ else _) _
   rw[if_pos rfl,uc];exact .ph
  ·show BR _ _ w (if b=s.n then _ else _) _
   rw[if_neg hb,hH b hb]
   exact (hR.h b).mono (Fr.refl _ _) (fun k _=>hW k) hg (fun _ _ _=>rfl)
 ·obtain ⟨b1,g1⟩:=bN e1
  obtain ⟨b2,g2⟩:=bN e2
  rw[hH b b1]at h1
  rw[hH b' b2]at h2
  exact hR.inj b b' k h1 h2 g1 g2
 ·obtain ⟨b1,g1⟩:=bN e1
  rw[hH b b1]at h1
  exact hR.old b k h1 g1
 ·obtain ⟨q1,q2⟩:=hR.ib p hp
  exact ⟨by show (if p.1=s.n then GM.ph else g p.1)=_;rw[hg _ (by rw[q1];exact q2)];exact q1,q2⟩
theorem xe {b:TC} {Q:EX→St→Prop} (i es:Nat) (hi:look s.t i=.nils) (hf:s.fs.H s.n=.free) (h:sv P c b Q (s.named i es)):sv P c b Q s :=
 fun code he g a w hR=>h code he _ a w (hR.named hi hf)
end
section
variable {P:Program} {w:World}
def Cj (P:Program) (c:Cx) (k:PK) (xs:List TV) (vs:List AV) (r:AV):Prop :=
 ∀ (o:Oper) (ys:List Operand),Yf P o=some (k,ys)→ys.map aT=xs→∀ (g:Nat→GM) (W:Nat→Prop) (a:Act) (w:World),(∀ i,W i→i < w.heap.size)→(∀ i,VR (fun _=>.un) W w (c.gl i) (.pointer (some ⟨i,0,none⟩)))→bO g W w vs (ys.map a.eval) →
  ∀ (K:Act→World→Prop) (Q:Exit→Act→World→Prop),(∀ v w',Fr w w' (fun _=>False)→VR g W w' r v→K (a.put o.dst v) w')→o.wp P a w K Q
theorem Xho {c:Cx} {s:St} {d:Option Nat} {k:PK} {xs:List TV} {gd:Option (Nat × Bool)} {args:List AV} {r:AV} (aY:Uh c.gl s.fs xs gd) (aN:(aG c.gl s.fs xs).map Qk=args)
  (hq:ob (gB s.fs gd) (Cj P c k xs args r)):Ky P c (.pd d k xs gd) s.fs (Yz d xs gd) (s.bQ d (cw (gB s.fs gd) r)).fs:=by
 intro ops io he
 obtain ⟨bf,bh,hd,ys,aJ,rfl⟩:=Zr he
 have eU:(s.bQ d (cw (gB s.fs gd) r)).fs=match d with|some d=>s.fs.put d (cw (gB s.fs gd) r)|none=>s.fs:=by
  cases d with
  | none=>rfl
  | some d=>exact St.bT _ _ _
 rw[eU]
 refine ⟨fun i hi=>?_,fun b _=>by cases d<;>rfl,?_⟩
 ·cases d with
  | none=>rfl
  | some d=>show (s.fs.put d _).T i=_;rw[FS.dg,if_neg (fun e=>hi (by simp[Yz,e]))]
 ·intro s2 hT hH g a w hR K Q' hK
  have bp:aG c.gl s2 (ys.map aT)=aG c.gl s.fs (ys.map aT):=Yi fun i hi=>hT i (by simp[Yz,hi])
  have hg:∀ t b,gd=some (t,b)→s2.T t=s.fs.T t:=fun t b e=>hT t (by simp[Yz,e,jo])
  have oz:gB s2 gd=gB s.fs gd:=by
   cases gd with
   | none=>rfl
   | some p=>obtain ⟨t,b⟩:=p;simp only[gB,hg t b rfl]
  have oA:fE s2 gd:=by
   have:=aY.1
   cases gd with
   | none=>exact this
   | some p=>obtain ⟨t,b⟩:=p;simpa only[fE,hg t b rfl] using this
  have lP:∀ v w',Fr w w' (fun _=>False)→VR g (Qo c g s2) w' (cw (gB s.fs gd) r) v→K (a.put io.dst v) w':=fun v w' hf hv=>by
   rw[bh]
   have bg:=hR.grow hf
   cases d with
   | none =>
    refine hK g _ w' ?_
    have:dj s2 s.fs (Yz none (ys.map aT) gd)=s2:=by unfold dj Yz;simp
    simp only[this];exact bg
   | some d =>
    refine hK g _ w' ?_
    show R c g (dj s2 (s.fs.put d _) ⟨jo gd++Xr (ys.map aT),[],[d],[]⟩) _ _
    rw[wP]
    exact bg.put (by simpa using hd) hv
  unfold mg
  rw[vi bf hR oA,oz]
  have run:(∀ b,gB s.fs gd=some b→b=true)→io.wp P a w K Q':=by
   intro hb
   have pA:Qv none (aG c.gl s2 (ys.map aT)):=by
    rw[bp]
    have:=aY.2
    cases ca:gB s.fs gd with
    | none=>rw[ca]at this;exact this
    | some b=>rw[ca]at this;exact zu (hb b ca) this
   have cF:Cj P c k (ys.map aT) args r:=by
    cases ca:gB s.fs gd with
    | none=>rw[ca]at hq;exact hq
    | some b=>rw[ca]at hq;exact hq (hb b ca)
   have hv:=Yn (hR.aG ys) pA
   rw[bp,aN]at hv
   have hX:∀ k,Qo c g s2 k→k < w.heap.size:=by
    rintro k (h|⟨b',hl,fk⟩)
    ·have:=(hR.xs k h).1;have:=hR.fr.size;omega
    ·exact BR.lt (fk ▸ hR.h b') hl
   refine cF io ys aJ rfl g _ a w hX (fun i=>(hR.gl i)) hv K Q' fun v w' hf fL=>?_
   refine lP v w' hf ?_
   cases ca:gB s.fs gd with
   | none=>exact fL
   | some b=>exact .dw (fun _=>fL) fun h=>by rw[hb b ca]at h;cases h
  cases ca:gB s.fs gd with
  | none=>simp only[Option.getD_none,if_true];exact run fun b h=>by rw[ca]at h;cases h
  | some b =>
   cases b with
   | true=>simp only[Option.getD_some,if_true];exact run fun b h=>by rw[ca]at h;cases h;rfl
   | false =>
    simp only[Option.getD_some,Bool.false_eq_true,if_false]
    refine lP undef w (Fr.refl _ _) ?_
    rw[ca]
    exact .dw (fun h=>by cases h) fun _=>rfl
theorem zS {c:Cx} {r0:List bG} {K:St→Prop} {s:St} {d:Option Nat} {k:PK} {xs:List TV} {gd:Option (Nat × Bool)} {args:List AV} {r:AV} (aN:(aG c.gl s.fs xs).map Qk=args) (hq:Cj P c k xs args r)
  (aY:Uh c.gl s.fs xs gd∧XP P c r0 K (s.bQ d (cw (gB s.fs gd) r))):Yh P c (.pd d k xs gd) r0 K s:=.inl ⟨_,_,Xho aY.1 aN (wY hq),aY.2⟩
def sI:AV→Option Bool
 | .isl _ (_::_)=>some false
 | .lit (.slice a _ _)=>some a.isNone
 | _=>none
theorem Xtn {g:Nat→GM} {W:Nat→Prop} {x:AV} {v:Value} {b:Bool} (hx:VR g W w x v) (h:sI x=some b):∃ a n cap,v=.slice a n cap∧a.isNone=b:=by
 unfold sI at h
 split at h
 ·obtain ⟨a,cap,us,rfl,_,_,h3,_⟩:=sm hx
  obtain ⟨k,o,rfl,_⟩:=h3 0 av
  cases h
  exact ⟨_,_,_,rfl,rfl⟩
 ·cases h;cases hx;exact ⟨_,_,_,rfl,rfl⟩
 ·cases h
theorem Qz4 (w:World) (t e:TypeId) (a:Option Addr) (l c:Nat) (h:P.underlying t=some (.slice e)):(binOp .eql t (.slice a l c) (.slice none 0 0)).run P w=.ok (.bool a.isNone) w:=by
 simp only[binOp]
 simp[run_equal_slice_nil w t e a l c h]
theorem Xrr {y:Operand} (h:aT y=.c .nils):y=.const (.slice none 0 0):=by
 cases y with
 | const v =>
  simp only[aT,TV.c.injEq]at h
  cases v<;>simp only[tD,fj]at h<;>first|(cases h;done)|skip
  all_goals split at h
  all_goals first|(cases h;done)|rfl|(simp at h;obtain ⟨rfl,rfl,rfl⟩:=h;rfl)|simp_all
 | _=>simp[aT]at h
theorem Xvu {c:Cx} {ne:Bool} {t e:TypeId} {x:TV} {v:AV} {b:Bool} (ht:P.underlying t=some (.slice e)) (hb:sI v=some b):Cj P c (.cA ne t) [x,.c .nils] [v,.nils] (.bool (ne != b)):=by
 intro o ys aJ my g W a w _ _ hv K Q hK
 obtain ⟨x',y',u,bl,rfl⟩:=QK aJ
 simp only[List.map_cons,List.map_nil,List.cons.injEq,and_true]at my
 have hy:=Xrr my.2
 subst hy
 obtain ⟨hx,_,_⟩:=hv
 obtain ⟨ad,n,cap,Ry,rfl⟩:=Xtn hx hb
 have ey:a.eval (.const (.slice none 0 0))=.slice none 0 0:=rfl
 have run:(execOp a.eval o).run P w=.ok (.value (.bool (ne != ad.isNone))) w:=by
  unfold execOp
  cases ne
  ·simp only[bl,Ry,ey,cond_false,Sem.run_bind];simp[eqGuard,Qz4 w t e ad n cap ht]
  ·simp only[bl,Ry,ey,cond_true,Sem.run_bind];simp[eqGuard,run_neq_slice_nil w t e ad n cap ht]
 unfold Oper.wp
 rw[run]
 exact hK _ _ (Fr.refl _ _) (.bool _)
theorem FO {c:Cx} {es:Nat} {zs:List AV}:pD P c (.wN es 0 zs []) [] .nils:=by
 intro o ys aJ g W a w _ _ hv K Q hK
 obtain ⟨t,e,i,z,parts,bl,hu,hi,hz,kz,dU,sy,h24,JR,rfl,rfl,ec,rfl⟩:=Q9 aJ
 have hp:parts=#[]:=by
  have:=congrArg List.length ec
  simp at this
  exact Array.eq_empty_of_size_eq_zero this.symm
 subst hp
 have run:(execOp a.eval o).run P w=.ok (.value (.slice (some ⟨w.heap.size,0,none⟩) 0 0)) (w.alloc (.cells #[] e)):=by
  unfold execOp
  simp only[bl,Sem.run_bind]
  simp[Instr.buildSlice,run_underlying hu,sizeOf,typeInfo,hi,Instr.fill,newRow]
  have:(Array.map (fun x:Nat=>(default:Value)) (Array.range 0))=#[]:=Array.eq_empty_of_size_eq_zero av
  rw[this]
 unfold Oper.wp
 rw[run]
 exact hK _ _ (Fr.alloc _ _ _) (.nils _)
theorem GS.empty {gl:Nat→AV} {f:FuncId} {es:Nat} {cs:List AV} (h1:∀ cap,GS P gl f [.lit (.slice none 0 cap)] [] 0 .nils [] 0) (h2:∀ a cap,GS P gl f [.lit (.slice (some a) 0 cap)] [] 0 (.sl es 0 0 0 0) [(0,.cells [])] 1):GS P gl f [.isl 0 cs] [] 0 (.sl es 0 0 0 0) [(0,.cells [])] 1:=by
 refine ⟨(h1 0).1,fun w vs G X g hR hv=>?_⟩
 cases vs with
 | nil=>exact hv.elim
 | cons v vs =>
 cases vs with
 | cons _ _=>exact hv.2.elim
 | nil =>
 obtain ⟨hv,_⟩:=hv
 obtain ⟨a,cap,us,rfl,_⟩:=sm hv
 cases a with
 | some a=>exact (h2 a cap).2 w [.slice (some a) 0 cap] G X g hR ⟨.lit _,trivial⟩
 | none =>
  refine ((h1 cap).2 w [.slice none 0 cap] G X g hR ⟨.lit _,trivial⟩).mono ?_
  rintro e w' ⟨v,g',rfl,bg,_,oh⟩
  have cu:R ⟨1,w,G,X,gl,[]⟩ g' (⟨[(0,.nils)],[],0⟩:St).fs ⟨#[v],[]⟩ w':=by
   refine ⟨rfl,rfl,fun i=>?_,bg.gl,bg.h,bg.inj,bg.old,bg.fr,bg.xs,fun p hp=>by cases hp⟩
   show VR g' _ w' (look [(0,.nils)] i) _
   rw[Zn]
   split
   ·rename_i hi;subst hi;exact oh
   ·exact .any _
  have bV:=cu.named (i:=0) (es:=es) rfl rfl
  exact ⟨v,_,rfl,⟨rfl,rfl,fun i=>.any _,bV.gl,bV.h,bV.inj,bV.old,bV.fr,bV.xs,fun p hp=>by cases hp⟩,fun b hb=>by omega,bV.t 0⟩
end
end Go.Proofs.YtogckmommodmhaaGreatDoor
