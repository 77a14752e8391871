import Derived.Test.YtogckmommodmhaaGreatDoorZw4
import Derived.Test.YtogckmommodmhaaGreatDoorZw1
import Derived.Test.YtogckmommodmhaaGreatDoorZw2
import Derived.KernelRfl
import Derived.Test.YtogckmommodmhaaGreatDoorChecked
import Derived.LaidMore
import Derived.Stop.Joined
namespace Go.Proofs.YtogckmommodmhaaGreatDoor
open Go.RowKit
set_option linter.all false
set_option linter.unusedSimpArgs false
set_option maxRecDepth 100000
section
variable {P:Program} {c:Cx} {ops:Array Oper} {io:Oper}
theorem Q5 (s:FS) (kb:Option Nat) (i:Nat):(s.cy kb).T i=s.T i:=by cases kb<;>rfl
theorem Q6 (s:FS) (kb:Option Nat) (j:Nat):(s.cy kb).H j=if kb=some j then .dead else s.H j:=by
 cases kb with
 | none=>rfl
 | some b=>simp only[FS.cy,FS.bb,Option.some.injEq]
theorem Xxx {s s2:FS} {nm d:Nat} {kb:Option Nat} {X:Bk} {V:AV} {rt rb:List Nat}:dj s2 (((s.cy kb).aK nm X).put d V) ⟨rt,rb,[d],nm::kb.toList⟩=((s2.cy kb).aK nm X).put d V:=by
 refine pD (fun i=>?_) fun j=>?_
 ·show (if i ∈ [d] then _ else _)=_
  simp only[FS.dh,List.mem_singleton]
  by_cases h:i=d
  ·subst h;simp
  ·rw[if_neg h,if_neg fun e=>h e.symm];show _=(s2.cy kb).T i;rw[Q5]
 ·show (if j ∈ nm::kb.toList then (((s.cy kb).aK nm X).put d V).H j else s2.H j)=_
  simp only[FS.qd,FS.bb,Q6,List.mem_cons,Option.mem_toList]
  by_cases h:nm=j
  ·subst h;simp
  ·simp only[if_neg h,if_neg (fun e:j=nm=>h e.symm),false_or,(fun e=>h e.symm:¬ j=nm)]
   by_cases hk:kb=some j
   ·subst hk;simp
   ·have I2:¬ j ∈ kb:=fun e=>hk e
    simp[hk,I2]
    exact fun e=>absurd e.symm h
theorem FM {s:FS} {nm d:Nat} {kb:Option Nat} {X:List AV} {V:AV} {rt rb:List Nat} (hg:io.guard=none) (bg:io.dst=some d) (hd:d < c.N)
  (core:∀ s2:FS,(∀ i ∈ rt,s2.T i=s.T i)→(∀ b ∈ rb,s2.H b=s.H b)→∀ g a w,R c g s2 a w→∃ g' v' w',(execOp a.eval io).run P w=.ok (.value v') w'∧R c g' ((s2.cy kb).aK nm (.cells X)) a w'∧VR g' (Qn c g' ((s2.cy kb).aK nm (.cells X))) w' V v') :
  og P c ops io s ⟨rt,rb,[d],nm::kb.toList⟩ (((s.cy kb).aK nm (.cells X)).put d V):=by
 refine ⟨fun i hi=>?_,fun j hj=>?_,fun s2 hT hH g a w hR K Q' hK=>Ys hg ?_⟩
 ·rw[FS.dh,if_neg (fun e=>hi (by simp[e]))];exact Q5 s kb i
 ·rw[FS.qd,FS.bb,Q6,if_neg (fun e=>hj (by simp[e])),if_neg (fun e=>hj (by simp[e]))]
 ·obtain ⟨g',v',w',hr,bf,hv⟩:=core s2 hT hH g a w hR
  unfold Oper.wp
  rw[hr]
  show K (a.put io.dst v') w'
  rw[bg]
  refine hK g' _ w' ?_
  rw[Xxx]
  exact bf.put hd hv
theorem Q7 {o:Oper} {es iL:Nat} {str:Bool} {xs:List Operand} (h:Xy P o=some (.app es iL str,xs)) :
  ∃ x y t u e i z,xs=[x,y]∧o.op=.call ⟨.builtin .append,⟨[x,y]⟩,⟨[t,u]⟩⟩∧P.underlying t=some (.slice e)∧P.info? e=some i∧i.zero=some z∧z.cells.size=i.size∧i.size=es∧i.bytes=iL∧(u=t∨P.underlying u=some .string):=by
 unfold Xy at h
 repeat' split at h
 all_goals first
  | (cases h;exact ⟨_,_,_,_,_,_,_,rfl,by assumption,by assumption,by assumption,by assumption,(by rename_i hc _;exact hc.1),rfl,rfl,.inl (by assumption)⟩)
  | (cases h;exact ⟨_,_,_,_,_,_,_,rfl,by assumption,by assumption,by assumption,by assumption,(by rename_i hc _ _ _;exact hc.1),rfl,rfl,.inr (by assumption)⟩)
  | (simp at h;done)
  | (cases h;done)
  | (simp[Option.map_eq_some_iff]at h;done)
  | trace_state
def FN (s:FS) (es iL:Nat) (str:Bool) (nm:Nat):List AV→Prop
 | [vb,vx]=>tF s es vb∧kY s es str vx∧s.H nm=.free∧Xe vb + Xe vx≤9223372036854775807∧(Xe vb + Xe vx) * iL≤140737488355328
 | _=>False
def J0 (es nm:Nat):List AV→AV
 | [vb,vx]=>.sl es nm 0 (Xe vb + Xe vx) (Xe vb + Xe vx)
 | _=>.any
def Cd (s:FS) (es:Nat):List AV→List AV
 | [vb,vx]=>Xq s es vb++Xq s es vx
 | _=>[]
def FO:List AV→Option Nat
 | vb::_=>jA vb
 | []=>none
def Ce:List AV→List Nat
 | [vb,vx]=>(jA vb).toList++(jA vx).toList
 | _=>[]
def St.cy (s:St):Option Nat→St
 | some b=>s.aK b .dead
 | none=>s
theorem St.qk (s:St) (kb:Option Nat):(s.cy kb).fs=s.fs.cy kb:=by
 cases kb with
 | none=>rfl
 | some b=>exact St.cL _ _ _
theorem St.tG (s:St) (kb:Option Nat):(s.cy kb).n=s.n:=by cases kb<;>rfl
theorem FQ {s s2:FS} {es:Nat} {x:AV} (h:∀ b,jA x=some b→s2.H b=s.H b):Xq s2 es x=Xq s es x:=by
 cases x<;>simp only[Xq]
 rename_i b o n cc
 rw[h _ rfl]
theorem Q8 {s s2:FS} {es:Nat} {str:Bool} {x:AV} (h:∀ b,jA x=some b→s2.H b=s.H b) (ok:kY s es str x):kY s2 es str x:=by
 cases x<;>simp only[kY]at ok ⊢<;>try exact ok
 rw[h _ rfl];exact ok
theorem Qxn {s s2:FS} {es:Nat} {x:AV} (h:∀ b,jA x=some b→s2.H b=s.H b) (ok:tF s es x):tF s2 es x:=by
 cases x<;>simp only[tF]at ok ⊢<;>try exact ok
 rw[h _ rfl];exact ok
def FR (s:St) (gl:Nat→AV) (d:Nat) (xs:List TV):bp:=⟨Xf xs,s.n::Ce ((aF gl s.fs xs).map Qj),[d],s.n::(FO ((aF gl s.fs xs).map Qj)).toList⟩
def Cf (s:St) (gl:Nat→AV) (d es:Nat) (xs:List TV):St:=((s.cy (FO ((aF gl s.fs xs).map Qj))).nw (.cells (Cd s.fs es ((aF gl s.fs xs).map Qj)))).put d (J0 es s.n ((aF gl s.fs xs).map Qj))
theorem Q9 {s:St} {d es iL:Nat} {str:Bool} {xs:List TV} (hc:Qt none (aF c.gl s.fs xs)) (aX:FN s.fs es iL str s.n ((aF c.gl s.fs xs).map Qj)) :
  Kv P c (.pd (some d) (.app es iL str) xs none) s.fs (FR s c.gl d xs) (Cf s c.gl d es xs).fs:=by
 intro ops io he
 obtain ⟨bc,bg,hd,ys,aH,rfl⟩:=Zl he
 obtain ⟨x,y,t,u,e,i,z,rfl,bl,hu,hi,hz,ku,dc,qj,J1⟩:=Q7 aH
 have fN:(aF c.gl s.fs ([x,y].map aS)).map Qj=[Qj (aZ c.gl s.fs (aS x)),Qj (aZ c.gl s.fs (aS y))]:=rfl
 unfold FR Cf
 rw[fN]at aX ⊢
 generalize hvb:Qj (aZ c.gl s.fs (aS x))=vb at *
 generalize Ra:Qj (aZ c.gl s.fs (aS y))=vx at *
 obtain ⟨FK,xc,bq,pA,hb⟩:=aX
 rw[St.bS,St.gW,St.qk,St.tG]
 simp only[FO,Cd,J0,Ce]
 refine FM (Ka bc) bg (by simpa using hd) fun s2 hT hH g a w hR=>?_
 have bj:aF c.gl s2 ([x,y].map aS)=aF c.gl s.fs ([x,y].map aS):=Xu hT
 have fv:=Xx (hR.aF [x,y]) (by rw[bj];exact hc)
 rw[bj,fN]at fv
 obtain ⟨v1,v2,_⟩:=fv
 have rZ:∀ b,jA vb=some b→s2.H b=s.fs.H b:=fun b h=>hH b (by simp[h])
 have Cg:∀ b,jA vx=some b→s2.H b=s.fs.H b:=fun b h=>hH b (by simp[h])
 obtain ⟨g',v',w',hr,h1,h2⟩:=Xsm (P:=P) (ty:=io.type) hR (nm:=s.n) (by rw[hH _ au];exact bq) hu J1 hi hz dc (ku.trans dc) v1 v2 (Qxn rZ FK) (Q8 Cg xc) (by unfold maxLen;omega) (by rw[qj];exact hb)
 rw[FQ rZ,FQ Cg]at h1 h2
 refine ⟨g',v',w',?_,h1,h2⟩
 unfold execOp
 simp only[bl,resolve,invoke,builtin,Sem.run_bind,Sem.run_pure,Result.andThen_ok,List.map_toArray,List.map_cons,List.map_nil,hr]
theorem zU {r0:List bG} {K:St→Prop} {s:St} {d es iL:Nat} {str:Bool} {xs:List TV} (h:Qt none (aF c.gl s.fs xs)∧FN s.fs es iL str s.n ((aF c.gl s.fs xs).map Qj)∧XP P c r0 K (Cf s c.gl d es xs)) :
  Xw P c (.pd (some d) (.app es iL str) xs none) r0 K s:=.inl ⟨_,_,Q9 h.1 h.2.1,h.2.2⟩
theorem zV {anc:List Nat} {fs:List bp} {r0:List bG} {K:St→Prop} {s:St} {d es iL:Nat} {str:Bool} {xs:List TV} (h:Qt none (aF c.gl s.fs xs)∧FN s.fs es iL str s.n ((aF c.gl s.fs xs).map Qj)∧XD P c anc r0 (FR s c.gl d xs::fs) K (Cf s c.gl d es xs)) :
  Zi P c anc (.pd (some d) (.app es iL str) xs none) r0 fs K s:=⟨_,_,Q9 h.1 h.2.1,h.2.2⟩
theorem Xm6 (v:List (Value × Nat)):∀ (off:Nat) (cs:Array Value),(v.foldl (fun cs (c,j)=>cs.setIfInBounds (off + j) c) cs).size=cs.size:=by
 induction v with
 | nil=>intro off cs;rfl
 | cons p v ih=>intro off cs;rw[List.foldl_cons,ih];simp
theorem Rb {place:Nat→Option (Nat × Nat)}:∀ (l:List (Nat × Value)) (cells cells':Array Value),Instr.fill place cells l=some cells'→cells'.size=cells.size
 | [],cells,cells',h=>by simp[Instr.fill]at h;rw[h]
 | (i,v)::l,cells,cells',h=>by
  unfold Instr.fill at h
  split at h
  ·cases h
  ·split at h
   ·cases h
   ·rw[Rb l _ _ h]
    rw[← Array.foldl_toList]
    exact Xm6 _ _ _
theorem Qpq {place:Nat→Option (Nat × Nat)} {cells cells':Array Value} {l:List (Nat × Value)} (h:Instr.fill place cells l=some cells'):cells'.size=cells.size:=Rb l cells cells' h
def kc:Nat→List AV→List AV
 | 0,_=>[]
 | n + 1,z=>z++kc n z
theorem Rc (z:List AV):∀ n,(kc n z).length=n * z.length
 | 0=>by simp[kc]
 | n + 1=>by simp[kc,Rc z n,Nat.add_mul];omega
theorem Re (z:List AV):∀ n j,j < n * z.length→(kc n z).getD j .any=z.getD (j % z.length) .any
 | 0,j,h=>by simp at h
 | n + 1,j,h=>by
  simp only[kc,List.getD]
  by_cases hj:j < z.length
  ·rw[List.getElem?_append_left hj,Nat.mod_eq_of_lt hj]
  ·rw[List.getElem?_append_right ae]
   have h2:j - z.length < n * z.length:=by rw[Nat.add_mul]at h;omega
   have ih:=Re z n (j - z.length) h2
   simp only[List.getD]at ih
   rw[ih,← Nat.mod_eq_sub_mod ae]
theorem Rf {o:Oper} {es len:Nat} {zs:List AV} {ps:List (Nat × Nat)} {xs:List Operand} (h:Xy P o=some (.wU es len zs ps,xs)) :
  ∃ t e i z parts,o.op=.buildSlice t len parts∧P.underlying t=some (.slice e)∧P.info? e=some i∧i.zero=some z∧z.cells.size=i.size∧0 < i.size∧z.cells.all (·.oneCell')=true∧len * i.size≤2 ^ 24∧len≤2 ^ 24 ∧
   es=i.size∧zs=z.cells.toList.map fg∧ps=parts.toList.map (fun p=>(p.1 * i.size,i.size))∧xs=parts.toList.map (·.2):=by
 unfold Xy at h
 repeat' split at h
 all_goals first
  | (simp only[Option.some.injEq,Prod.mk.injEq,PK.wU.injEq]at h;obtain ⟨⟨rfl,rfl,rfl,rfl⟩,rfl⟩:=h
     rename_i hc;exact ⟨_,_,_,_,_,by assumption,by assumption,by assumption,by assumption,hc.1,hc.2.1,hc.2.2.1,hc.2.2.2.1,hc.2.2.2.2,rfl,rfl,rfl,rfl⟩)
  | (simp at h;done)
  | (cases h;done)
  | (simp[Option.map_eq_some_iff]at h;done)
theorem Rg {s:St} {d es len:Nat} {zs:List AV} {ps:List (Nat × Nat)} {xs:List TV} (hc:Qt none (aF c.gl s.fs xs)) (hlen:0 < len) (bq:s.fs.H s.n=.free) (aX:Yv (kc len zs).length ps ((aF c.gl s.fs xs).map Qj)) :
  Kv P c (.pd (some d) (.wU es len zs ps) xs none) s.fs ⟨Xf xs,[s.n],[d],[s.n]⟩ ((s.nw (.cells (Zv (kc len zs) ps ((aF c.gl s.fs xs).map Qj)))).put d (.sl es s.n 0 len len)).fs:=by
 intro ops io he
 obtain ⟨bc,bg,hd,ys,aH,rfl⟩:=Zl he
 obtain ⟨t,e,i,z,parts,bl,hu,hi,hz,ku,dS,sa,h24,J2,rfl,rfl,rfl,rfl⟩:=Rf aH
 rw[St.bS,St.gW]
 refine FM (kb:=none) (Ka bc) bg (by simpa using hd) fun s2 hT hH g a w hR=>?_
 have bj:=Xu (gl:=c.gl) hT
 have fv:=Xx (hR.aF (parts.toList.map (·.2))) (by rw[bj];exact hc)
 rw[bj]at fv
 have jx:s2.H s.n=.free:=by rw[hH _ au,bq]
 have J3:(z.cells.toList.map fg).length=i.size:=by simp[ku]
 have fO:(kc len (z.cells.toList.map fg)).length=len * i.size:=by rw[Rc,J3]
 have aW:((Array.range (len * i.size)).map (z.cells[· % z.cells.size]!)).size=len * i.size:=by simp
 have FU:∀ j,j < len * i.size→((Array.range (len * i.size)).map (z.cells[· % z.cells.size]!)).getD j undef=z.cells.getD (j % i.size) undef:=fun j hj=>by
  have hm:=Nat.mod_lt j dS
  simp[Array.getD_eq_getD_getElem?,hj,ku,hm]
 have h1z:∀ j,j < i.size→(z.cells.getD j undef).oneCell'=true:=fun j hj=>by
  have:=Array.all_eq_true.1 sa j ae
  simpa [Array.getD_eq_getD_getElem?,show j < z.cells.size by omega] using this
 have hgz:∀ j,j < i.size→(z.cells.toList.map fg).getD j .any=fg (z.cells.getD j undef):=fun j hj=>by
  simp[List.getD,Array.getD_eq_getD_getElem?,show j < z.cells.size by omega]
 obtain ⟨cells',f1,f2⟩:=IJ (g:=g) (W:=Qn c g s2) (w:=w) (place:=fun j=>some (j * i.size,i.size)) (parts.toList.map fun (p:Nat × Operand)=>(p.1 * i.size,i.size)) (parts.toList.map (fun (p:Nat × Operand)=>p.1)) au fv au (cs:=kc len (z.cells.toList.map fg)) (cells:=(Array.range (len * i.size)).map (z.cells[· % z.cells.size]!)) aX (by rw[aW,fO])
  (fun j hj=>by rw[fO]at hj;rw[FU j hj];exact h1z _ (Nat.mod_lt _ dS)) (fun j hj=>by
   rw[fO]at hj
   rw[FU j hj,Re _ _ _ (by rw[J3];exact hj),J3,hgz _ (Nat.mod_lt _ dS)]
   exact Fc _)
 obtain ⟨us,eu,q1,q2,q3⟩:=Wv f2
 cases eu
 have Fs:(parts.map fun (p:Nat × Operand)=>(p.1,a.eval p.2)).toList=(parts.toList.map (·.1)).zip ((parts.toList.map (·.2)).map a.eval):=by
  simp only[Array.toList_map]
  induction parts.toList with
  | nil=>rfl
  | cons p l ih=>simp[ih]
 have fk:(Zv (kc len (z.cells.toList.map fg)) (parts.toList.map fun p=>(p.1 * i.size,i.size)) ((aF c.gl s.fs ((parts.toList.map (·.2)).map aS)).map Qj)).length=len * i.size:=by
  rw[← q1]
  have:=Qpq f1
  rw[this,aW]
 have hr:=run_buildSlice (P:=P) w t e len (parts.map fun (j,x)=>(j,a.eval x)) cells' i z hu hi hz ae (Nat.ne_of_gt (Nat.mul_pos hlen dS)) (by rw[← Fs]at f1;exact f1)
 have iq:∀ k,Qn c g s2 k→k < w.heap.size:=by
  rintro k (h|⟨b',hl,fh⟩)
  ·have:=(hR.xs k h).1;have:=hR.fr.size;omega
  ·exact BR.lt (fh ▸ hR.h b') hl
 have bV:=heap_alloc_new w (.cells cells' e)
 have bf:=hR.new (b:=s.n) (x:=.cells (Zv (kc len (z.cells.toList.map fg)) (parts.toList.map fun p=>(p.1 * i.size,i.size)) ((aF c.gl s.fs ((parts.toList.map (·.2)).map aS)).map Qj))) (.cells cells' e) jx trivial fun g' fh =>
  .cells (cur:=cells') (e:=e) (fz:=(0,0)) bV ae q2 (fun j hj=>(q3 j hj).mono (Fr.alloc w _ _) (fun k hk h=>h.resolve_right ae) fh) (.inl rfl)
 refine ⟨_,_,_,?_,bf,.sl (k:=w.heap.size) (e:=e) (cur:=cells') (fz:=(0,0)) Cb (Nat.le_refl _) (Nat.le_refl _) (by unfold maxLen;omega) bV (by rw[q1,fk];omega)⟩
 unfold execOp
 simp only[bl,Sem.run_bind,hr,Result.andThen_ok,Sem.run_pure]
theorem zW {r0:List bG} {K:St→Prop} {s:St} {d es len:Nat} {zs:List AV} {ps:List (Nat × Nat)} {xs:List TV} (h:Qt none (aF c.gl s.fs xs)∧0 < len∧s.fs.H s.n=.free∧Yv (kc len zs).length ps ((aF c.gl s.fs xs).map Qj) ∧
  XP P c r0 K ((s.nw (.cells (Zv (kc len zs) ps ((aF c.gl s.fs xs).map Qj)))).put d (.sl es s.n 0 len len))):Xw P c (.pd (some d) (.wU es len zs ps) xs none) r0 K s:=.inl ⟨_,_,Rg h.1 h.2.1 h.2.2.1 h.2.2.2.1,h.2.2.2.2⟩
theorem zX {anc:List Nat} {fs:List bp} {r0:List bG} {K:St→Prop} {s:St} {d es len:Nat} {zs:List AV} {ps:List (Nat × Nat)} {xs:List TV} (h:Qt none (aF c.gl s.fs xs)∧0 < len∧s.fs.H s.n=.free∧Yv (kc len zs).length ps ((aF c.gl s.fs xs).map Qj) ∧
  XD P c anc r0 (⟨Xf xs,[s.n],[d],[s.n]⟩::fs) K ((s.nw (.cells (Zv (kc len zs) ps ((aF c.gl s.fs xs).map Qj)))).put d (.sl es s.n 0 len len))):Zi P c anc (.pd (some d) (.wU es len zs ps) xs none) r0 fs K s:=⟨_,_,Rg h.1 h.2.1 h.2.2.1 h.2.2.2.1,h.2.2.2.2⟩
theorem Xu9 {o:Oper} {xs:List Operand} (h:Xy P o=some (.BO,xs)):∃ src dst e x,o.op=.convert src dst x∧P.underlying src=some .string∧P.underlying dst=some (.slice e)∧P.underlying e=some (.int .u8)∧xs=[x]:=by
 unfold Xy at h
 repeat' split at h
 all_goals first
  | (simp only[Option.some.injEq,Prod.mk.injEq,true_and]at h;subst h;exact ⟨_,_,_,_,by assumption,by assumption,by assumption,by assumption,rfl⟩)
  | (simp at h;done)
  | (cases h;done)
  | (simp[Option.map_eq_some_iff]at h;done)
def Ci:AV→Prop
 | .str _=>True
 | _=>False
theorem Rh {s:St} {d:Nat} {x:TV} (hc:eR none (aZ c.gl s.fs x)) (bq:s.fs.H s.n=.free) (aX:Ci (Qj (aZ c.gl s.fs x))∧(cM (Qj (aZ c.gl s.fs x))).length≤9223372036854775807) :
  Kv P c (.pd (some d) .BO [x] none) s.fs ⟨Xf [x],[s.n],[d],[s.n]⟩ ((s.nw (.cells (Xg (cM (Qj (aZ c.gl s.fs x)))))).put d (.sl 1 s.n 0 (cM (Qj (aZ c.gl s.fs x))).length (cM (Qj (aZ c.gl s.fs x))).length)).fs:=by
 intro ops io he
 obtain ⟨bc,bg,hd,ys,aH,mw⟩:=Zl he
 obtain ⟨src,dst,e,y,bl,hs,hdd,hee,rfl⟩:=Xu9 aH
 simp only[List.map_cons,List.map_nil,List.cons.injEq,and_true]at mw
 subst mw
 rw[St.bS,St.gW]
 refine FM (kb:=none) (Ka bc) bg (by simpa using hd) fun s2 hT hH g a w hR=>?_
 have fa:aZ c.gl s2 (aS y)=aZ c.gl s.fs (aS y):=by
  have:=Xu (gl:=c.gl) (xs:=[aS y]) hT
  simpa [aF] using this
 have hv:=BQ (hR.ev y) (by rw[fa];exact hc)
 rw[fa]at hv
 obtain ⟨h1,h2⟩:=aX
 generalize Qj (aZ c.gl s.fs (aS y))=v at *
 cases v<;>simp only[Ci]at h1
 rename_i l
 simp only[cM]at h2 ⊢
 have jx:s2.H s.n=.free:=by rw[hH _ au,bq]
 generalize hy:a.eval y=uy at hv
 cases hv
 have hr:=run_bytes_of_string (P:=P) w src dst e ⟨l.toArray⟩ hs hdd hee
 have cJ:(⟨l.toArray⟩:ByteArray).size=l.length:=rfl
 rw[cJ]at hr
 generalize my:grownCap w l.length 0 e=cap at hr
 have iq:l.length≤cap:=by rw[← my];exact Iu w _ _ _
 have hle:cap≤maxLen:=by rw[← my];exact grownCap_le_maxLen w _ _ _ (by unfold maxLen;omega)
 have Ri:(bytesRow ⟨l.toArray⟩ cap).size=cap:=by simp[bytesRow,cJ];omega
 have Rj:∀ j (hj:j < l.length),(bytesRow ⟨l.toArray⟩ cap).getD j undef=.int .u8 (l[j]).toNat:=fun j hj=>by
  have:=bytesRow_at ⟨l.toArray⟩ cap j (by simpa using hj)
  rw[Array.getD_eq_getD_getElem?,this];simp
 have pC:R c g s2 a w.drew:=hR.grow (Fr.drew w _)
 have iIa:∀ k,Qn c g s2 k→k < w.drew.heap.size:=by
  rintro k (h|⟨b',hl,fh⟩)
  ·have:=(pC.xs k h).1;have:=pC.fr.size;omega
  ·exact BR.lt (fh ▸ pC.h b') hl
 have bV:=heap_alloc_new w.drew (.cells (bytesRow ⟨l.toArray⟩ cap) e ((bytesRow ⟨l.toArray⟩ cap).size,(bytesRow ⟨l.toArray⟩ cap).size + 1))
 have fk:(Xg l).length=l.length:=QG l
 have bf:=pC.new (b:=s.n) (x:=.cells (Xg l)) (.cells (bytesRow ⟨l.toArray⟩ cap) e ((bytesRow ⟨l.toArray⟩ cap).size,(bytesRow ⟨l.toArray⟩ cap).size + 1)) jx trivial fun g' fh=>by
  refine .cells (cur:=bytesRow ⟨l.toArray⟩ cap) (e:=e) bV (by rw[fk,Ri];exact iq) (fun j hj=>?_) (fun j hj=>?_) (.inr (Nat.le_refl _))
  ·rw[Rj j ae];rfl
  ·rw[Rj j ae,QH ae]
   simp only[List.getD,List.getElem?_eq_getElem (show j < l.length by omega),Option.getD_some]
   exact .int _ _
 refine ⟨_,_,_,?_,bf,.sl (k:=w.heap.size) (e:=e) Cb (Nat.le_refl _) iq hle bV (by rw[Ri];omega)⟩
 unfold execOp
 simp only[bl,hy,Sem.run_bind,hr,Result.andThen_ok,Sem.run_pure]
theorem zY {r0:List bG} {K:St→Prop} {s:St} {d:Nat} {x:TV} (h:eR none (aZ c.gl s.fs x)∧s.fs.H s.n=.free∧(Ci (Qj (aZ c.gl s.fs x))∧(cM (Qj (aZ c.gl s.fs x))).length≤9223372036854775807) ∧
  XP P c r0 K ((s.nw (.cells (Xg (cM (Qj (aZ c.gl s.fs x)))))).put d (.sl 1 s.n 0 (cM (Qj (aZ c.gl s.fs x))).length (cM (Qj (aZ c.gl s.fs x))).length))):Xw P c (.pd (some d) .BO [x] none) r0 K s:=.inl ⟨_,_,Rh h.1 h.2.1 h.2.2.1,h.2.2.2⟩
theorem zZ {anc:List Nat} {fs:List bp} {r0:List bG} {K:St→Prop} {s:St} {d:Nat} {x:TV} (h:eR none (aZ c.gl s.fs x)∧s.fs.H s.n=.free∧(Ci (Qj (aZ c.gl s.fs x))∧(cM (Qj (aZ c.gl s.fs x))).length≤9223372036854775807) ∧
  XD P c anc r0 (⟨Xf [x],[s.n],[d],[s.n]⟩::fs) K ((s.nw (.cells (Xg (cM (Qj (aZ c.gl s.fs x)))))).put d (.sl 1 s.n 0 (cM (Qj (aZ c.gl s.fs x))).length (cM (Qj (aZ c.gl s.fs x))).length))):Zi P c anc (.pd (some d) .BO [x] none) r0 fs K s:=⟨_,_,Rh h.1 h.2.1 h.2.2.1,h.2.2.2⟩
end
theorem Xe4 (s:FS) (es m:Nat) (ds:List AV):Xq s es (.isl m ds)=ds.take (m * es):=rfl
theorem Xpz (s:FS) (es es2 b o m c:Nat):Xq s es (.sl es2 b o m c)=((Yu (s.H b)).drop o).take (m * es):=rfl
theorem Xhx (s:FS) (es:Nat) (l:List UInt8):Xq s es (.str l)=Xg l:=rfl
theorem Qz2 (s:FS) (es:Nat):Xq s es .nils=[]:=rfl
theorem Xan (s:FS) (es m:Nat) (b:Bool) (ds:List AV):kY s es b (.isl m ds)=(b=false∧m * es≤ds.length):=rfl
theorem Xd9 (s:FS) (es es2 k o m c:Nat) (b:Bool):kY s es b (.sl es2 k o m c)=(b=false∧es2=es∧o + m * es≤(Yu (s.H k)).length):=rfl
theorem Xac (s:FS) (es:Nat) (b:Bool) (l:List UInt8):kY s es b (.str l)=(b=true∧es=1):=rfl
theorem Xae (s:FS) (es:Nat) (b:Bool) (a:Option Addr) (c:Nat):kY s es b (.lit (.slice a 0 c))=(b=false):=by simp[kY,FI]
theorem Xg8 (v:Value):Xe (.lit v)=0:=rfl
theorem Xex (v:Value):jA (.lit v)=none:=rfl
theorem Xem (s:FS) (es:Nat) (v:Value):Xq s es (.lit v)=[]:=rfl
theorem Qx5 (s:FS) (es:Nat) (b:Bool):kY s es b .nils=(b=false):=rfl
theorem Xaf (s:FS) (es es2 b o n c:Nat):tF s es (.sl es2 b o n c)=(es2=es∧o=0∧n * es≤(Yu (s.H b)).length∧(s.H b).live):=rfl
theorem Qt1 (s:FS) (es:Nat):tF s es .nils=True:=rfl
theorem Xko (es b o n c:Nat):jA (.sl es b o n c)=some b:=rfl
theorem Qyy:jA .nils=none:=rfl
theorem Xe0 (n:Nat) (cs:List AV):jA (.isl n cs)=none:=rfl
theorem Xgb (l:List UInt8):jA (.str l)=none:=rfl
theorem Ya2 (s:FS) (es iL nm:Nat) (b:Bool) (x y:AV):FN s es iL b nm [x,y]=(tF s es x∧kY s es b y∧s.H nm=.free∧Xe x + Xe y≤9223372036854775807∧(Xe x + Xe y) * iL≤140737488355328):=rfl
theorem Yck (es nm:Nat) (x y:AV):J0 es nm [x,y]=.sl es nm 0 (Xe x + Xe y) (Xe x + Xe y):=rfl
theorem Ydv (s:FS) (es:Nat) (x y:AV):Cd s es [x,y]=Xq s es x++Xq s es y:=rfl
theorem Yd9 (x:AV) (r:List AV):FO (x::r)=jA x:=rfl
theorem Yd1 (x y:AV):Ce [x,y]=(jA x).toList++(jA y).toList:=rfl
theorem Xzt (s:St) (b:Nat):s.cy (some b)=s.aK b .dead:=rfl
theorem Xxq (s:St):s.cy none=s:=rfl
theorem Xyv (z:List AV):kc 0 z=[]:=rfl
theorem Ybo (n:Nat) (z:List AV):kc (n + 1) z=z++kc n z:=rfl
theorem Xyn (l:List UInt8):Ci (.str l)=True:=rfl
theorem Yd6 (cs:List AV):(Bk.cells cs).live=True:=rfl
theorem J4 (l:List UInt8) (n:Int) (r:List AV):Xg l++(.int .u8 (IntKind.u8.wrap n)::r)=Xg (l++[UInt8.ofNat (IntKind.u8.wrap n).toNat])++r:=by
 have h0:0≤IntKind.u8.wrap n∧IntKind.u8.wrap n < 256:=by rw[IntKind.wrap_u8];omega
 generalize IntKind.u8.wrap n=k at h0 ⊢
 simp[Xg];omega
theorem Xra {l:List UInt8} {n:Int} {r:List AV} (h0:0≤n) (h1:n < 256):Xg l++(.int .u8 n::r)=Xg (l++[UInt8.ofNat n.toNat])++r:=by
 simp[Xg];omega
theorem Xrl:Xg []=[]:=rfl
theorem Xru:Qo []=[]:=rfl
theorem Xos {l:List Int} {n:Int} {r:List AV}:Qo l++(.int .i64 n::r)=Qo (l++[n])++r:=by simp[Qo]
attribute [go_sem] JY Xuw Xsk Xly Xe4 Xpz Xhx Qz2 Xan Xd9 Xac Qx5 Xae Xg8 Xex Xem Xaf Qt1 Xko Qyy Xe0 Xgb Ya2 Yck Ydv Yd9 Yd1 Xzt Xxq Xyv Ybo Xyn Yd6 J4 Xra Xos Xrl Xru FR Cf List.append_nil List.length_append Xtp Xs9
def Jo (r:AV):Prop:=∀ (g g':Nat→GM) (W W':Nat→Prop) (w w':World) (v:Value),VR g W w r v→VR g' W' w' r v
theorem Jo.int (k:IntKind) (n:Int):Jo (.int k n):=fun _ _ _ _ _ _ _ h=>by cases h;exact .int _ _
theorem Jo.bool (b:Bool):Jo (.bool b):=fun _ _ _ _ _ _ _ h=>by cases h;exact .bool _
theorem Jo.str (l:List UInt8):Jo (.str l):=fun _ _ _ _ _ _ _ h=>by cases h;exact .str _
theorem Jo.aU {cs:List AV} (h:∀ x ∈ cs,Jo x):Jo (.aU cs):=fun g g' W W' w w' v hv=>by
 obtain ⟨us,rfl,h1,h3⟩:=BJ hv
 refine .aU h1 fun j hj=>?_
 refine h _ ?_ _ _ _ _ _ _ _ (h3 j hj)
 simp only[List.getD,List.getElem?_eq_getElem hj,Option.getD_some];exact List.getElem_mem hj
def sf:AV→List Nat
 | .sl _ b _ _ _=>[b]
 | _=>[]
def FV:AV→List Nat
 | .agg cs=>cs.flatMap sf
 | v=>sf v
theorem Rk {s s2:FS}:∀ {v:AV},(∀ b ∈ sf v,s2.H b=s.H b)→Yj s2 v=Yj s v:=fun {v} h=>by
 cases v<;>simp only[Yj]
 rw[h _ (by simp[sf])]
theorem Xgi {s s2:FS} {v:AV} (h:∀ b ∈ FV v,s2.H b=s.H b):Yx s2 v=Yx s v:=by
 cases v<;>simp only[Yx]
 case agg cs =>
  congr 1
  refine List.map_congr_left fun x hx=>Rk fun b hb=>h b ?_
  simp only[FV,List.mem_flatMap];exact ⟨x,hx,hb⟩
 all_goals exact Rk h
section
variable {P:Program} {c:Cx}
def tH (s:FS) (gl:Nat→AV) (d:Option Nat) (xs:List TV) (gd:Option (Nat × Bool)):bp:=⟨jj gd++Xf xs,((aF gl s xs).map Qj).flatMap FV,d.toList,[]⟩
theorem Rl {g g':Nat→GM} {W W':Nat→Prop} {w:World} {f:AV→AV}:∀ {xs:List AV} {vs:List Value},bO g W w xs vs→(∀ x ∈ xs,∀ v,VR g W w x v→VR g' W' w (f x) v)→bO g' W' w (xs.map f) vs
 | [],[],_,_=>trivial
 | x::xs,v::vs,h,k=>⟨k x au v h.1,Rl h.2 fun y hy=>k y (by simp[hy])⟩
 | [],_::_,h,_=>h.elim
 | _::_,[],h,_=>h.elim
theorem Rm {s:St} {d:Option Nat} {f:FuncId} {xs:List TV} {gd:Option (Nat × Bool)} {args:List AV} {r:AV} (aX:Ue c.gl s.fs xs gd) (aN:((aF c.gl s.fs xs).map Qj).map (Yx s.fs)=args) (eE:ah 0 args) (iz:Jo r)
  (eg:ob (gB s.fs gd) (PS P c.gl f args r)):Kv P c (.pd d (.call f) xs gd) s.fs (tH s.fs c.gl d xs gd) (s.bD d (cw (gB s.fs gd) r)).fs:=by
 intro ops io he
 obtain ⟨bc,bg,hd,ys,aH,rfl⟩:=Zl he
 obtain ⟨ts,bl⟩:=tC aH
 have eV:(s.bD d (cw (gB s.fs gd) r)).fs=match d with|some d=>s.fs.put d (cw (gB s.fs gd) r)|none=>s.fs:=by
  cases d with
  | none=>rfl
  | some d=>exact St.bS _ _ _
 rw[eV]
 refine ⟨fun i hi=>?_,fun b _=>by cases d<;>rfl,?_⟩
 ·cases d with
  | none=>rfl
  | some d=>show (s.fs.put d _).T i=_;rw[FS.dh,if_neg (fun e=>hi (by simp[tH,e]))]
 ·intro s2 hT hH g a w hR K Q' hK
  have bj:aF c.gl s2 (ys.map aS)=aF c.gl s.fs (ys.map aS):=Xu fun i hi=>hT i (by simp[tH,hi])
  have hg:∀ t b,gd=some (t,b)→s2.T t=s.fs.T t:=fun t b e=>hT t (by simp[tH,e,jj])
  have oh:gB s2 gd=gB s.fs gd:=by
   cases gd with
   | none=>rfl
   | some p=>obtain ⟨t,b⟩:=p;simp only[gB,hg t b rfl]
  have om:fx s2 gd:=by
   have:=aX.1
   cases gd with
   | none=>exact this
   | some p=>obtain ⟨t,b⟩:=p;simpa only[fx,hg t b rfl] using this
  have lO:∀ v w',Fr w w' (fun _=>False)→VR g (Qn c g s2) w' (cw (gB s.fs gd) r) v→K (a.put io.dst v) w':=fun v w' hf hv=>by
   rw[bg]
   have bf:=hR.grow hf
   cases d with
   | none =>
    refine hK g _ w' ?_
    have:dj s2 s.fs (tH s.fs c.gl none (ys.map aS) gd)=s2:=by unfold dj tH;simp
    simp only[this];exact bf
   | some d =>
    refine hK g _ w' ?_
    show R c g (dj s2 (s.fs.put d _) ⟨jj gd++Xf (ys.map aS),_,[d],[]⟩) _ _
    rw[wW]
    exact bf.put (by simpa using hd) hv
  unfold me
  rw[vi bc hR om,oh]
  have run:(∀ b,gB s.fs gd=some b→b=true)→io.wp P a w K Q':=by
   intro hb
   have pw:Qt none (aF c.gl s2 (ys.map aS)):=by
    rw[bj]
    have:=aX.2
    cases b9:gB s.fs gd with
    | none=>rw[b9]at this;exact this
    | some b=>rw[b9]at this;exact zD (hb b b9) this
   have qi:PS P c.gl f args r:=by
    cases b9:gB s.fs gd with
    | none=>rw[b9]at eg;exact eg
    | some b=>rw[b9]at eg;exact eg (hb b b9)
   have hv:=Xx (hR.aF ys) pw
   rw[bj]at hv
   have FU:∀ x ∈ (aF c.gl s.fs (ys.map aS)).map Qj,Yx s2 x=Yx s.fs x:=fun x hx=>Xgi fun b hb=>hH b (by simp only[tH,List.mem_flatMap];exact ⟨x,hx,hb⟩)
   have n9:bO (fun _=>.un) c.X w args (ys.map a.eval):=by
    rw[← aN]at eE ⊢
    refine Rl hv fun x hx v h=>?_
    have hn:=Xi.1 eE (Yx s.fs x) (List.mem_map_of_mem hx)
    rw[← FU x hx]at hn ⊢
    exact JI hR h hn
   have hX:∀ k,c.X k→k < w.heap.size:=fun k h=>by have:=(hR.xs k h).1;have:=hR.fr.size;omega
   have ka:∀ i,VR (fun _=>.un) c.X w (c.gl i) (.pointer (some ⟨i,0,none⟩)):=fun i=>(hR.gl i).mono (Fr.refl _ _) (fun k _ h=>.inl h) (fun _ _=>rfl)
   have cO:=qi.2 w _ _ hX ka n9
   unfold Oper.wp
   rw[tD qi.1 bl]
   rw[Oper.upon_enter]
   refine cO.mono fun e w' ⟨v,e1,e2,e3⟩=>?_
   subst e1
   refine lO v w' e3 ?_
   have fN:VR g (Qn c g s2) w' r v:=iz _ _ _ _ _ _ _ e2
   cases b9:gB s.fs gd with
   | none=>exact fN
   | some b=>exact .dx (fun _=>fN) fun h=>by rw[hb b b9]at h;cases h
  cases b9:gB s.fs gd with
  | none=>simp only[Option.getD_none,if_true];exact run fun b h=>by rw[b9]at h;cases h
  | some b =>
   cases b with
   | true=>simp only[Option.getD_some,if_true];exact run fun b h=>by rw[b9]at h;cases h;rfl
   | false =>
    simp only[Option.getD_some,Bool.false_eq_true,if_false]
    refine lO undef w (Fr.refl _ _) ?_
    rw[b9]
    exact .dx (fun h=>by cases h) fun _=>rfl
theorem Kz {r0:List bG} {K:St→Prop} {s:St} {d:Option Nat} {f:FuncId} {xs:List TV} {gd:Option (Nat × Bool)} {args:List AV} {r:AV} (aN:((aF c.gl s.fs xs).map Qj).map (Yx s.fs)=args) (eg:PS P c.gl f args r) (iz:Jo r)
  (aX:Ue c.gl s.fs xs gd∧ah 0 args∧XP P c r0 K (s.bD d (cw (gB s.fs gd) r))):Xw P c (.pd d (.call f) xs gd) r0 K s:=.inl ⟨_,_,Rm aX.1 aN aX.2.1 iz (w8 eg),aX.2.2⟩
theorem Jx {anc:List Nat} {fs:List bp} {r0:List bG} {K:St→Prop} {s:St} {d:Option Nat} {f:FuncId} {xs:List TV} {gd:Option (Nat × Bool)} {args:List AV} {r:AV} (aN:((aF c.gl s.fs xs).map Qj).map (Yx s.fs)=args) (eg:PS P c.gl f args r) (iz:Jo r)
  (aX:Ue c.gl s.fs xs gd∧ah 0 args∧XD P c anc r0 (tH s.fs c.gl d xs gd::fs) K (s.bD d (cw (gB s.fs gd) r))):Zi P c anc (.pd d (.call f) xs gd) r0 fs K s:=⟨_,_,Rm aX.1 aN aX.2.1 iz (w8 eg),aX.2.2⟩
end
theorem Qzx (es b o n c:Nat):sf (.sl es b o n c)=[b]:=rfl
attribute [go_sem] tH Qzx sf FV List.flatMap_cons List.flatMap_nil
section
variable {P:Program} {c:Cx} {g g':Nat→GM} {s:FS} {a:Act} {w w':World} {W W':Nat→Prop}
structure Fit (σ:Nat→Nat) (s:FS) (aG:List (Nat × Bk)) (m:Nat):Prop where
 mem:∀ p ∈ aG,p.1 < m∧bP m p.2∧s.H (σ p.1)=Qx σ p.2
 inj:∀ p ∈ aG,∀ q ∈ aG,σ p.1=σ q.1→p.1=q.1
def ql (g:Nat→GM) (σ:Nat→Nat) (aG:List (Nat × Bk)) (m:Nat) (k:Nat):Prop:=∃ b,(Qc aG m b).live∧g (σ b)=.re k
def Yf3 (c:Cx) (g:Nat→GM) (s:FS) (G:Nat→Prop) (k:Nat):Prop:=Qn c g s k∧¬ G k
def pE (c:Cx) (g:Nat→GM) (s:FS) (w:World) (σ:Nat→Nat) (aG:List (Nat × Bk)) (m:Nat):Cx:=⟨0,w,ql g σ aG m,Yf3 c g s (ql g σ aG m),c.gl,[]⟩
theorem Uk {h:List (Nat × Bk)} {m b:Nat} (hl:(Qc h m b).live):∃ p ∈ h,p.1=b∧Qc h m b=p.2:=by
 rcases Zn h m b with e|e
 ·rw[e]at hl;split at hl<;>exact hl.elim
 ·exact e
open Classical in
theorem FW {σ:Nat→Nat} {aG:List (Nat × Bk)} {m:Nat} (hR:R c g s a w) (fit:Fit σ s aG m):∃ g1:Nat→GM,(∀ b,b < m→g (σ b)≠.un→g (σ b)=g1 b) ∧
  R (pE c g s w σ aG m) g1 (⟨[],aG,m⟩:St).fs ⟨#[],[]⟩ w∧(∀ k,Qn (pE c g s w σ aG m) g1 (⟨[],aG,m⟩:St).fs k→Qn c g s k):=by
 let g1:Nat→GM:=fun b=>if b < m then (if g (σ b)=.un then .ph else g (σ b)) else .un
 have jB:∀ b,b < m→g (σ b)≠.un→g (σ b)=g1 b:=fun b hb h=>by simp only[g1,if_pos hb,if_neg h]
 have iq:∀ b,m≤b→g1 b=.un:=fun b hb=>by simp only[g1];rw[if_neg ae]
 have bY:∀ b,b < m→g1 b≠.un:=fun b hb=>by
  simp only[g1,if_pos hb]
  split
  ·intro h;cases h
  ·assumption
 have cR:∀ b,(Qc aG m b).live→b < m∧(s.H (σ b)).live∧g1 b=g (σ b):=fun b hl=>by
  obtain ⟨p,hp,rfl,e⟩:=Uk hl
  obtain ⟨h1,h2,h3⟩:=fit.mem p hp
  have cR:(s.H (σ p.1)).live:=by rw[h3,w5];exact Xc h2
  refine ⟨h1,cR,(jB _ h1 fun e=>?_).symm⟩
  have:=hR.h (σ p.1)
  rw[e]at this
  generalize s.H (σ p.1)=x at this cR
  exact this.fW cR
 have hW:∀ k,Qn (pE c g s w σ aG m) g1 (⟨[],aG,m⟩:St).fs k→Qn c g s k:=by
  rintro k (h|⟨b,h1,h2⟩)
  ·exact h.1
  ·obtain ⟨_,h4,h5⟩:=cR b h1
   exact .inr ⟨σ b,h4,by rw[← h5];exact h2⟩
 refine ⟨g1,jB,⟨rfl,rfl,fun i=>.any _,fun i=>(hR.gl i).mono (Fr.refl w _) (fun k _=>hW k) (fun _ _=>rfl),fun b=>?_,fun b b' k h1 h2 e1 e2=>?_,fun b k h1 e1=>?_,Fr.refl _ _,fun k hk=>⟨?_,hk.2⟩,fun p hp=>by cases hp⟩,hW⟩
 ·show BR g1 _ w _ (Qc aG m b)
  rcases Zn aG m b with h|⟨p,h1,rfl,h3⟩
  ·rw[h]
   split
   ·rename_i hb;exact .dead (bY b hb)
   ·rename_i hb;rw[iq b ae];exact .free
  ·rw[h3]
   obtain ⟨q1,q2,q3⟩:=fit.mem p h1
   obtain ⟨_,_,e5⟩:=cR p.1 (by rw[h3];exact Xc q2)
   rw[e5]
   have dT:=hR.h (σ p.1)
   rw[q3]at dT
   exact dT.iN jB q2 hW
 ·obtain ⟨p1,oA,rfl,_⟩:=Uk h1
  obtain ⟨p2,fb,rfl,_⟩:=Uk h2
  obtain ⟨_,l1,d1⟩:=cR _ h1
  obtain ⟨_,l2,d2⟩:=cR _ h2
  exact fit.inj p1 oA p2 fb (hR.inj _ _ k l1 l2 (by rw[← d1];exact e1) (by rw[← d2];exact e2))
 ·obtain ⟨_,l1,d1⟩:=cR _ h1
  exact .inr ⟨b,h1,by rw[← d1];exact e1⟩
 ·rcases hk.1 with h|⟨b',hl,fh⟩
  ·have:=(hR.xs k h).1;have:=hR.fr.size;show k < w.heap.size;omega
  ·exact BR.lt (fh ▸ hR.h b') hl
def cW (h:List (Nat × Bk)) (n:Nat):FS:=(⟨[],h,n⟩:St).fs
def GS (P:Program) (gl:Nat→AV) (f:FuncId) (args:List AV) (aG:List (Nat × Bk)) (m:Nat) (r:AV) (aw:List (Nat × Bk)) (n:Nat):Prop :=
 zJ P f∧∀ (w:World) (vs:List Value) (G X:Nat→Prop) (g:Nat→GM),R ⟨0,w,G,X,gl,[]⟩ g (cW aG m) ⟨#[],[]⟩ w→bO g (Qn ⟨0,w,G,X,gl,[]⟩ g (cW aG m)) w args vs →
  Calls P f vs.toArray w fun e w'=>∃ v g',e=.returned v∧R ⟨0,w,G,X,gl,[]⟩ g' (cW aw n) ⟨#[],[]⟩ w'∧(∀ b,b < m→g' b=g b)∧VR g' (Qn ⟨0,w,G,X,gl,[]⟩ g' (cW aw n)) w' r v
def FX (m:Nat) (rs:List RS) (r:AV) (aw:List (Nat × Bk)) (n:Nat):EX→St→Prop
 | .exit _,_=>False
 | _,s=>Wq s.fs rs∧∃ ρ,qh m ρ n∧Sub (rl ρ) ⟨[(0,ga s.fs rs)],s.h,s.n⟩ ⟨[(0,r)],aw,n⟩
theorem FY {w:World} {vs:List Value} {args:List AV} {N:Nat} (hN:args.length≤N) {G X:Nat→Prop} {gl:Nat→AV} {g:Nat→GM} {aG:List (Nat × Bk)} {m:Nat} {gh:List (Nat × GM)} (hR:R ⟨0,w,G,X,gl,[]⟩ g (cW aG m) ⟨#[],[]⟩ w)
  (hv:bO g (Qn ⟨0,w,G,X,gl,[]⟩ g (cW aG m)) w args vs) (gO:∀ p ∈ gh,g p.1=p.2∧p.2≠.un) :
  R ⟨N,w,G,X,gl,gh⟩ g (⟨jz 0 args,aG,m⟩:St).fs { tmps:=vs.toArray++Array.replicate (N - vs.toArray.size) undef,defers:=[] } w:=by
 have hl:=hv.length
 refine ⟨by simp;omega,rfl,fun i=>?_,hR.gl,hR.h,hR.inj,hR.old,hR.fr,hR.xs,gO⟩
 show VR g _ w (look (jz 0 args) i) _
 rw[JE]
 split
 ·rename_i h
  have hi:i < vs.length:=by omega
  have:=hv.get i ae
  have e:(vs.toArray++Array.replicate (N - vs.toArray.size) undef).getD i undef=vs.getD i undef:=by
   simp only[Array.getD_eq_getD_getElem?,List.getD]
   rw[Array.getElem?_append_left (by simpa using hi)]
   simp
  rw[e]
  have h2:VR g (Qn ⟨0,w,G,X,gl,[]⟩ g (cW aG m)) w (args.getD (i - 0) .any) (vs.getD i undef):=by simpa using this
  exact h2
 ·exact .any _
theorem Xry {gl : Nat → AV} {f : FuncId} {fn : Func} {code : Code} {t : TC} {rs : List RS} {args : List AV} {aG aw : List (Nat × Bk)} {m n : Nat} {r : AV} (hm : P.follows .mixedOrders = true) (hf : P.funcs[f]? = some fn) (hb : fn.body = some code) (dU : (fn.name == "runtime.NumGoroutine") = false)
  (he:Jc P fn.ntmps code=some t) (hr:m9 P fn.results.toList=some rs) (hN:args.length≤fn.ntmps) (aO:∀ p ∈ aG,p.2.live)
  (h:∀ c:Cx,(∀ p ∈ c.gh,p.1 < m)→c.gl=gl→xw P c t (FX m rs r aw n) ⟨jz 0 args,aG,m⟩):GS P gl f args aG m r aw n:=by
 refine ⟨⟨fn,hf,by rw[hb];rfl,dU⟩,fun w vs G X g jM hv=>?_⟩
 refine calls_of_wp hf hb ?_
 have ju:∀ b,b < m→g b≠.un:=fun b gJ e=>by
  have:=jM.h b
  rw[e]at this
  have hh:(cW aG m).H b=Qc aG m b:=rfl
  rw[hh]at this
  rcases Zn aG m b with q|⟨p,hp,_,q⟩
  ·rw[q,if_pos gJ]at this;cases this;rename_i h;exact h rfl
  ·rw[q]at this
   have hl:=aO p hp
   cases hx:p.2 with
   | free=>rw[hx]at hl;exact hl.elim
   | dead=>rw[hx]at hl;exact hl.elim
   | cells cs=>rw[hx]at this;cases this
   | aC kvs dn=>rw[hx]at this;cases this
   | bn kvs bs ck=>rw[hx]at this;cases this
   | iter b0 ck seen=>rw[hx]at this;cases this
   | dd ls=>rw[hx]at this;cases this with|dd _ h=>cases h
 have gO:∀ p ∈ (List.range m).map (fun b=>(b,g b)),g p.1=p.2∧p.2≠.un:=fun p hp=>by
  obtain ⟨b,gJ,rfl⟩:=List.mem_map.1 hp
  exact ⟨rfl,ju b (List.mem_range.1 gJ)⟩
 have aY:∀ p ∈ (List.range m).map (fun b=>(b,g b)),p.1 < m:=fun p hp=>by
  obtain ⟨b,gJ,rfl⟩:=List.mem_map.1 hp
  exact List.mem_range.1 gJ
 have hR:=FY (N:=fn.ntmps) hN jM hv gO
 have:=vn (c:=⟨fn.ntmps,w,G,X,gl,(List.range m).map (fun b=>(b,g b))⟩) hm code t _ _ he (h _ aY rfl) _ _ _ hR
 refine wp_mono this fun e a' w' hq=>?_
 have fin:∀ (g1:Nat→GM) (s:St),R ⟨fn.ntmps,w,G,X,gl,(List.range m).map (fun b=>(b,g b))⟩ g1 s.fs a' w'→(Wq s.fs rs∧∃ ρ,qh m ρ n∧Sub (rl ρ) ⟨[(0,ga s.fs rs)],s.h,s.n⟩ ⟨[(0,r)],aw,n⟩) →
   a'.defers=[]∧∃ v,(results fn a'.tmps).run P w'=.ok v w'∧(∃ nd g',Ending.returned v=.returned nd∧R ⟨0,w,G,X,gl,[]⟩ g' (cW aw n) ⟨#[],[]⟩ w'∧(∀ b,b < m→g' b=g b)∧VR g' (Qn ⟨0,w,G,X,gl,[]⟩ g' (cW aw n)) w' r nd):=by
  intro g1 s bf ⟨h1,ρ,h2,h3⟩
  obtain ⟨v,h4,h5⟩:=B6 bf hr h1
  refine ⟨bf.dK,v,h4,v,?_⟩
  have cx:R ⟨1,w,G,X,gl,(List.range m).map (fun b=>(b,g b))⟩ g1 (⟨[(0,ga s.fs rs)],s.h,s.n⟩:St).fs ⟨#[v],[]⟩ w':=by
   refine ⟨rfl,rfl,fun i=>?_,bf.gl,bf.h,bf.inj,bf.old,bf.fr,bf.xs,bf.hU⟩
   show VR g1 _ w' (look [(0,ga s.fs rs)] i) _
   rw[Yw]
   split
   ·rename_i hi;subst hi;exact h5
   ·exact .any _
  obtain ⟨g2,bR⟩:=h3.to cx (JD aY h2)
  refine ⟨g2,rfl,⟨rfl,rfl,fun i=>.any _,bR.gl,bR.h,bR.inj,bR.old,bR.fr,bR.xs,fun p hp=>by cases hp⟩,fun b hb=>?_,?_⟩
  ·exact (bR.hU (b,g b) (List.mem_map.2 ⟨b,List.mem_range.2 hb,rfl⟩)).1
  ·exact bR.t 0
 cases e with
 | normal=>obtain ⟨g,s,bf,cD⟩:=hq;exact fin g s bf cD
 | ret=>obtain ⟨g,s,bf,cD⟩:=hq;exact fin g s bf cD
 | exit i=>obtain ⟨g,s,bf,cD⟩:=hq;exact cD.elim
 | goto l=>exact hq.elim
 | panic ch=>exact hq.elim
 | outgrown=>exact hq.elim
def pF (σ:Nat→Nat):Bk→Bk
 | .dead=>.dead
 | x=>Qx σ x
theorem BR.aD {σ:Nat→Nat} {n:Nat} (hg:∀ b,b < n→g' (σ b)=g b) {mm:GM} {x:Bk} (h:BR g W w mm x) (hn:bP n x) (hW:∀ k,W' k→W k):BR g' W' w mm (Qx σ x):=by
 have fwd:∀ {v u},Qf n v→VR g W w v u→VR g' W' w (Proofs.YtogckmommodmhaaGreatDoor.aD σ v) u:=fun hn h=>(h.aD (ρ:=σ) (g:=g') hg hn).mono (Fr.refl w W) (fun k _=>hW k) (fun _ _=>rfl)
 cases h with
 | free=>exact hn.elim
 | dead h=>exact hn.elim
 | ph=>simp only[Qx,ay];exact .ph
 | cells hb hl h1 hv hz =>
  simp only[Qx,bP]at hn ⊢
  refine .cells hb (by rw[Yg];exact hl) (by rw[Yg];exact h1) (fun j hj=>?_) hz
  rw[Yg]at hj
  rw[Ko];exact fwd (Zs hn j) (hv j hj)
 | aC hb hs j7 hv hc ha hd =>
  rename_i k kvs dn es clock
  simp only[Qx,bP]at hn ⊢
  have aV:∀ j,j < kvs.length→(kvs.map fun p=>(Proofs.YtogckmommodmhaaGreatDoor.aD σ p.1,Proofs.YtogckmommodmhaaGreatDoor.aD σ p.2)).getD j (.any,.any)=(Proofs.YtogckmommodmhaaGreatDoor.aD σ (kvs.getD j (.any,.any)).1,Proofs.YtogckmommodmhaaGreatDoor.aD σ (kvs.getD j (.any,.any)).2):=fun j hj=>by simp[List.getD,hj]
  have bJ:∀ j,j < kvs.length→kvs.getD j (.any,.any) ∈ kvs:=fun j hj=>by simp[List.getD,hj]
  refine .aC hb (by rw[List.length_map];exact hs) (fun j hj=>?_) (fun j hj=>?_) hc ha hd
  ·rw[List.length_map]at hj;rw[aV j hj];exact fwd (hn _ (bJ j hj)).1 (j7 j hj)
  ·rw[List.length_map]at hj;rw[aV j hj];exact fwd (hn _ (bJ j hj)).2 (hv j hj)
 | bn hb hs j7 hv hc ha hd =>
  rename_i k kvs bs es clock
  simp only[Qx,bP]at hn ⊢
  have aV:∀ j,j < kvs.length→(kvs.map fun p=>(Proofs.YtogckmommodmhaaGreatDoor.aD σ p.1,Proofs.YtogckmommodmhaaGreatDoor.aD σ p.2)).getD j (.any,.any)=(Proofs.YtogckmommodmhaaGreatDoor.aD σ (kvs.getD j (.any,.any)).1,Proofs.YtogckmommodmhaaGreatDoor.aD σ (kvs.getD j (.any,.any)).2):=fun j hj=>by simp[List.getD,hj]
  have bJ:∀ j,j < kvs.length→kvs.getD j (.any,.any) ∈ kvs:=fun j hj=>by simp[List.getD,hj]
  refine .bn hb (by rw[List.length_map];exact hs) (fun j hj=>?_) (fun j hj=>?_) hc ha hd
  ·rw[List.length_map]at hj;rw[aV j hj];exact fwd (hn _ (bJ j hj)).1 (j7 j hj)
  ·rw[List.length_map]at hj;rw[aV j hj];exact fwd (hn _ (bJ j hj)).2 (hv j hj)
 | iter hb kL =>
  simp only[Qx,bP]at hn ⊢
  exact .iter hb (by rw[hg _ hn];exact kL)
 | dd hp h=>exact BR.j9 (.dd hp h) hn hW
structure xd (σ:Nat→Nat) (s s3:FS) (aw:List (Nat × Bk)) (n:Nat):Prop where
 T:∀ i,s3.T i=s.T i
 H:∀ b,b < n→s3.H (σ b)=pF σ (Qc aw n b)
 rest:∀ j,(∀ b,b < n→σ b≠j)→s3.H j=s.H j
open Classical in
noncomputable def Jz (g g2:Nat→GM) (σ:Nat→Nat) (n:Nat) (j:Nat):GM:=if h:∃ b,b < n∧σ b=j then g2 h.choose else g j
theorem Rn {σ:Nat→Nat} {aG aw:List (Nat × Bk)} {m n:Nat} {s3:FS} {g1 g2:Nat→GM} (hR:R c g s a w) (fit:Fit σ s aG m) (qm:∀ b,b < m→∃ p ∈ aG,p.1=b) (vw:m≤n) (bN:∀ b b',b < n→b' < n→σ b=σ b'→b=b') (bV:∀ b,m≤b→b < n→s.H (σ b)=.free)
  (eE:∀ p ∈ aw,bP n p.2) (hlt:∀ p ∈ aw,p.1 < n) (jB:∀ b,b < m→g (σ b)≠.un→g (σ b)=g1 b) (vz:∀ b,b < m→g2 b=g1 b) (bR:R (pE c g s w σ aG m) g2 (cW aw n) ⟨#[],[]⟩ w') (hb:xd σ s s3 aw n) :
  R c (Jz g g2 σ n) s3 a w'∧∀ {r:AV} {v:Value},Qf n r→VR g2 (Qn (pE c g s w σ aG m) g2 (cW aw n)) w' r v→VR (Jz g g2 σ n) (Qn c (Jz g g2 σ n) s3) w' (aD σ r) v:=by
 have gs:∀ b,b < n→Jz g g2 σ n (σ b)=g2 b:=fun b dQ=>by
  unfold Jz
  have hex:∃ b',b' < n∧σ b'=σ b:=⟨b,dQ,rfl⟩
  rw[dif_pos hex]
  rw[bN _ _ hex.choose_spec.1 dQ hex.choose_spec.2]
 have go:∀ j,(∀ b,b < n→σ b≠j)→Jz g g2 σ n j=g j:=fun j h=>by
  unfold Jz
  rw[dif_neg]
  rintro ⟨b,h1,h2⟩;exact h b h1 h2
 have named:∀ b,b < m→g (σ b)≠.un:=fun b gJ e=>by
  obtain ⟨p,hp,rfl⟩:=qm b gJ
  obtain ⟨_,q2,q3⟩:=fit.mem p hp
  have:=hR.h (σ p.1)
  rw[e,q3]at this
  have hl:(Qx σ p.2).live:=w5.2 (Xc q2)
  generalize Qx σ p.2=x at this hl
  exact this.fW hl
 have gm:∀ b,b < m→g2 b=g (σ b):=fun b gJ=>by rw[vz b gJ,← jB b gJ (named b gJ)]
 have gk:∀ j,g j≠.un→Jz g g2 σ n j=g j:=fun j hj=>by
  by_cases h:∃ b,b < n∧σ b=j
  ·obtain ⟨b,dQ,rfl⟩:=h
   rw[gs b dQ]
   by_cases gJ:b < m
   ·exact gm b gJ
   ·have:=hR.h (σ b)
    rw[bV b ae dQ]at this
    generalize g (σ b)=x at this hj
    cases this;exact (hj rfl).elim
  ·exact go j fun b h1 h2=>h ⟨b,h1,h2⟩
 have jka:∀ b,(Qc aw n b).live→b < n:=fun b hl=>by
  obtain ⟨p,hp,rfl,_⟩:=Uk hl
  exact hlt p hp
 have lin:∀ b,(Qc aG m b).live→b < m:=fun b hl=>by
  obtain ⟨p,hp,rfl,_⟩:=Uk hl
  exact (fit.mem p hp).1
 have qn:∀ b,(Qc aG m b).live→(s.H (σ b)).live:=fun b hl=>by
  obtain ⟨p,hp,rfl,_⟩:=Uk hl
  obtain ⟨_,q2,q3⟩:=fit.mem p hp
  rw[q3,w5];exact Xc q2
 have db:∀ j,(s3.H j).live→(∃ b,b < n∧σ b=j∧(Qc aw n b).live)∨((∀ b,b < n→σ b≠j)∧(s.H j).live):=fun j hl=>by
  by_cases h:∃ b,b < n∧σ b=j
  ·obtain ⟨b,dQ,rfl⟩:=h
   rw[hb.H b dQ]at hl
   refine .inl ⟨b,dQ,rfl,?_⟩
   cases hx:Qc aw n b with
   | free=>rw[hx]at hl;exact hl.elim
   | dead=>rw[hx]at hl;exact hl.elim
   | cells cs=>trivial
   | aC kvs dn=>trivial
   | bn kvs bs ck=>trivial
   | iter b0 ck seen=>trivial
   | dd ls=>trivial
  ·have cd:∀ b,b < n→σ b≠j:=fun b h1 h2=>h ⟨b,h1,h2⟩
   rw[hb.rest j cd]at hl
   exact .inr ⟨cd,hl⟩
 -- memory of a block wX comes back
 have gf:∀ b k,(Qc aw n b).live→g2 b=.re k→w.heap.size≤k∨∃ b0,(Qc aG m b0).live∧g (σ b0)=.re k:=fun b k hl hk=>bR.old b k hl hk
 have hf:Fr w w' (ql g σ aG m):=bR.fr
 have z6:∀ k,ql g σ aG m k→Qn c g s k:=fun k ⟨b,h1,h2⟩=>.inr ⟨σ b,qn b h1,h2⟩
 have qo:Fr w w' (Qn c g s):=hf.weak z6
 have si:∀ j k,(∀ b,b < n→σ b≠j)→(s.H j).live→g j=.re k→¬ ql g σ aG m k:=fun j k h1 h2 h3 ⟨b,q1,q2⟩ =>
  h1 b (Nat.lt_of_lt_of_le (lin b q1) vw) (hR.inj (σ b) j k (qn b q1) h2 q2 h3)
 have nk:∀ k,k < w.heap.size→Qn c (Jz g g2 σ n) s3 k→Qn c g s k:=by
  rintro k hk (h|⟨j,h1,h2⟩)
  ·exact .inl h
  ·rcases db j h1 with ⟨b,dQ,rfl,hl⟩|⟨cd,hl⟩
   ·rw[gs b dQ]at h2
    rcases gf b k hl h2 with h|⟨b0,q1,q2⟩
    ·omega
    ·exact z6 k ⟨b0,q1,q2⟩
   ·rw[go j cd]at h2;exact .inr ⟨j,hl,h2⟩
 have mz:∀ k,Qn c (Jz g g2 σ n) s3 k→Qn (pE c g s w σ aG m) g2 (cW aw n) k:=by
  rintro k (h|⟨j,h1,h2⟩)
  ·refine .inl ⟨.inl h,fun ⟨b,q1,q2⟩=>?_⟩
   obtain ⟨x1,x2⟩:=hR.xs k h
   rcases hR.old (σ b) k (qn b q1) q2 with h|h
   ·omega
   ·exact x2 h
  ·rcases db j h1 with ⟨b,dQ,rfl,hl⟩|⟨cd,hl⟩
   ·rw[gs b dQ]at h2;exact .inr ⟨b,hl,h2⟩
   ·rw[go j cd]at h2;exact .inl ⟨.inr ⟨j,hl,h2⟩,si j k cd hl h2⟩
 refine ⟨⟨hR.size,hR.dK,fun i=>?_,fun i=>(hR.gl i).mono qo nk (fun _ _=>rfl),fun j=>?_,fun j j' k h1 h2 e1 e2=>?_,fun j k h1 e1=>?_,hR.fr.trans hf fun k hk ⟨b,q1,q2⟩=>?_,hR.xs,fun p hp=>?_⟩,fun {r v} hn hv=>?_⟩
 ·rw[hb.T];exact (hR.t i).mono qo nk gk
 ·by_cases h:∃ b,b < n∧σ b=j
  ·obtain ⟨b,dQ,rfl⟩:=h
   rw[hb.H b dQ,gs b dQ]
   have dT:=bR.h b
   have e:(cW aw n).H b=Qc aw n b:=rfl
   rw[e]at dT
   rcases Zn aw n b with q|⟨p,hp,_,q⟩
   ·rw[q,if_pos dQ]at dT ⊢
    generalize g2 b=x at dT ⊢
    cases dT with
    | dead h=>exact .dead h
   ·rw[q]at dT ⊢
    have pn:=eE p hp
    have:pF σ p.2=Qx σ p.2:=by
     cases hx:p.2<;>first|rfl|(rw[hx]at pn;exact pn.elim)
    rw[this]
    exact dT.aD (g':=Jz g g2 σ n) gs pn mz
  ·have cd:∀ b,b < n→σ b≠j:=fun b h1 h2=>h ⟨b,h1,h2⟩
   rw[hb.rest j cd,go j cd]
   refine (hR.h j).mono qo nk gk fun k hk hl=>hf.fV k ?_ (si j k cd hl hk)
   exact BR.lt (hk ▸ hR.h j) hl
 ·rcases db j h1 with ⟨b,dQ,rfl,hl⟩|⟨cd,hl⟩<;>rcases db j' h2 with ⟨b',Cj,rfl,kP⟩|⟨mA,kP⟩
  ·rw[gs b dQ]at e1;rw[gs b' Cj]at e2
   rw[bR.inj b b' k hl kP e1 e2]
  ·rw[gs b dQ]at e1;rw[go j' mA]at e2
   have hlt:=BR.lt (e2 ▸ hR.h j') kP
   rcases gf b k hl e1 with h|hG
   ·omega
   ·exact (si j' k mA kP e2 hG).elim
  ·rw[gs b' Cj]at e2;rw[go j cd]at e1
   have hlt:=BR.lt (e1 ▸ hR.h j) hl
   rcases gf b' k kP e2 with h|hG
   ·omega
   ·exact (si j k cd hl e1 hG).elim
  ·rw[go j cd]at e1;rw[go j' mA]at e2
   exact hR.inj j j' k hl kP e1 e2
 ·rcases db j h1 with ⟨b,dQ,rfl,hl⟩|⟨cd,hl⟩
  ·rw[gs b dQ]at e1
   rcases gf b k hl e1 with h|⟨b0,q1,q2⟩
   ·have:=hR.fr.size;exact .inl ae
   ·exact hR.old (σ b0) k (qn b0 q1) q2
  ·rw[go j cd]at e1;exact hR.old j k hl e1
 ·rcases hR.old (σ b) k (qn b q1) q2 with h|h
  ·omega
  ·exact h
 ·obtain ⟨q1,q2⟩:=hR.hU p hp
  exact ⟨by rw[gk p.1 (by rw[q1];exact q2),q1],q2⟩
 ·exact (hv.aD (ρ:=σ) (g:=Jz g g2 σ n) gs hn).mono (Fr.refl _ _) (fun k _=>mz k) (fun _ _=>rfl)
end
def sg (ins:List Nat) (m n0:Nat) (b:Nat):Nat:=if b < m then ins.getD b 0 else n0 + (b - m)
def Ck (σ:Nat→Nat) (s:FS) (m:Nat):List (Nat × Bk)→Prop
 | []=>True
 | (b,x)::r=>b < m∧bP m x∧s.H (σ b)=Qx σ x∧Ck σ s m r
def z7:List Nat→Bool
 | []=>true
 | x::r=>r.all (fun y=>!(Nat.beq x y)) && z7 r
def xe (ins:List Nat) (m n0:Nat):Bool:=(ins.length == m) && z7 ins && ins.all (fun j=>decide (j < n0))
def Cl (s:FS):List Nat→Prop
 | []=>True
 | j::r=>s.H j=.free∧Cl s r
def Cm (n:Nat):List (Nat × Bk)→Prop
 | []=>True
 | (b,x)::r=>b < n∧bP n x∧Cm n r
def z8 (n0:Nat):Nat→List Nat
 | 0=>[]
 | k + 1=>z8 n0 k++[n0 + k]
def jC (n0 m n:Nat):List Nat:=z8 n0 (n - m)
theorem tI {n0 j:Nat}:∀ {k:Nat},j ∈ z8 n0 k ↔ ∃ i,i < k∧n0 + i=j
 | 0=>by simp[z8]
 | k + 1=>by
  simp only[z8,List.mem_append,tI (k:=k),List.mem_singleton]
  constructor
  ·rintro (⟨i,h,rfl⟩|rfl)
   ·exact ⟨i,by omega,rfl⟩
   ·exact ⟨k,by omega,rfl⟩
  ·rintro ⟨i,h,rfl⟩
   by_cases hk:i=k
   ·subst hk;exact .inr rfl
   ·exact .inl ⟨i,by omega,rfl⟩
def idx:List (Nat × Bk)→List Nat
 | []=>[]
 | p::r=>p.1::idx r
def upto:Nat→List Nat
 | 0=>[]
 | n + 1=>upto n++[n]
structure kZ (s:FS) (n0:Nat) (ins:List Nat) (args:List AV) (aG:List (Nat × Bk)) (m:Nat) (r:AV) (aw:List (Nat × Bk)) (n:Nat):Prop where
 fit:Ck (sg ins m n0) s m aG
 dW:idx aG=upto m
 ins:xe ins m n0=true
 free:Cl s (jC n0 m n)
 out:Cm n aw
 le:m≤n
 nr:Qf n r
 na:ah m args
theorem J5 {σ:Nat→Nat} {s:FS} {m:Nat}:∀ {h:List (Nat × Bk)},Ck σ s m h→∀ p ∈ h,p.1 < m∧bP m p.2∧s.H (σ p.1)=Qx σ p.2
 | [],_,p,hp=>by cases hp
 | (b,x)::r,h,p,hp=>by
  rcases List.mem_cons.1 hp with rfl|hp
  ·exact ⟨h.1,h.2.1,h.2.2.1⟩
  ·exact J5 h.2.2.2 p hp
theorem FZ {n:Nat}:∀ {h:List (Nat × Bk)},Cm n h→∀ p ∈ h,p.1 < n∧bP n p.2
 | [],_,p,hp=>by cases hp
 | (b,x)::r,h,p,hp=>by
  rcases List.mem_cons.1 hp with rfl|hp
  ·exact ⟨h.1,h.2.1⟩
  ·exact FZ h.2.2 p hp
theorem J6 {s:FS}:∀ {l:List Nat},Cl s l→∀ j ∈ l,s.H j=.free
 | [],_,j,hj=>by cases hj
 | x::l,h,j,hj=>by
  rcases List.mem_cons.1 hj with rfl|hj
  ·exact h.1
  ·exact J6 h.2 j hj
theorem J7:∀ h:List (Nat × Bk),idx h=h.map (·.1)
 | []=>rfl
 | p::r=>by simp[idx,J7 r]
theorem J8:∀ {n b:Nat},b ∈ upto n ↔ b < n
 | 0,b=>by simp[upto]
 | n + 1,b=>by simp[upto,J8 (n:=n)];omega
theorem J9:∀ {l:List Nat},z7 l=true→∀ i j,i < l.length→j < l.length→l.getD i 0=l.getD j 0→i=j
 | [],_,i,j,hi,_,_=>by simp at hi
 | x::l,h,i,j,hi,hj,e=>by
  simp only[z7,Bool.and_eq_true]at h
  have cg:∀ y ∈ l,x≠y:=fun y hy exy=>by
   have:=List.all_eq_true.1 h.1 y hy
   subst exy;simp at this
  have bJ:∀ k,k < l.length→l.getD k 0 ∈ l:=fun k hk=>by simp only[List.getD,List.getElem?_eq_getElem hk,Option.getD_some];exact List.getElem_mem hk
  cases i with
  | zero =>
   cases j with
   | zero=>rfl
   | succ j=>simp only[List.getD_cons_zero,List.getD_cons_succ]at e;exact (cg _ (bJ j (by simpa using hj)) e).elim
  | succ i =>
   cases j with
   | zero=>simp only[List.getD_cons_zero,List.getD_cons_succ]at e;exact (cg _ (bJ i (by simpa using hi)) e.symm).elim
   | succ j=>simp only[List.getD_cons_succ]at e;rw[J9 h.2 i j (by simpa using hi) (by simpa using hj) e]
theorem KA {ins:List Nat} {m n0:Nat} (h:xe ins m n0=true) {b b':Nat} (e:sg ins m n0 b=sg ins m n0 b'):b=b':=by
 simp only[xe,Bool.and_eq_true,beq_iff_eq,List.all_eq_true,decide_eq_true_eq]at h
 obtain ⟨⟨h1,h2⟩,h3⟩:=h
 have bJ:∀ k,k < m→ins.getD k 0 < n0:=fun k hk=>h3 _ (by simp only[List.getD,List.getElem?_eq_getElem (show k < ins.length by omega),Option.getD_some];exact List.getElem_mem _)
 unfold sg at e
 split at e<;>split at e
 ·exact J9 h2 b b' ae ae e
 ·rename_i x y;have:=bJ b x;omega
 ·rename_i x y;have:=bJ b' y;omega
 ·omega
section
variable {P:Program} {c:Cx}
def cZ (σ:Nat→Nat) (aw:List (Nat × Bk)) (n:Nat):Nat→List (Nat × Bk)
 | 0=>[]
 | k + 1=>(σ k,pF σ (Qc aw n k))::cZ σ aw n k
def la (s:St) (d:Option Nat) (ins:List Nat) (m:Nat) (r:AV) (aw:List (Nat × Bk)) (n:Nat):St :=
 St.bD ⟨s.t,cZ (sg ins m s.n) aw n n++s.h,s.n + (n - m)⟩ d (aD (sg ins m s.n) r)
def tJ (s:St) (d:Option Nat) (xs:List TV) (ins:List Nat) (m n:Nat):bp:=⟨Xf xs,ins++jC s.n m n,d.toList,ins++jC s.n m n⟩
theorem F1 (h h2:List (Nat × Bk)) (n j:Nat):(∃ p ∈ h,p.1=j)∧(∃ p ∈ h,p.1=j∧Qc (h++h2) n j=p.2)∨(∀ p ∈ h,p.1≠j)∧Qc (h++h2) n j=Qc h2 n j:=by
 induction h with
 | nil=>right;exact ⟨fun p hp=>(by cases hp),rfl⟩
 | cons p r ih =>
  obtain ⟨i,x⟩:=p
  rw[List.cons_append,Qd]
  by_cases hi:i=j
  ·left
   rw[if_pos hi]
   exact ⟨⟨(i,x),by simp,hi⟩,(i,x),by simp,hi,rfl⟩
  ·rw[if_neg hi]
   rcases ih with ⟨⟨p,hp,e⟩,q,hq,e1,e2⟩|⟨h1,h2⟩
   ·exact .inl ⟨⟨p,by simp[hp],e⟩,q,by simp[hq],e1,e2⟩
   ·refine .inr ⟨fun p hp=>?_,h2⟩
    rcases List.mem_cons.1 hp with rfl|hp
    ·exact hi
    ·exact h1 p hp
theorem xf {σ:Nat→Nat} {aw:List (Nat × Bk)} {n:Nat}:∀ {k:Nat} {p:Nat × Bk},p ∈ cZ σ aw n k ↔ ∃ b,b < k∧p=(σ b,pF σ (Qc aw n b))
 | 0,p=>by simp[cZ]
 | k + 1,p=>by
  simp only[cZ,List.mem_cons,xf (k:=k)]
  constructor
  ·rintro (rfl|⟨b,hb,rfl⟩)
   ·exact ⟨k,by omega,rfl⟩
   ·exact ⟨b,by omega,rfl⟩
  ·rintro ⟨b,hb,rfl⟩
   by_cases h:b=k
   ·subst h;exact .inl rfl
   ·exact .inr ⟨b,by omega,rfl⟩
theorem Cn {σ:Nat→Nat} {m:Nat} {g g1:Nat→GM} {W W':Nat→Prop} {w:World} (hg:∀ b,b < m→g (σ b)≠.un→g (σ b)=g1 b) (hW:∀ k,W' k→W k):∀ {args:List AV} {vs:List Value},ah m args→bO g W w (ay σ args) vs→bO g1 W' w args vs
 | [],[],_,_=>trivial
 | x::xs,v::vs,hn,h=>by
  rw[Yk,List.map_cons,← Yk]at h
  exact ⟨(h.1.iN hg x rfl hn.1).mono (Fr.refl _ _) (fun k _=>hW k) (fun _ _=>rfl),Cn hg hW hn.2 h.2⟩
 | [],_::_,_,h=>by rw[Yk]at h;exact h.elim
 | _::_,[],_,h=>by rw[Yk]at h;exact h.elim
theorem Ro {s:St} {d:Option Nat} {f:FuncId} {xs:List TV} {ins:List Nat} {args:List AV} {aG:List (Nat × Bk)} {m:Nat} {r:AV} {aw:List (Nat × Bk)} {n:Nat} (dM:GS P c.gl f args aG m r aw n) (hc:Qt none (aF c.gl s.fs xs))
  (aN:(aF c.gl s.fs xs).map Qj=ay (sg ins m s.n) args) (ok:kZ s.fs s.n ins args aG m r aw n):Kv P c (.pd d (.call f) xs none) s.fs (tJ s d xs ins m n) (la s d ins m r aw n).fs:=by
 intro ops io he
 obtain ⟨bc,bg,hd,ys,aH,rfl⟩:=Zl he
 obtain ⟨ts,bl⟩:=tC aH
 have vA:∀ b b',b < n→b' < n→sg ins m s.n b=sg ins m s.n b'→b=b':=fun b b' _ _ e=>KA ok.ins e
 have hlen:ins.length=m:=by
  have:=ok.ins;simp only[xe,Bool.and_eq_true,beq_iff_eq]at this;exact this.1.1
 -- the names wX are tK
 have fH:∀ b,b < n→sg ins m s.n b ∈ ins++jC s.n m n:=fun b hb=>by
  unfold sg
  split
  ·rename_i h
   refine List.mem_append_left _ ?_
   simp only[List.getD,List.getElem?_eq_getElem (show b < ins.length by omega),Option.getD_some];exact List.getElem_mem _
  ·refine List.mem_append_right _ ?_
   simp only[jC,tI];exact ⟨b - m,by omega,rfl⟩
 have kU:∀ j,j ∈ ins++jC s.n m n→∃ b,b < n∧sg ins m s.n b=j:=fun j hj=>by
  rcases List.mem_append.1 hj with h|h
  ·obtain ⟨i,hi,rfl⟩:=List.getElem_of_mem h
   have:=ok.le
   refine ⟨i,by omega,?_⟩
   unfold sg;rw[if_pos ae];simp[List.getD,hi]
  ·simp only[jC,tI]at h
   obtain ⟨i,hi,rfl⟩:=h
   exact ⟨m + i,by omega,by unfold sg;rw[if_neg ae];omega⟩
 have qq:∀ j,(la s d ins m r aw n).fs.H j=Qc (cZ (sg ins m s.n) aw n n++s.h) (s.n + (n - m)) j:=fun j=>by cases d<;>rfl
 have mB:∀ i,(la s d ins m r aw n).fs.T i=match d with|some d=>(if d=i then aD (sg ins m s.n) r else s.fs.T i)|none=>s.fs.T i:=fun i=>by
  cases d with
  | none=>rfl
  | some d=>show look ((d,_)::s.t) i=_;rw[Yw];rfl
 have qs:∀ b,b < n→Qc (cZ (sg ins m s.n) aw n n++s.h) (s.n + (n - m)) (sg ins m s.n b)=pF (sg ins m s.n) (Qc aw n b):=fun b hb=>by
  rcases F1 (cZ (sg ins m s.n) aw n n) s.h (s.n + (n - m)) (sg ins m s.n b) with ⟨_,p,hp,e1,e2⟩|⟨h1,_⟩
  ·obtain ⟨b',bH,rfl⟩:=xf.1 hp
   have:=vA b' b bH hb e1
   subst this;exact e2
  ·exact (h1 _ (xf.2 ⟨b,hb,rfl⟩) rfl).elim
 have lb:∀ j,j ∉ ins++jC s.n m n→Qc (cZ (sg ins m s.n) aw n n++s.h) (s.n + (n - m)) j=s.fs.H j:=fun j hj=>by
  rcases F1 (cZ (sg ins m s.n) aw n n) s.h (s.n + (n - m)) j with ⟨⟨p,hp,e⟩,_⟩|⟨_,h2⟩
  ·obtain ⟨b,hb,rfl⟩:=xf.1 hp
   exact (hj (e ▸ fH b hb)).elim
  ·rw[h2]
   show Qc s.h (s.n + (n - m)) j=Qc s.h s.n j
   have cd:∀ k,k≤n - m→Qc s.h (s.n + k) j=Qc s.h s.n j:=fun k hk=>by
    induction k with
    | zero=>rfl
    | succ k ih =>
     rw[← ih ae]
     refine Wd s.h (s.n + k) j fun e=>hj ?_
     refine List.mem_append_right _ ?_
     simp only[jC,tI];exact ⟨k,by omega,e.symm⟩
   exact cd _ (Nat.le_refl _)
 refine ⟨fun i hi=>?_,fun j hj=>?_,fun s2 hT hH g a w hR K Q' hK=>Ys (Ka bc) ?_⟩
 ·rw[mB]
  cases d with
  | none=>rfl
  | some d=>simp only[tJ,Option.toList_some,List.mem_singleton]at hi;simp only;rw[if_neg fun e=>hi e.symm]
 ·rw[qq];exact lb j hj
 ·have bj:aF c.gl s2 (ys.map aS)=aF c.gl s.fs (ys.map aS):=Xu fun i hi=>hT i hi
  have hv:=Xx (hR.aF ys) (by rw[bj];exact hc)
  rw[bj,aN]at hv
  have lf:Fit (sg ins m s.n) s2 aG m:=by
   refine ⟨fun p hp=>?_,fun p hp q hq e=>KA ok.ins e⟩
   obtain ⟨q1,q2,q3⟩:=J5 ok.fit p hp
   exact ⟨q1,q2,by rw[hH _ (fH p.1 (Nat.lt_of_lt_of_le q1 ok.le))];exact q3⟩
  have qm:∀ b,b < m→∃ p ∈ aG,p.1=b:=fun b hb=>by
   have:=J8.2 hb
   rw[← ok.dW,J7]at this
   obtain ⟨p,hp,e⟩:=List.mem_map.1 this
   exact ⟨p,hp,e⟩
  have bV:∀ b,m≤b→b < n→s2.H (sg ins m s.n b)=.free:=fun b h1 h2=>by
   rw[hH _ (fH b h2)]
   refine J6 ok.free _ ?_
   unfold sg;rw[if_neg ae]
   simp only[jC,tI];exact ⟨b - m,by omega,rfl⟩
  obtain ⟨g1,jB,sj,sk⟩:=FW hR lf
  have nc:=Cn (g1:=g1) jB sk ok.na hv
  have cO:=dM.2 w _ _ _ g1 sj nc
  unfold Oper.wp
  rw[tD dM.1 bl]
  rw[Oper.upon_enter]
  refine cO.mono fun e w' ⟨v,g2,e1,e2,e3,e4⟩=>?_
  subst e1
  let s3:FS:=⟨s2.T,fun j=>if j ∈ ins++jC s.n m n then (la s d ins m r aw n).fs.H j else s2.H j⟩
  have hb:xd (sg ins m s.n) s2 s3 aw n:=by
   refine ⟨fun i=>rfl,fun b dQ=>?_,fun j hj=>?_⟩
   ·show (if _ then _ else _)=_
    rw[if_pos (fH b dQ),qq,qs b dQ]
   ·show (if _ then _ else _)=_
    rw[if_neg fun h=>?_]
    obtain ⟨b,dQ,rfl⟩:=kU j h
    exact hj b dQ rfl
  obtain ⟨jD,fD⟩:=Rn hR lf qm ok.le vA bV (fun p hp=>(FZ ok.out p hp).2) (fun p hp=>(FZ ok.out p hp).1) jB e3 e2 hb
  have tL:=fD ok.nr e4
  show K (a.put io.dst v) w'
  rw[bg]
  cases d with
  | none =>
   refine hK (Jz g g2 (sg ins m s.n) n) _ w' ?_
   have:dj s2 (la s none ins m r aw n).fs (tJ s none (ys.map aS) ins m n)=s3:=by
    refine pD (fun i=>?_) fun j=>rfl
    show (if i ∈ ([]:List Nat) then (la s none ins m r aw n).fs.T i else s2.T i)=s2.T i
    simp
   rw[this];exact jD
  | some d =>
   refine hK (Jz g g2 (sg ins m s.n) n) _ w' ?_
   have:dj s2 (la s (some d) ins m r aw n).fs (tJ s (some d) (ys.map aS) ins m n)=s3.put d (aD (sg ins m s.n) r):=by
    refine pD (fun i=>?_) fun j=>rfl
    show (if i ∈ [d] then (la s (some d) ins m r aw n).fs.T i else s2.T i)=_
    rw[FS.dh,mB]
    by_cases h:d=i
    ·subst h;simp
    ·rw[if_neg (by simpa using fun e:i=d=>h e.symm),if_neg h]
   rw[this];exact jD.put (by simpa using hd) tL
theorem tM {r0:List bG} {K:St→Prop} {s:St} {d:Option Nat} {f:FuncId} {xs:List TV} {ins:List Nat} {args:List AV} {aG:List (Nat × Bk)} {m:Nat} {r:AV} {aw:List (Nat × Bk)} {n:Nat} (dM:GS P c.gl f args aG m r aw n)
  (aN:(aF c.gl s.fs xs).map Qj=ay (sg ins m s.n) args) (h:Qt none (aF c.gl s.fs xs)∧kZ s.fs s.n ins args aG m r aw n∧XP P c r0 K (la s d ins m r aw n)):Xw P c (.pd d (.call f) xs none) r0 K s :=
 .inl ⟨_,_,Ro dM h.1 aN h.2.1,h.2.2⟩
theorem tN {anc:List Nat} {fs:List bp} {r0:List bG} {K:St→Prop} {s:St} {d:Option Nat} {f:FuncId} {xs:List TV} {ins:List Nat} {args:List AV} {aG:List (Nat × Bk)} {m:Nat} {r:AV} {aw:List (Nat × Bk)} {n:Nat} (dM:GS P c.gl f args aG m r aw n)
  (aN:(aF c.gl s.fs xs).map Qj=ay (sg ins m s.n) args) (h:Qt none (aF c.gl s.fs xs)∧kZ s.fs s.n ins args aG m r aw n∧XD P c anc r0 (tJ s d xs ins m n::fs) K (la s d ins m r aw n)):Zi P c anc (.pd d (.call f) xs none) r0 fs K s :=
 ⟨_,_,Ro dM h.1 aN h.2.1,h.2.2⟩
end
theorem FT.gs {P:Program} {gl:Nat→AV} {f:FuncId} {fn:Func} {t:TC} {rs:List RS} (hF:FT P f fn t rs) {args:List AV} {aG aw:List (Nat × Bk)} {m n:Nat} {r:AV} (hN:args.length≤fn.ntmps) (aO:∀ p ∈ aG,p.2.live)
  (h:∀ c:Cx,(∀ p ∈ c.gh,p.1 < m)→c.gl=gl→xw P c t (FX m rs r aw n) ⟨jz 0 args,aG,m⟩):GS P gl f args aG m r aw n:=by
 have hc:=hF.code
 cases hb:fn.body with
 | none=>rw[hb]at hc;simp at hc
 | some code =>
  rw[hb]at hc
  exact Xry hF.mixed hF.func hb hF.name hc hF.res hN aO h
theorem Yai (s:FS) (n0:Nat) (ins:List Nat) (args:List AV) (aG:List (Nat × Bk)) (m:Nat) (r:AV) (aw:List (Nat × Bk)) (n:Nat):kZ s n0 ins args aG m r aw n =
  (Ck (sg ins m n0) s m aG∧idx aG=upto m∧xe ins m n0=true∧Cl s (jC n0 m n)∧Cm n aw∧m≤n∧Qf n r∧ah m args) :=
 propext ⟨fun h=>⟨h.fit,h.dW,h.ins,h.free,h.out,h.le,h.nr,h.na⟩,fun ⟨a,b,c,d,e,f,g,h⟩=>⟨a,b,c,d,e,f,g,h⟩⟩
theorem Xhg (m:Nat) (rs:List RS) (r:AV) (aw:List (Nat × Bk)) (n:Nat) (s:St):FX m rs r aw n .ret s=(Wq s.fs rs∧∃ ρ,qh m ρ n∧Sub (rl ρ) ⟨[(0,ga s.fs rs)],s.h,s.n⟩ ⟨[(0,r)],aw,n⟩):=rfl
theorem Qt5 (m:Nat) (rs:List RS) (r:AV) (aw:List (Nat × Bk)) (n:Nat) (s:St):FX m rs r aw n .normal s=(Wq s.fs rs∧∃ ρ,qh m ρ n∧Sub (rl ρ) ⟨[(0,ga s.fs rs)],s.h,s.n⟩ ⟨[(0,r)],aw,n⟩):=rfl
theorem Qq0 {σ:Type} (m:Nat) (I:σ→Prop) (da:σ→St) (μ:σ→Nat) (x:σ) (Q:EX→St→Prop) (s:St):FC m I da μ x Q .normal s=∃ y,I y∧(∃ ρ,qh m ρ (da y).n∧Sub (rl ρ) s (da y))∧μ y < μ x:=rfl
theorem Qym {σ:Type} (m:Nat) (I:σ→Prop) (da:σ→St) (μ:σ→Nat) (x:σ) (Q:EX→St→Prop) (s:St):FC m I da μ x Q .ret s=Q .ret s:=rfl
theorem Qt7 {σ:Type} (m:Nat) (I:σ→Prop) (da:σ→St) (μ:σ→Nat) (x:σ) (Q:EX→St→Prop) (i:Nat) (s:St):FC m I da μ x Q (.exit i) s=Q (.exit i) s:=rfl
theorem Xgr (m n:Nat):qh m [] n=(m≤n):=propext ⟨fun h=>h.2,fun h=>⟨fun p hp=>(by cases hp),h⟩⟩
theorem Qzs (m i j n:Nat) (r:List (Nat × Nat)):qh m ((i,j)::r) n=(m≤i∧qh m r n):=propext ⟨fun h=>⟨h.1 (i,j) (by simp),fun p hp=>h.1 p (by simp[hp]),h.2⟩,fun h=>⟨fun p hp=>by
 rcases List.mem_cons.1 hp with rfl|hp
 ·exact h.1
 ·exact h.2.1 p hp,h.2.2⟩⟩
theorem Qt8 (σ:Nat→Nat) (cs:List AV):pF σ (.cells cs)=Qx σ (.cells cs):=rfl
theorem Qwu (σ:Nat→Nat) (kvs:List (AV × AV)) (dn:Bool):pF σ (.aC kvs dn)=Qx σ (.aC kvs dn):=rfl
theorem Qus (σ:Nat→Nat):pF σ .dead=.dead:=rfl
attribute [go_sem] Yai la tJ sg Ck Cm Cl jC z8 cZ idx upto xe z7 Xhg Qt5 Qq0 Qym Qt7 Xgr Qzs Qt8 Qwu Qus List.all_cons List.all_nil
def St.ph (s:St) (d es:Nat):St:=(s.nw (.cells [])).put d (.sl es s.n 0 0 0)
def St.xg (s:St):List (Nat × Nat)→St
 | []=>s
 | (d,es)::r=>(s.ph d es).xg r
def F2 (s:St):List (Nat × Nat)→Prop
 | []=>True
 | (d,es)::r=>(s.fs.H s.n=.free∧look s.t d=.nils)∧F2 (s.ph d es) r
section
variable {P:Program} {c:Cx}
theorem R.ph {s:St} {d es:Nat} {g:Nat→GM} {a:Act} {w:World} (hR:R c g s.fs a w) (bq:s.fs.H s.n=.free) (hd:look s.t d=.nils):∃ g',R c g' (s.ph d es).fs a w:=by
 have h1:=R.ng hR bq
 refine ⟨Za g s.n .ph,?_⟩
 have e:(s.ph d es).fs=(s.fs.aK s.n (.cells [])).put d (.sl es s.n 0 0 0):=by
  unfold St.ph;rw[St.bS,St.gW]
 rw[e]
 refine ⟨h1.size,h1.dK,fun i=>?_,h1.gl,h1.h,h1.inj,h1.old,h1.fr,h1.xs,h1.hU⟩
 rw[FS.dh]
 split
 ·rename_i hi
  subst hi
  have:=hR.t d
  have e2:s.fs.T d=.nils:=hd
  rw[e2]at this
  obtain ⟨ad,h⟩:=Fp this
  rw[h]
  exact .kq (by simp[Za]) rfl
 ·exact h1.t i
theorem R.xg:∀ {ps:List (Nat × Nat)} {s:St} {g:Nat→GM} {a:Act} {w:World},R c g s.fs a w→F2 s ps→∃ g',R c g' (s.xg ps).fs a w
 | [],s,g,a,w,hR,_=>⟨g,hR⟩
 | (d,es)::r,s,g,a,w,hR,h=>by
  obtain ⟨g1,h1⟩:=hR.ph (es:=es) h.1.1 h.1.2
  exact R.xg (ps:=r) (s:=s.ph d es) h1 h.2
theorem Xqk {ps:List (Nat × Nat)} {b:TC} {Q:EX→St→Prop} {s:St} (h0:F2 s ps) (h:qg P c b Q (s.xg ps)):qg P c b Q s:=fun code he g a w hR=>by
 obtain ⟨g1,h1⟩:=hR.xg h0
 exact h code he g1 a w h1
end
attribute [go_sem] St.ph St.xg F2
section
variable {P:Program} {c:Cx}
def xh (d:Option Nat) (gd:Option (Nat × Bool)):bp:=⟨jj gd,[],d.toList,[]⟩
theorem Rq {s:St} {d:Option Nat} {k:PK} {xs:List TV} {gd:Option (Nat × Bool)} (hb:gB s.fs gd=some false) (aX:fx s.fs gd):Kv P c (.pd d k xs gd) s.fs (xh d gd) (s.bD d (.dx false .any)).fs:=by
 intro ops io he
 obtain ⟨bc,bg,hd,ys,aH,rfl⟩:=Zl he
 have eV:(s.bD d (.dx false .any)).fs=match d with|some d=>s.fs.put d (.dx false .any)|none=>s.fs:=by
  cases d with
  | none=>rfl
  | some d=>exact St.bS _ _ _
 rw[eV]
 refine ⟨fun i hi=>?_,fun b _=>by cases d<;>rfl,?_⟩
 ·cases d with
  | none=>rfl
  | some d=>show (s.fs.put d _).T i=_;rw[FS.dh,if_neg (fun e=>hi (by simp[xh,e]))]
 ·intro s2 hT hH g a w hR K Q' hK
  have hg:∀ t b,gd=some (t,b)→s2.T t=s.fs.T t:=fun t b e=>hT t (by simp[xh,e,jj])
  have oh:gB s2 gd=gB s.fs gd:=by
   cases gd with
   | none=>rfl
   | some p=>obtain ⟨t,b⟩:=p;simp only[gB,hg t b rfl]
  have om:fx s2 gd:=by
   cases gd with
   | none=>exact aX
   | some p=>obtain ⟨t,b⟩:=p;simpa only[fx,hg t b rfl] using aX
  have lO:K (a.put io.dst undef) w:=by
   rw[bg]
   cases d with
   | none =>
    refine hK g _ w ?_
    have:dj s2 s.fs (xh none gd)=s2:=by unfold dj xh;simp
    simp only[this];exact hR
   | some d =>
    refine hK g _ w ?_
    show R c g (dj s2 (s.fs.put d _) ⟨jj gd,[],[d],[]⟩) _ _
    rw[wW]
    exact hR.put (by simpa using hd) (.dx (fun h=>by cases h) fun _=>rfl)
  unfold me
  rw[vi bc hR om,oh,hb]
  simp only[Option.getD_some,Bool.false_eq_true,if_false]
  exact lO
theorem Yd {r0:List bG} {K:St→Prop} {s:St} {d:Option Nat} {k:PK} {xs:List TV} {gd:Option (Nat × Bool)} (hb:gB s.fs gd=some false) (aX:fx s.fs gd∧XP P c r0 K (s.bD d (.dx false .any))):Xw P c (.pd d k xs gd) r0 K s :=
 .inl ⟨_,_,Rq hb aX.1,aX.2⟩
theorem Xr {anc:List Nat} {fs:List bp} {r0:List bG} {K:St→Prop} {s:St} {d:Option Nat} {k:PK} {xs:List TV} {gd:Option (Nat × Bool)} (hb:gB s.fs gd=some false) (aX:fx s.fs gd∧XD P c anc r0 (xh d gd::fs) K (s.bD d (.dx false .any))):Zi P c anc (.pd d k xs gd) r0 fs K s :=
 ⟨_,_,Rq hb aX.1,aX.2⟩
end
attribute [go_sem] xh
section
variable {P:Program} {c:Cx}
theorem Co {s s':St} {d:Option Nat} {k:PK} {f:FuncId} {xs:List TV} {σ:Nat→Nat} {args:List AV} {aG:List (Nat × Bk)} {m:Nat} {r:AV} {aw:List (Nat × Bk)} {n:Nat} {N:List Nat} (dM:GS P c.gl f args aG m r aw n)
  (iP:∀ (o:Oper) (ys:List Operand),Xy P o=some (k,ys)→xs=ys.map aS→∀ (s2:FS) (g:Nat→GM) (a:Act) (w:World),(∀ i ∈ Xf xs,s2.T i=s.fs.T i)→R c g s2 a w→∃ vs:List Value,(execOp a.eval o).run P w=.ok (.enter f vs.toArray) w∧bO g (Qn c g s2) w (ay σ args) vs)
  (vA:∀ b b',b < n→b' < n→σ b=σ b'→b=b') (hZ:∀ p ∈ aG,p.1 < m∧bP m p.2∧s.fs.H (σ p.1)=Qx σ p.2) (qm:∀ b,b < m→∃ p ∈ aG,p.1=b) (hle:m≤n) (bq:∀ b,m≤b→b < n→s.fs.H (σ b)=.free)
  (lg:∀ p ∈ aw,p.1 < n∧bP n p.2) (KB:Qf n r) (wS:ah m args)
  (vB:∀ b,b < n→σ b ∈ N) (tO:∀ j ∈ N,∃ b,b < n∧σ b=j)
  (mB:∀ i,s'.fs.T i=match d with|some d=>(if d=i then aD σ r else s.fs.T i)|none=>s.fs.T i) (qs:∀ b,b < n→s'.fs.H (σ b)=pF σ (Qc aw n b)) (lb:∀ j,j ∉ N→s'.fs.H j=s.fs.H j):Kv P c (.pd d k xs none) s.fs ⟨Xf xs,N,d.toList,N⟩ s'.fs:=by
 intro ops io he
 obtain ⟨bc,bg,hd,ys,aH,rfl⟩:=Zl he
 refine ⟨fun i hi=>?_,fun j hj=>lb j hj,fun s2 hT hH g a w hR K Q' hK=>Ys (Ka bc) ?_⟩
 ·rw[mB]
  cases d with
  | none=>rfl
  | some d=>simp only[Option.toList_some,List.mem_singleton]at hi;simp only;rw[if_neg fun e=>hi e.symm]
 ·obtain ⟨vs,dL,hv⟩:=iP io ys aH rfl s2 g a w hT hR
  have lf:Fit σ s2 aG m:=by
   refine ⟨fun p hp=>?_,fun p hp q hq e=>vA _ _ (Nat.lt_of_lt_of_le (hZ p hp).1 hle) (Nat.lt_of_lt_of_le (hZ q hq).1 hle) e⟩
   obtain ⟨q1,q2,q3⟩:=hZ p hp
   exact ⟨q1,q2,by rw[hH _ (vB p.1 (Nat.lt_of_lt_of_le q1 hle))];exact q3⟩
  have bV:∀ b,m≤b→b < n→s2.H (σ b)=.free:=fun b h1 h2=>by
   rw[hH _ (vB b h2)];exact bq b h1 h2
  obtain ⟨g1,jB,sj,sk⟩:=FW hR lf
  have nc:=Cn (g1:=g1) jB sk wS hv
  have cO:=dM.2 w _ _ _ g1 sj nc
  unfold Oper.wp
  rw[dL]
  rw[Oper.upon_enter]
  refine cO.mono fun e w' ⟨v,g2,e1,e2,e3,e4⟩=>?_
  subst e1
  let s3:FS:=⟨s2.T,fun j=>if j ∈ N then s'.fs.H j else s2.H j⟩
  have hb:xd σ s2 s3 aw n:=by
   refine ⟨fun i=>rfl,fun b dQ=>?_,fun j hj=>?_⟩
   ·show (if _ then _ else _)=_
    rw[if_pos (vB b dQ),qs b dQ]
   ·show (if _ then _ else _)=_
    rw[if_neg fun h=>?_]
    obtain ⟨b,dQ,rfl⟩:=tO j h
    exact hj b dQ rfl
  obtain ⟨jD,fD⟩:=Rn hR lf qm hle vA bV (fun p hp=>(lg p hp).2) (fun p hp=>(lg p hp).1) jB e3 e2 hb
  have tL:=fD KB e4
  show K (a.put io.dst v) w'
  rw[bg]
  cases d with
  | none =>
   refine hK (Jz g g2 σ n) _ w' ?_
   have:dj s2 s'.fs ⟨Xf (ys.map aS),N,[],N⟩=s3:=by
    refine pD (fun i=>?_) fun j=>rfl
    show (if i ∈ ([]:List Nat) then s'.fs.T i else s2.T i)=s2.T i
    simp
   show R c _ (dj s2 s'.fs ⟨Xf (ys.map aS),N,[],N⟩) _ _
   rw[this];exact jD
  | some d =>
   refine hK (Jz g g2 σ n) _ w' ?_
   have:dj s2 s'.fs ⟨Xf (ys.map aS),N,[d],N⟩=s3.put d (aD σ r):=by
    refine pD (fun i=>?_) fun j=>rfl
    show (if i ∈ [d] then s'.fs.T i else s2.T i)=_
    rw[FS.dh,mB]
    by_cases h:d=i
    ·subst h;simp
    ·rw[if_neg (by simpa using fun e:i=d=>h e.symm),if_neg h]
   show R c _ (dj s2 s'.fs ⟨Xf (ys.map aS),N,[d],N⟩) _ _
   rw[this];exact jD.put (by simpa using hd) tL
theorem Xzy {s:St} {d:Option Nat} {k:PK} {f:FuncId} {xs:List TV} {ins:List Nat} {args:List AV} {aG:List (Nat × Bk)} {m:Nat} {r:AV} {aw:List (Nat × Bk)} {n:Nat} (dM:GS P c.gl f args aG m r aw n)
  (iP:∀ (o:Oper) (ys:List Operand),Xy P o=some (k,ys)→xs=ys.map aS→∀ (s2:FS) (g:Nat→GM) (a:Act) (w:World),(∀ i ∈ Xf xs,s2.T i=s.fs.T i)→R c g s2 a w→∃ vs:List Value,(execOp a.eval o).run P w=.ok (.enter f vs.toArray) w∧bO g (Qn c g s2) w (ay (sg ins m s.n) args) vs)
  (ok:kZ s.fs s.n ins args aG m r aw n):Kv P c (.pd d k xs none) s.fs (tJ s d xs ins m n) (la s d ins m r aw n).fs:=by
 have vA:∀ b b',b < n→b' < n→sg ins m s.n b=sg ins m s.n b'→b=b':=fun b b' _ _ e=>KA ok.ins e
 have hlen:ins.length=m:=by
  have:=ok.ins;simp only[xe,Bool.and_eq_true,beq_iff_eq]at this;exact this.1.1
 -- the names wX are tK
 have fH:∀ b,b < n→sg ins m s.n b ∈ ins++jC s.n m n:=fun b hb=>by
  unfold sg
  split
  ·rename_i h
   refine List.mem_append_left _ ?_
   simp only[List.getD,List.getElem?_eq_getElem (show b < ins.length by omega),Option.getD_some];exact List.getElem_mem _
  ·refine List.mem_append_right _ ?_
   simp only[jC,tI];exact ⟨b - m,by omega,rfl⟩
 have kU:∀ j,j ∈ ins++jC s.n m n→∃ b,b < n∧sg ins m s.n b=j:=fun j hj=>by
  rcases List.mem_append.1 hj with h|h
  ·obtain ⟨i,hi,rfl⟩:=List.getElem_of_mem h
   have:=ok.le
   refine ⟨i,by omega,?_⟩
   unfold sg;rw[if_pos ae];simp[List.getD,hi]
  ·simp only[jC,tI]at h
   obtain ⟨i,hi,rfl⟩:=h
   exact ⟨m + i,by omega,by unfold sg;rw[if_neg ae];omega⟩
 have qq:∀ j,(la s d ins m r aw n).fs.H j=Qc (cZ (sg ins m s.n) aw n n++s.h) (s.n + (n - m)) j:=fun j=>by cases d<;>rfl
 have mB:∀ i,(la s d ins m r aw n).fs.T i=match d with|some d=>(if d=i then aD (sg ins m s.n) r else s.fs.T i)|none=>s.fs.T i:=fun i=>by
  cases d with
  | none=>rfl
  | some d=>show look ((d,_)::s.t) i=_;rw[Yw];rfl
 have qs:∀ b,b < n→Qc (cZ (sg ins m s.n) aw n n++s.h) (s.n + (n - m)) (sg ins m s.n b)=pF (sg ins m s.n) (Qc aw n b):=fun b hb=>by
  rcases F1 (cZ (sg ins m s.n) aw n n) s.h (s.n + (n - m)) (sg ins m s.n b) with ⟨_,p,hp,e1,e2⟩|⟨h1,_⟩
  ·obtain ⟨b',bH,rfl⟩:=xf.1 hp
   have:=vA b' b bH hb e1
   subst this;exact e2
  ·exact (h1 _ (xf.2 ⟨b,hb,rfl⟩) rfl).elim
 have lb:∀ j,j ∉ ins++jC s.n m n→Qc (cZ (sg ins m s.n) aw n n++s.h) (s.n + (n - m)) j=s.fs.H j:=fun j hj=>by
  rcases F1 (cZ (sg ins m s.n) aw n n) s.h (s.n + (n - m)) j with ⟨⟨p,hp,e⟩,_⟩|⟨_,h2⟩
  ·obtain ⟨b,hb,rfl⟩:=xf.1 hp
   exact (hj (e ▸ fH b hb)).elim
  ·rw[h2]
   show Qc s.h (s.n + (n - m)) j=Qc s.h s.n j
   have cd:∀ k,k≤n - m→Qc s.h (s.n + k) j=Qc s.h s.n j:=fun k hk=>by
    induction k with
    | zero=>rfl
    | succ k ih =>
     rw[← ih ae]
     refine Wd s.h (s.n + k) j fun e=>hj ?_
     refine List.mem_append_right _ ?_
     simp only[jC,tI];exact ⟨k,by omega,e.symm⟩
   exact cd _ (Nat.le_refl _)
 exact Co (σ:=sg ins m s.n) (N:=ins++jC s.n m n) dM iP vA (fun p hp=>J5 ok.fit p hp) (fun b hb=>by
  have:=J8.2 hb
  rw[← ok.dW,J7]at this
  obtain ⟨p,hp,e⟩:=List.mem_map.1 this
  exact ⟨p,hp,e⟩) ok.le (fun b h1 h2=>by
  refine J6 ok.free _ ?_
  unfold sg;rw[if_neg ae]
  simp only[jC,tI];exact ⟨b - m,by omega,rfl⟩) (fun p hp=>FZ ok.out p hp) ok.nr ok.na fH kU (fun i=>by rw[mB];cases d<;>rfl) (fun b hb=>by rw[qq];exact qs b hb) (fun j hj=>by rw[qq];exact lb j hj)
theorem Rr {o:Oper} {xs:List Operand} (h:Xy P o=some (.cY,xs)):∃ x ys ts,xs=x::ys∧o.op=.call ⟨.value x,ys.toArray,ts⟩:=by
 unfold Xy at h
 repeat' split at h
 all_goals first
  | (simp only[Option.some.injEq,Prod.mk.injEq,true_and]at h;subst h;rename_i bl;exact ⟨_,_,_,rfl,by rw[bl]⟩)
  | (simp at h;done)
  | (cases h;done)
  | (simp[Option.map_eq_some_iff]at h;done)
theorem Rs {f:FuncId} (hc:zJ P f) {o:Oper} {x:Operand} {ys:List Operand} {ts:Array TypeId} (ho:o.op=.call ⟨.value x,ys.toArray,ts⟩) (a:Act) (w:World) (us:Array Value) (hx:a.eval x=.func (.func f) #[] us) :
  (execOp a.eval o).run P w=.ok (.enter f (ys.map a.eval++us.toList).toArray) w:=by
 have e:(ys.map a.eval++us.toList).toArray=(ys.map a.eval).toArray++us:=Array.ext' au
 rw[e]
 obtain ⟨fn,h1,h2,h3⟩:=hc
 have JJ:fn.body≠none:=fun e=>by rw[e]at h2;cases h2
 have JK : fn.name ≠ "runtime.NumGoroutine" := fun e => by rw [e] at h3; cases h3
 simp[execOp,ho,resolve,hx,Deferred.ofValue,invoke,callFunc,program,Sem.run,h1,JJ,JK]
theorem KC {g:Nat→GM} {W:Nat→Prop} {w:World}:∀ {xs ys:List AV} {us vs:List Value},bO g W w xs us→bO g W w ys vs→bO g W w (xs++ys) (us++vs)
 | [],_,[],_,_,h=>h
 | _::_,_,_::_,_,h,k=>⟨h.1,KC h.2 k⟩
 | [],_,_::_,_,h,_=>h.elim
 | _::_,_,[],_,h,_=>h.elim
theorem KD {g:Nat→GM} {W:Nat→Prop} {w:World}:∀ {xs:List AV} {us:List Value},us.length=xs.length→(∀ j,j < xs.length→VR g W w (xs.getD j .any) (us.getD j undef))→bO g W w xs us
 | [],[],_,_=>trivial
 | x::xs,u::us,hl,h=>⟨by simpa using h 0 au,KD (by simpa using hl) fun j hj=>by simpa using h (j + 1) (by simp;omega)⟩
 | [],_::_,hl,_=>by simp at hl
 | _::_,[],hl,_=>by simp at hl
def tP:List AV→Option (FuncId × List AV)
 | .cl f caps::r=>some (f,r++caps)
 | _=>none
theorem Rt {s:St} {d:Option Nat} {f:FuncId} {xs:List TV} {ins:List Nat} {args:List AV} {aG:List (Nat × Bk)} {m:Nat} {r:AV} {aw:List (Nat × Bk)} {n:Nat} (dM:GS P c.gl f args aG m r aw n) (hc:Qt none (aF c.gl s.fs xs))
  (aN:tP ((aF c.gl s.fs xs).map Qj)=some (f,ay (sg ins m s.n) args)) (ok:kZ s.fs s.n ins args aG m r aw n):Kv P c (.pd d .cY xs none) s.fs (tJ s d xs ins m n) (la s d ins m r aw n).fs:=by
 refine Xzy dM (fun o zs aH oB s2 g a w hT hR=>?_) ok
 obtain ⟨x,ys,ts,rfl,bl⟩:=Rr aH
 subst oB
 have bj:aF c.gl s2 ((x::ys).map aS)=aF c.gl s.fs ((x::ys).map aS):=Xu fun i hi=>hT i hi
 have hv:=Xx (hR.aF (x::ys)) (by rw[bj];exact hc)
 rw[bj]at hv
 generalize (aF c.gl s.fs ((x::ys).map aS)).map Qj=zs at aN hv
 cases zs with
 | nil=>simp[tP]at aN
 | cons z zs =>
  unfold tP at aN
  split at aN
  ·rename_i f' qt r' heq
   simp only[Option.some.injEq,Prod.mk.injEq]at aN
   obtain ⟨rfl,aN⟩:=aN
   simp only[List.cons.injEq]at heq
   obtain ⟨rfl,rfl⟩:=heq
   rw[List.map_cons]at hv
   obtain ⟨h1,h2⟩:=hv
   generalize hx:a.eval x=vx at h1
   cases h1 with
   | cl hs h =>
    refine ⟨_,Rs dM.1 bl a w _ hx,?_⟩
    rw[← aN]
    have:=KC h2 (KD (xs:=qt) (us:=Array.toList _) (by simpa using hs) fun j hj=>by
     have:=h j hj
     simpa [Array.getD_eq_getD_getElem?,List.getD] using this)
    exact this
  ·cases aN
theorem tQ {r0:List bG} {K:St→Prop} {s:St} {d:Option Nat} {f:FuncId} {xs:List TV} {ins:List Nat} {args:List AV} {aG:List (Nat × Bk)} {m:Nat} {r:AV} {aw:List (Nat × Bk)} {n:Nat} (dM:GS P c.gl f args aG m r aw n)
  (aN:tP ((aF c.gl s.fs xs).map Qj)=some (f,ay (sg ins m s.n) args)) (h:Qt none (aF c.gl s.fs xs)∧kZ s.fs s.n ins args aG m r aw n∧XP P c r0 K (la s d ins m r aw n)):Xw P c (.pd d .cY xs none) r0 K s :=
 .inl ⟨_,_,Rt dM h.1 aN h.2.1,h.2.2⟩
theorem tS {anc:List Nat} {fs:List bp} {r0:List bG} {K:St→Prop} {s:St} {d:Option Nat} {f:FuncId} {xs:List TV} {ins:List Nat} {args:List AV} {aG:List (Nat × Bk)} {m:Nat} {r:AV} {aw:List (Nat × Bk)} {n:Nat} (dM:GS P c.gl f args aG m r aw n)
  (aN:tP ((aF c.gl s.fs xs).map Qj)=some (f,ay (sg ins m s.n) args)) (h:Qt none (aF c.gl s.fs xs)∧kZ s.fs s.n ins args aG m r aw n∧XD P c anc r0 (tJ s d xs ins m n::fs) K (la s d ins m r aw n)):Zi P c anc (.pd d .cY xs none) r0 fs K s :=
 ⟨_,_,Rt dM h.1 aN h.2.1,h.2.2⟩
theorem Ru {N:Nat} {ops:Array Oper} {io:Oper} {d:Option Nat} {k:PK} {xs:List TV} {gd:Option (Nat × Bool)} (h:Uc P N ops io=some (.pd d k xs gd)):Uc P N ops { io with guard:=none }=some (.pd d k xs none):=by
 have kL:mc ops { io with guard:=none }=some none:=rfl
 have hq:tm P { io with guard:=none }=tm P io:=rfl
 have hp:Xy P { io with guard:=none }=Xy P io:=rfl
 unfold Uc at h ⊢
 rw[kL,hq,hp]
 split at h
 ·cases h
 ·rename_i BT hg
  dsimp only
  split at h
  ·split at h
   ·split at h<;>simp at h
   ·cases h
  ·split at h<;>simp at h
  ·split at h<;>simp at h
  ·rename_i n1 n2 n3
   have rest:∀ {α:Type} (x:α),x=x:=fun _=>rfl
   split at h
   ·split at h<;>simp at h
   ·rename_i n4
    split at h
    ·rename_i k' ys hk
     split at h
     ·rename_i hd
      simp only[Option.some.injEq,bG.pd.injEq]at h
      obtain ⟨rfl,rfl,rfl,rfl⟩:=h
      split
      all_goals first
       | (exfalso;apply n1<;>assumption)
       | (exfalso;apply n2<;>assumption)
       | (exfalso;apply n3<;>assumption)
       | (exfalso;apply n4<;>assumption)
       | rfl
       | (exfalso;contradiction)
     ·cases h
    ·cases h
theorem Cp {s:FS} {s':FS} {d:Option Nat} {k:PK} {xs:List TV} {gd:Option (Nat × Bool)} {F:bp} (hb:gB s gd=some true) (aX:fx s gd) (h:Kv P c (.pd d k xs none) s F s'):Kv P c (.pd d k xs gd) s ⟨jj gd++F.rt,F.rb,F.wt,F.wb⟩ s':=by
 intro ops io he
 obtain ⟨bc,bg,hd,ys,aH,rfl⟩:=Zl he
 obtain ⟨h1,h2,h3⟩:=h ops _ (Ru he)
 refine ⟨h1,h2,fun s2 hT hH g a w hR K Q' hK=>?_⟩
 have hg:∀ t b,gd=some (t,b)→s2.T t=s.T t:=fun t b e=>hT t (by simp[e,jj])
 have oh:gB s2 gd=gB s gd:=by
  cases gd with
  | none=>rfl
  | some p=>obtain ⟨t,b⟩:=p;simp only[gB,hg t b rfl]
 have om:fx s2 gd:=by
  cases gd with
  | none=>exact aX
  | some p=>obtain ⟨t,b⟩:=p;simpa only[fx,hg t b rfl] using aX
 have h4:=h3 s2 (fun i hi=>hT i (by simp[hi])) hH g a w hR K Q' hK
 unfold me at h4 ⊢
 rw[vi bc hR om,oh,hb]
 rw[Fw rfl,if_pos rfl]at h4
 rw[Option.getD_some,if_pos rfl]
 exact h4
theorem vC {r0:List bG} {K:St→Prop} {s:St} {d:Option Nat} {k:PK} {xs:List TV} {gd:Option (Nat × Bool)} (hb:gB s.fs gd=some true) (aX:fx s.fs gd) (h:Xw P c (.pd d k xs none) r0 K s):Xw P c (.pd d k xs gd) r0 K s:=by
 rcases h with ⟨F,s',h1,h2⟩|h
 ·exact .inl ⟨_,s',Cp hb aX h1,h2⟩
 ·refine .inr fun ops io he g a w hR K' Q' hK=>?_
  obtain ⟨bc,bg,hd,ys,aH,rfl⟩:=Zl he
  have h4:=h ops _ (Ru he) g a w hR K' Q' hK
  unfold me at h4 ⊢
  rw[vi bc hR aX,hb]
  rw[Fw rfl,if_pos rfl]at h4
  rw[Option.getD_some,if_pos rfl]
  exact h4
end
theorem Xib (f:FuncId) (caps r:List AV):tP (.cl f caps::r)=some (f,r++caps):=rfl
attribute [go_sem] Xib
section
variable {P:Program} {c:Cx}
theorem z1 {o:bG} {r:List bG} {K:St→Prop} {s:St} (h:Xw P c o r K s):Xw P c o r K s:=h
theorem z2 {t:TC} {Q:EX→St→Prop} {s:St} (h:xw P c t Q s):xw P c t Q s:=h
theorem z3 {anc:List Nat} {o:bG} {r:List bG} {fs:List bp} {K:St→Prop} {s:St} (h:Zi P c anc o r fs K s):Zi P c anc o r fs K s:=h
end
attribute [go_sem] if_true if_false List.length_replicate List.length_take List.length_drop List.length_set List.length_cons List.length_nil decide_true decide_false bne_self_eq_false beq_self_eq_true
def tT (n:Nat):Nat:=n
theorem aJ:tT 1=1:=rfl
theorem bm:tT 2=2:=rfl
theorem bL:tT 3=3:=rfl
theorem cf:tT 4=4:=rfl
theorem cF:tT 5=5:=rfl
theorem dp:tT 6=6:=rfl
theorem fc:tT 7=7:=rfl
theorem jn:tT 8=8:=rfl
theorem sm:tT 9=9:=rfl
class Main (p:Prop):Prop where
 it:True
instance {P:Program} {c:Cx} {o:bG} {r:List bG} {K:St→Prop} {s:St}:Main (Xw P c o r K s):=⟨trivial⟩
instance {P:Program} {c:Cx} {t:TC} {Q:EX→St→Prop} {s:St}:Main (xw P c t Q s):=⟨trivial⟩
instance {P:Program} {c:Cx} {anc:List Nat} {o:bG} {r:List bG} {fs:List bp} {K:St→Prop} {s:St}:Main (Zi P c anc o r fs K s):=⟨trivial⟩
instance {P:Program} {c:Cx} {b:TC} {Q:EX→St→Prop} {s:St}:Main (qg P c b Q s):=⟨trivial⟩
theorem zm {p:Prop} [Main p] (h:p):p:=h
theorem XG {p q:Prop} (k:q) (h:p=q:=by (conv=>lhs;simp (disch:=first|omega|(simp only[go_sem]<;>omega)|fail) only[go_sem,↓reduceIte,Nat.reduceBEq,Nat.reduceAdd,Nat.reduceMul,Nat.reduceSub,Nat.reduceLT,Nat.reduceLeDiff,Nat.reduceEqDiff,Int.reduceToNat,Int.reduceBEq,Int.reduceBNe,Int.reduceLT,Int.reduceLE,Int.reduceEq,aJ,bm,bL,cf,cF,dp,fc,jn,sm])):p:=h.mpr k
theorem XM {p q:Prop} (k:q) (h:p=q:=by (conv=>lhs;simp (disch:=first|omega|(simp only[go_sem]<;>omega)|fail) only[go_sem,↓reduceIte,Nat.reduceBEq,Nat.reduceAdd,Nat.reduceMul,Nat.reduceSub,Nat.reduceLT,Nat.reduceLeDiff,Nat.reduceEqDiff,Int.reduceToNat,Int.reduceBEq,Int.reduceBNe,Int.reduceLT,Int.reduceLE,Int.reduceEq,Int.reduceMul,Int.reduceAdd,Int.reduceSub,aJ,bm,bL,cf,cF,dp,fc,jn,sm])):p:=h.mpr k
theorem CL {p:Prop} (h:p:=by (first|exact True.intro|omega|(show Us _ _ _=true;decide +kernel)|(refine fun _=>?_;simp_all;done)|fail)):p:=h
theorem Qa {P:Program} {c:Cx} {Q:EX→St→Prop} {s:St} {x:TV} {a b:TC} {t:Bool} {A B:Prop} (ht:A→xw P c a Q s) (hf:B→xw P c b Q s)
  (h:aZ c.gl s.fs x=.bool t:=by (refine XG ?_;first|exact rfl|exact True.intro|fail))
  (hA:(t=true)=A:=by (conv=>lhs;(try simp only[decide_eq_true_eq,decide_eq_false_iff_not,Bool.or_eq_true,Bool.and_eq_true,Bool.not_eq_true',Bool.or_eq_false_iff,Bool.and_eq_false_iff,Bool.not_eq_false',beq_iff_eq,bne_iff_ne,ne_eq,beq_eq_false_iff_ne,bne_eq_false_iff_eq,Bool.true_eq_false,Bool.false_eq_true,Decidable.not_not])))
  (hB:(t=false)=B:=by (conv=>lhs;(try simp only[decide_eq_true_eq,decide_eq_false_iff_not,Bool.or_eq_true,Bool.and_eq_true,Bool.not_eq_true',Bool.or_eq_false_iff,Bool.and_eq_false_iff,Bool.not_eq_false',beq_iff_eq,bne_iff_ne,ne_eq,beq_eq_false_iff_ne,bne_eq_false_iff_eq,Bool.true_eq_false,Bool.false_eq_true,Decidable.not_not]))):xw P c (.cond x a b) Q s :=
 Yep h (fun e=>ht (hA.mp e)) (fun e=>hf (hB.mp e))
structure fm (q:Prop):Prop where
 it:q
def nn (_:List Nat):Prop:=True
theorem ip (l:List Nat):nn l:=trivial
theorem An {p q:Prop} (a:p) (b:q):p∧q:=⟨a,b⟩
@[reducible] def mC {l:List Nat} (_:nn l):List Nat:=l
theorem Qe {p q:Prop} (k:q) (h:fm q→p:=by (intro zk;(refine XG ?_;(try (repeat' with_reducible refine And.intro ?_ ?_));(try any_goals (first|refine zm ?_|exact CL|fail)));exact zk.it)):p:=h ⟨k⟩
theorem Qr {p:Prop} (h:p:=by ((refine XG ?_;(try (repeat' with_reducible refine And.intro ?_ ?_));(try any_goals (first|refine zm ?_|exact CL|fail))))):p:=h
theorem Zq {FP:Prop} {p q:Prop} (fp:FP) (k:q) (h:FP→fm q→p:=by (intro zp zk;((first|apply Ym|apply Ya|apply Xn|apply Xj)<;>(first|exact zp|(refine XG ?_;first|exact rfl|exact True.intro|((try (repeat' with_reducible refine And.intro ?_ ?_));(try any_goals (first|refine zm ?_|exact CL|fail))))));exact zk.it)):p:=h fp ⟨k⟩
theorem Rv {FP:Prop} {p:Prop} (fp:FP) (h:FP→p:=by (intro zp;((first|apply Ym|apply Ya|apply Xn|apply Xj)<;>(first|exact zp|(refine XG ?_;first|exact rfl|exact True.intro|((try (repeat' with_reducible refine And.intro ?_ ?_));(try any_goals (first|refine zm ?_|exact CL|fail)))))))):p:=h fp
theorem Ja {p q:Prop} (k:q) (h:fm q→p:=by (intro zk;((first|apply zU|apply zV|apply zW|apply zX|apply zY|apply zZ);refine XG ?_;(try (repeat' with_reducible refine And.intro ?_ ?_));(try any_goals (first|refine zm ?_|exact CL|fail)));exact zk.it)):p:=h ⟨k⟩
theorem Yfk {p:Prop} (h:p:=by (((first|apply zU|apply zV|apply zW|apply zX|apply zY|apply zZ);refine XG ?_;(try (repeat' with_reducible refine And.intro ?_ ?_));(try any_goals (first|refine zm ?_|exact CL|fail))))):p:=h
theorem so {li:List Nat} {FP:Prop} {p q:Prop} (fi:nn li) (fp:FP) (k:q) (h:nn li→FP→fm q→p:=by (intro zi zp zk;((first|refine tM (ins:=mC zi) zp ?_ ?_|refine tN (ins:=mC zi) zp ?_ ?_|refine tQ (ins:=mC zi) zp ?_ ?_|refine tS (ins:=mC zi) zp ?_ ?_)<;>(dsimp only[mC];refine XG ?_;(try first|exact rfl|exact True.intro);(try (repeat' with_reducible refine And.intro ?_ ?_));(try any_goals (first|refine zm ?_|exact CL|fail))));exact zk.it)):p:=h fi fp ⟨k⟩
theorem Yg0 {li:List Nat} {FP:Prop} {p:Prop} (fi:nn li) (fp:FP) (h:nn li→FP→p:=by (intro zi zp;((first|refine tM (ins:=mC zi) zp ?_ ?_|refine tN (ins:=mC zi) zp ?_ ?_|refine tQ (ins:=mC zi) zp ?_ ?_|refine tS (ins:=mC zi) zp ?_ ?_)<;>(dsimp only[mC];refine XG ?_;(try first|exact rfl|exact True.intro);(try (repeat' with_reducible refine And.intro ?_ ?_));(try any_goals (first|refine zm ?_|exact CL|fail)))))):p:=h fi fp
theorem Uo {p q:Prop} (k:q) (h:fm q→p:=by (intro zk;(refine XM ?_;(try (repeat' with_reducible refine And.intro ?_ ?_));(try any_goals (first|refine zm ?_|exact CL|fail)));exact zk.it)):p:=h ⟨k⟩
theorem Yfx {p:Prop} (h:p:=by ((refine XM ?_;(try (repeat' with_reducible refine And.intro ?_ ?_));(try any_goals (first|refine zm ?_|exact CL|fail))))):p:=h
theorem oC {FP:Prop} {p q:Prop} (fp:FP) (k:q) (h:FP→fm q→p:=by (intro zp zk;((first|apply Ym|apply Ya|apply Xn|apply Xj)<;>(first|exact zp|(refine XM ?_;first|exact rfl|exact True.intro|((try (repeat' with_reducible refine And.intro ?_ ?_));(try any_goals (first|refine zm ?_|exact CL|fail))))));exact zk.it)):p:=h fp ⟨k⟩
theorem Qh {F:Prop} {p q:Prop} (f:F) (k:q) (h:F→fm q→p:=by (intro aJ zk;exact Qe zk.it)):p:=h f ⟨k⟩
theorem Qq {F:Prop} {p:Prop} (f:F) (h:F→p:=by (intro aJ;exact Qr )):p:=h f
theorem Qv {FP:Prop} {F:Prop} {p q:Prop} (fp:FP) (f:F) (k:q) (h:FP→F→fm q→p:=by (intro zp aJ zk;exact Zq zp zk.it)):p:=h fp f ⟨k⟩
theorem Aa {FP:Prop} {F:Prop} {p:Prop} (fp:FP) (f:F) (h:FP→F→p:=by (intro zp aJ;exact Rv zp)):p:=h fp f
theorem Zj {F:Prop} {p q:Prop} (f:F) (k:q) (h:F→fm q→p:=by (intro aJ zk;exact Ja zk.it)):p:=h f ⟨k⟩
theorem Yfn {F:Prop} {p:Prop} (f:F) (h:F→p:=by (intro aJ;exact Yfk )):p:=h f
theorem Xm {li:List Nat} {FP:Prop} {F:Prop} {p q:Prop} (fi:nn li) (fp:FP) (f:F) (k:q) (h:nn li→FP→F→fm q→p:=by (intro zi zp aJ zk;exact so zi zp zk.it)):p:=h fi fp f ⟨k⟩
theorem Jv {li:List Nat} {FP:Prop} {F:Prop} {p:Prop} (fi:nn li) (fp:FP) (f:F) (h:nn li→FP→F→p:=by (intro zi zp aJ;exact Yg0 zi zp)):p:=h fi fp f
theorem Zp {F:Prop} {p q:Prop} (f:F) (k:q) (h:F→fm q→p:=by (intro aJ zk;exact Uo zk.it)):p:=h f ⟨k⟩
theorem kv {F:Prop} {p:Prop} (f:F) (h:F→p:=by (intro aJ;exact Yfx )):p:=h f
theorem Ab {FP:Prop} {F:Prop} {p q:Prop} (fp:FP) (f:F) (k:q) (h:FP→F→fm q→p:=by (intro zp aJ zk;exact oC zp zk.it)):p:=h fp f ⟨k⟩
theorem Yfl {li:List Nat} {FP:Prop} {p q r:Prop} (fi:nn li) (fp:FP) (k:q) (l:r) (h:nn li→FP→fm q→fm r→p:=by (intro zi zp zk zl;((first|refine tM (ins:=mC zi) zp ?_ ?_|refine tN (ins:=mC zi) zp ?_ ?_|refine tQ (ins:=mC zi) zp ?_ ?_|refine tS (ins:=mC zi) zp ?_ ?_)<;>(dsimp only[mC];refine XM ?_;(try first|exact rfl|exact True.intro);((try (repeat' with_reducible refine And.intro ?_ ?_));(try any_goals (first|refine zm ?_|exact CL|fail)))));exact zk.it;exact zl.it)):p:=h fi fp ⟨k⟩ ⟨l⟩
theorem Zy {li:List Nat} {FP:Prop} {F:Prop} {p q r:Prop} (fi:nn li) (fp:FP) (f:F) (k:q) (l:r) (h:nn li→FP→F→fm q→fm r→p:=by (intro zi zp aJ zk zl;exact Yfl zi zp zk.it zl.it)):p:=h fi fp f ⟨k⟩ ⟨l⟩
theorem Rw:FT Tryz.prog 135 Tryz.f135 (aQ Tryz.prog Tryz.f135) [.t 4,.t 5]:=.of Tryz.func135
theorem Rx:FT Tryz.prog 83 Tryz.f83 (aQ Tryz.prog Tryz.f83) [.t 2,.t 3]:=.of Tryz.func83
theorem Xi5:FT Tryz.prog 85 Tryz.f85 (aQ Tryz.prog Tryz.f85) [.t 2]:=.of Tryz.func85
theorem F3:FT Tryz.prog 122 Tryz.f122 (aQ Tryz.prog Tryz.f122) [.t 6]:=.of Tryz.func122
theorem Xfa:FT Tryz.prog 123 Tryz.f123 (aQ Tryz.prog Tryz.f123) [.t 8,.t 9]:=.of Tryz.func123
structure Cq where
 k:Nat
 l:List UInt8
theorem We (gl:Nat→AV) (l:List UInt8) (v:Int) (n:Nat) (hn:n≤8) (hl:l.length≤100000000) :
  GS Tryz.prog gl 122 [.sl 1 0 0 l.length l.length,.int .i64 v,.int .i64 n] [(0,.cells (Xg l))] 1 (.sl 1 1 0 (l.length + n) (l.length + n)) [(1,.cells (Xg (l++be v n)))] 2:=by
 refine F3.gs (of_decide_eq_true rfl) (by simp[Bk.live]) fun c aY hg=>?_
 conv in aQ _ _=>cbv
 refine Qe ?_
 refine Ui (fun x:Cq=>x.k≤n∧x.l++be v x.k=l++be v n) (fun x=>⟨[(0,.sl 1 1 0 x.l.length x.l.length),(1,.int .i64 v),(7,.int .i64 ((x.k:Int) - 1))],[(1,.cells (Xg x.l))],2⟩) (fun x=>x.k) F3.mixed 1 aY
  ⟨⟨n,l⟩,⟨Nat.le_refl _,rfl⟩,[(1,0)],by exact Qr⟩ fun ⟨k,l'⟩ ⟨hk,he⟩=>?_
 dsimp only at hk he
 refine Qe ?_
 have iy:l'.length + k=l.length + n:=by
  have:=congrArg List.length he
  simpa [Qp] using this
 (refine Qa (fun h1=>?_) (fun h1=>?_)<;>try exact h1.elim)
 ·obtain ⟨k,rfl⟩:∃ j,k=j + 1:=⟨k - 1,by omega⟩
  have e1:(((k + 1:Nat):Int) - 1)=k:=by omega
  rw[e1]at h1 ⊢
  refine Qe ?_
  refine Ja ?_
  refine Ja ?_
  refine ⟨⟨k,l'++[Qg v k]⟩,⟨by dsimp only;omega,?_⟩,⟨[(1,3)],?_⟩,by dsimp only;omega⟩
  ·simpa [be] using he
  ·refine Qe ?_
   rfl
 ·have gX:k=0:=by omega
  subst gX
  simp only[be,List.append_nil]at he
  subst he
  refine Qe ?_
  refine ⟨[],?_⟩
  exact Qq @Qp
structure Cr where
 k:Nat
 l:Option (List UInt8)
theorem Ry (gl:Nat→AV) (v:Int) (n:Nat) (hn:n≤8) (h0:0 < n) :
  GS Tryz.prog gl 122 [.nils,.int .i64 v,.int .i64 n] [] 0 (.sl 1 0 0 n n) [(0,.cells (Xg (be v n)))] 1:=by
 refine F3.gs (of_decide_eq_true rfl) au fun c aY hg=>?_
 conv in aQ _ _=>cbv
 refine Qe ?_
 refine Ui (fun x:Cr=>x.k≤n∧(x.l.getD [])++be v x.k=be v n∧(x.l=none→x.k=n)) (fun x=>match x.l with|none=>⟨[(0,.nils),(1,.int .i64 v),(7,.int .i64 ((x.k:Int) - 1))],[],0⟩|some l=>⟨[(0,.sl 1 0 0 l.length l.length),(1,.int .i64 v),(7,.int .i64 ((x.k:Int) - 1))],[(0,.cells (Xg l))],1⟩) (fun x=>x.k) F3.mixed 0 aY
  ⟨⟨n,none⟩,⟨Nat.le_refl _,rfl,fun _=>rfl⟩,[],by exact Qr⟩ fun ⟨k,o⟩ ⟨hk,he,cd⟩=>?_
 cases o with
 | none =>
  dsimp only at hk he cd
  obtain rfl:=cd rfl
  refine Qe ?_
  (refine Qa (fun h1=>?_) (fun h1=>?_)<;>try exact h1.elim)
  ·obtain ⟨k,rfl⟩:∃ j,k=j + 1:=⟨k - 1,by omega⟩
   have e1:(((k + 1:Nat):Int) - 1)=k:=by omega
   rw[e1]at h1 ⊢
   refine Qe ?_
   refine Ja ?_
   refine Ja ?_
   refine ⟨⟨k,some [Qg v k]⟩,⟨by dsimp only;omega,?_,fun h=>by cases h⟩,⟨[(0,1)],?_⟩,by dsimp only;omega⟩
   ·simp[be]
   ·refine Qe ?_
    exact J4 [] _ []
  ·omega
 | some l' =>
  dsimp only[Option.getD_some]at hk he cd
  have iy:l'.length + k=n:=by
   have:=congrArg List.length he
   simpa [Qp] using this
  refine Qe ?_
  (refine Qa (fun h1=>?_) (fun h1=>?_)<;>try exact h1.elim)
  ·obtain ⟨k,rfl⟩:∃ j,k=j + 1:=⟨k - 1,by omega⟩
   have e1:(((k + 1:Nat):Int) - 1)=k:=by omega
   rw[e1]at h1 ⊢
   refine Qe ?_
   refine Ja ?_
   refine Ja ?_
   refine ⟨⟨k,some (l'++[Qg v k])⟩,⟨by dsimp only;omega,?_,fun h=>by cases h⟩,⟨[(0,2)],?_⟩,by dsimp only;omega⟩
   ·simpa [be] using he
   ·refine Qe ?_
    rfl
  ·have gX:k=0:=by omega
   subst gX
   simp only[be,List.append_nil]at he
   subst he
   refine Qe ?_
   refine ⟨[],?_⟩
   exact Qq @Qp
def Zk (t s a b:Int):Bool:=decide (0≤t) && decide (t≤1099511627776) && decide (0≤s) && decide (s < 8) && decide (0≤a) && decide (a < 3) && decide (0≤b) && decide (b < 6)
def qu (t s a b:Int):Int:=if Zk t s a b=true then 0 else 2
theorem KE (gl:Nat→AV) (t s a b:Int) (f:Bool):PS Tryz.prog gl 85 [.agg [.int .i64 t,.int .i64 s,.int .i64 a,.int .i64 b,.bool f]] (.int .i64 (qu t s a b)):=by
 refine Xi5.ps (of_decide_eq_true rfl) (by simp[Qf]) fun c hN hg=>?_
 conv in aQ _ _=>cbv
 refine Qe ?_
 (repeat' (first|((refine Qa (fun hh=>?_) (fun hh=>?_)<;>try exact hh.elim)<;>refine Qe ?_) ))
 ·unfold qu Zk;rw[if_neg];simp;omega
 ·unfold qu Zk;rw[if_pos];simp;omega
def Yi (seq time set:Int) (bs:List UInt8):List UInt8:=be 10 2++be (20 + bs.length) 2++be (time.tmod 4294967296) 4++be seq 4++be 1 4++be set 2++be (4 + bs.length) 2++bs
def kx (seq time set:Int) (bs:List UInt8):AV:=if 0≤seq∧seq < 4294967296 then .aU [.str (Yi seq time set bs),.int .i64 0] else .aU [.str [],.int .i64 2]
theorem Rz (gl:Nat→AV) (seq time set:Int) (bs:List UInt8) (hl:bs.length≤10000000):PS Tryz.prog gl 123 [.int .i64 seq,.int .i64 time,.int .i64 set,.isl bs.length (Xg bs)] (kx seq time set bs):=by
 refine Xfa.ps (of_decide_eq_true rfl) (by unfold kx;split<;>simp[Qf,ah]) fun c hN hg=>?_
 conv in aQ _ _=>cbv
 refine Qe ?_
 (refine Qa (fun h1=>?_) (fun h1=>?_)<;>try exact h1.elim)
 ·refine Qe ?_
  unfold kx;rw[if_neg ae]
 ·refine Qe ?_
  (have zC:=(Ry c.gl 10 2 aI aI);refine Xm (ip []) zC @Qp ?_;clear zC)
  (have zC:=(We c.gl (be 10 2) (20 + bs.length) 2 aI (by simp[Qp]));refine Xm (ip [0]) zC @Qp ?_;clear zC)
  (have zC:=(We c.gl (be 10 2++be (20 + bs.length) 2) (time.tmod 4294967296) 4 aI (by simp[Qp]));refine Xm (ip [1]) zC @Qp ?_;clear zC)
  (have zC:=(We c.gl (be 10 2++be (20 + bs.length) 2++be (time.tmod 4294967296) 4) seq 4 aI (by simp[Qp]));refine Xm (ip [2]) zC @Qp ?_;clear zC)
  (have zC:=(We c.gl (be 10 2++be (20 + bs.length) 2++be (time.tmod 4294967296) 4++be seq 4) 1 4 aI (by simp[Qp]));refine Xm (ip [3]) zC @Qp ?_;clear zC)
  (have zC:=(We c.gl (be 10 2++be (20 + bs.length) 2++be (time.tmod 4294967296) 4++be seq 4++be 1 4) set 2 aI (by simp[Qp]));refine Xm (ip [4]) zC @Qp ?_;clear zC)
  (have zC:=(We c.gl (be 10 2++be (20 + bs.length) 2++be (time.tmod 4294967296) 4++be seq 4++be 1 4++be set 2) (4 + bs.length) 2 aI (by simp[Qp]));refine Xm (ip [5]) zC @Qp ?_;clear zC)
  refine Zj @Qp ?_
  unfold kx Yi
  rw[if_pos ae,List.take_of_length_le (by simp[Qp])]
def Xs:List Int:=[323,8,8,4,225,4,361,2,362,2,230,1]
def Wh (k:Nat):List UInt8:=be 300 2++be 6 2++(Xs.take (2 * k)).flatMap fun f=>be f 2
theorem Cs:∀ k,k≤6→(Wh k).length=4 + 4 * k:=by decide +kernel
theorem Xjz:∀ k,k < 6→Wh k++be (Xs.getD (2 * k) 0) 2++be (Xs.getD (2 * k + 1) 0) 2=Wh (k + 1):=by decide +kernel
theorem RA (gl:Nat→AV) (h0:gl 0=.xp (Qo Xs) 0) (seq:Int):PS Tryz.prog gl 83 [.int .i64 seq] (kx seq 0 2 (Wh 6)):=by
 refine Rx.ps (of_decide_eq_true rfl) (by unfold kx;split<;>simp[Qf,ah]) fun c hN hg=>?_
 conv in aQ _ _=>cbv
 have kL:c.gl 0=.xp (Qo Xs) 0:=by rw[hg];exact h0
 have hf:Xs.length=12:=rfl
 refine Qe ?_
 (have zC:=(Ry c.gl 300 2 aI aI);refine Xm (ip []) zC @Qp ?_;clear zC)
 (have zC:=(We c.gl (be 300 2) 6 2 aI (by simp[Qp]));refine Xm (ip [0]) zC (An @Qp (An @kL @hf)) ?_;clear zC)
 refine Xd (fun k:Nat=>k≤6) (fun k=>⟨[(0,.int .i64 seq),(4,.sl 1 0 0 (4 + 4 * k) (4 + 4 * k)),(10,.agg (Qo Xs)),(11,.int .i64 k)],[(0,.cells (Xg (Wh k)))],1⟩) (fun k=>6 - k) Rx.mixed hN
  ⟨0,by omega,[(0,1)],by refine Qe ?_;rfl⟩ fun k hk=>?_
 refine Qe ?_
 (refine Qa (fun h1=>?_) (fun h1=>?_)<;>try exact h1.elim)
 ·have np:k < 6:=by omega
  have hl:=Cs k hk
  have hs:=Xjz k np
  have hl2:(Wh k).length≤100000000:=by omega
  have e3:k * 2=2 * k:=by omega
  refine Qh @hf ?_
  (have zC:=(We c.gl (Wh k) (Xs.getD (2 * k) 0) 2 aI hl2);refine Xm (ip [0]) zC (An @Qp (An @hf (An @hl @e3))) ?_;clear zC)
  (have zC:=(We c.gl (Wh k++be (Xs.getD (2 * k) 0) 2) (Xs.getD (2 * k + 1) 0) 2 aI (by simp[Qp];omega));refine Xm (ip [2]) zC (An @Qp (An @hf (An @hl @e3))) ?_;clear zC)
  refine ⟨k + 1,by omega,⟨[(0,3)],?_⟩,by omega⟩
  exact Qq @hs
 ·have:k=6:=by omega
  subst this
  have KF:(Wh 6).length=28:=Cs 6 ae
  have hm:=Rz c.gl seq 0 2 (Wh 6) ae
  rw[KF]at hm
  by_cases hq:0≤seq∧seq < 4294967296
  ·have e:kx seq 0 2 (Wh 6)=.aU [.str (Yi seq 0 2 (Wh 6)),.int .i64 0]:=if_pos hq
   rw[e]at hm ⊢
   refine Qe ?_
   ((first|apply Kz|apply Jx)<;>(first|exact hm|(with_reducible exact .aU (by simp[Jo.str,Jo.int]))|(have aJ:=@KF;refine XG ?_;clear aJ;first|exact rfl|exact True.intro|((try (repeat' with_reducible refine And.intro ?_ ?_));(try any_goals (first|refine zm ?_|exact CL|fail))))))
  ·have e:kx seq 0 2 (Wh 6)=.aU [.str [],.int .i64 2]:=if_neg hq
   rw[e]at hm ⊢
   refine Qe ?_
   ((first|apply Kz|apply Jx)<;>(first|exact hm|(with_reducible exact .aU (by simp[Jo.str,Jo.int]))|(have aJ:=@KF;refine XG ?_;clear aJ;first|exact rfl|exact True.intro|((try (repeat' with_reducible refine And.intro ?_ ?_));(try any_goals (first|refine zm ?_|exact CL|fail))))))
end Go.Proofs.YtogckmommodmhaaGreatDoor
namespace Go.Proofs.YtogckmommodmhaaGreatDoor
open Go.ChangeShapes Go.WideShapes Go.ChangeAt Go.WideMaps Go.WideElems Go.RowKit
open Go.RowKit
set_option linter.all false
set_option linter.unusedSimpArgs false
set_option maxRecDepth 100000
noncomputable def tU : List (String × DataW Unit) := [("rentroll/record.fields", Rows.laid_rentroll_record_fields)]
theorem Xzk : Tryz.prog.globalNamed "rentroll/record.fields" = some 0 := by kernel_rfl
theorem Yax:(Tryz.prog.globals[0]?).map (·.type)=some 156:=by kernel_rfl
theorem uF6:Tryz.prog.underlying 156=some (.array 6 155):=by kernel_rfl
theorem uF2:Tryz.prog.underlying 155=some (.array 2 3):=by kernel_rfl
theorem cF2:Tryz.prog.cellsOf 155=2:=by kernel_rfl
theorem cF1:Tryz.prog.cellsOf 3=1:=by kernel_rfl
theorem cF6:Tryz.prog.cellsOf 156=12:=by kernel_rfl
def RB:List (Int × Int):=[(323,8),(8,4),(225,4),(361,2),(362,2),(230,1)]
theorem Ybi:(Rows.laid_rentroll_record_fields:DataW Unit)=.agg (RB.map fun p=>.agg [.lit (.int .i64 p.1),.lit (.int .i64 p.2)]):=rfl
theorem RC (os:Os) (args:Array Value):laidMetH Tryz.prog tU ((World.doorLaid Tryz.prog 400 os).forCall (fun _ _=>0) ⟨#[],args,[]⟩).memory :=
 laidMetH_of_parts3 (fuel:=8) (laidMet_of_run' 8 (by kernel_rfl) (by kernel_rfl)) (by kernel_rfl) (by kernel_rfl)
theorem Qq7 {W:World} (h:laidMetH Tryz.prog tU W):∀ j,j < 12→W.cell? ⟨0,j,none⟩=some (.int .i64 (Xs.getD j 0)):=by
 rw[MakeChecks.laidMetH_plain _ _ _ (by kernel_rfl)]at h
 obtain ⟨ps,⟨g0,t0,KG,f0,p0,q0,kL,xi,IW,hd0,_,_⟩,_,_⟩:=h
 obtain rfl:=Option.some.inj (Xzk.symm.trans kL)
 obtain rfl:=Option.some.inj (Yax.symm.trans xi)
 obtain ⟨xs,m1,rfl,sq,hlen,hn6,aH⟩:=DataW.trod_array uF6 hd0
 rw[cF6]at hlen
 rw[Ybi]at sq
 simp only[Prod.mk.injEq,DataW.agg.injEq]at sq
 have key:∀ i,i < 6→∀ k,k < 2→KG.toList[i * 2 + k]?=some (.int .i64 (Xs.getD (i * 2 + k) 0)):=by
  intro i hi k hk
  have h1:=aH i hi
  rw[cF2]at h1
  have RD:xs[i]?=some (xs[i]'ae):=List.getElem?_eq_getElem ae
  rw[RD]at h1
  obtain ⟨ys,m2,rfl,hy,vD,hy2,KH⟩:=DataW.trod_array uF2 h1
  have tV:=KH k hk
  rw[cF1]at tV
  have RE:ys[k]?=some (ys[k]'ae):=List.getElem?_eq_getElem ae
  rw[RE]at tV
  obtain ⟨z,e1,e2,_⟩:=DataW.trod_int Tryz.underlying3 tV
  have F4:(xs[i]'ae).1=.agg (ys.map (·.1)):=by rw[hy]
  have hL:(xs.map (·.1))[i]?=some (.agg (ys.map (·.1))):=by rw[List.getElem?_map,RD,Option.map_some,F4]
  rw[← sq.1]at hL
  have hz:(ys.map (·.1))[k]?=some (.lit (.int .i64 z)):=by rw[List.getElem?_map,RE,Option.map_some,e2]
  have eD:KG.toList[i * 2 + k]?=some (.int .i64 z):=by
   have:((((KG.toList.drop (i * 2)).take 2).drop (k * 1)).take 1)[0]?=some (.int .i64 z):=by rw[e1];rfl
   rw[List.getElem?_take,if_pos ae,List.getElem?_drop,List.getElem?_take,if_pos ae,List.getElem?_drop]at this
   simpa using this
  rw[eD]
  have cg:∀ i,i < 6→∀ k,k < 2→∀ l:List (DataW Unit),(RB.map fun p=>(DataW.agg [.lit (.int .i64 p.1),.lit (.int .i64 p.2)]:DataW Unit))[i]?=some (.agg l)→l[k]?=some (.lit (.int .i64 (Xs.getD (i * 2 + k) 0))):=by
   intro i hi k hk l hl
   match i,k,hi,hk,hl with
   | 0,0,_,_,hl=>cases hl;rfl
   | 0,1,_,_,hl=>cases hl;rfl
   | 1,0,_,_,hl=>cases hl;rfl
   | 1,1,_,_,hl=>cases hl;rfl
   | 2,0,_,_,hl=>cases hl;rfl
   | 2,1,_,_,hl=>cases hl;rfl
   | 3,0,_,_,hl=>cases hl;rfl
   | 3,1,_,_,hl=>cases hl;rfl
   | 4,0,_,_,hl=>cases hl;rfl
   | 4,1,_,_,hl=>cases hl;rfl
   | 5,0,_,_,hl=>cases hl;rfl
   | 5,1,_,_,hl=>cases hl;rfl
  have:=cg i hi k hk _ hL
  rw[hz]at this
  simp only[Option.some.injEq,DataW.lit.injEq,Lit.int.injEq,true_and]at this
  rw[this]
 intro j hj
 rw[World.var?_cell kL IW j,← Array.getElem?_toList]
 have:=key (j / 2) ae (j % 2) ae
 rwa [show j / 2 * 2 + j % 2=j by omega]at this
def vE (i:Nat):AV:=if i=0 then .xp (Qo Xs) 0 else .any
theorem RF:vE 0=.xp (Qo Xs) 0:=rfl
theorem Ydw {W:World} (h:∀ j,j < 12→W.cell? ⟨0,j,none⟩=some (.int .i64 (Xs.getD j 0))) (i:Nat):VR (fun _=>.un) (fun _=>False) W (vE i) (.pointer (some ⟨i,0,none⟩)):=by
 unfold vE
 split
 ·rename_i e
  subst e
  have hl:(Qo Xs).length=12:=rfl
  have hx:=VR.xp (g:=fun _=>GM.un) (W:=fun _=>False) (w:=W) (cs:=Qo Xs) (off:=0) (k:=0) (o:=0) (us:=fun j=>.int .i64 (Xs.getD j 0)) (fun j hj=>by
   rw[hl]at hj
   exact ⟨by have:=h j hj;rw[Nat.zero_add];exact this,id,rfl⟩) (fun j hj=>by
   rw[hl]at hj
   rw[zK (show j < Xs.length from hj)]
   exact .int _ _)
  simpa using hx
 ·exact .any _
set_option maxRecDepth 100000 in
theorem RG {f:FuncId} {fn:Func} (xj:Tryz.prog.inits.idxOf? f=none) (tW:Tryz.prog.funcs[f]?=some fn)
  (Ct:∀ t ∈ fn.params.toList,Tryz.prog.readableRec t=true∧t < Tryz.prog.types.size) (KI:fn.resultTypes=#[4])
  (s:ChangeSpec) (hv:s.vars=[]) (hs:∀ (H:Type) (ds:List (DataW H)),ds.length=fn.params.size→s.fn H ds={ results:=[.lit (.bool true)],args:=ds,vars:=[] })
  (os:Os) (started:os.Started) (H:Type) (enc:TypeId × Value→H)
  (witness:∃ (w:World) (tape:Tape) (i:Input),w.os=os∧(w.forCall tape i).Shaped Tryz.prog∧i.vars=[]∧Input.okWide Tryz.prog (w.forCall tape i) .any w.heap.size f i ∧
   ((s.pre enc Tryz.prog fn [] false (w.forCall tape i).memory i.args∧laidMetH Tryz.prog tU (w.forCall tape i).memory)∧sizedMet enc Tryz.prog fn (OpenSpec.ofChange s) false (w.forCall tape i).memory i.args)∧({}:Assume).holds Tryz.prog (lone (Frame.enter Tryz.prog f i.args .normal) [] (w.forCall tape i)))
  (qw:∀ (W:World) (base:Nat) (args:Array Value) (ds:List (DataW H)),wN H enc Tryz.prog fn W base args ds→(∀ i,VR (fun _=>.un) (fun _=>False) W (vE i) (.pointer (some ⟨i,0,none⟩))) →
   Calls Tryz.prog f args W fun e W'=>e=.returned (.bool true)∧Below W.heap.size W W') :
  ReturnsInHanded {} Tryz.checked os f .any (fun w args=>(s.pre enc Tryz.prog fn [] false w args∧laidMetH Tryz.prog tU w)∧sizedMet enc Tryz.prog fn (OpenSpec.ofChange s) false w args) (s.post enc Tryz.prog fn false true false false):=by
 refine returnsInHanded_of_change_and (C:=Tryz.checked) (X:=fun w _=>laidMetH Tryz.prog tU w) (fun _ _ _ hh h=>h.of_heap hh) Tryz.own started xj tW witness ?_
 intro W base args ds gs before fD hW _ cJ hL _
 have lh:=hW
 obtain ⟨p,q,hA,hV,rfl,m8,qx⟩:=hW
 have dM:gs=[]∧q=[]:=by
  rw[hv]at hV
  exact trodVars_none hV
 obtain ⟨rfl,rfl⟩:=dM
 have jw:s.plain.varTypes Tryz.checked.prog=[]:=by
  simp[ChangeSpec.plain,hv,DataSpec.varTypes]
 rw[jw,List.append_nil,List.append_nil]at cJ
 refine (qw W base args ds ⟨fD,⟨p,hA⟩,cJ⟩ (Ydw (Qq7 hL))).mono fun e W' ⟨he,BA⟩=>?_
 subst he
 have hlen:ds.length=fn.params.size:=by rw[Pf hA];simp
 have hS:=hs H (ds++[]) (by simpa using hlen)
 refine ⟨_,rfl,ds,[],p++[],[],p,[],lh,?_,?_,?_,BA.frame _,fun h=>by cases h⟩
 ·rw[hS,KI]
  exact trodAll_mk1 (shut_bool Tryz.underlying4 _)
 ·rw[hS]
  simp only[List.append_nil]
  exact Pe Tryz.laidOut BA Ct hA
 ·rw[hS,hv]
  simp[DataW.TrodVars]
end Go.Proofs.YtogckmommodmhaaGreatDoor
namespace Go.Proofs.YtogckmommodmhaaGreatDoor
open Go.RowKit
set_option linter.all false
set_option linter.unusedSimpArgs false
set_option maxRecDepth 100000
section
variable {P:Program} {c:Cx} {g:Nat→GM} {s:St} {a:Act} {w:World}
def St.named (s:St) (i es:Nat):St:=⟨(i,.sl es s.n 0 0 0)::s.t,(s.n,.cells [])::s.h,s.n + 1⟩
theorem R.named {i es:Nat} (hR:R c g s.fs a w) (hi:look s.t i=.nils) (hf:s.fs.H s.n=.free):R c (fun b=>if b=s.n then .ph else g b) (s.named i es).fs a w:=by
 have ju:g s.n=.un:=by
  have:=hR.h s.n
  rw[hf]at this
  generalize g s.n=m at this
  cases this;rfl
 have hH:∀ b,b≠s.n→(s.named i es).fs.H b=s.fs.H b:=fun b hb=>by
  show Qc ((s.n,_)::s.h) (s.n + 1) b=Qc s.h s.n b
  rw[Qd,if_neg (fun e=>hb e.symm),Wd _ _ _ hb]
 have tX:(s.named i es).fs.H s.n=.cells []:=by
  show Qc ((s.n,_)::s.h) (s.n + 1) s.n=_
  rw[Qd,if_pos rfl]
 have bY:∀ {b k},(if b=s.n then GM.ph else g b)=.re k→b≠s.n∧g b=.re k:=fun {b k} h=>by
  by_cases hb:b=s.n
  ·rw[if_pos hb]at h;cases h
  ·rw[if_neg hb]at h;exact ⟨hb,h⟩
 have hg:∀ b,g b≠.un→(if b=s.n then GM.ph else g b)=g b:=fun b hb=>by
  rw[if_neg];rintro rfl;exact hb ju
 have hW:∀ k,Qn c (fun b=>if b=s.n then .ph else g b) (s.named i es).fs k→Qn c g s.fs k:=by
  rintro k (h|⟨b,h1,h2⟩)
  ·exact .inl h
  ·obtain ⟨hb,h3⟩:=bY h2
   rw[hH b hb]at h1
   exact .inr ⟨b,h1,h3⟩
 have mono:∀ {v u},VR g (Qn c g s.fs) w v u→VR (fun b=>if b=s.n then .ph else g b) (Qn c (fun b=>if b=s.n then .ph else g b) (s.named i es).fs) w v u:=fun h=>h.mono (Fr.refl _ _) (fun k _=>hW k) hg
 refine ⟨hR.size,hR.dK,fun j=>?_,fun j=>(hR.gl j).mono (Fr.refl _ _) (fun k _=>hW k) (fun _ _=>rfl),fun b=>?_,fun b b' k h1 h2 e1 e2=>?_,fun b k h1 e1=>?_,hR.fr,hR.xs,fun p hp=>?_⟩
 ·show VR _ _ w (look ((i,_)::s.t) j) _
  rw[Yw]
  split
  ·rename_i iM
   subst iM
   have:=hR.t i
   have e:s.fs.T i=.nils:=hi
   rw[e]at this
   generalize a.tmps.getD i undef=u at this ⊢
   cases this
   exact .kq (if_pos rfl) rfl
  ·exact mono (hR.t j)
 ·by_cases hb:b=s.n
  ·subst hb
   show BR _ _ w (if s.n=s.n then _ else _) _
   rw[if_pos rfl,tX];exact .ph
  ·show BR _ _ w (if b=s.n then _ else _) _
   rw[if_neg hb,hH b hb]
   exact (hR.h b).mono (Fr.refl _ _) (fun k _=>hW k) hg (fun _ _ _=>rfl)
 ·obtain ⟨b1,g1⟩:=bY e1
  obtain ⟨b2,g2⟩:=bY e2
  rw[hH b b1]at h1
  rw[hH b' b2]at h2
  exact hR.inj b b' k h1 h2 g1 g2
 ·obtain ⟨b1,g1⟩:=bY e1
  rw[hH b b1]at h1
  exact hR.old b k h1 g1
 ·obtain ⟨q1,q2⟩:=hR.hU p hp
  exact ⟨by show (if p.1=s.n then GM.ph else g p.1)=_;rw[hg _ (by rw[q1];exact q2)];exact q1,q2⟩
theorem vF {b:TC} {Q:EX→St→Prop} (i es:Nat) (hi:look s.t i=.nils) (hf:s.fs.H s.n=.free) (h:qg P c b Q (s.named i es)):qg P c b Q s :=
 fun code he g a w hR=>h code he _ a w (hR.named hi hf)
end
section
variable {P:Program} {w:World}
def Cu (P:Program) (c:Cx) (k:PK) (xs:List TV) (vs:List AV) (r:AV):Prop :=
 ∀ (o:Oper) (ys:List Operand),Xy P o=some (k,ys)→ys.map aS=xs→∀ (g:Nat→GM) (W:Nat→Prop) (a:Act) (w:World),(∀ i,W i→i < w.heap.size)→(∀ i,VR (fun _=>.un) W w (c.gl i) (.pointer (some ⟨i,0,none⟩)))→bO g W w vs (ys.map a.eval) →
  ∀ (K:Act→World→Prop) (Q:Exit→Act→World→Prop),(∀ v w',Fr w w' (fun _=>False)→VR g W w' r v→K (a.put o.dst v) w')→o.wp P a w K Q
theorem Xgw {c:Cx} {s:St} {d:Option Nat} {k:PK} {xs:List TV} {gd:Option (Nat × Bool)} {args:List AV} {r:AV} (aX:Ue c.gl s.fs xs gd) (aN:(aF c.gl s.fs xs).map Qj=args)
  (hq:ob (gB s.fs gd) (Cu P c k xs args r)):Kv P c (.pd d k xs gd) s.fs (Yq d xs gd) (s.bD d (cw (gB s.fs gd) r)).fs:=by
 intro ops io he
 obtain ⟨bc,bg,hd,ys,aH,rfl⟩:=Zl he
 have eV:(s.bD d (cw (gB s.fs gd) r)).fs=match d with|some d=>s.fs.put d (cw (gB s.fs gd) r)|none=>s.fs:=by
  cases d with
  | none=>rfl
  | some d=>exact St.bS _ _ _
 rw[eV]
 refine ⟨fun i hi=>?_,fun b _=>by cases d<;>rfl,?_⟩
 ·cases d with
  | none=>rfl
  | some d=>show (s.fs.put d _).T i=_;rw[FS.dh,if_neg (fun e=>hi (by simp[Yq,e]))]
 ·intro s2 hT hH g a w hR K Q' hK
  have bj:aF c.gl s2 (ys.map aS)=aF c.gl s.fs (ys.map aS):=Xu fun i hi=>hT i (by simp[Yq,hi])
  have hg:∀ t b,gd=some (t,b)→s2.T t=s.fs.T t:=fun t b e=>hT t (by simp[Yq,e,jj])
  have oh:gB s2 gd=gB s.fs gd:=by
   cases gd with
   | none=>rfl
   | some p=>obtain ⟨t,b⟩:=p;simp only[gB,hg t b rfl]
  have om:fx s2 gd:=by
   have:=aX.1
   cases gd with
   | none=>exact this
   | some p=>obtain ⟨t,b⟩:=p;simpa only[fx,hg t b rfl] using this
  have lO:∀ v w',Fr w w' (fun _=>False)→VR g (Qn c g s2) w' (cw (gB s.fs gd) r) v→K (a.put io.dst v) w':=fun v w' hf hv=>by
   rw[bg]
   have bf:=hR.grow hf
   cases d with
   | none =>
    refine hK g _ w' ?_
    have:dj s2 s.fs (Yq none (ys.map aS) gd)=s2:=by unfold dj Yq;simp
    simp only[this];exact bf
   | some d =>
    refine hK g _ w' ?_
    show R c g (dj s2 (s.fs.put d _) ⟨jj gd++Xf (ys.map aS),[],[d],[]⟩) _ _
    rw[wW]
    exact bf.put (by simpa using hd) hv
  unfold me
  rw[vi bc hR om,oh]
  have run:(∀ b,gB s.fs gd=some b→b=true)→io.wp P a w K Q':=by
   intro hb
   have pw:Qt none (aF c.gl s2 (ys.map aS)):=by
    rw[bj]
    have:=aX.2
    cases b9:gB s.fs gd with
    | none=>rw[b9]at this;exact this
    | some b=>rw[b9]at this;exact zD (hb b b9) this
   have cD:Cu P c k (ys.map aS) args r:=by
    cases b9:gB s.fs gd with
    | none=>rw[b9]at hq;exact hq
    | some b=>rw[b9]at hq;exact hq (hb b b9)
   have hv:=Xx (hR.aF ys) pw
   rw[bj,aN]at hv
   have hX:∀ k,Qn c g s2 k→k < w.heap.size:=by
    rintro k (h|⟨b',hl,fh⟩)
    ·have:=(hR.xs k h).1;have:=hR.fr.size;omega
    ·exact BR.lt (fh ▸ hR.h b') hl
   refine cD io ys aH rfl g _ a w hX (fun i=>(hR.gl i)) hv K Q' fun v w' hf fN=>?_
   refine lO v w' hf ?_
   cases b9:gB s.fs gd with
   | none=>exact fN
   | some b=>exact .dx (fun _=>fN) fun h=>by rw[hb b b9]at h;cases h
  cases b9:gB s.fs gd with
  | none=>simp only[Option.getD_none,if_true];exact run fun b h=>by rw[b9]at h;cases h
  | some b =>
   cases b with
   | true=>simp only[Option.getD_some,if_true];exact run fun b h=>by rw[b9]at h;cases h;rfl
   | false =>
    simp only[Option.getD_some,Bool.false_eq_true,if_false]
    refine lO undef w (Fr.refl _ _) ?_
    rw[b9]
    exact .dx (fun h=>by cases h) fun _=>rfl
theorem Ad {c:Cx} {r0:List bG} {K:St→Prop} {s:St} {d:Option Nat} {k:PK} {xs:List TV} {gd:Option (Nat × Bool)} {args:List AV} {r:AV} (aN:(aF c.gl s.fs xs).map Qj=args) (hq:Cu P c k xs args r)
  (aX:Ue c.gl s.fs xs gd∧XP P c r0 K (s.bD d (cw (gB s.fs gd) r))):Xw P c (.pd d k xs gd) r0 K s:=.inl ⟨_,_,Xgw aX.1 aN (w8 hq),aX.2⟩
def sr:AV→Option Bool
 | .isl _ (_::_)=>some false
 | .lit (.slice a _ _)=>some a.isNone
 | _=>none
theorem Xrm {g:Nat→GM} {W:Nat→Prop} {x:AV} {v:Value} {b:Bool} (hx:VR g W w x v) (h:sr x=some b):∃ a n cap,v=.slice a n cap∧a.isNone=b:=by
 unfold sr at h
 split at h
 ·obtain ⟨a,cap,us,rfl,_,_,h3,_⟩:=rU hx
  obtain ⟨k,o,rfl,_⟩:=h3 0 au
  cases h
  exact ⟨_,_,_,rfl,rfl⟩
 ·cases h;cases hx;exact ⟨_,_,_,rfl,rfl⟩
 ·cases h
theorem Qzn (w:World) (t e:TypeId) (a:Option Addr) (l c:Nat) (h:P.underlying t=some (.slice e)):(binOp .eql t (.slice a l c) (.slice none 0 0)).run P w=.ok (.bool a.isNone) w:=by
 simp only[binOp]
 simp[run_equal_slice_nil w t e a l c h]
theorem Xtf {y:Operand} (h:aS y=.c .nils):y=.const (.slice none 0 0):=by
 cases y with
 | const v =>
  simp only[aS,TV.c.injEq]at h
  cases v<;>simp only[tj,fg]at h<;>first|(cases h;done)|skip
  all_goals split at h
  all_goals first|(cases h;done)|rfl|(simp at h;obtain ⟨rfl,rfl,rfl⟩:=h;rfl)|simp_all
 | _=>simp[aS]at h
theorem Xx0 {c:Cx} {ne:Bool} {t e:TypeId} {x:TV} {v:AV} {b:Bool} (ht:P.underlying t=some (.slice e)) (hb:sr v=some b):Cu P c (.cA ne t) [x,.c .nils] [v,.nils] (.bool (ne != b)):=by
 intro o ys aH mw g W a w _ _ hv K Q hK
 obtain ⟨x',y',u,bl,rfl⟩:=QP aH
 simp only[List.map_cons,List.map_nil,List.cons.injEq,and_true]at mw
 have hy:=Xtf mw.2
 subst hy
 obtain ⟨hx,_,_⟩:=hv
 obtain ⟨ad,n,cap,RH,rfl⟩:=Xrm hx hb
 have ey:a.eval (.const (.slice none 0 0))=.slice none 0 0:=rfl
 have run:(execOp a.eval o).run P w=.ok (.value (.bool (ne != ad.isNone))) w:=by
  unfold execOp
  cases ne
  ·simp only[bl,RH,ey,cond_false,Sem.run_bind];simp[eqGuard,Qzn w t e ad n cap ht]
  ·simp only[bl,RH,ey,cond_true,Sem.run_bind];simp[eqGuard,run_neq_slice_nil w t e ad n cap ht]
 unfold Oper.wp
 rw[run]
 exact hK _ _ (Fr.refl _ _) (.bool _)
theorem F5 {c:Cx} {es:Nat} {zs:List AV}:mq P c (.wU es 0 zs []) [] .nils:=by
 intro o ys aH g W a w _ _ hv K Q hK
 obtain ⟨t,e,i,z,parts,bl,hu,hi,hz,ku,dS,sa,h24,J2,rfl,rfl,eg,rfl⟩:=Rf aH
 have hp:parts=#[]:=by
  have:=congrArg List.length eg
  simp at this
  exact Array.eq_empty_of_size_eq_zero this.symm
 subst hp
 have run:(execOp a.eval o).run P w=.ok (.value (.slice (some ⟨w.heap.size,0,none⟩) 0 0)) (w.alloc (.cells #[] e)):=by
  unfold execOp
  simp only[bl,Sem.run_bind]
  simp[Instr.buildSlice,run_underlying hu,sizeOf,typeInfo,hi,Instr.fill,newRow]
  have:(Array.map (fun x:Nat=>(default:Value)) (Array.range 0))=#[]:=Array.eq_empty_of_size_eq_zero au
  rw[this]
 unfold Oper.wp
 rw[run]
 exact hK _ _ (Fr.alloc _ _ _) (.nils _)
theorem GS.empty {gl:Nat→AV} {f:FuncId} {es:Nat} {cs:List AV} (h1:∀ cap,GS P gl f [.lit (.slice none 0 cap)] [] 0 .nils [] 0) (h2:∀ a cap,GS P gl f [.lit (.slice (some a) 0 cap)] [] 0 (.sl es 0 0 0 0) [(0,.cells [])] 1):GS P gl f [.isl 0 cs] [] 0 (.sl es 0 0 0 0) [(0,.cells [])] 1:=by
 refine ⟨(h1 0).1,fun w vs G X g hR hv=>?_⟩
 cases vs with
 | nil=>exact hv.elim
 | cons v vs =>
 cases vs with
 | cons _ _=>exact hv.2.elim
 | nil =>
 obtain ⟨hv,_⟩:=hv
 obtain ⟨a,cap,us,rfl,_⟩:=rU hv
 cases a with
 | some a=>exact (h2 a cap).2 w [.slice (some a) 0 cap] G X g hR ⟨.lit _,trivial⟩
 | none =>
  refine ((h1 cap).2 w [.slice none 0 cap] G X g hR ⟨.lit _,trivial⟩).mono ?_
  rintro e w' ⟨v,g',rfl,bf,_,n9⟩
  have cx:R ⟨1,w,G,X,gl,[]⟩ g' (⟨[(0,.nils)],[],0⟩:St).fs ⟨#[v],[]⟩ w':=by
   refine ⟨rfl,rfl,fun i=>?_,bf.gl,bf.h,bf.inj,bf.old,bf.fr,bf.xs,fun p hp=>by cases hp⟩
   show VR g' _ w' (look [(0,.nils)] i) _
   rw[Yw]
   split
   ·rename_i hi;subst hi;exact n9
   ·exact .any _
  have bR:=cx.named (i:=0) (es:=es) rfl rfl
  exact ⟨v,_,rfl,⟨rfl,rfl,fun i=>.any _,bR.gl,bR.h,bR.inj,bR.old,bR.fr,bR.xs,fun p hp=>by cases hp⟩,fun b hb=>by omega,bR.t 0⟩
end
end Go.Proofs.YtogckmommodmhaaGreatDoor
