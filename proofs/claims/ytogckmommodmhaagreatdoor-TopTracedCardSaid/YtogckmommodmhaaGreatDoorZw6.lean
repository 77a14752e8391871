import Derived.Test.YtogckmommodmhaaGreatDoorZw5
import Derived.Test.YtogckmommodmhaaGreatDoorZw4
import Derived.Test.YtogckmommodmhaaGreatDoorZw1
import Derived.MapKept
import Derived.WideKeyRuns
import Derived.Maps.RangeRun
namespace Go.Proofs.YtogckmommodmhaaGreatDoor
open Go.RowKit
set_option linter.all false
set_option linter.unusedSimpArgs false
set_option maxRecDepth 100000
def xk:Bk→Prop
 | .cells _=>True
 | _=>False
theorem RJ {x:Bk} (h:xk x):x.live:=by cases x<;>first|exact h.elim|trivial
theorem Yf5 (cs:List AV):xk (.cells cs)=True:=rfl
attribute [go_sem] Yf5
section
variable {P:Program} {c:Cx} {ops:Array Oper} {io:Oper}
theorem Xuu {o:Oper} {es:Nat} {lo hi:Bool} {xs:List Operand} (h:Xy P o=some (.Fv es lo hi,xs)):∃ t x l h' mx e,o.op=.slice t x l h' (some mx)∧P.underlying t=some (.slice e)∧Zh P e=some es∧l.isSome=lo∧h'.isSome=hi∧xs=x::(l.toList++h'.toList++[mx]):=by
 unfold Xy at h
 repeat' split at h
 all_goals first
  | (simp only[Option.map_eq_some_iff,Prod.mk.injEq,PK.Fv.injEq]at h;obtain ⟨es',h1,⟨rfl,rfl,rfl⟩,rfl⟩:=h;exact ⟨_,_,_,_,_,_,by assumption,by assumption,h1,rfl,rfl,rfl⟩)
  | (simp at h;done)
  | (cases h;done)
  | (simp[Option.map_eq_some_iff]at h;done)
theorem KJ {g:Nat→GM} {W:Nat→Prop} {w:World} {k:IntKind} {n:Int} {v:Value} (h:VR g W w (.int k n) v):v=.int k n:=by cases h;rfl
theorem Yat {es b off n cc:Nat} {k1 k2 k3:IntKind} {i j m:Int} (h0:0≤i) (h1:i≤j) (h2:j≤m) (h3:m≤cc):mq P c (.Fv es true true) [.sl es b off n cc,.int k1 i,.int k2 j,.int k3 m] .any:=by
 intro o ys aH g W a w _ _ hv K Q hK
 obtain ⟨t,x,l,h',mx,e,bl,hu,dc,hl,hh,rfl⟩:=Xuu aH
 obtain ⟨lo,rfl⟩:=Option.isSome_iff_exists.1 hl
 obtain ⟨hi,rfl⟩:=Option.isSome_iff_exists.1 hh
 obtain ⟨hx,nc,fN,tL,_⟩:=hv
 have he:P.elem t=e:=by simp[Program.elem,hu]
 have Cv:∀ (ad:Option Addr) (len cap:Nat),cc≤cap→a.eval x=.slice ad len cap→∃ v,(execOp a.eval o).run P w=.ok (.value v) w:=by
  intro ad len cap my hx
  have e1:a.eval lo=.int k1 i:=KJ nc
  have e2:a.eval hi=.int k2 j:=KJ fN
  have e3:a.eval mx=.int k3 m:=KJ tL
  refine ⟨sliced ad i.toNat j.toNat m.toNat es,?_⟩
  simp only[execOp,bl]
  refine Zo ?_
  simp only[Option.map_some,hx,e1,e2,e3]
  rw[run_sliceAt_slice _ _ _ _ _ _ (by rw[he];exact hu),run_slice_lhm _ _ _ _ _ (by rw[he];exact hu) k1 k2 k3 i j m h0 h1 h2 ae,he,Jt dc]
  rfl
 have bF:∃ v,(execOp a.eval o).run P w=.ok (.value v) w:=by
  rcases po hx with ⟨k,cap,e',cur,fz,e1,_,_,q2,_,_,_⟩|⟨ad,e1,_,_,q⟩
  ·exact Cv _ _ cap q2 e1
  ·exact Cv _ _ 0 ae e1
 obtain ⟨v,hr⟩:=bF
 unfold Oper.wp
 rw[hr]
 exact hK _ _ (Fr.refl _ _) (.any _)
variable {g:Nat→GM} {s:FS} {a:Act} {w:World}
theorem Xja (hR:R c g s a w) {t u ty e:TypeId} {i:TypeInfo} {z:Value} {es:Nat} (ht:P.underlying t=some (.slice e)) (hu:u=t∨P.underlying u=some .string) (hi:P.info? e=some i) (hz:i.zero=some z) (dc:i.size=es) (ku:z.cells.size=es)
  {b n cc:Nat} {vx:AV} {ub ux:Value} {str:Bool} (hb:VR g (Qn c g s) w (.sl es b 0 n cc) ub) (hx:VR g (Qn c g s) w vx ux) (hl:n * es≤(Yu (s.H b)).length) (ia:xk (s.H b)) (xc:kY s es str vx) (dV:n + Xe vx≤cc) :
  ∃ v' w',(Builtin.append_ #[t,u] ty #[ub,ux]).run P w=.ok v' w'∧R c g (s.aK b (.cells (Xq s es (.sl es b 0 n cc)++Xq s es vx))) a w' ∧
   VR g (Qn c g (s.aK b (.cells (Xq s es (.sl es b 0 n cc)++Xq s es vx)))) w' (.sl es b 0 (n + Xe vx) cc) v':=by
 have aO:=RJ ia
 obtain ⟨news,q1,q2,q3,q4,q5,q6⟩:=FJ (P:=P) hR hx xc
 obtain ⟨dF,o1,o2,o3,o4,o5,o6⟩:=FJ (P:=P) (str:=false) hR hb (x:=.sl es b 0 n cc) ⟨rfl,rfl,by simpa using hl⟩
 simp only[JY]at o1 o2 o3 o4 o6
 rcases po hb with ⟨k,cap,e',cur,fz,rfl,h1,h2,h3,h4,h5,h6⟩|⟨ad,rfl,h1,rfl,rfl⟩
 ·have hlen:(dF++news).length=(n + Xe vx) * es:=by rw[List.length_append,o3,q3,Nat.add_mul]
  have vr:(Xq s es (.sl es b 0 n cc)++Xq s es vx).length=(n + Xe vx) * es:=by rw[List.length_append,o4,q4,Nat.add_mul]
  have wT:∀ v ∈ dF++news,v.oneCell'=true:=fun v hv=>(List.mem_append.1 hv).elim (o5 v) (q5 v)
  have FL:∀ j,j < (n + Xe vx) * es→VR g (Qn c g s) w ((Xq s es (.sl es b 0 n cc)++Xq s es vx).getD j .any) ((dF++news).getD j undef):=fun j hj=>by
   by_cases kV:j < n * es
   ·have:=o6 j kV
    simp only[List.getD,List.getElem?_append_left (show j < (Xq s es (.sl es b 0 n cc)).length by omega),List.getElem?_append_left (show j < dF.length by omega)]at this ⊢
    exact this
   ·have:=q6 (j - n * es) (by rw[Nat.add_mul]at hj;omega)
    simp only[List.getD,List.getElem?_append_right (show (Xq s es (.sl es b 0 n cc)).length≤j by omega),List.getElem?_append_right (show dF.length≤j by omega),o3,o4]at this ⊢
    exact this
  have qy:n + Xe vx≤cap:=by omega
  have di:=hR.h b
  rw[h1]at di
  have m8:fz=(0,0)∨cur.size≤fz.1:=by
   cases hh:s.H b with
   | cells cs=>rw[hh]at di;cases di with|cells bH _ _ _ hf=>rw[h5]at bH;cases bH;exact hf
   | aC kvs dn=>rw[hh]at di;cases di with|aC bH=>rw[h5]at bH;cases bH
   | bn kvs bs ck=>rw[hh]at di;cases di with|bn bH=>rw[h5]at bH;cases bH
   | iter b0 ck seen=>rw[hh]at di;cases di with|iter bH=>rw[h5]at bH;cases bH
   | dd ls=>rw[hh]at ia;exact ia.elim
   | free=>rw[hh]at aO;exact aO.elim
   | dead=>rw[hh]at aO;exact aO.elim
  have hmul:(n + Xe vx) * es≤cap * es:=Nat.mul_le_mul_right _ qy
  have hZ:n * i.size + news.length≤cur.size:=by rw[dc,q3,← Nat.add_mul];omega
  have hr:=QX (ty:=ty) (P:=P) ht hu hi k n cap ux (Xe vx) news cur e' fz w q1 h5 m8 (by rw[dc];exact q2) q5 qy hZ
  rw[dc]at hr
  have hnc:n * es≤cap * es:=Nat.mul_le_mul_right es (Nat.le_trans h2 h3)
  have holds:dF=cur.toList.take (n * es):=by
   have a1:=o2 w rfl
   have a2:=run_firstCells_some (P:=P) w es n ⟨k,0,none⟩ n cap (cur.toList.take (n * es)) (by simp;omega) (by have:=JZ h5 (o:=0) (n:=n * es) ae w rfl;simpa using this)
   rw[a1]at a2
   simpa using a2
  have cJ:(cur.toList.take (n * es)++news++cur.toList.drop (n * es + news.length)).toArray.size=cur.size:=by
   rw[dc]at hZ
   simp;omega
  have aV:∀ j,j < (n + Xe vx) * es→(cur.toList.take (n * es)++news++cur.toList.drop (n * es + news.length)).toArray.getD j undef=(dF++news).getD j undef:=fun j hj=>by
   rw[← holds]
   simp only[Array.getD_eq_getD_getElem?,List.getD,List.getElem?_toArray]
   rw[List.getElem?_append_left ae]
  have hf:=Q2 (new:=(cur.toList.take (n * es)++news++cur.toList.drop (n * es + news.length)).toArray) h5 cJ
  have vt:Qn c g s k:=.inr ⟨b,aO,h1⟩
  have br:=hR.setBlock (x:=.cells (Xq s es (.sl es b 0 n cc)++Xq s es vx)) h1 aO trivial hf (by
   refine .cells (cur:=(cur.toList.take (n * es)++news++cur.toList.drop (n * es + news.length)).toArray) (e:=e') (fz:=fz) (setRow_heap w k cur _ e' fz h5) ae (fun j hj=>?_) (fun j hj=>?_) (by rw[cJ];exact m8)
   ·rw[aV j ae]
    have cV:j < (dF++news).length:=by omega
    simp only[List.getD,List.getElem?_eq_getElem cV,Option.getD_some]
    exact wT _ (List.getElem_mem cV)
   ·rw[aV j ae]
    exact (FL j ae).mono (hf.weak fun i hi=>hi ▸ vt) (fun _ _ h=>h) (fun _ _=>rfl))
  exact ⟨_,_,hr,br,.sl (k:=k) (e:=e') (fz:=fz) h1 dV h3 h4 (setRow_heap w k cur _ e' fz h5) (by rw[cJ];exact h6)⟩
 ·have hm:Xe vx=0:=by omega
  rw[hm]at q1 q2 q3 q4
  have hn:news=[]:=List.eq_nil_of_length_eq_zero ae
  have hc:Xq s es vx=[]:=List.eq_nil_of_length_eq_zero ae
  have RK:Xq s es (.sl es b 0 0 0)=[]:=List.eq_nil_of_length_eq_zero ae
  subst hn
  have hr:=QY (P:=P) (ty:=ty) ht hu hi ad 0 0 ux w q1 (by rw[dc];exact q2) (Nat.le_refl _)
  have vG:s.H b=.cells []:=by
   have di:=hR.h b
   rw[h1]at di
   cases hh:s.H b with
   | cells cs=>rw[hh]at di;cases di;rfl
   | aC kvs dn=>rw[hh]at di;cases di
   | bn kvs bs ck=>rw[hh]at di;cases di
   | iter b0 ck seen=>rw[hh]at di;cases di
   | dd ls=>rw[hh]at ia;exact ia.elim
   | free=>rw[hh]at aO;exact aO.elim
   | dead=>rw[hh]at aO;exact aO.elim
  have hs:s.aK b (.cells (Xq s es (.sl es b 0 0 0)++Xq s es vx))=s:=by
   rw[hc,RK]
   refine pD (fun _=>rfl) fun j=>?_
   rw[FS.bb];split
   ·rename_i h;subst h;rw[vG];rfl
   ·rfl
  rw[hs,hm]
  exact ⟨_,_,hr,hR,.kq h1 rfl⟩
def Cw (s:FS) (es:Nat) (str:Bool):List AV→Prop
 | [.sl es2 b o n cc,vx]=>es2=es∧o=0∧n * es≤(Yu (s.H b)).length∧xk (s.H b)∧kY s es str vx∧n + Xe vx≤cc
 | _=>False
def KK (es:Nat):List AV→AV
 | [.sl _ b _ n cc,vx]=>.sl es b 0 (n + Xe vx) cc
 | _=>.any
def Cy:List AV→Nat
 | .sl _ b _ _ _::_=>b
 | _=>0
theorem Xsn (s:FS) (es es2 b o n cc:Nat) (str:Bool) (vx:AV):Cw s es str [.sl es2 b o n cc,vx]=(es2=es∧o=0∧n * es≤(Yu (s.H b)).length∧xk (s.H b)∧kY s es str vx∧n + Xe vx≤cc):=rfl
theorem Xyq (es es2 b o n cc:Nat) (vx:AV):KK es [.sl es2 b o n cc,vx]=.sl es b 0 (n + Xe vx) cc:=rfl
theorem Ybn (es2 b o n cc:Nat) (r:List AV):Cy (.sl es2 b o n cc::r)=b:=rfl
attribute [go_sem] Xsn Xyq Ybn
def F6 (s:St) (gl:Nat→AV) (d:Nat) (xs:List TV):bp:=⟨Xf xs,Cy ((aF gl s.fs xs).map Qj)::Ce ((aF gl s.fs xs).map Qj),[d],[Cy ((aF gl s.fs xs).map Qj)]⟩
def Cz (s:St) (gl:Nat→AV) (d es:Nat) (xs:List TV):St:=(s.aK (Cy ((aF gl s.fs xs).map Qj)) (.cells (Cd s.fs es ((aF gl s.fs xs).map Qj)))).put d (KK es ((aF gl s.fs xs).map Qj))
theorem RL {s:St} {d es iL:Nat} {str:Bool} {xs:List TV} (hc:Qt none (aF c.gl s.fs xs)) (aX:Cw s.fs es str ((aF c.gl s.fs xs).map Qj)) :
  Kv P c (.pd (some d) (.app es iL str) xs none) s.fs (F6 s c.gl d xs) (Cz s c.gl d es xs).fs:=by
 intro ops io he
 obtain ⟨bc,bg,hd,ys,aH,rfl⟩:=Zl he
 obtain ⟨x,y,t,u,e,i,z,rfl,bl,hu,hi,hz,ku,dc,qj,J1⟩:=Q7 aH
 have fN:(aF c.gl s.fs ([x,y].map aS)).map Qj=[Qj (aZ c.gl s.fs (aS x)),Qj (aZ c.gl s.fs (aS y))]:=rfl
 unfold F6 Cz
 rw[fN]at aX ⊢
 generalize hvb:Qj (aZ c.gl s.fs (aS x))=vb at *
 generalize Ra:Qj (aZ c.gl s.fs (aS y))=vx at *
 cases vb<;>simp only[Cw]at aX
 rename_i es2 b o n cc
 obtain ⟨rfl,rfl,hl,aO,xc,dV⟩:=aX
 rw[St.bS,St.cL]
 simp only[Cy,KK,Ce,Cd]
 refine FM (kb:=none) (Ka bc) bg (by simpa using hd) fun s2 hT hH g a w hR=>?_
 have bj:aF c.gl s2 ([x,y].map aS)=aF c.gl s.fs ([x,y].map aS):=Xu hT
 have fv:=Xx (hR.aF [x,y]) (by rw[bj];exact hc)
 rw[bj,fN]at fv
 obtain ⟨v1,v2,_⟩:=fv
 have rZ:s2.H b=s.fs.H b:=hH b au
 have Cg:∀ b',jA vx=some b'→s2.H b'=s.fs.H b':=fun b' h=>hH b' (by simp[h])
 obtain ⟨v',w',hr,h1,h2⟩:=Xja (P:=P) (ty:=io.type) hR hu J1 hi hz dc (ku.trans dc) v1 v2 (by rw[rZ];exact hl) (by rw[rZ];exact aO) (Q8 Cg xc) dV
 rw[FQ (s:=s.fs) (x:=.sl es2 b 0 n cc) fun b' h=>by cases h;exact rZ,FQ Cg]at h1 h2
 refine ⟨g,v',w',?_,h1,h2⟩
 unfold execOp
 simp only[bl,resolve,invoke,builtin,Sem.run_bind,Sem.run_pure,Result.andThen_ok,List.map_toArray,List.map_cons,List.map_nil,hr]
theorem RM {r0:List bG} {K:St→Prop} {s:St} {d es iL:Nat} {str:Bool} {xs:List TV} (h:Qt none (aF c.gl s.fs xs)∧Cw s.fs es str ((aF c.gl s.fs xs).map Qj)∧XP P c r0 K (Cz s c.gl d es xs)) :
  Xw P c (.pd (some d) (.app es iL str) xs none) r0 K s:=.inl ⟨_,_,RL h.1 h.2.1,h.2.2⟩
theorem RN {anc:List Nat} {fs:List bp} {r0:List bG} {K:St→Prop} {s:St} {d es iL:Nat} {str:Bool} {xs:List TV} (h:Qt none (aF c.gl s.fs xs)∧Cw s.fs es str ((aF c.gl s.fs xs).map Qj)∧XD P c anc r0 (F6 s c.gl d xs::fs) K (Cz s c.gl d es xs)) :
  Zi P c anc (.pd (some d) (.app es iL str) xs none) r0 fs K s:=⟨_,_,RL h.1 h.2.1,h.2.2⟩
attribute [go_sem] Cz F6
theorem Xv2 {o:Oper} {t:TypeId} {xs:List Operand} (h:Xy P o=some (.Fu t,xs)):∃ x,o.op=.call ⟨.builtin .clear,⟨[x]⟩,⟨[t]⟩⟩∧xs=[x]:=by
 unfold Xy at h
 repeat' split at h
 all_goals first
  | (cases h;exact ⟨_,by assumption,rfl⟩)
  | (simp at h;done)
  | (cases h;done)
  | (simp[Option.map_eq_some_iff]at h;done)
def Ae (P:Program) (t:TypeId) (es:Nat):Prop:=∃ e i z,P.underlying t=some (.slice e)∧P.info? e=some i∧i.zero=some z∧z.cells.size=es∧z.cells.all (·.oneCell')=true
def RO (P:Program) (t:TypeId) (es:Nat):Bool:=match P.underlying t with
 | some (.slice e)=>match P.info? e with
  | some i=>match i.zero with
   | some z=>decide (z.cells.size=es) && z.cells.all (·.oneCell')
   | none=>false
  | none=>false
 | _=>false
theorem KL {t:TypeId} {es:Nat} (h:RO P t es=true):Ae P t es:=by
 unfold RO at h
 split at h
 ·split at h
  ·split at h
   ·rw[Bool.and_eq_true,decide_eq_true_eq]at h
    exact ⟨_,_,_,by assumption,by assumption,by assumption,h.1,h.2⟩
   ·cases h
  ·cases h
 ·cases h
def F7 (s:FS) (es:Nat):List AV→Prop
 | [.sl es2 b _ n cc]=>es2=es∧xk (s.H b)∧n≤cc
 | _=>False
def Af:List AV→Nat
 | .sl _ b _ _ _::_=>b
 | _=>0
def F8 (s:FS):List AV→List AV
 | .sl _ b off _ _::_=>(Yu (s.H b)).take off
 | _=>[]
theorem Yac (s:FS) (es es2 b o n cc:Nat):F7 s es [.sl es2 b o n cc]=(es2=es∧xk (s.H b)∧n≤cc):=rfl
theorem Yea (es2 b o n cc:Nat) (r:List AV):Af (.sl es2 b o n cc::r)=b:=rfl
theorem Ye5 (s:FS) (es2 b o n cc:Nat) (r:List AV):F8 s (.sl es2 b o n cc::r)=(Yu (s.H b)).take o:=rfl
attribute [go_sem] Yac Yea Ye5
theorem Xsz {z:Array Value} (h:z.all (·.oneCell')=true) (n:Nat):∀ v ∈ (Builtin.zeroCells z n).toList,v.oneCell'=true:=by
 intro v hv
 unfold Builtin.zeroCells at hv
 simp only[Array.toList_map,List.mem_map]at hv
 obtain ⟨i,hi,rfl⟩:=hv
 have mh:i < n * z.size:=by simpa using hi
 have hz:0 < z.size:=by
  rcases Nat.eq_zero_or_pos z.size with h0|h0
  ·rw[h0]at mh;omega
  ·exact h0
 have hm:=Nat.mod_lt i hz
 rw[getElem!_pos z _ hm]
 exact Array.all_eq_true.1 h _ hm
theorem Xtk {s:St} {t:TypeId} {es:Nat} {xs:List TV} (hz:Ae P t es) (hc:Qt none (aF c.gl s.fs xs)) (aX:F7 s.fs es ((aF c.gl s.fs xs).map Qj)) :
  Kv P c (.pd none (.Fu t) xs none) s.fs ⟨Xf xs,[Af ((aF c.gl s.fs xs).map Qj)],[],[Af ((aF c.gl s.fs xs).map Qj)]⟩ (s.aK (Af ((aF c.gl s.fs xs).map Qj)) (.cells (F8 s.fs ((aF c.gl s.fs xs).map Qj)))).fs:=by
 intro ops io he
 obtain ⟨bc,bg,hd,ys,aH,rfl⟩:=Zl he
 obtain ⟨x,bl,rfl⟩:=Xv2 aH
 obtain ⟨e,i,z,hu,hi,hzi,ku,sa⟩:=hz
 have nc:(aF c.gl s.fs ([x].map aS)).map Qj=[Qj (aZ c.gl s.fs (aS x))]:=rfl
 rw[nc]at aX ⊢
 generalize Ra:Qj (aZ c.gl s.fs (aS x))=vx at *
 cases vx<;>simp only[F7]at aX
 rename_i es2 b off n cc
 obtain ⟨rfl,ia,hn⟩:=aX
 rw[St.cL]
 simp only[Af,F8]
 refine ⟨fun i _=>rfl,fun i hi=>by rw[FS.bb,if_neg (fun e=>hi (by simp[e]))],fun s2 hT hH g a w hR K Q' hK=>Ys (Ka bc) ?_⟩
 have bj:aF c.gl s2 ([x].map aS)=aF c.gl s.fs ([x].map aS):=Xu hT
 have fv:=Xx (hR.aF [x]) (by rw[bj];exact hc)
 rw[bj,nc]at fv
 obtain ⟨hx,_⟩:=fv
 have rZ:s2.H b=s.fs.H b:=hH b au
 rw[← rZ]at ia hK
 have aO:=RJ ia
 have hzv:(zeroValue e).run P w=.ok z w:=by simp[zeroValue,typeInfo,hi,hzi]
 have CA:∀ n,(Builtin.zeroCells z.cells n).toList.length=n * es2:=fun n=>by rw[Array.length_toList,size_zeroCells,ku]
 have CB:∃ w',(execOp a.eval io).run P w=.ok (.value (.tuple #[])) w'∧R c g (s2.aK b (.cells ((Yu (s2.H b)).take off))) a w':=by
  have di:=hR.h b
  rcases po hx with ⟨k,cap,e',cur,fz,e1,h1,h2,h3,h4,h5,h6⟩|⟨ad,e1,h1,rfl,rfl⟩
  ·rw[h1]at di
   have cR:=aO
   have lQ:=rZ
   clear rZ lQ hK
   cases hh:s2.H b with
   | aC kvs dn=>rw[hh]at di;cases di with|aC bH=>rw[h5]at bH;cases bH
   | bn kvs bs ck=>rw[hh]at di;cases di with|bn bH=>rw[h5]at bH;cases bH
   | iter b0 ck seen=>rw[hh]at di;cases di with|iter bH=>rw[h5]at bH;cases bH
   | dd ls=>rw[hh]at ia;exact ia.elim
   | free=>rw[hh]at aO;exact aO.elim
   | dead=>rw[hh]at aO;exact aO.elim
   | cells cs =>
   rw[hh]at di
   cases di with
   | cells bH kP pB n9 l9 =>
   rw[h5]at bH;cases bH
   have hmul:n * es2≤cap * es2:=Nat.mul_le_mul_right _ ae
   obtain ⟨w',eM,r1,r2,r3,r4,r5⟩:=IV (P:=P) off (Builtin.zeroCells z.cells n).toList 0 w cur h5 (Xsz sa n) (by rw[CA];omega) l9
   have dL:(execOp a.eval io).run P w=.ok (.value (.tuple #[])) w':=by
    unfold execOp
    simp only[bl,resolve,invoke,builtin,Sem.run_bind,Sem.run_pure,Result.andThen_ok,List.map_toArray,List.map_cons,List.map_nil,e1]
    cases n with
    | zero =>
     have:(Builtin.zeroCells z.cells 0).toList=[]:=List.eq_nil_of_length_eq_zero (by rw[CA];omega)
     rw[this]at r1
     have hw:w'=w:=by
      have:(storeCells ⟨k,off,none⟩ [] 0).run P w=.ok () w:=rfl
      rw[this]at r1;cases r1;rfl
     subst hw
     simp[Builtin.clear_,run_underlying hu]
    | succ n=>simp[Builtin.clear_,run_underlying hu,hzv,r1]
   have vt:Qn c g s2 k:=.inr ⟨b,cR,h1⟩
   refine ⟨w',dL,hR.setBlock h1 cR trivial r5 (.cells r2 (by rw[r3];simp[Yu];omega) (fun j hj=>?_) (fun j hj=>?_) (by rw[r3];exact l9))⟩
   ·have cV:j < cs.length∧j < off:=by simp[Yu]at hj;omega
    rw[r4 j,if_neg ae]
    exact pB j cV.1
   ·have cV:j < cs.length∧j < off:=by simp[Yu]at hj;omega
    rw[r4 j,if_neg ae]
    have:((Yu (Bk.cells cs)).take off).getD j .any=cs.getD j .any:=by simp[Yu,List.getD,List.getElem?_take,cV.2]
    rw[this]
    exact (n9 j cV.1).mono (r5.weak fun i hi=>hi ▸ vt) (fun _ _ h=>h) (fun _ _=>rfl)
  ·rw[h1]at di
   have vG:s2.H b=.cells []:=by
    cases hh:s2.H b with
    | cells cs=>rw[hh]at di;cases di;rfl
    | aC kvs dn=>rw[hh]at di;cases di
    | bn kvs bs ck=>rw[hh]at di;cases di
    | iter b0 ck seen=>rw[hh]at di;cases di
    | dd ls=>rw[hh]at ia;exact ia.elim
    | free=>rw[hh]at aO;exact aO.elim
    | dead=>rw[hh]at aO;exact aO.elim
   have hs:s2.aK b (.cells ((Yu (s2.H b)).take off))=s2:=by
    refine pD (fun _=>rfl) fun j=>?_
    rw[FS.bb];split
    ·rename_i h;subst h;rw[vG];simp[Yu]
    ·rfl
   rw[hs]
   refine ⟨w,?_,hR⟩
   unfold execOp
   simp only[bl,resolve,invoke,builtin,Sem.run_bind,Sem.run_pure,Result.andThen_ok,List.map_toArray,List.map_cons,List.map_nil,e1]
   cases ad<;>simp[Builtin.clear_,run_underlying hu]
 obtain ⟨w',hr,bf⟩:=CB
 unfold Oper.wp
 rw[hr]
 show K (a.put io.dst (.tuple #[])) w'
 rw[bg]
 refine hK g a w' ?_
 rw[BS]
 exact bf
theorem F9 {r0:List bG} {K:St→Prop} {s:St} {t:TypeId} {es:Nat} {xs:List TV} (hz:Ae P t es) (h:Qt none (aF c.gl s.fs xs)∧F7 s.fs es ((aF c.gl s.fs xs).map Qj)∧XP P c r0 K (s.aK (Af ((aF c.gl s.fs xs).map Qj)) (.cells (F8 s.fs ((aF c.gl s.fs xs).map Qj))))) :
  Xw P c (.pd none (.Fu t) xs none) r0 K s:=.inl ⟨_,_,Xtk hz h.1 h.2.1,h.2.2⟩
end
def Fix (x:AV) (v:Value):Prop:=∀ (g:Nat→GM) (W:Nat→Prop) (w:World) (u:Value),VR g W w x u ↔ u=v
def CC:List AV→List Value→Prop
 | [],[]=>True
 | x::xs,v::vs=>Fix x v∧CC xs vs
 | _,_=>False
theorem Fix.int (k:IntKind) (n:Int):Fix (.int k n) (.int k n):=fun _ _ _ u=>⟨fun h=>by cases h;rfl,fun h=>by subst h;exact .int _ _⟩
theorem CC.args {g:Nat→GM} {W:Nat→Prop} {w:World}:∀ {xs:List AV} {vs us:List Value},CC xs vs→bO g W w xs us→us=vs
 | [],[],[],_,_=>rfl
 | _::_,_::_,_::_,h,k=>by rw[(h.1 g W w _).1 k.1,CC.args h.2 k.2]
 | [],_::_,_,h,_=>h.elim
 | _::_,[],_,h,_=>h.elim
 | [],[],_::_,_,k=>k.elim
 | _::_,_::_,[],_,k=>k.elim
theorem Fr.xl {w w':World} (h:Ext w w'):Fr w w' (fun _=>False) :=
 ⟨h.os,h.tape,h.output,h.size,fun k hk _=>h.block k hk,fun k cur e fz hk=>⟨cur,(h.block k (Wx hk)).trans hk,rfl⟩⟩
theorem PS.iQ {P:Program} {gl:Nat→AV} {f:FuncId} {args:List AV} {vs:List Value} {r:AV} {v:Value} (hc:zJ P f) (ha:CC args vs) (hr:Fix r v)
  (h:∀ w,Calls P f vs.toArray w fun e w'=>e=.returned v∧Ext w w'):PS P gl f args r :=
 ⟨hc,fun w us X _ _ hv=>by
  rw[ha.args hv]
  exact (h w).mono fun e w' ⟨e1,e2⟩=>⟨v,e1,(hr _ _ _ _).2 rfl,.xl e2⟩⟩
theorem Fix.str (l:List UInt8):Fix (.str l) (.string ⟨l.toArray⟩):=fun _ _ _ u=>⟨fun h=>by cases h;rfl,fun h=>by subst h;exact .str _⟩
theorem ss (gl:Nat→AV) (l:List UInt8) (h:l.length≤140737488351232):PS Tryz.prog gl 38 [.str l] (.int .i64 (cq l)) :=
 .iQ (vs:=[.string ⟨l.toArray⟩]) ⟨_,Tryz.func38,by kernel_rfl,by kernel_rfl⟩ ⟨.str l,trivial⟩ (.int _ _) fun w=>Y5 ⟨l.toArray⟩ w h
theorem CD (gl:Nat→AV) (l:List UInt8) (h:l.length≤140737488351232):PS Tryz.prog gl 120 [.str l] (.int .i64 (Zb l)) :=
 .iQ (vs:=[.string ⟨l.toArray⟩]) ⟨_,Tryz.func120,by kernel_rfl,by kernel_rfl⟩ ⟨.str l,trivial⟩ (.int _ _)
  fun w=>(Y7 ⟨l.toArray⟩ w (Nat.le_trans h aI)).mono fun _ _ ⟨he,n,hn⟩=>⟨he,by rw[hn];exact Ext.drewN w n⟩
theorem Xm9 (gl:Nat→AV) (c m n:Int):PS Tryz.prog gl 166 [.int .i64 c,.int .i64 m,.int .i64 n] (.int .i64 (65535 - pj (pj (65535 - c % 65536) (65535 - m % 65536)) n)) :=
 .iQ (vs:=[.int .i64 c,.int .i64 m,.int .i64 n]) ⟨_,Tryz.func166,by kernel_rfl,by kernel_rfl⟩ ⟨.int _ _,.int _ _,.int _ _,trivial⟩ (.int _ _)
  fun w=>(Y8 c m n w).mono fun _ _ ⟨he,hn⟩=>⟨he,by rw[hn];exact Ext.refl w⟩
def CE (P:Program) (kt:TypeId):Bool:=match P.underlying kt with
 | some (.struct _)=>true
 | some (.array _ _)=>true
 | _=>false
def jo (wide:Bool):AV→Option (List AV)
 | .agg cs=>bif wide then some cs else none
 | x=>bif wide then none else some [x]
def Ks (wide:Bool) (ks:List SK) (x:AV):Prop:=(jo wide x).map (List.map Yy)=some (ks.map some)
structure mD (P:Program) (kt:TypeId) (wide:Bool) (ks:List SK):Prop where
 sh:Uv P 100 kt=some ks
 wd:CE P kt=wide
 ns:∀ k ∈ ks,k≠.str
section
variable {P:Program} {g:Nat→GM} {W:Nat→Prop} {w:World}
theorem KM {wide:Bool} {ks:List SK} {x:AV} (hx:Ks wide ks x):∃ cs,jo wide x=some cs∧cs.map Yy=ks.map some:=by
 unfold Ks at hx
 cases h:jo wide x with
 | none=>rw[h]at hx;cases hx
 | some cs=>rw[h]at hx;exact ⟨cs,rfl,by simpa using hx⟩
theorem RQ {x:AV} {cs:List AV} (h:jo false x=some cs):cs=[x]:=by cases x<;>simp[jo]at h<;>exact h.symm
theorem RT {x:AV} {cs:List AV} (h:jo true x=some cs):x=.agg cs:=by cases x<;>simp[jo]at h;rw[h]
theorem Xwn {wide:Bool} {x y:AV} {cs:List AV} (hx:jo wide x=some cs) (hy:jo wide y=some cs):x=y:=by
 cases wide with
 | true=>rw[RT hx,RT hy]
 | false=>have h1:=RQ hx;have h2:=RQ hy;rw[h1]at h2;injection h2
theorem key_holds {kt:TypeId} {wide:Bool} {ks:List SK} (hT:mD P kt wide ks) {x:AV} {v:Value} (hx:Ks wide ks x) (hv:VR g W w x v) :
  ∃ cs us,jo wide x=some cs∧cs.map Yy=ks.map some∧Ws P kt v us∧us.length=cs.length∧∀ j,j < cs.length→VR g W w (cs.getD j .any) (us.getD j undef):=by
 obtain ⟨cs,h1,h2⟩:=KM hx
 have hw:=hT.wd
 unfold CE at hw
 cases wide with
 | true =>
  cases x<;>simp[jo]at h1
  subst h1
  obtain ⟨us,rfl,q1,q2,q3⟩:=Wv hv
  refine ⟨_,us.toList,rfl,h2,?_,by simpa using q1,fun j hj=>by have:=q3 j hj;simpa [Array.getD_eq_getD_getElem?,List.getD] using this⟩
  unfold Ws
  split<;>simp_all
 | false =>
  have pB:cs=[x]:=by cases x<;>simp[jo]at h1<;>exact h1.symm
  refine ⟨cs,[v],h1,h2,?_,by rw[pB];rfl,fun j hj=>?_⟩
  ·unfold Ws
   split<;>simp_all
  ·rw[pB]at hj ⊢
   simp at hj
   subst hj
   exact hv
theorem Ycd {kt:TypeId} {wide:Bool} {ks:List SK} (hT:mD P kt wide ks) {x y:AV} {u v:Value} (hx:Ks wide ks x) (hy:Ks wide ks y) (hu:VR g W w x u) (hv:VR g W w y v):∃ r:Bool,(∀ w',(Op.equal kt u v).run P w'=.ok r w')∧(r=true ↔ x=y):=by
 obtain ⟨cs,us,x1,x2,x3,x4,x5⟩:=key_holds hT hx hu
 obtain ⟨ds,vs,y1,y2,y3,y4,y5⟩:=key_holds hT hy hv
 have kl:cs.length=ks.length:=by simpa using congrArg List.length x2
 have kl':ds.length=ks.length:=by simpa using congrArg List.length y2
 refine ⟨Jp ks us vs,fun w'=>FH (P:=P) 9900 100 kt ks hT.sh w' _ _ _ _ x3 y3 ae ae (zQ ks cs _ x2 x4 x5) (zQ ks ds _ y2 y4 y5),?_⟩
 rw[JW ks cs ds _ _ x2 y2 x4 y4 x5 y5]
 exact ⟨fun h=>by subst h;exact Xwn x1 y1,fun h=>by subst h;rw[x1]at y1;injection y1⟩
theorem Xxj {wide:Bool} {ks:List SK} {x:AV} {u v:Value} (hx:Ks wide ks x) (hu:VR g W w x u) (hv:VR g W w x v):u=v:=by
 obtain ⟨cs,h1,h2⟩:=KM hx
 have one:∀ {y:AV} {k:SK} {a b:Value},Yy y=some k→VR g W w y a→VR g W w y b→a=b:=by
  intro y k a b hk ha hb
  cases y<;>simp[Yy]at hk<;>cases ha<;>cases hb<;>rfl
 have all:∀ c ∈ cs,∃ k,Yy c=some k:=fun c hc=>by
  have:Yy c ∈ ks.map some:=by rw[← h2];exact List.mem_map_of_mem hc
  obtain ⟨k,_,hk⟩:=List.mem_map.1 this
  exact ⟨k,hk.symm⟩
 cases x with
 | agg ds =>
  cases wide<;>simp[jo]at h1
  subst h1
  obtain ⟨a,rfl,a1,a2,a3⟩:=Wv hu
  obtain ⟨b,rfl,b1,b2,b3⟩:=Wv hv
  congr 1
  apply Array.ext
  ·rw[a1,b1]
  ·intro j hj fG
   have mE:j < ds.length:=by omega
   obtain ⟨k,hk⟩:=all (ds.getD j .any) (by simp[List.getD,mE])
   have:=one hk (a3 j mE) (b3 j mE)
   simpa [Array.getD_eq_getD_getElem?,hj,fG] using this
 | _ =>
  cases wide<;>simp[jo]at h1
  subst h1
  obtain ⟨k,hk⟩:=all _ (List.mem_singleton.2 rfl)
  exact one hk hu hv
theorem KN (em:Bool) (d:Nat):∀ (m:Nat) (t:TypeId) (ks:List SK),Uv P m t=some ks→∀ (w:World) (x:Value) (us:List Value),Ws P t x us→us.length=ks.length→Uy ks us→(Instr.checkKey em (d + m) t x).run P w=.ok () w
 | 0,_,_,h=>by cases h
 | m + 1,t,ks,h=>by
  intro w x us hx lu ou
  unfold Uv at h
  cases hu:P.underlying t with
  | none=>simp[hu]at h
  | some kd =>
   rw[hu]at h
   simp only[Ws,hu]at hx
   rw[show d + (m + 1)=(d + m) + 1 from rfl]
   cases kd<;>simp only[Option.some.injEq,reduceCtorEq]at h hx
   case bool=>subst h hx;obtain ⟨⟨a,rfl⟩,_⟩:=ou;simp[Instr.checkKey,run_underlying hu]
   case int k=>subst h hx;obtain ⟨⟨a,rfl⟩,_⟩:=ou;simp[Instr.checkKey,run_underlying hu]
   case string=>subst h hx;obtain ⟨⟨a,rfl⟩,_⟩:=ou;simp[Instr.checkKey,run_underlying hu]
   case struct fs =>
    subst hx
    split at h
    ·cases h
    ·rw[Instr.checkKey]
     simp only[Sem.run_bind,run_underlying hu,Result.andThen_ok]
     rw[← Array.forIn_toList]
     have key:∀ (L:List Field) (o:Nat) (ks:List SK),zO (Uv P m) P o L=some ks→Uy ks (us.toArray.toList.drop o) →
       (forIn L PUnit.unit fun f r=>do
        if f.name ≠ "_" then do
         let v ← part f.type us.toArray f.offset
         Instr.checkKey em (d + m) f.type v
         pure (ForInStep.yield PUnit.unit)
        else pure (ForInStep.yield PUnit.unit):Sem PUnit).run P w=.ok PUnit.unit w:=by
      intro L
      induction L with
      | nil=>intro o ks _ _;simp
      | cons f L ih =>
       intro o ks h hx
       unfold zO at h
       split at h
       ·cases h
       ·rename_i hn
        simp only[not_or,Decidable.not_not]at hn
        obtain ⟨dU,ew,mr⟩:=hn
        have nf:=FG mr
        simp only[Option.bind_eq_some_iff]at h
        obtain ⟨k1,h1,h2⟩:=h
        split at h2
        ·rename_i hc
         simp only[Option.map_eq_some_iff]at h2
         obtain ⟨k2,h2,rfl⟩:=h2
         obtain ⟨x1,x2⟩:=vp _ _ _ hx
         obtain ⟨a,pa,ha⟩:=zP w h1 nf hc x1
         have lx:=vq _ _ x1
         have hr:=KN em d m _ _ h1 w a _ ha (by rw[List.length_take];omega) (w9 _ _ x1)
         rw[List.drop_drop]at x2
         simp only[List.forIn_cons,Sem.run_bind,dU,ne_eq,not_false_eq_true,if_true,ew,pa,hr,Result.andThen_ok,Sem.run_pure]
         exact ih _ _ h2 x2
        ·cases h2
     have h3:=key fs.toList 0 ks h (by simpa using ou)
     rw[h3];rfl
   case array n e =>
    subst hx
    split at h
    ·cases h
    ·rename_i aG
     obtain ⟨i,hi⟩:=Option.isSome_iff_exists.1 (FG aG)
     simp only[Option.bind_eq_some_iff]at h
     obtain ⟨k1,h1,h2⟩:=h
     split at h2
     ·rename_i hc
      cases h2
      rw[Instr.checkKey]
      simp only[Sem.run_bind,run_underlying hu,Result.andThen_ok]
      simp only[Std.Legacy.Range.forIn_eq_forIn_range',Std.Legacy.Range.size,Nat.sub_zero,Nat.add_one_sub_one,Nat.div_one]
      have key:∀ (n i0:Nat),Uy (List.replicate n k1).flatten (us.toArray.toList.drop (i0 * k1.length)) →
        (forIn (List.range' i0 n) PUnit.unit fun i r=>do
         let z ← sizeOf e
         let v ← part e us.toArray (i * z)
         Instr.checkKey em (d + m) e v
         pure (ForInStep.yield PUnit.unit):Sem PUnit).run P w=.ok PUnit.unit w:=by
       intro n
       induction n with
       | zero=>intro i0 _;simp
       | succ n ih =>
        intro i0 hx
        rw[List.replicate_succ,List.flatten_cons]at hx
        obtain ⟨x1,x2⟩:=vp _ _ _ hx
        obtain ⟨a,pa,ha⟩:=zP w h1 (by rw[hi];rfl) hc x1
        have lx:=vq _ _ x1
        have hr:=KN em d m _ _ h1 w a _ ha (by rw[List.length_take];omega) (w9 _ _ x1)
        have e1:i0 * k1.length + k1.length=(i0 + 1) * k1.length:=by rw[Nat.add_mul,Nat.one_mul]
        rw[List.drop_drop,e1]at x2
        rw[List.range'_succ]
        simp only[List.forIn_cons,Sem.run_bind,run_sizeOf w hi,hc,pa,hr,Result.andThen_ok,Sem.run_pure]
        exact ih (i0 + 1) x2
      have h3:=key n 0 (by simpa using ou)
      rw[h3];rfl
     ·cases h2
theorem KO {kt:TypeId} {wide:Bool} {ks:List SK} (hT:mD P kt wide ks) {x:AV} {v:Value} (hx:Ks wide ks x) (hv:VR g W w x v) (em:Bool) (w':World):(Instr.checkKey em 10000 kt v).run P w'=.ok () w':=by
 obtain ⟨cs,us,x1,x2,x3,x4,x5⟩:=key_holds hT hx hv
 have kl:cs.length=ks.length:=by simpa using congrArg List.length x2
 exact KN em 9900 100 kt ks hT.sh w' v us x3 ae (zQ ks cs _ x2 x4 x5)
open Classical in
noncomputable def jq (kvs:List (AV × AV)) (x:AV):Option Nat:=kvs.findIdx? fun p=>decide (p.1=x)
theorem RU {kt:TypeId} {wide:Bool} {ks:List SK} (hT:mD P kt wide ks) {x:AV} {v:Value} (hx:Ks wide ks x) (hv:VR g W w x v):∀ (kvs:List (AV × AV)) (es:List MapEntry) (i:Nat),es.length=kvs.length→(∀ p ∈ kvs,Ks wide ks p.1) →
  (∀ j,j < kvs.length→VR g W w (kvs.getD j (.any,.any)).1 (es.getD j default).key)→∀ w',(Instr.findAsking kt v es i).run P w'=.ok ((jq kvs x).map fun j=>(i + j,(es.getD j default).val)) w'
 | [],[],i,_,_,_,w'=>by simp[Instr.findAsking,jq]
 | [],_::_,_,h,_,_,_=>by simp at h
 | _::_,[],_,h,_,_,_=>by simp at h
 | p::kvs,e::es,i,hl,hk,fv,w'=>by
  have h0:=fv 0 au
  simp only[List.getD_cons_zero]at h0
  obtain ⟨r,hr,qz⟩:=Ycd hT hx (hk p au) hv h0
  have ih:=RU hT hx hv kvs es (i + 1) (by simpa using hl) (fun q hq=>hk q (by simp[hq])) (fun j hj=>by simpa using fv (j + 1) (by simp;omega)) w'
  simp only[Instr.findAsking,Sem.run_bind,hr,Result.andThen_ok]
  unfold jq at ih ⊢
  rw[List.findIdx?_cons]
  cases r with
  | true =>
   have:p.1=x:=(qz.1 rfl).symm
   simp[this]
  | false =>
   have bY:¬ p.1=x:=fun h=>by have:=qz.2 h.symm;cases this
   simp only[Bool.false_eq_true,if_false,bY,decide_false]
   rw[ih]
   generalize List.findIdx? _ kvs=o
   cases o with
   | none=>rfl
   | some j=>simp only[Option.map_some,List.getD_cons_succ];rw[show i + 1 + j=i + (j + 1) by omega]
theorem RV {kt:TypeId} {ks:List SK} {d:TypeDesc} (hu:P.underlying kt=some d) (hT:mD P kt false ks) {x:AV} {v:Value} (hx:Ks false ks x) (hv:VR g W w x v):∀ (kvs:List (AV × AV)) (es:List MapEntry) (i:Nat),es.length=kvs.length→(∀ p ∈ kvs,Ks false ks p.1) →
  (∀ j,j < kvs.length→VR g W w (kvs.getD j (.any,.any)).1 (es.getD j default).key)→Instr.findNow d v es i=some ((jq kvs x).map fun j=>(i + j,(es.getD j default).val))
 | [],[],i,_,_,_=>by simp[Instr.findNow,jq]
 | [],_::_,_,h,_,_=>by simp at h
 | _::_,[],_,h,_,_=>by simp at h
 | p::kvs,e::es,i,hl,hk,fv=>by
  have h0:=fv 0 au
  simp only[List.getD_cons_zero]at h0
  have ih:=RV hu hT hx hv kvs es (i + 1) (by simpa using hl) (fun q hq=>hk q (by simp[hq])) (fun j hj=>by simpa using fv (j + 1) (by simp;omega))
  have dI:∃ r:Bool,Instr.sameNow d v e.key=some r∧(r=true ↔ p.1=x):=by
   obtain ⟨cs,us,x1,x2,x3,x4,x5⟩:=key_holds hT hx hv
   obtain ⟨ds,vs,y1,y2,y3,y4,y5⟩:=key_holds hT (hk p au) h0
   have xm:=hT.sh
   have xn:=hT.wd
   unfold CE at xn
   unfold Uv at xm
   rw[hu]at xm xn
   simp only[Ws,hu]at x3 y3
   have oA:jo false p.1=some [p.1]:=by revert y1;cases p.1<;>simp[jo]
   have sq:jo false x=some [x]:=by revert x1;cases x<;>simp[jo]
   rw[sq]at x1;rw[oA]at y1
   cases x1;cases y1
   cases d<;>simp only[Option.some.injEq,reduceCtorEq]at xm xn
   case bool =>
    subst xm
    simp at x2 y2
    cases x<;>simp[Yy]at x2
    cases hp:p.1<;>rw[hp]at y2 h0<;>simp[Yy]at y2
    cases hv;cases hq:e.key<;>rw[hq]at h0<;>cases h0
    refine ⟨_,rfl,?_⟩
    simp;exact eq_comm
   case int k =>
    subst xm
    simp at x2 y2
    cases x<;>simp[Yy]at x2
    cases hp:p.1<;>rw[hp]at y2 h0<;>simp[Yy]at y2
    subst x2 y2
    cases hv;cases hq:e.key<;>rw[hq]at h0<;>cases h0
    refine ⟨_,by simp only[Instr.sameNow,if_true];rfl,?_⟩
    simp;exact eq_comm
   case string=>exact (hT.ns _ (by rw[← xm];simp) rfl).elim
   all_goals first|(cases xm;done)|(simp at xn;done)
  obtain ⟨r,hr,qz⟩:=dI
  unfold Instr.findNow
  rw[hr]
  unfold jq at ih ⊢
  rw[List.findIdx?_cons]
  cases r with
  | true=>simp[qz.1 rfl]
  | false =>
   have bY:¬ p.1=x:=fun h=>by have:=qz.2 h;cases this
   simp only[Bool.false_eq_true,if_false,bY,decide_false]
   rw[ih]
   generalize List.findIdx? _ kvs=o
   cases o with
   | none=>rfl
   | some j=>simp only[Option.map_some,List.getD_cons_succ];rw[show i + 1 + j=i + (j + 1) by omega]
theorem KP {kt:TypeId} {wide:Bool} {ks:List SK} (hT:mD P kt wide ks) {x:AV} {v:Value} (hx:Ks wide ks x) (hv:VR g W w x v) {kvs:List (AV × AV)} {es:List MapEntry} (hl:es.length=kvs.length) (hk:∀ p ∈ kvs,Ks wide ks p.1)
  (fv:∀ j,j < kvs.length→VR g W w (kvs.getD j (.any,.any)).1 (es.getD j default).key) (w':World):(Instr.findKey kt v es).run P w'=.ok ((jq kvs x).map fun j=>(j,(es.getD j default).val)) w':=by
 cases wide with
 | true =>
  have xn:=hT.wd
  unfold CE at xn
  rw[run_findKey_eq w' (by split at xn<;>simp_all) v es,RU hT hx hv kvs es 0 hl hk fv w']
  simp
 | false =>
  cases hu:P.underlying kt with
  | none=>have:=hT.sh;unfold Uv at this;rw[hu]at this;cases this
  | some d =>
   rw[MapKept.run_findKey hu (RV hu hT hx hv kvs es 0 hl hk fv)]
   simp
theorem Xtj {wide:Bool} {ks:List SK} (KQ:∀ k ∈ ks,k≠.str) {x:AV} {v:Value} (hx:Ks wide ks x) (hv:VR g W w x v):Instr.sameBits 10000 v v=true:=by
 obtain ⟨cs,h1,h2⟩:=KM hx
 have all:∀ c ∈ cs,∃ k,Yy c=some k∧k≠.str:=fun c hc=>by
  have:Yy c ∈ ks.map some:=by rw[← h2];exact List.mem_map_of_mem hc
  obtain ⟨k,tV,hk⟩:=List.mem_map.1 this
  exact ⟨k,hk.symm,KQ k tV⟩
 have one:∀ {y:AV} {k:SK} {a:Value} (n:Nat),Yy y=some k∧k≠.str→VR g W w y a→Instr.sameBits n a a=true:=by
  rintro y k a n ⟨hk,hk2⟩ ha
  cases y<;>simp[Yy]at hk<;>(try (exact (hk2 hk.symm).elim))<;>cases ha<;>cases n<;>simp[Instr.sameBits]
 cases x with
 | agg ds =>
  cases wide<;>simp[jo]at h1
  subst h1
  obtain ⟨a,rfl,a1,a2,a3⟩:=Wv hv
  show (a.size == a.size && (a.toList.zip a.toList).all fun (x,y)=>Instr.sameBits 9999 x y)=true
  simp only[beq_self_eq_true,Bool.true_and,List.all_eq_true]
  rintro ⟨u1,u2⟩ hm
  obtain ⟨j,hj,he⟩:=List.getElem_of_mem hm
  simp at hj
  simp only[List.getElem_zip,Prod.mk.injEq]at he
  obtain ⟨e1,e2⟩:=he
  subst e1 e2
  have mE:j < ds.length:=by omega
  obtain ⟨k,hk⟩:=all (ds.getD j .any) (by simp[List.getD,mE])
  have:=one 9999 hk (a3 j mE)
  simpa [Array.getD_eq_getD_getElem?,hj] using this
 | _ =>
  cases wide<;>simp[jo]at h1
  subst h1
  obtain ⟨k,hk⟩:=all _ (List.mem_singleton.2 rfl)
  exact one _ hk hv
end
def RW (P:Program) (t:TypeId):Option (Bool × List SK × AV):=match P.underlying t with
 | some (.map kt et)=>match Uv P 100 kt with
  | some ks=>if ks.all (fun k=>match k with|.str=>false|_=>true) then ((P.info? et).bind (·.zero)).map fun z=>(CE P kt,ks,tj z) else none
  | none=>none
 | _=>none
structure dG (P:Program) (t:TypeId) (wide:Bool) (ks:List SK) (z:AV):Prop where
 of:∃ kt et zv,P.underlying t=some (.map kt et)∧mD P kt wide ks∧(∀ w,(zeroValue et).run P w=.ok zv w)∧tj zv=z
theorem dG.mk' {P:Program} {t:TypeId} {wide:Bool} {ks:List SK} {z:AV} (h:RW P t=some (wide,ks,z)):dG P t wide ks z:=by
 unfold RW at h
 split at h
 ·rename_i kt et hu
  split at h
  ·rename_i ks' dX
   split at h
   ·rename_i KQ
    simp only[Option.map_eq_some_iff,Prod.mk.injEq]at h
    obtain ⟨zv,hz,rfl,rfl,rfl⟩:=h
    refine ⟨kt,et,zv,hu,⟨dX,rfl,fun k hk e=>?_⟩,fun w=>?_,rfl⟩
    ·have:=List.all_eq_true.1 KQ k hk
     subst e;cases this
    ·cases hi:P.info? et with
     | none=>rw[hi]at hz;cases hz
     | some i=>rw[hi]at hz;simp at hz;simp[zeroValue,typeInfo,hi,hz]
   ·cases h
  ·cases h
 ·cases h
noncomputable def pG (kvs:List (AV × AV)) (x z:AV):AV:=match jq kvs x with
 | some i=>(kvs.getD i (.any,.any)).2
 | none=>z
noncomputable def Ag (kvs:List (AV × AV)) (x:AV):Bool:=(jq kvs x).isSome
noncomputable def pH (kvs:List (AV × AV)) (x v:AV):List (AV × AV):=match jq kvs x with
 | some i=>kvs.set i (x,v)
 | none=>kvs++[(x,v)]
noncomputable def xo (kvs:List (AV × AV)) (x:AV):List (AV × AV):=match jq kvs x with
 | some i=>kvs.eraseIdx i
 | none=>kvs
noncomputable def Yfv (kvs:List (AV × AV)) (x z:AV):List (AV × AV):=match jq kvs x with
 | some _=>kvs
 | none=>kvs++[(x,z)]
noncomputable def vg (kvs:List (AV × AV)) (x:AV):Nat:=(jq kvs x).getD kvs.length
def Ah (wide:Bool) (ks:List SK) (kvs:List (AV × AV)):Prop:=∀ p ∈ kvs,Ks wide ks p.1
theorem KR {kvs:List (AV × AV)} {x:AV} {i:Nat} (h:jq kvs x=some i):i < kvs.length∧(kvs.getD i (.any,.any)).1=x:=by
 unfold jq at h
 obtain ⟨hi,h1,_⟩:=List.findIdx?_eq_some_iff_getElem.1 h
 refine ⟨hi,?_⟩
 have e:kvs.getD i (.any,.any)=kvs[i]:=by simp[List.getD,hi]
 rw[e];exact @of_decide_eq_true _ (Classical.propDecidable _) h1
section
variable {P:Program} {c:Cx} {ops:Array Oper} {io:Oper} {g:Nat→GM} {s:FS} {a:Act} {w:World}
theorem CF (hR:R c g s a w) {b k:Nat} {kvs:List (AV × AV)} {dn:Bool} (hb:s.H b=.aC kvs dn) (hg:g b=.re k):∃ es clock,w.heap[k]?=some (.map es clock)∧es.size=kvs.length ∧
  (∀ j,j < kvs.length→VR g (Qn c g s) w (kvs.getD j (.any,.any)).1 (es.getD j default).key)∧(∀ j,j < kvs.length→VR g (Qn c g s) w (kvs.getD j (.any,.any)).2 (es.getD j default).val) ∧
  (∀ j,j < es.size→(es.getD j default).born < clock)∧(∀ i j,i < j→j < es.size→(es.getD i default).born < (es.getD j default).born)∧(dn=true→(∀ j,j < es.size→(es.getD j default).born=j)∧clock=es.size):=by
 have:=hR.h b
 rw[hb,hg]at this
 cases this with
 | aC h1 h2 h3 h4 h5 h6 h7=>exact ⟨_,_,h1,h2,h3,h4,h5,h6,h7⟩
theorem vH {es:Array MapEntry} (j:Nat):es.toList.getD j default=es.getD j default:=by simp[Array.getD_eq_getD_getElem?,List.getD]
theorem Ga {k:Nat} {o:Obj} {es:Array MapEntry} {clock:Nat} (hk:w.heap[k]?=some (.map es clock)):(setObj k o).run P w=.ok () { w with heap:=w.heap.setIfInBounds k o }:=by
 simp[setObj,Sem.run,hk]
theorem Xog {k:Nat} {es es':Array MapEntry} {clock clock':Nat} (hk:w.heap[k]?=some (.map es clock)):Fr w { w with heap:=w.heap.setIfInBounds k (.map es' clock') } (fun i=>i=k) :=
 ⟨rfl,rfl,rfl,by simp,fun i _ bY=>by simp only[Array.getElem?_setIfInBounds];rw[if_neg fun e=>bY e.symm],fun i cur e fz hi=>by
  by_cases h:i=k
  ·subst h;rw[hk]at hi;cases hi
  ·exact ⟨cur,by simp only[Array.getElem?_setIfInBounds];rw[if_neg fun e=>h e.symm];exact hi,rfl⟩⟩
theorem Xl5 {k:Nat} {o o':Obj} (hk:w.heap[k]?=some o):({ w with heap:=w.heap.setIfInBounds k o' }:World).heap[k]?=some o':=by
 have:=Wx hk
 simp[this]
theorem R.ke (hR:R c g s a w) {b k:Nat} {kvs kvs':List (AV × AV)} {dn dn':Bool} {es es':Array MapEntry} {clock clock':Nat} (hb:s.H b=.aC kvs dn) (hg:g b=.re k) (hk:w.heap[k]?=some (.map es clock)) (hs:es'.size=kvs'.length)
  (h1:∀ j,j < kvs'.length→VR g (Qn c g s) w (kvs'.getD j (.any,.any)).1 (es'.getD j default).key) (h2:∀ j,j < kvs'.length→VR g (Qn c g s) w (kvs'.getD j (.any,.any)).2 (es'.getD j default).val)
  (h3:∀ j,j < es'.size→(es'.getD j default).born < clock') (h4:∀ i j,i < j→j < es'.size→(es'.getD i default).born < (es'.getD j default).born) (h5:dn'=true→(∀ j,j < es'.size→(es'.getD j default).born=j)∧clock'=es'.size) :
  R c g (s.aK b (.aC kvs' dn')) a { w with heap:=w.heap.setIfInBounds k (.map es' clock') }:=by
 have aO:(s.H b).live:=by rw[hb];trivial
 have hf:=Xog (es':=es') (clock':=clock') hk
 have vt:Qn c g s k:=.inr ⟨b,aO,hg⟩
 have hm:∀ {x v},VR g (Qn c g s) w x v→VR g (Qn c g s) { w with heap:=w.heap.setIfInBounds k (.map es' clock') } x v:=fun h=>h.mono (hf.weak fun i hi=>hi ▸ vt) (fun _ _ h=>h) (fun _ _=>rfl)
 exact hR.setBlock hg aO trivial hf (.aC (Xl5 hk) hs (fun j hj=>hm (h1 j hj)) (fun j hj=>hm (h2 j hj)) h3 h4 h5)
theorem R.gg (hR:R c g s a w) {b:Nat} {kvs:List (AV × AV)} {dn:Bool} (hb:s.H b=.aC kvs dn):R c g (s.aK b (.aC kvs false)) a w:=by
 have h:=hR.h b
 rw[hb]at h
 generalize hg:g b=m at h
 cases h with
 | aC h1 h2 h3 h4 h5 h6 h7 =>
  exact hR.setBlock hg (by rw[hb];trivial) trivial (Fr.refl _ _) (.aC h1 h2 h3 h4 h5 h6 fun h=>by cases h)
theorem Xyy (hR:R c g s a w) {t:TypeId} {wide:Bool} {ks:List SK} {z:AV} (hT:dG P t wide ks z) {b:Nat} {kvs:List (AV × AV)} {dn:Bool} (hb:s.H b=.aC kvs dn) {x:AV} {m v:Value} (hm:VR g (Qn c g s) w (.mp b) m) (hx:VR g (Qn c g s) w x v) (su:Ks wide ks x) (dX:Ah wide ks kvs) (ok:Bool) :
  ∃ r,(Instr.lookup t m v ok).run P w=.ok r w∧VR g (Qn c g s) w (bif ok then .aU [pG kvs x z,.bool (Ag kvs x)] else pG kvs x z) r:=by
 obtain ⟨kt,et,zv,hu,hK,hz,rfl⟩:=hT.of
 obtain ⟨k,rfl,hg⟩:=BK hm
 obtain ⟨es,clock,q1,q2,q3,q4,q5,q6,q7⟩:=CF hR hb hg
 have jm:=KP hK su hx (kvs:=kvs) (es:=es.toList) (by simpa using q2) dX (fun j hj=>by rw[vH];exact q3 j hj) w
 have cX:=KO hK su hx es.isEmpty w
 have eW:(getObj k).run P w=.ok (.map es clock) w:=by simp[getObj,Sem.run,q1]
 have fD:∃ r0,VR g (Qn c g s) w (pG kvs x (tj zv)) r0∧(Instr.lookup t (.map (some k)) v ok).run P w=.ok (if ok then .tuple #[r0,.bool (Ag kvs x)] else r0) w:=by
  unfold pG Ag
  cases hf:jq kvs x with
  | none =>
   rw[hf]at jm
   refine ⟨zv,Fe zv,?_⟩
   simp only[Instr.lookup,Sem.run_bind,run_underlying hu,Result.andThen_ok,eW,cX,jm,Option.map_none,hz,Sem.run_pure]
   rfl
  | some i =>
   rw[hf]at jm
   obtain ⟨hi,_⟩:=KR hf
   refine ⟨_,q4 i hi,?_⟩
   simp only[Instr.lookup,Sem.run_bind,run_underlying hu,Result.andThen_ok,eW,cX,jm,Option.map_some,Sem.run_pure,vH]
   rfl
 obtain ⟨r0,hv,hr⟩:=fD
 refine ⟨_,hr,?_⟩
 cases ok with
 | false=>exact hv
 | true =>
  refine .aU rfl fun j hj=>?_
  match j,hj with
  | 0,_=>exact hv
  | 1,_=>exact .bool _
  | j + 2,hj=>simp at hj;omega
theorem Ai {es:Array MapEntry} {e:MapEntry} (j:Nat):(es.push e).getD j default=if j=es.size then e else es.getD j default:=by
 simp only[Array.getD_eq_getD_getElem?,Array.getElem?_push]
 split<;>rfl
theorem KS {es:Array MapEntry} {f:MapEntry→MapEntry} {i:Nat} (hi:i < es.size) (j:Nat):(es.modify i f).getD j default=if j=i then f (es.getD j default) else es.getD j default:=by
 simp only[Array.getD_eq_getD_getElem?,Array.getElem?_modify]
 by_cases h:j=i
 ·subst h;simp[hi]
 ·rw[if_neg h,if_neg fun e=>h e.symm]
theorem RX {kvs:List (AV × AV)} {p:AV × AV} (j:Nat):(kvs++[p]).getD j (.any,.any)=if j=kvs.length then p else kvs.getD j (.any,.any):=by
 by_cases h:j=kvs.length
 ·subst h;simp[List.getD]
 ·rw[if_neg h]
  rcases Nat.lt_or_ge j kvs.length with h1|h1
  ·simp[List.getD,List.getElem?_append_left h1]
  ·have:(kvs++[p])[j]?=none:=List.getElem?_eq_none (by simp;omega)
   simp[List.getD,this,List.getElem?_eq_none h1]
theorem RY {kvs:List (AV × AV)} {p:AV × AV} {i:Nat} (hi:i < kvs.length) (j:Nat):(kvs.set i p).getD j (.any,.any)=if j=i then p else kvs.getD j (.any,.any):=by
 by_cases h:j=i
 ·subst h;simp[List.getD,hi]
 ·rw[if_neg h];simp[List.getD,List.getElem?_set_ne fun e=>h e.symm]
theorem Yfb (hR:R c g s a w) {b k:Nat} {kvs:List (AV × AV)} {dn:Bool} (hb:s.H b=.aC kvs dn) (hg:g b=.re k) {es:Array MapEntry} {clock:Nat} (q1:w.heap[k]?=some (.map es clock)) {i:Nat} (hi:i < kvs.length) {y:AV} {u:Value} (hy:VR g (Qn c g s) w y u) {f:MapEntry→MapEntry}
  (xq:∀ e,(f e).born=e.born) (jx:(f (es.getD i default)).val=u) (hf3:(f (es.getD i default)).key=(es.getD i default).key) :
  R c g (s.aK b (.aC (kvs.set i ((kvs.getD i (.any,.any)).1,y)) dn)) a { w with heap:=w.heap.setIfInBounds k (.map (es.modify i f) clock) }:=by
 obtain ⟨es',clock',r1,q2,q3,q4,q5,q6,q7⟩:=CF hR hb hg
 rw[q1]at r1;cases r1
 have jN:i < es.size:=by omega
 have dE:∀ j,((es.modify i f).getD j default).born=(es.getD j default).born:=fun j=>by
  rw[KS jN];split
  ·exact xq _
  ·rfl
 refine hR.ke hb hg q1 (by simp;exact q2) (fun j hj=>?_) (fun j hj=>?_) (fun j hj=>?_) (fun i' j iM hj=>?_) (fun hd=>?_)
 ·rw[List.length_set]at hj
  rw[RY hi,KS jN]
  split
  ·rename_i e;subst e;rw[hf3];exact q3 _ hj
  ·exact q3 _ hj
 ·rw[List.length_set]at hj
  rw[RY hi,KS jN]
  split
  ·rename_i e;subst e;rw[jx];exact hy
  ·exact q4 _ hj
 ·rw[dE];exact q5 j (by simpa using hj)
 ·rw[dE,dE];exact q6 i' j iM (by simpa using hj)
 ·obtain ⟨d1,d2⟩:=q7 hd
  exact ⟨fun j hj=>by rw[dE];exact d1 j (by simpa using hj),by simpa using d2⟩
theorem Yci (hR:R c g s a w) {b k:Nat} {kvs:List (AV × AV)} {dn:Bool} (hb:s.H b=.aC kvs dn) (hg:g b=.re k) {es:Array MapEntry} {clock:Nat} (q1:w.heap[k]?=some (.map es clock)) {x y:AV} {v u:Value} (hx:VR g (Qn c g s) w x v) (hy:VR g (Qn c g s) w y u) :
  R c g (s.aK b (.aC (kvs++[(x,y)]) dn)) a { w with heap:=w.heap.setIfInBounds k (.map (es.push { key:=v,val:=u,born:=clock }) (clock + 1)) }:=by
 obtain ⟨es',clock',r1,q2,q3,q4,q5,q6,q7⟩:=CF hR hb hg
 rw[q1]at r1;cases r1
 refine hR.ke hb hg q1 (by simp;exact q2) (fun j hj=>?_) (fun j hj=>?_) (fun j hj=>?_) (fun i j iM hj=>?_) (fun hd=>?_)
 ·rw[List.length_append,List.length_singleton]at hj
  rw[RX,Ai,q2]
  split
  ·exact hx
  ·exact q3 j ae
 ·rw[List.length_append,List.length_singleton]at hj
  rw[RX,Ai,q2]
  split
  ·exact hy
  ·exact q4 j ae
 ·rw[Array.size_push]at hj
  rw[Ai]
  split
  ·show clock < clock + 1;omega
  ·have:=q5 j ae;omega
 ·rw[Array.size_push]at hj
  rw[Ai,Ai,if_neg ae]
  split
  ·exact q5 i ae
  ·exact q6 i j iM ae
 ·obtain ⟨d1,d2⟩:=q7 hd
  refine ⟨fun j hj=>?_,by rw[Array.size_push];omega⟩
  rw[Array.size_push]at hj
  rw[Ai]
  split
  ·rename_i e;show clock=j;omega
  ·exact d1 j ae
theorem Xxk (hR:R c g s a w) {t:TypeId} {wide:Bool} {ks:List SK} {z:AV} (hT:dG P t wide ks z) {b:Nat} {kvs:List (AV × AV)} {dn:Bool} (hb:s.H b=.aC kvs dn) {x y:AV} {m v u:Value} (hm:VR g (Qn c g s) w (.mp b) m) (hx:VR g (Qn c g s) w x v) (hy:VR g (Qn c g s) w y u)
  (su:Ks wide ks x) (dX:Ah wide ks kvs):∃ w',(Instr.mapUpdate t m v u).run P w=.ok () w'∧R c g (s.aK b (.aC (pH kvs x y) dn)) a w':=by
 obtain ⟨kt,et,zv,hu,hK,hz,rfl⟩:=hT.of
 obtain ⟨k,rfl,hg⟩:=BK hm
 obtain ⟨es,clock,q1,q2,q3,q4,q5,q6,q7⟩:=CF hR hb hg
 have jm:=KP hK su hx (kvs:=kvs) (es:=es.toList) (by simpa using q2) dX (fun j hj=>by rw[vH];exact q3 j hj) w
 have cX:=KO hK su hx false w
 have eW:(getObj k).run P w=.ok (.map es clock) w:=by simp[getObj,Sem.run,q1]
 have ib:=Wx q1
 unfold pH
 cases hf:jq kvs x with
 | none =>
  rw[hf]at jm
  refine ⟨_,?_,Yci hR hb hg q1 hx hy⟩
  simp only[Instr.mapUpdate,Sem.run_bind,run_underlying hu,Result.andThen_ok,eW,cX,jm,Option.map_none,Ga q1]
 | some i =>
  rw[hf]at jm
  obtain ⟨hi,KT⟩:=KR hf
  have jN:i < es.size:=by omega
  have h3:=q3 i hi
  rw[KT]at h3
  have KU:(es.getD i default).key=v:=Xxj su h3 hx
  have ji:Instr.sameBits 10000 v v=true:=Xtj hK.ns su hx
  have vI:(Instr.keyThatStays (((es[i]?).map (·.key)).getD v) v).run P w=.ok v w:=by
   have e:((es[i]?).map (·.key)).getD v=v:=by
    have:es.getD i default=es[i]:=by simp[Array.getD_eq_getD_getElem?,jN]
    rw[Array.getElem?_eq_getElem jN]
    rw[this]at KU
    simpa using KU
   rw[e]
   simp[Instr.keyThatStays,ji]
  have br:=Yfb hR hb hg q1 hi hy (f:=fun e=>{ e with key:=v,val:=u }) (fun _=>rfl) rfl KU.symm
  rw[KT]at br
  refine ⟨_,?_,br⟩
  simp only[Instr.mapUpdate,Sem.run_bind,run_underlying hu,Result.andThen_ok,eW,cX,jm,Option.map_some,vI,Ga q1]
end
def fy:List AV→Nat
 | .mp b::_=>b
 | _=>0
def Gb:List AV→Prop
 | .mp _::_=>True
 | _=>False
def mF:List AV→AV
 | _::x::_=>x
 | _=>.any
def Aj:List AV→AV
 | _::_::x::_=>x
 | _=>.any
def CG:List AV→Int
 | _::.int _ n::_=>n
 | _=>0
def RZ:List AV→Prop
 | _::.int .i64 _::_=>True
 | _=>False
def ky:Bk→List (AV × AV)
 | .aC kvs _=>kvs
 | _=>[]
def CH:Bk→Bool
 | .aC _ dn=>dn
 | _=>false
def Gc:Bk→Prop
 | .aC _ _=>True
 | _=>False
theorem Yef (b:Nat) (r:List AV):fy (.mp b::r)=b:=rfl
theorem Yd3 (b:Nat) (r:List AV):Gb (.mp b::r)=True:=rfl
theorem Yc8 (x y:AV) (r:List AV):mF (x::y::r)=y:=rfl
theorem Ycc (x y z:AV) (r:List AV):Aj (x::y::z::r)=z:=rfl
theorem Yc9 (x:AV) (k:IntKind) (n:Int) (r:List AV):CG (x::.int k n::r)=n:=rfl
theorem Ya1 (x:AV) (n:Int) (r:List AV):RZ (x::.int .i64 n::r)=True:=rfl
theorem Yem (kvs:List (AV × AV)) (dn:Bool):ky (.aC kvs dn)=kvs:=rfl
theorem Yeg (kvs:List (AV × AV)) (dn:Bool):CH (.aC kvs dn)=dn:=rfl
theorem Xwl (kvs:List (AV × AV)) (dn:Bool):Gc (.aC kvs dn)=True:=rfl
theorem Qz3 (ks:List SK) (cs:List AV):Ks true ks (.agg cs)=(cs.map Yy=ks.map some):=by simp[Ks,jo]
theorem Xap (k:IntKind) (n:Int):Ks false [.int k] (.int k n)=True:=by simp[Ks,jo,Yy]
theorem Xaj (k:IntKind) (n:Int):Yy (.int k n)=some (.int k):=rfl
theorem Qvm (b:Bool):Yy (.bool b)=some .bool:=rfl
attribute [go_sem] Yef Yd3 Yc8 Ycc Yc9 Ya1 Yem Yeg Xwl Qz3 Xap Xaj Qvm
theorem KV {vs:List AV} (h:Gb vs):∃ b r,vs=.mp b::r:=by
 match vs,h with
 | .mp b::r,_=>exact ⟨b,r,rfl⟩
theorem KW {x:Bk} (h:Gc x):∃ kvs dn,x=.aC kvs dn:=by
 cases x<;>first|exact h.elim|exact ⟨_,_,rfl⟩
section
variable {P:Program} {c:Cx} {ops:Array Oper} {io:Oper}
theorem Xss {o:Oper} {t:TypeId} {ok:Bool} {xs:List Operand} (h:Xy P o=some (.zA t ok,xs)):∃ m k,o.op=.lookup t m k ok∧xs=[m,k]:=by
 unfold Xy at h
 repeat' split at h
 all_goals first
  | (cases h;exact ⟨_,_,by assumption,rfl⟩)
  | (simp at h;done)
  | (cases h;done)
  | (simp[Option.map_eq_some_iff]at h;done)
theorem Xta {o:Oper} {t:TypeId} {xs:List Operand} (h:Xy P o=some (.BP t,xs)):∃ m k v,o.op=.mapUpdate t m k v∧xs=[m,k,v]:=by
 unfold Xy at h
 repeat' split at h
 all_goals first
  | (cases h;exact ⟨_,_,_,by assumption,rfl⟩)
  | (simp at h;done)
  | (cases h;done)
  | (simp[Option.map_eq_some_iff]at h;done)
theorem Xvg {o:Oper} {t:TypeId} {xs:List Operand} (h:Xy P o=some (.Ft t,xs)):∃ r,o.op=.makeMap t r∧(r=none∨∃ k n,r=some (.const (.int k n)))∧xs=[]:=by
 unfold Xy at h
 repeat' split at h
 all_goals first
  | (rename_i hh;exact Bool.noConfusion hh)
  | (cases h;exact ⟨_,by assumption,.inl rfl,rfl⟩)
  | (cases h;exact ⟨_,by assumption,.inr ⟨_,_,rfl⟩,rfl⟩)
  | (simp at h;done)
  | (cases h;done)
  | (simp[Option.map_eq_some_iff]at h;done)
theorem Ydx {s:FS} {d:Nat} {V:AV} {rt rb:List Nat} (hg:io.guard=none) (bg:io.dst=some d) (hd:d < c.N)
  (core:∀ s2:FS,(∀ i ∈ rt,s2.T i=s.T i)→(∀ b ∈ rb,s2.H b=s.H b)→∀ g a w,R c g s2 a w→∃ v',(execOp a.eval io).run P w=.ok (.value v') w∧VR g (Qn c g s2) w V v') :
  og P c ops io s ⟨rt,rb,[d],[]⟩ (s.put d V):=by
 refine ⟨fun i hi=>?_,fun j hj=>rfl,fun s2 hT hH g a w hR K Q' hK=>Ys hg ?_⟩
 ·rw[FS.dh,if_neg (fun e=>hi (by simp[e]))]
 ·obtain ⟨v',hr,hv⟩:=core s2 hT hH g a w hR
  unfold Oper.wp
  rw[hr]
  show K (a.put io.dst v') w
  rw[bg]
  refine hK g _ w ?_
  rw[wW]
  exact hR.put hd hv
theorem Ycs {s:FS} {b d:Nat} {X:Bk} {V:AV} {rt rb:List Nat} (hg:io.guard=none) (bg:io.dst=some d) (hd:d < c.N)
  (core:∀ s2:FS,(∀ i ∈ rt,s2.T i=s.T i)→(∀ b ∈ rb,s2.H b=s.H b)→∀ g a w,R c g s2 a w→∃ g' v' w',(execOp a.eval io).run P w=.ok (.value v') w'∧R c g' (s2.aK b X) a w'∧VR g' (Qn c g' (s2.aK b X)) w' V v') :
  og P c ops io s ⟨rt,rb,[d],[b]⟩ ((s.aK b X).put d V):=by
 refine ⟨fun i hi=>?_,fun j hj=>?_,fun s2 hT hH g a w hR K Q' hK=>Ys hg ?_⟩
 ·rw[FS.dh,if_neg (fun e=>hi (by simp[e]))];rfl
 ·rw[FS.qd,FS.bb,if_neg (fun e=>hj (by simp[e]))]
 ·obtain ⟨g',v',w',hr,bf,hv⟩:=core s2 hT hH g a w hR
  unfold Oper.wp
  rw[hr]
  show K (a.put io.dst v') w'
  rw[bg]
  refine hK g' _ w' ?_
  rw[PH]
  exact bf.put hd hv
theorem Ydn {s:FS} {b:Nat} {X:Bk} {rt rb:List Nat} (hg:io.guard=none) (bg:io.dst=none)
  (core:∀ s2:FS,(∀ i ∈ rt,s2.T i=s.T i)→(∀ b ∈ rb,s2.H b=s.H b)→∀ g a w,R c g s2 a w→∃ g' w',(execOp a.eval io).run P w=.ok .skip w'∧R c g' (s2.aK b X) a w') :
  og P c ops io s ⟨rt,rb,[],[b]⟩ (s.aK b X):=by
 refine ⟨fun i hi=>rfl,fun j hj=>?_,fun s2 hT hH g a w hR K Q' hK=>Ys hg ?_⟩
 ·rw[FS.bb,if_neg (fun e=>hj (by simp[e]))]
 ·obtain ⟨g',w',hr,bf⟩:=core s2 hT hH g a w hR
  unfold Oper.wp
  rw[hr]
  show K (a.put io.dst undef) w'
  rw[bg]
  refine hK g' _ w' ?_
  rw[BS]
  exact bf
def pI (s:FS) (wide:Bool) (ks:List SK) (vs:List AV):Prop:=Gb vs∧Gc (s.H (fy vs))∧Ks wide ks (mF vs)∧Ah wide ks (ky (s.H (fy vs)))
noncomputable def Ak (s:FS) (z:AV) (ok:Bool) (vs:List AV):AV:=bif ok then .aU [pG (ky (s.H (fy vs))) (mF vs) z,.bool (Ag (ky (s.H (fy vs))) (mF vs))] else pG (ky (s.H (fy vs))) (mF vs) z
def sv (s:FS) (gl:Nat→AV) (xs:List TV) (wt:List Nat) (wr:Bool):bp:=⟨Xf xs,[fy ((aF gl s xs).map Qj)],wt,bif wr then [fy ((aF gl s xs).map Qj)] else []⟩
theorem KX {s:St} {d:Nat} {t:TypeId} {ok:Bool} {xs:List TV} {wide:Bool} {ks:List SK} {z:AV} (hT:dG P t wide ks z) (hc:Qt none (aF c.gl s.fs xs)) (aX:pI s.fs wide ks ((aF c.gl s.fs xs).map Qj)) :
  Kv P c (.pd (some d) (.zA t ok) xs none) s.fs (sv s.fs c.gl xs [d] false) (s.put d (Ak s.fs z ok ((aF c.gl s.fs xs).map Qj))).fs:=by
 intro ops io he
 obtain ⟨bc,bg,hd,ys,aH,rfl⟩:=Zl he
 obtain ⟨m,k,bl,rfl⟩:=Xss aH
 have fN:(aF c.gl s.fs ([m,k].map aS)).map Qj=[Qj (aZ c.gl s.fs (aS m)),Qj (aZ c.gl s.fs (aS k))]:=rfl
 unfold sv
 rw[fN]at aX ⊢
 generalize R0:Qj (aZ c.gl s.fs (aS m))=vm at *
 generalize Cc:Qj (aZ c.gl s.fs (aS k))=vk at *
 obtain ⟨h1,h2,h3,h4⟩:=aX
 obtain ⟨b,r,hb⟩:=KV h1
 injection hb with fP dE
 subst fP
 obtain ⟨kvs,dn,lQ⟩:=KW h2
 simp only[Ak,fy,mF,cond_false]at h3 h4 lQ ⊢
 rw[lQ]at h4 ⊢
 simp only[ky]at h4 ⊢
 rw[St.bS]
 refine Ydx (Ka bc) bg (by simpa using hd) fun s2 fA sx g a w hR=>?_
 have bj:aF c.gl s2 ([m,k].map aS)=aF c.gl s.fs ([m,k].map aS):=Xu fA
 have fv:=Xx (hR.aF [m,k]) (by rw[bj];exact hc)
 rw[bj,fN]at fv
 obtain ⟨v1,v2,_⟩:=fv
 obtain ⟨r0,hr,hv⟩:=Xyy hR hT (b:=b) (kvs:=kvs) (dn:=dn) (by rw[sx b au,lQ]) v1 v2 h3 h4 ok
 refine ⟨r0,?_,hv⟩
 unfold execOp
 simp only[bl]
 exact Zo hr
theorem nt {r0:List bG} {K:St→Prop} {s:St} {d:Nat} {t:TypeId} {ok:Bool} {xs:List TV} {wide:Bool} {ks:List SK} {z:AV} (hT:dG P t wide ks z) (h:Qt none (aF c.gl s.fs xs)∧pI s.fs wide ks ((aF c.gl s.fs xs).map Qj)∧XP P c r0 K (s.put d (Ak s.fs z ok ((aF c.gl s.fs xs).map Qj)))) :
  Xw P c (.pd (some d) (.zA t ok) xs none) r0 K s:=.inl ⟨_,_,KX hT h.1 h.2.1,h.2.2⟩
theorem Ww {anc:List Nat} {fs:List bp} {r0:List bG} {K:St→Prop} {s:St} {d:Nat} {t:TypeId} {ok:Bool} {xs:List TV} {wide:Bool} {ks:List SK} {z:AV} (hT:dG P t wide ks z) (h:Qt none (aF c.gl s.fs xs)∧pI s.fs wide ks ((aF c.gl s.fs xs).map Qj)∧XD P c anc r0 (sv s.fs c.gl xs [d] false::fs) K (s.put d (Ak s.fs z ok ((aF c.gl s.fs xs).map Qj)))) :
  Zi P c anc (.pd (some d) (.zA t ok) xs none) r0 fs K s:=⟨_,_,KX hT h.1 h.2.1,h.2.2⟩
def CI (s:FS) (vs:List AV) (kvs:List (AV × AV)):Bk:=.aC kvs (CH (s.H (fy vs)))
theorem R1 {s:St} {t:TypeId} {xs:List TV} {wide:Bool} {ks:List SK} {z:AV} (hT:dG P t wide ks z) (hc:Qt none (aF c.gl s.fs xs)) (aX:pI s.fs wide ks ((aF c.gl s.fs xs).map Qj)) :
  Kv P c (.pd none (.BP t) xs none) s.fs (sv s.fs c.gl xs [] true) (s.aK (fy ((aF c.gl s.fs xs).map Qj)) (CI s.fs ((aF c.gl s.fs xs).map Qj) (pH (ky (s.fs.H (fy ((aF c.gl s.fs xs).map Qj)))) (mF ((aF c.gl s.fs xs).map Qj)) (Aj ((aF c.gl s.fs xs).map Qj))))).fs:=by
 intro ops io he
 obtain ⟨bc,bg,hd,ys,aH,rfl⟩:=Zl he
 obtain ⟨m,k,v,bl,rfl⟩:=Xta aH
 have fN:(aF c.gl s.fs ([m,k,v].map aS)).map Qj=[Qj (aZ c.gl s.fs (aS m)),Qj (aZ c.gl s.fs (aS k)),Qj (aZ c.gl s.fs (aS v))]:=rfl
 unfold sv
 rw[fN]at aX ⊢
 generalize R0:Qj (aZ c.gl s.fs (aS m))=vm at *
 generalize Cc:Qj (aZ c.gl s.fs (aS k))=vk at *
 generalize tw:Qj (aZ c.gl s.fs (aS v))=vv at *
 obtain ⟨h1,h2,h3,h4⟩:=aX
 obtain ⟨b,r,hb⟩:=KV h1
 injection hb with fP dE
 subst fP
 obtain ⟨kvs,dn,lQ⟩:=KW h2
 simp only[CI,fy,mF,Aj,cond_true]at h3 h4 lQ ⊢
 rw[lQ]at h4 ⊢
 simp only[ky,CH]at h4 ⊢
 rw[St.cL]
 refine Ydn (Ka bc) bg fun s2 fA sx g a w hR=>?_
 have bj:aF c.gl s2 ([m,k,v].map aS)=aF c.gl s.fs ([m,k,v].map aS):=Xu fA
 have fv:=Xx (hR.aF [m,k,v]) (by rw[bj];exact hc)
 rw[bj,fN]at fv
 obtain ⟨v1,v2,v3,_⟩:=fv
 obtain ⟨w',hr,bf⟩:=Xxk hR hT (b:=b) (kvs:=kvs) (dn:=dn) (by rw[sx b au,lQ]) v1 v2 v3 h3 h4
 refine ⟨g,w',?_,bf⟩
 unfold execOp
 simp only[bl,Sem.run_bind,hr,Result.andThen_ok,Sem.run_pure]
theorem CJ {r0:List bG} {K:St→Prop} {s:St} {t:TypeId} {xs:List TV} {wide:Bool} {ks:List SK} {z:AV} (hT:dG P t wide ks z) (h:Qt none (aF c.gl s.fs xs)∧pI s.fs wide ks ((aF c.gl s.fs xs).map Qj)∧XP P c r0 K (s.aK (fy ((aF c.gl s.fs xs).map Qj)) (CI s.fs ((aF c.gl s.fs xs).map Qj) (pH (ky (s.fs.H (fy ((aF c.gl s.fs xs).map Qj)))) (mF ((aF c.gl s.fs xs).map Qj)) (Aj ((aF c.gl s.fs xs).map Qj)))))) :
  Xw P c (.pd none (.BP t) xs none) r0 K s:=.inl ⟨_,_,R1 hT h.1 h.2.1,h.2.2⟩
theorem CK {anc:List Nat} {fs:List bp} {r0:List bG} {K:St→Prop} {s:St} {t:TypeId} {xs:List TV} {wide:Bool} {ks:List SK} {z:AV} (hT:dG P t wide ks z) (h:Qt none (aF c.gl s.fs xs)∧pI s.fs wide ks ((aF c.gl s.fs xs).map Qj)∧XD P c anc r0 (sv s.fs c.gl xs [] true::fs) K (s.aK (fy ((aF c.gl s.fs xs).map Qj)) (CI s.fs ((aF c.gl s.fs xs).map Qj) (pH (ky (s.fs.H (fy ((aF c.gl s.fs xs).map Qj)))) (mF ((aF c.gl s.fs xs).map Qj)) (Aj ((aF c.gl s.fs xs).map Qj)))))) :
  Zi P c anc (.pd none (.BP t) xs none) r0 fs K s:=⟨_,_,R1 hT h.1 h.2.1,h.2.2⟩
def Yfe (s:FS) (wide:Bool) (ks:List SK) (vs:List AV):Prop:=pI s wide ks vs∧CH (s.H (fy vs))=true
noncomputable def Yg1 (s:FS) (z:AV) (vs:List AV):AV:=.aU [pG (ky (s.H (fy vs))) (mF vs) z,.int .i64 (vg (ky (s.H (fy vs))) (mF vs))]
noncomputable def Yfp (s:FS) (z:AV) (vs:List AV):Bk:=.aC (Yfv (ky (s.H (fy vs))) (mF vs) z) true
theorem VR.CM {g:Nat→GM} {s:FS} {b:Nat} {X:Bk} {w w':World} {x:AV} {v:Value} (h:VR g (Qn c g s) w x v) (hb:(s.H b).live) (hX:X.live) (hf:Fr w w' (fun i=>g b=.re i)):VR g (Qn c g (s.aK b X)) w' x v :=
 h.mono (hf.weak fun i hi=>.inr ⟨b,hb,hi⟩) (fun k _ hk=>by
  rcases hk with h|⟨b',h1,h2⟩
  ·exact .inl h
  ·rw[FS.bb]at h1
   split at h1
   ·rename_i e;subst e;exact .inr ⟨_,hb,h2⟩
   ·exact .inr ⟨b',h1,h2⟩) (fun _ _=>rfl)
def Yfc (s:FS) (vs:List AV):Prop:=Gb vs∧Gc (s.H (fy vs))∧CH (s.H (fy vs))=true∧RZ vs∧0≤CG vs∧CG vs < (ky (s.H (fy vs))).length
def Yfq (s:FS) (vs:List AV):Bk:=.aC ((ky (s.H (fy vs))).set (CG vs).toNat (((ky (s.H (fy vs))).getD (CG vs).toNat (.any,.any)).1,Aj vs)) true
theorem Xx1 {s:St} {d:Nat} {t:TypeId} {wide:Bool} {ks:List SK} {z:AV} (hT:dG P t wide ks z) (hf:s.fs.H s.n=.free):Kv P c (.pd (some d) (.Ft t) [] none) s.fs ⟨[],[s.n],[d],[s.n]⟩ ((s.nw (.aC [] true)).put d (.mp s.n)).fs:=by
 intro ops io he
 obtain ⟨bc,bg,hd,ys,aH,mw⟩:=Zl he
 obtain ⟨r,bl,hr,rfl⟩:=Xvg aH
 obtain ⟨kt,et,zv,hu,_,_,_⟩:=hT.of
 rw[St.bS,St.gW]
 refine Ycs (Ka bc) bg (by simpa using hd) fun s2 fA sx g a w hR=>?_
 have bq:s2.H s.n=.free:=by rw[sx _ au];exact hf
 have bV:=heap_alloc_new w (.map #[] 0)
 have dL:(execOp a.eval io).run P w=.ok (.value (.map (some w.heap.size))) (w.alloc (.map #[] 0)):=by
  rcases hr with rfl|⟨k,n,rfl⟩
  ·simp[execOp,bl,Instr.makeMap,newObj,Sem.run]
  ·simp[execOp,bl,Instr.makeMap,newObj,Sem.run_bind,run_underlying hu,asInt,asIntOf,Act.eval];simp[Sem.run]
 refine ⟨_,_,_,dL,hR.new (.map #[] 0) bq trivial fun g' fh=>?_,.mp (by simp[Za])⟩
 exact .aC bV rfl (fun j hj=>by simp at hj) (fun j hj=>by simp at hj) (fun j hj=>by simp at hj) (fun i j _ hj=>by simp at hj) (fun _=>⟨fun j hj=>by simp at hj,rfl⟩)
theorem R2 {r0:List bG} {K:St→Prop} {s:St} {d:Nat} {t:TypeId} {wide:Bool} {ks:List SK} {z:AV} (hT:dG P t wide ks z) (h:s.fs.H s.n=.free∧XP P c r0 K ((s.nw (.aC [] true)).put d (.mp s.n))) :
  Xw P c (.pd (some d) (.Ft t) [] none) r0 K s:=.inl ⟨_,_,Xx1 hT h.1,h.2⟩
attribute [go_sem] pI Ak sv CI Yfe Yg1 Yfp Yfc Yfq
end
mutual
def cP (S:Nat→Prop):AV→Prop
 | .dx _ v=>cP S v
 | .agg cs=>cT S cs
 | .aU cs=>cT S cs
 | .xp cs _=>cT S cs
 | .isl _ cs=>cT S cs
 | .cl _ cs=>cT S cs
 | .ptr b _=>S b
 | .sl _ b _ _ _=>S b
 | .mp b=>S b
 | _=>True
def cT (S:Nat→Prop):List AV→Prop
 | []=>True
 | x::xs=>cP S x∧cT S xs
end
theorem CN {S:Nat→Prop}:∀ {cs:List AV},cT S cs ↔ ∀ x ∈ cs,cP S x
 | []=>by simp[cT]
 | x::xs=>by simp[cT,CN (cs:=xs)]
theorem Al {S:Nat→Prop} {cs:List AV} (h:cT S cs) (j:Nat):cP S (cs.getD j .any):=by
 by_cases hj:j < cs.length
 ·rw[BG hj];exact CN.1 h _ (List.getElem_mem _)
 ·have:cs.getD j .any=.any:=by simp[List.getD,Nat.le_of_not_lt hj]
  rw[this];simp[cP]
def nu (S:Nat→Prop):Bk→Prop
 | .cells cs=>cT S cs
 | .aC kvs _=>∀ p ∈ kvs,cP S p.1∧cP S p.2
 | .bn kvs _ _=>∀ p ∈ kvs,cP S p.1∧cP S p.2
 | .iter b _ _=>S b
 | .dd ls=>∀ l ∈ ls,ah 0 l
 | _=>True
section
variable {S:Nat→Prop} {W W':Nat→Prop} {w w':World} {g g':Nat→GM}
theorem VR.only (hg:∀ b,S b→g b≠.un→g b=g' b) {v:AV} {u:Value} (h:VR g W w v u):cP S v→VR g' W w v u:=by
 induction h with
 | any v=>intro _;exact .any _
 | dx h h0 ih=>intro hn;simp only[cP]at hn;exact .dx (fun hb=>ih hb hn) h0
 | int k n=>intro _;exact .int _ _
 | bool b=>intro _;exact .bool _
 | str l=>intro _;exact .str _
 | agg hs h1 h ih=>intro hn;simp only[cP]at hn;exact .agg hs h1 fun j hj=>ih j hj (Al hn j)
 | aU hs h ih=>intro hn;simp only[cP]at hn;exact .aU hs fun j hj=>ih j hj (Al hn j)
 | ptr e=>intro hn;simp only[cP]at hn;exact .ptr (by rw[← hg _ hn (by rw[e];intro x;cases x)];exact e)
 | xp hc h ih=>intro hn;simp only[cP]at hn;exact .xp hc fun j hj=>ih j hj (Al hn j)
 | sl e a b c d f=>intro hn;simp only[cP]at hn;exact .sl (by rw[← hg _ hn (by rw[e];intro x;cases x)];exact e) a b c d f
 | kq e hc=>intro hn;simp only[cP]at hn;exact .kq (by rw[← hg _ hn (by rw[e];intro x;cases x)];exact e) hc
 | isl a b hc h ih=>intro hn;simp only[cP]at hn;exact .isl a b hc fun j hj=>ih j hj (Al hn j)
 | nils a=>intro _;exact .nils _
 | cl hs h ih=>intro hn;simp only[cP]at hn;exact .cl hs fun j hj=>ih j hj (Al hn j)
 | mp e=>intro hn;simp only[cP]at hn;exact .mp (by rw[← hg _ hn (by rw[e];intro x;cases x)];exact e)
 | lit v=>intro _;exact .lit _
theorem BR.only (hg:∀ b,S b→g b≠.un→g b=g' b) {m:GM} {x:Bk} (h:BR g W w m x) (hn:nu S x):BR g' W w m x:=by
 cases h with
 | free=>exact .free
 | dead h=>exact .dead h
 | ph=>exact .ph
 | cells hb hl h1 hv hz=>exact .cells hb hl h1 (fun j hj=>(hv j hj).only hg (Al hn j)) hz
 | aC hb hs j7 hv hc ha hd =>
  rename_i k kvs dn es clock
  have bJ:∀ j,j < kvs.length→kvs.getD j (.any,.any) ∈ kvs:=fun j hj=>by simp[List.getD,hj]
  exact .aC hb hs (fun j hj=>(j7 j hj).only hg (hn _ (bJ j hj)).1) (fun j hj=>(hv j hj).only hg (hn _ (bJ j hj)).2) hc ha hd
 | bn hb hs j7 hv hc ha hd =>
  rename_i k kvs bs es clock
  have bJ:∀ j,j < kvs.length→kvs.getD j (.any,.any) ∈ kvs:=fun j hj=>by simp[List.getD,hj]
  exact .bn hb hs (fun j hj=>(j7 j hj).only hg (hn _ (bJ j hj)).1) (fun j hj=>(hv j hj).only hg (hn _ (bJ j hj)).2) hc ha hd
 | iter hb kL=>exact .iter hb (by rw[← hg _ hn (by rw[kL];intro x;cases x)];exact kL)
 | dd hp h=>exact BR.j9 (.dd hp h) hn fun _ h=>h
end
def To (p:List Nat) (s s':St):Prop:=∀ (c:Cx) (g:Nat→GM) (a:Act) (w:World),(∀ q ∈ c.gh,q.1 ∈ p)→R c g s.fs a w→∃ g',R c g' s'.fs a w
theorem To.refl (p:List Nat) (s:St):To p s s:=fun c g a w _ hR=>⟨g,hR⟩
theorem To.trans {p:List Nat} {s s' s2:St} (h:To p s s') (k:To p s' s2):To p s s2:=fun c g a w hp hR=>by
 obtain ⟨g1,h1⟩:=h c g a w hp hR
 exact k c g1 a w hp h1
theorem To.CO {p:List Nat} {s s':St} {ρ:Nat→Nat} (hp:∀ b,b ∈ p→ρ b=b∧b < s'.n) (h:Sub ρ s s'):To p s s':=fun c g a w hg hR=>h.to hR fun q hq=>hp _ (hg q hq)
section
variable {P:Program} {c:Cx}
theorem qA {p:List Nat} {o:bG} {r0:List bG} {K:St→Prop} {s s':St} (aY:∀ q ∈ c.gh,q.1 ∈ p) (h:To p s s') (k:Xw P c o r0 K s'):Xw P c o r0 K s:=by
 refine .inr fun ops io he g a w hR K' Q' hK=>?_
 obtain ⟨g',bf⟩:=h c g a w aY hR
 rcases k with ⟨F,s2,hA,hr⟩|hS
 ·have wY:=hA ops io he
  refine wY.step s'.fs (fun _ _=>rfl) (fun _ _=>rfl) g' a w bf K' Q' fun g2 a' w' bR=>?_
  rw[zB wY.bh wY.cZ]at bR
  exact hK g2 s2 a' w' hr bR
 ·exact hS ops io he g' a w bf K' Q' hK
def CP {σ:Type} (p:List Nat) (I:σ→Prop) (da:σ→St) (μ:σ→Nat) (x:σ) (Q:EX→St→Prop):EX→St→Prop
 | .normal,s=>∃ y,I y∧To p s (da y)∧μ y < μ x
 | e,s=>Q e s
theorem Yf {σ:Type} (I:σ→Prop) (da:σ→St) (μ:σ→Nat) {b:TC} {Q:EX→St→Prop} {s:St} (hm:P.follows .mixedOrders=true) (p:List Nat) (aY:∀ q ∈ c.gh,q.1 ∈ p) (h0:∃ y,I y∧To p s (da y))
  (hr:∀ x,I x→xw P c b (CP p I da μ x Q) (da x)):qg P c b Q s:=by
 intro code he g a w hR
 obtain ⟨y0,BY,kW⟩:=h0
 obtain ⟨g0,jM⟩:=kW c g a w aY hR
 have key:∀ n (x:σ),μ x=n→I x→∀ g a w,R c g (da x).fs a w→∀ (fr:Frame) (k:List Item) (cs:List Frame),∃ e a' w',Fz c Q e a' w'∧Arrives P (lone (fr.at a (.code code::.inLoop code::k)) cs w) fr k cs e a' w':=by
  intro n
  induction n using Nat.strongRecOn with
  | _ n ih =>
   intro x hx hI g a w hR fr k cs
   have hb:=vn hm code b _ _ he (hr x hI) g a w hR
   obtain ⟨e,a1,w1,hq,eU⟩:=hb fr (.inLoop code::k) cs
   cases e with
   | normal =>
    obtain ⟨g1,s1,cx,y,BZ,hs,hlt⟩:=hq
    obtain ⟨g2,bR⟩:=hs c g1 a1 w1 aY cx
    obtain ⟨e2,a2,w2,lP,kX⟩:=ih (μ y) ae y rfl BZ g2 a1 w1 bR fr k cs
    exact ⟨e2,a2,w2,lP,.of_steps (Steps.trans eU (.one step_inLoop)) kX⟩
   | exit i=>exact ⟨.exit i,a1,w1,hq,.pass (x:=.inLoop code) rfl (fun _ _=>.inl au) eU⟩
   | ret=>exact ⟨.ret,a1,w1,hq,.pass (x:=.inLoop code) rfl (fun _ _=>.inl au) eU⟩
   | goto l=>exact hq.elim
   | panic ch=>exact hq.elim
   | outgrown=>exact hq.elim
 intro fr k cs
 obtain ⟨e,a',w',hq,eU⟩:=key _ y0 rfl BY g0 a w jM fr k cs
 exact ⟨e,a',w',hq,.of_steps (.one step_loop) eU⟩
def GQ (P:Program) (gl:Nat→AV) (f:FuncId) (args:List AV) (aG:List (Nat × Bk)) (m:Nat) (p:List Nat) {ι:Type} (Q:ι→Prop) (r:ι→AV) (aw:ι→List (Nat × Bk)):Prop :=
 zJ P f∧∀ (w:World) (vs:List Value) (G X:Nat→Prop) (g:Nat→GM),R ⟨0,w,G,X,gl,[]⟩ g (cW aG m) ⟨#[],[]⟩ w→bO g (Qn ⟨0,w,G,X,gl,[]⟩ g (cW aG m)) w args vs →
  Calls P f vs.toArray w fun e w'=>∃ x v g',Q x∧e=.returned v∧R ⟨0,w,G,X,gl,[]⟩ g' (cW (aw x) m) ⟨#[],[]⟩ w'∧(∀ b,b ∈ p→g' b=g b)∧VR g' (Qn ⟨0,w,G,X,gl,[]⟩ g' (cW (aw x) m)) w' (r x) v
def Gd (m:Nat) (p:List Nat) (rs:List RS) {ι:Type} (Q:ι→Prop) (r:ι→AV) (aw:ι→List (Nat × Bk)):EX→St→Prop
 | .exit _,_=>False
 | _,s=>Wq s.fs rs∧∃ x,Q x∧To p ⟨[(0,ga s.fs rs)],s.h,s.n⟩ ⟨[(0,r x)],aw x,m⟩
theorem Xtx {gl : Nat → AV} {f : FuncId} {fn : Func} {code : Code} {t : TC} {rs : List RS} {args : List AV} {aG : List (Nat × Bk)} {m : Nat} {p : List Nat} {ι : Type} {Q : ι → Prop} {r : ι → AV} {aw : ι → List (Nat × Bk)} (hm : P.follows .mixedOrders = true) (hf : P.funcs[f]? = some fn) (hb : fn.body = some code) (dU : (fn.name == "runtime.NumGoroutine") = false)
  (he:Jc P fn.ntmps code=some t) (hr:m9 P fn.results.toList=some rs) (hN:args.length≤fn.ntmps) (aO:∀ q ∈ aG,q.2.live) (KY:∀ b ∈ p,b < m)
  (h:∀ c:Cx,(∀ q ∈ c.gh,q.1 ∈ p)→c.gl=gl→xw P c t (Gd m p rs Q r aw) ⟨jz 0 args,aG,m⟩):GQ P gl f args aG m p Q r aw:=by
 refine ⟨⟨fn,hf,by rw[hb];rfl,dU⟩,fun w vs G X g jM hv=>?_⟩
 refine calls_of_wp hf hb ?_
 have ju:∀ b,b < m→g b≠.un:=fun b gJ e=>by
  have:=jM.h b
  rw[e]at this
  have hh:(cW aG m).H b=Qc aG m b:=rfl
  rw[hh]at this
  rcases Zn aG m b with q|⟨q0,hp,_,q⟩
  ·rw[q,if_pos gJ]at this;cases this;rename_i h;exact h rfl
  ·rw[q]at this
   have hl:=aO q0 hp
   cases hx:q0.2 with
   | free=>rw[hx]at hl;exact hl.elim
   | dead=>rw[hx]at hl;exact hl.elim
   | cells cs=>rw[hx]at this;cases this
   | aC kvs dn=>rw[hx]at this;cases this
   | bn kvs bs ck=>rw[hx]at this;cases this
   | iter b0 ck seen=>rw[hx]at this;cases this
   | dd ls=>rw[hx]at this;cases this with|dd _ h=>cases h
 have gO:∀ q ∈ p.map (fun b=>(b,g b)),g q.1=q.2∧q.2≠.un:=fun q hp=>by
  obtain ⟨b,gJ,rfl⟩:=List.mem_map.1 hp
  exact ⟨rfl,ju b (KY b gJ)⟩
 have aY:∀ q ∈ p.map (fun b=>(b,g b)),q.1 ∈ p:=fun q hp=>by
  obtain ⟨b,gJ,rfl⟩:=List.mem_map.1 hp
  exact gJ
 have hR:=FY (N:=fn.ntmps) hN jM hv gO
 have:=vn (c:=⟨fn.ntmps,w,G,X,gl,p.map (fun b=>(b,g b))⟩) hm code t _ _ he (h _ aY rfl) _ _ _ hR
 refine wp_mono this fun e a' w' hq=>?_
 have fin:∀ (g1:Nat→GM) (s:St),R ⟨fn.ntmps,w,G,X,gl,p.map (fun b=>(b,g b))⟩ g1 s.fs a' w'→(Wq s.fs rs∧∃ x,Q x∧To p ⟨[(0,ga s.fs rs)],s.h,s.n⟩ ⟨[(0,r x)],aw x,m⟩) →
   a'.defers=[]∧∃ v,(results fn a'.tmps).run P w'=.ok v w'∧(∃ x nd g',Q x∧Ending.returned v=.returned nd∧R ⟨0,w,G,X,gl,[]⟩ g' (cW (aw x) m) ⟨#[],[]⟩ w'∧(∀ b,b ∈ p→g' b=g b)∧VR g' (Qn ⟨0,w,G,X,gl,[]⟩ g' (cW (aw x) m)) w' (r x) nd):=by
  intro g1 s bf ⟨h1,x,hQ,h3⟩
  obtain ⟨v,h4,h5⟩:=B6 bf hr h1
  refine ⟨bf.dK,v,h4,x,v,?_⟩
  have cx:R ⟨1,w,G,X,gl,p.map (fun b=>(b,g b))⟩ g1 (⟨[(0,ga s.fs rs)],s.h,s.n⟩:St).fs ⟨#[v],[]⟩ w':=by
   refine ⟨rfl,rfl,fun i=>?_,bf.gl,bf.h,bf.inj,bf.old,bf.fr,bf.xs,bf.hU⟩
   show VR g1 _ w' (look [(0,ga s.fs rs)] i) _
   rw[Yw]
   split
   ·rename_i hi;subst hi;exact h5
   ·exact .any _
  obtain ⟨g2,bR⟩:=h3 _ g1 _ _ aY cx
  refine ⟨g2,hQ,rfl,⟨rfl,rfl,fun i=>.any _,bR.gl,bR.h,bR.inj,bR.old,bR.fr,bR.xs,fun q hp=>by cases hp⟩,fun b hb=>?_,?_⟩
  ·exact (bR.hU (b,g b) (List.mem_map.2 ⟨b,hb,rfl⟩)).1
  ·exact bR.t 0
 cases e with
 | normal=>obtain ⟨g,s,bf,cD⟩:=hq;exact fin g s bf cD
 | ret=>obtain ⟨g,s,bf,cD⟩:=hq;exact fin g s bf cD
 | exit i=>obtain ⟨g,s,bf,cD⟩:=hq;exact cD.elim
 | goto l=>exact hq.elim
 | panic ch=>exact hq.elim
 | outgrown=>exact hq.elim
theorem FT.gq {P:Program} {gl:Nat→AV} {f:FuncId} {fn:Func} {t:TC} {rs:List RS} (hF:FT P f fn t rs) {args:List AV} {aG:List (Nat × Bk)} {m:Nat} {p:List Nat} {ι:Type} {Q:ι→Prop} {r:ι→AV} {aw:ι→List (Nat × Bk)} (hN:args.length≤fn.ntmps) (aO:∀ q ∈ aG,q.2.live) (KY:∀ b ∈ p,b < m)
  (h:∀ c:Cx,(∀ q ∈ c.gh,q.1 ∈ p)→c.gl=gl→xw P c t (Gd m p rs Q r aw) ⟨jz 0 args,aG,m⟩):GQ P gl f args aG m p Q r aw:=by
 have hc:=hF.code
 cases hb:fn.body with
 | none=>rw[hb]at hc;simp at hc
 | some code =>
  rw[hb]at hc
  exact Xtx hF.mixed hF.func hb hF.name hc hF.res hN aO KY h
structure HL (h:List (Nat × Bk)) (m:Nat):Prop where
 mem:∀ q ∈ h,q.1 < m∧bP m q.2
 dW:∀ b,b < m→∃ q ∈ h,q.1=b
 self:∀ q ∈ h,Qc h m q.1=q.2
theorem HL.live {h:List (Nat × Bk)} {m b:Nat} (H:HL h m) (hb:b < m) (n:Nat):Qc h n b=Qc h m b∧∃ q ∈ h,q.1=b∧Qc h m b=q.2:=by
 have key:∀ (l:List (Nat × Bk)),(∃ q ∈ l,q.1=b)→Qc l n b=Qc l m b∧∃ q ∈ l,q.1=b∧Qc l m b=q.2:=fun l=>by
  induction l with
  | nil=>rintro ⟨q,hq,_⟩;cases hq
  | cons p l ih =>
   obtain ⟨i,x⟩:=p
   rintro ⟨q,hq,e⟩
   rw[Qd,Qd]
   by_cases hi:i=b
   ·rw[if_pos hi,if_pos hi]
    exact ⟨rfl,(i,x),by simp,hi,rfl⟩
   ·rw[if_neg hi,if_neg hi]
    rcases List.mem_cons.1 hq with rfl|hq
    ·exact (hi e).elim
    ·obtain ⟨h1,q',h2,h3,h4⟩:=ih ⟨q,hq,e⟩
     exact ⟨h1,q',by simp[h2],h3,h4⟩
 exact key h (H.dW b hb)
def tY (σ:Nat→Nat) (p:List Nat) (m:Nat) (j:Nat):Prop:=∀ b,b < m→σ b=j→b ∈ p
def jr (σ:Nat→Nat) (m:Nat) (j:Nat):Prop:=∀ b,b < m→σ b≠j
theorem Xza {σ:Nat→Nat} {s s3:FS} {a:Act} {w w':World} {g g1 g2:Nat→GM} {h h':List (Nat × Bk)} {m:Nat} {p:List Nat} (hR:R c g s a w) (bN:∀ b b',b < m→b' < m→σ b=σ b'→b=b') (hh:HL h m) (sy:HL h' m) (fit:∀ b,b < m→s.H (σ b)=Qx σ (Qc h m b))
  (hT:∀ i,cP (tY σ p m) (s.T i)) (hB:∀ j,jr σ m j→nu (tY σ p m) (s.H j)) (aY:∀ q ∈ c.gh,tY σ p m q.1)
  (jB:∀ b,b < m→g (σ b)≠.un→g (σ b)=g1 b) (vz:∀ b,b ∈ p→g2 b=g1 b) (bR:R (pE c g s w σ h m) g2 (cW h' m) ⟨#[],[]⟩ w')
  (KZ:∀ i,s3.T i=s.T i) (CQ:∀ b,b < m→s3.H (σ b)=Qx σ (Qc h' m b)) (xr:∀ j,jr σ m j→s3.H j=s.H j) :
  R c (Jz g g2 σ m) s3 a w'∧∀ {r:AV} {v:Value},Qf m r→VR g2 (Qn (pE c g s w σ h m) g2 (cW h' m)) w' r v→VR (Jz g g2 σ m) (Qn c (Jz g g2 σ m) s3) w' (aD σ r) v:=by
 have cR:∀ b,b < m→(Qc h m b).live:=fun b hb=>by
  obtain ⟨_,q,hq,_,e⟩:=hh.live hb m
  rw[e];exact Xc (hh.mem q hq).2
 have jE:∀ b,b < m→(Qc h' m b).live:=fun b hb=>by
  obtain ⟨_,q,hq,_,e⟩:=sy.live hb m
  rw[e];exact Xc (sy.mem q hq).2
 have ez:∀ b,b < m→(s.H (σ b)).live:=fun b hb=>by rw[fit b hb,w5];exact cR b hb
 have named:∀ b,b < m→g (σ b)≠.un:=fun b hb e=>by
  have:=hR.h (σ b)
  rw[e]at this
  have hl:=ez b hb
  generalize s.H (σ b)=x at this hl
  exact this.fW hl
 have low:∀ b,(Qc h m b).live→b < m:=fun b hl=>by
  rcases Zn h m b with q|⟨q,hq,rfl,_⟩
  ·rw[q]at hl;split at hl<;>exact hl.elim
  ·exact (hh.mem q hq).1
 have kSa:∀ b,(Qc h' m b).live→b < m:=fun b hl=>by
  rcases Zn h' m b with q|⟨q,hq,rfl,_⟩
  ·rw[q]at hl;split at hl<;>exact hl.elim
  ·exact (sy.mem q hq).1
 have gs:∀ b,b < m→Jz g g2 σ m (σ b)=g2 b:=fun b dQ=>by
  unfold Jz
  have hex:∃ b',b' < m∧σ b'=σ b:=⟨b,dQ,rfl⟩
  rw[dif_pos hex]
  rw[bN _ _ hex.choose_spec.1 dQ hex.choose_spec.2]
 have go:∀ j,jr σ m j→Jz g g2 σ m j=g j:=fun j h=>by
  unfold Jz
  rw[dif_neg]
  rintro ⟨b,h1,h2⟩;exact h b h1 h2
 have part:∀ j,(∃ b,b < m∧σ b=j)∨jr σ m j:=fun j=>by
  by_cases e:∃ b,b < m∧σ b=j
  ·exact .inl e
  ·exact .inr fun b h1 h2=>e ⟨b,h1,h2⟩
 have gS:∀ j,tY σ p m j→g j≠.un→g j=Jz g g2 σ m j:=fun j hj bY=>by
  rcases part j with ⟨b,hb,rfl⟩|ew
  ·rw[gs b hb,vz b (hj b hb rfl)];exact jB b hb bY
  ·rw[go j ew]
 have hf:Fr w w' (ql g σ h m):=bR.fr
 have z6:∀ k,ql g σ h m k→Qn c g s k:=fun k ⟨b,h1,h2⟩=>.inr ⟨σ b,ez b (low b h1),h2⟩
 have qo:Fr w w' (Qn c g s):=hf.weak z6
 have si:∀ j k,jr σ m j→(s.H j).live→g j=.re k→¬ ql g σ h m k:=fun j k h1 h2 h3 ⟨b,q1,q2⟩ =>
  h1 b (low b q1) (hR.inj (σ b) j k (ez b (low b q1)) h2 q2 h3)
 have gf:∀ b k,b < m→g2 b=.re k→w.heap.size≤k∨∃ b0,b0 < m∧g (σ b0)=.re k:=fun b k hb hk=>by
  rcases bR.old b k (jE b hb) hk with h|⟨b0,q1,q2⟩
  ·exact .inl h
  ·exact .inr ⟨b0,low b0 q1,q2⟩
 have db:∀ j,(s3.H j).live→(∃ b,b < m∧σ b=j)∨(jr σ m j∧(s.H j).live):=fun j hl=>by
  rcases part j with h|h
  ·exact .inl h
  ·rw[xr j h]at hl;exact .inr ⟨h,hl⟩
 have nk:∀ k,k < w.heap.size→Qn c (Jz g g2 σ m) s3 k→Qn c g s k:=by
  rintro k hk (h|⟨j,h1,h2⟩)
  ·exact .inl h
  ·rcases db j h1 with ⟨b,hb,rfl⟩|⟨hj,hl⟩
   ·rw[gs b hb]at h2
    rcases gf b k hb h2 with h|⟨b0,q1,q2⟩
    ·omega
    ·exact .inr ⟨σ b0,ez b0 q1,q2⟩
   ·rw[go j hj]at h2;exact .inr ⟨j,hl,h2⟩
 have mz:∀ k,Qn c (Jz g g2 σ m) s3 k→Qn (pE c g s w σ h m) g2 (cW h' m) k:=by
  rintro k (h|⟨j,h1,h2⟩)
  ·refine .inl ⟨.inl h,fun ⟨b,q1,q2⟩=>?_⟩
   obtain ⟨x1,x2⟩:=hR.xs k h
   rcases hR.old (σ b) k (ez b (low b q1)) q2 with h|h
   ·omega
   ·exact x2 h
  ·rcases db j h1 with ⟨b,hb,rfl⟩|⟨hj,hl⟩
   ·rw[gs b hb]at h2;exact .inr ⟨b,jE b hb,h2⟩
   ·rw[go j hj]at h2;exact .inl ⟨.inr ⟨j,hl,h2⟩,si j k hj hl h2⟩
 refine ⟨⟨hR.size,hR.dK,fun i=>?_,fun i=>(hR.gl i).mono qo nk (fun _ _=>rfl),fun j=>?_,fun j j' k h1 h2 e1 e2=>?_,fun j k h1 e1=>?_,hR.fr.trans hf fun k hk ⟨b,q1,q2⟩=>?_,hR.xs,fun q hq=>?_⟩,fun {r v} hn hv=>?_⟩
 ·rw[KZ];exact ((hR.t i).only gS (hT i)).mono qo nk (fun _ _=>rfl)
 ·rcases part j with ⟨b,hb,rfl⟩|hj
  ·rw[gs b hb,CQ b hb]
   have dT:=bR.h b
   have e:(cW h' m).H b=Qc h' m b:=rfl
   rw[e]at dT
   obtain ⟨_,q,hq,_,eq⟩:=sy.live hb m
   rw[eq]at dT ⊢
   exact dT.aD (n:=m) gs (sy.mem q hq).2 mz
  ·rw[go j hj,xr j hj]
   refine ((hR.h j).only gS (hB j hj)).mono qo nk (fun _ _=>rfl) fun k hk hl=>hf.fV k ?_ (si j k hj hl hk)
   exact BR.lt (hk ▸ hR.h j) hl
 ·rcases db j h1 with ⟨b,hb,rfl⟩|⟨hj,hl⟩<;>rcases db j' h2 with ⟨b',bH,rfl⟩|⟨cV,kP⟩
  ·rw[gs b hb]at e1;rw[gs b' bH]at e2
   rw[bR.inj b b' k (jE b hb) (jE b' bH) e1 e2]
  ·rw[gs b hb]at e1;rw[go j' cV]at e2
   have hlt:=BR.lt (e2 ▸ hR.h j') kP
   rcases gf b k hb e1 with h|⟨b0,q1,q2⟩
   ·omega
   ·exact (cV b0 q1 (hR.inj (σ b0) j' k (ez b0 q1) kP q2 e2)).elim
  ·rw[gs b' bH]at e2;rw[go j hj]at e1
   have hlt:=BR.lt (e1 ▸ hR.h j) hl
   rcases gf b' k bH e2 with h|⟨b0,q1,q2⟩
   ·omega
   ·exact (hj b0 q1 (hR.inj (σ b0) j k (ez b0 q1) hl q2 e1)).elim
  ·rw[go j hj]at e1;rw[go j' cV]at e2
   exact hR.inj j j' k hl kP e1 e2
 ·rcases db j h1 with ⟨b,hb,rfl⟩|⟨hj,hl⟩
  ·rw[gs b hb]at e1
   rcases gf b k hb e1 with h|⟨b0,q1,q2⟩
   ·have:=hR.fr.size;exact .inl ae
   ·exact hR.old (σ b0) k (ez b0 q1) q2
  ·rw[go j hj]at e1;exact hR.old j k hl e1
 ·rcases hR.old (σ b) k (ez b (low b q1)) q2 with h|h
  ·omega
  ·exact h
 ·obtain ⟨q1,q2⟩:=hR.hU q hq
  refine ⟨?_,q2⟩
  have:=gS q.1 (aY q hq) (by rw[q1];exact q2)
  rw[← this,q1]
 ·exact (hv.aD (ρ:=σ) (g:=Jz g g2 σ m) gs hn).mono (Fr.refl _ _) (fun k _=>mz k) (fun _ _=>rfl)
end
theorem Kb {x:Bk}:Qx id x=x:=by
 cases x with
 | cells cs=>simp only[Qx];rw[Yk];congr 1;exact (List.map_congr_left fun x _=>py id (fun _=>rfl) x).trans (List.map_id cs)
 | aC kvs dn=>simp only[Qx];congr 1;exact (List.map_congr_left fun x _=>by rw[py id (fun _=>rfl),py id (fun _=>rfl)];rfl).trans (List.map_id kvs)
 | bn kvs bs ck=>simp only[Qx];congr 1;exact (List.map_congr_left fun x _=>by rw[py id (fun _=>rfl),py id (fun _=>rfl)];rfl).trans (List.map_id kvs)
 | iter b0 ck seen=>rfl
 | dd ls=>rfl
 | free=>rfl
 | dead=>rfl
theorem Jf (l:List AV):ay id l=l:=by rw[Yk];exact (List.map_congr_left fun x _=>py id (fun _=>rfl) x).trans (List.map_id l)
def xt (S:Nat→Prop):List (Nat × AV)→Prop
 | []=>True
 | q::l=>cP S q.2∧xt S l
theorem R3 {S:Nat→Prop}:∀ {l:List (Nat × AV)},xt S l→∀ i,cP S (look l i)
 | [],_,i=>by simp[look,cP]
 | (j,v)::l,h,i=>by
  rw[Yw]
  split
  ·exact h.1
  ·exact R3 h.2 i
def Qs (σ:Nat→Nat) (h:List (Nat × Bk)):List (Nat × Bk):=h.map fun q=>(σ q.1,Qx σ q.2)
theorem Jw (h:List (Nat × Bk)):Qs id h=h:=by
 unfold Qs
 exact (List.map_congr_left fun q _=>by rw[Kb];rfl).trans (List.map_id h)
theorem Zc {σ:Nat→Nat} {m:Nat} (bN:∀ b b',b < m→b' < m→σ b=σ b'→b=b') {n b:Nat} (hb:b < m):∀ {h:List (Nat × Bk)},(∀ q ∈ h,q.1 < m)→(∃ q ∈ h,q.1=b)→Qc (Qs σ h) n (σ b)=Qx σ (Qc h m b)
 | [],_,⟨q,hq,_⟩=>by cases hq
 | (i,x)::l,hm,⟨q,hq,e⟩=>by
  show Qc ((σ i,Qx σ x)::Qs σ l) n (σ b)=_
  rw[Qd,Qd]
  by_cases hi:i=b
  ·rw[if_pos hi,if_pos (by rw[hi])]
  ·rw[if_neg hi,if_neg fun e=>hi (bN _ _ (hm (i,x) au) hb e)]
   rcases List.mem_cons.1 hq with rfl|hq
   ·exact (hi e).elim
   ·exact Zc bN hb (fun q hq=>hm q (by simp[hq])) ⟨q,hq,e⟩
theorem Km {σ:Nat→Nat} {m n j:Nat} (hj:jr σ m j):∀ {h:List (Nat × Bk)},(∀ q ∈ h,q.1 < m)→Qc (Qs σ h) n j=if j < n then .dead else .free
 | [],_=>rfl
 | (i,x)::l,hm=>by
  show Qc ((σ i,Qx σ x)::Qs σ l) n j=_
  rw[Qd,if_neg (hj i (hm (i,x) au))]
  exact Km hj fun q hq=>hm q (by simp[hq])
theorem Qw {n j:Nat} {h:List (Nat × Bk)}:∀ {ex:List (Nat × Bk)},(∀ q ∈ ex,q.1≠j)→Qc (ex++h) n j=Qc h n j
 | [],_=>rfl
 | (i,x)::l,hm=>by
  rw[List.cons_append,Qd,if_neg (hm (i,x) au)]
  exact Qw fun q hq=>hm q (by simp[hq])
theorem CR {n j:Nat} {h h':List (Nat × Bk)} (e:Qc h n j=Qc h' n j):∀ {ex:List (Nat × Bk)},Qc (ex++h) n j=Qc (ex++h') n j
 | []=>e
 | (i,x)::l=>by
  rw[List.cons_append,List.cons_append,Qd,Qd,CR e]
def Yff (σ:Nat→Nat) (p:List Nat) (m:Nat) (ex:List (Nat × Bk)):Prop:=∀ q ∈ ex,jr σ m q.1∧nu (tY σ p m) q.2
def mG (v:Bool) (f:FuncId) (l:List AV):Option (FuncId × List AV):=bif v then tP l else some (f,l)
structure CS (gl:Nat→AV) (s:St) (xs:List TV) (v:Bool) (f:FuncId) (args:List AV) (σ:Nat→Nat) (p pc:List Nat) (m:Nat) (t:List (Nat × AV)) (ex aG:List (Nat × Bk)) (n:Nat):Prop where
 to:To pc s ⟨t,ex++Qs σ aG,n⟩
 inj:∀ b b',b < m→b' < m→σ b=σ b'→b=b'
 hl:HL aG m
 pc:∀ b ∈ pc,tY σ p m b
 hex:Yff σ p m ex
 ht:xt (tY σ p m) t
 eR:Qt none (aF gl (⟨t,ex++Qs σ aG,n⟩:St).fs xs)
 aN:mG v f ((aF gl (⟨t,ex++Qs σ aG,n⟩:St).fs xs).map Qj)=some (f,ay σ args)
 nm:ah m args
section
variable {P:Program} {c:Cx}
theorem Yb0 {v:Bool} {s:St} {f:FuncId} {xs:List TV} {args:List AV} {aG:List (Nat × Bk)} {σ:Nat→Nat} {m n:Nat} {p pc:List Nat} {ι:Type} {Q:ι→Prop} {r:ι→AV} {aw:ι→List (Nat × Bk)} {t:List (Nat × AV)} {ex:List (Nat × Bk)} (hq:GQ P c.gl f args aG m p Q r aw)
  (aY:∀ q ∈ c.gh,q.1 ∈ pc) (ok:CS c.gl s xs v f args σ p pc m t ex aG n) (gj:∀ x,Q x→HL (aw x) m) (hr:∀ x,Q x→Qf m (r x)) {g0:Nat→GM} {a:Act} {w:World} (jM:R c g0 s.fs a w) :
  ∃ g,R c g (⟨t,ex++Qs σ aG,n⟩:St).fs a w∧∀ vs,bO g (Qn c g (⟨t,ex++Qs σ aG,n⟩:St).fs) w (ay σ args) vs→Calls P f vs.toArray w fun e w'=>∃ x v g3,Q x∧e=.returned v∧R c g3 (⟨t,ex++Qs σ (aw x),n⟩:St).fs a w'∧VR g3 (Qn c g3 (⟨t,ex++Qs σ (aw x),n⟩:St).fs) w' (aD σ (r x)) v:=by
 obtain ⟨g,hR⟩:=ok.to c g0 a w aY jM
 refine ⟨g,hR,fun vs hv=>?_⟩
 have oD:∀ b,b < m→∀ q ∈ ex,q.1≠σ b:=fun b hb q hq e=>(ok.hex q hq).1 b hb e.symm
 have fit:∀ b,b < m→(⟨t,ex++Qs σ aG,n⟩:St).fs.H (σ b)=Qx σ (Qc aG m b):=fun b hb=>by
  show Qc (ex++Qs σ aG) n (σ b)=_
  rw[Qw (oD b hb)];exact Zc ok.inj hb (fun q hq=>(ok.hl.mem q hq).1) (ok.hl.dW b hb)
 have xu:Fit σ (⟨t,ex++Qs σ aG,n⟩:St).fs aG m:=by
  refine ⟨fun q hq=>⟨(ok.hl.mem q hq).1,(ok.hl.mem q hq).2,?_⟩,fun q hq q' cD e=>ok.inj _ _ (ok.hl.mem q hq).1 (ok.hl.mem q' cD).1 e⟩
  rw[fit q.1 (ok.hl.mem q hq).1,ok.hl.self q hq]
 obtain ⟨g1,jB,sj,sk⟩:=FW hR xu
 have nc:=Cn (σ:=σ) (g1:=g1) jB sk ok.nm hv
 refine (hq.2 w _ _ _ g1 sj nc).mono fun e w' ⟨x,v,g2,hQ,e1,e2,e3,e4⟩=>?_
 have hXB:∀ j,jr σ m j→nu (tY σ p m) ((⟨t,ex++Qs σ aG,n⟩:St).fs.H j):=fun j hj=>by
  show nu _ (Qc (ex++Qs σ aG) n j)
  rcases Zn (ex++Qs σ aG) n j with q|⟨q,hq,rfl,q2⟩
  ·rw[q];split<;>trivial
  ·rw[q2]
   rcases List.mem_append.1 hq with h|h
   ·exact (ok.hex q h).2
   ·obtain ⟨q',cD,rfl⟩:=List.mem_map.1 h
    exact (hj q'.1 (ok.hl.mem q' cD).1 rfl).elim
 obtain ⟨jD,fD⟩:=Xza (s3:=(⟨t,ex++Qs σ (aw x),n⟩:St).fs) hR ok.inj ok.hl (gj x hQ) fit (R3 ok.ht) hXB (fun q hq=>ok.pc _ (aY q hq)) jB e3 e2 (fun i=>rfl)
  (fun b hb=>by
   show Qc (ex++Qs σ (aw x)) n (σ b)=_
   rw[Qw (oD b hb)];exact Zc ok.inj hb (fun q hq=>((gj x hQ).mem q hq).1) ((gj x hQ).dW b hb))
  (fun j hj=>CR (by rw[Km hj fun q hq=>((gj x hQ).mem q hq).1,Km hj fun q hq=>(ok.hl.mem q hq).1]))
 exact ⟨x,v,_,hQ,e1,jD,fD (hr x hQ) e4⟩
theorem Yew {r0:List bG} {K:St→Prop} {s:St} {d:Option Nat} {f:FuncId} {xs:List TV} {args:List AV} {aG:List (Nat × Bk)} {σ:Nat→Nat} {m n:Nat} {p pc:List Nat} {ι:Type} {Q:ι→Prop} {r:ι→AV} {aw:ι→List (Nat × Bk)} (hq:GQ P c.gl f args aG m p Q r aw)
  (aY:∀ q ∈ c.gh,q.1 ∈ pc) (t:List (Nat × AV)) (ex:List (Nat × Bk)) (ok:CS c.gl s xs false f args σ p pc m t ex aG n) (gj:∀ x,Q x→HL (aw x) m) (hr:∀ x,Q x→Qf m (r x))
  (hk:∀ x,Q x→XP P c r0 K (St.bD ⟨t,ex++Qs σ (aw x),n⟩ d (aD σ (r x)))):Xw P c (.pd d (.call f) xs none) r0 K s:=by
 refine .inr fun ops io he g0 a w jM K' Q' hK=>?_
 obtain ⟨g,hR,cO⟩:=Yb0 hq aY ok gj hr jM
 obtain ⟨bc,bg,hd,ys,aH,rfl⟩:=Zl he
 obtain ⟨ts,bl⟩:=tC aH
 have hv:=Xx (hR.aF ys) ok.eR
 have aN:=ok.aN
 simp only[mG,cond_false,Option.some.injEq,Prod.mk.injEq,true_and]at aN
 rw[aN]at hv
 refine Ys (Ka bc) ?_
 unfold Oper.wp
 rw[tD hq.1 bl]
 rw[Oper.upon_enter]
 refine (cO _ hv).mono fun e w' ⟨x,v,g3,hQ,e1,jD,tL⟩=>?_
 subst e1
 show K' (a.put io.dst v) w'
 rw[bg]
 cases d with
 | none=>exact hK g3 _ _ _ (hk x hQ) (jD.td v)
 | some d =>
  refine hK g3 ((⟨t,ex++Qs σ (aw x),n⟩:St).put d (aD σ (r x))) _ _ (hk x hQ) ?_
  rw[St.bS]
  exact jD.put (by simpa using hd) tL
end
end Go.Proofs.YtogckmommodmhaaGreatDoor
namespace Go.Proofs.YtogckmommodmhaaGreatDoor
open Go.RowKit
set_option linter.all false
set_option linter.unusedSimpArgs false
set_option maxRecDepth 100000
theorem La {α:Type} (l:List α) (i j:Nat) (d:α):(l.eraseIdx i).getD j d=if j < i then l.getD j d else l.getD (j + 1) d:=by
 simp only[List.getD,List.getElem?_eraseIdx]
 split<;>rfl
theorem CT (es:Array MapEntry) (i j:Nat):(es.eraseIdxIfInBounds i).getD j default=if j < i then es.getD j default else es.getD (j + 1) default:=by
 rw[← vH,← vH,← vH,← La]
 congr 1
 unfold Array.eraseIdxIfInBounds
 split
 ·simp
 ·rename_i h
  rw[List.eraseIdx_of_length_le (by simpa using h)]
theorem Lb {es:Array MapEntry} {i:Nat} (hi:i < es.size):(es.eraseIdxIfInBounds i).size=es.size - 1:=by
 unfold Array.eraseIdxIfInBounds
 rw[dif_pos hi];simp
section
variable {P:Program} {c:Cx} {g:Nat→GM} {s:FS} {a:Act} {w:World}
theorem Ybg (hR:R c g s a w) {t t2 ty:TypeId} {wide:Bool} {ks:List SK} {z:AV} (hT:dG P t wide ks z) {b:Nat} {kvs:List (AV × AV)} {dn:Bool} (hb:s.H b=.aC kvs dn) {x:AV} {m v:Value} (hm:VR g (Qn c g s) w (.mp b) m) (hx:VR g (Qn c g s) w x v)
  (su:Ks wide ks x) (dX:Ah wide ks kvs):∃ w',(Builtin.delete_ #[t,t2] ty #[m,v]).run P w=.ok (.tuple #[]) w'∧R c g (s.aK b (.aC (xo kvs x) false)) a w':=by
 obtain ⟨kt,et,zv,hu,hK,hz,rfl⟩:=hT.of
 obtain ⟨k,rfl,hg⟩:=BK hm
 obtain ⟨es,clock,q1,q2,q3,q4,q5,q6,q7⟩:=CF hR hb hg
 have jm:=KP hK su hx (kvs:=kvs) (es:=es.toList) (by simpa using q2) dX (fun j hj=>by rw[vH];exact q3 j hj) w
 have cX:=KO hK su hx es.isEmpty w
 have eW:(getObj k).run P w=.ok (.map es clock) w:=by simp[getObj,Sem.run,q1]
 have ib:=Wx q1
 unfold xo
 cases hf:jq kvs x with
 | none =>
  rw[hf]at jm
  refine ⟨_,?_,hR.ke (kvs':=kvs) (dn':=false) (es':=es) (clock':=clock) hb hg q1 q2 q3 q4 q5 q6 (fun h=>by cases h)⟩
  simp only[Builtin.delete_,Sem.run_bind,run_underlying hu,Result.andThen_ok,eW,cX,jm,Option.map_none,Ga q1,Sem.run_pure,List.getElem?_toArray,List.getElem?_cons_zero,List.getElem?_cons_succ]
 | some i =>
  rw[hf]at jm
  obtain ⟨hi,KT⟩:=KR hf
  have jN:i < es.size:=by omega
  have br:=hR.ke (kvs':=kvs.eraseIdx i) (dn':=false) (es':=es.eraseIdxIfInBounds i) (clock':=clock) hb hg q1 (by rw[Lb jN,List.length_eraseIdx,if_pos hi,q2])
   (fun j hj=>by
    rw[List.length_eraseIdx,if_pos hi]at hj
    rw[La,CT];split
    ·exact q3 j ae
    ·exact q3 (j + 1) ae)
   (fun j hj=>by
    rw[List.length_eraseIdx,if_pos hi]at hj
    rw[La,CT];split
    ·exact q4 j ae
    ·exact q4 (j + 1) ae)
   (fun j hj=>by
    rw[Lb jN]at hj
    rw[CT];split
    ·exact q5 j ae
    ·exact q5 (j + 1) ae)
   (fun i' j iM hj=>by
    rw[Lb jN]at hj
    rw[CT,CT]
    split<;>split
    ·exact q6 i' j iM ae
    ·exact q6 i' (j + 1) ae ae
    ·omega
    ·exact q6 (i' + 1) (j + 1) ae ae) (fun h=>by cases h)
  refine ⟨_,?_,br⟩
  simp only[Builtin.delete_,Sem.run_bind,run_underlying hu,Result.andThen_ok,eW,cX,jm,Option.map_some,Ga q1,Sem.run_pure,List.getElem?_toArray,List.getElem?_cons_zero,List.getElem?_cons_succ]
end
section
variable {P:Program} {c:Cx} {ops:Array Oper} {io:Oper}
theorem Xwc {o:Oper} {t:TypeId} {xs:List Operand} (h:Xy P o=some (.del t,xs)):∃ x y t2,o.op=.call ⟨.builtin .delete,⟨[x,y]⟩,⟨[t,t2]⟩⟩∧xs=[x,y]:=by
 unfold Xy at h
 repeat' split at h
 all_goals first
  | (cases h;exact ⟨_,_,_,by assumption,rfl⟩)
  | (simp at h;done)
  | (cases h;done)
  | (simp[Option.map_eq_some_iff]at h;done)
theorem Xs2 {o:Oper} {t:TypeId} {xs:List Operand} (h:Xy P o=some (.IP t,xs)):∃ x,o.op=.range t x∧xs=[x]:=by
 unfold Xy at h
 repeat' split at h
 all_goals first
  | (cases h;exact ⟨_,by assumption,rfl⟩)
  | (simp at h;done)
  | (cases h;done)
  | (simp[Option.map_eq_some_iff]at h;done)
theorem Xsr {o:Oper} {xs:List Operand} (h:Xy P o=some (.b7,xs)):∃ x,o.op=.next x false∧xs=[x]:=by
 unfold Xy at h
 repeat' split at h
 all_goals first
  | (cases h;exact ⟨_,by assumption,rfl⟩)
  | (simp at h;done)
  | (cases h;done)
  | (simp[Option.map_eq_some_iff]at h;done)
theorem Xv7 {o:Oper} {xs:List Operand} (h:Xy P o=some (.IQ,xs)):∃ x,o.op=.entry x∧xs=[x]:=by
 unfold Xy at h
 repeat' split at h
 all_goals first
  | (cases h;exact ⟨_,by assumption,rfl⟩)
  | (simp at h;done)
  | (cases h;done)
  | (simp[Option.map_eq_some_iff]at h;done)
theorem Xyh {s:FS} {b:Nat} {X:Bk} {rt rb:List Nat} (hg:io.guard=none) (bg:io.dst=none)
  (core:∀ s2:FS,(∀ i ∈ rt,s2.T i=s.T i)→(∀ b ∈ rb,s2.H b=s.H b)→∀ g a w,R c g s2 a w→∃ g' v' w',(execOp a.eval io).run P w=.ok (.value v') w'∧R c g' (s2.aK b X) a w') :
  og P c ops io s ⟨rt,rb,[],[b]⟩ (s.aK b X):=by
 refine ⟨fun i hi=>rfl,fun j hj=>?_,fun s2 hT hH g a w hR K Q' hK=>Ys hg ?_⟩
 ·rw[FS.bb,if_neg (fun e=>hj (by simp[e]))]
 ·obtain ⟨g',v',w',hr,bf⟩:=core s2 hT hH g a w hR
  unfold Oper.wp
  rw[hr]
  show K (a.put io.dst v') w'
  rw[bg]
  refine hK g' _ w' ?_
  rw[BS]
  exact bf
noncomputable def CU (s:FS) (vs:List AV):Bk:=.aC (xo (ky (s.H (fy vs))) (mF vs)) false
theorem R4 {s:St} {t:TypeId} {xs:List TV} {wide:Bool} {ks:List SK} {z:AV} (hT:dG P t wide ks z) (hc:Qt none (aF c.gl s.fs xs)) (aX:pI s.fs wide ks ((aF c.gl s.fs xs).map Qj)) :
  Kv P c (.pd none (.del t) xs none) s.fs (sv s.fs c.gl xs [] true) (s.aK (fy ((aF c.gl s.fs xs).map Qj)) (CU s.fs ((aF c.gl s.fs xs).map Qj))).fs:=by
 intro ops io he
 obtain ⟨bc,bg,hd,ys,aH,rfl⟩:=Zl he
 obtain ⟨m,k,t2,bl,rfl⟩:=Xwc aH
 have fN:(aF c.gl s.fs ([m,k].map aS)).map Qj=[Qj (aZ c.gl s.fs (aS m)),Qj (aZ c.gl s.fs (aS k))]:=rfl
 unfold sv
 rw[fN]at aX ⊢
 generalize R0:Qj (aZ c.gl s.fs (aS m))=vm at *
 generalize Cc:Qj (aZ c.gl s.fs (aS k))=vk at *
 obtain ⟨h1,h2,h3,h4⟩:=aX
 obtain ⟨b,r,hb⟩:=KV h1
 injection hb with fP dE
 subst fP
 obtain ⟨kvs,dn,lQ⟩:=KW h2
 simp only[CU,fy,mF,cond_true]at h3 h4 lQ ⊢
 rw[lQ]at h4 ⊢
 simp only[ky]at h4 ⊢
 rw[St.cL]
 refine Xyh (Ka bc) bg fun s2 fA sx g a w hR=>?_
 have bj:aF c.gl s2 ([m,k].map aS)=aF c.gl s.fs ([m,k].map aS):=Xu fA
 have fv:=Xx (hR.aF [m,k]) (by rw[bj];exact hc)
 rw[bj,fN]at fv
 obtain ⟨v1,v2,_⟩:=fv
 obtain ⟨w',hr,bf⟩:=Ybg hR hT (t2:=t2) (ty:=io.type) (b:=b) (kvs:=kvs) (dn:=dn) (by rw[sx b au,lQ]) v1 v2 h3 h4
 refine ⟨g,.tuple #[],w',?_,bf⟩
 unfold execOp
 simp only[bl,resolve,invoke,builtin,Sem.run_bind,Sem.run_pure,Result.andThen_ok,List.map_toArray,List.map_cons,List.map_nil]
 rw[show (Builtin.delete_ { toList:=[t,t2] } io.type #[a.eval m,a.eval k]).run P w=_ from hr]
 rfl
theorem Lc {r0:List bG} {K:St→Prop} {s:St} {t:TypeId} {xs:List TV} {wide:Bool} {ks:List SK} {z:AV} (hT:dG P t wide ks z) (h:Qt none (aF c.gl s.fs xs)∧pI s.fs wide ks ((aF c.gl s.fs xs).map Qj)∧XP P c r0 K (s.aK (fy ((aF c.gl s.fs xs).map Qj)) (CU s.fs ((aF c.gl s.fs xs).map Qj)))) :
  Xw P c (.pd none (.del t) xs none) r0 K s:=.inl ⟨_,_,R4 hT h.1 h.2.1,h.2.2⟩
theorem Ld {anc:List Nat} {fs:List bp} {r0:List bG} {K:St→Prop} {s:St} {t:TypeId} {xs:List TV} {wide:Bool} {ks:List SK} {z:AV} (hT:dG P t wide ks z) (h:Qt none (aF c.gl s.fs xs)∧pI s.fs wide ks ((aF c.gl s.fs xs).map Qj)∧XD P c anc r0 (sv s.fs c.gl xs [] true::fs) K (s.aK (fy ((aF c.gl s.fs xs).map Qj)) (CU s.fs ((aF c.gl s.fs xs).map Qj)))) :
  Zi P c anc (.pd none (.del t) xs none) r0 fs K s:=⟨_,_,R4 hT h.1 h.2.1,h.2.2⟩
attribute [go_sem] CU
def Le (bs:List Nat) (n ck:Nat):Prop:=bs.length=n∧(∀ i j,i < j→j < n→bs.getD i 0 < bs.getD j 0)∧∀ i,i < n→bs.getD i 0 < ck
theorem Ge {es:Array MapEntry} (j:Nat) (hj:j < es.size):(es.toList.map (·.born)).getD j 0=(es.getD j default).born:=by
 simp[List.getD,Array.getD_eq_getD_getElem?,hj]
theorem R.toX {g:Nat→GM} {s:FS} {a:Act} {w:World} (hR:R c g s a w) {b:Nat} {kvs:List (AV × AV)} {dn:Bool} (hb:s.H b=.aC kvs dn):∃ bs ck,Le bs kvs.length ck∧R c g (s.aK b (.bn kvs bs ck)) a w:=by
 have h:=hR.h b
 rw[hb]at h
 generalize hg:g b=m at h
 cases h with
 | aC h1 h2 h3 h4 h5 h6 h7 =>
  rename_i k es clock
  refine ⟨es.toList.map (·.born),clock,⟨by simpa using h2,fun i j iM hj=>?_,fun i hi=>?_⟩,hR.setBlock hg (by rw[hb];trivial) trivial (Fr.refl _ _) (.bn h1 h2 h3 h4 h5 h6 rfl)⟩
  ·rw[Ge i ae,Ge j ae];exact h6 i j iM ae
  ·rw[Ge i ae];exact h5 i ae
theorem Lf {g:Nat→GM} {s:FS} {a:Act} {w:World} (hR:R c g s a w) {b k:Nat} {kvs:List (AV × AV)} {bs:List Nat} {ck:Nat} (hb:s.H b=.bn kvs bs ck) (hg:g b=.re k):∃ es,w.heap[k]?=some (.map es ck)∧es.size=kvs.length ∧
  (∀ j,j < kvs.length→VR g (Qn c g s) w (kvs.getD j (.any,.any)).1 (es.getD j default).key)∧(∀ j,j < kvs.length→VR g (Qn c g s) w (kvs.getD j (.any,.any)).2 (es.getD j default).val) ∧
  (∀ j,j < es.size→(es.getD j default).born < ck)∧(∀ i j,i < j→j < es.size→(es.getD i default).born < (es.getD j default).born)∧(∀ j,j < es.size→(es.getD j default).born=bs.getD j 0)∧bs.length=kvs.length:=by
 have:=hR.h b
 rw[hb,hg]at this
 cases this with
 | bn h1 h2 h3 h4 h5 h6 h7=>exact ⟨_,h1,h2,h3,h4,h5,h6,fun j hj=>by rw[← h7,Ge j hj],by rw[← h7];simpa using h2⟩
theorem R5 {g:Nat→GM} {s:FS} {a:Act} {w:World} (hR:R c g s a w) {bi k b ck:Nat} {seen:List Nat} (hb:s.H bi=.iter b ck seen) (hg:g bi=.re k):∃ m,w.heap[k]?=some (.mapIter (some m) ck seen.toArray ck)∧g b=.re m:=by
 have:=hR.h bi
 rw[hb,hg]at this
 cases this with
 | iter h1 h2=>exact ⟨_,h1,h2⟩
theorem R.Gf {g:Nat→GM} {s:FS} {a:Act} {w:World} (hR:R c g s a w) {b:Nat} {kvs:List (AV × AV)} {bs:List Nat} {ck:Nat} (hb:s.H b=.bn kvs bs ck):R c g (s.aK b (.aC kvs false)) a w:=by
 have h:=hR.h b
 rw[hb]at h
 generalize hg:g b=m at h
 cases h with
 | bn h1 h2 h3 h4 h5 h6 h7=>exact hR.setBlock hg (by rw[hb];trivial) trivial (Fr.refl _ _) (.aC h1 h2 h3 h4 h5 h6 fun h=>by cases h)
theorem To.Gf {p:List Nat} {b:Nat} {s:St} {kvs:List (AV × AV)} {bs:List Nat} {ck:Nat} (hb:s.fs.H b=.bn kvs bs ck):To p s (s.aK b (.aC kvs false)):=fun c g a w _ hR=>⟨g,by rw[St.cL];exact hR.Gf hb⟩
theorem R6 {r0:List bG} {K:St→Prop} {s:St} {d:Nat} {t:TypeId} {x:TV} {b:Nat} {kvs:List (AV × AV)} {dn wide:Bool} {ks:List SK} {z:AV} (hT:dG P t wide ks z) (hx:aZ c.gl s.fs x=.mp b) (hb:s.fs.H b=.aC kvs dn) (hf:s.fs.H s.n=.free)
  (h:∀ bs ck,Le bs kvs.length ck→XP P c r0 K (((s.aK b (.bn kvs bs ck)).nw (.iter b ck [])).put d (.ptr s.n 0))):Xw P c (.pd (some d) (.IP t) [x] none) r0 K s:=by
 refine .inr fun ops io he g a w hR K' Q' hK=>?_
 obtain ⟨bc,bg,hd,ys,aH,mw⟩:=Zl he
 obtain ⟨y,bl,rfl⟩:=Xs2 aH
 obtain rfl:x=aS y:=by simpa using mw
 obtain ⟨kt,et,zv,hu,_,_,_⟩:=hT.of
 have hv:=Xx (hR.aF [y]) (by
  show Qt none (aF c.gl s.fs [aS y])
  simp only[aF,List.map_cons,List.map_nil,hx]
  simp[Qt,eR])
 have hv:VR g (Qn c g s.fs) w (.mp b) (a.eval y):=by
  have e:(aF c.gl s.fs ([y].map aS)).map Qj=[.mp b]:=by
   show [Qj (aZ c.gl s.fs (aS y))]=_
   rw[hx];rfl
  rw[e]at hv;exact hv.1
 obtain ⟨k,e1,hg⟩:=BK hv
 obtain ⟨bs,ck,ep,cx⟩:=hR.toX hb
 obtain ⟨es,q1,q2,_⟩:=Lf cx (b:=b) (k:=k) (kvs:=kvs) (bs:=bs) (ck:=ck) (by rw[FS.bb,if_pos rfl]) hg
 have bY:b≠s.n:=by rintro rfl;rw[hb]at hf;cases hf
 have bq:(s.fs.aK b (.bn kvs bs ck)).H s.n=.free:=by rw[FS.bb,if_neg bY];exact hf
 have bR:=cx.new (.mapIter (some k) ck #[] ck) bq (x:=.iter b ck []) trivial fun g' fh=>.iter (heap_alloc_new w _) (by rw[fh b (by rw[hg];intro x;cases x)];exact hg)
 refine Ys (Ka bc) ?_
 have dL:(execOp a.eval io).run P w=.ok (.value (.pointer (some ⟨w.heap.size,0,none⟩))) (w.alloc (.mapIter (some k) ck #[] ck)):=by
  unfold execOp
  simp[bl,Instr.range,run_underlying hu,e1,getObj,newObj,Sem.run,Sem.run_bind,q1]
 unfold Oper.wp
 rw[dL]
 show K' (a.put io.dst _) _
 rw[bg]
 refine hK (Za g s.n (.re w.heap.size)) _ _ _ (h bs ck ep) ?_
 rw[St.bS,St.gW,St.cL]
 exact bR.put (by simpa using hd) (.ptr (by simp[Za]))
theorem Xw1 {w:World} {k:Nat} {m:Option Nat} {s0 c0:Nat} {se:Array Nat} (o':Obj) (hk:w.heap[k]?=some (.mapIter m s0 se c0)):Fr w (ChangeMaps.setBlock w k o') (fun i=>i=k) :=
 ⟨rfl,rfl,rfl,by simp[ChangeMaps.setBlock],fun i _ bY=>by simp only[ChangeMaps.setBlock,Array.getElem?_setIfInBounds];rw[if_neg fun e=>bY e.symm],fun i cur e fz hi=>by
  by_cases h:i=k
  ·subst h;rw[hk]at hi;cases hi
  ·exact ⟨cur,by simp only[ChangeMaps.setBlock,Array.getElem?_setIfInBounds];rw[if_neg fun e=>h e.symm];exact hi,rfl⟩⟩
theorem R7 {r0:List bG} {K:St→Prop} {s:St} {d:Nat} {x:TV} {bi b ck:Nat} {seen bs:List Nat} {kvs:List (AV × AV)} (hx:aZ c.gl s.fs x=.ptr bi 0) (hi:s.fs.H bi=.iter b ck seen) (hb:s.fs.H b=.bn kvs bs ck)
  (h0:(∀ i,i < kvs.length→bs.getD i 0 ∈ seen)→XP P c r0 K (s.put d (.aU [.bool false])))
  (h1:∀ i,i < kvs.length→bs.getD i 0 ∉ seen→XP P c r0 K ((s.aK bi (.iter b ck (seen++[bs.getD i 0]))).put d (.aU [.bool true,(kvs.getD i (.any,.any)).1,(kvs.getD i (.any,.any)).2]))):Xw P c (.pd (some d) .b7 [x] none) r0 K s:=by
 refine .inr fun ops io he g a w hR K' Q' hK=>?_
 obtain ⟨bc,bg,hd,ys,aH,mw⟩:=Zl he
 obtain ⟨y,bl,rfl⟩:=Xsr aH
 obtain rfl:x=aS y:=by simpa using mw
 have hv:=Xx (hR.aF [y]) (by
  show Qt none (aF c.gl s.fs [aS y])
  simp only[aF,List.map_cons,List.map_nil,hx]
  simp[Qt,eR])
 have hv:VR g (Qn c g s.fs) w (.ptr bi 0) (a.eval y):=by
  have e:(aF c.gl s.fs ([y].map aS)).map Qj=[.ptr bi 0]:=by
   show [Qj (aZ c.gl s.fs (aS y))]=_
   rw[hx];rfl
  rw[e]at hv;exact hv.1
 obtain ⟨k,e1,hg⟩:∃ k,a.eval y=.pointer (some ⟨k,0,none⟩)∧g bi=.re k:=by
  generalize a.eval y=u at hv
  cases hv;exact ⟨_,rfl,by assumption⟩
 obtain ⟨m,q1,b9⟩:=R5 hR hi hg
 obtain ⟨es,p1,p2,p3,p4,p5,p6,p7,p8⟩:=Lf hR hb b9
 refine Ys (Ka bc) ?_
 have dL:=run_next_at (P:=P) w io.type k m ck ck seen.toArray es ck q1 p1 (fun x hx=>by
  obtain ⟨j,hj,rfl⟩:=List.getElem_of_mem hx
  have fG:j < es.size:=by simpa using hj
  have:=p5 j fG
  simp only[Array.getD_eq_getD_getElem?,Array.getElem?_eq_getElem fG,Option.getD_some]at this
  simpa using this) (Nat.le_refl _)
 have nv:∀ r w',(Instr.next (.pointer (some ⟨k,0,none⟩)) false io.type).run P w=.ok r w'→(execOp a.eval io).run P w=.ok (.value r) w':=fun r w' h=>by
  unfold execOp
  simp only[bl,e1]
  exact Zo h
 unfold Oper.wp
 rcases dL with ⟨hz,hr⟩|⟨e,lj,w1,mH,hr⟩
 ·rw[nv _ _ hr]
  show K' (a.put io.dst _) _
  rw[bg]
  refine hK g _ _ _ (h0 fun i hi=>?_) (by
   rw[St.bS]
   refine hR.put (by simpa using hd) (.aU rfl fun j hj=>?_)
   have:j=0:=by simp at hj;omega
   subst this;exact .bool _)
  ·have hl:leftOf es seen.toArray=#[]:=Array.eq_empty_of_size_eq_zero hz
   have jN:i < es.size:=by omega
   have:=Array.filter_eq_empty_iff.1 hl es[i] (Array.getElem_mem jN)
   have bH:=p7 i jN
   simp only[Array.getD_eq_getD_getElem?,Array.getElem?_eq_getElem jN,Option.getD_some]at bH
   rw[← bH]
   simpa using this
 ·obtain ⟨CV,Lg⟩:e ∈ es.toList∧e.born ∉ seen:=by
   unfold leftOf at lj
   simp at lj
   exact ⟨by simpa using lj.1,lj.2⟩
  obtain ⟨i,mh,rfl⟩:=List.getElem_of_mem CV
  have jN:i < es.size:=by simpa using mh
  have heq:es.toList[i]=es.getD i default:=by simp[Array.getD_eq_getD_getElem?,jN]
  have R8:=p7 i jN
  rw[heq]at Lg hr
  rw[R8]at Lg
  rw[nv _ _ hr]
  show K' (a.put io.dst _) _
  rw[bg]
  have hRw:R c g s.fs a w1:=by
   rcases mH with rfl|rfl
   ·exact hR
   ·exact hR.grow (Fr.drew w _)
  have R9:w1.heap[k]?=some (.mapIter (some m) ck seen.toArray ck):=by rcases mH with rfl|rfl<;>exact q1
  have aO:(s.fs.H bi).live:=by rw[hi];trivial
  have ib:=Wx R9
  have vt:Qn c g s.fs k:=.inr ⟨bi,aO,hg⟩
  have hf:=Xw1 (.mapIter (some m) ck (seen.toArray.push (es.getD i default).born) ck) R9
  have jD:=hRw.setBlock (x:=.iter b ck (seen++[bs.getD i 0])) hg aO trivial hf (.iter (m:=m) (by
   rw[R8,← List.push_toArray]
   simp[ChangeMaps.setBlock,ib]) b9)
  refine hK g _ _ _ (h1 i ae Lg) (by
   rw[St.bS,St.cL]
   refine jD.put (by simpa using hd) (.aU rfl fun j hj=>?_)
   have hm:∀ {x v},VR g (Qn c g s.fs) w x v→VR g (Qn c g (s.fs.aK bi (.iter b ck (seen++[bs.getD i 0])))) (ChangeMaps.setBlock w1 k (.mapIter (some m) ck (seen.toArray.push (es.getD i default).born) ck)) x v:=fun h =>
    (h.mono (w':=w1) (W':=Qn c g s.fs) (by rcases mH with rfl|rfl;exact Fr.refl _ _;exact Fr.drew _ _) (fun _ _ h=>h) (fun _ _=>rfl)).CM aO trivial (hf.weak fun q hq=>by rw[hq];exact hg)
   have hj3:j < 3:=hj
   rcases (by omega:j=0∨j=1∨j=2) with rfl|rfl|rfl
   ·exact .bool _
   ·exact hm (p3 i ae)
   ·exact hm (p4 i ae))
theorem Sa {r0:List bG} {K:St→Prop} {s:St} {d:Nat} {x:TV} {bi b ck i:Nat} {seen bs:List Nat} {kvs:List (AV × AV)} (hx:aZ c.gl s.fs x=.ptr bi 0) (hi:s.fs.H bi=.iter b ck (seen++[bs.getD i 0])) (hb:s.fs.H b=.bn kvs bs ck) (cK:i < kvs.length)
  (h:XP P c r0 K (s.put d (.aU [(kvs.getD i (.any,.any)).1,(kvs.getD i (.any,.any)).2]))):Xw P c (.pd (some d) .IQ [x] none) r0 K s:=by
 refine .inr fun ops io he g a w hR K' Q' hK=>?_
 obtain ⟨bc,bg,hd,ys,aH,mw⟩:=Zl he
 obtain ⟨y,bl,rfl⟩:=Xv7 aH
 obtain rfl:x=aS y:=by simpa using mw
 have hv:=Xx (hR.aF [y]) (by
  show Qt none (aF c.gl s.fs [aS y])
  simp only[aF,List.map_cons,List.map_nil,hx]
  simp[Qt,eR])
 have hv:VR g (Qn c g s.fs) w (.ptr bi 0) (a.eval y):=by
  have e:(aF c.gl s.fs ([y].map aS)).map Qj=[.ptr bi 0]:=by
   show [Qj (aZ c.gl s.fs (aS y))]=_
   rw[hx];rfl
  rw[e]at hv;exact hv.1
 obtain ⟨k,e1,hg⟩:∃ k,a.eval y=.pointer (some ⟨k,0,none⟩)∧g bi=.re k:=by
  generalize a.eval y=u at hv
  cases hv;exact ⟨_,rfl,by assumption⟩
 obtain ⟨m,q1,b9⟩:=R5 hR hi hg
 obtain ⟨es,p1,p2,p3,p4,p5,p6,p7,p8⟩:=Lf hR hb b9
 have jN:i < es.size:=by omega
 refine Ys (Ka bc) ?_
 have dL:=run_entry_at (P:=P) w k m ck seen.toArray es ck (es.getD i default) (by rw[p7 i jN,List.push_toArray];exact q1) p1 (by
  rw[← vH]
  have:i < es.toList.length:=by simpa using jN
  simp only[List.getD,List.getElem?_eq_getElem this,Option.getD_some]
  exact List.getElem_mem _) (by
  rw[List.nodup_iff_pairwise_ne,List.pairwise_iff_getElem]
  intro x y Sb CW hxy
  simp only[List.length_map,Array.length_toList]at Sb CW
  have:=p6 x y hxy CW
  simp only[List.getElem_map,Array.getElem_toList]
  simp only[Array.getD_eq_getD_getElem?,Array.getElem?_eq_getElem Sb,Array.getElem?_eq_getElem CW,Option.getD_some]at this
  omega)
 have nv:(execOp a.eval io).run P w=.ok (.value (.tuple #[(es.getD i default).key,(es.getD i default).val])) w:=by
  unfold execOp
  simp only[bl,e1]
  exact Zo dL
 unfold Oper.wp
 rw[nv]
 show K' (a.put io.dst _) _
 rw[bg]
 refine hK g _ _ _ h (by
  rw[St.bS]
  refine hR.put (by simpa using hd) (.aU rfl fun j hj=>?_)
  have fG:j < 2:=hj
  rcases (by omega:j=0∨j=1) with rfl|rfl
  ·exact p3 i cK
  ·exact p4 i cK)
end
section
variable {P:Program} {c:Cx} {g:Nat→GM} {a:Act} {w:World}
theorem R.gn {s s':FS} (hR:R c g s a w) (hT:∀ i v,VR g (Qn c g s) w (s.T i) v→VR g (Qn c g s) w (s'.T i) v) (hB:∀ b,BR g (Qn c g s) w (g b) (s.H b)→BR g (Qn c g s) w (g b) (s'.H b)) (hl:∀ b,(s'.H b).live ↔ (s.H b).live):R c g s' a w:=by
 have hW:Qn c g s'=Qn c g s:=by funext i;simp only[Qn,hl]
 refine ⟨hR.size,hR.dK,fun i=>?_,fun i=>?_,fun b=>?_,fun x y k hx hy=>hR.inj x y k ((hl x).1 hx) ((hl y).1 hy),fun x k hx=>hR.old x k ((hl x).1 hx),hR.fr,hR.xs,hR.hU⟩
 ·rw[hW];exact hT i _ (hR.t i)
 ·rw[hW];exact hR.gl i
 ·rw[hW];exact hB b (hR.h b)
theorem R.CX {s:FS} {n:Nat} (hR:R c g s a w) (hf:s.H n=.free):R c (Za g n .ph) (s.aK n (.cells [])) a w:=by
 have ju:g n=.un:=by
  have:=hR.h n
  rw[hf]at this
  generalize g n=m at this
  cases this;rfl
 have bY:∀ {b k},Za g n .ph b=.re k→b≠n∧g b=.re k:=fun {b k} h=>by
  unfold Za at h
  split at h
  ·cases h
  ·rename_i hb;exact ⟨hb,h⟩
 have hg:∀ b,g b≠.un→Za g n .ph b=g b:=zg ju
 have hH:∀ b,b≠n→(s.aK n (.cells [])).H b=s.H b:=fun b hb=>by rw[FS.bb,if_neg fun e=>hb e.symm]
 have hW:∀ k,Qn c (Za g n .ph) (s.aK n (.cells [])) k→Qn c g s k:=by
  rintro k (h|⟨b,h1,h2⟩)
  ·exact .inl h
  ·obtain ⟨hb,h3⟩:=bY h2
   rw[hH b hb]at h1
   exact .inr ⟨b,h1,h3⟩
 have mono:∀ {v u},VR g (Qn c g s) w v u→VR (Za g n .ph) (Qn c (Za g n .ph) (s.aK n (.cells []))) w v u:=fun h=>h.mono (Fr.refl _ _) (fun k _=>hW k) hg
 refine ⟨hR.size,hR.dK,fun j=>mono (hR.t j),fun j=>(hR.gl j).mono (Fr.refl _ _) (fun k _=>hW k) (fun _ _=>rfl),fun b=>?_,fun b b' k h1 h2 e1 e2=>?_,fun b k h1 e1=>?_,hR.fr,hR.xs,Fa hR ju⟩
 ·by_cases hb:b=n
  ·subst hb
   rw[FS.bb,if_pos rfl]
   unfold Za;rw[if_pos rfl];exact .ph
  ·rw[hH b hb]
   have:Za g n .ph b=g b:=by unfold Za;rw[if_neg hb]
   rw[this]
   exact (hR.h b).mono (Fr.refl _ _) (fun k _=>hW k) hg (fun _ _ _=>rfl)
 ·obtain ⟨b1,g1⟩:=bY e1
  obtain ⟨b2,g2⟩:=bY e2
  rw[hH b b1]at h1
  rw[hH b' b2]at h2
  exact hR.inj b b' k h1 h2 g1 g2
 ·obtain ⟨b1,g1⟩:=bY e1
  rw[hH b b1]at h1
  exact hR.old b k h1 g1
theorem BR.jO {W:Nat→Prop} {m:GM} {cs cs':List AV} (h:BR g W w m (.cells cs)) (hl:cs'.length=cs.length) (hv:∀ j v,j < cs.length→VR g W w (cs.getD j .any) v→VR g W w (cs'.getD j .any) v):BR g W w m (.cells cs'):=by
 cases h with
 | ph =>
  obtain rfl:cs'=[]:=List.eq_nil_of_length_eq_zero hl
  exact .ph
 | cells hb h1 h2 h3 h4=>exact .cells hb ae (fun j hj=>h2 j ae) (fun j hj=>hv j _ ae (h3 j ae)) h4
end
theorem To.kN {p:List Nat} {s:St} {b j es:Nat} {cs:List AV} (hb:Qc s.h s.n b=.cells cs) (hj:cs[j]?=some .nils) (hf:s.fs.H s.n=.free) :
  To p s ⟨s.t,(b,.cells (cs.set j (.sl es s.n 0 0 0)))::(s.n,.cells [])::s.h,s.n + 1⟩:=fun c g a w _ hR=>by
 have dQ:b≠s.n:=fun e=>by
  have:s.fs.H b=.cells cs:=hb
  rw[e,hf]at this;cases this
 refine ⟨Za g s.n .ph,?_⟩
 have h1:=hR.CX hf
 have hH:∀ i,(⟨s.t,(b,.cells (cs.set j (.sl es s.n 0 0 0)))::(s.n,.cells [])::s.h,s.n + 1⟩:St).fs.H i=if b=i then .cells (cs.set j (.sl es s.n 0 0 0)) else (s.fs.aK s.n (.cells [])).H i:=fun i=>by
  show Qc ((b,_)::(s.n,_)::s.h) (s.n + 1) i=_
  rw[Qd,FS.bb,Qd]
  split
  ·rfl
  ·split
   ·rfl
   ·rename_i h;exact Wd _ _ _ fun e=>h e.symm
 have dE:(s.fs.aK s.n (.cells [])).H b=.cells cs:=by rw[FS.bb,if_neg fun e=>dQ e.symm];exact hb
 refine h1.gn (fun i v h=>h) (fun i h=>?_) fun i=>?_
 ·rw[hH]
  split
  ·rename_i e;subst e
   rw[dE]at h
   refine h.jO au fun k v hk hv=>?_
   by_cases Sc:j=k
   ·subst Sc
    have e1:cs.getD j .any=.nils:=by simp[List.getD,hj]
    have e2:(cs.set j (.sl es s.n 0 0 0)).getD j .any=.sl es s.n 0 0 0:=by simp[List.getD,List.getElem?_set,hk]
    rw[e1]at hv;rw[e2]
    cases hv
    exact .kq (by unfold Za;rw[if_pos rfl]) rfl
   ·have:(cs.set j (.sl es s.n 0 0 0)).getD k .any=cs.getD k .any:=by simp[List.getD,List.getElem?_set,Sc]
    rw[this];exact hv
  ·exact h
 ·rw[hH]
  split
  ·rename_i e;subst e;rw[dE];exact Iff.rfl
  ·exact Iff.rfl
def Wk (x y:AV):Prop:=∀ (g:Nat→GM) (W:Nat→Prop) (w:World) (v:Value),VR g W w x v→VR g W w y v
theorem Wk.refl (x:AV):Wk x x:=fun _ _ _ _ h=>h
theorem Wk.nils:Wk .nils (.isl 0 []):=fun g W w v h=>by
 cases h
 exact .isl (us:=fun _=>undef) (Nat.le_refl 0) (by simp[maxLen]) (fun j hj=>by simp at hj) fun j hj=>by simp at hj
theorem Wk.cap (es b off n c:Nat):Wk (.sl es b off n c) (.sl es b off n n):=fun g W w v h=>by
 cases h with
 | sl hg hn hc hm hb hs=>exact .sl hg (Nat.le_refl _) ae hm hb hs
 | kq hg hc=>exact .kq hg rfl
theorem Wk.CY {x x' y y':AV} (h:Wk x x') (k:Wk y y'):Wk (.aU [x,y]) (.aU [x',y']):=fun g W w v hv=>by
 obtain ⟨us,rfl,h1,h2⟩:=BJ hv
 refine .aU (by simpa using h1) fun j hj=>?_
 have h3:=h2 j (by simpa using hj)
 have hj:j < 2:=by simpa using hj
 obtain rfl|rfl:j=0∨j=1:=by omega
 ·exact h g W w _ (by simpa [List.getD] using h3)
 ·exact k g W w _ (by simpa [List.getD] using h3)
theorem To.Lh {p:List Nat} {s:St} (i:Nat) {y:AV} (h:Wk (look s.t i) y):To p s ⟨(i,y)::s.t,s.h,s.n⟩:=fun c g a w _ hR=>by
 refine ⟨g,hR.gn (fun k v hv=>?_) (fun _ h=>h) fun _=>Iff.rfl⟩
 show VR _ _ _ (look ((i,y)::s.t) k) v
 rw[Yw]
 split
 ·rename_i e;subst e;exact h _ _ _ _ hv
 ·exact hv
theorem To.Gg {p:List Nat} {s:St} {b:Nat} {cs cs':List AV} (hb:Qc s.h s.n b=.cells cs) (hl:cs'.length=cs.length) (hv:∀ j,j < cs.length→Wk (cs.getD j .any) (cs'.getD j .any)):To p s ⟨s.t,(b,.cells cs')::s.h,s.n⟩:=fun c g a w _ hR=>by
 have hH:∀ i,(⟨s.t,(b,.cells cs')::s.h,s.n⟩:St).fs.H i=if b=i then .cells cs' else s.fs.H i:=fun i=>by
  show Qc ((b,_)::s.h) s.n i=_
  rw[Qd];rfl
 refine ⟨g,hR.gn (fun k v hv=>hv) (fun i h=>?_) fun i=>?_⟩
 ·rw[hH];split
  ·rename_i e;subst e
   rw[show s.fs.H b=.cells cs from hb]at h
   exact h.jO hl fun j v hj=>hv j hj _ _ _ _
  ·exact h
 ·rw[hH];split
  ·rename_i e;subst e;rw[show s.fs.H b=.cells cs from hb];exact Iff.rfl
  ·exact Iff.rfl
theorem VR.froze {c:Cx} {g:Nat→GM} {s:FS} {a:Act} {w:World} (hR:R c g s a w) {es b off n k:Nat} {cs:List AV} (hb:s.H b=.cells cs) {u:Value} (h:VR g (Qn c g s) w (.sl es b off n k) u) :
  VR g (Qn c g (s.aK b .dead)) w (.isl n ((cs.drop off).take (n * es))) u:=by
 have dT:=hR.h b
 rw[hb]at dT
 rcases po h with ⟨kk,cap,e,cur,fz,rfl,hg,h1,h2,h3,h4,h5⟩|⟨vh,rfl,hg,rfl,rfl⟩
 ·rw[hg]at dT
  have hx:¬ Qn c g (s.aK b .dead) kk:=by
   rintro (hx|⟨b',h6,h7⟩)
   ·exact QB hR (by rw[hb];trivial) hg hx
   ·rw[FS.bb]at h6
    split at h6
    ·exact h6.elim
    ·rename_i bY
     exact bY (hR.inj b b' kk (by rw[hb];trivial) h6 hg h7)
  cases dT with
  | cells dE hl jL hv hz =>
   rename_i JH e2 fz2
   rw[h4]at dE;cases dE
   have hlen:∀ j,j < ((cs.drop off).take (n * es)).length→off + j < cs.length∧j < n * es:=fun j hj=>by simp at hj;omega
   refine .isl (us:=fun j=>cur.getD (off + j) undef) ae h3 (fun j hj=>?_) fun j hj=>?_
   ·obtain ⟨pq,fG⟩:=hlen j hj
    refine ⟨kk,off,rfl,?_,hx,jL _ pq⟩
    have:=cell_of_row w kk (off + j) cur e fz h4
    unfold Ud
    rw[this]
    have:off + j < cur.size:=by omega
    simp[Array.getD,this]
   ·obtain ⟨pq,fG⟩:=hlen j hj
    have ee:((cs.drop off).take (n * es)).getD j .any=cs.getD (off + j) .any:=by simp only[List.getD,List.getElem?_take,List.getElem?_drop,if_pos fG]
    rw[ee]
    exact (hv _ pq).mono (Fr.refl _ _) (fun k _=>E9 k) (fun _ _=>rfl)
 ·refine .isl (us:=fun _=>undef) (Nat.le_refl 0) (by simp[maxLen]) (fun j hj=>?_) fun j hj=>?_
  ·simp at hj
  ·simp at hj
theorem VR.dead {c:Cx} {g:Nat→GM} {s:FS} {w:World} {b:Nat} {x:AV} {u:Value} (h:VR g (Qn c g s) w x u):VR g (Qn c g (s.aK b .dead)) w x u:=h.mono (Fr.refl _ _) (fun k _=>E9 k) (fun _ _=>rfl)
theorem To.vJ {p:List Nat} {s:St} {b i:Nat} {v':AV} (hl:(s.fs.H b).live) (hv:∀ (c:Cx) (g:Nat→GM) (a:Act) (w:World),R c g s.fs a w→∀ u,VR g (Qn c g s.fs) w (look s.t i) u→VR g (Qn c g (s.fs.aK b .dead)) w v' u) :
  To p s ⟨(i,v')::s.t,(b,.dead)::s.h,s.n⟩:=fun c g a w _ hR=>by
 have hb:g b≠.un:=fun e=>by
  have:=hR.h b
  rw[e]at this
  exact this.fW hl
 have hk:=hR.kill hb
 have e:(⟨(i,v')::s.t,(b,.dead)::s.h,s.n⟩:St).fs=(s.fs.aK b .dead).put i v':=by
  rw[← St.cL,← St.bS];rfl
 refine ⟨g,?_⟩
 rw[e]
 refine ⟨hk.size,hk.dK,fun j=>?_,hk.gl,hk.h,hk.inj,hk.old,hk.fr,hk.xs,hk.hU⟩
 show VR g _ w (if i=j then v' else s.fs.T j) _
 split
 ·rename_i e;subst e;exact hv c g a w hR _ (hR.t i)
 ·exact hk.t j
theorem To.gb {p:List Nat} {s:St} {b i es off n k:Nat} {cs:List AV} (hb:Qc s.h s.n b=.cells cs) (hi:look s.t i=.sl es b off n k):To p s ⟨(i,.isl n ((cs.drop off).take (n * es)))::s.t,(b,.dead)::s.h,s.n⟩ :=
 To.vJ (by rw[show s.fs.H b=.cells cs from hb];trivial) fun c g a w hR u hu=>by
  rw[hi]at hu
  exact VR.froze hR hb hu
theorem To.Li {p:List Nat} {s:St} {b i es off n k:Nat} {cs:List AV} {y:AV} (hb:Qc s.h s.n b=.cells cs) (hi:look s.t i=.aU [.sl es b off n k,y]):To p s ⟨(i,.aU [.isl n ((cs.drop off).take (n * es)),y])::s.t,(b,.dead)::s.h,s.n⟩ :=
 To.vJ (by rw[show s.fs.H b=.cells cs from hb];trivial) fun c g a w hR u hu=>by
  rw[hi]at hu
  obtain ⟨us,rfl,h1,h2⟩:=BJ hu
  refine .aU (by simpa using h1) fun j hj=>?_
  have h3:=h2 j (by simpa using hj)
  have hj:j < 2:=by simpa using hj
  obtain rfl|rfl:j=0∨j=1:=by omega
  ·exact VR.froze hR hb (by simpa [List.getD] using h3)
  ·exact VR.dead (by simpa [List.getD] using h3)
def vK (t:List (Nat × AV)):List (Nat × AV)→Prop
 | []=>True
 | q::r=>look t q.1=q.2∧vK t r
theorem Sd {t:List (Nat × AV)}:∀ {t':List (Nat × AV)},vK t t'→∀ i,look t' i=.any∨look t' i=look t i
 | [],_,_=>.inl rfl
 | (j,v)::r,h,i=>by
  rw[Yw]
  split
  ·rename_i e;subst e;exact .inr h.1.symm
  ·exact Sd h.2 i
theorem To.dk {p:List Nat} {t t':List (Nat × AV)} {h h':List (Nat × Bk)} {n n':Nat} (hs:vK t t') (hh:∀ b,Qc h' n' b=Qc h n b):To p ⟨t,h,n⟩ ⟨t',h',n'⟩:=fun c g a w _ hR=>by
 refine ⟨g,hR.gn (fun i v hv=>?_) (fun b hb=>?_) fun b=>?_⟩
 ·show VR _ _ _ (look t' i) v
  rcases Sd hs i with e|e
  ·rw[e];exact .any _
  ·rw[e];exact hv
 ·show BR _ _ _ _ (Qc h' n' b)
  rw[hh];exact hb
 ·show (Qc h' n' b).live ↔ (Qc h n b).live
  rw[hh]
theorem Xdm (t:List (Nat × AV)):vK t []=True:=rfl
theorem Xb9 (t:List (Nat × AV)) (i:Nat) (v:AV) (r:List (Nat × AV)):vK t ((i,v)::r)=(look t i=v∧vK t r):=rfl
attribute [go_sem] Xdm Xb9
theorem Qpk {σ:Type} (p:List Nat) (I:σ→Prop) (da:σ→St) (μ:σ→Nat) (x:σ) (Q:EX→St→Prop) (s:St):CP p I da μ x Q .normal s=∃ y,I y∧To p s (da y)∧μ y < μ x:=rfl
theorem Qux {σ:Type} (p:List Nat) (I:σ→Prop) (da:σ→St) (μ:σ→Nat) (x:σ) (Q:EX→St→Prop) (s:St):CP p I da μ x Q .ret s=Q .ret s:=rfl
theorem Qta {σ:Type} (p:List Nat) (I:σ→Prop) (da:σ→St) (μ:σ→Nat) (x:σ) (Q:EX→St→Prop) (i:Nat) (s:St):CP p I da μ x Q (.exit i) s=Q (.exit i) s:=rfl
theorem Xip {ι:Type} (m:Nat) (p:List Nat) (rs:List RS) (Q:ι→Prop) (r:ι→AV) (aw:ι→List (Nat × Bk)) (s:St):Gd m p rs Q r aw .ret s=(Wq s.fs rs∧∃ x,Q x∧To p ⟨[(0,ga s.fs rs)],s.h,s.n⟩ ⟨[(0,r x)],aw x,m⟩):=rfl
theorem Qsz {ι:Type} (m:Nat) (p:List Nat) (rs:List RS) (Q:ι→Prop) (r:ι→AV) (aw:ι→List (Nat × Bk)) (s:St):Gd m p rs Q r aw .normal s=(Wq s.fs rs∧∃ x,Q x∧To p ⟨[(0,ga s.fs rs)],s.h,s.n⟩ ⟨[(0,r x)],aw x,m⟩):=rfl
attribute [go_sem] Qpk Qux Qta Xip Qsz
theorem GS.wk {P:Program} {gl:Nat→AV} {f:FuncId} {args:List AV} {aG aw:List (Nat × Bk)} {m n:Nat} {r r':AV} (h:GS P gl f args aG m r aw n) (hr:Wk r r'):GS P gl f args aG m r' aw n:=by
 refine ⟨h.1,fun w vs G X g hR hv=>(h.2 w vs G X g hR hv).mono ?_⟩
 rintro e w' ⟨v,g',q1,q2,q3,q4⟩
 exact ⟨v,g',q1,q2,q3,hr _ _ _ _ q4⟩
end Go.Proofs.YtogckmommodmhaaGreatDoor
