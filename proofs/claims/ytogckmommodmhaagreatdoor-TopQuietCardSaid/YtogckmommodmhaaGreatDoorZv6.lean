import Derived.Test.YtogckmommodmhaaGreatDoorZv5
import Derived.Test.YtogckmommodmhaaGreatDoorZv4
import Derived.Test.YtogckmommodmhaaGreatDoorZv1
import Derived.MapKept
import Derived.WideKeyRuns
import Derived.Maps.RangeRun
namespace Go.Proofs.YtogckmommodmhaaGreatDoor
open Go.RowKit
set_option linter.all false
set_option linter.unusedSimpArgs false
set_option maxRecDepth 100000
def xf:Bk→Prop
 | .cells _=>True
 | _=>False
theorem Rz {x:Bk} (h:xf x):x.live:=by cases x<;>first|exact h.elim|trivial
theorem Yex (cs:List AV):xf (.cells cs)=True:=rfl
attribute [go_sem] Yex
section
variable {P:Program} {c:Cx} {ops:Array Oper} {io:Oper}
theorem Xvr {o:Oper} {es:Nat} {lo hi:Bool} {xs:List Operand} (h:Yf P o=some (.Fe es lo hi,xs)):∃ t x l h' mx e,o.op=.slice t x l h' (some mx)∧P.underlying t=some (.slice e)∧Zk P e=some es∧l.isSome=lo∧h'.isSome=hi∧xs=x::(l.toList++h'.toList++[mx]):=by
 unfold Yf at h
 repeat' split at h
 all_goals first
  | (simp only[Option.map_eq_some_iff,Prod.mk.injEq,PK.Fe.injEq]at h;obtain ⟨es',h1,⟨rfl,rfl,rfl⟩,rfl⟩:=h;exact ⟨_,_,_,_,_,_,by assumption,by assumption,h1,rfl,rfl,rfl⟩)
  | (simp at h;done)
  | (cases h;done)
  | (simp[Option.map_eq_some_iff]at h;done)
theorem KC {g:Nat→GM} {W:Nat→Prop} {w:World} {k:IntKind} {n:Int} {v:Value} (h:VR g W w (.int k n) v):v=.int k n:=by cases h;rfl
theorem Yba {es b off n cc:Nat} {k1 k2 k3:IntKind} {i j m:Int} (h0:0≤i) (h1:i≤j) (h2:j≤m) (h3:m≤cc):pD P c (.Fe es true true) [.sl es b off n cc,.int k1 i,.int k2 j,.int k3 m] .any:=by
 intro o ys aJ g W a w _ _ hv K Q hK
 obtain ⟨t,x,l,h',mx,e,bl,hu,cR,hl,hh,rfl⟩:=Xvr aJ
 obtain ⟨lo,rfl⟩:=Option.isSome_iff_exists.1 hl
 obtain ⟨hi,rfl⟩:=Option.isSome_iff_exists.1 hh
 obtain ⟨hx,m9,fL,tU,_⟩:=hv
 have he:P.elem t=e:=by simp[Program.elem,hu]
 have Ck:∀ (ad:Option Addr) (len cap:Nat),cc≤cap→a.eval x=.slice ad len cap→∃ v,(execOp a.eval o).run P w=.ok (.value v) w:=by
  intro ad len cap mz hx
  have e1:a.eval lo=.int k1 i:=KC m9
  have e2:a.eval hi=.int k2 j:=KC fL
  have e3:a.eval mx=.int k3 m:=KC tU
  refine ⟨sliced ad i.toNat j.toNat m.toNat es,?_⟩
  simp only[execOp,bl]
  refine Zt ?_
  simp only[Option.map_some,hx,e1,e2,e3]
  rw[run_sliceAt_slice _ _ _ _ _ _ (by rw[he];exact hu),run_slice_lhm _ _ _ _ _ (by rw[he];exact hu) k1 k2 k3 i j m h0 h1 h2 af,he,Ju cR]
  rfl
 have bE:∃ v,(execOp a.eval o).run P w=.ok (.value v) w:=by
  rcases px hx with ⟨k,cap,e',cur,fz,e1,_,_,q2,_,_,_⟩|⟨ad,e1,_,_,q⟩
  ·exact Ck _ _ cap q2 e1
  ·exact Ck _ _ 0 af e1
 obtain ⟨v,hr⟩:=bE
 unfold Oper.wp
 rw[hr]
 exact hK _ _ (Fr.refl _ _) (.any _)
variable {g:Nat→GM} {s:FS} {a:Act} {w:World}
theorem Xnl (hR:R c g s a w) {t u ty e:TypeId} {i:TypeInfo} {z:Value} {es:Nat} (ht:P.underlying t=some (.slice e)) (hu:u=t∨P.underlying u=some .string) (hi:P.info? e=some i) (hz:i.zero=some z) (cR:i.size=es) (kz:z.cells.size=es)
  {b n cc:Nat} {vx:AV} {ub ux:Value} {str:Bool} (hb:VR g (Qo c g s) w (.sl es b 0 n cc) ub) (hx:VR g (Qo c g s) w vx ux) (hl:n * es≤(Zb (s.H b)).length) (ig:xf (s.H b)) (w3:kZ s es str vx) (dX:n + Xm vx≤cc) :
  ∃ v' w',(Builtin.append_ #[t,u] ty #[ub,ux]).run P w=.ok v' w'∧R c g (s.aK b (.cells (Xz s es (.sl es b 0 n cc)++Xz s es vx))) a w' ∧
   VR g (Qo c g (s.aK b (.cells (Xz s es (.sl es b 0 n cc)++Xz s es vx)))) w' (.sl es b 0 (n + Xm vx) cc) v':=by
 have aO:=Rz ig
 obtain ⟨news,q1,q2,q3,q4,q5,q6⟩:=Fv (P:=P) hR hx w3
 obtain ⟨dG,o1,o2,o3,o4,o5,o6⟩:=Fv (P:=P) (str:=false) hR hb (x:=.sl es b 0 n cc) ⟨rfl,rfl,by simpa using hl⟩
 simp only[JN]at o1 o2 o3 o4 o6
 rcases px hb with ⟨k,cap,e',cur,fz,rfl,h1,h2,h3,h4,h5,h6⟩|⟨ad,rfl,h1,rfl,rfl⟩
 ·have hlen:(dG++news).length=(n + Xm vx) * es:=by rw[List.length_append,o3,q3,Nat.add_mul]
  have vq:(Xz s es (.sl es b 0 n cc)++Xz s es vx).length=(n + Xm vx) * es:=by rw[List.length_append,o4,q4,Nat.add_mul]
  have wM:∀ v ∈ dG++news,v.oneCell'=true:=fun v hv=>(List.mem_append.1 hv).elim (o5 v) (q5 v)
  have Fx:∀ j,j < (n + Xm vx) * es→VR g (Qo c g s) w ((Xz s es (.sl es b 0 n cc)++Xz s es vx).getD j .any) ((dG++news).getD j undef):=fun j hj=>by
   by_cases mo:j < n * es
   ·have:=o6 j mo
    simp only[List.getD,List.getElem?_append_left (show j < (Xz s es (.sl es b 0 n cc)).length by omega),List.getElem?_append_left (show j < dG.length by omega)]at this ⊢
    exact this
   ·have:=q6 (j - n * es) (by rw[Nat.add_mul]at hj;omega)
    simp only[List.getD,List.getElem?_append_right (show (Xz s es (.sl es b 0 n cc)).length≤j by omega),List.getElem?_append_right (show dG.length≤j by omega),o3,o4]at this ⊢
    exact this
  have qK:n + Xm vx≤cap:=by omega
  have dh:=hR.h b
  rw[h1]at dh
  have pB:fz=(0,0)∨cur.size≤fz.1:=by
   cases hh:s.H b with
   | cells cs=>rw[hh]at dh;cases dh with|cells bL _ _ _ hf=>rw[h5]at bL;cases bL;exact hf
   | aC kvs dn=>rw[hh]at dh;cases dh with|aC bL=>rw[h5]at bL;cases bL
   | bm kvs bs ck=>rw[hh]at dh;cases dh with|bm bL=>rw[h5]at bL;cases bL
   | iter b0 ck seen=>rw[hh]at dh;cases dh with|iter bL=>rw[h5]at bL;cases bL
   | db ls=>rw[hh]at ig;exact ig.elim
   | free=>rw[hh]at aO;exact aO.elim
   | dead=>rw[hh]at aO;exact aO.elim
  have hmul:(n + Xm vx) * es≤cap * es:=Nat.mul_le_mul_right _ qK
  have ic:n * i.size + news.length≤cur.size:=by rw[cR,q3,← Nat.add_mul];omega
  have hr:=QS (ty:=ty) (P:=P) ht hu hi k n cap ux (Xm vx) news cur e' fz w q1 h5 pB (by rw[cR];exact q2) q5 qK ic
  rw[cR]at hr
  have hnc:n * es≤cap * es:=Nat.mul_le_mul_right es (Nat.le_trans h2 h3)
  have holds:dG=cur.toList.take (n * es):=by
   have a1:=o2 w rfl
   have a2:=run_firstCells_some (P:=P) w es n ⟨k,0,none⟩ n cap (cur.toList.take (n * es)) (by simp;omega) (by have:=JO h5 (o:=0) (n:=n * es) af w rfl;simpa using this)
   rw[a1]at a2
   simpa using a2
  have cE:(cur.toList.take (n * es)++news++cur.toList.drop (n * es + news.length)).toArray.size=cur.size:=by
   rw[cR]at ic
   simp;omega
  have aW:∀ j,j < (n + Xm vx) * es→(cur.toList.take (n * es)++news++cur.toList.drop (n * es + news.length)).toArray.getD j undef=(dG++news).getD j undef:=fun j hj=>by
   rw[← holds]
   simp only[Array.getD_eq_getD_getElem?,List.getD,List.getElem?_toArray]
   rw[List.getElem?_append_left af]
  have hf:=QW (new:=(cur.toList.take (n * es)++news++cur.toList.drop (n * es + news.length)).toArray) h5 cE
  have vr:Qo c g s k:=.inr ⟨b,aO,h1⟩
  have bw:=hR.setBlock (x:=.cells (Xz s es (.sl es b 0 n cc)++Xz s es vx)) h1 aO trivial hf (by
   refine .cells (cur:=(cur.toList.take (n * es)++news++cur.toList.drop (n * es + news.length)).toArray) (e:=e') (fz:=fz) (setRow_heap w k cur _ e' fz h5) af (fun j hj=>?_) (fun j hj=>?_) (by rw[cE];exact pB)
   ·rw[aW j af]
    have cU:j < (dG++news).length:=by omega
    simp only[List.getD,List.getElem?_eq_getElem cU,Option.getD_some]
    exact wM _ (List.getElem_mem cU)
   ·rw[aW j af]
    exact (Fx j af).mono (hf.weak fun i hi=>hi ▸ vr) (fun _ _ h=>h) (fun _ _=>rfl))
  exact ⟨_,_,hr,bw,.sl (k:=k) (e:=e') (fz:=fz) h1 dX h3 h4 (setRow_heap w k cur _ e' fz h5) (by rw[cE];exact h6)⟩
 ·have hm:Xm vx=0:=by omega
  rw[hm]at q1 q2 q3 q4
  have hn:news=[]:=List.eq_nil_of_length_eq_zero af
  have hc:Xz s es vx=[]:=List.eq_nil_of_length_eq_zero af
  have RA:Xz s es (.sl es b 0 0 0)=[]:=List.eq_nil_of_length_eq_zero af
  subst hn
  have hr:=QT (P:=P) (ty:=ty) ht hu hi ad 0 0 ux w q1 (by rw[cR];exact q2) (Nat.le_refl _)
  have vC:s.H b=.cells []:=by
   have dh:=hR.h b
   rw[h1]at dh
   cases hh:s.H b with
   | cells cs=>rw[hh]at dh;cases dh;rfl
   | aC kvs dn=>rw[hh]at dh;cases dh
   | bm kvs bs ck=>rw[hh]at dh;cases dh
   | iter b0 ck seen=>rw[hh]at dh;cases dh
   | db ls=>rw[hh]at ig;exact ig.elim
   | free=>rw[hh]at aO;exact aO.elim
   | dead=>rw[hh]at aO;exact aO.elim
  have hs:s.aK b (.cells (Xz s es (.sl es b 0 0 0)++Xz s es vx))=s:=by
   rw[hc,RA]
   refine pG (fun _=>rfl) fun j=>?_
   rw[FS.bc];split
   ·rename_i h;subst h;rw[vC];rfl
   ·rfl
  rw[hs,hm]
  exact ⟨_,_,hr,hR,.ku h1 rfl⟩
def Cl (s:FS) (es:Nat) (str:Bool):List AV→Prop
 | [.sl es2 b o n cc,vx]=>es2=es∧o=0∧n * es≤(Zb (s.H b)).length∧xf (s.H b)∧kZ s es str vx∧n + Xm vx≤cc
 | _=>False
def KD (es:Nat):List AV→AV
 | [.sl _ b _ n cc,vx]=>.sl es b 0 (n + Xm vx) cc
 | _=>.any
def Cm:List AV→Nat
 | .sl _ b _ _ _::_=>b
 | _=>0
theorem Xs9 (s:FS) (es es2 b o n cc:Nat) (str:Bool) (vx:AV):Cl s es str [.sl es2 b o n cc,vx]=(es2=es∧o=0∧n * es≤(Zb (s.H b)).length∧xf (s.H b)∧kZ s es str vx∧n + Xm vx≤cc):=rfl
theorem Xz5 (es es2 b o n cc:Nat) (vx:AV):KD es [.sl es2 b o n cc,vx]=.sl es b 0 (n + Xm vx) cc:=rfl
theorem Yb4 (es2 b o n cc:Nat) (r:List AV):Cm (.sl es2 b o n cc::r)=b:=rfl
attribute [go_sem] Xs9 Xz5 Yb4
def FQ (s:St) (gl:Nat→AV) (d:Nat) (xs:List TV):bn:=⟨Xr xs,Cm ((aG gl s.fs xs).map Qk)::B0 ((aG gl s.fs xs).map Qk),[d],[Cm ((aG gl s.fs xs).map Qk)]⟩
def Cn (s:St) (gl:Nat→AV) (d es:Nat) (xs:List TV):St:=(s.aK (Cm ((aG gl s.fs xs).map Qk)) (.cells (BZ s.fs es ((aG gl s.fs xs).map Qk)))).put d (KD es ((aG gl s.fs xs).map Qk))
theorem RB {s:St} {d es iF:Nat} {str:Bool} {xs:List TV} (hc:Qv none (aG c.gl s.fs xs)) (aY:Cl s.fs es str ((aG c.gl s.fs xs).map Qk)) :
  Ky P c (.pd (some d) (.app es iF str) xs none) s.fs (FQ s c.gl d xs) (Cn s c.gl d es xs).fs:=by
 intro ops io he
 obtain ⟨bf,bh,hd,ys,aJ,rfl⟩:=Zr he
 obtain ⟨x,y,t,u,e,i,z,rfl,bl,hu,hi,hz,kz,cR,qo,JQ⟩:=Q2 aJ
 have fL:(aG c.gl s.fs ([x,y].map aT)).map Qk=[Qk (aZ c.gl s.fs (aT x)),Qk (aZ c.gl s.fs (aT y))]:=rfl
 unfold FQ Cn
 rw[fL]at aY ⊢
 generalize hvb:Qk (aZ c.gl s.fs (aT x))=vb at *
 generalize Q5:Qk (aZ c.gl s.fs (aT y))=vx at *
 cases vb<;>simp only[Cl]at aY
 rename_i es2 b o n cc
 obtain ⟨rfl,rfl,hl,aO,w3,dX⟩:=aY
 rw[St.bT,St.cK]
 simp only[Cm,KD,B0,BZ]
 refine Fy (kb:=none) (Ka bf) bh (by simpa using hd) fun s2 hT hH g a w hR=>?_
 have bp:aG c.gl s2 ([x,y].map aT)=aG c.gl s.fs ([x,y].map aT):=Yi hT
 have fv:=Yn (hR.aG [x,y]) (by rw[bp];exact hc)
 rw[bp,fL]at fv
 obtain ⟨v1,v2,_⟩:=fv
 have sx:s2.H b=s.fs.H b:=hH b av
 have B6:∀ b',ju vx=some b'→s2.H b'=s.fs.H b':=fun b' h=>hH b' (by simp[h])
 obtain ⟨v',w',hr,h1,h2⟩:=Xnl (P:=P) (ty:=io.type) hR hu JQ hi hz cR (kz.trans cR) v1 v2 (by rw[sx];exact hl) (by rw[sx];exact aO) (Q3 B6 w3) dX
 rw[FB (s:=s.fs) (x:=.sl es2 b 0 n cc) fun b' h=>by cases h;exact sx,FB B6]at h1 h2
 refine ⟨g,v',w',?_,h1,h2⟩
 unfold execOp
 simp only[bl,resolve,invoke,builtin,Sem.run_bind,Sem.run_pure,Result.andThen_ok,List.map_toArray,List.map_cons,List.map_nil,hr]
theorem RC {r0:List bG} {K:St→Prop} {s:St} {d es iF:Nat} {str:Bool} {xs:List TV} (h:Qv none (aG c.gl s.fs xs)∧Cl s.fs es str ((aG c.gl s.fs xs).map Qk)∧XP P c r0 K (Cn s c.gl d es xs)) :
  Yh P c (.pd (some d) (.app es iF str) xs none) r0 K s:=.inl ⟨_,_,RB h.1 h.2.1,h.2.2⟩
theorem RD {anc:List Nat} {fs:List bn} {r0:List bG} {K:St→Prop} {s:St} {d es iF:Nat} {str:Bool} {xs:List TV} (h:Qv none (aG c.gl s.fs xs)∧Cl s.fs es str ((aG c.gl s.fs xs).map Qk)∧XD P c anc r0 (FQ s c.gl d xs::fs) K (Cn s c.gl d es xs)) :
  Zm P c anc (.pd (some d) (.app es iF str) xs none) r0 fs K s:=⟨_,_,RB h.1 h.2.1,h.2.2⟩
attribute [go_sem] Cn FQ
theorem Xsm {o:Oper} {t:TypeId} {xs:List Operand} (h:Yf P o=some (.Fc t,xs)):∃ x,o.op=.call ⟨.builtin .clear,⟨[x]⟩,⟨[t]⟩⟩∧xs=[x]:=by
 unfold Yf at h
 repeat' split at h
 all_goals first
  | (cases h;exact ⟨_,by assumption,rfl⟩)
  | (simp at h;done)
  | (cases h;done)
  | (simp[Option.map_eq_some_iff]at h;done)
def zU (P:Program) (t:TypeId) (es:Nat):Prop:=∃ e i z,P.underlying t=some (.slice e)∧P.info? e=some i∧i.zero=some z∧z.cells.size=es∧z.cells.all (·.oneCell')=true
def RE (P:Program) (t:TypeId) (es:Nat):Bool:=match P.underlying t with
 | some (.slice e)=>match P.info? e with
  | some i=>match i.zero with
   | some z=>decide (z.cells.size=es) && z.cells.all (·.oneCell')
   | none=>false
  | none=>false
 | _=>false
theorem KE {t:TypeId} {es:Nat} (h:RE P t es=true):zU P t es:=by
 unfold RE at h
 split at h
 ·split at h
  ·split at h
   ·rw[Bool.and_eq_true,decide_eq_true_eq]at h
    exact ⟨_,_,_,by assumption,by assumption,by assumption,h.1,h.2⟩
   ·cases h
  ·cases h
 ·cases h
def FR (s:FS) (es:Nat):List AV→Prop
 | [.sl es2 b _ n cc]=>es2=es∧xf (s.H b)∧n≤cc
 | _=>False
def zV:List AV→Nat
 | .sl _ b _ _ _::_=>b
 | _=>0
def FU (s:FS):List AV→List AV
 | .sl _ b off _ _::_=>(Zb (s.H b)).take off
 | _=>[]
theorem Yaz (s:FS) (es es2 b o n cc:Nat):FR s es [.sl es2 b o n cc]=(es2=es∧xf (s.H b)∧n≤cc):=rfl
theorem Ycd (es2 b o n cc:Nat) (r:List AV):zV (.sl es2 b o n cc::r)=b:=rfl
theorem Ycg (s:FS) (es2 b o n cc:Nat) (r:List AV):FU s (.sl es2 b o n cc::r)=(Zb (s.H b)).take o:=rfl
attribute [go_sem] Yaz Ycd Ycg
theorem Xsj {z:Array Value} (h:z.all (·.oneCell')=true) (n:Nat):∀ v ∈ (Builtin.zeroCells z n).toList,v.oneCell'=true:=by
 intro v hv
 unfold Builtin.zeroCells at hv
 simp only[Array.toList_map,List.mem_map]at hv
 obtain ⟨i,hi,rfl⟩:=hv
 have mj:i < n * z.size:=by simpa using hi
 have hz:0 < z.size:=by
  rcases Nat.eq_zero_or_pos z.size with h0|h0
  ·rw[h0]at mj;omega
  ·exact h0
 have hm:=Nat.mod_lt i hz
 rw[getElem!_pos z _ hm]
 exact Array.all_eq_true.1 h _ hm
theorem Xu8 {s:St} {t:TypeId} {es:Nat} {xs:List TV} (hz:zU P t es) (hc:Qv none (aG c.gl s.fs xs)) (aY:FR s.fs es ((aG c.gl s.fs xs).map Qk)) :
  Ky P c (.pd none (.Fc t) xs none) s.fs ⟨Xr xs,[zV ((aG c.gl s.fs xs).map Qk)],[],[zV ((aG c.gl s.fs xs).map Qk)]⟩ (s.aK (zV ((aG c.gl s.fs xs).map Qk)) (.cells (FU s.fs ((aG c.gl s.fs xs).map Qk)))).fs:=by
 intro ops io he
 obtain ⟨bf,bh,hd,ys,aJ,rfl⟩:=Zr he
 obtain ⟨x,bl,rfl⟩:=Xsm aJ
 obtain ⟨e,i,z,hu,hi,hzi,kz,sy⟩:=hz
 have m9:(aG c.gl s.fs ([x].map aT)).map Qk=[Qk (aZ c.gl s.fs (aT x))]:=rfl
 rw[m9]at aY ⊢
 generalize Q5:Qk (aZ c.gl s.fs (aT x))=vx at *
 cases vx<;>simp only[FR]at aY
 rename_i es2 b off n cc
 obtain ⟨rfl,ig,hn⟩:=aY
 rw[St.cK]
 simp only[zV,FU]
 refine ⟨fun i _=>rfl,fun i hi=>by rw[FS.bc,if_neg (fun e=>hi (by simp[e]))],fun s2 hT hH g a w hR K Q' hK=>Zc (Ka bf) ?_⟩
 have bp:aG c.gl s2 ([x].map aT)=aG c.gl s.fs ([x].map aT):=Yi hT
 have fv:=Yn (hR.aG [x]) (by rw[bp];exact hc)
 rw[bp,m9]at fv
 obtain ⟨hx,_⟩:=fv
 have sx:s2.H b=s.fs.H b:=hH b av
 rw[← sx]at ig hK
 have aO:=Rz ig
 have hzv:(zeroValue e).run P w=.ok z w:=by simp[zeroValue,typeInfo,hi,hzi]
 have Co:∀ n,(Builtin.zeroCells z.cells n).toList.length=n * es2:=fun n=>by rw[Array.length_toList,size_zeroCells,kz]
 have Cp:∃ w',(execOp a.eval io).run P w=.ok (.value (.tuple #[])) w'∧R c g (s2.aK b (.cells ((Zb (s2.H b)).take off))) a w':=by
  have dh:=hR.h b
  rcases px hx with ⟨k,cap,e',cur,fz,e1,h1,h2,h3,h4,h5,h6⟩|⟨ad,e1,h1,rfl,rfl⟩
  ·rw[h1]at dh
   have di:=aO
   have np:=sx
   clear sx np hK
   cases hh:s2.H b with
   | aC kvs dn=>rw[hh]at dh;cases dh with|aC bL=>rw[h5]at bL;cases bL
   | bm kvs bs ck=>rw[hh]at dh;cases dh with|bm bL=>rw[h5]at bL;cases bL
   | iter b0 ck seen=>rw[hh]at dh;cases dh with|iter bL=>rw[h5]at bL;cases bL
   | db ls=>rw[hh]at ig;exact ig.elim
   | free=>rw[hh]at aO;exact aO.elim
   | dead=>rw[hh]at aO;exact aO.elim
   | cells cs =>
   rw[hh]at dh
   cases dh with
   | cells bL kR pF oh me =>
   rw[h5]at bL;cases bL
   have hmul:n * es2≤cap * es2:=Nat.mul_le_mul_right _ af
   obtain ⟨w',eK,r1,r2,r3,r4,r5⟩:=IG (P:=P) off (Builtin.zeroCells z.cells n).toList 0 w cur h5 (Xsj sy n) (by rw[Co];omega) me
   have dM:(execOp a.eval io).run P w=.ok (.value (.tuple #[])) w':=by
    unfold execOp
    simp only[bl,resolve,invoke,builtin,Sem.run_bind,Sem.run_pure,Result.andThen_ok,List.map_toArray,List.map_cons,List.map_nil,e1]
    cases n with
    | zero =>
     have:(Builtin.zeroCells z.cells 0).toList=[]:=List.eq_nil_of_length_eq_zero (by rw[Co];omega)
     rw[this]at r1
     have hw:w'=w:=by
      have:(storeCells ⟨k,off,none⟩ [] 0).run P w=.ok () w:=rfl
      rw[this]at r1;cases r1;rfl
     subst hw
     simp[Builtin.clear_,run_underlying hu]
    | succ n=>simp[Builtin.clear_,run_underlying hu,hzv,r1]
   have vr:Qo c g s2 k:=.inr ⟨b,di,h1⟩
   refine ⟨w',dM,hR.setBlock h1 di trivial r5 (.cells r2 (by rw[r3];simp[Zb];omega) (fun j hj=>?_) (fun j hj=>?_) (by rw[r3];exact me))⟩
   ·have cU:j < cs.length∧j < off:=by simp[Zb]at hj;omega
    rw[r4 j,if_neg af]
    exact pF j cU.1
   ·have cU:j < cs.length∧j < off:=by simp[Zb]at hj;omega
    rw[r4 j,if_neg af]
    have:((Zb (Bk.cells cs)).take off).getD j .any=cs.getD j .any:=by simp[Zb,List.getD,List.getElem?_take,cU.2]
    rw[this]
    exact (oh j cU.1).mono (r5.weak fun i hi=>hi ▸ vr) (fun _ _ h=>h) (fun _ _=>rfl)
  ·rw[h1]at dh
   have vC:s2.H b=.cells []:=by
    cases hh:s2.H b with
    | cells cs=>rw[hh]at dh;cases dh;rfl
    | aC kvs dn=>rw[hh]at dh;cases dh
    | bm kvs bs ck=>rw[hh]at dh;cases dh
    | iter b0 ck seen=>rw[hh]at dh;cases dh
    | db ls=>rw[hh]at ig;exact ig.elim
    | free=>rw[hh]at aO;exact aO.elim
    | dead=>rw[hh]at aO;exact aO.elim
   have hs:s2.aK b (.cells ((Zb (s2.H b)).take off))=s2:=by
    refine pG (fun _=>rfl) fun j=>?_
    rw[FS.bc];split
    ·rename_i h;subst h;rw[vC];simp[Zb]
    ·rfl
   rw[hs]
   refine ⟨w,?_,hR⟩
   unfold execOp
   simp only[bl,resolve,invoke,builtin,Sem.run_bind,Sem.run_pure,Result.andThen_ok,List.map_toArray,List.map_cons,List.map_nil,e1]
   cases ad<;>simp[Builtin.clear_,run_underlying hu]
 obtain ⟨w',hr,bg⟩:=Cp
 unfold Oper.wp
 rw[hr]
 show K (a.put io.dst (.tuple #[])) w'
 rw[bh]
 refine hK g a w' ?_
 rw[BG]
 exact bg
theorem FV {r0:List bG} {K:St→Prop} {s:St} {t:TypeId} {es:Nat} {xs:List TV} (hz:zU P t es) (h:Qv none (aG c.gl s.fs xs)∧FR s.fs es ((aG c.gl s.fs xs).map Qk)∧XP P c r0 K (s.aK (zV ((aG c.gl s.fs xs).map Qk)) (.cells (FU s.fs ((aG c.gl s.fs xs).map Qk))))) :
  Yh P c (.pd none (.Fc t) xs none) r0 K s:=.inl ⟨_,_,Xu8 hz h.1 h.2.1,h.2.2⟩
end
def Fix (x:AV) (v:Value):Prop:=∀ (g:Nat→GM) (W:Nat→Prop) (w:World) (u:Value),VR g W w x u ↔ u=v
def Cq:List AV→List Value→Prop
 | [],[]=>True
 | x::xs,v::vs=>Fix x v∧Cq xs vs
 | _,_=>False
theorem Fix.int (k:IntKind) (n:Int):Fix (.int k n) (.int k n):=fun _ _ _ u=>⟨fun h=>by cases h;rfl,fun h=>by subst h;exact .int _ _⟩
theorem Cq.args {g:Nat→GM} {W:Nat→Prop} {w:World}:∀ {xs:List AV} {vs us:List Value},Cq xs vs→bO g W w xs us→us=vs
 | [],[],[],_,_=>rfl
 | _::_,_::_,_::_,h,k=>by rw[(h.1 g W w _).1 k.1,Cq.args h.2 k.2]
 | [],_::_,_,h,_=>h.elim
 | _::_,[],_,h,_=>h.elim
 | [],[],_::_,_,k=>k.elim
 | _::_,_::_,[],_,k=>k.elim
theorem Fr.xg {w w':World} (h:Ext w w'):Fr w w' (fun _=>False) :=
 ⟨h.os,h.tape,h.output,h.size,fun k hk _=>h.block k hk,fun k cur e fz hk=>⟨cur,(h.block k (Uc hk)).trans hk,rfl⟩⟩
theorem PS.iL {P:Program} {gl:Nat→AV} {f:FuncId} {args:List AV} {vs:List Value} {r:AV} {v:Value} (hc:zD P f) (ha:Cq args vs) (hr:Fix r v)
  (h:∀ w,Calls P f vs.toArray w fun e w'=>e=.returned v∧Ext w w'):PS P gl f args r :=
 ⟨hc,fun w us X _ _ hv=>by
  rw[ha.args hv]
  exact (h w).mono fun e w' ⟨e1,e2⟩=>⟨v,e1,(hr _ _ _ _).2 rfl,.xg e2⟩⟩
theorem Fix.str (l:List UInt8):Fix (.str l) (.string ⟨l.toArray⟩):=fun _ _ _ u=>⟨fun h=>by cases h;rfl,fun h=>by subst h;exact .str _⟩
theorem sJ (gl:Nat→AV) (l:List UInt8) (h:l.length≤140737488351232):PS Tryz.prog gl 38 [.str l] (.int .i64 (cp l)) :=
 .iL (vs:=[.string ⟨l.toArray⟩]) ⟨_,Tryz.func38,by kernel_rfl,by kernel_rfl⟩ ⟨.str l,trivial⟩ (.int _ _) fun w=>Y1 ⟨l.toArray⟩ w h
theorem Cr (gl:Nat→AV) (l:List UInt8) (h:l.length≤140737488351232):PS Tryz.prog gl 120 [.str l] (.int .i64 (Zh l)) :=
 .iL (vs:=[.string ⟨l.toArray⟩]) ⟨_,Tryz.func120,by kernel_rfl,by kernel_rfl⟩ ⟨.str l,trivial⟩ (.int _ _)
  fun w=>(Y3 ⟨l.toArray⟩ w (Nat.le_trans h aP)).mono fun _ _ ⟨he,n,hn⟩=>⟨he,by rw[hn];exact Ext.drewN w n⟩
theorem Xnq (gl:Nat→AV) (c m n:Int):PS Tryz.prog gl 166 [.int .i64 c,.int .i64 m,.int .i64 n] (.int .i64 (65535 - pq (pq (65535 - c % 65536) (65535 - m % 65536)) n)) :=
 .iL (vs:=[.int .i64 c,.int .i64 m,.int .i64 n]) ⟨_,Tryz.func166,by kernel_rfl,by kernel_rfl⟩ ⟨.int _ _,.int _ _,.int _ _,trivial⟩ (.int _ _)
  fun w=>(Y4 c m n w).mono fun _ _ ⟨he,hn⟩=>⟨he,by rw[hn];exact Ext.refl w⟩
def Cs (P:Program) (kt:TypeId):Bool:=match P.underlying kt with
 | some (.struct _)=>true
 | some (.array _ _)=>true
 | _=>false
def ji (wide:Bool):AV→Option (List AV)
 | .agg cs=>bif wide then some cs else none
 | x=>bif wide then none else some [x]
def Kj (wide:Bool) (ks:List SK) (x:AV):Prop:=(ji wide x).map (List.map Jg)=some (ks.map some)
structure mE (P:Program) (kt:TypeId) (wide:Bool) (ks:List SK):Prop where
 sh:jK P 100 kt=some ks
 wd:Cs P kt=wide
 ns:∀ k ∈ ks,k≠.str
section
variable {P:Program} {g:Nat→GM} {W:Nat→Prop} {w:World}
theorem KF {wide:Bool} {ks:List SK} {x:AV} (hx:Kj wide ks x):∃ cs,ji wide x=some cs∧cs.map Jg=ks.map some:=by
 unfold Kj at hx
 cases h:ji wide x with
 | none=>rw[h]at hx;cases hx
 | some cs=>rw[h]at hx;exact ⟨cs,rfl,by simpa using hx⟩
theorem RF {x:AV} {cs:List AV} (h:ji false x=some cs):cs=[x]:=by cases x<;>simp[ji]at h<;>exact h.symm
theorem RG {x:AV} {cs:List AV} (h:ji true x=some cs):x=.agg cs:=by cases x<;>simp[ji]at h;rw[h]
theorem Xub {wide:Bool} {x y:AV} {cs:List AV} (hx:ji wide x=some cs) (hy:ji wide y=some cs):x=y:=by
 cases wide with
 | true=>rw[RG hx,RG hy]
 | false=>have h1:=RF hx;have h2:=RF hy;rw[h1]at h2;injection h2
theorem key_holds {kt:TypeId} {wide:Bool} {ks:List SK} (hT:mE P kt wide ks) {x:AV} {v:Value} (hx:Kj wide ks x) (hv:VR g W w x v) :
  ∃ cs us,ji wide x=some cs∧cs.map Jg=ks.map some∧Ww P kt v us∧us.length=cs.length∧∀ j,j < cs.length→VR g W w (cs.getD j .any) (us.getD j undef):=by
 obtain ⟨cs,h1,h2⟩:=KF hx
 have hw:=hT.wd
 unfold Cs at hw
 cases wide with
 | true =>
  cases x<;>simp[ji]at h1
  subst h1
  obtain ⟨us,rfl,q1,q2,q3⟩:=Ub hv
  refine ⟨_,us.toList,rfl,h2,?_,by simpa using q1,fun j hj=>by have:=q3 j hj;simpa [Array.getD_eq_getD_getElem?,List.getD] using this⟩
  unfold Ww
  split<;>simp_all
 | false =>
  have pF:cs=[x]:=by cases x<;>simp[ji]at h1<;>exact h1.symm
  refine ⟨cs,[v],h1,h2,?_,by rw[pF];rfl,fun j hj=>?_⟩
  ·unfold Ww
   split<;>simp_all
  ·rw[pF]at hj ⊢
   simp at hj
   subst hj
   exact hv
theorem Ycz {kt:TypeId} {wide:Bool} {ks:List SK} (hT:mE P kt wide ks) {x y:AV} {u v:Value} (hx:Kj wide ks x) (hy:Kj wide ks y) (hu:VR g W w x u) (hv:VR g W w y v):∃ r:Bool,(∀ w',(Op.equal kt u v).run P w'=.ok r w')∧(r=true ↔ x=y):=by
 obtain ⟨cs,us,x1,x2,x3,x4,x5⟩:=key_holds hT hx hu
 obtain ⟨ds,vs,y1,y2,y3,y4,y5⟩:=key_holds hT hy hv
 have kl:cs.length=ks.length:=by simpa using congrArg List.length x2
 have kl':ds.length=ks.length:=by simpa using congrArg List.length y2
 refine ⟨Jr ks us vs,fun w'=>Ft (P:=P) 9900 100 kt ks hT.sh w' _ _ _ _ x3 y3 af af (zK ks cs _ x2 x4 x5) (zK ks ds _ y2 y4 y5),?_⟩
 rw[JK ks cs ds _ _ x2 y2 x4 y4 x5 y5]
 exact ⟨fun h=>by subst h;exact Xub x1 y1,fun h=>by subst h;rw[x1]at y1;injection y1⟩
theorem Yab {wide:Bool} {ks:List SK} {x:AV} {u v:Value} (hx:Kj wide ks x) (hu:VR g W w x u) (hv:VR g W w x v):u=v:=by
 obtain ⟨cs,h1,h2⟩:=KF hx
 have one:∀ {y:AV} {k:SK} {a b:Value},Jg y=some k→VR g W w y a→VR g W w y b→a=b:=by
  intro y k a b hk ha hb
  cases y<;>simp[Jg]at hk<;>cases ha<;>cases hb<;>rfl
 have all:∀ c ∈ cs,∃ k,Jg c=some k:=fun c hc=>by
  have:Jg c ∈ ks.map some:=by rw[← h2];exact List.mem_map_of_mem hc
  obtain ⟨k,_,hk⟩:=List.mem_map.1 this
  exact ⟨k,hk.symm⟩
 cases x with
 | agg ds =>
  cases wide<;>simp[ji]at h1
  subst h1
  obtain ⟨a,rfl,a1,a2,a3⟩:=Ub hu
  obtain ⟨b,rfl,b1,b2,b3⟩:=Ub hv
  congr 1
  apply Array.ext
  ·rw[a1,b1]
  ·intro j hj fD
   have ln:j < ds.length:=by omega
   obtain ⟨k,hk⟩:=all (ds.getD j .any) (by simp[List.getD,ln])
   have:=one hk (a3 j ln) (b3 j ln)
   simpa [Array.getD_eq_getD_getElem?,hj,fD] using this
 | _ =>
  cases wide<;>simp[ji]at h1
  subst h1
  obtain ⟨k,hk⟩:=all _ (List.mem_singleton.2 rfl)
  exact one hk hu hv
theorem KG (em:Bool) (d:Nat):∀ (m:Nat) (t:TypeId) (ks:List SK),jK P m t=some ks→∀ (w:World) (x:Value) (us:List Value),Ww P t x us→us.length=ks.length→ky ks us→(Instr.checkKey em (d + m) t x).run P w=.ok () w
 | 0,_,_,h=>by cases h
 | m + 1,t,ks,h=>by
  intro w x us hx lu ou
  unfold jK at h
  cases hu:P.underlying t with
  | none=>simp[hu]at h
  | some kd =>
   rw[hu]at h
   simp only[Ww,hu]at hx
   rw[show d + (m + 1)=(d + m) + 1 from rfl]
   cases kd<;>simp only[Option.some.injEq,reduceCtorEq]at h hx
   case bool=>subst h hx;obtain ⟨⟨a,rfl⟩,_⟩:=ou;simp[Instr.checkKey,run_underlying hu]
   case int k=>subst h hx;obtain ⟨⟨a,rfl⟩,_⟩:=ou;simp[Instr.checkKey,run_underlying hu]
   case string=>subst h hx;obtain ⟨⟨a,rfl⟩,_⟩:=ou;simp[Instr.checkKey,run_underlying hu]
   case struct fs =>
    subst hx
    split at h
    ·cases h
    ·rw[Instr.checkKey]
     simp only[Sem.run_bind,run_underlying hu,Result.andThen_ok]
     rw[← Array.forIn_toList]
     have key:∀ (L:List Field) (o:Nat) (ks:List SK),zI (jK P m) P o L=some ks→ky ks (us.toArray.toList.drop o) →
       (forIn L PUnit.unit fun f r=>do
        if f.name ≠ "_" then do
         let v ← part f.type us.toArray f.offset
         Instr.checkKey em (d + m) f.type v
         pure (ForInStep.yield PUnit.unit)
        else pure (ForInStep.yield PUnit.unit):Sem PUnit).run P w=.ok PUnit.unit w:=by
      intro L
      induction L with
      | nil=>intro o ks _ _;simp
      | cons f L ih =>
       intro o ks h hx
       unfold zI at h
       split at h
       ·cases h
       ·rename_i hn
        simp only[not_or,Decidable.not_not]at hn
        obtain ⟨dW,ew,mw⟩:=hn
        have nf:=Fs mw
        simp only[Option.bind_eq_some_iff]at h
        obtain ⟨k1,h1,h2⟩:=h
        split at h2
        ·rename_i hc
         simp only[Option.map_eq_some_iff]at h2
         obtain ⟨k2,h2,rfl⟩:=h2
         obtain ⟨x1,x2⟩:=vo _ _ _ hx
         obtain ⟨a,pa,ha⟩:=zJ w h1 nf hc x1
         have lx:=vp _ _ x1
         have hr:=KG em d m _ _ h1 w a _ ha (by rw[List.length_take];omega) (wZ _ _ x1)
         rw[List.drop_drop]at x2
         simp only[List.forIn_cons,Sem.run_bind,dW,ne_eq,not_false_eq_true,if_true,ew,pa,hr,Result.andThen_ok,Sem.run_pure]
         exact ih _ _ h2 x2
        ·cases h2
     have h3:=key fs.toList 0 ks h (by simpa using ou)
     rw[h3];rfl
   case array n e =>
    subst hx
    split at h
    ·cases h
    ·rename_i aI
     obtain ⟨i,hi⟩:=Option.isSome_iff_exists.1 (Fs aI)
     simp only[Option.bind_eq_some_iff]at h
     obtain ⟨k1,h1,h2⟩:=h
     split at h2
     ·rename_i hc
      cases h2
      rw[Instr.checkKey]
      simp only[Sem.run_bind,run_underlying hu,Result.andThen_ok]
      simp only[Std.Legacy.Range.forIn_eq_forIn_range',Std.Legacy.Range.size,Nat.sub_zero,Nat.add_one_sub_one,Nat.div_one]
      have key:∀ (n i0:Nat),ky (List.replicate n k1).flatten (us.toArray.toList.drop (i0 * k1.length)) →
        (forIn (List.range' i0 n) PUnit.unit fun i r=>do
         let z ← sizeOf e
         let v ← part e us.toArray (i * z)
         Instr.checkKey em (d + m) e v
         pure (ForInStep.yield PUnit.unit):Sem PUnit).run P w=.ok PUnit.unit w:=by
       intro n
       induction n with
       | zero=>intro i0 _;simp
       | succ n ih =>
        intro i0 hx
        rw[List.replicate_succ,List.flatten_cons]at hx
        obtain ⟨x1,x2⟩:=vo _ _ _ hx
        obtain ⟨a,pa,ha⟩:=zJ w h1 (by rw[hi];rfl) hc x1
        have lx:=vp _ _ x1
        have hr:=KG em d m _ _ h1 w a _ ha (by rw[List.length_take];omega) (wZ _ _ x1)
        have e1:i0 * k1.length + k1.length=(i0 + 1) * k1.length:=by rw[Nat.add_mul,Nat.one_mul]
        rw[List.drop_drop,e1]at x2
        rw[List.range'_succ]
        simp only[List.forIn_cons,Sem.run_bind,run_sizeOf w hi,hc,pa,hr,Result.andThen_ok,Sem.run_pure]
        exact ih (i0 + 1) x2
      have h3:=key n 0 (by simpa using ou)
      rw[h3];rfl
     ·cases h2
theorem KH {kt:TypeId} {wide:Bool} {ks:List SK} (hT:mE P kt wide ks) {x:AV} {v:Value} (hx:Kj wide ks x) (hv:VR g W w x v) (em:Bool) (w':World):(Instr.checkKey em 10000 kt v).run P w'=.ok () w':=by
 obtain ⟨cs,us,x1,x2,x3,x4,x5⟩:=key_holds hT hx hv
 have kl:cs.length=ks.length:=by simpa using congrArg List.length x2
 exact KG em 9900 100 kt ks hT.sh w' v us x3 af (zK ks cs _ x2 x4 x5)
open Classical in
noncomputable def iy (kvs:List (AV × AV)) (x:AV):Option Nat:=kvs.findIdx? fun p=>decide (p.1=x)
theorem RH {kt:TypeId} {wide:Bool} {ks:List SK} (hT:mE P kt wide ks) {x:AV} {v:Value} (hx:Kj wide ks x) (hv:VR g W w x v):∀ (kvs:List (AV × AV)) (es:List MapEntry) (i:Nat),es.length=kvs.length→(∀ p ∈ kvs,Kj wide ks p.1) →
  (∀ j,j < kvs.length→VR g W w (kvs.getD j (.any,.any)).1 (es.getD j default).key)→∀ w',(Instr.findAsking kt v es i).run P w'=.ok ((iy kvs x).map fun j=>(i + j,(es.getD j default).val)) w'
 | [],[],i,_,_,_,w'=>by simp[Instr.findAsking,iy]
 | [],_::_,_,h,_,_,_=>by simp at h
 | _::_,[],_,h,_,_,_=>by simp at h
 | p::kvs,e::es,i,hl,hk,fv,w'=>by
  have h0:=fv 0 av
  simp only[List.getD_cons_zero]at h0
  obtain ⟨r,hr,qL⟩:=Ycz hT hx (hk p av) hv h0
  have ih:=RH hT hx hv kvs es (i + 1) (by simpa using hl) (fun q hq=>hk q (by simp[hq])) (fun j hj=>by simpa using fv (j + 1) (by simp;omega)) w'
  simp only[Instr.findAsking,Sem.run_bind,hr,Result.andThen_ok]
  unfold iy at ih ⊢
  rw[List.findIdx?_cons]
  cases r with
  | true =>
   have:p.1=x:=(qL.1 rfl).symm
   simp[this]
  | false =>
   have bN:¬ p.1=x:=fun h=>by have:=qL.2 h.symm;cases this
   simp only[Bool.false_eq_true,if_false,bN,decide_false]
   rw[ih]
   generalize List.findIdx? _ kvs=o
   cases o with
   | none=>rfl
   | some j=>simp only[Option.map_some,List.getD_cons_succ];rw[show i + 1 + j=i + (j + 1) by omega]
theorem RJ {kt:TypeId} {ks:List SK} {d:TypeDesc} (hu:P.underlying kt=some d) (hT:mE P kt false ks) {x:AV} {v:Value} (hx:Kj false ks x) (hv:VR g W w x v):∀ (kvs:List (AV × AV)) (es:List MapEntry) (i:Nat),es.length=kvs.length→(∀ p ∈ kvs,Kj false ks p.1) →
  (∀ j,j < kvs.length→VR g W w (kvs.getD j (.any,.any)).1 (es.getD j default).key)→Instr.findNow d v es i=some ((iy kvs x).map fun j=>(i + j,(es.getD j default).val))
 | [],[],i,_,_,_=>by simp[Instr.findNow,iy]
 | [],_::_,_,h,_,_=>by simp at h
 | _::_,[],_,h,_,_=>by simp at h
 | p::kvs,e::es,i,hl,hk,fv=>by
  have h0:=fv 0 av
  simp only[List.getD_cons_zero]at h0
  have ih:=RJ hu hT hx hv kvs es (i + 1) (by simpa using hl) (fun q hq=>hk q (by simp[hq])) (fun j hj=>by simpa using fv (j + 1) (by simp;omega))
  have dJ:∃ r:Bool,Instr.sameNow d v e.key=some r∧(r=true ↔ p.1=x):=by
   obtain ⟨cs,us,x1,x2,x3,x4,x5⟩:=key_holds hT hx hv
   obtain ⟨ds,vs,y1,y2,y3,y4,y5⟩:=key_holds hT (hk p av) h0
   have xh:=hT.sh
   have xi:=hT.wd
   unfold Cs at xi
   unfold jK at xh
   rw[hu]at xh xi
   simp only[Ww,hu]at x3 y3
   have oE:ji false p.1=some [p.1]:=by revert y1;cases p.1<;>simp[ji]
   have sH:ji false x=some [x]:=by revert x1;cases x<;>simp[ji]
   rw[sH]at x1;rw[oE]at y1
   cases x1;cases y1
   cases d<;>simp only[Option.some.injEq,reduceCtorEq]at xh xi
   case bool =>
    subst xh
    simp at x2 y2
    cases x<;>simp[Jg]at x2
    cases hp:p.1<;>rw[hp]at y2 h0<;>simp[Jg]at y2
    cases hv;cases hq:e.key<;>rw[hq]at h0<;>cases h0
    refine ⟨_,rfl,?_⟩
    simp;exact eq_comm
   case int k =>
    subst xh
    simp at x2 y2
    cases x<;>simp[Jg]at x2
    cases hp:p.1<;>rw[hp]at y2 h0<;>simp[Jg]at y2
    subst x2 y2
    cases hv;cases hq:e.key<;>rw[hq]at h0<;>cases h0
    refine ⟨_,by simp only[Instr.sameNow,if_true];rfl,?_⟩
    simp;exact eq_comm
   case string=>exact (hT.ns _ (by rw[← xh];simp) rfl).elim
   all_goals first|(cases xh;done)|(simp at xi;done)
  obtain ⟨r,hr,qL⟩:=dJ
  unfold Instr.findNow
  rw[hr]
  unfold iy at ih ⊢
  rw[List.findIdx?_cons]
  cases r with
  | true=>simp[qL.1 rfl]
  | false =>
   have bN:¬ p.1=x:=fun h=>by have:=qL.2 h;cases this
   simp only[Bool.false_eq_true,if_false,bN,decide_false]
   rw[ih]
   generalize List.findIdx? _ kvs=o
   cases o with
   | none=>rfl
   | some j=>simp only[Option.map_some,List.getD_cons_succ];rw[show i + 1 + j=i + (j + 1) by omega]
theorem KI {kt:TypeId} {wide:Bool} {ks:List SK} (hT:mE P kt wide ks) {x:AV} {v:Value} (hx:Kj wide ks x) (hv:VR g W w x v) {kvs:List (AV × AV)} {es:List MapEntry} (hl:es.length=kvs.length) (hk:∀ p ∈ kvs,Kj wide ks p.1)
  (fv:∀ j,j < kvs.length→VR g W w (kvs.getD j (.any,.any)).1 (es.getD j default).key) (w':World):(Instr.findKey kt v es).run P w'=.ok ((iy kvs x).map fun j=>(j,(es.getD j default).val)) w':=by
 cases wide with
 | true =>
  have xi:=hT.wd
  unfold Cs at xi
  rw[run_findKey_eq w' (by split at xi<;>simp_all) v es,RH hT hx hv kvs es 0 hl hk fv w']
  simp
 | false =>
  cases hu:P.underlying kt with
  | none=>have:=hT.sh;unfold jK at this;rw[hu]at this;cases this
  | some d =>
   rw[MapKept.run_findKey hu (RJ hu hT hx hv kvs es 0 hl hk fv)]
   simp
theorem Xuv {wide:Bool} {ks:List SK} (KJ:∀ k ∈ ks,k≠.str) {x:AV} {v:Value} (hx:Kj wide ks x) (hv:VR g W w x v):Instr.sameBits 10000 v v=true:=by
 obtain ⟨cs,h1,h2⟩:=KF hx
 have all:∀ c ∈ cs,∃ k,Jg c=some k∧k≠.str:=fun c hc=>by
  have:Jg c ∈ ks.map some:=by rw[← h2];exact List.mem_map_of_mem hc
  obtain ⟨k,tZ,hk⟩:=List.mem_map.1 this
  exact ⟨k,hk.symm,KJ k tZ⟩
 have one:∀ {y:AV} {k:SK} {a:Value} (n:Nat),Jg y=some k∧k≠.str→VR g W w y a→Instr.sameBits n a a=true:=by
  rintro y k a n ⟨hk,hk2⟩ ha
  cases y<;>simp[Jg]at hk<;>(try (exact (hk2 hk.symm).elim))<;>cases ha<;>cases n<;>simp[Instr.sameBits]
 cases x with
 | agg ds =>
  cases wide<;>simp[ji]at h1
  subst h1
  obtain ⟨a,rfl,a1,a2,a3⟩:=Ub hv
  show (a.size == a.size && (a.toList.zip a.toList).all fun (x,y)=>Instr.sameBits 9999 x y)=true
  simp only[beq_self_eq_true,Bool.true_and,List.all_eq_true]
  rintro ⟨u1,u2⟩ hm
  obtain ⟨j,hj,he⟩:=List.getElem_of_mem hm
  simp at hj
  simp only[List.getElem_zip,Prod.mk.injEq]at he
  obtain ⟨e1,e2⟩:=he
  subst e1 e2
  have ln:j < ds.length:=by omega
  obtain ⟨k,hk⟩:=all (ds.getD j .any) (by simp[List.getD,ln])
  have:=one 9999 hk (a3 j ln)
  simpa [Array.getD_eq_getD_getElem?,hj] using this
 | _ =>
  cases wide<;>simp[ji]at h1
  subst h1
  obtain ⟨k,hk⟩:=all _ (List.mem_singleton.2 rfl)
  exact one _ hk hv
end
def RK (P:Program) (t:TypeId):Option (Bool × List SK × AV):=match P.underlying t with
 | some (.map kt et)=>match jK P 100 kt with
  | some ks=>if ks.all (fun k=>match k with|.str=>false|_=>true) then ((P.info? et).bind (·.zero)).map fun z=>(Cs P kt,ks,tD z) else none
  | none=>none
 | _=>none
structure dk (P:Program) (t:TypeId) (wide:Bool) (ks:List SK) (z:AV):Prop where
 of:∃ kt et zv,P.underlying t=some (.map kt et)∧mE P kt wide ks∧(∀ w,(zeroValue et).run P w=.ok zv w)∧tD zv=z
theorem dk.mk' {P:Program} {t:TypeId} {wide:Bool} {ks:List SK} {z:AV} (h:RK P t=some (wide,ks,z)):dk P t wide ks z:=by
 unfold RK at h
 split at h
 ·rename_i kt et hu
  split at h
  ·rename_i ks' dK
   split at h
   ·rename_i KJ
    simp only[Option.map_eq_some_iff,Prod.mk.injEq]at h
    obtain ⟨zv,hz,rfl,rfl,rfl⟩:=h
    refine ⟨kt,et,zv,hu,⟨dK,rfl,fun k hk e=>?_⟩,fun w=>?_,rfl⟩
    ·have:=List.all_eq_true.1 KJ k hk
     subst e;cases this
    ·cases hi:P.info? et with
     | none=>rw[hi]at hz;cases hz
     | some i=>rw[hi]at hz;simp at hz;simp[zeroValue,typeInfo,hi,hz]
   ·cases h
  ·cases h
 ·cases h
noncomputable def nt (kvs:List (AV × AV)) (x z:AV):AV:=match iy kvs x with
 | some i=>(kvs.getD i (.any,.any)).2
 | none=>z
noncomputable def zW (kvs:List (AV × AV)) (x:AV):Bool:=(iy kvs x).isSome
noncomputable def nu (kvs:List (AV × AV)) (x v:AV):List (AV × AV):=match iy kvs x with
 | some i=>kvs.set i (x,v)
 | none=>kvs++[(x,v)]
noncomputable def ud (kvs:List (AV × AV)) (x:AV):List (AV × AV):=match iy kvs x with
 | some i=>kvs.eraseIdx i
 | none=>kvs
noncomputable def Yfh (kvs:List (AV × AV)) (x z:AV):List (AV × AV):=match iy kvs x with
 | some _=>kvs
 | none=>kvs++[(x,z)]
noncomputable def vg (kvs:List (AV × AV)) (x:AV):Nat:=(iy kvs x).getD kvs.length
def xj (wide:Bool) (ks:List SK) (kvs:List (AV × AV)):Prop:=∀ p ∈ kvs,Kj wide ks p.1
theorem KK {kvs:List (AV × AV)} {x:AV} {i:Nat} (h:iy kvs x=some i):i < kvs.length∧(kvs.getD i (.any,.any)).1=x:=by
 unfold iy at h
 obtain ⟨hi,h1,_⟩:=List.findIdx?_eq_some_iff_getElem.1 h
 refine ⟨hi,?_⟩
 have e:kvs.getD i (.any,.any)=kvs[i]:=by simp[List.getD,hi]
 rw[e];exact @of_decide_eq_true _ (Classical.propDecidable _) h1
section
variable {P:Program} {c:Cx} {ops:Array Oper} {io:Oper} {g:Nat→GM} {s:FS} {a:Act} {w:World}
theorem Ct (hR:R c g s a w) {b k:Nat} {kvs:List (AV × AV)} {dn:Bool} (hb:s.H b=.aC kvs dn) (hg:g b=.re k):∃ es clock,w.heap[k]?=some (.map es clock)∧es.size=kvs.length ∧
  (∀ j,j < kvs.length→VR g (Qo c g s) w (kvs.getD j (.any,.any)).1 (es.getD j default).key)∧(∀ j,j < kvs.length→VR g (Qo c g s) w (kvs.getD j (.any,.any)).2 (es.getD j default).val) ∧
  (∀ j,j < es.size→(es.getD j default).born < clock)∧(∀ i j,i < j→j < es.size→(es.getD i default).born < (es.getD j default).born)∧(dn=true→(∀ j,j < es.size→(es.getD j default).born=j)∧clock=es.size):=by
 have:=hR.h b
 rw[hb,hg]at this
 cases this with
 | aC h1 h2 h3 h4 h5 h6 h7=>exact ⟨_,_,h1,h2,h3,h4,h5,h6,h7⟩
theorem vD {es:Array MapEntry} (j:Nat):es.toList.getD j default=es.getD j default:=by simp[Array.getD_eq_getD_getElem?,List.getD]
theorem FW {k:Nat} {o:Obj} {es:Array MapEntry} {clock:Nat} (hk:w.heap[k]?=some (.map es clock)):(setObj k o).run P w=.ok () { w with heap:=w.heap.setIfInBounds k o }:=by
 simp[setObj,Sem.run,hk]
theorem Xph {k:Nat} {es es':Array MapEntry} {clock clock':Nat} (hk:w.heap[k]?=some (.map es clock)):Fr w { w with heap:=w.heap.setIfInBounds k (.map es' clock') } (fun i=>i=k) :=
 ⟨rfl,rfl,rfl,by simp,fun i _ bN=>by simp only[Array.getElem?_setIfInBounds];rw[if_neg fun e=>bN e.symm],fun i cur e fz hi=>by
  by_cases h:i=k
  ·subst h;rw[hk]at hi;cases hi
  ·exact ⟨cur,by simp only[Array.getElem?_setIfInBounds];rw[if_neg fun e=>h e.symm];exact hi,rfl⟩⟩
theorem Xoo {k:Nat} {o o':Obj} (hk:w.heap[k]?=some o):({ w with heap:=w.heap.setIfInBounds k o' }:World).heap[k]?=some o':=by
 have:=Uc hk
 simp[this]
theorem R.j9 (hR:R c g s a w) {b k:Nat} {kvs kvs':List (AV × AV)} {dn dn':Bool} {es es':Array MapEntry} {clock clock':Nat} (hb:s.H b=.aC kvs dn) (hg:g b=.re k) (hk:w.heap[k]?=some (.map es clock)) (hs:es'.size=kvs'.length)
  (h1:∀ j,j < kvs'.length→VR g (Qo c g s) w (kvs'.getD j (.any,.any)).1 (es'.getD j default).key) (h2:∀ j,j < kvs'.length→VR g (Qo c g s) w (kvs'.getD j (.any,.any)).2 (es'.getD j default).val)
  (h3:∀ j,j < es'.size→(es'.getD j default).born < clock') (h4:∀ i j,i < j→j < es'.size→(es'.getD i default).born < (es'.getD j default).born) (h5:dn'=true→(∀ j,j < es'.size→(es'.getD j default).born=j)∧clock'=es'.size) :
  R c g (s.aK b (.aC kvs' dn')) a { w with heap:=w.heap.setIfInBounds k (.map es' clock') }:=by
 have aO:(s.H b).live:=by rw[hb];trivial
 have hf:=Xph (es':=es') (clock':=clock') hk
 have vr:Qo c g s k:=.inr ⟨b,aO,hg⟩
 have hm:∀ {x v},VR g (Qo c g s) w x v→VR g (Qo c g s) { w with heap:=w.heap.setIfInBounds k (.map es' clock') } x v:=fun h=>h.mono (hf.weak fun i hi=>hi ▸ vr) (fun _ _ h=>h) (fun _ _=>rfl)
 exact hR.setBlock hg aO trivial hf (.aC (Xoo hk) hs (fun j hj=>hm (h1 j hj)) (fun j hj=>hm (h2 j hj)) h3 h4 h5)
theorem R.gb (hR:R c g s a w) {b:Nat} {kvs:List (AV × AV)} {dn:Bool} (hb:s.H b=.aC kvs dn):R c g (s.aK b (.aC kvs false)) a w:=by
 have h:=hR.h b
 rw[hb]at h
 generalize hg:g b=m at h
 cases h with
 | aC h1 h2 h3 h4 h5 h6 h7 =>
  exact hR.setBlock hg (by rw[hb];trivial) trivial (Fr.refl _ _) (.aC h1 h2 h3 h4 h5 h6 fun h=>by cases h)
theorem Xyd (hR:R c g s a w) {t:TypeId} {wide:Bool} {ks:List SK} {z:AV} (hT:dk P t wide ks z) {b:Nat} {kvs:List (AV × AV)} {dn:Bool} (hb:s.H b=.aC kvs dn) {x:AV} {m v:Value} (hm:VR g (Qo c g s) w (.mp b) m) (hx:VR g (Qo c g s) w x v) (sK:Kj wide ks x) (dK:xj wide ks kvs) (ok:Bool) :
  ∃ r,(Instr.lookup t m v ok).run P w=.ok r w∧VR g (Qo c g s) w (bif ok then .aU [nt kvs x z,.bool (zW kvs x)] else nt kvs x z) r:=by
 obtain ⟨kt,et,zv,hu,hK,hz,rfl⟩:=hT.of
 obtain ⟨k,rfl,hg⟩:=By hm
 obtain ⟨es,clock,q1,q2,q3,q4,q5,q6,q7⟩:=Ct hR hb hg
 have jg:=KI hK sK hx (kvs:=kvs) (es:=es.toList) (by simpa using q2) dK (fun j hj=>by rw[vD];exact q3 j hj) w
 have cW:=KH hK sK hx es.isEmpty w
 have eV:(getObj k).run P w=.ok (.map es clock) w:=by simp[getObj,Sem.run,q1]
 have fA:∃ r0,VR g (Qo c g s) w (nt kvs x (tD zv)) r0∧(Instr.lookup t (.map (some k)) v ok).run P w=.ok (if ok then .tuple #[r0,.bool (zW kvs x)] else r0) w:=by
  unfold nt zW
  cases hf:iy kvs x with
  | none =>
   rw[hf]at jg
   refine ⟨zv,EW zv,?_⟩
   simp only[Instr.lookup,Sem.run_bind,run_underlying hu,Result.andThen_ok,eV,cW,jg,Option.map_none,hz,Sem.run_pure]
   rfl
  | some i =>
   rw[hf]at jg
   obtain ⟨hi,_⟩:=KK hf
   refine ⟨_,q4 i hi,?_⟩
   simp only[Instr.lookup,Sem.run_bind,run_underlying hu,Result.andThen_ok,eV,cW,jg,Option.map_some,Sem.run_pure,vD]
   rfl
 obtain ⟨r0,hv,hr⟩:=fA
 refine ⟨_,hr,?_⟩
 cases ok with
 | false=>exact hv
 | true =>
  refine .aU rfl fun j hj=>?_
  match j,hj with
  | 0,_=>exact hv
  | 1,_=>exact .bool _
  | j + 2,hj=>simp at hj;omega
theorem zX {es:Array MapEntry} {e:MapEntry} (j:Nat):(es.push e).getD j default=if j=es.size then e else es.getD j default:=by
 simp only[Array.getD_eq_getD_getElem?,Array.getElem?_push]
 split<;>rfl
theorem KL {es:Array MapEntry} {f:MapEntry→MapEntry} {i:Nat} (hi:i < es.size) (j:Nat):(es.modify i f).getD j default=if j=i then f (es.getD j default) else es.getD j default:=by
 simp only[Array.getD_eq_getD_getElem?,Array.getElem?_modify]
 by_cases h:j=i
 ·subst h;simp[hi]
 ·rw[if_neg h,if_neg fun e=>h e.symm]
theorem RL {kvs:List (AV × AV)} {p:AV × AV} (j:Nat):(kvs++[p]).getD j (.any,.any)=if j=kvs.length then p else kvs.getD j (.any,.any):=by
 by_cases h:j=kvs.length
 ·subst h;simp[List.getD]
 ·rw[if_neg h]
  rcases Nat.lt_or_ge j kvs.length with h1|h1
  ·simp[List.getD,List.getElem?_append_left h1]
  ·have:(kvs++[p])[j]?=none:=List.getElem?_eq_none (by simp;omega)
   simp[List.getD,this,List.getElem?_eq_none h1]
theorem RM {kvs:List (AV × AV)} {p:AV × AV} {i:Nat} (hi:i < kvs.length) (j:Nat):(kvs.set i p).getD j (.any,.any)=if j=i then p else kvs.getD j (.any,.any):=by
 by_cases h:j=i
 ·subst h;simp[List.getD,hi]
 ·rw[if_neg h];simp[List.getD,List.getElem?_set_ne fun e=>h e.symm]
theorem Yf0 (hR:R c g s a w) {b k:Nat} {kvs:List (AV × AV)} {dn:Bool} (hb:s.H b=.aC kvs dn) (hg:g b=.re k) {es:Array MapEntry} {clock:Nat} (q1:w.heap[k]?=some (.map es clock)) {i:Nat} (hi:i < kvs.length) {y:AV} {u:Value} (hy:VR g (Qo c g s) w y u) {f:MapEntry→MapEntry}
  (xk:∀ e,(f e).born=e.born) (jq:(f (es.getD i default)).val=u) (hf3:(f (es.getD i default)).key=(es.getD i default).key) :
  R c g (s.aK b (.aC (kvs.set i ((kvs.getD i (.any,.any)).1,y)) dn)) a { w with heap:=w.heap.setIfInBounds k (.map (es.modify i f) clock) }:=by
 obtain ⟨es',clock',r1,q2,q3,q4,q5,q6,q7⟩:=Ct hR hb hg
 rw[q1]at r1;cases r1
 have jL:i < es.size:=by omega
 have dF:∀ j,((es.modify i f).getD j default).born=(es.getD j default).born:=fun j=>by
  rw[KL jL];split
  ·exact xk _
  ·rfl
 refine hR.j9 hb hg q1 (by simp;exact q2) (fun j hj=>?_) (fun j hj=>?_) (fun j hj=>?_) (fun i' j iG hj=>?_) (fun hd=>?_)
 ·rw[List.length_set]at hj
  rw[RM hi,KL jL]
  split
  ·rename_i e;subst e;rw[hf3];exact q3 _ hj
  ·exact q3 _ hj
 ·rw[List.length_set]at hj
  rw[RM hi,KL jL]
  split
  ·rename_i e;subst e;rw[jq];exact hy
  ·exact q4 _ hj
 ·rw[dF];exact q5 j (by simpa using hj)
 ·rw[dF,dF];exact q6 i' j iG (by simpa using hj)
 ·obtain ⟨d1,d2⟩:=q7 hd
  exact ⟨fun j hj=>by rw[dF];exact d1 j (by simpa using hj),by simpa using d2⟩
theorem Yc5 (hR:R c g s a w) {b k:Nat} {kvs:List (AV × AV)} {dn:Bool} (hb:s.H b=.aC kvs dn) (hg:g b=.re k) {es:Array MapEntry} {clock:Nat} (q1:w.heap[k]?=some (.map es clock)) {x y:AV} {v u:Value} (hx:VR g (Qo c g s) w x v) (hy:VR g (Qo c g s) w y u) :
  R c g (s.aK b (.aC (kvs++[(x,y)]) dn)) a { w with heap:=w.heap.setIfInBounds k (.map (es.push { key:=v,val:=u,born:=clock }) (clock + 1)) }:=by
 obtain ⟨es',clock',r1,q2,q3,q4,q5,q6,q7⟩:=Ct hR hb hg
 rw[q1]at r1;cases r1
 refine hR.j9 hb hg q1 (by simp;exact q2) (fun j hj=>?_) (fun j hj=>?_) (fun j hj=>?_) (fun i j iG hj=>?_) (fun hd=>?_)
 ·rw[List.length_append,List.length_singleton]at hj
  rw[RL,zX,q2]
  split
  ·exact hx
  ·exact q3 j af
 ·rw[List.length_append,List.length_singleton]at hj
  rw[RL,zX,q2]
  split
  ·exact hy
  ·exact q4 j af
 ·rw[Array.size_push]at hj
  rw[zX]
  split
  ·show clock < clock + 1;omega
  ·have:=q5 j af;omega
 ·rw[Array.size_push]at hj
  rw[zX,zX,if_neg af]
  split
  ·exact q5 i af
  ·exact q6 i j iG af
 ·obtain ⟨d1,d2⟩:=q7 hd
  refine ⟨fun j hj=>?_,by rw[Array.size_push];omega⟩
  rw[Array.size_push]at hj
  rw[zX]
  split
  ·rename_i e;show clock=j;omega
  ·exact d1 j af
theorem Xzq (hR:R c g s a w) {t:TypeId} {wide:Bool} {ks:List SK} {z:AV} (hT:dk P t wide ks z) {b:Nat} {kvs:List (AV × AV)} {dn:Bool} (hb:s.H b=.aC kvs dn) {x y:AV} {m v u:Value} (hm:VR g (Qo c g s) w (.mp b) m) (hx:VR g (Qo c g s) w x v) (hy:VR g (Qo c g s) w y u)
  (sK:Kj wide ks x) (dK:xj wide ks kvs):∃ w',(Instr.mapUpdate t m v u).run P w=.ok () w'∧R c g (s.aK b (.aC (nu kvs x y) dn)) a w':=by
 obtain ⟨kt,et,zv,hu,hK,hz,rfl⟩:=hT.of
 obtain ⟨k,rfl,hg⟩:=By hm
 obtain ⟨es,clock,q1,q2,q3,q4,q5,q6,q7⟩:=Ct hR hb hg
 have jg:=KI hK sK hx (kvs:=kvs) (es:=es.toList) (by simpa using q2) dK (fun j hj=>by rw[vD];exact q3 j hj) w
 have cW:=KH hK sK hx false w
 have eV:(getObj k).run P w=.ok (.map es clock) w:=by simp[getObj,Sem.run,q1]
 have iM:=Uc q1
 unfold nu
 cases hf:iy kvs x with
 | none =>
  rw[hf]at jg
  refine ⟨_,?_,Yc5 hR hb hg q1 hx hy⟩
  simp only[Instr.mapUpdate,Sem.run_bind,run_underlying hu,Result.andThen_ok,eV,cW,jg,Option.map_none,FW q1]
 | some i =>
  rw[hf]at jg
  obtain ⟨hi,KM⟩:=KK hf
  have jL:i < es.size:=by omega
  have h3:=q3 i hi
  rw[KM]at h3
  have KN:(es.getD i default).key=v:=Yab sK h3 hx
  have wK:Instr.sameBits 10000 v v=true:=Xuv hK.ns sK hx
  have vE:(Instr.keyThatStays (((es[i]?).map (·.key)).getD v) v).run P w=.ok v w:=by
   have e:((es[i]?).map (·.key)).getD v=v:=by
    have:es.getD i default=es[i]:=by simp[Array.getD_eq_getD_getElem?,jL]
    rw[Array.getElem?_eq_getElem jL]
    rw[this]at KN
    simpa using KN
   rw[e]
   simp[Instr.keyThatStays,wK]
  have bw:=Yf0 hR hb hg q1 hi hy (f:=fun e=>{ e with key:=v,val:=u }) (fun _=>rfl) rfl KN.symm
  rw[KM]at bw
  refine ⟨_,?_,bw⟩
  simp only[Instr.mapUpdate,Sem.run_bind,run_underlying hu,Result.andThen_ok,eV,cW,jg,Option.map_some,vE,FW q1]
end
def fx:List AV→Nat
 | .mp b::_=>b
 | _=>0
def FX:List AV→Prop
 | .mp _::_=>True
 | _=>False
def mF:List AV→AV
 | _::x::_=>x
 | _=>.any
def zY:List AV→AV
 | _::_::x::_=>x
 | _=>.any
def Cu:List AV→Int
 | _::.int _ n::_=>n
 | _=>0
def RN:List AV→Prop
 | _::.int .i64 _::_=>True
 | _=>False
def kC:Bk→List (AV × AV)
 | .aC kvs _=>kvs
 | _=>[]
def Cv:Bk→Bool
 | .aC _ dn=>dn
 | _=>false
def FY:Bk→Prop
 | .aC _ _=>True
 | _=>False
theorem Yf8 (b:Nat) (r:List AV):fx (.mp b::r)=b:=rfl
theorem Ydj (b:Nat) (r:List AV):FX (.mp b::r)=True:=rfl
theorem Ydp (x y:AV) (r:List AV):mF (x::y::r)=y:=rfl
theorem Ycr (x y z:AV) (r:List AV):zY (x::y::z::r)=z:=rfl
theorem Ydn (x:AV) (k:IntKind) (n:Int) (r:List AV):Cu (x::.int k n::r)=n:=rfl
theorem Ybt (x:AV) (n:Int) (r:List AV):RN (x::.int .i64 n::r)=True:=rfl
theorem Yea (kvs:List (AV × AV)) (dn:Bool):kC (.aC kvs dn)=kvs:=rfl
theorem Yec (kvs:List (AV × AV)) (dn:Bool):Cv (.aC kvs dn)=dn:=rfl
theorem Xs7 (kvs:List (AV × AV)) (dn:Bool):FY (.aC kvs dn)=True:=rfl
theorem Qyr (ks:List SK) (cs:List AV):Kj true ks (.agg cs)=(cs.map Jg=ks.map some):=by simp[Kj,ji]
theorem Qyq (k:IntKind) (n:Int):Kj false [.int k] (.int k n)=True:=by simp[Kj,ji,Jg]
theorem Qz0 (k:IntKind) (n:Int):Jg (.int k n)=some (.int k):=rfl
theorem Qx8 (b:Bool):Jg (.bool b)=some .bool:=rfl
attribute [go_sem] Yf8 Ydj Ydp Ycr Ydn Ybt Yea Yec Xs7 Qyr Qyq Qz0 Qx8
theorem KO {vs:List AV} (h:FX vs):∃ b r,vs=.mp b::r:=by
 match vs,h with
 | .mp b::r,_=>exact ⟨b,r,rfl⟩
theorem KP {x:Bk} (h:FY x):∃ kvs dn,x=.aC kvs dn:=by
 cases x<;>first|exact h.elim|exact ⟨_,_,rfl⟩
section
variable {P:Program} {c:Cx} {ops:Array Oper} {io:Oper}
theorem Xwb {o:Oper} {t:TypeId} {ok:Bool} {xs:List Operand} (h:Yf P o=some (.zt t ok,xs)):∃ m k,o.op=.lookup t m k ok∧xs=[m,k]:=by
 unfold Yf at h
 repeat' split at h
 all_goals first
  | (cases h;exact ⟨_,_,by assumption,rfl⟩)
  | (simp at h;done)
  | (cases h;done)
  | (simp[Option.map_eq_some_iff]at h;done)
theorem Xsa {o:Oper} {t:TypeId} {xs:List Operand} (h:Yf P o=some (.BD t,xs)):∃ m k v,o.op=.mapUpdate t m k v∧xs=[m,k,v]:=by
 unfold Yf at h
 repeat' split at h
 all_goals first
  | (cases h;exact ⟨_,_,_,by assumption,rfl⟩)
  | (simp at h;done)
  | (cases h;done)
  | (simp[Option.map_eq_some_iff]at h;done)
theorem Xuf {o:Oper} {t:TypeId} {xs:List Operand} (h:Yf P o=some (.Fb t,xs)):∃ r,o.op=.makeMap t r∧(r=none∨∃ k n,r=some (.const (.int k n)))∧xs=[]:=by
 unfold Yf at h
 repeat' split at h
 all_goals first
  | (rename_i hh;exact Bool.noConfusion hh)
  | (cases h;exact ⟨_,by assumption,.inl rfl,rfl⟩)
  | (cases h;exact ⟨_,by assumption,.inr ⟨_,_,rfl⟩,rfl⟩)
  | (simp at h;done)
  | (cases h;done)
  | (simp[Option.map_eq_some_iff]at h;done)
theorem Ybv {s:FS} {d:Nat} {V:AV} {rt rb:List Nat} (hg:io.guard=none) (bh:io.dst=some d) (hd:d < c.N)
  (core:∀ s2:FS,(∀ i ∈ rt,s2.T i=s.T i)→(∀ b ∈ rb,s2.H b=s.H b)→∀ g a w,R c g s2 a w→∃ v',(execOp a.eval io).run P w=.ok (.value v') w∧VR g (Qo c g s2) w V v') :
  oy P c ops io s ⟨rt,rb,[d],[]⟩ (s.put d V):=by
 refine ⟨fun i hi=>?_,fun j hj=>rfl,fun s2 hT hH g a w hR K Q' hK=>Zc hg ?_⟩
 ·rw[FS.dg,if_neg (fun e=>hi (by simp[e]))]
 ·obtain ⟨v',hr,hv⟩:=core s2 hT hH g a w hR
  unfold Oper.wp
  rw[hr]
  show K (a.put io.dst v') w
  rw[bh]
  refine hK g _ w ?_
  rw[wP]
  exact hR.put hd hv
theorem Ybw {s:FS} {b d:Nat} {X:Bk} {V:AV} {rt rb:List Nat} (hg:io.guard=none) (bh:io.dst=some d) (hd:d < c.N)
  (core:∀ s2:FS,(∀ i ∈ rt,s2.T i=s.T i)→(∀ b ∈ rb,s2.H b=s.H b)→∀ g a w,R c g s2 a w→∃ g' v' w',(execOp a.eval io).run P w=.ok (.value v') w'∧R c g' (s2.aK b X) a w'∧VR g' (Qo c g' (s2.aK b X)) w' V v') :
  oy P c ops io s ⟨rt,rb,[d],[b]⟩ ((s.aK b X).put d V):=by
 refine ⟨fun i hi=>?_,fun j hj=>?_,fun s2 hT hH g a w hR K Q' hK=>Zc hg ?_⟩
 ·rw[FS.dg,if_neg (fun e=>hi (by simp[e]))];rfl
 ·rw[FS.qi,FS.bc,if_neg (fun e=>hj (by simp[e]))]
 ·obtain ⟨g',v',w',hr,bg,hv⟩:=core s2 hT hH g a w hR
  unfold Oper.wp
  rw[hr]
  show K (a.put io.dst v') w'
  rw[bh]
  refine hK g' _ w' ?_
  rw[PB]
  exact bg.put hd hv
theorem Ye8 {s:FS} {b:Nat} {X:Bk} {rt rb:List Nat} (hg:io.guard=none) (bh:io.dst=none)
  (core:∀ s2:FS,(∀ i ∈ rt,s2.T i=s.T i)→(∀ b ∈ rb,s2.H b=s.H b)→∀ g a w,R c g s2 a w→∃ g' w',(execOp a.eval io).run P w=.ok .skip w'∧R c g' (s2.aK b X) a w') :
  oy P c ops io s ⟨rt,rb,[],[b]⟩ (s.aK b X):=by
 refine ⟨fun i hi=>rfl,fun j hj=>?_,fun s2 hT hH g a w hR K Q' hK=>Zc hg ?_⟩
 ·rw[FS.bc,if_neg (fun e=>hj (by simp[e]))]
 ·obtain ⟨g',w',hr,bg⟩:=core s2 hT hH g a w hR
  unfold Oper.wp
  rw[hr]
  show K (a.put io.dst undef) w'
  rw[bh]
  refine hK g' _ w' ?_
  rw[BG]
  exact bg
def pI (s:FS) (wide:Bool) (ks:List SK) (vs:List AV):Prop:=FX vs∧FY (s.H (fx vs))∧Kj wide ks (mF vs)∧xj wide ks (kC (s.H (fx vs)))
noncomputable def zZ (s:FS) (z:AV) (ok:Bool) (vs:List AV):AV:=bif ok then .aU [nt (kC (s.H (fx vs))) (mF vs) z,.bool (zW (kC (s.H (fx vs))) (mF vs))] else nt (kC (s.H (fx vs))) (mF vs) z
def sL (s:FS) (gl:Nat→AV) (xs:List TV) (wt:List Nat) (wr:Bool):bn:=⟨Xr xs,[fx ((aG gl s xs).map Qk)],wt,bif wr then [fx ((aG gl s xs).map Qk)] else []⟩
theorem KQ {s:St} {d:Nat} {t:TypeId} {ok:Bool} {xs:List TV} {wide:Bool} {ks:List SK} {z:AV} (hT:dk P t wide ks z) (hc:Qv none (aG c.gl s.fs xs)) (aY:pI s.fs wide ks ((aG c.gl s.fs xs).map Qk)) :
  Ky P c (.pd (some d) (.zt t ok) xs none) s.fs (sL s.fs c.gl xs [d] false) (s.put d (zZ s.fs z ok ((aG c.gl s.fs xs).map Qk))).fs:=by
 intro ops io he
 obtain ⟨bf,bh,hd,ys,aJ,rfl⟩:=Zr he
 obtain ⟨m,k,bl,rfl⟩:=Xwb aJ
 have fL:(aG c.gl s.fs ([m,k].map aT)).map Qk=[Qk (aZ c.gl s.fs (aT m)),Qk (aZ c.gl s.fs (aT k))]:=rfl
 unfold sL
 rw[fL]at aY ⊢
 generalize RO:Qk (aZ c.gl s.fs (aT m))=vm at *
 generalize BY:Qk (aZ c.gl s.fs (aT k))=vk at *
 obtain ⟨h1,h2,h3,h4⟩:=aY
 obtain ⟨b,r,hb⟩:=KO h1
 injection hb with fO dF
 subst fO
 obtain ⟨kvs,dn,np⟩:=KP h2
 simp only[zZ,fx,mF,cond_false]at h3 h4 np ⊢
 rw[np]at h4 ⊢
 simp only[kC]at h4 ⊢
 rw[St.bT]
 refine Ybv (Ka bf) bh (by simpa using hd) fun s2 mG sM g a w hR=>?_
 have bp:aG c.gl s2 ([m,k].map aT)=aG c.gl s.fs ([m,k].map aT):=Yi mG
 have fv:=Yn (hR.aG [m,k]) (by rw[bp];exact hc)
 rw[bp,fL]at fv
 obtain ⟨v1,v2,_⟩:=fv
 obtain ⟨r0,hr,hv⟩:=Xyd hR hT (b:=b) (kvs:=kvs) (dn:=dn) (by rw[sM b av,np]) v1 v2 h3 h4 ok
 refine ⟨r0,?_,hv⟩
 unfold execOp
 simp only[bl]
 exact Zt hr
theorem nv {r0:List bG} {K:St→Prop} {s:St} {d:Nat} {t:TypeId} {ok:Bool} {xs:List TV} {wide:Bool} {ks:List SK} {z:AV} (hT:dk P t wide ks z) (h:Qv none (aG c.gl s.fs xs)∧pI s.fs wide ks ((aG c.gl s.fs xs).map Qk)∧XP P c r0 K (s.put d (zZ s.fs z ok ((aG c.gl s.fs xs).map Qk)))) :
  Yh P c (.pd (some d) (.zt t ok) xs none) r0 K s:=.inl ⟨_,_,KQ hT h.1 h.2.1,h.2.2⟩
theorem Ud {anc:List Nat} {fs:List bn} {r0:List bG} {K:St→Prop} {s:St} {d:Nat} {t:TypeId} {ok:Bool} {xs:List TV} {wide:Bool} {ks:List SK} {z:AV} (hT:dk P t wide ks z) (h:Qv none (aG c.gl s.fs xs)∧pI s.fs wide ks ((aG c.gl s.fs xs).map Qk)∧XD P c anc r0 (sL s.fs c.gl xs [d] false::fs) K (s.put d (zZ s.fs z ok ((aG c.gl s.fs xs).map Qk)))) :
  Zm P c anc (.pd (some d) (.zt t ok) xs none) r0 fs K s:=⟨_,_,KQ hT h.1 h.2.1,h.2.2⟩
def Cw (s:FS) (vs:List AV) (kvs:List (AV × AV)):Bk:=.aC kvs (Cv (s.H (fx vs)))
theorem RQ {s:St} {t:TypeId} {xs:List TV} {wide:Bool} {ks:List SK} {z:AV} (hT:dk P t wide ks z) (hc:Qv none (aG c.gl s.fs xs)) (aY:pI s.fs wide ks ((aG c.gl s.fs xs).map Qk)) :
  Ky P c (.pd none (.BD t) xs none) s.fs (sL s.fs c.gl xs [] true) (s.aK (fx ((aG c.gl s.fs xs).map Qk)) (Cw s.fs ((aG c.gl s.fs xs).map Qk) (nu (kC (s.fs.H (fx ((aG c.gl s.fs xs).map Qk)))) (mF ((aG c.gl s.fs xs).map Qk)) (zY ((aG c.gl s.fs xs).map Qk))))).fs:=by
 intro ops io he
 obtain ⟨bf,bh,hd,ys,aJ,rfl⟩:=Zr he
 obtain ⟨m,k,v,bl,rfl⟩:=Xsa aJ
 have fL:(aG c.gl s.fs ([m,k,v].map aT)).map Qk=[Qk (aZ c.gl s.fs (aT m)),Qk (aZ c.gl s.fs (aT k)),Qk (aZ c.gl s.fs (aT v))]:=rfl
 unfold sL
 rw[fL]at aY ⊢
 generalize RO:Qk (aZ c.gl s.fs (aT m))=vm at *
 generalize BY:Qk (aZ c.gl s.fs (aT k))=vk at *
 generalize tJ:Qk (aZ c.gl s.fs (aT v))=vv at *
 obtain ⟨h1,h2,h3,h4⟩:=aY
 obtain ⟨b,r,hb⟩:=KO h1
 injection hb with fO dF
 subst fO
 obtain ⟨kvs,dn,np⟩:=KP h2
 simp only[Cw,fx,mF,zY,cond_true]at h3 h4 np ⊢
 rw[np]at h4 ⊢
 simp only[kC,Cv]at h4 ⊢
 rw[St.cK]
 refine Ye8 (Ka bf) bh fun s2 mG sM g a w hR=>?_
 have bp:aG c.gl s2 ([m,k,v].map aT)=aG c.gl s.fs ([m,k,v].map aT):=Yi mG
 have fv:=Yn (hR.aG [m,k,v]) (by rw[bp];exact hc)
 rw[bp,fL]at fv
 obtain ⟨v1,v2,v3,_⟩:=fv
 obtain ⟨w',hr,bg⟩:=Xzq hR hT (b:=b) (kvs:=kvs) (dn:=dn) (by rw[sM b av,np]) v1 v2 v3 h3 h4
 refine ⟨g,w',?_,bg⟩
 unfold execOp
 simp only[bl,Sem.run_bind,hr,Result.andThen_ok,Sem.run_pure]
theorem z6 {r0:List bG} {K:St→Prop} {s:St} {t:TypeId} {xs:List TV} {wide:Bool} {ks:List SK} {z:AV} (hT:dk P t wide ks z) (h:Qv none (aG c.gl s.fs xs)∧pI s.fs wide ks ((aG c.gl s.fs xs).map Qk)∧XP P c r0 K (s.aK (fx ((aG c.gl s.fs xs).map Qk)) (Cw s.fs ((aG c.gl s.fs xs).map Qk) (nu (kC (s.fs.H (fx ((aG c.gl s.fs xs).map Qk)))) (mF ((aG c.gl s.fs xs).map Qk)) (zY ((aG c.gl s.fs xs).map Qk)))))) :
  Yh P c (.pd none (.BD t) xs none) r0 K s:=.inl ⟨_,_,RQ hT h.1 h.2.1,h.2.2⟩
theorem z7 {anc:List Nat} {fs:List bn} {r0:List bG} {K:St→Prop} {s:St} {t:TypeId} {xs:List TV} {wide:Bool} {ks:List SK} {z:AV} (hT:dk P t wide ks z) (h:Qv none (aG c.gl s.fs xs)∧pI s.fs wide ks ((aG c.gl s.fs xs).map Qk)∧XD P c anc r0 (sL s.fs c.gl xs [] true::fs) K (s.aK (fx ((aG c.gl s.fs xs).map Qk)) (Cw s.fs ((aG c.gl s.fs xs).map Qk) (nu (kC (s.fs.H (fx ((aG c.gl s.fs xs).map Qk)))) (mF ((aG c.gl s.fs xs).map Qk)) (zY ((aG c.gl s.fs xs).map Qk)))))) :
  Zm P c anc (.pd none (.BD t) xs none) r0 fs K s:=⟨_,_,RQ hT h.1 h.2.1,h.2.2⟩
def Yeq (s:FS) (wide:Bool) (ks:List SK) (vs:List AV):Prop:=pI s wide ks vs∧Cv (s.H (fx vs))=true
noncomputable def Yfw (s:FS) (z:AV) (vs:List AV):AV:=.aU [nt (kC (s.H (fx vs))) (mF vs) z,.int .i64 (vg (kC (s.H (fx vs))) (mF vs))]
noncomputable def Yfe (s:FS) (z:AV) (vs:List AV):Bk:=.aC (Yfh (kC (s.H (fx vs))) (mF vs) z) true
theorem VR.Cy {g:Nat→GM} {s:FS} {b:Nat} {X:Bk} {w w':World} {x:AV} {v:Value} (h:VR g (Qo c g s) w x v) (hb:(s.H b).live) (hX:X.live) (hf:Fr w w' (fun i=>g b=.re i)):VR g (Qo c g (s.aK b X)) w' x v :=
 h.mono (hf.weak fun i hi=>.inr ⟨b,hb,hi⟩) (fun k _ hk=>by
  rcases hk with h|⟨b',h1,h2⟩
  ·exact .inl h
  ·rw[FS.bc]at h1
   split at h1
   ·rename_i e;subst e;exact .inr ⟨_,hb,h2⟩
   ·exact .inr ⟨b',h1,h2⟩) (fun _ _=>rfl)
def Yeh (s:FS) (vs:List AV):Prop:=FX vs∧FY (s.H (fx vs))∧Cv (s.H (fx vs))=true∧RN vs∧0≤Cu vs∧Cu vs < (kC (s.H (fx vs))).length
def Yfi (s:FS) (vs:List AV):Bk:=.aC ((kC (s.H (fx vs))).set (Cu vs).toNat (((kC (s.H (fx vs))).getD (Cu vs).toNat (.any,.any)).1,zY vs)) true
theorem Xvn {s:St} {d:Nat} {t:TypeId} {wide:Bool} {ks:List SK} {z:AV} (hT:dk P t wide ks z) (hf:s.fs.H s.n=.free):Ky P c (.pd (some d) (.Fb t) [] none) s.fs ⟨[],[s.n],[d],[s.n]⟩ ((s.nw (.aC [] true)).put d (.mp s.n)).fs:=by
 intro ops io he
 obtain ⟨bf,bh,hd,ys,aJ,my⟩:=Zr he
 obtain ⟨r,bl,hr,rfl⟩:=Xuf aJ
 obtain ⟨kt,et,zv,hu,_,_,_⟩:=hT.of
 rw[St.bT,St.gV]
 refine Ybw (Ka bf) bh (by simpa using hd) fun s2 mG sM g a w hR=>?_
 have bq:s2.H s.n=.free:=by rw[sM _ av];exact hf
 have b6:=heap_alloc_new w (.map #[] 0)
 have dM:(execOp a.eval io).run P w=.ok (.value (.map (some w.heap.size))) (w.alloc (.map #[] 0)):=by
  rcases hr with rfl|⟨k,n,rfl⟩
  ·simp[execOp,bl,Instr.makeMap,newObj,Sem.run]
  ·simp[execOp,bl,Instr.makeMap,newObj,Sem.run_bind,run_underlying hu,asInt,asIntOf,Act.eval];simp[Sem.run]
 refine ⟨_,_,_,dM,hR.new (.map #[] 0) bq trivial fun g' fk=>?_,.mp (by simp[Zg])⟩
 exact .aC b6 rfl (fun j hj=>by simp at hj) (fun j hj=>by simp at hj) (fun j hj=>by simp at hj) (fun i j _ hj=>by simp at hj) (fun _=>⟨fun j hj=>by simp at hj,rfl⟩)
theorem KR {r0:List bG} {K:St→Prop} {s:St} {d:Nat} {t:TypeId} {wide:Bool} {ks:List SK} {z:AV} (hT:dk P t wide ks z) (h:s.fs.H s.n=.free∧XP P c r0 K ((s.nw (.aC [] true)).put d (.mp s.n))) :
  Yh P c (.pd (some d) (.Fb t) [] none) r0 K s:=.inl ⟨_,_,Xvn hT h.1,h.2⟩
attribute [go_sem] pI zZ sL Cw Yeq Yfw Yfe Yeh Yfi
end
mutual
def cP (S:Nat→Prop):AV→Prop
 | .dw _ v=>cP S v
 | .agg cs=>cT S cs
 | .aU cs=>cT S cs
 | .xp cs _=>cT S cs
 | .isl _ cs=>cT S cs
 | .cl _ cs=>cT S cs
 | .ptr b _=>S b
 | .sl _ b _ _ _=>S b
 | .mp b=>S b
 | _=>True
def cT (S:Nat→Prop):List AV→Prop
 | []=>True
 | x::xs=>cP S x∧cT S xs
end
theorem Cz {S:Nat→Prop}:∀ {cs:List AV},cT S cs ↔ ∀ x ∈ cs,cP S x
 | []=>by simp[cT]
 | x::xs=>by simp[cT,Cz (cs:=xs)]
theorem Aa {S:Nat→Prop} {cs:List AV} (h:cT S cs) (j:Nat):cP S (cs.getD j .any):=by
 by_cases hj:j < cs.length
 ·rw[Bt hj];exact Cz.1 h _ (List.getElem_mem _)
 ·have:cs.getD j .any=.any:=by simp[List.getD,Nat.le_of_not_lt hj]
  rw[this];simp[cP]
def ny (S:Nat→Prop):Bk→Prop
 | .cells cs=>cT S cs
 | .aC kvs _=>∀ p ∈ kvs,cP S p.1∧cP S p.2
 | .bm kvs _ _=>∀ p ∈ kvs,cP S p.1∧cP S p.2
 | .iter b _ _=>S b
 | .db ls=>∀ l ∈ ls,ai 0 l
 | _=>True
section
variable {S:Nat→Prop} {W W':Nat→Prop} {w w':World} {g g':Nat→GM}
theorem VR.only (hg:∀ b,S b→g b≠.un→g b=g' b) {v:AV} {u:Value} (h:VR g W w v u):cP S v→VR g' W w v u:=by
 induction h with
 | any v=>intro _;exact .any _
 | dw h h0 ih=>intro hn;simp only[cP]at hn;exact .dw (fun hb=>ih hb hn) h0
 | int k n=>intro _;exact .int _ _
 | bool b=>intro _;exact .bool _
 | str l=>intro _;exact .str _
 | agg hs h1 h ih=>intro hn;simp only[cP]at hn;exact .agg hs h1 fun j hj=>ih j hj (Aa hn j)
 | aU hs h ih=>intro hn;simp only[cP]at hn;exact .aU hs fun j hj=>ih j hj (Aa hn j)
 | ptr e=>intro hn;simp only[cP]at hn;exact .ptr (by rw[← hg _ hn (by rw[e];intro x;cases x)];exact e)
 | xp hc h ih=>intro hn;simp only[cP]at hn;exact .xp hc fun j hj=>ih j hj (Aa hn j)
 | sl e a b c d f=>intro hn;simp only[cP]at hn;exact .sl (by rw[← hg _ hn (by rw[e];intro x;cases x)];exact e) a b c d f
 | ku e hc=>intro hn;simp only[cP]at hn;exact .ku (by rw[← hg _ hn (by rw[e];intro x;cases x)];exact e) hc
 | isl a b hc h ih=>intro hn;simp only[cP]at hn;exact .isl a b hc fun j hj=>ih j hj (Aa hn j)
 | nils a=>intro _;exact .nils _
 | cl hs h ih=>intro hn;simp only[cP]at hn;exact .cl hs fun j hj=>ih j hj (Aa hn j)
 | mp e=>intro hn;simp only[cP]at hn;exact .mp (by rw[← hg _ hn (by rw[e];intro x;cases x)];exact e)
 | lit v=>intro _;exact .lit _
theorem BR.only (hg:∀ b,S b→g b≠.un→g b=g' b) {m:GM} {x:Bk} (h:BR g W w m x) (hn:ny S x):BR g' W w m x:=by
 cases h with
 | free=>exact .free
 | dead h=>exact .dead h
 | ph=>exact .ph
 | cells hb hl h1 hv hz=>exact .cells hb hl h1 (fun j hj=>(hv j hj).only hg (Aa hn j)) hz
 | aC hb hs j4 hv hc ha hd =>
  rename_i k kvs dn es clock
  have bI:∀ j,j < kvs.length→kvs.getD j (.any,.any) ∈ kvs:=fun j hj=>by simp[List.getD,hj]
  exact .aC hb hs (fun j hj=>(j4 j hj).only hg (hn _ (bI j hj)).1) (fun j hj=>(hv j hj).only hg (hn _ (bI j hj)).2) hc ha hd
 | bm hb hs j4 hv hc ha hd =>
  rename_i k kvs bs es clock
  have bI:∀ j,j < kvs.length→kvs.getD j (.any,.any) ∈ kvs:=fun j hj=>by simp[List.getD,hj]
  exact .bm hb hs (fun j hj=>(j4 j hj).only hg (hn _ (bI j hj)).1) (fun j hj=>(hv j hj).only hg (hn _ (bI j hj)).2) hc ha hd
 | iter hb kN=>exact .iter hb (by rw[← hg _ hn (by rw[kN];intro x;cases x)];exact kN)
 | db hp h=>exact BR.j6 (.db hp h) hn fun _ h=>h
end
def To (p:List Nat) (s s':St):Prop:=∀ (c:Cx) (g:Nat→GM) (a:Act) (w:World),(∀ q ∈ c.gh,q.1 ∈ p)→R c g s.fs a w→∃ g',R c g' s'.fs a w
theorem To.refl (p:List Nat) (s:St):To p s s:=fun c g a w _ hR=>⟨g,hR⟩
theorem To.trans {p:List Nat} {s s' s2:St} (h:To p s s') (k:To p s' s2):To p s s2:=fun c g a w hp hR=>by
 obtain ⟨g1,h1⟩:=h c g a w hp hR
 exact k c g1 a w hp h1
theorem To.CA {p:List Nat} {s s':St} {ρ:Nat→Nat} (hp:∀ b,b ∈ p→ρ b=b∧b < s'.n) (h:Sub ρ s s'):To p s s':=fun c g a w hg hR=>h.to hR fun q hq=>hp _ (hg q hq)
section
variable {P:Program} {c:Cx}
theorem pJ {p:List Nat} {o:bG} {r0:List bG} {K:St→Prop} {s s':St} (a7:∀ q ∈ c.gh,q.1 ∈ p) (h:To p s s') (k:Yh P c o r0 K s'):Yh P c o r0 K s:=by
 refine .inr fun ops io he g a w hR K' Q' hK=>?_
 obtain ⟨g',bg⟩:=h c g a w a7 hR
 rcases k with ⟨F,s2,hA,hr⟩|hS
 ·have wR:=hA ops io he
  refine wR.step s'.fs (fun _ _=>rfl) (fun _ _=>rfl) g' a w bg K' Q' fun g2 a' w' bV=>?_
  rw[BE wR.bj wR.dc]at bV
  exact hK g2 s2 a' w' hr bV
 ·exact hS ops io he g' a w bg K' Q' hK
def FZ {σ:Type} (p:List Nat) (I:σ→Prop) (cY:σ→St) (μ:σ→Nat) (x:σ) (Q:EX→St→Prop):EX→St→Prop
 | .normal,s=>∃ y,I y∧To p s (cY y)∧μ y < μ x
 | e,s=>Q e s
theorem Yk {σ:Type} (I:σ→Prop) (cY:σ→St) (μ:σ→Nat) {b:TC} {Q:EX→St→Prop} {s:St} (hm:P.follows .mixedOrders=true) (p:List Nat) (a7:∀ q ∈ c.gh,q.1 ∈ p) (h0:∃ y,I y∧To p s (cY y))
  (hr:∀ x,I x→xw P c b (FZ p I cY μ x Q) (cY x)):sv P c b Q s:=by
 intro code he g a w hR
 obtain ⟨y0,BM,kX⟩:=h0
 obtain ⟨g0,jJ⟩:=kX c g a w a7 hR
 have key:∀ n (x:σ),μ x=n→I x→∀ g a w,R c g (cY x).fs a w→∀ (fr:Frame) (k:List Item) (cs:List Frame),∃ e a' w',Fi c Q e a' w'∧Arrives P (lone (fr.at a (.code code::.inLoop code::k)) cs w) fr k cs e a' w':=by
  intro n
  induction n using Nat.strongRecOn with
  | _ n ih =>
   intro x hx hI g a w hR fr k cs
   have hb:=vn hm code b _ _ he (hr x hI) g a w hR
   obtain ⟨e,a1,w1,hq,eT⟩:=hb fr (.inLoop code::k) cs
   cases e with
   | normal =>
    obtain ⟨g1,s1,cu,y,BN,hs,hlt⟩:=hq
    obtain ⟨g2,bV⟩:=hs c g1 a1 w1 a7 cu
    obtain ⟨e2,a2,w2,lQ,kY⟩:=ih (μ y) af y rfl BN g2 a1 w1 bV fr k cs
    exact ⟨e2,a2,w2,lQ,.of_steps (Steps.trans eT (.one step_inLoop)) kY⟩
   | exit i=>exact ⟨.exit i,a1,w1,hq,.pass (x:=.inLoop code) rfl (fun _ _=>.inl av) eT⟩
   | ret=>exact ⟨.ret,a1,w1,hq,.pass (x:=.inLoop code) rfl (fun _ _=>.inl av) eT⟩
   | goto l=>exact hq.elim
   | panic ch=>exact hq.elim
   | outgrown=>exact hq.elim
 intro fr k cs
 obtain ⟨e,a',w',hq,eT⟩:=key _ y0 rfl BM g0 a w jJ fr k cs
 exact ⟨e,a',w',hq,.of_steps (.one step_loop) eT⟩
def GQ (P:Program) (gl:Nat→AV) (f:FuncId) (args:List AV) (aI:List (Nat × Bk)) (m:Nat) (p:List Nat) {ι:Type} (Q:ι→Prop) (r:ι→AV) (ax:ι→List (Nat × Bk)):Prop :=
 zD P f∧∀ (w:World) (vs:List Value) (G X:Nat→Prop) (g:Nat→GM),R ⟨0,w,G,X,gl,[]⟩ g (cV aI m) ⟨#[],[]⟩ w→bO g (Qo ⟨0,w,G,X,gl,[]⟩ g (cV aI m)) w args vs →
  Calls P f vs.toArray w fun e w'=>∃ x v g',Q x∧e=.returned v∧R ⟨0,w,G,X,gl,[]⟩ g' (cV (ax x) m) ⟨#[],[]⟩ w'∧(∀ b,b ∈ p→g' b=g b)∧VR g' (Qo ⟨0,w,G,X,gl,[]⟩ g' (cV (ax x) m)) w' (r x) v
def F1 (m:Nat) (p:List Nat) (rs:List RS) {ι:Type} (Q:ι→Prop) (r:ι→AV) (ax:ι→List (Nat × Bk)):EX→St→Prop
 | .exit _,_=>False
 | _,s=>Wt s.fs rs∧∃ x,Q x∧To p ⟨[(0,fY s.fs rs)],s.h,s.n⟩ ⟨[(0,r x)],ax x,m⟩
theorem Xu7 {gl : Nat → AV} {f : FuncId} {fn : Func} {code : Code} {t : TC} {rs : List RS} {args : List AV} {aI : List (Nat × Bk)} {m : Nat} {p : List Nat} {ι : Type} {Q : ι → Prop} {r : ι → AV} {ax : ι → List (Nat × Bk)} (hm : P.follows .mixedOrders = true) (hf : P.funcs[f]? = some fn) (hb : fn.body = some code) (dW : (fn.name == "runtime.NumGoroutine") = false)
  (he:Jf P fn.ntmps code=some t) (hr:m8 P fn.results.toList=some rs) (hN:args.length≤fn.ntmps) (aO:∀ q ∈ aI,q.2.live) (KS:∀ b ∈ p,b < m)
  (h:∀ c:Cx,(∀ q ∈ c.gh,q.1 ∈ p)→c.gl=gl→xw P c t (F1 m p rs Q r ax) ⟨js 0 args,aI,m⟩):GQ P gl f args aI m p Q r ax:=by
 refine ⟨⟨fn,hf,by rw[hb];rfl,dW⟩,fun w vs G X g jJ hv=>?_⟩
 refine calls_of_wp hf hb ?_
 have jl:∀ b,b < m→g b≠.un:=fun b gG e=>by
  have:=jJ.h b
  rw[e]at this
  have hh:(cV aI m).H b=Qc aI m b:=rfl
  rw[hh]at this
  rcases Zs aI m b with q|⟨q0,hp,_,q⟩
  ·rw[q,if_pos gG]at this;cases this;rename_i h;exact h rfl
  ·rw[q]at this
   have hl:=aO q0 hp
   cases hx:q0.2 with
   | free=>rw[hx]at hl;exact hl.elim
   | dead=>rw[hx]at hl;exact hl.elim
   | cells cs=>rw[hx]at this;cases this
   | aC kvs dn=>rw[hx]at this;cases this
   | bm kvs bs ck=>rw[hx]at this;cases this
   | iter b0 ck seen=>rw[hx]at this;cases this
   | db ls=>rw[hx]at this;cases this with|db _ h=>cases h
 have gN:∀ q ∈ p.map (fun b=>(b,g b)),g q.1=q.2∧q.2≠.un:=fun q hp=>by
  obtain ⟨b,gG,rfl⟩:=List.mem_map.1 hp
  exact ⟨rfl,jl b (KS b gG)⟩
 have a7:∀ q ∈ p.map (fun b=>(b,g b)),q.1 ∈ p:=fun q hp=>by
  obtain ⟨b,gG,rfl⟩:=List.mem_map.1 hp
  exact gG
 have hR:=FH (N:=fn.ntmps) hN jJ hv gN
 have:=vn (c:=⟨fn.ntmps,w,G,X,gl,p.map (fun b=>(b,g b))⟩) hm code t _ _ he (h _ a7 rfl) _ _ _ hR
 refine wp_mono this fun e a' w' hq=>?_
 have fin:∀ (g1:Nat→GM) (s:St),R ⟨fn.ntmps,w,G,X,gl,p.map (fun b=>(b,g b))⟩ g1 s.fs a' w'→(Wt s.fs rs∧∃ x,Q x∧To p ⟨[(0,fY s.fs rs)],s.h,s.n⟩ ⟨[(0,r x)],ax x,m⟩) →
   a'.defers=[]∧∃ v,(results fn a'.tmps).run P w'=.ok v w'∧(∃ x nc g',Q x∧Ending.returned v=.returned nc∧R ⟨0,w,G,X,gl,[]⟩ g' (cV (ax x) m) ⟨#[],[]⟩ w'∧(∀ b,b ∈ p→g' b=g b)∧VR g' (Qo ⟨0,w,G,X,gl,[]⟩ g' (cV (ax x) m)) w' (r x) nc):=by
  intro g1 s bg ⟨h1,x,hQ,h3⟩
  obtain ⟨v,h4,h5⟩:=BQ bg hr h1
  refine ⟨bg.dL,v,h4,x,v,?_⟩
  have cu:R ⟨1,w,G,X,gl,p.map (fun b=>(b,g b))⟩ g1 (⟨[(0,fY s.fs rs)],s.h,s.n⟩:St).fs ⟨#[v],[]⟩ w':=by
   refine ⟨rfl,rfl,fun i=>?_,bg.gl,bg.h,bg.inj,bg.old,bg.fr,bg.xs,bg.ib⟩
   show VR g1 _ w' (look [(0,fY s.fs rs)] i) _
   rw[Zn]
   split
   ·rename_i hi;subst hi;exact h5
   ·exact .any _
  obtain ⟨g2,bV⟩:=h3 _ g1 _ _ a7 cu
  refine ⟨g2,hQ,rfl,⟨rfl,rfl,fun i=>.any _,bV.gl,bV.h,bV.inj,bV.old,bV.fr,bV.xs,fun q hp=>by cases hp⟩,fun b hb=>?_,?_⟩
  ·exact (bV.ib (b,g b) (List.mem_map.2 ⟨b,hb,rfl⟩)).1
  ·exact bV.t 0
 cases e with
 | normal=>obtain ⟨g,s,bg,cF⟩:=hq;exact fin g s bg cF
 | ret=>obtain ⟨g,s,bg,cF⟩:=hq;exact fin g s bg cF
 | exit i=>obtain ⟨g,s,bg,cF⟩:=hq;exact cF.elim
 | goto l=>exact hq.elim
 | panic ch=>exact hq.elim
 | outgrown=>exact hq.elim
theorem FT.gq {P:Program} {gl:Nat→AV} {f:FuncId} {fn:Func} {t:TC} {rs:List RS} (hF:FT P f fn t rs) {args:List AV} {aI:List (Nat × Bk)} {m:Nat} {p:List Nat} {ι:Type} {Q:ι→Prop} {r:ι→AV} {ax:ι→List (Nat × Bk)} (hN:args.length≤fn.ntmps) (aO:∀ q ∈ aI,q.2.live) (KS:∀ b ∈ p,b < m)
  (h:∀ c:Cx,(∀ q ∈ c.gh,q.1 ∈ p)→c.gl=gl→xw P c t (F1 m p rs Q r ax) ⟨js 0 args,aI,m⟩):GQ P gl f args aI m p Q r ax:=by
 have hc:=hF.code
 cases hb:fn.body with
 | none=>rw[hb]at hc;simp at hc
 | some code =>
  rw[hb]at hc
  exact Xu7 hF.mixed hF.func hb hF.name hc hF.res hN aO KS h
structure HL (h:List (Nat × Bk)) (m:Nat):Prop where
 mem:∀ q ∈ h,q.1 < m∧bJ m q.2
 fN:∀ b,b < m→∃ q ∈ h,q.1=b
 self:∀ q ∈ h,Qc h m q.1=q.2
theorem HL.live {h:List (Nat × Bk)} {m b:Nat} (H:HL h m) (hb:b < m) (n:Nat):Qc h n b=Qc h m b∧∃ q ∈ h,q.1=b∧Qc h m b=q.2:=by
 have key:∀ (l:List (Nat × Bk)),(∃ q ∈ l,q.1=b)→Qc l n b=Qc l m b∧∃ q ∈ l,q.1=b∧Qc l m b=q.2:=fun l=>by
  induction l with
  | nil=>rintro ⟨q,hq,_⟩;cases hq
  | cons p l ih =>
   obtain ⟨i,x⟩:=p
   rintro ⟨q,hq,e⟩
   rw[Qd,Qd]
   by_cases hi:i=b
   ·rw[if_pos hi,if_pos hi]
    exact ⟨rfl,(i,x),by simp,hi,rfl⟩
   ·rw[if_neg hi,if_neg hi]
    rcases List.mem_cons.1 hq with rfl|hq
    ·exact (hi e).elim
    ·obtain ⟨h1,q',h2,h3,h4⟩:=ih ⟨q,hq,e⟩
     exact ⟨h1,q',by simp[h2],h3,h4⟩
 exact key h (H.fN b hb)
def uf (σ:Nat→Nat) (p:List Nat) (m:Nat) (j:Nat):Prop:=∀ b,b < m→σ b=j→b ∈ p
def jM (σ:Nat→Nat) (m:Nat) (j:Nat):Prop:=∀ b,b < m→σ b≠j
theorem Xyf {σ:Nat→Nat} {s s3:FS} {a:Act} {w w':World} {g g1 g2:Nat→GM} {h h':List (Nat × Bk)} {m:Nat} {p:List Nat} (hR:R c g s a w) (bU:∀ b b',b < m→b' < m→σ b=σ b'→b=b') (hh:HL h m) (sN:HL h' m) (fit:∀ b,b < m→s.H (σ b)=Xg σ (Qc h m b))
  (hT:∀ i,cP (uf σ p m) (s.T i)) (hB:∀ j,jM σ m j→ny (uf σ p m) (s.H j)) (a7:∀ q ∈ c.gh,uf σ p m q.1)
  (jv:∀ b,b < m→g (σ b)≠.un→g (σ b)=g1 b) (vu:∀ b,b ∈ p→g2 b=g1 b) (bV:R (pH c g s w σ h m) g2 (cV h' m) ⟨#[],[]⟩ w')
  (KT:∀ i,s3.T i=s.T i) (CB:∀ b,b < m→s3.H (σ b)=Xg σ (Qc h' m b)) (xl:∀ j,jM σ m j→s3.H j=s.H j) :
  R c (Jx g g2 σ m) s3 a w'∧∀ {r:AV} {v:Value},Qe m r→VR g2 (Qo (pH c g s w σ h m) g2 (cV h' m)) w' r v→VR (Jx g g2 σ m) (Qo c (Jx g g2 σ m) s3) w' (aE σ r) v:=by
 have di:∀ b,b < m→(Qc h m b).live:=fun b hb=>by
  obtain ⟨_,q,hq,_,e⟩:=hh.live hb m
  rw[e];exact Xj (hh.mem q hq).2
 have jx:∀ b,b < m→(Qc h' m b).live:=fun b hb=>by
  obtain ⟨_,q,hq,_,e⟩:=sN.live hb m
  rw[e];exact Xj (sN.mem q hq).2
 have ez:∀ b,b < m→(s.H (σ b)).live:=fun b hb=>by rw[fit b hb,zC];exact di b hb
 have named:∀ b,b < m→g (σ b)≠.un:=fun b hb e=>by
  have:=hR.h (σ b)
  rw[e]at this
  have hl:=ez b hb
  generalize s.H (σ b)=x at this hl
  exact this.fU hl
 have low:∀ b,(Qc h m b).live→b < m:=fun b hl=>by
  rcases Zs h m b with q|⟨q,hq,rfl,_⟩
  ·rw[q]at hl;split at hl<;>exact hl.elim
  ·exact (hh.mem q hq).1
 have kOa:∀ b,(Qc h' m b).live→b < m:=fun b hl=>by
  rcases Zs h' m b with q|⟨q,hq,rfl,_⟩
  ·rw[q]at hl;split at hl<;>exact hl.elim
  ·exact (sN.mem q hq).1
 have gs:∀ b,b < m→Jx g g2 σ m (σ b)=g2 b:=fun b dR=>by
  unfold Jx
  have hex:∃ b',b' < m∧σ b'=σ b:=⟨b,dR,rfl⟩
  rw[dif_pos hex]
  rw[bU _ _ hex.choose_spec.1 dR hex.choose_spec.2]
 have go:∀ j,jM σ m j→Jx g g2 σ m j=g j:=fun j h=>by
  unfold Jx
  rw[dif_neg]
  rintro ⟨b,h1,h2⟩;exact h b h1 h2
 have part:∀ j,(∃ b,b < m∧σ b=j)∨jM σ m j:=fun j=>by
  by_cases e:∃ b,b < m∧σ b=j
  ·exact .inl e
  ·exact .inr fun b h1 h2=>e ⟨b,h1,h2⟩
 have gS:∀ j,uf σ p m j→g j≠.un→g j=Jx g g2 σ m j:=fun j hj bN=>by
  rcases part j with ⟨b,hb,rfl⟩|ew
  ·rw[gs b hb,vu b (hj b hb rfl)];exact jv b hb bN
  ·rw[go j ew]
 have hf:Fr w w' (qz g σ h m):=bV.fr
 have zN:∀ k,qz g σ h m k→Qo c g s k:=fun k ⟨b,h1,h2⟩=>.inr ⟨σ b,ez b (low b h1),h2⟩
 have qD:Fr w w' (Qo c g s):=hf.weak zN
 have sB:∀ j k,jM σ m j→(s.H j).live→g j=.re k→¬ qz g σ h m k:=fun j k h1 h2 h3 ⟨b,q1,q2⟩ =>
  h1 b (low b q1) (hR.inj (σ b) j k (ez b (low b q1)) h2 q2 h3)
 have ga:∀ b k,b < m→g2 b=.re k→w.heap.size≤k∨∃ b0,b0 < m∧g (σ b0)=.re k:=fun b k hb hk=>by
  rcases bV.old b k (jx b hb) hk with h|⟨b0,q1,q2⟩
  ·exact .inl h
  ·exact .inr ⟨b0,low b0 q1,q2⟩
 have cZ:∀ j,(s3.H j).live→(∃ b,b < m∧σ b=j)∨(jM σ m j∧(s.H j).live):=fun j hl=>by
  rcases part j with h|h
  ·exact .inl h
  ·rw[xl j h]at hl;exact .inr ⟨h,hl⟩
 have nk:∀ k,k < w.heap.size→Qo c (Jx g g2 σ m) s3 k→Qo c g s k:=by
  rintro k hk (h|⟨j,h1,h2⟩)
  ·exact .inl h
  ·rcases cZ j h1 with ⟨b,hb,rfl⟩|⟨hj,hl⟩
   ·rw[gs b hb]at h2
    rcases ga b k hb h2 with h|⟨b0,q1,q2⟩
    ·omega
    ·exact .inr ⟨σ b0,ez b0 q1,q2⟩
   ·rw[go j hj]at h2;exact .inr ⟨j,hl,h2⟩
 have mA:∀ k,Qo c (Jx g g2 σ m) s3 k→Qo (pH c g s w σ h m) g2 (cV h' m) k:=by
  rintro k (h|⟨j,h1,h2⟩)
  ·refine .inl ⟨.inl h,fun ⟨b,q1,q2⟩=>?_⟩
   obtain ⟨x1,x2⟩:=hR.xs k h
   rcases hR.old (σ b) k (ez b (low b q1)) q2 with h|h
   ·omega
   ·exact x2 h
  ·rcases cZ j h1 with ⟨b,hb,rfl⟩|⟨hj,hl⟩
   ·rw[gs b hb]at h2;exact .inr ⟨b,jx b hb,h2⟩
   ·rw[go j hj]at h2;exact .inl ⟨.inr ⟨j,hl,h2⟩,sB j k hj hl h2⟩
 refine ⟨⟨hR.size,hR.dL,fun i=>?_,fun i=>(hR.gl i).mono qD nk (fun _ _=>rfl),fun j=>?_,fun j j' k h1 h2 e1 e2=>?_,fun j k h1 e1=>?_,hR.fr.trans hf fun k hk ⟨b,q1,q2⟩=>?_,hR.xs,fun q hq=>?_⟩,fun {r v} hn hv=>?_⟩
 ·rw[KT];exact ((hR.t i).only gS (hT i)).mono qD nk (fun _ _=>rfl)
 ·rcases part j with ⟨b,hb,rfl⟩|hj
  ·rw[gs b hb,CB b hb]
   have dV:=bV.h b
   have e:(cV h' m).H b=Qc h' m b:=rfl
   rw[e]at dV
   obtain ⟨_,q,hq,_,eq⟩:=sN.live hb m
   rw[eq]at dV ⊢
   exact dV.aE (n:=m) gs (sN.mem q hq).2 mA
  ·rw[go j hj,xl j hj]
   refine ((hR.h j).only gS (hB j hj)).mono qD nk (fun _ _=>rfl) fun k hk hl=>hf.eg k ?_ (sB j k hj hl hk)
   exact BR.lt (hk ▸ hR.h j) hl
 ·rcases cZ j h1 with ⟨b,hb,rfl⟩|⟨hj,hl⟩<;>rcases cZ j' h2 with ⟨b',bL,rfl⟩|⟨cU,kR⟩
  ·rw[gs b hb]at e1;rw[gs b' bL]at e2
   rw[bV.inj b b' k (jx b hb) (jx b' bL) e1 e2]
  ·rw[gs b hb]at e1;rw[go j' cU]at e2
   have hlt:=BR.lt (e2 ▸ hR.h j') kR
   rcases ga b k hb e1 with h|⟨b0,q1,q2⟩
   ·omega
   ·exact (cU b0 q1 (hR.inj (σ b0) j' k (ez b0 q1) kR q2 e2)).elim
  ·rw[gs b' bL]at e2;rw[go j hj]at e1
   have hlt:=BR.lt (e1 ▸ hR.h j) hl
   rcases ga b' k bL e2 with h|⟨b0,q1,q2⟩
   ·omega
   ·exact (hj b0 q1 (hR.inj (σ b0) j k (ez b0 q1) hl q2 e1)).elim
  ·rw[go j hj]at e1;rw[go j' cU]at e2
   exact hR.inj j j' k hl kR e1 e2
 ·rcases cZ j h1 with ⟨b,hb,rfl⟩|⟨hj,hl⟩
  ·rw[gs b hb]at e1
   rcases ga b k hb e1 with h|⟨b0,q1,q2⟩
   ·have:=hR.fr.size;exact .inl af
   ·exact hR.old (σ b0) k (ez b0 q1) q2
  ·rw[go j hj]at e1;exact hR.old j k hl e1
 ·rcases hR.old (σ b) k (ez b (low b q1)) q2 with h|h
  ·omega
  ·exact h
 ·obtain ⟨q1,q2⟩:=hR.ib q hq
  refine ⟨?_,q2⟩
  have:=gS q.1 (a7 q hq) (by rw[q1];exact q2)
  rw[← this,q1]
 ·exact (hv.aE (ρ:=σ) (g:=Jx g g2 σ m) gs hn).mono (Fr.refl _ _) (fun k _=>mA k) (fun _ _=>rfl)
end
theorem Wg {x:Bk}:Xg id x=x:=by
 cases x with
 | cells cs=>simp only[Xg];rw[Yu];congr 1;exact (List.map_congr_left fun x _=>ql id (fun _=>rfl) x).trans (List.map_id cs)
 | aC kvs dn=>simp only[Xg];congr 1;exact (List.map_congr_left fun x _=>by rw[ql id (fun _=>rfl),ql id (fun _=>rfl)];rfl).trans (List.map_id kvs)
 | bm kvs bs ck=>simp only[Xg];congr 1;exact (List.map_congr_left fun x _=>by rw[ql id (fun _=>rfl),ql id (fun _=>rfl)];rfl).trans (List.map_id kvs)
 | iter b0 ck seen=>rfl
 | db ls=>rfl
 | free=>rfl
 | dead=>rfl
theorem Jy (l:List AV):az id l=l:=by rw[Yu];exact (List.map_congr_left fun x _=>ql id (fun _=>rfl) x).trans (List.map_id l)
def xm (S:Nat→Prop):List (Nat × AV)→Prop
 | []=>True
 | q::l=>cP S q.2∧xm S l
theorem RT {S:Nat→Prop}:∀ {l:List (Nat × AV)},xm S l→∀ i,cP S (look l i)
 | [],_,i=>by simp[look,cP]
 | (j,v)::l,h,i=>by
  rw[Zn]
  split
  ·exact h.1
  ·exact RT h.2 i
def Xc (σ:Nat→Nat) (h:List (Nat × Bk)):List (Nat × Bk):=h.map fun q=>(σ q.1,Xg σ q.2)
theorem Jz (h:List (Nat × Bk)):Xc id h=h:=by
 unfold Xc
 exact (List.map_congr_left fun q _=>by rw[Wg];rfl).trans (List.map_id h)
theorem Kb {σ:Nat→Nat} {m:Nat} (bU:∀ b b',b < m→b' < m→σ b=σ b'→b=b') {n b:Nat} (hb:b < m):∀ {h:List (Nat × Bk)},(∀ q ∈ h,q.1 < m)→(∃ q ∈ h,q.1=b)→Qc (Xc σ h) n (σ b)=Xg σ (Qc h m b)
 | [],_,⟨q,hq,_⟩=>by cases hq
 | (i,x)::l,hm,⟨q,hq,e⟩=>by
  show Qc ((σ i,Xg σ x)::Xc σ l) n (σ b)=_
  rw[Qd,Qd]
  by_cases hi:i=b
  ·rw[if_pos hi,if_pos (by rw[hi])]
  ·rw[if_neg hi,if_neg fun e=>hi (bU _ _ (hm (i,x) av) hb e)]
   rcases List.mem_cons.1 hq with rfl|hq
   ·exact (hi e).elim
   ·exact Kb bU hb (fun q hq=>hm q (by simp[hq])) ⟨q,hq,e⟩
theorem Wv {σ:Nat→Nat} {m n j:Nat} (hj:jM σ m j):∀ {h:List (Nat × Bk)},(∀ q ∈ h,q.1 < m)→Qc (Xc σ h) n j=if j < n then .dead else .free
 | [],_=>rfl
 | (i,x)::l,hm=>by
  show Qc ((σ i,Xg σ x)::Xc σ l) n j=_
  rw[Qd,if_neg (hj i (hm (i,x) av))]
  exact Wv hj fun q hq=>hm q (by simp[hq])
theorem Xn {n j:Nat} {h:List (Nat × Bk)}:∀ {ex:List (Nat × Bk)},(∀ q ∈ ex,q.1≠j)→Qc (ex++h) n j=Qc h n j
 | [],_=>rfl
 | (i,x)::l,hm=>by
  rw[List.cons_append,Qd,if_neg (hm (i,x) av)]
  exact Xn fun q hq=>hm q (by simp[hq])
theorem CC {n j:Nat} {h h':List (Nat × Bk)} (e:Qc h n j=Qc h' n j):∀ {ex:List (Nat × Bk)},Qc (ex++h) n j=Qc (ex++h') n j
 | []=>e
 | (i,x)::l=>by
  rw[List.cons_append,List.cons_append,Qd,Qd,CC e]
def Yfx (σ:Nat→Nat) (p:List Nat) (m:Nat) (ex:List (Nat × Bk)):Prop:=∀ q ∈ ex,jM σ m q.1∧ny (uf σ p m) q.2
def lR (v:Bool) (f:FuncId) (l:List AV):Option (FuncId × List AV):=bif v then tW l else some (f,l)
structure CD (gl:Nat→AV) (s:St) (xs:List TV) (v:Bool) (f:FuncId) (args:List AV) (σ:Nat→Nat) (p pc:List Nat) (m:Nat) (t:List (Nat × AV)) (ex aI:List (Nat × Bk)) (n:Nat):Prop where
 to:To pc s ⟨t,ex++Xc σ aI,n⟩
 inj:∀ b b',b < m→b' < m→σ b=σ b'→b=b'
 hl:HL aI m
 pc:∀ b ∈ pc,uf σ p m b
 hex:Yfx σ p m ex
 ht:xm (uf σ p m) t
 eP:Qv none (aG gl (⟨t,ex++Xc σ aI,n⟩:St).fs xs)
 aN:lR v f ((aG gl (⟨t,ex++Xc σ aI,n⟩:St).fs xs).map Qk)=some (f,az σ args)
 nm:ai m args
section
variable {P:Program} {c:Cx}
theorem Xzo {v:Bool} {s:St} {f:FuncId} {xs:List TV} {args:List AV} {aI:List (Nat × Bk)} {σ:Nat→Nat} {m n:Nat} {p pc:List Nat} {ι:Type} {Q:ι→Prop} {r:ι→AV} {ax:ι→List (Nat × Bk)} {t:List (Nat × AV)} {ex:List (Nat × Bk)} (hq:GQ P c.gl f args aI m p Q r ax)
  (a7:∀ q ∈ c.gh,q.1 ∈ pc) (ok:CD c.gl s xs v f args σ p pc m t ex aI n) (gf:∀ x,Q x→HL (ax x) m) (hr:∀ x,Q x→Qe m (r x)) {g0:Nat→GM} {a:Act} {w:World} (jJ:R c g0 s.fs a w) :
  ∃ g,R c g (⟨t,ex++Xc σ aI,n⟩:St).fs a w∧∀ vs,bO g (Qo c g (⟨t,ex++Xc σ aI,n⟩:St).fs) w (az σ args) vs→Calls P f vs.toArray w fun e w'=>∃ x v g3,Q x∧e=.returned v∧R c g3 (⟨t,ex++Xc σ (ax x),n⟩:St).fs a w'∧VR g3 (Qo c g3 (⟨t,ex++Xc σ (ax x),n⟩:St).fs) w' (aE σ (r x)) v:=by
 obtain ⟨g,hR⟩:=ok.to c g0 a w a7 jJ
 refine ⟨g,hR,fun vs hv=>?_⟩
 have oH:∀ b,b < m→∀ q ∈ ex,q.1≠σ b:=fun b hb q hq e=>(ok.hex q hq).1 b hb e.symm
 have fit:∀ b,b < m→(⟨t,ex++Xc σ aI,n⟩:St).fs.H (σ b)=Xg σ (Qc aI m b):=fun b hb=>by
  show Qc (ex++Xc σ aI) n (σ b)=_
  rw[Xn (oH b hb)];exact Kb ok.inj hb (fun q hq=>(ok.hl.mem q hq).1) (ok.hl.fN b hb)
 have xn:Fit σ (⟨t,ex++Xc σ aI,n⟩:St).fs aI m:=by
  refine ⟨fun q hq=>⟨(ok.hl.mem q hq).1,(ok.hl.mem q hq).2,?_⟩,fun q hq q' cF e=>ok.inj _ _ (ok.hl.mem q hq).1 (ok.hl.mem q' cF).1 e⟩
  rw[fit q.1 (ok.hl.mem q hq).1,ok.hl.self q hq]
 obtain ⟨g1,jv,sC,sD⟩:=FF hR xn
 have m9:=Cc (σ:=σ) (g1:=g1) jv sD ok.nm hv
 refine (hq.2 w _ _ _ g1 sC m9).mono fun e w' ⟨x,v,g2,hQ,e1,e2,e3,e4⟩=>?_
 have hXB:∀ j,jM σ m j→ny (uf σ p m) ((⟨t,ex++Xc σ aI,n⟩:St).fs.H j):=fun j hj=>by
  show ny _ (Qc (ex++Xc σ aI) n j)
  rcases Zs (ex++Xc σ aI) n j with q|⟨q,hq,rfl,q2⟩
  ·rw[q];split<;>trivial
  ·rw[q2]
   rcases List.mem_append.1 hq with h|h
   ·exact (ok.hex q h).2
   ·obtain ⟨q',cF,rfl⟩:=List.mem_map.1 h
    exact (hj q'.1 (ok.hl.mem q' cF).1 rfl).elim
 obtain ⟨j8,fA⟩:=Xyf (s3:=(⟨t,ex++Xc σ (ax x),n⟩:St).fs) hR ok.inj ok.hl (gf x hQ) fit (RT ok.ht) hXB (fun q hq=>ok.pc _ (a7 q hq)) jv e3 e2 (fun i=>rfl)
  (fun b hb=>by
   show Qc (ex++Xc σ (ax x)) n (σ b)=_
   rw[Xn (oH b hb)];exact Kb ok.inj hb (fun q hq=>((gf x hQ).mem q hq).1) ((gf x hQ).fN b hb))
  (fun j hj=>CC (by rw[Wv hj fun q hq=>((gf x hQ).mem q hq).1,Wv hj fun q hq=>(ok.hl.mem q hq).1]))
 exact ⟨x,v,_,hQ,e1,j8,fA (hr x hQ) e4⟩
theorem Yef {r0:List bG} {K:St→Prop} {s:St} {d:Option Nat} {f:FuncId} {xs:List TV} {args:List AV} {aI:List (Nat × Bk)} {σ:Nat→Nat} {m n:Nat} {p pc:List Nat} {ι:Type} {Q:ι→Prop} {r:ι→AV} {ax:ι→List (Nat × Bk)} (hq:GQ P c.gl f args aI m p Q r ax)
  (a7:∀ q ∈ c.gh,q.1 ∈ pc) (t:List (Nat × AV)) (ex:List (Nat × Bk)) (ok:CD c.gl s xs false f args σ p pc m t ex aI n) (gf:∀ x,Q x→HL (ax x) m) (hr:∀ x,Q x→Qe m (r x))
  (hk:∀ x,Q x→XP P c r0 K (St.bQ ⟨t,ex++Xc σ (ax x),n⟩ d (aE σ (r x)))):Yh P c (.pd d (.call f) xs none) r0 K s:=by
 refine .inr fun ops io he g0 a w jJ K' Q' hK=>?_
 obtain ⟨g,hR,cN⟩:=Xzo hq a7 ok gf hr jJ
 obtain ⟨bf,bh,hd,ys,aJ,rfl⟩:=Zr he
 obtain ⟨ts,bl⟩:=wV aJ
 have hv:=Yn (hR.aG ys) ok.eP
 have aN:=ok.aN
 simp only[lR,cond_false,Option.some.injEq,Prod.mk.injEq,true_and]at aN
 rw[aN]at hv
 refine Zc (Ka bf) ?_
 unfold Oper.wp
 rw[wW hq.1 bl]
 rw[Oper.upon_enter]
 refine (cN _ hv).mono fun e w' ⟨x,v,g3,hQ,e1,j8,tU⟩=>?_
 subst e1
 show K' (a.put io.dst v) w'
 rw[bh]
 cases d with
 | none=>exact hK g3 _ _ _ (hk x hQ) (j8.tA v)
 | some d =>
  refine hK g3 ((⟨t,ex++Xc σ (ax x),n⟩:St).put d (aE σ (r x))) _ _ (hk x hQ) ?_
  rw[St.bT]
  exact j8.put (by simpa using hd) tU
end
end Go.Proofs.YtogckmommodmhaaGreatDoor
namespace Go.Proofs.YtogckmommodmhaaGreatDoor
open Go.RowKit
set_option linter.all false
set_option linter.unusedSimpArgs false
set_option maxRecDepth 100000
theorem KU {α:Type} (l:List α) (i j:Nat) (d:α):(l.eraseIdx i).getD j d=if j < i then l.getD j d else l.getD (j + 1) d:=by
 simp only[List.getD,List.getElem?_eraseIdx]
 split<;>rfl
theorem CE (es:Array MapEntry) (i j:Nat):(es.eraseIdxIfInBounds i).getD j default=if j < i then es.getD j default else es.getD (j + 1) default:=by
 rw[← vD,← vD,← vD,← KU]
 congr 1
 unfold Array.eraseIdxIfInBounds
 split
 ·simp
 ·rename_i h
  rw[List.eraseIdx_of_length_le (by simpa using h)]
theorem KV {es:Array MapEntry} {i:Nat} (hi:i < es.size):(es.eraseIdxIfInBounds i).size=es.size - 1:=by
 unfold Array.eraseIdxIfInBounds
 rw[dif_pos hi];simp
section
variable {P:Program} {c:Cx} {g:Nat→GM} {s:FS} {a:Act} {w:World}
theorem Xz2 (hR:R c g s a w) {t t2 ty:TypeId} {wide:Bool} {ks:List SK} {z:AV} (hT:dk P t wide ks z) {b:Nat} {kvs:List (AV × AV)} {dn:Bool} (hb:s.H b=.aC kvs dn) {x:AV} {m v:Value} (hm:VR g (Qo c g s) w (.mp b) m) (hx:VR g (Qo c g s) w x v)
  (sK:Kj wide ks x) (dK:xj wide ks kvs):∃ w',(Builtin.delete_ #[t,t2] ty #[m,v]).run P w=.ok (.tuple #[]) w'∧R c g (s.aK b (.aC (ud kvs x) false)) a w':=by
 obtain ⟨kt,et,zv,hu,hK,hz,rfl⟩:=hT.of
 obtain ⟨k,rfl,hg⟩:=By hm
 obtain ⟨es,clock,q1,q2,q3,q4,q5,q6,q7⟩:=Ct hR hb hg
 have jg:=KI hK sK hx (kvs:=kvs) (es:=es.toList) (by simpa using q2) dK (fun j hj=>by rw[vD];exact q3 j hj) w
 have cW:=KH hK sK hx es.isEmpty w
 have eV:(getObj k).run P w=.ok (.map es clock) w:=by simp[getObj,Sem.run,q1]
 have iM:=Uc q1
 unfold ud
 cases hf:iy kvs x with
 | none =>
  rw[hf]at jg
  refine ⟨_,?_,hR.j9 (kvs':=kvs) (dn':=false) (es':=es) (clock':=clock) hb hg q1 q2 q3 q4 q5 q6 (fun h=>by cases h)⟩
  simp only[Builtin.delete_,Sem.run_bind,run_underlying hu,Result.andThen_ok,eV,cW,jg,Option.map_none,FW q1,Sem.run_pure,List.getElem?_toArray,List.getElem?_cons_zero,List.getElem?_cons_succ]
 | some i =>
  rw[hf]at jg
  obtain ⟨hi,KM⟩:=KK hf
  have jL:i < es.size:=by omega
  have bw:=hR.j9 (kvs':=kvs.eraseIdx i) (dn':=false) (es':=es.eraseIdxIfInBounds i) (clock':=clock) hb hg q1 (by rw[KV jL,List.length_eraseIdx,if_pos hi,q2])
   (fun j hj=>by
    rw[List.length_eraseIdx,if_pos hi]at hj
    rw[KU,CE];split
    ·exact q3 j af
    ·exact q3 (j + 1) af)
   (fun j hj=>by
    rw[List.length_eraseIdx,if_pos hi]at hj
    rw[KU,CE];split
    ·exact q4 j af
    ·exact q4 (j + 1) af)
   (fun j hj=>by
    rw[KV jL]at hj
    rw[CE];split
    ·exact q5 j af
    ·exact q5 (j + 1) af)
   (fun i' j iG hj=>by
    rw[KV jL]at hj
    rw[CE,CE]
    split<;>split
    ·exact q6 i' j iG af
    ·exact q6 i' (j + 1) af af
    ·omega
    ·exact q6 (i' + 1) (j + 1) af af) (fun h=>by cases h)
  refine ⟨_,?_,bw⟩
  simp only[Builtin.delete_,Sem.run_bind,run_underlying hu,Result.andThen_ok,eV,cW,jg,Option.map_some,FW q1,Sem.run_pure,List.getElem?_toArray,List.getElem?_cons_zero,List.getElem?_cons_succ]
end
section
variable {P:Program} {c:Cx} {ops:Array Oper} {io:Oper}
theorem Xwh {o:Oper} {t:TypeId} {xs:List Operand} (h:Yf P o=some (.del t,xs)):∃ x y t2,o.op=.call ⟨.builtin .delete,⟨[x,y]⟩,⟨[t,t2]⟩⟩∧xs=[x,y]:=by
 unfold Yf at h
 repeat' split at h
 all_goals first
  | (cases h;exact ⟨_,_,_,by assumption,rfl⟩)
  | (simp at h;done)
  | (cases h;done)
  | (simp[Option.map_eq_some_iff]at h;done)
theorem Xws {o:Oper} {t:TypeId} {xs:List Operand} (h:Yf P o=some (.IB t,xs)):∃ x,o.op=.range t x∧xs=[x]:=by
 unfold Yf at h
 repeat' split at h
 all_goals first
  | (cases h;exact ⟨_,by assumption,rfl⟩)
  | (simp at h;done)
  | (cases h;done)
  | (simp[Option.map_eq_some_iff]at h;done)
theorem Xt9 {o:Oper} {xs:List Operand} (h:Yf P o=some (.b7,xs)):∃ x,o.op=.next x false∧xs=[x]:=by
 unfold Yf at h
 repeat' split at h
 all_goals first
  | (cases h;exact ⟨_,by assumption,rfl⟩)
  | (simp at h;done)
  | (cases h;done)
  | (simp[Option.map_eq_some_iff]at h;done)
theorem Xv7 {o:Oper} {xs:List Operand} (h:Yf P o=some (.IC,xs)):∃ x,o.op=.entry x∧xs=[x]:=by
 unfold Yf at h
 repeat' split at h
 all_goals first
  | (cases h;exact ⟨_,by assumption,rfl⟩)
  | (simp at h;done)
  | (cases h;done)
  | (simp[Option.map_eq_some_iff]at h;done)
theorem Xxk {s:FS} {b:Nat} {X:Bk} {rt rb:List Nat} (hg:io.guard=none) (bh:io.dst=none)
  (core:∀ s2:FS,(∀ i ∈ rt,s2.T i=s.T i)→(∀ b ∈ rb,s2.H b=s.H b)→∀ g a w,R c g s2 a w→∃ g' v' w',(execOp a.eval io).run P w=.ok (.value v') w'∧R c g' (s2.aK b X) a w') :
  oy P c ops io s ⟨rt,rb,[],[b]⟩ (s.aK b X):=by
 refine ⟨fun i hi=>rfl,fun j hj=>?_,fun s2 hT hH g a w hR K Q' hK=>Zc hg ?_⟩
 ·rw[FS.bc,if_neg (fun e=>hj (by simp[e]))]
 ·obtain ⟨g',v',w',hr,bg⟩:=core s2 hT hH g a w hR
  unfold Oper.wp
  rw[hr]
  show K (a.put io.dst v') w'
  rw[bh]
  refine hK g' _ w' ?_
  rw[BG]
  exact bg
noncomputable def CF (s:FS) (vs:List AV):Bk:=.aC (ud (kC (s.H (fx vs))) (mF vs)) false
theorem RU {s:St} {t:TypeId} {xs:List TV} {wide:Bool} {ks:List SK} {z:AV} (hT:dk P t wide ks z) (hc:Qv none (aG c.gl s.fs xs)) (aY:pI s.fs wide ks ((aG c.gl s.fs xs).map Qk)) :
  Ky P c (.pd none (.del t) xs none) s.fs (sL s.fs c.gl xs [] true) (s.aK (fx ((aG c.gl s.fs xs).map Qk)) (CF s.fs ((aG c.gl s.fs xs).map Qk))).fs:=by
 intro ops io he
 obtain ⟨bf,bh,hd,ys,aJ,rfl⟩:=Zr he
 obtain ⟨m,k,t2,bl,rfl⟩:=Xwh aJ
 have fL:(aG c.gl s.fs ([m,k].map aT)).map Qk=[Qk (aZ c.gl s.fs (aT m)),Qk (aZ c.gl s.fs (aT k))]:=rfl
 unfold sL
 rw[fL]at aY ⊢
 generalize RO:Qk (aZ c.gl s.fs (aT m))=vm at *
 generalize BY:Qk (aZ c.gl s.fs (aT k))=vk at *
 obtain ⟨h1,h2,h3,h4⟩:=aY
 obtain ⟨b,r,hb⟩:=KO h1
 injection hb with fO dF
 subst fO
 obtain ⟨kvs,dn,np⟩:=KP h2
 simp only[CF,fx,mF,cond_true]at h3 h4 np ⊢
 rw[np]at h4 ⊢
 simp only[kC]at h4 ⊢
 rw[St.cK]
 refine Xxk (Ka bf) bh fun s2 mG sM g a w hR=>?_
 have bp:aG c.gl s2 ([m,k].map aT)=aG c.gl s.fs ([m,k].map aT):=Yi mG
 have fv:=Yn (hR.aG [m,k]) (by rw[bp];exact hc)
 rw[bp,fL]at fv
 obtain ⟨v1,v2,_⟩:=fv
 obtain ⟨w',hr,bg⟩:=Xz2 hR hT (t2:=t2) (ty:=io.type) (b:=b) (kvs:=kvs) (dn:=dn) (by rw[sM b av,np]) v1 v2 h3 h4
 refine ⟨g,.tuple #[],w',?_,bg⟩
 unfold execOp
 simp only[bl,resolve,invoke,builtin,Sem.run_bind,Sem.run_pure,Result.andThen_ok,List.map_toArray,List.map_cons,List.map_nil]
 rw[show (Builtin.delete_ { toList:=[t,t2] } io.type #[a.eval m,a.eval k]).run P w=_ from hr]
 rfl
theorem F2 {r0:List bG} {K:St→Prop} {s:St} {t:TypeId} {xs:List TV} {wide:Bool} {ks:List SK} {z:AV} (hT:dk P t wide ks z) (h:Qv none (aG c.gl s.fs xs)∧pI s.fs wide ks ((aG c.gl s.fs xs).map Qk)∧XP P c r0 K (s.aK (fx ((aG c.gl s.fs xs).map Qk)) (CF s.fs ((aG c.gl s.fs xs).map Qk)))) :
  Yh P c (.pd none (.del t) xs none) r0 K s:=.inl ⟨_,_,RU hT h.1 h.2.1,h.2.2⟩
theorem F3 {anc:List Nat} {fs:List bn} {r0:List bG} {K:St→Prop} {s:St} {t:TypeId} {xs:List TV} {wide:Bool} {ks:List SK} {z:AV} (hT:dk P t wide ks z) (h:Qv none (aG c.gl s.fs xs)∧pI s.fs wide ks ((aG c.gl s.fs xs).map Qk)∧XD P c anc r0 (sL s.fs c.gl xs [] true::fs) K (s.aK (fx ((aG c.gl s.fs xs).map Qk)) (CF s.fs ((aG c.gl s.fs xs).map Qk)))) :
  Zm P c anc (.pd none (.del t) xs none) r0 fs K s:=⟨_,_,RU hT h.1 h.2.1,h.2.2⟩
attribute [go_sem] CF
def KW (bs:List Nat) (n ck:Nat):Prop:=bs.length=n∧(∀ i j,i < j→j < n→bs.getD i 0 < bs.getD j 0)∧∀ i,i < n→bs.getD i 0 < ck
theorem F4 {es:Array MapEntry} (j:Nat) (hj:j < es.size):(es.toList.map (·.born)).getD j 0=(es.getD j default).born:=by
 simp[List.getD,Array.getD_eq_getD_getElem?,hj]
theorem R.toX {g:Nat→GM} {s:FS} {a:Act} {w:World} (hR:R c g s a w) {b:Nat} {kvs:List (AV × AV)} {dn:Bool} (hb:s.H b=.aC kvs dn):∃ bs ck,KW bs kvs.length ck∧R c g (s.aK b (.bm kvs bs ck)) a w:=by
 have h:=hR.h b
 rw[hb]at h
 generalize hg:g b=m at h
 cases h with
 | aC h1 h2 h3 h4 h5 h6 h7 =>
  rename_i k es clock
  refine ⟨es.toList.map (·.born),clock,⟨by simpa using h2,fun i j iG hj=>?_,fun i hi=>?_⟩,hR.setBlock hg (by rw[hb];trivial) trivial (Fr.refl _ _) (.bm h1 h2 h3 h4 h5 h6 rfl)⟩
  ·rw[F4 i af,F4 j af];exact h6 i j iG af
  ·rw[F4 i af];exact h5 i af
theorem KX {g:Nat→GM} {s:FS} {a:Act} {w:World} (hR:R c g s a w) {b k:Nat} {kvs:List (AV × AV)} {bs:List Nat} {ck:Nat} (hb:s.H b=.bm kvs bs ck) (hg:g b=.re k):∃ es,w.heap[k]?=some (.map es ck)∧es.size=kvs.length ∧
  (∀ j,j < kvs.length→VR g (Qo c g s) w (kvs.getD j (.any,.any)).1 (es.getD j default).key)∧(∀ j,j < kvs.length→VR g (Qo c g s) w (kvs.getD j (.any,.any)).2 (es.getD j default).val) ∧
  (∀ j,j < es.size→(es.getD j default).born < ck)∧(∀ i j,i < j→j < es.size→(es.getD i default).born < (es.getD j default).born)∧(∀ j,j < es.size→(es.getD j default).born=bs.getD j 0)∧bs.length=kvs.length:=by
 have:=hR.h b
 rw[hb,hg]at this
 cases this with
 | bm h1 h2 h3 h4 h5 h6 h7=>exact ⟨_,h1,h2,h3,h4,h5,h6,fun j hj=>by rw[← h7,F4 j hj],by rw[← h7];simpa using h2⟩
theorem RV {g:Nat→GM} {s:FS} {a:Act} {w:World} (hR:R c g s a w) {bi k b ck:Nat} {seen:List Nat} (hb:s.H bi=.iter b ck seen) (hg:g bi=.re k):∃ m,w.heap[k]?=some (.mapIter (some m) ck seen.toArray ck)∧g b=.re m:=by
 have:=hR.h bi
 rw[hb,hg]at this
 cases this with
 | iter h1 h2=>exact ⟨_,h1,h2⟩
theorem R.F5 {g:Nat→GM} {s:FS} {a:Act} {w:World} (hR:R c g s a w) {b:Nat} {kvs:List (AV × AV)} {bs:List Nat} {ck:Nat} (hb:s.H b=.bm kvs bs ck):R c g (s.aK b (.aC kvs false)) a w:=by
 have h:=hR.h b
 rw[hb]at h
 generalize hg:g b=m at h
 cases h with
 | bm h1 h2 h3 h4 h5 h6 h7=>exact hR.setBlock hg (by rw[hb];trivial) trivial (Fr.refl _ _) (.aC h1 h2 h3 h4 h5 h6 fun h=>by cases h)
theorem To.F5 {p:List Nat} {b:Nat} {s:St} {kvs:List (AV × AV)} {bs:List Nat} {ck:Nat} (hb:s.fs.H b=.bm kvs bs ck):To p s (s.aK b (.aC kvs false)):=fun c g a w _ hR=>⟨g,by rw[St.cK];exact hR.F5 hb⟩
theorem RW {r0:List bG} {K:St→Prop} {s:St} {d:Nat} {t:TypeId} {x:TV} {b:Nat} {kvs:List (AV × AV)} {dn wide:Bool} {ks:List SK} {z:AV} (hT:dk P t wide ks z) (hx:aZ c.gl s.fs x=.mp b) (hb:s.fs.H b=.aC kvs dn) (hf:s.fs.H s.n=.free)
  (h:∀ bs ck,KW bs kvs.length ck→XP P c r0 K (((s.aK b (.bm kvs bs ck)).nw (.iter b ck [])).put d (.ptr s.n 0))):Yh P c (.pd (some d) (.IB t) [x] none) r0 K s:=by
 refine .inr fun ops io he g a w hR K' Q' hK=>?_
 obtain ⟨bf,bh,hd,ys,aJ,my⟩:=Zr he
 obtain ⟨y,bl,rfl⟩:=Xws aJ
 obtain rfl:x=aT y:=by simpa using my
 obtain ⟨kt,et,zv,hu,_,_,_⟩:=hT.of
 have hv:=Yn (hR.aG [y]) (by
  show Qv none (aG c.gl s.fs [aT y])
  simp only[aG,List.map_cons,List.map_nil,hx]
  simp[Qv,eP])
 have hv:VR g (Qo c g s.fs) w (.mp b) (a.eval y):=by
  have e:(aG c.gl s.fs ([y].map aT)).map Qk=[.mp b]:=by
   show [Qk (aZ c.gl s.fs (aT y))]=_
   rw[hx];rfl
  rw[e]at hv;exact hv.1
 obtain ⟨k,e1,hg⟩:=By hv
 obtain ⟨bs,ck,ep,cu⟩:=hR.toX hb
 obtain ⟨es,q1,q2,_⟩:=KX cu (b:=b) (k:=k) (kvs:=kvs) (bs:=bs) (ck:=ck) (by rw[FS.bc,if_pos rfl]) hg
 have bN:b≠s.n:=by rintro rfl;rw[hb]at hf;cases hf
 have bq:(s.fs.aK b (.bm kvs bs ck)).H s.n=.free:=by rw[FS.bc,if_neg bN];exact hf
 have bV:=cu.new (.mapIter (some k) ck #[] ck) bq (x:=.iter b ck []) trivial fun g' fk=>.iter (heap_alloc_new w _) (by rw[fk b (by rw[hg];intro x;cases x)];exact hg)
 refine Zc (Ka bf) ?_
 have dM:(execOp a.eval io).run P w=.ok (.value (.pointer (some ⟨w.heap.size,0,none⟩))) (w.alloc (.mapIter (some k) ck #[] ck)):=by
  unfold execOp
  simp[bl,Instr.range,run_underlying hu,e1,getObj,newObj,Sem.run,Sem.run_bind,q1]
 unfold Oper.wp
 rw[dM]
 show K' (a.put io.dst _) _
 rw[bh]
 refine hK (Zg g s.n (.re w.heap.size)) _ _ _ (h bs ck ep) ?_
 rw[St.bT,St.gV,St.cK]
 exact bV.put (by simpa using hd) (.ptr (by simp[Zg]))
theorem Xua {w:World} {k:Nat} {m:Option Nat} {s0 c0:Nat} {se:Array Nat} (o':Obj) (hk:w.heap[k]?=some (.mapIter m s0 se c0)):Fr w (ChangeMaps.setBlock w k o') (fun i=>i=k) :=
 ⟨rfl,rfl,rfl,by simp[ChangeMaps.setBlock],fun i _ bN=>by simp only[ChangeMaps.setBlock,Array.getElem?_setIfInBounds];rw[if_neg fun e=>bN e.symm],fun i cur e fz hi=>by
  by_cases h:i=k
  ·subst h;rw[hk]at hi;cases hi
  ·exact ⟨cur,by simp only[ChangeMaps.setBlock,Array.getElem?_setIfInBounds];rw[if_neg fun e=>h e.symm];exact hi,rfl⟩⟩
theorem RX {r0:List bG} {K:St→Prop} {s:St} {d:Nat} {x:TV} {bi b ck:Nat} {seen bs:List Nat} {kvs:List (AV × AV)} (hx:aZ c.gl s.fs x=.ptr bi 0) (hi:s.fs.H bi=.iter b ck seen) (hb:s.fs.H b=.bm kvs bs ck)
  (h0:(∀ i,i < kvs.length→bs.getD i 0 ∈ seen)→XP P c r0 K (s.put d (.aU [.bool false])))
  (h1:∀ i,i < kvs.length→bs.getD i 0 ∉ seen→XP P c r0 K ((s.aK bi (.iter b ck (seen++[bs.getD i 0]))).put d (.aU [.bool true,(kvs.getD i (.any,.any)).1,(kvs.getD i (.any,.any)).2]))):Yh P c (.pd (some d) .b7 [x] none) r0 K s:=by
 refine .inr fun ops io he g a w hR K' Q' hK=>?_
 obtain ⟨bf,bh,hd,ys,aJ,my⟩:=Zr he
 obtain ⟨y,bl,rfl⟩:=Xt9 aJ
 obtain rfl:x=aT y:=by simpa using my
 have hv:=Yn (hR.aG [y]) (by
  show Qv none (aG c.gl s.fs [aT y])
  simp only[aG,List.map_cons,List.map_nil,hx]
  simp[Qv,eP])
 have hv:VR g (Qo c g s.fs) w (.ptr bi 0) (a.eval y):=by
  have e:(aG c.gl s.fs ([y].map aT)).map Qk=[.ptr bi 0]:=by
   show [Qk (aZ c.gl s.fs (aT y))]=_
   rw[hx];rfl
  rw[e]at hv;exact hv.1
 obtain ⟨k,e1,hg⟩:∃ k,a.eval y=.pointer (some ⟨k,0,none⟩)∧g bi=.re k:=by
  generalize a.eval y=u at hv
  cases hv;exact ⟨_,rfl,by assumption⟩
 obtain ⟨m,q1,ca⟩:=RV hR hi hg
 obtain ⟨es,p1,p2,p3,p4,p5,p6,p7,p8⟩:=KX hR hb ca
 refine Zc (Ka bf) ?_
 have dM:=run_next_at (P:=P) w io.type k m ck ck seen.toArray es ck q1 p1 (fun x hx=>by
  obtain ⟨j,hj,rfl⟩:=List.getElem_of_mem hx
  have fD:j < es.size:=by simpa using hj
  have:=p5 j fD
  simp only[Array.getD_eq_getD_getElem?,Array.getElem?_eq_getElem fD,Option.getD_some]at this
  simpa using this) (Nat.le_refl _)
 have nz:∀ r w',(Instr.next (.pointer (some ⟨k,0,none⟩)) false io.type).run P w=.ok r w'→(execOp a.eval io).run P w=.ok (.value r) w':=fun r w' h=>by
  unfold execOp
  simp only[bl,e1]
  exact Zt h
 unfold Oper.wp
 rcases dM with ⟨hz,hr⟩|⟨e,lp,w1,mH,hr⟩
 ·rw[nz _ _ hr]
  show K' (a.put io.dst _) _
  rw[bh]
  refine hK g _ _ _ (h0 fun i hi=>?_) (by
   rw[St.bT]
   refine hR.put (by simpa using hd) (.aU rfl fun j hj=>?_)
   have:j=0:=by simp at hj;omega
   subst this;exact .bool _)
  ·have hl:leftOf es seen.toArray=#[]:=Array.eq_empty_of_size_eq_zero hz
   have jL:i < es.size:=by omega
   have:=Array.filter_eq_empty_iff.1 hl es[i] (Array.getElem_mem jL)
   have bL:=p7 i jL
   simp only[Array.getD_eq_getD_getElem?,Array.getElem?_eq_getElem jL,Option.getD_some]at bL
   rw[← bL]
   simpa using this
 ·obtain ⟨qM,xo⟩:e ∈ es.toList∧e.born ∉ seen:=by
   unfold leftOf at lp
   simp at lp
   exact ⟨by simpa using lp.1,lp.2⟩
  obtain ⟨i,mj,rfl⟩:=List.getElem_of_mem qM
  have jL:i < es.size:=by simpa using mj
  have heq:es.toList[i]=es.getD i default:=by simp[Array.getD_eq_getD_getElem?,jL]
  have RY:=p7 i jL
  rw[heq]at xo hr
  rw[RY]at xo
  rw[nz _ _ hr]
  show K' (a.put io.dst _) _
  rw[bh]
  have hRw:R c g s.fs a w1:=by
   rcases mH with rfl|rfl
   ·exact hR
   ·exact hR.grow (Fr.drew w _)
  have RZ:w1.heap[k]?=some (.mapIter (some m) ck seen.toArray ck):=by rcases mH with rfl|rfl<;>exact q1
  have aO:(s.fs.H bi).live:=by rw[hi];trivial
  have iM:=Uc RZ
  have vr:Qo c g s.fs k:=.inr ⟨bi,aO,hg⟩
  have hf:=Xua (.mapIter (some m) ck (seen.toArray.push (es.getD i default).born) ck) RZ
  have j8:=hRw.setBlock (x:=.iter b ck (seen++[bs.getD i 0])) hg aO trivial hf (.iter (m:=m) (by
   rw[RY,← List.push_toArray]
   simp[ChangeMaps.setBlock,iM]) ca)
  refine hK g _ _ _ (h1 i af xo) (by
   rw[St.bT,St.cK]
   refine j8.put (by simpa using hd) (.aU rfl fun j hj=>?_)
   have hm:∀ {x v},VR g (Qo c g s.fs) w x v→VR g (Qo c g (s.fs.aK bi (.iter b ck (seen++[bs.getD i 0])))) (ChangeMaps.setBlock w1 k (.mapIter (some m) ck (seen.toArray.push (es.getD i default).born) ck)) x v:=fun h =>
    (h.mono (w':=w1) (W':=Qo c g s.fs) (by rcases mH with rfl|rfl;exact Fr.refl _ _;exact Fr.drew _ _) (fun _ _ h=>h) (fun _ _=>rfl)).Cy aO trivial (hf.weak fun q hq=>by rw[hq];exact hg)
   have hj3:j < 3:=hj
   rcases (by omega:j=0∨j=1∨j=2) with rfl|rfl|rfl
   ·exact .bool _
   ·exact hm (p3 i af)
   ·exact hm (p4 i af))
theorem R0 {r0:List bG} {K:St→Prop} {s:St} {d:Nat} {x:TV} {bi b ck i:Nat} {seen bs:List Nat} {kvs:List (AV × AV)} (hx:aZ c.gl s.fs x=.ptr bi 0) (hi:s.fs.H bi=.iter b ck (seen++[bs.getD i 0])) (hb:s.fs.H b=.bm kvs bs ck) (cJ:i < kvs.length)
  (h:XP P c r0 K (s.put d (.aU [(kvs.getD i (.any,.any)).1,(kvs.getD i (.any,.any)).2]))):Yh P c (.pd (some d) .IC [x] none) r0 K s:=by
 refine .inr fun ops io he g a w hR K' Q' hK=>?_
 obtain ⟨bf,bh,hd,ys,aJ,my⟩:=Zr he
 obtain ⟨y,bl,rfl⟩:=Xv7 aJ
 obtain rfl:x=aT y:=by simpa using my
 have hv:=Yn (hR.aG [y]) (by
  show Qv none (aG c.gl s.fs [aT y])
  simp only[aG,List.map_cons,List.map_nil,hx]
  simp[Qv,eP])
 have hv:VR g (Qo c g s.fs) w (.ptr bi 0) (a.eval y):=by
  have e:(aG c.gl s.fs ([y].map aT)).map Qk=[.ptr bi 0]:=by
   show [Qk (aZ c.gl s.fs (aT y))]=_
   rw[hx];rfl
  rw[e]at hv;exact hv.1
 obtain ⟨k,e1,hg⟩:∃ k,a.eval y=.pointer (some ⟨k,0,none⟩)∧g bi=.re k:=by
  generalize a.eval y=u at hv
  cases hv;exact ⟨_,rfl,by assumption⟩
 obtain ⟨m,q1,ca⟩:=RV hR hi hg
 obtain ⟨es,p1,p2,p3,p4,p5,p6,p7,p8⟩:=KX hR hb ca
 have jL:i < es.size:=by omega
 refine Zc (Ka bf) ?_
 have dM:=run_entry_at (P:=P) w k m ck seen.toArray es ck (es.getD i default) (by rw[p7 i jL,List.push_toArray];exact q1) p1 (by
  rw[← vD]
  have:i < es.toList.length:=by simpa using jL
  simp only[List.getD,List.getElem?_eq_getElem this,Option.getD_some]
  exact List.getElem_mem _) (by
  rw[List.nodup_iff_pairwise_ne,List.pairwise_iff_getElem]
  intro x y R1 KY hxy
  simp only[List.length_map,Array.length_toList]at R1 KY
  have:=p6 x y hxy KY
  simp only[List.getElem_map,Array.getElem_toList]
  simp only[Array.getD_eq_getD_getElem?,Array.getElem?_eq_getElem R1,Array.getElem?_eq_getElem KY,Option.getD_some]at this
  omega)
 have nz:(execOp a.eval io).run P w=.ok (.value (.tuple #[(es.getD i default).key,(es.getD i default).val])) w:=by
  unfold execOp
  simp only[bl,e1]
  exact Zt dM
 unfold Oper.wp
 rw[nz]
 show K' (a.put io.dst _) _
 rw[bh]
 refine hK g _ _ _ h (by
  rw[St.bT]
  refine hR.put (by simpa using hd) (.aU rfl fun j hj=>?_)
  have fD:j < 2:=hj
  rcases (by omega:j=0∨j=1) with rfl|rfl
  ·exact p3 i cJ
  ·exact p4 i cJ)
end
section
variable {P:Program} {c:Cx} {g:Nat→GM} {a:Act} {w:World}
theorem R.gg {s s':FS} (hR:R c g s a w) (hT:∀ i v,VR g (Qo c g s) w (s.T i) v→VR g (Qo c g s) w (s'.T i) v) (hB:∀ b,BR g (Qo c g s) w (g b) (s.H b)→BR g (Qo c g s) w (g b) (s'.H b)) (hl:∀ b,(s'.H b).live ↔ (s.H b).live):R c g s' a w:=by
 have hW:Qo c g s'=Qo c g s:=by funext i;simp only[Qo,hl]
 refine ⟨hR.size,hR.dL,fun i=>?_,fun i=>?_,fun b=>?_,fun x y k hx hy=>hR.inj x y k ((hl x).1 hx) ((hl y).1 hy),fun x k hx=>hR.old x k ((hl x).1 hx),hR.fr,hR.xs,hR.ib⟩
 ·rw[hW];exact hT i _ (hR.t i)
 ·rw[hW];exact hR.gl i
 ·rw[hW];exact hB b (hR.h b)
theorem R.CG {s:FS} {n:Nat} (hR:R c g s a w) (hf:s.H n=.free):R c (Zg g n .ph) (s.aK n (.cells [])) a w:=by
 have jl:g n=.un:=by
  have:=hR.h n
  rw[hf]at this
  generalize g n=m at this
  cases this;rfl
 have bN:∀ {b k},Zg g n .ph b=.re k→b≠n∧g b=.re k:=fun {b k} h=>by
  unfold Zg at h
  split at h
  ·cases h
  ·rename_i hb;exact ⟨hb,h⟩
 have hg:∀ b,g b≠.un→Zg g n .ph b=g b:=zb jl
 have hH:∀ b,b≠n→(s.aK n (.cells [])).H b=s.H b:=fun b hb=>by rw[FS.bc,if_neg fun e=>hb e.symm]
 have hW:∀ k,Qo c (Zg g n .ph) (s.aK n (.cells [])) k→Qo c g s k:=by
  rintro k (h|⟨b,h1,h2⟩)
  ·exact .inl h
  ·obtain ⟨hb,h3⟩:=bN h2
   rw[hH b hb]at h1
   exact .inr ⟨b,h1,h3⟩
 have mono:∀ {v u},VR g (Qo c g s) w v u→VR (Zg g n .ph) (Qo c (Zg g n .ph) (s.aK n (.cells []))) w v u:=fun h=>h.mono (Fr.refl _ _) (fun k _=>hW k) hg
 refine ⟨hR.size,hR.dL,fun j=>mono (hR.t j),fun j=>(hR.gl j).mono (Fr.refl _ _) (fun k _=>hW k) (fun _ _=>rfl),fun b=>?_,fun b b' k h1 h2 e1 e2=>?_,fun b k h1 e1=>?_,hR.fr,hR.xs,ET hR jl⟩
 ·by_cases hb:b=n
  ·subst hb
   rw[FS.bc,if_pos rfl]
   unfold Zg;rw[if_pos rfl];exact .ph
  ·rw[hH b hb]
   have:Zg g n .ph b=g b:=by unfold Zg;rw[if_neg hb]
   rw[this]
   exact (hR.h b).mono (Fr.refl _ _) (fun k _=>hW k) hg (fun _ _ _=>rfl)
 ·obtain ⟨b1,g1⟩:=bN e1
  obtain ⟨b2,g2⟩:=bN e2
  rw[hH b b1]at h1
  rw[hH b' b2]at h2
  exact hR.inj b b' k h1 h2 g1 g2
 ·obtain ⟨b1,g1⟩:=bN e1
  rw[hH b b1]at h1
  exact hR.old b k h1 g1
theorem BR.jN {W:Nat→Prop} {m:GM} {cs cs':List AV} (h:BR g W w m (.cells cs)) (hl:cs'.length=cs.length) (hv:∀ j v,j < cs.length→VR g W w (cs.getD j .any) v→VR g W w (cs'.getD j .any) v):BR g W w m (.cells cs'):=by
 cases h with
 | ph =>
  obtain rfl:cs'=[]:=List.eq_nil_of_length_eq_zero hl
  exact .ph
 | cells hb h1 h2 h3 h4=>exact .cells hb af (fun j hj=>h2 j af) (fun j hj=>hv j _ af (h3 j af)) h4
end
theorem To.kP {p:List Nat} {s:St} {b j es:Nat} {cs:List AV} (hb:Qc s.h s.n b=.cells cs) (hj:cs[j]?=some .nils) (hf:s.fs.H s.n=.free) :
  To p s ⟨s.t,(b,.cells (cs.set j (.sl es s.n 0 0 0)))::(s.n,.cells [])::s.h,s.n + 1⟩:=fun c g a w _ hR=>by
 have dR:b≠s.n:=fun e=>by
  have:s.fs.H b=.cells cs:=hb
  rw[e,hf]at this;cases this
 refine ⟨Zg g s.n .ph,?_⟩
 have h1:=hR.CG hf
 have hH:∀ i,(⟨s.t,(b,.cells (cs.set j (.sl es s.n 0 0 0)))::(s.n,.cells [])::s.h,s.n + 1⟩:St).fs.H i=if b=i then .cells (cs.set j (.sl es s.n 0 0 0)) else (s.fs.aK s.n (.cells [])).H i:=fun i=>by
  show Qc ((b,_)::(s.n,_)::s.h) (s.n + 1) i=_
  rw[Qd,FS.bc,Qd]
  split
  ·rfl
  ·split
   ·rfl
   ·rename_i h;exact We _ _ _ fun e=>h e.symm
 have dF:(s.fs.aK s.n (.cells [])).H b=.cells cs:=by rw[FS.bc,if_neg fun e=>dR e.symm];exact hb
 refine h1.gg (fun i v h=>h) (fun i h=>?_) fun i=>?_
 ·rw[hH]
  split
  ·rename_i e;subst e
   rw[dF]at h
   refine h.jN av fun k v hk hv=>?_
   by_cases R2:j=k
   ·subst R2
    have e1:cs.getD j .any=.nils:=by simp[List.getD,hj]
    have e2:(cs.set j (.sl es s.n 0 0 0)).getD j .any=.sl es s.n 0 0 0:=by simp[List.getD,List.getElem?_set,hk]
    rw[e1]at hv;rw[e2]
    cases hv
    exact .ku (by unfold Zg;rw[if_pos rfl]) rfl
   ·have:(cs.set j (.sl es s.n 0 0 0)).getD k .any=cs.getD k .any:=by simp[List.getD,List.getElem?_set,R2]
    rw[this];exact hv
  ·exact h
 ·rw[hH]
  split
  ·rename_i e;subst e;rw[dF];exact Iff.rfl
  ·exact Iff.rfl
def Wk (x y:AV):Prop:=∀ (g:Nat→GM) (W:Nat→Prop) (w:World) (v:Value),VR g W w x v→VR g W w y v
theorem Wk.refl (x:AV):Wk x x:=fun _ _ _ _ h=>h
theorem Wk.nils:Wk .nils (.isl 0 []):=fun g W w v h=>by
 cases h
 exact .isl (us:=fun _=>undef) (Nat.le_refl 0) (by simp[maxLen]) (fun j hj=>by simp at hj) fun j hj=>by simp at hj
theorem Wk.cap (es b off n c:Nat):Wk (.sl es b off n c) (.sl es b off n n):=fun g W w v h=>by
 cases h with
 | sl hg hn hc hm hb hs=>exact .sl hg (Nat.le_refl _) af hm hb hs
 | ku hg hc=>exact .ku hg rfl
theorem Wk.KZ {x x' y y':AV} (h:Wk x x') (k:Wk y y'):Wk (.aU [x,y]) (.aU [x',y']):=fun g W w v hv=>by
 obtain ⟨us,rfl,h1,h2⟩:=Bw hv
 refine .aU (by simpa using h1) fun j hj=>?_
 have h3:=h2 j (by simpa using hj)
 have hj:j < 2:=by simpa using hj
 obtain rfl|rfl:j=0∨j=1:=by omega
 ·exact h g W w _ (by simpa [List.getD] using h3)
 ·exact k g W w _ (by simpa [List.getD] using h3)
theorem To.R3 {p:List Nat} {s:St} (i:Nat) {y:AV} (h:Wk (look s.t i) y):To p s ⟨(i,y)::s.t,s.h,s.n⟩:=fun c g a w _ hR=>by
 refine ⟨g,hR.gg (fun k v hv=>?_) (fun _ h=>h) fun _=>Iff.rfl⟩
 show VR _ _ _ (look ((i,y)::s.t) k) v
 rw[Zn]
 split
 ·rename_i e;subst e;exact h _ _ _ _ hv
 ·exact hv
theorem To.R4 {p:List Nat} {s:St} {b:Nat} {cs cs':List AV} (hb:Qc s.h s.n b=.cells cs) (hl:cs'.length=cs.length) (hv:∀ j,j < cs.length→Wk (cs.getD j .any) (cs'.getD j .any)):To p s ⟨s.t,(b,.cells cs')::s.h,s.n⟩:=fun c g a w _ hR=>by
 have hH:∀ i,(⟨s.t,(b,.cells cs')::s.h,s.n⟩:St).fs.H i=if b=i then .cells cs' else s.fs.H i:=fun i=>by
  show Qc ((b,_)::s.h) s.n i=_
  rw[Qd];rfl
 refine ⟨g,hR.gg (fun k v hv=>hv) (fun i h=>?_) fun i=>?_⟩
 ·rw[hH];split
  ·rename_i e;subst e
   rw[show s.fs.H b=.cells cs from hb]at h
   exact h.jN hl fun j v hj=>hv j hj _ _ _ _
  ·exact h
 ·rw[hH];split
  ·rename_i e;subst e;rw[show s.fs.H b=.cells cs from hb];exact Iff.rfl
  ·exact Iff.rfl
theorem VR.froze {c:Cx} {g:Nat→GM} {s:FS} {a:Act} {w:World} (hR:R c g s a w) {es b off n k:Nat} {cs:List AV} (hb:s.H b=.cells cs) {u:Value} (h:VR g (Qo c g s) w (.sl es b off n k) u) :
  VR g (Qo c g (s.aK b .dead)) w (.isl n ((cs.drop off).take (n * es))) u:=by
 have dV:=hR.h b
 rw[hb]at dV
 rcases px h with ⟨kk,cap,e,cur,fz,rfl,hg,h1,h2,h3,h4,h5⟩|⟨vh,rfl,hg,rfl,rfl⟩
 ·rw[hg]at dV
  have hx:¬ Qo c g (s.aK b .dead) kk:=by
   rintro (hx|⟨b',h6,h7⟩)
   ·exact P6 hR (by rw[hb];trivial) hg hx
   ·rw[FS.bc]at h6
    split at h6
    ·exact h6.elim
    ·rename_i bN
     exact bN (hR.inj b b' kk (by rw[hb];trivial) h6 hg h7)
  cases dV with
  | cells dF hl jI hv hz =>
   rename_i I5 e2 fz2
   rw[h4]at dF;cases dF
   have hlen:∀ j,j < ((cs.drop off).take (n * es)).length→off + j < cs.length∧j < n * es:=fun j hj=>by simp at hj;omega
   refine .isl (us:=fun j=>cur.getD (off + j) undef) af h3 (fun j hj=>?_) fun j hj=>?_
   ·obtain ⟨py,fD⟩:=hlen j hj
    refine ⟨kk,off,rfl,?_,hx,jI _ py⟩
    have:=cell_of_row w kk (off + j) cur e fz h4
    unfold Uj
    rw[this]
    have:off + j < cur.size:=by omega
    simp[Array.getD,this]
   ·obtain ⟨py,fD⟩:=hlen j hj
    have ee:((cs.drop off).take (n * es)).getD j .any=cs.getD (off + j) .any:=by simp only[List.getD,List.getElem?_take,List.getElem?_drop,if_pos fD]
    rw[ee]
    exact (hv _ py).mono (Fr.refl _ _) (fun k _=>ES k) (fun _ _=>rfl)
 ·refine .isl (us:=fun _=>undef) (Nat.le_refl 0) (by simp[maxLen]) (fun j hj=>?_) fun j hj=>?_
  ·simp at hj
  ·simp at hj
theorem VR.dead {c:Cx} {g:Nat→GM} {s:FS} {w:World} {b:Nat} {x:AV} {u:Value} (h:VR g (Qo c g s) w x u):VR g (Qo c g (s.aK b .dead)) w x u:=h.mono (Fr.refl _ _) (fun k _=>ES k) (fun _ _=>rfl)
theorem To.vF {p:List Nat} {s:St} {b i:Nat} {v':AV} (hl:(s.fs.H b).live) (hv:∀ (c:Cx) (g:Nat→GM) (a:Act) (w:World),R c g s.fs a w→∀ u,VR g (Qo c g s.fs) w (look s.t i) u→VR g (Qo c g (s.fs.aK b .dead)) w v' u) :
  To p s ⟨(i,v')::s.t,(b,.dead)::s.h,s.n⟩:=fun c g a w _ hR=>by
 have hb:g b≠.un:=fun e=>by
  have:=hR.h b
  rw[e]at this
  exact this.fU hl
 have hk:=hR.kill hb
 have e:(⟨(i,v')::s.t,(b,.dead)::s.h,s.n⟩:St).fs=(s.fs.aK b .dead).put i v':=by
  rw[← St.cK,← St.bT];rfl
 refine ⟨g,?_⟩
 rw[e]
 refine ⟨hk.size,hk.dL,fun j=>?_,hk.gl,hk.h,hk.inj,hk.old,hk.fr,hk.xs,hk.ib⟩
 show VR g _ w (if i=j then v' else s.fs.T j) _
 split
 ·rename_i e;subst e;exact hv c g a w hR _ (hR.t i)
 ·exact hk.t j
theorem To.fZ {p:List Nat} {s:St} {b i es off n k:Nat} {cs:List AV} (hb:Qc s.h s.n b=.cells cs) (hi:look s.t i=.sl es b off n k):To p s ⟨(i,.isl n ((cs.drop off).take (n * es)))::s.t,(b,.dead)::s.h,s.n⟩ :=
 To.vF (by rw[show s.fs.H b=.cells cs from hb];trivial) fun c g a w hR u hu=>by
  rw[hi]at hu
  exact VR.froze hR hb hu
theorem To.La {p:List Nat} {s:St} {b i es off n k:Nat} {cs:List AV} {y:AV} (hb:Qc s.h s.n b=.cells cs) (hi:look s.t i=.aU [.sl es b off n k,y]):To p s ⟨(i,.aU [.isl n ((cs.drop off).take (n * es)),y])::s.t,(b,.dead)::s.h,s.n⟩ :=
 To.vF (by rw[show s.fs.H b=.cells cs from hb];trivial) fun c g a w hR u hu=>by
  rw[hi]at hu
  obtain ⟨us,rfl,h1,h2⟩:=Bw hu
  refine .aU (by simpa using h1) fun j hj=>?_
  have h3:=h2 j (by simpa using hj)
  have hj:j < 2:=by simpa using hj
  obtain rfl|rfl:j=0∨j=1:=by omega
  ·exact VR.froze hR hb (by simpa [List.getD] using h3)
  ·exact VR.dead (by simpa [List.getD] using h3)
def Ab (t:List (Nat × AV)):List (Nat × AV)→Prop
 | []=>True
 | q::r=>look t q.1=q.2∧Ab t r
theorem R5 {t:List (Nat × AV)}:∀ {t':List (Nat × AV)},Ab t t'→∀ i,look t' i=.any∨look t' i=look t i
 | [],_,_=>.inl rfl
 | (j,v)::r,h,i=>by
  rw[Zn]
  split
  ·rename_i e;subst e;exact .inr h.1.symm
  ·exact R5 h.2 i
theorem To.dH {p:List Nat} {t t':List (Nat × AV)} {h h':List (Nat × Bk)} {n n':Nat} (hs:Ab t t') (hh:∀ b,Qc h' n' b=Qc h n b):To p ⟨t,h,n⟩ ⟨t',h',n'⟩:=fun c g a w _ hR=>by
 refine ⟨g,hR.gg (fun i v hv=>?_) (fun b hb=>?_) fun b=>?_⟩
 ·show VR _ _ _ (look t' i) v
  rcases R5 hs i with e|e
  ·rw[e];exact .any _
  ·rw[e];exact hv
 ·show BR _ _ _ _ (Qc h' n' b)
  rw[hh];exact hb
 ·show (Qc h' n' b).live ↔ (Qc h n b).live
  rw[hh]
theorem Xem (t:List (Nat × AV)):Ab t []=True:=rfl
theorem Qzv (t:List (Nat × AV)) (i:Nat) (v:AV) (r:List (Nat × AV)):Ab t ((i,v)::r)=(look t i=v∧Ab t r):=rfl
attribute [go_sem] Xem Qzv
theorem Qog {σ:Type} (p:List Nat) (I:σ→Prop) (cY:σ→St) (μ:σ→Nat) (x:σ) (Q:EX→St→Prop) (s:St):FZ p I cY μ x Q .normal s=∃ y,I y∧To p s (cY y)∧μ y < μ x:=rfl
theorem Qvx {σ:Type} (p:List Nat) (I:σ→Prop) (cY:σ→St) (μ:σ→Nat) (x:σ) (Q:EX→St→Prop) (s:St):FZ p I cY μ x Q .ret s=Q .ret s:=rfl
theorem Qsz {σ:Type} (p:List Nat) (I:σ→Prop) (cY:σ→St) (μ:σ→Nat) (x:σ) (Q:EX→St→Prop) (i:Nat) (s:St):FZ p I cY μ x Q (.exit i) s=Q (.exit i) s:=rfl
theorem Xf7 {ι:Type} (m:Nat) (p:List Nat) (rs:List RS) (Q:ι→Prop) (r:ι→AV) (ax:ι→List (Nat × Bk)) (s:St):F1 m p rs Q r ax .ret s=(Wt s.fs rs∧∃ x,Q x∧To p ⟨[(0,fY s.fs rs)],s.h,s.n⟩ ⟨[(0,r x)],ax x,m⟩):=rfl
theorem Qt3 {ι:Type} (m:Nat) (p:List Nat) (rs:List RS) (Q:ι→Prop) (r:ι→AV) (ax:ι→List (Nat × Bk)) (s:St):F1 m p rs Q r ax .normal s=(Wt s.fs rs∧∃ x,Q x∧To p ⟨[(0,fY s.fs rs)],s.h,s.n⟩ ⟨[(0,r x)],ax x,m⟩):=rfl
attribute [go_sem] Qog Qvx Qsz Xf7 Qt3
theorem GS.wk {P:Program} {gl:Nat→AV} {f:FuncId} {args:List AV} {aI ax:List (Nat × Bk)} {m n:Nat} {r r':AV} (h:GS P gl f args aI m r ax n) (hr:Wk r r'):GS P gl f args aI m r' ax n:=by
 refine ⟨h.1,fun w vs G X g hR hv=>(h.2 w vs G X g hR hv).mono ?_⟩
 rintro e w' ⟨v,g',q1,q2,q3,q4⟩
 exact ⟨v,g',q1,q2,q3,hr _ _ _ _ q4⟩
end Go.Proofs.YtogckmommodmhaaGreatDoor
