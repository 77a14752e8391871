import Derived.Test.YtogckmommodmhaaGreatDoorZy5
namespace Go.Proofs.YtogckmommodmhaaGreatDoor
open List (length_append map_toArray map_cons map_nil mem_map all_eq_true mem_cons map_congr_left map_id cons_append)
open Go.RowKit
set_option linter.all false
set_option maxRecDepth 100000
variable {anc:List Nat}{kt:TypeId}{o:Oper}{p:List Nat}{k:Nat}{r0:List bD}{cs:List AV}{es:Array MapEntry}{b:Nat}{s' s:St}{K:St->Prop}{kvs:List (AV×AV)}{t:TypeId}{d i:Nat}{wide:Bool}{x:AV}{clock:Nat}{dn:Bool}{ks:List SK}{xs:List TV}{y:AV}{u v:Value}{z:AV}(j:Nat)
def zx:Bk->Prop
 | .cells _=>True
 | _=>False
def WH {x:Bk}(h:zx x):x.live:=by cases x<;>first|exact h.elim|trivial
theorem Yj0 (cs:List AV):zx (.cells cs)=True:=rfl
attribute [go_sem] Yj0
section
variable {P:Program}{c:Cx}{ops:Array Oper}{io:Oper}
def Xtv {es:Nat}{lo hi:Bool}{xs:List Operand}(h:Xs P o=some (.HX es lo hi,xs)):∃ t x l h' mx e,o.op=.slice t x l h' (some mx)/\P.underlying t=some (.slice e)/\Zr P e=some es/\l.isSome=lo/\h'.isSome=hi/\xs=x::(l.toList++h'.toList++[mx]):=by
 unfold Xs at h
 repeat' split at h
 all_goals first
  | (simp only[Option.map_eq_some_iff,Prod.mk.injEq,PK.HX.injEq]at h;obtain ⟨es',h1,⟨rfl,rfl,rfl⟩,rfl⟩:=h;exact ⟨_,_,_,_,_,_,by assumption,by assumption,h1,rfl,rfl,rfl⟩)
  | (simp at h;done)
  | (cases h;done)
  | (simp[Option.map_eq_some_iff]at h;done)
def IM {g:Nat->GM}{W:Nat->Prop}{w:World}{k:IntKind}{n:Int}  (h:VR g W w (.int k n) v):v=.int k n:=by cases h;rfl
def Ybm {es b off n cc:Nat}{k1 k2 k3:IntKind}{i j m:Int}(h0:0<=i)(h1:i<=j)(h2:j<=m)(h3:m<=cc):nh P c (.HX es true true) [.sl es b off n cc,.int k1 i,.int k2 j,.int k3 m] .any:=by
 intro o ys aD g W a w _ _ hv K Q hK;obtain ⟨t,x,l,h',mx,e,hop,hu,df,hl,hh,rfl⟩:=Xtv aD;obtain ⟨lo,rfl⟩:=Option.isSome_iff_exists.1 hl;obtain ⟨hi,rfl⟩:=Option.isSome_iff_exists.1 hh;obtain ⟨hx,j7,ea,ve,_⟩:=hv;have he:P.elem t=e:=by simp[Program.elem,hu]
 have kQ:∀ (ad:Option Addr) (len cap:Nat),cc<=cap->a.eval x=.slice ad len cap->∃ v,(execOp a.eval o).run P w=.ok (.value v) w:=by
  intro ad len cap hcap hx;have e1:a.eval lo=.int k1 i:=IM j7;have e2:a.eval hi=.int k2 j:=IM ea;have e3:a.eval mx=.int k3 m:=IM ve;refine ⟨sliced ad i.toNat j.toNat m.toNat es,?_⟩;simp only[execOp,hop];refine Zx ?_;simp only[Option.map_some,hx,e1,e2,e3];rw[run_sliceAt_slice _ _ _ _ _ _ (by rw[he];exact hu),run_slice_lhm _ _ _ _ _ (by rw[he];exact hu) k1 k2 k3 i j m h0 h1 h2 af,he,Jz df];rfl
 have bY:∃ v,(execOp a.eval o).run P w=.ok (.value v) w:=by
  rcases qM hx with ⟨k,cap,e',cur,fz,e1,_,_,q2,_,_,_⟩|⟨ad,e1,_,_,q⟩
  ·exact kQ _ _ cap q2 e1
  ·exact kQ _ _ 0 af e1
 obtain ⟨v,hr⟩:=bY;unfold Oper.wp;rw[hr];exact hK _ _ (Fr.refl _ _) (.any _)
variable {g:Nat->GM}{s:FS}{a:Act}{w:World}
def Xms (hR:R c g s a w){t u ty e:TypeId}{i:TypeInfo}{z:Value}{es:Nat}(ht:P.underlying t=some (.slice e))(hu:u=t\/P.underlying u=some .string)(hi:P.info? e=some i)(hz:i.zero=some z)(df:i.size=es)(lE:z.cells.size=es)
  {b n cc:Nat} {vx:AV} {ub ux:Value} {str:Bool} (hb:VR g (Qm c g s) w (.sl es b 0 n cc) ub) (hx:VR g (Qm c g s) w vx ux) (hl:n*es<=(Yy (s.H b)).length) (iH:zx (s.H b)) (zb:mf s es str vx) (eC:n+Xe vx<=cc) :
  ∃ v' w',(Builtin.append_ #[t,u] ty #[ub,ux]).run P w=.ok v' w'∧R c g (s.aH b (.cells (Xt s es (.sl es b 0 n cc)++Xt s es vx))) a w' ∧
   VR g (Qm c g (s.aH b (.cells (Xt s es (.sl es b 0 n cc)++Xt s es vx)))) w' (.sl es b 0 (n+Xe vx) cc) v':=by
 have aO:=WH iH;obtain ⟨news,q1,q2,q3,q4,q5,q6⟩:=Iq (P:=P) hR hx zb;obtain ⟨dY,o1,o2,o3,o4,o5,o6⟩:=Iq (P:=P) (str:=false) hR hb (x:=.sl es b 0 n cc) ⟨rfl,rfl,by simpa using hl⟩;simp only[NC]at o1 o2 o3 o4 o6;rcases qM hb with ⟨k,cap,e',cur,fz,rfl,h1,h2,h3,h4,h5,h6⟩|⟨ad,rfl,h1,rfl,rfl⟩
 ·have hlen:(dY++news).length=(n + Xe vx) * es:=by rw[length_append,o3,q3,Nat.add_mul]
  have wW:(Xt s es (.sl es b 0 n cc)++Xt s es vx).length=(n+Xe vx)*es:=by rw[length_append,o4,q4,Nat.add_mul]
  have yI:∀ v ∈ dY++news,v.oneCell'=true:=fun v hv=>(List.mem_append.1 hv).elim (o5 v) (q5 v);have Is:∀ j,j<(n+Xe vx)*es->VR g (Qm c g s) w ((Xt s es (.sl es b 0 n cc)++Xt s es vx).getD j .any) ((dY++news).getD j undef):=fun j hj=>by
   by_cases ij:j<n*es
   ·have:=o6 j ij;simp only[List.getD,List.getElem?_append_left (show j<(Xt s es (.sl es b 0 n cc)).length by omega),List.getElem?_append_left (show j<dY.length by omega)]at this ⊢;exact this
   ·have:=q6 (j-n*es) (by rw[Nat.add_mul]at hj;omega);simp only[List.getD,List.getElem?_append_right (show (Xt s es (.sl es b 0 n cc)).length<=j by omega),List.getElem?_append_right (show dY.length<=j by omega),o3,o4]at this ⊢;exact this
  have sf:n+Xe vx<=cap:=by omega
  have di:=hR.h b;rw[h1]at di;have qQ:fz=(0,0)\/cur.size<=fz.1:=by
   cases hh:s.H b with
   | cells cs=>rw[hh]at di;cases di with|cells bL _ _ _ hf=>rw[h5]at bL;cases bL;exact hf
   | az kvs dn=>rw[hh]at di;cases di with|az bL=>rw[h5]at bL;cases bL
   | bp kvs bs ck=>rw[hh]at di;cases di with|bp bL=>rw[h5]at bL;cases bL
   | iter b0 ck seen=>rw[hh]at di;cases di with|iter bL=>rw[h5]at bL;cases bL
   | dK ls=>rw[hh]at iH;exact iH.elim
   | free=>rw[hh]at aO;exact aO.elim
   | dead=>rw[hh]at aO;exact aO.elim
  have hmul:(n+Xe vx)*es<=cap*es:=Nat.mul_le_mul_right _ sf;have iG:n*i.size+news.length<=cur.size:=by rw[df,q3,<- Nat.add_mul];omega
  have hr:=Vv (ty:=ty) (P:=P) ht hu hi k n cap ux (Xe vx) news cur e' fz w q1 h5 qQ (by rw[df];exact q2) q5 sf iG;rw[df]at hr;have hnc:n*es<=cap*es:=Nat.mul_le_mul_right es (Nat.le_trans h2 h3);have holds:dY=cur.toList.take (n*es):=by
   have a1:=o2 w rfl;have a2:=run_firstCells_some (P:=P) w es n ⟨k,0,none⟩ n cap (cur.toList.take (n*es)) (by simp;omega) (by have:=ND h5 (o:=0) (n:=n*es) af w rfl;simpa using this);rw[a1]at a2;simpa using a2
  have cC:(cur.toList.take (n*es)++news++cur.toList.drop (n*es+news.length)).toArray.size=cur.size:=by
   rw[df]at iG;simp;omega
  have aY:∀ j,j<(n+Xe vx)*es->(cur.toList.take (n*es)++news++cur.toList.drop (n*es+news.length)).toArray.getD j undef=(dY++news).getD j undef:=fun j hj=>by
   rw[<- holds];simp only[Array.getD_eq_getD_getElem?,List.getD,List.getElem?_toArray];rw[List.getElem?_append_left af]
  have hf:=Vz (new:=(cur.toList.take (n*es)++news++cur.toList.drop (n*es+news.length)).toArray) h5 cC;have wX:Qm c g s k:=.inr ⟨b,aO,h1⟩;have bA:=hR.setBlock (x:=.cells (Xt s es (.sl es b 0 n cc)++Xt s es vx)) h1 aO trivial hf (by
   refine .cells (cur:=(cur.toList.take (n*es)++news++cur.toList.drop (n*es+news.length)).toArray) (e:=e') (fz:=fz) (setRow_heap w k cur _ e' fz h5) af (fun j hj=>?_) (fun j hj=>?_) (by rw[cC];exact qQ)
   ·rw[aY j af];have c4:j < (dY++news).length:=by omega
    simp only[List.getD,List.getElem?_eq_getElem c4,Option.getD_some];exact yI _ (List.getElem_mem c4)
   ·rw[aY j af];exact (Is j af).mono (hf.weak fun i hi=>hi ▸ wX) (fun _ _ h=>h) (fun _ _=>rfl))
  exact ⟨_,_,hr,bA,.sl (k:=k) (e:=e') (fz:=fz) h1 eC h3 h4 (setRow_heap w k cur _ e' fz h5) (by rw[cC];exact h6)⟩
 ·have hm:Xe vx=0:=by omega
  rw[hm]at q1 q2 q3 q4;have hn:news=[]:=List.eq_nil_of_length_eq_zero af;have hc:Xt s es vx=[]:=List.eq_nil_of_length_eq_zero af;have nf:Xt s es (.sl es b 0 0 0)=[]:=List.eq_nil_of_length_eq_zero af;subst hn;have hr:=Vw (P:=P) (ty:=ty) ht hu hi ad 0 0 ux w q1 (by rw[df];exact q2) (Nat.le_refl _);have xf:s.H b=.cells []:=by
   have di:=hR.h b;rw[h1]at di;cases hh:s.H b with
   | cells cs=>rw[hh]at di;cases di;rfl
   | az kvs dn=>rw[hh]at di;cases di
   | bp kvs bs ck=>rw[hh]at di;cases di
   | iter b0 ck seen=>rw[hh]at di;cases di
   | dK ls=>rw[hh]at iH;exact iH.elim
   | free=>rw[hh]at aO;exact aO.elim
   | dead=>rw[hh]at aO;exact aO.elim
  have hs:s.aH b (.cells (Xt s es (.sl es b 0 0 0)++Xt s es vx))=s:=by
   rw[hc,nf];refine qc (fun _=>rfl) fun j=>?_;rw[FS.a7];split
   ·rename_i h;subst h;rw[xf];rfl
   ·rfl
  rw[hs,hm];exact ⟨_,_,hr,hR,.kz h1 rfl⟩
def Ep (s:FS)(es:Nat)(str:Bool):List AV->Prop
 | [.sl es2 b o n cc,vx]=>es2=es/\o=0/\n*es<=(Yy (s.H b)).length/\zx (s.H b)/\mf s es str vx/\n+Xe vx<=cc
 | _=>False
def Od (es:Nat):List AV->AV
 | [.sl _ b _ n cc,vx]=>.sl es b 0 (n+Xe vx) cc
 | _=>.any
def Er:List AV->Nat
 | .sl _ b _ _ _::_=>b
 | _=>0
theorem Xxh (s:FS)(es es2 b o n cc:Nat)(str:Bool)(vx:AV):Ep s es str [.sl es2 b o n cc,vx]=(es2=es/\o=0/\n*es<=(Yy (s.H b)).length/\zx (s.H b)/\mf s es str vx/\n+Xe vx<=cc):=rfl
theorem Ycl (es es2 b o n cc:Nat)(vx:AV):Od es [.sl es2 b o n cc,vx]=.sl es b 0 (n+Xe vx) cc:=rfl
theorem Ybf (es2 b o n cc:Nat)(r:List AV):Er (.sl es2 b o n cc::r)=b:=rfl
attribute [go_sem] Xxh Ycl Ybf
def IN (s:St)(gl:Nat->AV)(d:Nat)(xs:List TV):bg:=⟨Xf xs,Er ((aC gl s.fs xs).map Qh)::Ec ((aC gl s.fs xs).map Qh),[d],[Er ((aC gl s.fs xs).map Qh)]⟩
def Es (s:St)(gl:Nat->AV)(d es:Nat)(xs:List TV):St:=(s.aH (Er ((aC gl s.fs xs).map Qh)) (.cells (Eb s.fs es ((aC gl s.fs xs).map Qh)))).put d (Od es ((aC gl s.fs xs).map Qh))
def WJ {s:St}{d es jn:Nat}{str:Bool}  (hc:Qq none (aC c.gl s.fs xs))(aS:Ep s.fs es str ((aC c.gl s.fs xs).map Qh)) :
  Kn P c (.pd (some d) (.app es jn str) xs none) s.fs (IN s c.gl d xs) (Es s c.gl d es xs).fs:=by
 intro ops io he;obtain ⟨aV,a8,hd,ys,aD,rfl⟩:=Zj he;obtain ⟨x,y,t,u,e,i,z,rfl,hop,hu,hi,hz,lE,df,rQ,NG⟩:=VE aD;have ea:(aC c.gl s.fs ([x,y].map aP)).map Qh=[Qh (aU c.gl s.fs (aP x)),Qh (aU c.gl s.fs (aP y))]:=rfl;unfold IN Es;rw[ea]at aS ⊢;generalize hvb:Qh (aU c.gl s.fs (aP x))=vb at *
 generalize VH:Qh (aU c.gl s.fs (aP y))=vx at *
 cases vb<;>simp only[Ep]at aS
 rename_i es2 b o n cc;obtain ⟨rfl,rfl,hl,aO,zb,eC⟩:=aS;rw[St.bS,St.cj];simp only[Er,Od,Ec,Eb];refine It (kb:=none) (Ji aV) a8 (by simpa using hd) fun s2 hT hH g a w hR=>?_;have bj:aC c.gl s2 ([x,y].map aP)=aC c.gl s.fs ([x,y].map aP):=Ya hT;have eP:=Yi (hR.ci [x,y]) (by rw[bj];exact hc);rw[bj,ea]at eP;obtain ⟨v1,v2,_⟩:=eP;have tJ:s2.H b=s.fs.H b:=hH b aw;have Ee:∀ b',jZ vx=some b'->s2.H b'=s.fs.H b':=fun b' h=>hH b' (by simp[h]);obtain ⟨v',w',hr,h1,h2⟩:=Xms (P:=P) (ty:=io.type) hR hu NG hi hz df (lE.trans df) v1 v2 (by rw[tJ];exact hl) (by rw[tJ];exact aO) (VF Ee zb) eC;rw[Iw (s:=s.fs) (x:=.sl es2 b 0 n cc) fun b' h=>by cases h;exact tJ,Iw Ee]at h1 h2;refine ⟨g,v',w',?_,h1,h2⟩;unfold execOp;simp only[hop,resolve,invoke,builtin,Sem.run_bind,Sem.run_pure,Result.andThen_ok,map_toArray,map_cons,map_nil,hr]
def Yb9 {s:St}{d es jn:Nat}{str:Bool}  (h:Qq none (aC c.gl s.fs xs)/\Ep s.fs es str ((aC c.gl s.fs xs).map Qh)/\XP P c r0 K (Es s c.gl d es xs)) :
  Yn P c (.pd (some d) (.app es jn str) xs none) r0 K s:=.inl ⟨_,_,WJ h.1 h.2.1,h.2.2⟩
def Xyl {fs:List bg}   {s:St}{d es jn:Nat}{str:Bool}  (h:Qq none (aC c.gl s.fs xs)/\Ep s.fs es str ((aC c.gl s.fs xs).map Qh)/\XD P c anc r0 (IN s c.gl d xs::fs) K (Es s c.gl d es xs)) :
  Zm P c anc (.pd (some d) (.app es jn str) xs none) r0 fs K s:=⟨_,_,WJ h.1 h.2.1,h.2.2⟩
attribute [go_sem] Es IN
def Xuv {xs:List Operand}(h:Xs P o=some (.HV t,xs)):∃ x,o.op=.call ⟨.builtin .clear,⟨[x]⟩,⟨[t]⟩⟩/\xs=[x]:=by
 unfold Xs at h
 repeat' split at h
 all_goals first
  | (cases h;exact ⟨_,by assumption,rfl⟩)
  | (simp at h;done)
  | (cases h;done)
  | (simp[Option.map_eq_some_iff]at h;done)
def Ce (P:Program)(t:TypeId)(es:Nat):Prop:=∃ e i z,P.underlying t=some (.slice e)/\P.info? e=some i/\i.zero=some z/\z.cells.size=es/\z.cells.all (·.oneCell')=true
def WK (P:Program)(t:TypeId)(es:Nat):Bool:=match P.underlying t with
 | some (.slice e)=>match P.info? e with
  | some i=>match i.zero with
   | some z=>decide (z.cells.size=es)&&z.cells.all (·.oneCell')
   | none=>false
  | none=>false
 | _=>false
def Oe {es:Nat}(h:WK P t es=true):Ce P t es:=by
 unfold WK at h;split at h
 ·split at h
  ·split at h
   ·rw[Bool.and_eq_true,decide_eq_true_eq]at h;exact ⟨_,_,_,by assumption,by assumption,by assumption,h.1,h.2⟩
   ·cases h
  ·cases h
 ·cases h
def IP (s:FS)(es:Nat):List AV->Prop
 | [.sl es2 b _ n cc]=>es2=es/\zx (s.H b)/\n<=cc
 | _=>False
def Cf:List AV->Nat
 | .sl _ b _ _ _::_=>b
 | _=>0
def IQ (s:FS):List AV->List AV
 | .sl _ b off _ _::_=>(Yy (s.H b)).take off
 | _=>[]
theorem Yd3 (s:FS)(es es2 b o n cc:Nat):IP s es [.sl es2 b o n cc]=(es2=es/\zx (s.H b)/\n<=cc):=rfl
theorem Yeh (es2 b o n cc:Nat)(r:List AV):Cf (.sl es2 b o n cc::r)=b:=rfl
theorem Yez (s:FS)(es2 b o n cc:Nat)(r:List AV):IQ s (.sl es2 b o n cc::r)=(Yy (s.H b)).take o:=rfl
attribute [go_sem] Yd3 Yeh Yez
def Xtr {z:Array Value}(h:z.all (·.oneCell')=true)(n:Nat):∀ v ∈ (Builtin.zeroCells z n).toList,v.oneCell'=true:=by
 intro v hv;unfold Builtin.zeroCells at hv;simp only[Array.toList_map,mem_map]at hv;obtain ⟨i,hi,rfl⟩:=hv;have nV:i<n*z.size:=by simpa using hi
 have hz:0<z.size:=by
  rcases Nat.eq_zero_or_pos z.size with h0|h0
  ·rw[h0]at nV;omega
  ·exact h0
 have hm:=Nat.mod_lt i hz;rw[getElem!_pos z _ hm];exact Array.all_eq_true.1 h _ hm
def Xwo {s:St}  {es:Nat}  (hz:Ce P t es)(hc:Qq none (aC c.gl s.fs xs))(aS:IP s.fs es ((aC c.gl s.fs xs).map Qh)) :
  Kn P c (.pd none (.HV t) xs none) s.fs ⟨Xf xs,[Cf ((aC c.gl s.fs xs).map Qh)],[],[Cf ((aC c.gl s.fs xs).map Qh)]⟩ (s.aH (Cf ((aC c.gl s.fs xs).map Qh)) (.cells (IQ s.fs ((aC c.gl s.fs xs).map Qh)))).fs:=by
 intro ops io he;obtain ⟨aV,a8,hd,ys,aD,rfl⟩:=Zj he;obtain ⟨x,hop,rfl⟩:=Xuv aD;obtain ⟨e,i,z,hu,hi,hzi,lE,qV⟩:=hz;have j7:(aC c.gl s.fs ([x].map aP)).map Qh=[Qh (aU c.gl s.fs (aP x))]:=rfl;rw[j7]at aS ⊢;generalize VH:Qh (aU c.gl s.fs (aP x))=vx at *
 cases vx<;>simp only[IP]at aS
 rename_i es2 b off n cc;obtain ⟨rfl,iH,hn⟩:=aS;rw[St.cj];simp only[Cf,IQ];refine ⟨fun i _=>rfl,fun i hi=>by rw[FS.a7,aa (fun e=>hi (by simp[e]))],fun s2 hT hH g a w hR K Q' hK=>Za (Ji aV) ?_⟩;have bj:aC c.gl s2 ([x].map aP)=aC c.gl s.fs ([x].map aP):=Ya hT;have eP:=Yi (hR.ci [x]) (by rw[bj];exact hc);rw[bj,j7]at eP;obtain ⟨hx,_⟩:=eP;have tJ:s2.H b=s.fs.H b:=hH b aw;rw[<- tJ]at iH hK;have aO:=WH iH;have hzv:(zeroValue e).run P w=.ok z w:=by simp[zeroValue,typeInfo,hi,hzi]
 have Et:∀ n,(Builtin.zeroCells z.cells n).toList.length=n*es2:=fun n=>by rw[Array.length_toList,size_zeroCells,lE]
 have Eu:∃ w',(execOp a.eval io).run P w=.ok (.value (.tuple #[])) w'/\R c g (s2.aH b (.cells ((Yy (s2.H b)).take off))) a w':=by
  have di:=hR.h b;rcases qM hx with ⟨k,cap,e',cur,fz,e1,h1,h2,h3,h4,h5,h6⟩|⟨ad,e1,h1,rfl,rfl⟩
  ·rw[h1]at di;have dG:=aO;have iT:=tJ;clear tJ iT hK;cases hh:s2.H b with
   | az kvs dn=>rw[hh]at di;cases di with|az bL=>rw[h5]at bL;cases bL
   | bp kvs bs ck=>rw[hh]at di;cases di with|bp bL=>rw[h5]at bL;cases bL
   | iter b0 ck seen=>rw[hh]at di;cases di with|iter bL=>rw[h5]at bL;cases bL
   | dK ls=>rw[hh]at iH;exact iH.elim
   | free=>rw[hh]at aO;exact aO.elim
   | dead=>rw[hh]at aO;exact aO.elim
   | cells cs =>
   rw[hh]at di;cases di with
   | cells bL lX tI pW nK =>
   rw[h5]at bL;cases bL;have hmul:n*es2<=cap*es2:=Nat.mul_le_mul_right _ af;obtain ⟨w',eT,r1,r2,r3,r4,r5⟩:=MJ (P:=P) off (Builtin.zeroCells z.cells n).toList 0 w cur h5 (Xtr qV n) (by rw[Et];omega) nK;have hrun:(execOp a.eval io).run P w=.ok (.value (.tuple #[])) w':=by
    unfold execOp;simp only[hop,resolve,invoke,builtin,Sem.run_bind,Sem.run_pure,Result.andThen_ok,map_toArray,map_cons,map_nil,e1];cases n with
    | zero =>
     have:(Builtin.zeroCells z.cells 0).toList=[]:=List.eq_nil_of_length_eq_zero (by rw[Et];omega);rw[this]at r1;have hw:w'=w:=by
      have:(storeCells ⟨k,off,none⟩ [] 0).run P w=.ok () w:=rfl;rw[this]at r1;cases r1;rfl
     subst hw;simp[Builtin.clear_,run_underlying hu]
    | succ n=>simp[Builtin.clear_,run_underlying hu,hzv,r1]
   have wX:Qm c g s2 k:=.inr ⟨b,dG,h1⟩;refine ⟨w',hrun,hR.setBlock h1 dG trivial r5 (.cells r2 (by rw[r3];simp[Yy];omega) (fun j hj=>?_) (fun j hj=>?_) (by rw[r3];exact nK))⟩
   ·have c4:j < cs.length∧j < off:=by simp[Yy]at hj;omega
    rw[r4 j,aa af];exact tI j c4.1
   ·have c4:j < cs.length∧j < off:=by simp[Yy]at hj;omega
    rw[r4 j,aa af];have:((Yy (Bk.cells cs)).take off).getD j .any=cs.getD j .any:=by simp[Yy,List.getD,List.getElem?_take,c4.2]
    rw[this];exact (pW j c4.1).mono (r5.weak fun i hi=>hi ▸ wX) (fun _ _ h=>h) (fun _ _=>rfl)
  ·rw[h1]at di;have xf:s2.H b=.cells []:=by
    cases hh:s2.H b with
    | cells cs=>rw[hh]at di;cases di;rfl
    | az kvs dn=>rw[hh]at di;cases di
    | bp kvs bs ck=>rw[hh]at di;cases di
    | iter b0 ck seen=>rw[hh]at di;cases di
    | dK ls=>rw[hh]at iH;exact iH.elim
    | free=>rw[hh]at aO;exact aO.elim
    | dead=>rw[hh]at aO;exact aO.elim
   have hs:s2.aH b (.cells ((Yy (s2.H b)).take off))=s2:=by
    refine qc (fun _=>rfl) fun j=>?_;rw[FS.a7];split
    ·rename_i h;subst h;rw[xf];simp[Yy]
    ·rfl
   rw[hs];refine ⟨w,?_,hR⟩;unfold execOp;simp only[hop,resolve,invoke,builtin,Sem.run_bind,Sem.run_pure,Result.andThen_ok,map_toArray,map_cons,map_nil,e1];cases ad<;>simp[Builtin.clear_,run_underlying hu]
 obtain ⟨w',hr,bc⟩:=Eu;unfold Oper.wp;rw[hr];show K (a.put io.dst (.tuple #[])) w';rw[a8];refine hK g a w' ?_;rw[DI];exact bc
def IS {s:St}  {es:Nat}  (hz:Ce P t es)(h:Qq none (aC c.gl s.fs xs)/\IP s.fs es ((aC c.gl s.fs xs).map Qh)/\XP P c r0 K (s.aH (Cf ((aC c.gl s.fs xs).map Qh)) (.cells (IQ s.fs ((aC c.gl s.fs xs).map Qh))))) :
  Yn P c (.pd none (.HV t) xs none) r0 K s:=.inl ⟨_,_,Xwo hz h.1 h.2.1,h.2.2⟩
end
def Yjl {p q:Prop}(k:q)(h:cV q->p:=by (intro zk;((first|apply Yb9|apply Xyl);(refine XG ?_;((try with_reducible and_intros);all_goals try first|refine zm ?_|exact CL)));exact zk.it)):p:=h ⟨k⟩
def WL {F:Prop}{p q:Prop}(f:F)(k:q)(h:F->cV q->p:=by (intro aQ zk;exact Yjl zk.it)):p:=h f ⟨k⟩
def Ew (P:Program)(kt:TypeId):Bool:=match P.underlying kt with
 | some (.struct _)=>true
 | some (.array _ _)=>true
 | _=>false
def Wx (wide:Bool):AV->Option (List AV)
 | .agg cs=>bif wide then some cs else none
 | x=>bif wide then none else some [x]
def Zo (wide:Bool)(ks:List SK)(x:AV):Prop:=(Wx wide x).map (List.map Zw)=some (ks.map some)
structure n9 (P:Program)(kt:TypeId)(wide:Bool)(ks:List SK):Prop where
 sh:kK P 100 kt=some ks
 wd:Ew P kt=wide
 ns:∀ k ∈ ks,k≠.str
section
variable {P:Program}{g:Nat->GM}{W:Nat->Prop}{w:World}
def Og (hx:Zo wide ks x):∃ cs,Wx wide x=some cs/\cs.map Zw=ks.map some:=by
 unfold Zo at hx;cases h:Wx wide x with
 | none=>rw[h]at hx;cases hx
 | some cs=>rw[h]at hx;exact ⟨cs,rfl,by simpa using hx⟩
def WM (h:Wx false x=some cs):cs=[x]:=by cases x<;>simp[Wx]at h<;>exact h.symm
def WN (h:Wx true x=some cs):x=.agg cs:=by cases x<;>simp[Wx]at h;rw[h]
def Xwh (hx:Wx wide x=some cs)(hy:Wx wide y=some cs):x=y:=by
 cases wide with
 | true=>rw[WN hx,WN hy]
 | false=>have h1:=WM hx;have h2:=WM hy;rw[h1]at h2;injection h2
theorem key_holds (hT:n9 P kt wide ks)   (hx:Zo wide ks x)(hv:VR g W w x v) :
  ∃ cs us,Wx wide x=some cs/\cs.map Zw=ks.map some/\Ug P kt v us/\us.length=cs.length/\∀ j,j<cs.length->VR g W w (cs.getD j .any) (us.getD j undef):=by
 obtain ⟨cs,h1,h2⟩:=Og hx;have hw:=hT.wd;unfold Ew at hw;cases wide with
 | true =>
  cases x<;>simp[Wx]at h1
  subst h1;obtain ⟨us,rfl,q1,q2,q3⟩:=Ui hv;refine ⟨_,us.toList,rfl,h2,?_,by simpa using q1,fun j hj=>by have:=q3 j hj;simpa [Array.getD_eq_getD_getElem?,List.getD] using this⟩;unfold Ug;split<;>simp_all
 | false =>
  have tI:cs=[x]:=by cases x<;>simp[Wx]at h1<;>exact h1.symm
  refine ⟨cs,[v],h1,h2,?_,by rw[tI];rfl,fun j hj=>?_⟩
  ·unfold Ug;split<;>simp_all
  ·rw[tI]at hj ⊢;simp at hj;subst hj;exact hv
def Ygf (hT:n9 P kt wide ks)   (hx:Zo wide ks x)(hy:Zo wide ks y)(hu:VR g W w x u)(hv:VR g W w y v):∃ r:Bool,(∀ w',(Op.equal kt u v).run P w'=.ok r w')/\(r=true ↔ x=y):=by
 obtain ⟨cs,us,x1,x2,x3,x4,x5⟩:=key_holds hT hx hu;obtain ⟨ds,vs,y1,y2,y3,y4,y5⟩:=key_holds hT hy hv;have kl:cs.length=ks.length:=by simpa using congrArg List.length x2
 have kl':ds.length=ks.length:=by simpa using congrArg List.length y2
 refine ⟨Ju ks us vs,fun w'=>Io (P:=P) 9900 100 kt ks hT.sh w' _ _ _ _ x3 y3 af af (B0 ks cs _ x2 x4 x5) (B0 ks ds _ y2 y4 y5),?_⟩;rw[Nz ks cs ds _ _ x2 y2 x4 y4 x5 y5];exact ⟨fun h=>by subst h;exact Xwh x1 y1,fun h=>by subst h;rw[x1]at y1;injection y1⟩
def WO (hx:Zo wide ks x)(hu:VR g W w x u)(hv:VR g W w x v):u=v:=by
 obtain ⟨cs,h1,h2⟩:=Og hx;have one:∀ {y:AV} {k:SK} {a b:Value},Zw y=some k->VR g W w y a->VR g W w y b->a=b:=by
  intro y k a b hk ha hb;cases y<;>simp[Zw]at hk<;>cases ha<;>cases hb<;>rfl
 have all:∀ c ∈ cs,∃ k,Zw c=some k:=fun c hc=>by
  have:Zw c ∈ ks.map some:=by rw[<- h2];exact List.mem_map_of_mem hc
  obtain ⟨k,_,hk⟩:=mem_map.1 this;exact ⟨k,hk.symm⟩
 cases x with
 | agg ds =>
  cases wide<;>simp[Wx]at h1
  subst h1;obtain ⟨a,rfl,a1,a2,a3⟩:=Ui hu;obtain ⟨b,rfl,b1,b2,b3⟩:=Ui hv;congr 1;apply Array.ext
  ·rw[a1,b1]
  ·intro j hj eI;have oc:j < ds.length:=by omega
   obtain ⟨k,hk⟩:=all (ds.getD j .any) (by simp[List.getD,oc]);have:=one hk (a3 j oc) (b3 j oc);simpa [Array.getD_eq_getD_getElem?,hj,eI] using this
 | _ =>
  cases wide<;>simp[Wx]at h1
  subst h1;obtain ⟨k,hk⟩:=all _ (List.mem_singleton.2 rfl);exact one hk hu hv
def Oh (em:Bool)(d:Nat):∀ (m:Nat) (t:TypeId) (ks:List SK),kK P m t=some ks->∀ (w:World) (x:Value) (us:List Value),Ug P t x us->us.length=ks.length->lD ks us->(Instr.checkKey em (d+m) t x).run P w=.ok () w
 | 0,_,_,h=>by cases h
 | m+1,t,ks,h=>by
  intro w x us hx lu ou;unfold kK at h;cases hu:P.underlying t with
  | none=>simp[hu]at h
  | some kd =>
   rw[hu]at h;simp only[Ug,hu]at hx;rw[show d+(m+1)=(d+m)+1 from rfl];cases kd<;>simp only[Option.some.injEq,reduceCtorEq]at h hx
   case bool=>subst h hx;obtain ⟨⟨a,rfl⟩,_⟩:=ou;simp[Instr.checkKey,run_underlying hu]
   case int k=>subst h hx;obtain ⟨⟨a,rfl⟩,_⟩:=ou;simp[Instr.checkKey,run_underlying hu]
   case string=>subst h hx;obtain ⟨⟨a,rfl⟩,_⟩:=ou;simp[Instr.checkKey,run_underlying hu]
   case struct fs =>
    subst hx;split at h
    ·cases h
    ·rw[Instr.checkKey];simp only[Sem.run_bind,run_underlying hu,Result.andThen_ok];rw[← Array.forIn_toList]
     have key:∀ (L:List Field) (o:Nat) (ks:List SK),BX (kK P m) P o L=some ks→lD ks (us.toArray.toList.drop o) →
       (forIn L PUnit.unit fun f r=>do
        if f.name ≠ "_" then do
         let v <- part f.type us.toArray f.offset
         Instr.checkKey em (d+m) f.type v
         pure (ForInStep.yield PUnit.unit)
        else pure (ForInStep.yield PUnit.unit):Sem PUnit).run P w=.ok PUnit.unit w:=by
      intro L
      induction L with
      | nil=>intro o ks _ _;simp
      | cons f L ih =>
       intro o ks h hx;unfold BX at h;split at h
       ·cases h
       ·rename_i hn;simp only[not_or,Decidable.not_not]at hn;obtain ⟨fq,ft,nZ⟩:=hn;have oW:=Im nZ;simp only[Option.bind_eq_some_iff]at h;obtain ⟨k1,h1,h2⟩:=h;split at h2
        ·rename_i hc;simp only[Option.map_eq_some_iff]at h2;obtain ⟨k2,h2,rfl⟩:=h2;obtain ⟨x1,x2⟩:=wU _ _ _ hx;obtain ⟨a,pa,ha⟩:=BY w h1 oW hc x1;have lx:=wV _ _ x1;have hr:=Oh em d m _ _ h1 w a _ ha (by rw[List.length_take];omega) (za _ _ x1);rw[List.drop_drop]at x2;simp only[List.forIn_cons,Sem.run_bind,fq,ne_eq,not_false_eq_true,if_true,ft,pa,hr,Result.andThen_ok,Sem.run_pure];exact ih _ _ h2 x2
        ·cases h2
     have h3:=key fs.toList 0 ks h (by simpa using ou);rw[h3];rfl
   case array n e =>
    subst hx;split at h
    ·cases h
    ·rename_i aK;obtain ⟨i,hi⟩:=Option.isSome_iff_exists.1 (Im aK);simp only[Option.bind_eq_some_iff]at h;obtain ⟨k1,h1,h2⟩:=h;split at h2
     ·rename_i hc;cases h2;rw[Instr.checkKey];simp only[Sem.run_bind,run_underlying hu,Result.andThen_ok];simp only[Std.Legacy.Range.forIn_eq_forIn_range',Std.Legacy.Range.size,Nat.sub_zero,Nat.add_one_sub_one,Nat.div_one]
      have key:∀ (n i0:Nat),lD (List.replicate n k1).flatten (us.toArray.toList.drop (i0 * k1.length)) →
        (forIn (List.range' i0 n) PUnit.unit fun i r=>do
         let z <- sizeOf e
         let v <- part e us.toArray (i*z)
         Instr.checkKey em (d+m) e v
         pure (ForInStep.yield PUnit.unit):Sem PUnit).run P w=.ok PUnit.unit w:=by
       intro n
       induction n with
       | zero=>intro i0 _;simp
       | succ n ih =>
        intro i0 hx;rw[List.replicate_succ,List.flatten_cons]at hx;obtain ⟨x1,x2⟩:=wU _ _ _ hx;obtain ⟨a,pa,ha⟩:=BY w h1 (by rw[hi];rfl) hc x1;have lx:=wV _ _ x1;have hr:=Oh em d m _ _ h1 w a _ ha (by rw[List.length_take];omega) (za _ _ x1);have e1:i0*k1.length+k1.length=(i0+1)*k1.length:=by rw[Nat.add_mul,Nat.one_mul]
        rw[List.drop_drop,e1]at x2;rw[List.range'_succ];simp only[List.forIn_cons,Sem.run_bind,run_sizeOf w hi,hc,pa,hr,Result.andThen_ok,Sem.run_pure];exact ih (i0+1) x2
      have h3:=key n 0 (by simpa using ou);rw[h3];rfl
     ·cases h2
def IT (hT:n9 P kt wide ks)   (hx:Zo wide ks x)(hv:VR g W w x v)(em:Bool)(w':World):(Instr.checkKey em 10000 kt v).run P w'=.ok () w':=by
 obtain ⟨cs,us,x1,x2,x3,x4,x5⟩:=key_holds hT hx hv;have kl:cs.length=ks.length:=by simpa using congrArg List.length x2
 exact Oh em 9900 100 kt ks hT.sh w' v us x3 af (B0 ks cs _ x2 x4 x5)
open Classical in
noncomputable def fu (kvs:List (AV×AV))(x:AV):Option Nat:=kvs.findIdx? fun p=>decide (p.1=x)
def WQ {kt:TypeId}{wide:Bool}{ks:List SK}(hT:n9 P kt wide ks){x:AV}{v:Value}(hx:Zo wide ks x)(hv:VR g W w x v):∀ (kvs:List (AV×AV)) (es:List MapEntry) (i:Nat),es.length=kvs.length->(∀ p ∈ kvs,Zo wide ks p.1) ->
  (∀ j,j<kvs.length->VR g W w (kvs.getD j (.any,.any)).1 (es.getD j default).key)->∀ w',(Instr.findAsking kt v es i).run P w'=.ok ((fu kvs x).map fun j=>(i+j,(es.getD j default).val)) w'
 | [],[],i,_,_,_,w'=>by simp[Instr.findAsking,fu]
 | [],_::_,_,h,_,_,_=>by simp at h
 | _::_,[],_,h,_,_,_=>by simp at h
 | p::kvs,e::es,i,hl,hk,eP,w'=>by
  have h0:=eP 0 aw;simp only[List.getD_cons_zero]at h0;obtain ⟨r,hr,si⟩:=Ygf hT hx (hk p aw) hv h0;have ih:=WQ hT hx hv kvs es (i+1) (by simpa using hl) (fun q hq=>hk q (by simp[hq])) (fun j hj=>by simpa using eP (j+1) (by simp;omega)) w';simp only[Instr.findAsking,Sem.run_bind,hr,Result.andThen_ok];unfold fu at ih ⊢;rw[List.findIdx?_cons];cases r with
  | true =>
   have:p.1=x:=(si.1 rfl).symm;simp[this]
  | false =>
   have cb:¬ p.1=x:=fun h=>by have:=si.2 h.symm;cases this
   simp only[Bool.false_eq_true,if_false,cb,decide_false];rw[ih];generalize List.findIdx? _ kvs=o;cases o with
   | none=>rfl
   | some j=>simp only[Option.map_some,List.getD_cons_succ];rw[show i+1+j=i+(j+1) by omega]
def WR {kt:TypeId}{ks:List SK}{d:TypeDesc}(hu:P.underlying kt=some d)(hT:n9 P kt false ks){x:AV}{v:Value}(hx:Zo false ks x)(hv:VR g W w x v):∀ (kvs:List (AV×AV)) (es:List MapEntry) (i:Nat),es.length=kvs.length->(∀ p ∈ kvs,Zo false ks p.1) ->
  (∀ j,j<kvs.length->VR g W w (kvs.getD j (.any,.any)).1 (es.getD j default).key)->Instr.findNow d v es i=some ((fu kvs x).map fun j=>(i+j,(es.getD j default).val))
 | [],[],i,_,_,_=>by simp[Instr.findNow,fu]
 | [],_::_,_,h,_,_=>by simp at h
 | _::_,[],_,h,_,_=>by simp at h
 | p::kvs,e::es,i,hl,hk,eP=>by
  have h0:=eP 0 aw;simp only[List.getD_cons_zero]at h0;have ih:=WR hu hT hx hv kvs es (i+1) (by simpa using hl) (fun q hq=>hk q (by simp[hq])) (fun j hj=>by simpa using eP (j+1) (by simp;omega));have cW:∃ r:Bool,Instr.sameNow d v e.key=some r/\(r=true ↔ p.1=x):=by
   obtain ⟨cs,us,x1,x2,x3,x4,x5⟩:=key_holds hT hx hv;obtain ⟨ds,vs,y1,y2,y3,y4,y5⟩:=key_holds hT (hk p aw) h0;have zy:=hT.sh;have zA:=hT.wd;unfold Ew at zA;unfold kK at zy;rw[hu]at zy zA;simp only[Ug,hu]at x3 y3;have DX:Wx false p.1=some [p.1]:=by revert y1;cases p.1<;>simp[Wx]
   have tQ:Wx false x=some [x]:=by revert x1;cases x<;>simp[Wx]
   rw[tQ]at x1;rw[DX]at y1;cases x1;cases y1;cases d<;>simp only[Option.some.injEq,reduceCtorEq]at zy zA
   case bool =>
    subst zy;simp at x2 y2;cases x<;>simp[Zw]at x2
    cases hp:p.1<;>rw[hp]at y2 h0<;>simp[Zw]at y2
    cases hv;cases hq:e.key<;>rw[hq]at h0<;>cases h0
    refine ⟨_,rfl,?_⟩;simp;exact eq_comm
   case int k =>
    subst zy;simp at x2 y2;cases x<;>simp[Zw]at x2
    cases hp:p.1<;>rw[hp]at y2 h0<;>simp[Zw]at y2
    subst x2 y2;cases hv;cases hq:e.key<;>rw[hq]at h0<;>cases h0
    refine ⟨_,by simp only[Instr.sameNow,if_true];rfl,?_⟩;simp;exact eq_comm
   case string=>exact (hT.ns _ (by rw[<- zy];simp) rfl).elim
   all_goals first|(cases zy;done)|(simp at zA;done)
  obtain ⟨r,hr,si⟩:=cW;unfold Instr.findNow;rw[hr];unfold fu at ih ⊢;rw[List.findIdx?_cons];cases r with
  | true=>simp[si.1 rfl]
  | false =>
   have cb:¬ p.1=x:=fun h=>by have:=si.2 h;cases this
   simp only[Bool.false_eq_true,if_false,cb,decide_false];rw[ih];generalize List.findIdx? _ kvs=o;cases o with
   | none=>rfl
   | some j=>simp only[Option.map_some,List.getD_cons_succ];rw[show i+1+j=i+(j+1) by omega]
def IU {kt:TypeId}{wide:Bool}{ks:List SK}(hT:n9 P kt wide ks){x:AV}{v:Value}(hx:Zo wide ks x)(hv:VR g W w x v){kvs:List (AV×AV)}{es:List MapEntry}(hl:es.length=kvs.length)(hk:∀ p ∈ kvs,Zo wide ks p.1)
  (eP:∀ j,j<kvs.length->VR g W w (kvs.getD j (.any,.any)).1 (es.getD j default).key) (w':World):(Instr.findKey kt v es).run P w'=.ok ((fu kvs x).map fun j=>(j,(es.getD j default).val)) w':=by
 cases wide with
 | true =>
  have zA:=hT.wd;unfold Ew at zA;rw[run_findKey_eq w' (by split at zA<;>simp_all) v es,WQ hT hx hv kvs es 0 hl hk eP w'];simp
 | false =>
  cases hu:P.underlying kt with
  | none=>have:=hT.sh;unfold kK at this;rw[hu]at this;cases this
  | some d =>
   rw[MapKept.run_findKey hu (WR hu hT hx hv kvs es 0 hl hk eP)];simp
def WS (Oi:∀ k ∈ ks,k≠.str)   (hx:Zo wide ks x)(hv:VR g W w x v):Instr.sameBits 10000 v v=true:=by
 obtain ⟨cs,h1,h2⟩:=Og hx;have all:∀ c ∈ cs,∃ k,Zw c=some k/\k≠.str:=fun c hc=>by
  have:Zw c ∈ ks.map some:=by rw[<- h2];exact List.mem_map_of_mem hc
  obtain ⟨k,oZ,hk⟩:=mem_map.1 this;exact ⟨k,hk.symm,Oi k oZ⟩
 have one:∀ {y:AV} {k:SK} {a:Value} (n:Nat),Zw y=some k/\k≠.str->VR g W w y a->Instr.sameBits n a a=true:=by
  rintro y k a n ⟨hk,hk2⟩ ha;cases y<;>simp[Zw]at hk<;>(try (exact (hk2 hk.symm).elim))<;>cases ha<;>cases n<;>simp[Instr.sameBits]
 cases x with
 | agg ds =>
  cases wide<;>simp[Wx]at h1
  subst h1;obtain ⟨a,rfl,a1,a2,a3⟩:=Ui hv;show (a.size==a.size&&(a.toList.zip a.toList).all fun (x,y)=>Instr.sameBits 9999 x y)=true;simp only[beq_self_eq_true,Bool.true_and,all_eq_true];rintro ⟨u1,u2⟩ hm;obtain ⟨j,hj,he⟩:=List.getElem_of_mem hm;simp at hj;simp only[List.getElem_zip,Prod.mk.injEq]at he;obtain ⟨e1,e2⟩:=he;subst e1 e2;have oc:j<ds.length:=by omega
  obtain ⟨k,hk⟩:=all (ds.getD j .any) (by simp[List.getD,oc]);have:=one 9999 hk (a3 j oc);simpa [Array.getD_eq_getD_getElem?,hj] using this
 | _ =>
  cases wide<;>simp[Wx]at h1
  subst h1;obtain ⟨k,hk⟩:=all _ (List.mem_singleton.2 rfl);exact one _ hk hv
end
def WU (P:Program)(t:TypeId):Option (Bool×List SK×AV):=match P.underlying t with
 | some (.map kt et)=>match kK P 100 kt with
  | some ks=>if ks.all (fun k=>match k with|.str=>false|_=>true) then ((P.info? et).bind (·.zero)).map fun z=>(Ew P kt,ks,uM z) else none
  | none=>none
 | _=>none
structure cu (P:Program)(t:TypeId)(wide:Bool)(ks:List SK)(z:AV):Prop where
 of:∃ kt et zv,P.underlying t=some (.map kt et)/\n9 P kt wide ks/\(∀ w,(zeroValue et).run P w=.ok zv w)/\uM zv=z
def cu.mk' {P:Program}     (h:WU P t=some (wide,ks,z)):cu P t wide ks z:=by
 unfold WU at h;split at h
 ·rename_i kt et hu;split at h
  ·rename_i ks' ei;split at h
   ·rename_i Oi;simp only[Option.map_eq_some_iff,Prod.mk.injEq]at h;obtain ⟨zv,hz,rfl,rfl,rfl⟩:=h;refine ⟨kt,et,zv,hu,⟨ei,rfl,fun k hk e=>?_⟩,fun w=>?_,rfl⟩
    ·have:=all_eq_true.1 Oi k hk;subst e;cases this
    ·cases hi:P.info? et with
     | none=>rw[hi]at hz;cases hz
     | some i=>rw[hi]at hz;simp at hz;simp[zeroValue,typeInfo,hi,hz]
   ·cases h
  ·cases h
 ·cases h
noncomputable def Kg (kvs:List (AV×AV))(x z:AV):AV:=match fu kvs x with
 | some i=>(kvs.getD i (.any,.any)).2
 | none=>z
noncomputable def Cg (kvs:List (AV×AV))(x:AV):Bool:=(fu kvs x).isSome
noncomputable def Jy (kvs:List (AV×AV))(x v:AV):List (AV×AV):=match fu kvs x with
 | some i=>kvs.set i (x,v)
 | none=>kvs++[(x,v)]
noncomputable def zB (kvs:List (AV×AV))(x:AV):List (AV×AV):=match fu kvs x with
 | some i=>kvs.eraseIdx i
 | none=>kvs
noncomputable def qg (kvs:List (AV×AV))(x z:AV):List (AV×AV):=match fu kvs x with
 | some _=>kvs
 | none=>kvs++[(x,z)]
noncomputable def mZ (kvs:List (AV×AV))(x:AV):Nat:=(fu kvs x).getD kvs.length
def Wt (wide:Bool)(ks:List SK)(kvs:List (AV×AV)):Prop:=∀ p ∈ kvs,Zo wide ks p.1
def Ci (h:fu kvs x=some i):i<kvs.length/\(kvs.getD i (.any,.any)).1=x:=by
 unfold fu at h;obtain ⟨hi,h1,_⟩:=List.findIdx?_eq_some_iff_getElem.1 h;refine ⟨hi,?_⟩;have e:kvs.getD i (.any,.any)=kvs[i]:=by simp[List.getD,hi]
 rw[e];exact @of_decide_eq_true _ (Classical.propDecidable _) h1
section
variable {P:Program}{c:Cx}{ops:Array Oper}{io:Oper}{g:Nat->GM}{s:FS}{a:Act}{w:World}
def zD (hR:R c g s a w)    (hb:s.H b=.az kvs dn)(hg:g b=.re k):∃ es clock,w.heap[k]?=some (.map es clock)/\es.size=kvs.length /\
  (∀ j,j<kvs.length->VR g (Qm c g s) w (kvs.getD j (.any,.any)).1 (es.getD j default).key)/\(∀ j,j<kvs.length->VR g (Qm c g s) w (kvs.getD j (.any,.any)).2 (es.getD j default).val) /\
  (∀ j,j<es.size->(es.getD j default).born<clock)/\(∀ i j,i<j->j<es.size->(es.getD i default).born<(es.getD j default).born)/\(dn=true->(∀ j,j<es.size->(es.getD j default).born=j)/\clock=es.size):=by
 have:=hR.h b;rw[hb,hg]at this;cases this with
 | az h1 h2 h3 h4 h5 h6 h7=>exact ⟨_,_,h1,h2,h3,h4,h5,h6,h7⟩
def tS:es.toList.getD j default=es.getD j default:=by simp[Array.getD_eq_getD_getElem?,List.getD]
def zE {o:Obj}   (hk:w.heap[k]?=some (.map es clock)):(setObj k o).run P w=.ok () { w with heap:=w.heap.setIfInBounds k o }:=by
 simp[setObj,Sem.run,hk]
def WV {es es':Array MapEntry}{clock clock':Nat}(hk:w.heap[k]?=some (.map es clock)):Fr w { w with heap:=w.heap.setIfInBounds k (.map es' clock') } (fun i=>i=k) :=
 ⟨rfl,rfl,rfl,by simp,fun i _ cb=>by simp only[Array.getElem?_setIfInBounds];rw[aa fun e=>cb e.symm],fun i cur e fz hi=>by
  by_cases h:i=k
  ·subst h;rw[hk]at hi;cases hi
  ·exact ⟨cur,by simp only[Array.getElem?_setIfInBounds];rw[aa fun e=>h e.symm];exact hi,rfl⟩⟩
def Xmh {o o':Obj}(hk:w.heap[k]?=some o):({ w with heap:=w.heap.setIfInBounds k o' }:World).heap[k]?=some o':=by
 have:=Wn hk;simp[this]
def R.kR (hR:R c g s a w){b k:Nat}{kvs kvs':List (AV×AV)}{dn dn':Bool}{es es':Array MapEntry}{clock clock':Nat}(hb:s.H b=.az kvs dn)(hg:g b=.re k)(hk:w.heap[k]?=some (.map es clock))(hs:es'.size=kvs'.length)
  (h1:∀ j,j<kvs'.length->VR g (Qm c g s) w (kvs'.getD j (.any,.any)).1 (es'.getD j default).key) (h2:∀ j,j<kvs'.length->VR g (Qm c g s) w (kvs'.getD j (.any,.any)).2 (es'.getD j default).val)
  (h3:∀ j,j<es'.size->(es'.getD j default).born<clock') (h4:∀ i j,i<j->j<es'.size->(es'.getD i default).born<(es'.getD j default).born) (h5:dn'=true->(∀ j,j<es'.size->(es'.getD j default).born=j)/\clock'=es'.size) :
  R c g (s.aH b (.az kvs' dn')) a { w with heap:=w.heap.setIfInBounds k (.map es' clock') }:=by
 have aO:(s.H b).live:=by rw[hb];trivial
 have hf:=WV (es':=es') (clock':=clock') hk;have wX:Qm c g s k:=.inr ⟨b,aO,hg⟩;have hm:∀ {x v},VR g (Qm c g s) w x v->VR g (Qm c g s) { w with heap:=w.heap.setIfInBounds k (.map es' clock') } x v:=fun h=>h.mono (hf.weak fun i hi=>hi ▸ wX) (fun _ _ h=>h) (fun _ _=>rfl);exact hR.setBlock hg aO trivial hf (.az (Xmh hk) hs (fun j hj=>hm (h1 j hj)) (fun j hj=>hm (h2 j hj)) h3 h4 h5)
def R.gI (hR:R c g s a w)    (hb:s.H b=.az kvs dn):R c g (s.aH b (.az kvs false)) a w:=by
 have h:=hR.h b;rw[hb]at h;generalize hg:g b=m at h;cases h with
 | az h1 h2 h3 h4 h5 h6 h7 =>
  exact hR.setBlock hg (by rw[hb];trivial) trivial (Fr.refl _ _) (.az h1 h2 h3 h4 h5 h6 fun h=>by cases h)
def Yb4 (hR:R c g s a w)     (hT:cu P t wide ks z)    (hb:s.H b=.az kvs dn)  {m v:Value}(hm:VR g (Qm c g s) w (.mp b) m)(hx:VR g (Qm c g s) w x v)(lF:Zo wide ks x)(ei:Wt wide ks kvs)(ok:Bool) :
  ∃ r,(Instr.lookup t m v ok).run P w=.ok r w/\VR g (Qm c g s) w (bif ok then .aR [Kg kvs x z,.bool (Cg kvs x)] else Kg kvs x z) r:=by
 obtain ⟨kt,et,zv,hu,hK,hz,rfl⟩:=hT.of;obtain ⟨k,rfl,hg⟩:=yJ hm;obtain ⟨es,clock,q1,q2,q3,q4,q5,q6,q7⟩:=zD hR hb hg;have eg:=IU hK lF hx (kvs:=kvs) (es:=es.toList) (by simpa using q2) ei (fun j hj=>by rw[tS];exact q3 j hj) w;have hck:=IT hK lF hx es.isEmpty w;have en:(getObj k).run P w=.ok (.map es clock) w:=by simp[getObj,Sem.run,q1]
 have fS:∃ r0,VR g (Qm c g s) w (Kg kvs x (uM zv)) r0/\(Instr.lookup t (.map (some k)) v ok).run P w=.ok (if ok then .tuple #[r0,.bool (Cg kvs x)] else r0) w:=by
  unfold Kg Cg;cases hf:fu kvs x with
  | none =>
   rw[hf]at eg;refine ⟨zv,Bw zv,?_⟩;simp only[Instr.lookup,Sem.run_bind,run_underlying hu,Result.andThen_ok,en,hck,eg,Option.map_none,hz,Sem.run_pure];rfl
  | some i =>
   rw[hf]at eg;obtain ⟨hi,_⟩:=Ci hf;refine ⟨_,q4 i hi,?_⟩;simp only[Instr.lookup,Sem.run_bind,run_underlying hu,Result.andThen_ok,en,hck,eg,Option.map_some,Sem.run_pure,tS];rfl
 obtain ⟨r0,hv,hr⟩:=fS;refine ⟨_,hr,?_⟩;cases ok with
 | false=>exact hv
 | true =>
  refine .aR rfl fun j hj=>?_
  match j,hj with
  | 0,_=>exact hv
  | 1,_=>exact .bool _
  | j+2,hj=>simp at hj;omega
def Cj {e:MapEntry} :(es.push e).getD j default=if j=es.size then e else es.getD j default:=by
 simp only[Array.getD_eq_getD_getElem?,Array.getElem?_push];split<;>rfl
def Oj {f:MapEntry->MapEntry}  (hi:i<es.size)(j:Nat):(es.modify i f).getD j default=if j=i then f (es.getD j default) else es.getD j default:=by
 simp only[Array.getD_eq_getD_getElem?,Array.getElem?_modify];by_cases h:j=i
 ·subst h;simp[hi]
 ·rw[aa h,aa fun e=>h e.symm]
def WW {p:AV×AV} :(kvs++[p]).getD j (.any,.any)=if j=kvs.length then p else kvs.getD j (.any,.any):=by
 by_cases h:j=kvs.length
 ·subst h;simp[List.getD]
 ·rw[aa h];rcases Nat.lt_or_ge j kvs.length with h1|h1
  ·simp[List.getD,List.getElem?_append_left h1]
  ·have:(kvs++[p])[j]?=none:=List.getElem?_eq_none (by simp;omega);simp[List.getD,this,List.getElem?_eq_none h1]
def WX {p:AV×AV}  (hi:i<kvs.length)(j:Nat):(kvs.set i p).getD j (.any,.any)=if j=i then p else kvs.getD j (.any,.any):=by
 by_cases h:j=i
 ·subst h;simp[List.getD,hi]
 ·rw[aa h];simp[List.getD,List.getElem?_set_ne fun e=>h e.symm]
def Ol (hR:R c g s a w){b k:Nat}{kvs:List (AV×AV)}{dn:Bool}(hb:s.H b=.az kvs dn)(hg:g b=.re k){es:Array MapEntry}{clock:Nat}(q1:w.heap[k]?=some (.map es clock)){i:Nat}(hi:i<kvs.length){y:AV}{u:Value}(hy:VR g (Qm c g s) w y u){f:MapEntry->MapEntry}
  (zF:∀ e,(f e).born=e.born) (iP:(f (es.getD i default)).val=u) (hf3:(f (es.getD i default)).key=(es.getD i default).key) :
  R c g (s.aH b (.az (kvs.set i ((kvs.getD i (.any,.any)).1,y)) dn)) a { w with heap:=w.heap.setIfInBounds k (.map (es.modify i f) clock) }:=by
 obtain ⟨es',clock',r1,q2,q3,q4,q5,q6,q7⟩:=zD hR hb hg;rw[q1]at r1;cases r1;have gw:i<es.size:=by omega
 have hb2:∀ j,((es.modify i f).getD j default).born=(es.getD j default).born:=fun j=>by
  rw[Oj gw];split
  ·exact zF _
  ·rfl
 refine hR.kR hb hg q1 (by simp;exact q2) (fun j hj=>?_) (fun j hj=>?_) (fun j hj=>?_) (fun i' j fX hj=>?_) (fun hd=>?_)
 ·rw[List.length_set]at hj;rw[WX hi,Oj gw];split
  ·rename_i e;subst e;rw[hf3];exact q3 _ hj
  ·exact q3 _ hj
 ·rw[List.length_set]at hj;rw[WX hi,Oj gw];split
  ·rename_i e;subst e;rw[iP];exact hy
  ·exact q4 _ hj
 ·rw[hb2];exact q5 j (by simpa using hj)
 ·rw[hb2,hb2];exact q6 i' j fX (by simpa using hj)
 ·obtain ⟨d1,d2⟩:=q7 hd;exact ⟨fun j hj=>by rw[hb2];exact d1 j (by simpa using hj),by simpa using d2⟩
def WY (hR:R c g s a w)    (hb:s.H b=.az kvs dn)(hg:g b=.re k)   (q1:w.heap[k]?=some (.map es clock))   (hx:VR g (Qm c g s) w x v)(hy:VR g (Qm c g s) w y u) :
  R c g (s.aH b (.az (kvs++[(x,y)]) dn)) a { w with heap:=w.heap.setIfInBounds k (.map (es.push { key:=v,val:=u,born:=clock }) (clock+1)) }:=by
 obtain ⟨es',clock',r1,q2,q3,q4,q5,q6,q7⟩:=zD hR hb hg;rw[q1]at r1;cases r1;refine hR.kR hb hg q1 (by simp;exact q2) (fun j hj=>?_) (fun j hj=>?_) (fun j hj=>?_) (fun i j fX hj=>?_) (fun hd=>?_)
 ·rw[length_append,List.length_singleton]at hj;rw[WW,Cj,q2];split
  ·exact hx
  ·exact q3 j af
 ·rw[length_append,List.length_singleton]at hj;rw[WW,Cj,q2];split
  ·exact hy
  ·exact q4 j af
 ·rw[Array.size_push]at hj;rw[Cj];split
  ·show clock<clock+1;omega
  ·have:=q5 j af;omega
 ·rw[Array.size_push]at hj;rw[Cj,Cj,aa af];split
  ·exact q5 i af
  ·exact q6 i j fX af
 ·obtain ⟨d1,d2⟩:=q7 hd;refine ⟨fun j hj=>?_,by rw[Array.size_push];omega⟩;rw[Array.size_push]at hj;rw[Cj];split
  ·rename_i e;show clock=j;omega
  ·exact d1 j af
def Yb1 (hR:R c g s a w){t:TypeId}{wide:Bool}{ks:List SK}{z:AV}(hT:cu P t wide ks z){b:Nat}{kvs:List (AV×AV)}{dn:Bool}(hb:s.H b=.az kvs dn){x y:AV}{m v u:Value}(hm:VR g (Qm c g s) w (.mp b) m)(hx:VR g (Qm c g s) w x v)(hy:VR g (Qm c g s) w y u)
  (lF:Zo wide ks x) (ei:Wt wide ks kvs):∃ w',(Instr.mapUpdate t m v u).run P w=.ok () w'/\R c g (s.aH b (.az (Jy kvs x y) dn)) a w':=by
 obtain ⟨kt,et,zv,hu,hK,hz,rfl⟩:=hT.of;obtain ⟨k,rfl,hg⟩:=yJ hm;obtain ⟨es,clock,q1,q2,q3,q4,q5,q6,q7⟩:=zD hR hb hg;have eg:=IU hK lF hx (kvs:=kvs) (es:=es.toList) (by simpa using q2) ei (fun j hj=>by rw[tS];exact q3 j hj) w;have hck:=IT hK lF hx false w;have en:(getObj k).run P w=.ok (.map es clock) w:=by simp[getObj,Sem.run,q1]
 have fY:=Wn q1;unfold Jy;cases hf:fu kvs x with
 | none =>
  rw[hf]at eg;refine ⟨_,?_,WY hR hb hg q1 hx hy⟩;simp only[Instr.mapUpdate,Sem.run_bind,run_underlying hu,Result.andThen_ok,en,hck,eg,Option.map_none,zE q1]
 | some i =>
  rw[hf]at eg;obtain ⟨hi,xg⟩:=Ci hf;have gw:i<es.size:=by omega
  have h3:=q3 i hi;rw[xg]at h3;have zG:(es.getD i default).key=v:=WO lF h3 hx;have uO:Instr.sameBits 10000 v v=true:=WS hK.ns lF hx;have pf:(Instr.keyThatStays (((es[i]?).map (·.key)).getD v) v).run P w=.ok v w:=by
   have e:((es[i]?).map (·.key)).getD v=v:=by
    have:es.getD i default=es[i]:=by simp[Array.getD_eq_getD_getElem?,gw]
    rw[Array.getElem?_eq_getElem gw];rw[this]at zG;simpa using zG
   rw[e];simp[Instr.keyThatStays,uO]
  have bA:=Ol hR hb hg q1 hi hy (f:=fun e=>{ e with key:=v,val:=u }) (fun _=>rfl) rfl zG.symm;rw[xg]at bA;refine ⟨_,?_,bA⟩;simp only[Instr.mapUpdate,Sem.run_bind,run_underlying hu,Result.andThen_ok,en,hck,eg,Option.map_some,pf,zE q1]
def Yct (hR:R c g s a w){t:TypeId}{wide:Bool}{ks:List SK}{z:AV}(hT:cu P t wide ks z){b:Nat}{kvs:List (AV×AV)}(hb:s.H b=.az kvs true){x:AV}{m v:Value}(hm:VR g (Qm c g s) w (.mp b) m)(hx:VR g (Qm c g s) w x v)
  (lF:Zo wide ks x) (ei:Wt wide ks kvs):∃ r w',(Instr.mapEntry t m v).run P w=.ok r w'/\R c g (s.aH b (.az (qg kvs x z) true)) a w'/\VR g (Qm c g s) w (.aR [Kg kvs x z,.int .i64 (mZ kvs x)]) r/\Fr w w' (fun i=>g b=.re i):=by
 obtain ⟨kt,et,zv,hu,hK,hz,rfl⟩:=hT.of;obtain ⟨k,rfl,hg⟩:=yJ hm;obtain ⟨es,clock,q1,q2,q3,q4,q5,q6,q7⟩:=zD hR hb hg;have eg:=IU hK lF hx (kvs:=kvs) (es:=es.toList) (by simpa using q2) ei (fun j hj=>by rw[tS];exact q3 j hj) w;have hck:=IT hK lF hx false w;have en:(getObj k).run P w=.ok (.map es clock) w:=by simp[getObj,Sem.run,q1]
 have fY:=Wn q1;obtain ⟨d1,d2⟩:=q7 rfl;have aR:∀ {r0:Value} {x0:AV} {n:Nat},VR g (Qm c g s) w x0 r0->VR g (Qm c g s) w (.aR [x0,.int .i64 (n:Int)]) (.tuple #[r0,goInt n]):=fun h0=>by
  refine .aR rfl fun j hj=>?_
  match j,hj with
  | 0,_=>exact h0
  | 1,_=>exact .int _ _
  | j+2,hj=>simp at hj;omega
 have m9:∀ {es' clock'},Fr w { w with heap:=w.heap.setIfInBounds k (.map es' clock') } (fun i=>g b=.re i):=fun {es' clock'}=>(WV (es':=es') (clock':=clock') q1).weak fun i hi=>by rw[hi];exact hg
 unfold qg Kg mZ;cases hf:fu kvs x with
 | none =>
  rw[hf]at eg;have hp:=WY hR hb hg q1 hx (Bw zv);refine ⟨.tuple #[zv,goInt (clock:Nat)],_,?_,hp,?_,m9⟩
  ·simp only[Instr.mapEntry,Sem.run_bind,run_underlying hu,Result.andThen_ok,en,hck,eg,Option.map_none,hz,zE q1,Sem.run_pure]
  ·have:clock=kvs.length:=by omega
   rw[this];exact aR (Bw zv)
 | some i =>
  rw[hf]at eg;obtain ⟨hi,xg⟩:=Ci hf;have gw:i<es.size:=by omega
  have h3:=q3 i hi;rw[xg]at h3;have zG:(es.getD i default).key=v:=WO lF h3 hx;have uO:Instr.sameBits 10000 v v=true:=WS hK.ns lF hx;have Om:es.getD i default=es[i]:=by simp[Array.getD_eq_getD_getElem?,gw]
  have pf:(Instr.keyThatStays (((es[i]?).map (·.key)).getD v) v).run P w=.ok v w:=by
   have e:((es[i]?).map (·.key)).getD v=v:=by
    rw[Array.getElem?_eq_getElem gw];rw[Om]at zG;simpa using zG
   rw[e];simp[Instr.keyThatStays,uO]
  have bA:=Ol hR hb hg q1 hi (q4 i hi) (f:=fun e=>{ e with key:=v }) (fun _=>rfl) rfl zG.symm;have cr:kvs.set i ((kvs.getD i (.any,.any)).1,(kvs.getD i (.any,.any)).2)=kvs:=by
   have e:kvs.getD i (.any,.any)=kvs[i]:=by simp[List.getD,hi]
   rw[e];exact List.set_getElem_self hi
  rw[cr]at bA;refine ⟨.tuple #[(es.getD i default).val,goInt (i:Nat)],_,?_,bA,aR (q4 i hi),m9⟩;have Ex:((es[i]?).map fun e=>(e.born:Int)).getD 0=(i:Int):=by
   rw[Array.getElem?_eq_getElem gw];have:=d1 i gw;rw[Om]at this;have h9:es[i].born=i:=by simpa using this
   simp[h9]
  have zH:((((es[i]?).map (·.born)).getD 0:Nat):Int)=(i:Int):=by
   rw[Array.getElem?_eq_getElem gw];have:=d1 i gw;rw[Om]at this;have h9:es[i].born=i:=by simpa using this
   simp[h9]
  simp only[Instr.mapEntry,Sem.run_bind,run_underlying hu,Result.andThen_ok,en,hck,eg,Option.map_some,pf,zE q1,Sem.run_pure,Ex,zH,tS]
def Ydx (hR:R c g s a w)    (hb:s.H b=.az kvs true)  {m u:Value}  (hi:i<kvs.length)(hm:VR g (Qm c g s) w (.mp b) m)(hy:VR g (Qm c g s) w y u) :
  ∃ w',(Instr.entryStore t m (.int .i64 (i:Int)) u).run P w=.ok () w'/\R c g (s.aH b (.az (kvs.set i ((kvs.getD i (.any,.any)).1,y)) true)) a w':=by
 obtain ⟨k,rfl,hg⟩:=yJ hm;obtain ⟨es,clock,q1,q2,q3,q4,q5,q6,q7⟩:=zD hR hb hg;have en:(getObj k).run P w=.ok (.map es clock) w:=by simp[getObj,Sem.run,q1]
 have fY:=Wn q1;obtain ⟨d1,d2⟩:=q7 rfl;have gw:i<es.size:=by omega
 have bA:=Ol hR hb hg q1 hi hy (f:=fun e=>{ e with val:=u }) (fun _=>rfl) rfl rfl;have j9:es.findIdx? (fun e=>(e.born:Int)==(i:Int))=some i:=by
  rw[Array.findIdx?_eq_some_iff_getElem];have hd:∀ j (hj:j<es.size),es[j].born=j:=fun j hj=>by
   have:=d1 j hj;simpa [Array.getD_eq_getD_getElem?,hj] using this
  refine ⟨gw,by simp[hd i gw],fun j hj=>?_⟩;rw[hd j af];simp;omega
 refine ⟨_,?_,bA⟩;simp only[Instr.entryStore,Sem.run_bind,Result.andThen_ok,en];have has:(asIntOf (.int .i64 (i:Int))).run P w=.ok (.i64,(i:Int)) w:=by simp[asIntOf]
 simp only[asInt,Sem.run_pure,Sem.run_bind,Result.andThen_ok,has,j9,zE q1]
end
def eJ:List AV->Nat
 | .mp b::_=>b
 | _=>0
def IV:List AV->Prop
 | .mp _::_=>True
 | _=>False
def nn:List AV->AV
 | _::x::_=>x
 | _=>.any
def zI:List AV->AV
 | _::_::x::_=>x
 | _=>.any
def Ck:List AV->Int
 | _::.int _ n::_=>n
 | _=>0
def On:List AV->Prop
 | _::.int .i64 _::_=>True
 | _=>False
def iU:Bk->List (AV×AV)
 | .az kvs _=>kvs
 | _=>[]
def sj:Bk->Bool
 | .az _ dn=>dn
 | _=>false
def xh:Bk->Prop
 | .az _ _=>True
 | _=>False
theorem Yi3 (b:Nat)(r:List AV):eJ (.mp b::r)=b:=rfl
theorem Yfi (b:Nat)(r:List AV):IV (.mp b::r)=True:=rfl
theorem Yg1 (x y:AV)(r:List AV):nn (x::y::r)=y:=rfl
theorem Ygo (x y z:AV)(r:List AV):zI (x::y::z::r)=z:=rfl
theorem Yh7 (x:AV)(k:IntKind)(n:Int)(r:List AV):Ck (x::.int k n::r)=n:=rfl
theorem Ybj (x:AV)(n:Int)(r:List AV):On (x::.int .i64 n::r)=True:=rfl
theorem Yio (kvs:List (AV×AV))(dn:Bool):iU (.az kvs dn)=kvs:=rfl
theorem Yil (kvs:List (AV×AV))(dn:Bool):sj (.az kvs dn)=dn:=rfl
theorem Xuj (kvs:List (AV×AV))(dn:Bool):xh (.az kvs dn)=True:=rfl
theorem Xat (ks:List SK)(cs:List AV):Zo true ks (.agg cs)=(cs.map Zw=ks.map some):=by simp[Zo,Wx]
theorem Xas (k:IntKind)(n:Int):Zo false [.int k] (.int k n)=True:=by simp[Zo,Wx,Zw]
theorem Xc4 (k:IntKind)(n:Int):Zw (.int k n)=some (.int k):=rfl
theorem Qz5 (b:Bool):Zw (.bool b)=some .bool:=rfl
attribute [go_sem] Yi3 Yfi Yg1 Ygo Yh7 Ybj Yio Yil Xuj Xat Xas Xc4 Qz5
def Ey {vs:List AV}(h:IV vs):∃ b r,vs=.mp b::r:=by
 match vs,h with
 | .mp b::r,_=>exact ⟨b,r,rfl⟩
def Ez {x:Bk}(h:xh x):∃ kvs dn,x=.az kvs dn:=by
 cases x<;>first|exact h.elim|exact ⟨_,_,rfl⟩
section
variable {P:Program}{c:Cx}{ops:Array Oper}{io:Oper}
def Xwe {ok:Bool}{xs:List Operand}(h:Xs P o=some (.wM t ok,xs)):∃ m k,o.op=.lookup t m k ok/\xs=[m,k]:=by
 unfold Xs at h
 repeat' split at h
 all_goals first
  | (cases h;exact ⟨_,_,by assumption,rfl⟩)
  | (simp at h;done)
  | (cases h;done)
  | (simp[Option.map_eq_some_iff]at h;done)
def Xxr {xs:List Operand}(h:Xs P o=some (.DF t,xs)):∃ m k v,o.op=.mapUpdate t m k v/\xs=[m,k,v]:=by
 unfold Xs at h
 repeat' split at h
 all_goals first
  | (cases h;exact ⟨_,_,_,by assumption,rfl⟩)
  | (simp at h;done)
  | (cases h;done)
  | (simp[Option.map_eq_some_iff]at h;done)
def Xz6 {xs:List Operand}(h:Xs P o=some (.BC t,xs)):∃ m k,o.op=.mapEntry t m k/\xs=[m,k]:=by
 unfold Xs at h
 repeat' split at h
 all_goals first
  | (cases h;exact ⟨_,_,by assumption,rfl⟩)
  | (simp at h;done)
  | (cases h;done)
  | (simp[Option.map_eq_some_iff]at h;done)
def Xze {xs:List Operand}(h:Xs P o=some (.DG t,xs)):∃ m k v,o.op=.entryStore t m k v/\xs=[m,k,v]:=by
 unfold Xs at h
 repeat' split at h
 all_goals first
  | (cases h;exact ⟨_,_,_,by assumption,rfl⟩)
  | (simp at h;done)
  | (cases h;done)
  | (simp[Option.map_eq_some_iff]at h;done)
def Xvu {xs:List Operand}(h:Xs P o=some (.HU t,xs)):∃ r,o.op=.makeMap t r/\(r=none\/∃ k n,r=some (.const (.int k n)))/\xs=[]:=by
 unfold Xs at h
 repeat' split at h
 all_goals first
  | (rename_i hh;exact Bool.noConfusion hh)
  | (cases h;exact ⟨_,by assumption,.inl rfl,rfl⟩)
  | (cases h;exact ⟨_,by assumption,.inr ⟨_,_,rfl⟩,rfl⟩)
  | (simp at h;done)
  | (cases h;done)
  | (simp[Option.map_eq_some_iff]at h;done)
def Ygq {s:FS}{d:Nat}{V:AV}{rt rb:List Nat}(hg:io.guard=none)(a8:io.dst=some d)(hd:d<c.N)
  (core:∀ s2:FS,(∀ i ∈ rt,s2.T i=s.T i)->(∀ b ∈ rb,s2.H b=s.H b)->∀ g a w,R c g s2 a w->∃ v',(execOp a.eval io).run P w=.ok (.value v') w/\VR g (Qm c g s2) w V v') :
  kD P c ops io s ⟨rt,rb,[d],[]⟩ (s.put d V):=by
 refine ⟨fun i hi=>?_,fun j hj=>rfl,fun s2 hT hH g a w hR K Q' hK=>Za hg ?_⟩
 ·rw[FS.dE,aa (fun e=>hi (by simp[e]))]
 ·obtain ⟨v',hr,hv⟩:=core s2 hT hH g a w hR;unfold Oper.wp;rw[hr];show K (a.put io.dst v') w;rw[a8];refine hK g _ w ?_;rw[yM];exact hR.put hd hv
def WZ {s:FS}{b d:Nat}{X:Bk}{V:AV}{rt rb:List Nat}(hg:io.guard=none)(a8:io.dst=some d)(hd:d<c.N)
  (core:∀ s2:FS,(∀ i ∈ rt,s2.T i=s.T i)->(∀ b ∈ rb,s2.H b=s.H b)->∀ g a w,R c g s2 a w->∃ g' v' w',(execOp a.eval io).run P w=.ok (.value v') w'/\R c g' (s2.aH b X) a w'/\VR g' (Qm c g' (s2.aH b X)) w' V v') :
  kD P c ops io s ⟨rt,rb,[d],[b]⟩ ((s.aH b X).put d V):=by
 refine ⟨fun i hi=>?_,fun j hj=>?_,fun s2 hT hH g a w hR K Q' hK=>Za hg ?_⟩
 ·rw[FS.dE,aa (fun e=>hi (by simp[e]))];rfl
 ·rw[FS.rI,FS.a7,aa (fun e=>hj (by simp[e]))]
 ·obtain ⟨g',v',w',hr,bc,hv⟩:=core s2 hT hH g a w hR;unfold Oper.wp;rw[hr];show K (a.put io.dst v') w';rw[a8];refine hK g' _ w' ?_;rw[UJ];exact bc.put hd hv
def W0 {s:FS}{b:Nat}{X:Bk}{rt rb:List Nat}(hg:io.guard=none)(a8:io.dst=none)
  (core:∀ s2:FS,(∀ i ∈ rt,s2.T i=s.T i)->(∀ b ∈ rb,s2.H b=s.H b)->∀ g a w,R c g s2 a w->∃ g' w',(execOp a.eval io).run P w=.ok .skip w'/\R c g' (s2.aH b X) a w') :
  kD P c ops io s ⟨rt,rb,[],[b]⟩ (s.aH b X):=by
 refine ⟨fun i hi=>rfl,fun j hj=>?_,fun s2 hT hH g a w hR K Q' hK=>Za hg ?_⟩
 ·rw[FS.a7,aa (fun e=>hj (by simp[e]))]
 ·obtain ⟨g',w',hr,bc⟩:=core s2 hT hH g a w hR;unfold Oper.wp;rw[hr];show K (a.put io.dst undef) w';rw[a8];refine hK g' _ w' ?_;rw[DI];exact bc
def qh (s:FS)(wide:Bool)(ks:List SK)(vs:List AV):Prop:=IV vs/\xh (s.H (eJ vs))/\Zo wide ks (nn vs)/\Wt wide ks (iU (s.H (eJ vs)))
noncomputable def zJ (s:FS)(z:AV)(ok:Bool)(vs:List AV):AV:=bif ok then .aR [Kg (iU (s.H (eJ vs))) (nn vs) z,.bool (Cg (iU (s.H (eJ vs))) (nn vs))] else Kg (iU (s.H (eJ vs))) (nn vs) z
def Wm (s:FS)(gl:Nat->AV)(xs:List TV)(wt:List Nat)(wr:Bool):bg:=⟨Xf xs,[eJ ((aC gl s xs).map Qh)],wt,bif wr then [eJ ((aC gl s xs).map Qh)] else []⟩
def IW {ok:Bool}     (hT:cu P t wide ks z)(hc:Qq none (aC c.gl s.fs xs))(aS:qh s.fs wide ks ((aC c.gl s.fs xs).map Qh)) :
  Kn P c (.pd (some d) (.wM t ok) xs none) s.fs (Wm s.fs c.gl xs [d] false) (s.put d (zJ s.fs z ok ((aC c.gl s.fs xs).map Qh))).fs:=by
 intro ops io he;obtain ⟨aV,a8,hd,ys,aD,rfl⟩:=Zj he;obtain ⟨m,k,hop,rfl⟩:=Xwe aD;have ea:(aC c.gl s.fs ([m,k].map aP)).map Qh=[Qh (aU c.gl s.fs (aP m)),Qh (aU c.gl s.fs (aP k))]:=rfl;unfold Wm;rw[ea]at aS ⊢;generalize IX:Qh (aU c.gl s.fs (aP m))=vm at *
 generalize zc:Qh (aU c.gl s.fs (aP k))=vk at *
 obtain ⟨h1,h2,h3,h4⟩:=aS;obtain ⟨b,r,hb⟩:=Ey h1;injection hb with eM hb2
 subst eM;obtain ⟨kvs,dn,iT⟩:=Ez h2;simp only[zJ,eJ,nn,cond_false]at h3 h4 iT ⊢;rw[iT]at h4 ⊢;simp only[iU]at h4 ⊢;rw[St.bS];refine Ygq (Ji aV) a8 (by simpa using hd) fun s2 kS pg g a w hR=>?_;have bj:aC c.gl s2 ([m,k].map aP)=aC c.gl s.fs ([m,k].map aP):=Ya kS;have eP:=Yi (hR.ci [m,k]) (by rw[bj];exact hc);rw[bj,ea]at eP;obtain ⟨v1,v2,_⟩:=eP;obtain ⟨r0,hr,hv⟩:=Yb4 hR hT (b:=b) (kvs:=kvs) (dn:=dn) (by rw[pg b aw,iT]) v1 v2 h3 h4 ok;refine ⟨r0,?_,hv⟩;unfold execOp;simp only[hop];exact Zx hr
def Yfc {ok:Bool}     (hT:cu P t wide ks z)(h:Qq none (aC c.gl s.fs xs)/\qh s.fs wide ks ((aC c.gl s.fs xs).map Qh)/\XP P c r0 K (s.put d (zJ s.fs z ok ((aC c.gl s.fs xs).map Qh)))) :
  Yn P c (.pd (some d) (.wM t ok) xs none) r0 K s:=.inl ⟨_,_,IW hT h.1 h.2.1,h.2.2⟩
def Yc0 {fs:List bg}      {ok:Bool}     (hT:cu P t wide ks z)(h:Qq none (aC c.gl s.fs xs)/\qh s.fs wide ks ((aC c.gl s.fs xs).map Qh)/\XD P c anc r0 (Wm s.fs c.gl xs [d] false::fs) K (s.put d (zJ s.fs z ok ((aC c.gl s.fs xs).map Qh)))) :
  Zm P c anc (.pd (some d) (.wM t ok) xs none) r0 fs K s:=⟨_,_,IW hT h.1 h.2.1,h.2.2⟩
def EA (s:FS)(vs:List AV)(kvs:List (AV×AV)):Bk:=.az kvs (sj (s.H (eJ vs)))
def W1 (hT:cu P t wide ks z)(hc:Qq none (aC c.gl s.fs xs))(aS:qh s.fs wide ks ((aC c.gl s.fs xs).map Qh)) :
  Kn P c (.pd none (.DF t) xs none) s.fs (Wm s.fs c.gl xs [] true) (s.aH (eJ ((aC c.gl s.fs xs).map Qh)) (EA s.fs ((aC c.gl s.fs xs).map Qh) (Jy (iU (s.fs.H (eJ ((aC c.gl s.fs xs).map Qh)))) (nn ((aC c.gl s.fs xs).map Qh)) (zI ((aC c.gl s.fs xs).map Qh))))).fs:=by
 intro ops io he;obtain ⟨aV,a8,hd,ys,aD,rfl⟩:=Zj he;obtain ⟨m,k,v,hop,rfl⟩:=Xxr aD;have ea:(aC c.gl s.fs ([m,k,v].map aP)).map Qh=[Qh (aU c.gl s.fs (aP m)),Qh (aU c.gl s.fs (aP k)),Qh (aU c.gl s.fs (aP v))]:=rfl;unfold Wm;rw[ea]at aS ⊢;generalize IX:Qh (aU c.gl s.fs (aP m))=vm at *
 generalize zc:Qh (aU c.gl s.fs (aP k))=vk at *
 generalize qR:Qh (aU c.gl s.fs (aP v))=vv at *
 obtain ⟨h1,h2,h3,h4⟩:=aS;obtain ⟨b,r,hb⟩:=Ey h1;injection hb with eM hb2
 subst eM;obtain ⟨kvs,dn,iT⟩:=Ez h2;simp only[EA,eJ,nn,zI,cond_true]at h3 h4 iT ⊢;rw[iT]at h4 ⊢;simp only[iU,sj]at h4 ⊢;rw[St.cj];refine W0 (Ji aV) a8 fun s2 kS pg g a w hR=>?_;have bj:aC c.gl s2 ([m,k,v].map aP)=aC c.gl s.fs ([m,k,v].map aP):=Ya kS;have eP:=Yi (hR.ci [m,k,v]) (by rw[bj];exact hc);rw[bj,ea]at eP;obtain ⟨v1,v2,v3,_⟩:=eP;obtain ⟨w',hr,bc⟩:=Yb1 hR hT (b:=b) (kvs:=kvs) (dn:=dn) (by rw[pg b aw,iT]) v1 v2 v3 h3 h4;refine ⟨g,w',?_,bc⟩;unfold execOp;simp only[hop,Sem.run_bind,hr,Result.andThen_ok,Sem.run_pure]
def Oo (hT:cu P t wide ks z)(h:Qq none (aC c.gl s.fs xs)/\qh s.fs wide ks ((aC c.gl s.fs xs).map Qh)/\XP P c r0 K (s.aH (eJ ((aC c.gl s.fs xs).map Qh)) (EA s.fs ((aC c.gl s.fs xs).map Qh) (Jy (iU (s.fs.H (eJ ((aC c.gl s.fs xs).map Qh)))) (nn ((aC c.gl s.fs xs).map Qh)) (zI ((aC c.gl s.fs xs).map Qh)))))) :
  Yn P c (.pd none (.DF t) xs none) r0 K s:=.inl ⟨_,_,W1 hT h.1 h.2.1,h.2.2⟩
def Oq {fs:List bg}         (hT:cu P t wide ks z)(h:Qq none (aC c.gl s.fs xs)/\qh s.fs wide ks ((aC c.gl s.fs xs).map Qh)/\XD P c anc r0 (Wm s.fs c.gl xs [] true::fs) K (s.aH (eJ ((aC c.gl s.fs xs).map Qh)) (EA s.fs ((aC c.gl s.fs xs).map Qh) (Jy (iU (s.fs.H (eJ ((aC c.gl s.fs xs).map Qh)))) (nn ((aC c.gl s.fs xs).map Qh)) (zI ((aC c.gl s.fs xs).map Qh)))))) :
  Zm P c anc (.pd none (.DF t) xs none) r0 fs K s:=⟨_,_,W1 hT h.1 h.2.1,h.2.2⟩
def IY (s:FS)(wide:Bool)(ks:List SK)(vs:List AV):Prop:=qh s wide ks vs/\sj (s.H (eJ vs))=true
noncomputable def EB (s:FS)(z:AV)(vs:List AV):AV:=.aR [Kg (iU (s.H (eJ vs))) (nn vs) z,.int .i64 (mZ (iU (s.H (eJ vs))) (nn vs))]
noncomputable def EC (s:FS)(z:AV)(vs:List AV):Bk:=.az (qg (iU (s.H (eJ vs))) (nn vs) z) true
def VR.xi {g:Nat->GM}{s:FS}  {X:Bk}{w w':World}   (h:VR g (Qm c g s) w x v)(hb:(s.H b).live)(hX:X.live)(hf:Fr w w' (fun i=>g b=.re i)):VR g (Qm c g (s.aH b X)) w' x v :=
 h.mono (hf.weak fun i hi=>.inr ⟨b,hb,hi⟩) (fun k _ hk=>by
  rcases hk with h|⟨b',h1,h2⟩
  ·exact .inl h
  ·rw[FS.a7]at h1;split at h1
   ·rename_i e;subst e;exact .inr ⟨_,hb,h2⟩
   ·exact .inr ⟨b',h1,h2⟩) (fun _ _=>rfl)
def W3 (hT:cu P t wide ks z)(hc:Qq none (aC c.gl s.fs xs))(aS:IY s.fs wide ks ((aC c.gl s.fs xs).map Qh)) :
  Kn P c (.pd (some d) (.BC t) xs none) s.fs (Wm s.fs c.gl xs [d] true) ((s.aH (eJ ((aC c.gl s.fs xs).map Qh)) (EC s.fs z ((aC c.gl s.fs xs).map Qh))).put d (EB s.fs z ((aC c.gl s.fs xs).map Qh))).fs:=by
 intro ops io he;obtain ⟨aV,a8,hd,ys,aD,rfl⟩:=Zj he;obtain ⟨m,k,hop,rfl⟩:=Xz6 aD;have ea:(aC c.gl s.fs ([m,k].map aP)).map Qh=[Qh (aU c.gl s.fs (aP m)),Qh (aU c.gl s.fs (aP k))]:=rfl;unfold Wm;rw[ea]at aS ⊢;generalize IX:Qh (aU c.gl s.fs (aP m))=vm at *
 generalize zc:Qh (aU c.gl s.fs (aP k))=vk at *
 obtain ⟨⟨h1,h2,h3,h4⟩,h5⟩:=aS;obtain ⟨b,r,hb⟩:=Ey h1;injection hb with eM hb2
 subst eM;obtain ⟨kvs,dn,iT⟩:=Ez h2;simp only[EC,EB,eJ,nn,cond_true]at h3 h4 h5 iT ⊢;rw[iT]at h4 h5 ⊢;simp only[iU,sj]at h4 h5 ⊢;subst h5;rw[St.bS,St.cj];refine WZ (Ji aV) a8 (by simpa using hd) fun s2 kS pg g a w hR=>?_;have bj:aC c.gl s2 ([m,k].map aP)=aC c.gl s.fs ([m,k].map aP):=Ya kS;have eP:=Yi (hR.ci [m,k]) (by rw[bj];exact hc);rw[bj,ea]at eP;obtain ⟨v1,v2,_⟩:=eP;have hb2:s2.H b=.az kvs true:=by rw[pg b aw,iT]
 obtain ⟨r0,w',hr,bc,hv,hf⟩:=Yct hR hT (b:=b) (kvs:=kvs) hb2 v1 v2 h3 h4;refine ⟨g,r0,w',?_,bc,hv.xi (by rw[hb2];trivial) trivial hf⟩;unfold execOp;simp only[hop,Sem.run_bind,hr,Result.andThen_ok,Sem.run_pure]
def W4 (hT:cu P t wide ks z)(h:Qq none (aC c.gl s.fs xs)/\IY s.fs wide ks ((aC c.gl s.fs xs).map Qh)/\XP P c r0 K ((s.aH (eJ ((aC c.gl s.fs xs).map Qh)) (EC s.fs z ((aC c.gl s.fs xs).map Qh))).put d (EB s.fs z ((aC c.gl s.fs xs).map Qh)))) :
  Yn P c (.pd (some d) (.BC t) xs none) r0 K s:=.inl ⟨_,_,W3 hT h.1 h.2.1,h.2.2⟩
def W5 {fs:List bg}          (hT:cu P t wide ks z)(h:Qq none (aC c.gl s.fs xs)/\IY s.fs wide ks ((aC c.gl s.fs xs).map Qh)/\XD P c anc r0 (Wm s.fs c.gl xs [d] true::fs) K ((s.aH (eJ ((aC c.gl s.fs xs).map Qh)) (EC s.fs z ((aC c.gl s.fs xs).map Qh))).put d (EB s.fs z ((aC c.gl s.fs xs).map Qh)))) :
  Zm P c anc (.pd (some d) (.BC t) xs none) r0 fs K s:=⟨_,_,W3 hT h.1 h.2.1,h.2.2⟩
def Ot (s:FS)(vs:List AV):Prop:=IV vs/\xh (s.H (eJ vs))/\sj (s.H (eJ vs))=true/\On vs/\0<=Ck vs/\Ck vs<(iU (s.H (eJ vs))).length
def IZ (s:FS)(vs:List AV):Bk:=.az ((iU (s.H (eJ vs))).set (Ck vs).toNat (((iU (s.H (eJ vs))).getD (Ck vs).toNat (.any,.any)).1,zI vs)) true
def Xyd (hc:Qq none (aC c.gl s.fs xs))(aS:Ot s.fs ((aC c.gl s.fs xs).map Qh)) :
  Kn P c (.pd none (.DG t) xs none) s.fs (Wm s.fs c.gl xs [] true) (s.aH (eJ ((aC c.gl s.fs xs).map Qh)) (IZ s.fs ((aC c.gl s.fs xs).map Qh))).fs:=by
 intro ops io he;obtain ⟨aV,a8,hd,ys,aD,rfl⟩:=Zj he;obtain ⟨m,k,v,hop,rfl⟩:=Xze aD;have ea:(aC c.gl s.fs ([m,k,v].map aP)).map Qh=[Qh (aU c.gl s.fs (aP m)),Qh (aU c.gl s.fs (aP k)),Qh (aU c.gl s.fs (aP v))]:=rfl;unfold Wm;rw[ea]at aS ⊢;generalize IX:Qh (aU c.gl s.fs (aP m))=vm at *
 generalize zc:Qh (aU c.gl s.fs (aP k))=vk at *
 generalize qR:Qh (aU c.gl s.fs (aP v))=vv at *
 obtain ⟨h1,h2,h3,h4,h5,h6⟩:=aS;obtain ⟨b,r,hb⟩:=Ey h1;injection hb with eM hb2
 subst eM;cases vk<;>simp only[On]at h4
 rename_i kd n;cases kd<;>simp only at h4
 obtain ⟨kvs,dn,iT⟩:=Ez h2;simp only[IZ,eJ,zI,Ck,cond_true]at h3 h5 h6 iT ⊢;rw[iT]at h3 h6 ⊢;simp only[iU,sj]at h3 h6 ⊢;subst h3;obtain ⟨i,rfl⟩:=Int.eq_ofNat_of_zero_le h5;rw[Int.toNat_natCast];rw[St.cj];refine W0 (Ji aV) a8 fun s2 kS pg g a w hR=>?_;have bj:aC c.gl s2 ([m,k,v].map aP)=aC c.gl s.fs ([m,k,v].map aP):=Ya kS;have eP:=Yi (hR.ci [m,k,v]) (by rw[bj];exact hc);rw[bj,ea]at eP;obtain ⟨v1,v2,v3,_⟩:=eP;obtain ⟨w',hr,bc⟩:=Ydx (P:=P) hR (t:=t) (b:=b) (kvs:=kvs) (i:=i) (by rw[pg b aw,iT]) af v1 v3;rw[<- IM v2]at hr;refine ⟨g,w',?_,bc⟩;unfold execOp;simp only[hop,Sem.run_bind,hr,Result.andThen_ok,Sem.run_pure]
def W6 {fs:List bg}      (h:Qq none (aC c.gl s.fs xs)/\Ot s.fs ((aC c.gl s.fs xs).map Qh)/\XD P c anc r0 (Wm s.fs c.gl xs [] true::fs) K (s.aH (eJ ((aC c.gl s.fs xs).map Qh)) (IZ s.fs ((aC c.gl s.fs xs).map Qh)))) :
  Zm P c anc (.pd none (.DG t) xs none) r0 fs K s:=⟨_,_,Xyd h.1 h.2.1,h.2.2⟩
def Xye (hT:cu P t wide ks z)(hf:s.fs.H s.n=.free):Kn P c (.pd (some d) (.HU t) [] none) s.fs ⟨[],[s.n],[d],[s.n]⟩ ((s.nw (.az [] true)).put d (.mp s.n)).fs:=by
 intro ops io he;obtain ⟨aV,a8,hd,ys,aD,n5⟩:=Zj he;obtain ⟨r,hop,hr,rfl⟩:=Xvu aD;obtain ⟨kt,et,zv,hu,_,_,_⟩:=hT.of;rw[St.bS,St.iw];refine WZ (Ji aV) a8 (by simpa using hd) fun s2 kS pg g a w hR=>?_;have bq:s2.H s.n=.free:=by rw[pg _ aw];exact hf
 have cf:=heap_alloc_new w (.map #[] 0);have hrun:(execOp a.eval io).run P w=.ok (.value (.map (some w.heap.size))) (w.alloc (.map #[] 0)):=by
  rcases hr with rfl|⟨k,n,rfl⟩
  ·simp[execOp,hop,Instr.makeMap,newObj,Sem.run]
  ·simp[execOp,hop,Instr.makeMap,newObj,Sem.run_bind,run_underlying hu,asInt,asIntOf,Act.eval];simp[Sem.run]
 refine ⟨_,_,_,hrun,hR.new (.map #[] 0) bq trivial fun g' fF=>?_,.mp (by simp[Zg])⟩;exact .az cf rfl (fun j hj=>by simp at hj) (fun j hj=>by simp at hj) (fun j hj=>by simp at hj) (fun i j _ hj=>by simp at hj) (fun _=>⟨fun j hj=>by simp at hj,rfl⟩)
def zK (hT:cu P t wide ks z)(h:s.fs.H s.n=.free/\XP P c r0 K ((s.nw (.az [] true)).put d (.mp s.n))) :
  Yn P c (.pd (some d) (.HU t) [] none) r0 K s:=.inl ⟨_,_,Xye hT h.1,h.2⟩
attribute [go_sem] qh zJ Wm EA IY EB EC Ot IZ
end
def Yjo {FP:Prop}{p q:Prop}(fp:FP)(k:q)(h:FP->cV q->p:=by (intro zp zk;((first|refine Yfc zp ?_|refine Yc0 zp ?_);(refine XG ?_;((try with_reducible and_intros);all_goals try first|refine zm ?_|exact CL)));exact zk.it)):p:=h fp ⟨k⟩
def Yjp {FP:Prop}{p q:Prop}(fp:FP)(k:q)(h:FP->cV q->p:=by (intro zp zk;((first|refine Oo zp ?_|refine Oq zp ?_);(refine XG ?_;((try with_reducible and_intros);all_goals try first|refine zm ?_|exact CL)));exact zk.it)):p:=h fp ⟨k⟩
def Up {FP:Prop}{F:Prop}{p q:Prop}(fp:FP)(f:F)(k:q)(h:FP->F->cV q->p:=by (intro zp aQ zk;exact Yjo zp zk.it)):p:=h fp f ⟨k⟩
def xj {FP:Prop}{F:Prop}{p q:Prop}(fp:FP)(f:F)(k:q)(h:FP->F->cV q->p:=by (intro zp aQ zk;exact Yjp zp zk.it)):p:=h fp f ⟨k⟩
mutual
def dj (S:Nat->Prop):AV->Prop
 | .dU _ v=>dj S v
 | .agg cs=>dI S cs
 | .aR cs=>dI S cs
 | .xp cs _=>dI S cs
 | .isl _ cs=>dI S cs
 | .cl _ cs=>dI S cs
 | .ptr b _=>S b
 | .sl _ b _ _ _=>S b
 | .mp b=>S b
 | _=>True
def dI (S:Nat->Prop):List AV->Prop
 | []=>True
 | x::xs=>dj S x/\dI S xs
end
def ED {S:Nat->Prop}:∀ {cs:List AV},dI S cs ↔ ∀ x ∈ cs,dj S x
 | []=>by simp[dI]
 | x::xs=>by simp[dI,ED (cs:=xs)]
def Cl {S:Nat->Prop}  (h:dI S cs)(j:Nat):dj S (cs.getD j .any):=by
 by_cases hj:j<cs.length
 ·rw[HE hj];exact ED.1 h _ (List.getElem_mem _)
 ·have:cs.getD j .any=.any:=by simp[List.getD,Nat.le_of_not_lt hj]
  rw[this];simp[dj]
def sk (S:Nat->Prop):Bk->Prop
 | .cells cs=>dI S cs
 | .az kvs _=>∀ p ∈ kvs,dj S p.1/\dj S p.2
 | .bp kvs _ _=>∀ p ∈ kvs,dj S p.1/\dj S p.2
 | .iter b _ _=>S b
 | .dK ls=>∀ l ∈ ls,ah 0 l
 | _=>True
section
variable {S:Nat->Prop}{W W':Nat->Prop}{w w':World}{g g':Nat->GM}
def VR.only (hg:∀ b,S b->g b≠.un->g b=g' b){v:AV}  (h:VR g W w v u):dj S v->VR g' W w v u:=by
 induction h with
 | any v=>intro _;exact .any _
 | dU h h0 ih=>intro hn;simp only[dj]at hn;exact .dU (fun hb=>ih hb hn) h0
 | int k n=>intro _;exact .int _ _
 | bool b=>intro _;exact .bool _
 | str l=>intro _;exact .str _
 | agg hs h1 h ih=>intro hn;simp only[dj]at hn;exact .agg hs h1 fun j hj=>ih j hj (Cl hn j)
 | aR hs h ih=>intro hn;simp only[dj]at hn;exact .aR hs fun j hj=>ih j hj (Cl hn j)
 | ptr e=>intro hn;simp only[dj]at hn;exact .ptr (by rw[<- hg _ hn (by rw[e];intro x;cases x)];exact e)
 | xp hc h ih=>intro hn;simp only[dj]at hn;exact .xp hc fun j hj=>ih j hj (Cl hn j)
 | sl e a b c d f=>intro hn;simp only[dj]at hn;exact .sl (by rw[<- hg _ hn (by rw[e];intro x;cases x)];exact e) a b c d f
 | kz e hc=>intro hn;simp only[dj]at hn;exact .kz (by rw[<- hg _ hn (by rw[e];intro x;cases x)];exact e) hc
 | isl a b hc h ih=>intro hn;simp only[dj]at hn;exact .isl a b hc fun j hj=>ih j hj (Cl hn j)
 | nils a=>intro _;exact .nils _
 | cl hs h ih=>intro hn;simp only[dj]at hn;exact .cl hs fun j hj=>ih j hj (Cl hn j)
 | mp e=>intro hn;simp only[dj]at hn;exact .mp (by rw[<- hg _ hn (by rw[e];intro x;cases x)];exact e)
 | lit v=>intro _;exact .lit _
def BR.only (hg:∀ b,S b->g b≠.un->g b=g' b){m:GM}{x:Bk}(h:BR g W w m x)(hn:sk S x):BR g' W w m x:=by
 cases h with
 | free=>exact .free
 | dead h=>exact .dead h
 | ph=>exact .ph
 | cells hb hl h1 hv hz=>exact .cells hb hl h1 (fun j hj=>(hv j hj).only hg (Cl hn j)) hz
 | az hb hs ji hv hc ha hd =>
  rename_i k kvs dn es clock;have bN:∀ j,j<kvs.length->kvs.getD j (.any,.any) ∈ kvs:=fun j hj=>by simp[List.getD,hj]
  exact .az hb hs (fun j hj=>(ji j hj).only hg (hn _ (bN j hj)).1) (fun j hj=>(hv j hj).only hg (hn _ (bN j hj)).2) hc ha hd
 | bp hb hs ji hv hc ha hd =>
  rename_i k kvs bs es clock;have bN:∀ j,j<kvs.length->kvs.getD j (.any,.any) ∈ kvs:=fun j hj=>by simp[List.getD,hj]
  exact .bp hb hs (fun j hj=>(ji j hj).only hg (hn _ (bN j hj)).1) (fun j hj=>(hv j hj).only hg (hn _ (bN j hj)).2) hc ha hd
 | iter hb lU=>exact .iter hb (by rw[<- hg _ hn (by rw[lU];intro x;cases x)];exact lU)
 | dK hp h=>exact BR.kH (.dK hp h) hn fun _ h=>h
end
def To (p:List Nat)(s s':St):Prop:=∀ (c:Cx) (g:Nat->GM) (a:Act) (w:World),(∀ q ∈ c.gh,q.1 ∈ p)->R c g s.fs a w->∃ g',R c g' s'.fs a w
def To.refl (p:List Nat)(s:St):To p s s:=fun c g a w _ hR=>⟨g,hR⟩
def To.trans {s s' s2:St}(h:To p s s')(k:To p s' s2):To p s s2:=fun c g a w hp hR=>by
 obtain ⟨g1,h1⟩:=h c g a w hp hR;exact k c g1 a w hp h1
def W7 (p:List Nat)(ρ:List (Nat×Nat))(n:Nat):Bool:=ρ.all (fun q=>!p.contains q.1)&&p.all (fun b=>decide (b<n))
def W8 {p:List Nat}:∀ {ρ:List (Nat×Nat)},ρ.all (fun q=>!p.contains q.1)=true->∀ b ∈ p,rl ρ b=b
 | [],_,_,_=>rfl
 | (i,j)::l,h,b,hb=>by
  simp only[List.all_cons,Bool.and_eq_true,Bool.not_eq_true']at h;have hi:(i==b)=false:=by
   cases e:i==b with
   | false=>rfl
   | true =>
    have:i=b:=by simpa using e
    subst this;have:=h.1;rw[List.contains_iff_mem.2 hb]at this;cases this
  show (bif i==b then j else rl l b)=b;rw[hi];exact W8 h.2 b hb
def To.sub {ρ:List (Nat×Nat)}(hp:W7 p ρ s'.n=true)(h:Sub (rl ρ) s s'):To p s s':=fun c g a w hg hR=>h.to hR fun q hq=>by
 unfold W7 at hp;rw[Bool.and_eq_true]at hp;exact ⟨W8 hp.1 _ (hg q hq),ap (all_eq_true.1 hp.2 _ (hg q hq))⟩
def To.EE {ρ:Nat->Nat}(hp:∀ b,b ∈ p->ρ b=b/\b<s'.n)(h:Sub ρ s s'):To p s s':=fun c g a w hg hR=>h.to hR fun q hq=>hp _ (hg q hq)
section
variable {P:Program}{c:Cx}
def np {o:bD}    (bf:∀ q ∈ c.gh,q.1 ∈ p)(h:To p s s')(k:Yn P c o r0 K s'):Yn P c o r0 K s:=by
 refine .inr fun ops io he g a w hR K' Q' hK=>?_;obtain ⟨g',bc⟩:=h c g a w bf hR;rcases k with ⟨F,s2,hA,hr⟩|hS
 ·have yO:=hA ops io he;refine yO.step s'.fs (fun _ _=>rfl) (fun _ _=>rfl) g' a w bc K' Q' fun g2 a' w' cq=>?_;rw[HY yO.a6 yO.dm]at cq;exact hK g2 s2 a' w' hr cq
 ·exact hS ops io he g' a w bc K' Q' hK
def I0 {σ:Type}(p:List Nat)(I:σ->Prop)(c5:σ->St)(μ:σ->Nat)(x:σ)(Q:EX->St->Prop):EX->St->Prop
 | .normal,s=>∃ y,I y/\To p s (c5 y)/\μ y<μ x
 | e,s=>Q e s
def Yk {σ:Type}(I:σ->Prop)(c5:σ->St)(μ:σ->Nat){b:TC}{Q:EX->St->Prop}{s:St}(hm:P.follows .mixedOrders=true)(p:List Nat)(bf:∀ q ∈ c.gh,q.1 ∈ p)(h0:∃ y,I y/\To p s (c5 y))
  (hr:∀ x,I x->xw P c b (I0 p I c5 μ x Q) (c5 x)):qS P c b Q s:=by
 intro code he g a w hR;obtain ⟨y0,DY,fL⟩:=h0;obtain ⟨g0,l8⟩:=fL c g a w bf hR;have key:∀ n (x:σ),μ x=n->I x->∀ g a w,R c g (c5 x).fs a w->∀ (fr:Frame) (k:List Item) (cs:List Frame),∃ e a' w',uU c Q e a' w'/\Arrives P (lone (fr.at a (.code code::.inLoop code::k)) cs w) fr k cs e a' w':=by
  intro n
  induction n using Nat.strongRecOn with
  | _ n ih =>
   intro x hx hI g a w hR fr k cs;have hb:=yX hm code b _ _ he (hr x hI) g a w hR;obtain ⟨e,a1,w1,hq,fo⟩:=hb fr (.inLoop code::k) cs;cases e with
   | normal =>
    obtain ⟨g1,s1,gp,y,DZ,hs,hlt⟩:=hq;obtain ⟨g2,cq⟩:=hs c g1 a1 w1 bf gp;obtain ⟨e2,a2,w2,ng,l9⟩:=ih (μ y) af y rfl DZ g2 a1 w1 cq fr k cs;exact ⟨e2,a2,w2,ng,.of_steps (Steps.trans fo (.one step_inLoop)) l9⟩
   | exit i=>exact ⟨.exit i,a1,w1,hq,.pass (x:=.inLoop code) rfl (fun _ _=>.inl aw) fo⟩
   | ret=>exact ⟨.ret,a1,w1,hq,.pass (x:=.inLoop code) rfl (fun _ _=>.inl aw) fo⟩
   | goto l=>exact hq.elim
   | panic ch=>exact hq.elim
   | outgrown=>exact hq.elim
 intro fr k cs;obtain ⟨e,a',w',hq,fo⟩:=key _ y0 rfl DY g0 a w l8 fr k cs;exact ⟨e,a',w',hq,.of_steps (.one step_loop) fo⟩
def GQ (P:Program)(gl:Nat->AV)(f:FuncId)(args:List AV)(aK:List (Nat×Bk))(m:Nat)(p:List Nat){ι:Type}(Q:ι->Prop)(r:ι->AV)(ax:ι->List (Nat×Bk)):Prop :=
 BQ P f∧∀ (w:World) (vs:List Value) (G X:Nat→Prop) (g:Nat→GM),R ⟨0,w,G,X,gl,[]⟩ g (dC aK m) ⟨#[],[]⟩ w→bR g (Qm ⟨0,w,G,X,gl,[]⟩ g (dC aK m)) w args vs →
  Calls P f vs.toArray w fun e w'=>∃ x v g',Q x/\e=.returned v/\R ⟨0,w,G,X,gl,[]⟩ g' (dC (ax x) m) ⟨#[],[]⟩ w'/\(∀ b,b ∈ p->g' b=g b)/\VR g' (Qm ⟨0,w,G,X,gl,[]⟩ g' (dC (ax x) m)) w' (r x) v
def I2 (m:Nat)(p:List Nat)(rs:List RS){ι:Type}(Q:ι->Prop)(r:ι->AV)(ax:ι->List (Nat×Bk)):EX->St->Prop
 | .exit _,_=>False
 | _,s=>Ue s.fs rs/\∃ x,Q x/\To p ⟨[(0,iy s.fs rs)],s.h,s.n⟩ ⟨[(0,r x)],ax x,m⟩
def Xwj {gl : Nat -> AV} {f : FuncId} {fn : Func} {code : Code} {t : TC} {rs : List RS} {args : List AV} {aK : List (Nat×Bk)} {m : Nat} {p : List Nat} {ι : Type} {Q : ι -> Prop} {r : ι -> AV} {ax : ι -> List (Nat×Bk)} (hm : P.follows .mixedOrders = true) (hf : P.funcs[f]? = some fn) (hb : fn.body = some code) (fq : (fn.name == "runtime.NumGoroutine") = false)
  (he:Jq P fn.ntmps code=some t) (hr:qb P fn.results.toList=some rs) (hN:args.length<=fn.ntmps) (aO:∀ q ∈ aK,q.2.live) (Ou:∀ b ∈ p,b<m)
  (h:∀ c:Cx,(∀ q ∈ c.gh,q.1 ∈ p)->c.gl=gl->xw P c t (I2 m p rs Q r ax) ⟨kJ 0 args,aK,m⟩):GQ P gl f args aK m p Q r ax:=by
 refine ⟨⟨fn,hf,by rw[hb];rfl,fq⟩,fun w vs G X g l8 hv=>?_⟩;refine calls_of_wp hf hb ?_;have kA:∀ b,b<m->g b≠.un:=fun b jP e=>by
  have:=l8.h b;rw[e]at this;have hh:(dC aK m).H b=Qc aK m b:=rfl;rw[hh]at this;rcases Jh aK m b with q|⟨q0,hp,_,q⟩
  ·rw[q,am jP]at this;cases this;rename_i h;exact h rfl
  ·rw[q]at this;have hl:=aO q0 hp;cases hx:q0.2 with
   | free=>rw[hx]at hl;exact hl.elim
   | dead=>rw[hx]at hl;exact hl.elim
   | cells cs=>rw[hx]at this;cases this
   | az kvs dn=>rw[hx]at this;cases this
   | bp kvs bs ck=>rw[hx]at this;cases this
   | iter b0 ck seen=>rw[hx]at this;cases this
   | dK ls=>rw[hx]at this;cases this with|dK _ h=>cases h
 have js:∀ q ∈ p.map (fun b=>(b,g b)),g q.1=q.2/\q.2≠.un:=fun q hp=>by
  obtain ⟨b,jP,rfl⟩:=mem_map.1 hp;exact ⟨rfl,kA b (Ou b jP)⟩
 have bf:∀ q ∈ p.map (fun b=>(b,g b)),q.1 ∈ p:=fun q hp=>by
  obtain ⟨b,jP,rfl⟩:=mem_map.1 hp;exact jP
 have hR:=NN (N:=fn.ntmps) hN l8 hv js;have:=yX (c:=⟨fn.ntmps,w,G,X,gl,p.map (fun b=>(b,g b))⟩) hm code t _ _ he (h _ bf rfl) _ _ _ hR;refine wp_mono this fun e a' w' hq=>?_
 have fin:∀ (g1:Nat→GM) (s:St),R ⟨fn.ntmps,w,G,X,gl,p.map (fun b=>(b,g b))⟩ g1 s.fs a' w'→(Ue s.fs rs∧∃ x,Q x∧To p ⟨[(0,iy s.fs rs)],s.h,s.n⟩ ⟨[(0,r x)],ax x,m⟩) →
   a'.defers=[]/\∃ v,(results fn a'.tmps).run P w'=.ok v w'/\(∃ x rO g',Q x/\Ending.returned v=.returned rO/\R ⟨0,w,G,X,gl,[]⟩ g' (dC (ax x) m) ⟨#[],[]⟩ w'/\(∀ b,b ∈ p->g' b=g b)/\VR g' (Qm ⟨0,w,G,X,gl,[]⟩ g' (dC (ax x) m)) w' (r x) rO):=by
  intro g1 s bc ⟨h1,x,hQ,h3⟩;obtain ⟨v,h4,h5⟩:=Ii bc hr h1;refine ⟨bc.ew,v,h4,x,v,?_⟩;have gp:R ⟨1,w,G,X,gl,p.map (fun b=>(b,g b))⟩ g1 (⟨[(0,iy s.fs rs)],s.h,s.n⟩:St).fs ⟨#[v],[]⟩ w':=by
   refine ⟨rfl,rfl,fun i=>?_,bc.gl,bc.h,bc.inj,bc.old,bc.fr,bc.xs,bc.jj⟩;show VR g1 _ w' (look [(0,iy s.fs rs)] i) _;rw[Jk];split
   ·rename_i hi;subst hi;exact h5
   ·exact .any _
  obtain ⟨g2,cq⟩:=h3 _ g1 _ _ bf gp;refine ⟨g2,hQ,rfl,⟨rfl,rfl,fun i=>.any _,cq.gl,cq.h,cq.inj,cq.old,cq.fr,cq.xs,fun q hp=>by cases hp⟩,fun b hb=>?_,?_⟩
  ·exact (cq.jj (b,g b) (mem_map.2 ⟨b,hb,rfl⟩)).1
  ·exact cq.t 0
 cases e with
 | normal=>obtain ⟨g,s,bc,dd⟩:=hq;exact fin g s bc dd
 | ret=>obtain ⟨g,s,bc,dd⟩:=hq;exact fin g s bc dd
 | exit i=>obtain ⟨g,s,bc,dd⟩:=hq;exact dd.elim
 | goto l=>exact hq.elim
 | panic ch=>exact hq.elim
 | outgrown=>exact hq.elim
def FT.gq {P:Program}{gl:Nat->AV}{f:FuncId}{fn:Func}{t:TC}{rs:List RS}(hF:FT P f fn t rs){args:List AV}{aK:List (Nat×Bk)}{m:Nat}{p:List Nat}{ι:Type}{Q:ι->Prop}{r:ι->AV}{ax:ι->List (Nat×Bk)}(hN:args.length<=fn.ntmps)(aO:∀ q ∈ aK,q.2.live)(Ou:∀ b ∈ p,b<m)
  (h:∀ c:Cx,(∀ q ∈ c.gh,q.1 ∈ p)->c.gl=gl->xw P c t (I2 m p rs Q r ax) ⟨kJ 0 args,aK,m⟩):GQ P gl f args aK m p Q r ax:=by
 have hc:=hF.code;cases hb:fn.body with
 | none=>rw[hb]at hc;simp at hc
 | some code =>
  rw[hb]at hc;exact Xwj hF.mixed hF.func hb hF.name hc hF.res hN aO Ou h
structure HL (h:List (Nat×Bk))(m:Nat):Prop where
 mem:∀ q ∈ h,q.1<m/\bV m q.2
 mh:∀ b,b<m->∃ q ∈ h,q.1=b
 self:∀ q ∈ h,Qc h m q.1=q.2
def HL.live {h:List (Nat×Bk)}{m b:Nat}(H:HL h m)(hb:b<m)(n:Nat):Qc h n b=Qc h m b/\∃ q ∈ h,q.1=b/\Qc h m b=q.2:=by
 have key:∀ (l:List (Nat×Bk)),(∃ q ∈ l,q.1=b)->Qc l n b=Qc l m b/\∃ q ∈ l,q.1=b/\Qc l m b=q.2:=fun l=>by
  induction l with
  | nil=>rintro ⟨q,hq,_⟩;cases hq
  | cons p l ih =>
   obtain ⟨i,x⟩:=p;rintro ⟨q,hq,e⟩;rw[Qf,Qf];by_cases hi:i=b
   ·rw[am hi,am hi];exact ⟨rfl,(i,x),by simp,hi,rfl⟩
   ·rw[aa hi,aa hi];rcases mem_cons.1 hq with rfl|hq
    ·exact (hi e).elim
    ·obtain ⟨h1,q',h2,h3,h4⟩:=ih ⟨q,hq,e⟩;exact ⟨h1,q',by simp[h2],h3,h4⟩
 exact key h (H.mh b hb)
def vo (σ:Nat->Nat)(p:List Nat)(m:Nat)(j:Nat):Prop:=∀ b,b<m->σ b=j->b ∈ p
def mz (σ:Nat->Nat)(m:Nat)(j:Nat):Prop:=∀ b,b<m->σ b≠j
def Yav {σ:Nat->Nat}{s s3:FS}{a:Act}{w w':World}{g g1 g2:Nat->GM}{h h':List (Nat×Bk)}{m:Nat}{p:List Nat}(hR:R c g s a w)(ct:∀ b b',b<m->b'<m->σ b=σ b'->b=b')(hh:HL h m)(tT:HL h' m)(fit:∀ b,b<m->s.H (σ b)=Qw σ (Qc h m b))
  (hT:∀ i,dj (vo σ p m) (s.T i)) (hB:∀ j,mz σ m j->sk (vo σ p m) (s.H j)) (bf:∀ q ∈ c.gh,vo σ p m q.1)
  (iR:∀ b,b<m->g (σ b)≠.un->g (σ b)=g1 b) (oX:∀ b,b ∈ p->g2 b=g1 b) (cq:R (qW c g s w σ h m) g2 (dC h' m) ⟨#[],[]⟩ w')
  (Ov:∀ i,s3.T i=s.T i) (EF:∀ b,b<m->s3.H (σ b)=Qw σ (Qc h' m b)) (zL:∀ j,mz σ m j->s3.H j=s.H j) :
  R c (Kb g g2 σ m) s3 a w'/\∀ {r:AV} {v:Value},Qe m r->VR g2 (Qm (qW c g s w σ h m) g2 (dC h' m)) w' r v->VR (Kb g g2 σ m) (Qm c (Kb g g2 σ m) s3) w' (aA σ r) v:=by
 have dG:∀ b,b<m->(Qc h m b).live:=fun b hb=>by
  obtain ⟨_,q,hq,_,e⟩:=hh.live hb m;rw[e];exact Xb (hh.mem q hq).2
 have j1:∀ b,b<m->(Qc h' m b).live:=fun b hb=>by
  obtain ⟨_,q,hq,_,e⟩:=tT.live hb m;rw[e];exact Xb (tT.mem q hq).2
 have eN:∀ b,b<m->(s.H (σ b)).live:=fun b hb=>by rw[fit b hb,BP];exact dG b hb
 have named:∀ b,b<m->g (σ b)≠.un:=fun b hb e=>by
  have:=hR.h (σ b);rw[e]at this;have hl:=eN b hb;generalize s.H (σ b)=x at this hl;exact this.gE hl
 have low:∀ b,(Qc h m b).live->b<m:=fun b hl=>by
  rcases Jh h m b with q|⟨q,hq,rfl,_⟩
  ·rw[q]at hl;split at hl<;>exact hl.elim
  ·exact (hh.mem q hq).1
 have qaa:∀ b,(Qc h' m b).live->b<m:=fun b hl=>by
  rcases Jh h' m b with q|⟨q,hq,rfl,_⟩
  ·rw[q]at hl;split at hl<;>exact hl.elim
  ·exact (tT.mem q hq).1
 have gs:∀ b,b<m->Kb g g2 σ m (σ b)=g2 b:=fun b dH=>by
  unfold Kb;have hex:∃ b',b'<m/\σ b'=σ b:=⟨b,dH,rfl⟩
  rw[dif_pos hex];rw[ct _ _ hex.choose_spec.1 dH hex.choose_spec.2]
 have go:∀ j,mz σ m j->Kb g g2 σ m j=g j:=fun j h=>by
  unfold Kb;rw[dif_neg];rintro ⟨b,h1,h2⟩;exact h b h1 h2
 have part:∀ j,(∃ b,b<m/\σ b=j)\/mz σ m j:=fun j=>by
  by_cases e:∃ b,b<m/\σ b=j
  ·exact .inl e
  ·exact .inr fun b h1 h2=>e ⟨b,h1,h2⟩
 have gS:∀ j,vo σ p m j->g j≠.un->g j=Kb g g2 σ m j:=fun j hj cb=>by
  rcases part j with ⟨b,hb,rfl⟩|ft
  ·rw[gs b hb,oX b (hj b hb rfl)];exact iR b hb cb
  ·rw[go j ft]
 have hf:Fr w w' (rS g σ h m):=cq.fr;have Ca:∀ k,rS g σ h m k->Qm c g s k:=fun k ⟨b,h1,h2⟩=>.inr ⟨σ b,eN b (low b h1),h2⟩;have rV:Fr w w' (Qm c g s):=hf.weak Ca;have tL:∀ j k,mz σ m j->(s.H j).live->g j=.re k->¬ rS g σ h m k:=fun j k h1 h2 h3 ⟨b,q1,q2⟩ =>
  h1 b (low b q1) (hR.inj (σ b) j k (eN b (low b q1)) h2 q2 h3)
 have gG:∀ b k,b<m->g2 b=.re k->w.heap.size<=k\/∃ b0,b0<m/\g (σ b0)=.re k:=fun b k hb hk=>by
  rcases cq.old b k (j1 b hb) hk with h|⟨b0,q1,q2⟩
  ·exact .inl h
  ·exact .inr ⟨b0,low b0 q1,q2⟩
 have dq:∀ j,(s3.H j).live->(∃ b,b<m/\σ b=j)\/(mz σ m j/\(s.H j).live):=fun j hl=>by
  rcases part j with h|h
  ·exact .inl h
  ·rw[zL j h]at hl;exact .inr ⟨h,hl⟩
 have qd:∀ k,k<w.heap.size->Qm c (Kb g g2 σ m) s3 k->Qm c g s k:=by
  rintro k hk (h|⟨j,h1,h2⟩)
  ·exact .inl h
  ·rcases dq j h1 with ⟨b,hb,rfl⟩|⟨hj,hl⟩
   ·rw[gs b hb]at h2;rcases gG b k hb h2 with h|⟨b0,q1,q2⟩
    ·omega
    ·exact .inr ⟨σ b0,eN b0 q1,q2⟩
   ·rw[go j hj]at h2;exact .inr ⟨j,hl,h2⟩
 have qe:∀ k,Qm c (Kb g g2 σ m) s3 k->Qm (qW c g s w σ h m) g2 (dC h' m) k:=by
  rintro k (h|⟨j,h1,h2⟩)
  ·refine .inl ⟨.inl h,fun ⟨b,q1,q2⟩=>?_⟩;obtain ⟨x1,x2⟩:=hR.xs k h;rcases hR.old (σ b) k (eN b (low b q1)) q2 with h|h
   ·omega
   ·exact x2 h
  ·rcases dq j h1 with ⟨b,hb,rfl⟩|⟨hj,hl⟩
   ·rw[gs b hb]at h2;exact .inr ⟨b,j1 b hb,h2⟩
   ·rw[go j hj]at h2;exact .inl ⟨.inr ⟨j,hl,h2⟩,tL j k hj hl h2⟩
 refine ⟨⟨hR.size,hR.ew,fun i=>?_,fun i=>(hR.gl i).mono rV qd (fun _ _=>rfl),fun j=>?_,fun j j' k h1 h2 e1 e2=>?_,fun j k h1 e1=>?_,hR.fr.trans hf fun k hk ⟨b,q1,q2⟩=>?_,hR.xs,fun q hq=>?_⟩,fun {r v} hn hv=>?_⟩
 ·rw[Ov];exact ((hR.t i).only gS (hT i)).mono rV qd (fun _ _=>rfl)
 ·rcases part j with ⟨b,hb,rfl⟩|hj
  ·rw[gs b hb,EF b hb];have ez:=cq.h b;have e:(dC h' m).H b=Qc h' m b:=rfl;rw[e]at ez;obtain ⟨_,q,hq,_,eq⟩:=tT.live hb m;rw[eq]at ez ⊢;exact ez.bv (n:=m) gs (tT.mem q hq).2 qe
  ·rw[go j hj,zL j hj];refine ((hR.h j).only gS (hB j hj)).mono rV qd (fun _ _=>rfl) fun k hk hl=>hf.ig k ?_ (tL j k hj hl hk);exact BR.lt (hk ▸ hR.h j) hl
 ·rcases dq j h1 with ⟨b,hb,rfl⟩|⟨hj,hl⟩<;>rcases dq j' h2 with ⟨b',bL,rfl⟩|⟨c4,lX⟩
  ·rw[gs b hb]at e1;rw[gs b' bL]at e2;rw[cq.inj b b' k (j1 b hb) (j1 b' bL) e1 e2]
  ·rw[gs b hb]at e1;rw[go j' c4]at e2;have hlt:=BR.lt (e2 ▸ hR.h j') lX;rcases gG b k hb e1 with h|⟨b0,q1,q2⟩
   ·omega
   ·exact (c4 b0 q1 (hR.inj (σ b0) j' k (eN b0 q1) lX q2 e2)).elim
  ·rw[gs b' bL]at e2;rw[go j hj]at e1;have hlt:=BR.lt (e1 ▸ hR.h j) hl;rcases gG b' k bL e2 with h|⟨b0,q1,q2⟩
   ·omega
   ·exact (hj b0 q1 (hR.inj (σ b0) j k (eN b0 q1) hl q2 e1)).elim
  ·rw[go j hj]at e1;rw[go j' c4]at e2;exact hR.inj j j' k hl lX e1 e2
 ·rcases dq j h1 with ⟨b,hb,rfl⟩|⟨hj,hl⟩
  ·rw[gs b hb]at e1;rcases gG b k hb e1 with h|⟨b0,q1,q2⟩
   ·have:=hR.fr.size;exact .inl af
   ·exact hR.old (σ b0) k (eN b0 q1) q2
  ·rw[go j hj]at e1;exact hR.old j k hl e1
 ·rcases hR.old (σ b) k (eN b (low b q1)) q2 with h|h
  ·omega
  ·exact h
 ·obtain ⟨q1,q2⟩:=hR.jj q hq;refine ⟨?_,q2⟩;have:=gS q.1 (bf q hq) (by rw[q1];exact q2);rw[<- this,q1]
 ·exact (hv.bv (ρ:=σ) (g:=Kb g g2 σ m) gs hn).mono (Fr.refl _ _) (fun k _=>qe k) (fun _ _=>rfl)
end
theorem qZ {x:Bk}:Qw id x=x:=by
 cases x with
 | cells cs=>simp only[Qw];rw[Zd];congr 1;exact (map_congr_left fun x _=>tH id (fun _=>rfl) x).trans (map_id cs)
 | az kvs dn=>simp only[Qw];congr 1;exact (map_congr_left fun x _=>by rw[tH id (fun _=>rfl),tH id (fun _=>rfl)];rfl).trans (map_id kvs)
 | bp kvs bs ck=>simp only[Qw];congr 1;exact (map_congr_left fun x _=>by rw[tH id (fun _=>rfl),tH id (fun _=>rfl)];rfl).trans (map_id kvs)
 | iter b0 ck seen=>rfl
 | dK ls=>rfl
 | free=>rfl
 | dead=>rfl
def sm (l:List AV):ay id l=l:=by rw[Zd];exact (map_congr_left fun x _=>tH id (fun _=>rfl) x).trans (map_id l)
def zM (S:Nat->Prop):List (Nat×AV)->Prop
 | []=>True
 | q::l=>dj S q.2/\zM S l
def W9 {S:Nat->Prop}:∀ {l:List (Nat×AV)},zM S l->∀ i,dj S (look l i)
 | [],_,i=>by simp[look,dj]
 | (j,v)::l,h,i=>by
  rw[Jk];split
  ·exact h.1
  ·exact W9 h.2 i
def Xa (σ:Nat->Nat)(h:List (Nat×Bk)):List (Nat×Bk):=h.map fun q=>(σ q.1,Qw σ q.2)
def Wo (h:List (Nat×Bk)):Xa id h=h:=by
 unfold Xa;exact (map_congr_left fun q _=>by rw[qZ];rfl).trans (map_id h)
def xk {σ:Nat->Nat}{m:Nat}(ct:∀ b b',b<m->b'<m->σ b=σ b'->b=b'){n b:Nat}(hb:b<m):∀ {h:List (Nat×Bk)},(∀ q ∈ h,q.1<m)->(∃ q ∈ h,q.1=b)->Qc (Xa σ h) n (σ b)=Qw σ (Qc h m b)
 | [],_,⟨q,hq,_⟩=>by cases hq
 | (i,x)::l,hm,⟨q,hq,e⟩=>by
  show Qc ((σ i,Qw σ x)::Xa σ l) n (σ b)=_;rw[Qf,Qf];by_cases hi:i=b
  ·rw[am hi,am (by rw[hi])]
  ·rw[aa hi,aa fun e=>hi (ct _ _ (hm (i,x) aw) hb e)];rcases mem_cons.1 hq with rfl|hq
   ·exact (hi e).elim
   ·exact xk ct hb (fun q hq=>hm q (by simp[hq])) ⟨q,hq,e⟩
def Uc {σ:Nat->Nat}{m n j:Nat}(hj:mz σ m j):∀ {h:List (Nat×Bk)},(∀ q ∈ h,q.1<m)->Qc (Xa σ h) n j=if j<n then .dead else .free
 | [],_=>rfl
 | (i,x)::l,hm=>by
  show Qc ((σ i,Qw σ x)::Xa σ l) n j=_;rw[Qf,aa (hj i (hm (i,x) aw))];exact Uc hj fun q hq=>hm q (by simp[hq])
def Xo {n j:Nat}{h:List (Nat×Bk)}:∀ {ex:List (Nat×Bk)},(∀ q ∈ ex,q.1≠j)->Qc (ex++h) n j=Qc h n j
 | [],_=>rfl
 | (i,x)::l,hm=>by
  rw[cons_append,Qf,aa (hm (i,x) aw)];exact Xo fun q hq=>hm q (by simp[hq])
def EG {n j:Nat}{h h':List (Nat×Bk)}(e:Qc h n j=Qc h' n j):∀ {ex:List (Nat×Bk)},Qc (ex++h) n j=Qc (ex++h') n j
 | []=>e
 | (i,x)::l=>by
  rw[cons_append,cons_append,Qf,Qf,EG e]
def Yjy (σ:Nat->Nat)(p:List Nat)(m:Nat)(ex:List (Nat×Bk)):Prop:=∀ q ∈ ex,mz σ m q.1/\sk (vo σ p m) q.2
def qi (v:Bool)(f:FuncId)(l:List AV):Option (FuncId×List AV):=bif v then vf l else some (f,l)
structure EH (gl:Nat->AV)(s:St)(xs:List TV)(v:Bool)(f:FuncId)(args:List AV)(σ:Nat->Nat)(p pc:List Nat)(m:Nat)(t:List (Nat×AV))(ex aK:List (Nat×Bk))(n:Nat):Prop where
 to:To pc s ⟨t,ex++Xa σ aK,n⟩
 inj:∀ b b',b<m->b'<m->σ b=σ b'->b=b'
 hl:HL aK m
 pc:∀ b ∈ pc,vo σ p m b
 hex:Yjy σ p m ex
 ht:zM (vo σ p m) t
 fb:Qq none (aC gl (⟨t,ex++Xa σ aK,n⟩:St).fs xs)
 aM:qi v f ((aC gl (⟨t,ex++Xa σ aK,n⟩:St).fs xs).map Qh)=some (f,ay σ args)
 nm:ah m args
section
variable {P:Program}{c:Cx}
def Yd2 {v:Bool}{s:St}{f:FuncId}{xs:List TV}{args:List AV}{aK:List (Nat×Bk)}{σ:Nat->Nat}{m n:Nat}{p pc:List Nat}{ι:Type}{Q:ι->Prop}{r:ι->AV}{ax:ι->List (Nat×Bk)}{t:List (Nat×AV)}{ex:List (Nat×Bk)}(hq:GQ P c.gl f args aK m p Q r ax)
  (bf:∀ q ∈ c.gh,q.1 ∈ pc) (ok:EH c.gl s xs v f args σ p pc m t ex aK n) (gJ:∀ x,Q x->HL (ax x) m) (hr:∀ x,Q x->Qe m (r x)) {g0:Nat->GM} {a:Act} {w:World} (l8:R c g0 s.fs a w) :
  ∃ g,R c g (⟨t,ex++Xa σ aK,n⟩:St).fs a w/\∀ vs,bR g (Qm c g (⟨t,ex++Xa σ aK,n⟩:St).fs) w (ay σ args) vs->Calls P f vs.toArray w fun e w'=>∃ x v g3,Q x/\e=.returned v/\R c g3 (⟨t,ex++Xa σ (ax x),n⟩:St).fs a w'/\VR g3 (Qm c g3 (⟨t,ex++Xa σ (ax x),n⟩:St).fs) w' (aA σ (r x)) v:=by
 obtain ⟨g,hR⟩:=ok.to c g0 a w bf l8;refine ⟨g,hR,fun vs hv=>?_⟩;have qj:∀ b,b<m->∀ q ∈ ex,q.1≠σ b:=fun b hb q hq e=>(ok.hex q hq).1 b hb e.symm;have fit:∀ b,b<m->(⟨t,ex++Xa σ aK,n⟩:St).fs.H (σ b)=Qw σ (Qc aK m b):=fun b hb=>by
  show Qc (ex++Xa σ aK) n (σ b)=_;rw[Xo (qj b hb)];exact xk ok.inj hb (fun q hq=>(ok.hl.mem q hq).1) (ok.hl.mh b hb)
 have zN:Fit σ (⟨t,ex++Xa σ aK,n⟩:St).fs aK m:=by
  refine ⟨fun q hq=>⟨(ok.hl.mem q hq).1,(ok.hl.mem q hq).2,?_⟩,fun q hq q' dd e=>ok.inj _ _ (ok.hl.mem q hq).1 (ok.hl.mem q' dd).1 e⟩;rw[fit q.1 (ok.hl.mem q hq).1,ok.hl.self q hq]
 obtain ⟨g1,iR,zn,tN⟩:=IA hR zN;have j7:=Ek (σ:=σ) (g1:=g1) iR tN ok.nm hv;refine (hq.2 w _ _ _ g1 zn j7).mono fun e w' ⟨x,v,g2,hQ,e1,e2,e3,e4⟩=>?_;have hXB:∀ j,mz σ m j->sk (vo σ p m) ((⟨t,ex++Xa σ aK,n⟩:St).fs.H j):=fun j hj=>by
  show sk _ (Qc (ex++Xa σ aK) n j);rcases Jh (ex++Xa σ aK) n j with q|⟨q,hq,rfl,q2⟩
  ·rw[q];split<;>trivial
  ·rw[q2];rcases List.mem_append.1 hq with h|h
   ·exact (ok.hex q h).2
   ·obtain ⟨q',dd,rfl⟩:=mem_map.1 h;exact (hj q'.1 (ok.hl.mem q' dd).1 rfl).elim
 obtain ⟨mw,fS⟩:=Yav (s3:=(⟨t,ex++Xa σ (ax x),n⟩:St).fs) hR ok.inj ok.hl (gJ x hQ) fit (W9 ok.ht) hXB (fun q hq=>ok.pc _ (bf q hq)) iR e3 e2 (fun i=>rfl)
  (fun b hb=>by
   show Qc (ex++Xa σ (ax x)) n (σ b)=_;rw[Xo (qj b hb)];exact xk ok.inj hb (fun q hq=>((gJ x hQ).mem q hq).1) ((gJ x hQ).mh b hb))
  (fun j hj=>EG (by rw[Uc hj fun q hq=>((gJ x hQ).mem q hq).1,Uc hj fun q hq=>(ok.hl.mem q hq).1]))
 exact ⟨x,v,_,hQ,e1,mw,fS (hr x hQ) e4⟩
def Yij {r0:List bD}{K:St->Prop}{s:St}{d:Option Nat}{f:FuncId}{xs:List TV}{args:List AV}{aK:List (Nat×Bk)}{σ:Nat->Nat}{m n:Nat}{p pc:List Nat}{ι:Type}{Q:ι->Prop}{r:ι->AV}{ax:ι->List (Nat×Bk)}(hq:GQ P c.gl f args aK m p Q r ax)
  (bf:∀ q ∈ c.gh,q.1 ∈ pc) (t:List (Nat×AV)) (ex:List (Nat×Bk)) (ok:EH c.gl s xs false f args σ p pc m t ex aK n) (gJ:∀ x,Q x->HL (ax x) m) (hr:∀ x,Q x->Qe m (r x))
  (hk:∀ x,Q x->XP P c r0 K (St.cd ⟨t,ex++Xa σ (ax x),n⟩ d (aA σ (r x)))):Yn P c (.pd d (.call f) xs none) r0 K s:=by
 refine .inr fun ops io he g0 a w l8 K' Q' hK=>?_;obtain ⟨g,hR,eB⟩:=Yd2 hq bf ok gJ hr l8;obtain ⟨aV,a8,hd,ys,aD,rfl⟩:=Zj he;obtain ⟨ts,hop⟩:=BS aD;have hv:=Yi (hR.ci ys) ok.fb;have aM:=ok.aM;simp only[qi,cond_false,Option.some.injEq,Prod.mk.injEq,true_and]at aM;rw[aM]at hv;refine Za (Ji aV) ?_;unfold Oper.wp;rw[BT hq.1 hop];rw[Oper.upon_enter];refine (eB _ hv).mono fun e w' ⟨x,v,g3,hQ,e1,mw,ve⟩=>?_;subst e1;show K' (a.put io.dst v) w';rw[a8];cases d with
 | none=>exact hK g3 _ _ _ (hk x hQ) (mw.uJ v)
 | some d =>
  refine hK g3 ((⟨t,ex++Xa σ (ax x),n⟩:St).put d (aA σ (r x))) _ _ (hk x hQ) ?_;rw[St.bS];exact mw.put (by simpa using hd) ve
end
end Go.Proofs.YtogckmommodmhaaGreatDoor
namespace Go.Proofs.YtogckmommodmhaaGreatDoor
open List (map_cons map_nil)
open Go.RowKit
set_option linter.all false
set_option maxRecDepth 100000
variable {es:Array MapEntry}{o:Oper}{r0:List bD}{xs:List Operand}{K:St->Prop}{a:Act}{s:St}{t:TypeId}{w:World}{k b:Nat}{wide:Bool}{kvs:List (AV×AV)}{bs:List Nat}{ks:List SK}{ck:Nat}{z:AV}
def Ow {α:Type}(l:List α)(i j:Nat)(d:α):(l.eraseIdx i).getD j d=if j<i then l.getD j d else l.getD (j+1) d:=by
 simp only[List.getD,List.getElem?_eraseIdx];split<;>rfl
def EI (es:Array MapEntry)(i j:Nat):(es.eraseIdxIfInBounds i).getD j default=if j<i then es.getD j default else es.getD (j+1) default:=by
 rw[<- tS,<- tS,<- tS,<- Ow];congr 1;unfold Array.eraseIdxIfInBounds;split
 ·simp
 ·rename_i h;rw[List.eraseIdx_of_length_le (by simpa using h)]
def Ox {i:Nat}(hi:i<es.size):(es.eraseIdxIfInBounds i).size=es.size-1:=by
 unfold Array.eraseIdxIfInBounds;rw[dif_pos hi];simp
section
variable {P:Program}{c:Cx}{g:Nat->GM}{s:FS}{a:Act}{w:World}
def Yba (hR:R c g s a w){t t2 ty:TypeId}{wide:Bool}{ks:List SK}{z:AV}(hT:cu P t wide ks z){b:Nat}{kvs:List (AV×AV)}{dn:Bool}(hb:s.H b=.az kvs dn){x:AV}{m v:Value}(hm:VR g (Qm c g s) w (.mp b) m)(hx:VR g (Qm c g s) w x v)
  (lF:Zo wide ks x) (ei:Wt wide ks kvs):∃ w',(Builtin.delete_ #[t,t2] ty #[m,v]).run P w=.ok (.tuple #[]) w'/\R c g (s.aH b (.az (zB kvs x) false)) a w':=by
 obtain ⟨kt,et,zv,hu,hK,hz,rfl⟩:=hT.of;obtain ⟨k,rfl,hg⟩:=yJ hm;obtain ⟨es,clock,q1,q2,q3,q4,q5,q6,q7⟩:=zD hR hb hg;have eg:=IU hK lF hx (kvs:=kvs) (es:=es.toList) (by simpa using q2) ei (fun j hj=>by rw[tS];exact q3 j hj) w;have hck:=IT hK lF hx es.isEmpty w;have en:(getObj k).run P w=.ok (.map es clock) w:=by simp[getObj,Sem.run,q1]
 have fY:=Wn q1;unfold zB;cases hf:fu kvs x with
 | none =>
  rw[hf]at eg;refine ⟨_,?_,hR.kR (kvs':=kvs) (dn':=false) (es':=es) (clock':=clock) hb hg q1 q2 q3 q4 q5 q6 (fun h=>by cases h)⟩;simp only[Builtin.delete_,Sem.run_bind,run_underlying hu,Result.andThen_ok,en,hck,eg,Option.map_none,zE q1,Sem.run_pure,List.getElem?_toArray,List.getElem?_cons_zero,List.getElem?_cons_succ]
 | some i =>
  rw[hf]at eg;obtain ⟨hi,xg⟩:=Ci hf;have gw:i<es.size:=by omega
  have bA:=hR.kR (kvs':=kvs.eraseIdx i) (dn':=false) (es':=es.eraseIdxIfInBounds i) (clock':=clock) hb hg q1 (by rw[Ox gw,List.length_eraseIdx,am hi,q2])
   (fun j hj=>by
    rw[List.length_eraseIdx,am hi]at hj;rw[Ow,EI];split
    ·exact q3 j af
    ·exact q3 (j+1) af)
   (fun j hj=>by
    rw[List.length_eraseIdx,am hi]at hj;rw[Ow,EI];split
    ·exact q4 j af
    ·exact q4 (j+1) af)
   (fun j hj=>by
    rw[Ox gw]at hj;rw[EI];split
    ·exact q5 j af
    ·exact q5 (j+1) af)
   (fun i' j fX hj=>by
    rw[Ox gw]at hj;rw[EI,EI];split<;>split
    ·exact q6 i' j fX af
    ·exact q6 i' (j+1) af af
    ·omega
    ·exact q6 (i'+1) (j+1) af af) (fun h=>by cases h)
  refine ⟨_,?_,bA⟩;simp only[Builtin.delete_,Sem.run_bind,run_underlying hu,Result.andThen_ok,en,hck,eg,Option.map_some,zE q1,Sem.run_pure,List.getElem?_toArray,List.getElem?_cons_zero,List.getElem?_cons_succ]
end
section
variable {P:Program}{c:Cx}{ops:Array Oper}{io:Oper}
def Xyg (h:Xs P o=some (.del t,xs)):∃ x y t2,o.op=.call ⟨.builtin .delete,⟨[x,y]⟩,⟨[t,t2]⟩⟩/\xs=[x,y]:=by
 unfold Xs at h
 repeat' split at h
 all_goals first
  | (cases h;exact ⟨_,_,_,by assumption,rfl⟩)
  | (simp at h;done)
  | (cases h;done)
  | (simp[Option.map_eq_some_iff]at h;done)
def Xtw (h:Xs P o=some (.MD t,xs)):∃ x,o.op=.range t x/\xs=[x]:=by
 unfold Xs at h
 repeat' split at h
 all_goals first
  | (cases h;exact ⟨_,by assumption,rfl⟩)
  | (simp at h;done)
  | (cases h;done)
  | (simp[Option.map_eq_some_iff]at h;done)
def Xvr (h:Xs P o=some (.bG,xs)):∃ x,o.op=.next x false/\xs=[x]:=by
 unfold Xs at h
 repeat' split at h
 all_goals first
  | (cases h;exact ⟨_,by assumption,rfl⟩)
  | (simp at h;done)
  | (cases h;done)
  | (simp[Option.map_eq_some_iff]at h;done)
def Xu4 (h:Xs P o=some (.ME,xs)):∃ x,o.op=.entry x/\xs=[x]:=by
 unfold Xs at h
 repeat' split at h
 all_goals first
  | (cases h;exact ⟨_,by assumption,rfl⟩)
  | (simp at h;done)
  | (cases h;done)
  | (simp[Option.map_eq_some_iff]at h;done)
def Ydm {s:FS}{b:Nat}{X:Bk}{rt rb:List Nat}(hg:io.guard=none)(a8:io.dst=none)
  (core:∀ s2:FS,(∀ i ∈ rt,s2.T i=s.T i)->(∀ b ∈ rb,s2.H b=s.H b)->∀ g a w,R c g s2 a w->∃ g' v' w',(execOp a.eval io).run P w=.ok (.value v') w'/\R c g' (s2.aH b X) a w') :
  kD P c ops io s ⟨rt,rb,[],[b]⟩ (s.aH b X):=by
 refine ⟨fun i hi=>rfl,fun j hj=>?_,fun s2 hT hH g a w hR K Q' hK=>Za hg ?_⟩
 ·rw[FS.a7,aa (fun e=>hj (by simp[e]))]
 ·obtain ⟨g',v',w',hr,bc⟩:=core s2 hT hH g a w hR;unfold Oper.wp;rw[hr];show K (a.put io.dst v') w';rw[a8];refine hK g' _ w' ?_;rw[DI];exact bc
noncomputable def EJ (s:FS)(vs:List AV):Bk:=.az (zB (iU (s.H (eJ vs))) (nn vs)) false
def XA {xs:List TV}    (hT:cu P t wide ks z)(hc:Qq none (aC c.gl s.fs xs))(aS:qh s.fs wide ks ((aC c.gl s.fs xs).map Qh)) :
  Kn P c (.pd none (.del t) xs none) s.fs (Wm s.fs c.gl xs [] true) (s.aH (eJ ((aC c.gl s.fs xs).map Qh)) (EJ s.fs ((aC c.gl s.fs xs).map Qh))).fs:=by
 intro ops io he;obtain ⟨aV,a8,hd,ys,aD,rfl⟩:=Zj he;obtain ⟨m,k,t2,hop,rfl⟩:=Xyg aD;have ea:(aC c.gl s.fs ([m,k].map aP)).map Qh=[Qh (aU c.gl s.fs (aP m)),Qh (aU c.gl s.fs (aP k))]:=rfl;unfold Wm;rw[ea]at aS ⊢;generalize IX:Qh (aU c.gl s.fs (aP m))=vm at *
 generalize zc:Qh (aU c.gl s.fs (aP k))=vk at *
 obtain ⟨h1,h2,h3,h4⟩:=aS;obtain ⟨b,r,hb⟩:=Ey h1;injection hb with eM hb2
 subst eM;obtain ⟨kvs,dn,iT⟩:=Ez h2;simp only[EJ,eJ,nn,cond_true]at h3 h4 iT ⊢;rw[iT]at h4 ⊢;simp only[iU]at h4 ⊢;rw[St.cj];refine Ydm (Ji aV) a8 fun s2 kS pg g a w hR=>?_;have bj:aC c.gl s2 ([m,k].map aP)=aC c.gl s.fs ([m,k].map aP):=Ya kS;have eP:=Yi (hR.ci [m,k]) (by rw[bj];exact hc);rw[bj,ea]at eP;obtain ⟨v1,v2,_⟩:=eP;obtain ⟨w',hr,bc⟩:=Yba hR hT (t2:=t2) (ty:=io.type) (b:=b) (kvs:=kvs) (dn:=dn) (by rw[pg b aw,iT]) v1 v2 h3 h4;refine ⟨g,.tuple #[],w',?_,bc⟩;unfold execOp;simp only[hop,resolve,invoke,builtin,Sem.run_bind,Sem.run_pure,Result.andThen_ok,List.map_toArray,map_cons,map_nil];rw[show (Builtin.delete_ { toList:=[t,t2] } io.type #[a.eval m,a.eval k]).run P w=_ from hr];rfl
def Yh3 {xs:List TV}    (hT:cu P t wide ks z)(h:Qq none (aC c.gl s.fs xs)/\qh s.fs wide ks ((aC c.gl s.fs xs).map Qh)/\XP P c r0 K (s.aH (eJ ((aC c.gl s.fs xs).map Qh)) (EJ s.fs ((aC c.gl s.fs xs).map Qh)))) :
  Yn P c (.pd none (.del t) xs none) r0 K s:=.inl ⟨_,_,XA hT h.1 h.2.1,h.2.2⟩
def Yac {anc:List Nat}{fs:List bg}     {xs:List TV}    (hT:cu P t wide ks z)(h:Qq none (aC c.gl s.fs xs)/\qh s.fs wide ks ((aC c.gl s.fs xs).map Qh)/\XD P c anc r0 (Wm s.fs c.gl xs [] true::fs) K (s.aH (eJ ((aC c.gl s.fs xs).map Qh)) (EJ s.fs ((aC c.gl s.fs xs).map Qh)))) :
  Zm P c anc (.pd none (.del t) xs none) r0 fs K s:=⟨_,_,XA hT h.1 h.2.1,h.2.2⟩
attribute [go_sem] EJ
def Oy (bs:List Nat)(n ck:Nat):Prop:=bs.length=n/\(∀ i j,i<j->j<n->bs.getD i 0<bs.getD j 0)/\∀ i,i<n->bs.getD i 0<ck
def I3 (j:Nat)(hj:j<es.size):(es.toList.map (·.born)).getD j 0=(es.getD j default).born:=by
 simp[List.getD,Array.getD_eq_getD_getElem?,hj]
def R.toX {g:Nat->GM}{s:FS}   (hR:R c g s a w)   {dn:Bool}(hb:s.H b=.az kvs dn):∃ bs ck,Oy bs kvs.length ck/\R c g (s.aH b (.bp kvs bs ck)) a w:=by
 have h:=hR.h b;rw[hb]at h;generalize hg:g b=m at h;cases h with
 | az h1 h2 h3 h4 h5 h6 h7 =>
  rename_i k es clock;refine ⟨es.toList.map (·.born),clock,⟨by simpa using h2,fun i j fX hj=>?_,fun i hi=>?_⟩,hR.setBlock hg (by rw[hb];trivial) trivial (Fr.refl _ _) (.bp h1 h2 h3 h4 h5 h6 rfl)⟩
  ·rw[I3 i af,I3 j af];exact h6 i j fX af
  ·rw[I3 i af];exact h5 i af
def Oz {g:Nat->GM}{s:FS}   (hR:R c g s a w)     (hb:s.H b=.bp kvs bs ck)(hg:g b=.re k):∃ es,w.heap[k]?=some (.map es ck)/\es.size=kvs.length /\
  (∀ j,j<kvs.length->VR g (Qm c g s) w (kvs.getD j (.any,.any)).1 (es.getD j default).key)/\(∀ j,j<kvs.length->VR g (Qm c g s) w (kvs.getD j (.any,.any)).2 (es.getD j default).val) /\
  (∀ j,j<es.size->(es.getD j default).born<ck)/\(∀ i j,i<j->j<es.size->(es.getD i default).born<(es.getD j default).born)/\(∀ j,j<es.size->(es.getD j default).born=bs.getD j 0)/\bs.length=kvs.length:=by
 have:=hR.h b;rw[hb,hg]at this;cases this with
 | bp h1 h2 h3 h4 h5 h6 h7=>exact ⟨_,h1,h2,h3,h4,h5,h6,fun j hj=>by rw[<- h7,I3 j hj],by rw[<- h7];simpa using h2⟩
def XB {g:Nat->GM}{s:FS}   (hR:R c g s a w){bi k b ck:Nat}{seen:List Nat}(hb:s.H bi=.iter b ck seen)(hg:g bi=.re k):∃ m,w.heap[k]?=some (.mapIter (some m) ck seen.toArray ck)/\g b=.re m:=by
 have:=hR.h bi;rw[hb,hg]at this;cases this with
 | iter h1 h2=>exact ⟨_,h1,h2⟩
def R.I4 {g:Nat->GM}{s:FS}   (hR:R c g s a w)     (hb:s.H b=.bp kvs bs ck):R c g (s.aH b (.az kvs false)) a w:=by
 have h:=hR.h b;rw[hb]at h;generalize hg:g b=m at h;cases h with
 | bp h1 h2 h3 h4 h5 h6 h7=>exact hR.setBlock hg (by rw[hb];trivial) trivial (Fr.refl _ _) (.az h1 h2 h3 h4 h5 h6 fun h=>by cases h)
def To.I4 {p:List Nat}      (hb:s.fs.H b=.bp kvs bs ck):To p s (s.aH b (.az kvs false)):=fun c g a w _ hR=>⟨g,by rw[St.cj];exact hR.I4 hb⟩
def XC {r0:List bD}{K:St->Prop}{s:St}{d:Nat}{t:TypeId}{x:TV}{b:Nat}{kvs:List (AV×AV)}{dn wide:Bool}{ks:List SK}{z:AV}(hT:cu P t wide ks z)(hx:aU c.gl s.fs x=.mp b)(hb:s.fs.H b=.az kvs dn)(hf:s.fs.H s.n=.free)
  (h:∀ bs ck,Oy bs kvs.length ck->XP P c r0 K (((s.aH b (.bp kvs bs ck)).nw (.iter b ck [])).put d (.ptr s.n 0))):Yn P c (.pd (some d) (.MD t) [x] none) r0 K s:=by
 refine .inr fun ops io he g a w hR K' Q' hK=>?_;obtain ⟨aV,a8,hd,ys,aD,n5⟩:=Zj he;obtain ⟨y,hop,rfl⟩:=Xtw aD;obtain rfl:x=aP y:=by simpa using n5
 obtain ⟨kt,et,zv,hu,_,_,_⟩:=hT.of;have hv:=Yi (hR.ci [y]) (by
  show Qq none (aC c.gl s.fs [aP y]);simp only[aC,map_cons,map_nil,hx];simp[Qq,fb])
 have hv:VR g (Qm c g s.fs) w (.mp b) (a.eval y):=by
  have e:(aC c.gl s.fs ([y].map aP)).map Qh=[.mp b]:=by
   show [Qh (aU c.gl s.fs (aP y))]=_;rw[hx];rfl
  rw[e]at hv;exact hv.1
 obtain ⟨k,e1,hg⟩:=yJ hv;obtain ⟨bs,ck,dW,gp⟩:=hR.toX hb;obtain ⟨es,q1,q2,_⟩:=Oz gp (b:=b) (k:=k) (kvs:=kvs) (bs:=bs) (ck:=ck) (by rw[FS.a7,am rfl]) hg;have cb:b≠s.n:=by rintro rfl;rw[hb]at hf;cases hf
 have bq:(s.fs.aH b (.bp kvs bs ck)).H s.n=.free:=by rw[FS.a7,aa cb];exact hf
 have cq:=gp.new (.mapIter (some k) ck #[] ck) bq (x:=.iter b ck []) trivial fun g' fF=>.iter (heap_alloc_new w _) (by rw[fF b (by rw[hg];intro x;cases x)];exact hg);refine Za (Ji aV) ?_;have hrun:(execOp a.eval io).run P w=.ok (.value (.pointer (some ⟨w.heap.size,0,none⟩))) (w.alloc (.mapIter (some k) ck #[] ck)):=by
  unfold execOp;simp[hop,Instr.range,run_underlying hu,e1,getObj,newObj,Sem.run,Sem.run_bind,q1]
 unfold Oper.wp;rw[hrun];show K' (a.put io.dst _) _;rw[a8];refine hK (Zg g s.n (.re w.heap.size)) _ _ _ (h bs ck dW) ?_;rw[St.bS,St.iw,St.cj];exact cq.put (by simpa using hd) (.ptr (by simp[Zg]))
def Xxt {m:Option Nat}{s0 c0:Nat}{se:Array Nat}(o':Obj)(hk:w.heap[k]?=some (.mapIter m s0 se c0)):Fr w (ChangeMaps.setBlock w k o') (fun i=>i=k) :=
 ⟨rfl,rfl,rfl,by simp[ChangeMaps.setBlock],fun i _ cb=>by simp only[ChangeMaps.setBlock,Array.getElem?_setIfInBounds];rw[aa fun e=>cb e.symm],fun i cur e fz hi=>by
  by_cases h:i=k
  ·subst h;rw[hk]at hi;cases hi
  ·exact ⟨cur,by simp only[ChangeMaps.setBlock,Array.getElem?_setIfInBounds];rw[aa fun e=>h e.symm];exact hi,rfl⟩⟩
def XE {r0:List bD}{K:St->Prop}{s:St}{d:Nat}{x:TV}{bi b ck:Nat}{seen bs:List Nat}{kvs:List (AV×AV)}(hx:aU c.gl s.fs x=.ptr bi 0)(hi:s.fs.H bi=.iter b ck seen)(hb:s.fs.H b=.bp kvs bs ck)
  (h0:(∀ i,i<kvs.length->bs.getD i 0 ∈ seen)->XP P c r0 K (s.put d (.aR [.bool false])))
  (h1:∀ i,i<kvs.length->bs.getD i 0 ∉ seen->XP P c r0 K ((s.aH bi (.iter b ck (seen++[bs.getD i 0]))).put d (.aR [.bool true,(kvs.getD i (.any,.any)).1,(kvs.getD i (.any,.any)).2]))):Yn P c (.pd (some d) .bG [x] none) r0 K s:=by
 refine .inr fun ops io he g a w hR K' Q' hK=>?_;obtain ⟨aV,a8,hd,ys,aD,n5⟩:=Zj he;obtain ⟨y,hop,rfl⟩:=Xvr aD;obtain rfl:x=aP y:=by simpa using n5
 have hv:=Yi (hR.ci [y]) (by
  show Qq none (aC c.gl s.fs [aP y]);simp only[aC,map_cons,map_nil,hx];simp[Qq,fb])
 have hv:VR g (Qm c g s.fs) w (.ptr bi 0) (a.eval y):=by
  have e:(aC c.gl s.fs ([y].map aP)).map Qh=[.ptr bi 0]:=by
   show [Qh (aU c.gl s.fs (aP y))]=_;rw[hx];rfl
  rw[e]at hv;exact hv.1
 obtain ⟨k,e1,hg⟩:∃ k,a.eval y=.pointer (some ⟨k,0,none⟩)/\g bi=.re k:=by
  generalize a.eval y=u at hv;cases hv;exact ⟨_,rfl,by assumption⟩
 obtain ⟨m,q1,bW⟩:=XB hR hi hg;obtain ⟨es,p1,p2,p3,p4,p5,p6,p7,p8⟩:=Oz hR hb bW;refine Za (Ji aV) ?_;have hrun:=run_next_at (P:=P) w io.type k m ck ck seen.toArray es ck q1 p1 (fun x hx=>by
  obtain ⟨j,hj,rfl⟩:=List.getElem_of_mem hx;have eI:j<es.size:=by simpa using hj
  have:=p5 j eI;simp only[Array.getD_eq_getD_getElem?,Array.getElem?_eq_getElem eI,Option.getD_some]at this;simpa using this) (Nat.le_refl _)
 have pj:∀ r w',(Instr.next (.pointer (some ⟨k,0,none⟩)) false io.type).run P w=.ok r w'->(execOp a.eval io).run P w=.ok (.value r) w':=fun r w' h=>by
  unfold execOp;simp only[hop,e1];exact Zx h
 unfold Oper.wp;rcases hrun with ⟨hz,hr⟩|⟨e,lC,w1,fM,hr⟩
 ·rw[pj _ _ hr];show K' (a.put io.dst _) _;rw[a8];refine hK g _ _ _ (h0 fun i hi=>?_) (by
   rw[St.bS];refine hR.put (by simpa using hd) (.aR rfl fun j hj=>?_);have:j=0:=by simp at hj;omega
   subst this;exact .bool _)
  ·have hl:leftOf es seen.toArray=#[]:=Array.eq_empty_of_size_eq_zero hz;have gw:i < es.size:=by omega
   have:=Array.filter_eq_empty_iff.1 hl es[i] (Array.getElem_mem gw);have bL:=p7 i gw;simp only[Array.getD_eq_getD_getElem?,Array.getElem?_eq_getElem gw,Option.getD_some]at bL;rw[<- bL];simpa using this
 ·obtain ⟨vp,OA⟩:e ∈ es.toList/\e.born ∉ seen:=by
   unfold leftOf at lC;simp at lC;exact ⟨by simpa using lC.1,lC.2⟩
  obtain ⟨i,nV,rfl⟩:=List.getElem_of_mem vp;have gw:i<es.size:=by simpa using nV
  have heq:es.toList[i]=es.getD i default:=by simp[Array.getD_eq_getD_getElem?,gw]
  have vq:=p7 i gw;rw[heq]at OA hr;rw[vq]at OA;rw[pj _ _ hr];show K' (a.put io.dst _) _;rw[a8];have hRw:R c g s.fs a w1:=by
   rcases fM with rfl|rfl
   ·exact hR
   ·exact hR.grow (Fr.drew w _)
  have XF:w1.heap[k]?=some (.mapIter (some m) ck seen.toArray ck):=by rcases fM with rfl|rfl<;>exact q1
  have aO:(s.fs.H bi).live:=by rw[hi];trivial
  have fY:=Wn XF;have wX:Qm c g s.fs k:=.inr ⟨bi,aO,hg⟩;have hf:=Xxt (.mapIter (some m) ck (seen.toArray.push (es.getD i default).born) ck) XF;have mw:=hRw.setBlock (x:=.iter b ck (seen++[bs.getD i 0])) hg aO trivial hf (.iter (m:=m) (by
   rw[vq,<- List.push_toArray];simp[ChangeMaps.setBlock,fY]) bW)
  refine hK g _ _ _ (h1 i af OA) (by
   rw[St.bS,St.cj];refine mw.put (by simpa using hd) (.aR rfl fun j hj=>?_);have hm:∀ {x v},VR g (Qm c g s.fs) w x v->VR g (Qm c g (s.fs.aH bi (.iter b ck (seen++[bs.getD i 0])))) (ChangeMaps.setBlock w1 k (.mapIter (some m) ck (seen.toArray.push (es.getD i default).born) ck)) x v:=fun h =>
    (h.mono (w':=w1) (W':=Qm c g s.fs) (by rcases fM with rfl|rfl;exact Fr.refl _ _;exact Fr.drew _ _) (fun _ _ h=>h) (fun _ _=>rfl)).xi aO trivial (hf.weak fun q hq=>by rw[hq];exact hg)
   have hj3:j<3:=hj;rcases (by omega:j=0\/j=1\/j=2) with rfl|rfl|rfl
   ·exact .bool _
   ·exact hm (p3 i af)
   ·exact hm (p4 i af))
def XH {r0:List bD}{K:St->Prop}{s:St}{d:Nat}{x:TV}{bi b ck i:Nat}{seen bs:List Nat}{kvs:List (AV×AV)}(hx:aU c.gl s.fs x=.ptr bi 0)(hi:s.fs.H bi=.iter b ck (seen++[bs.getD i 0]))(hb:s.fs.H b=.bp kvs bs ck)(cO:i<kvs.length)
  (h:XP P c r0 K (s.put d (.aR [(kvs.getD i (.any,.any)).1,(kvs.getD i (.any,.any)).2]))):Yn P c (.pd (some d) .ME [x] none) r0 K s:=by
 refine .inr fun ops io he g a w hR K' Q' hK=>?_;obtain ⟨aV,a8,hd,ys,aD,n5⟩:=Zj he;obtain ⟨y,hop,rfl⟩:=Xu4 aD;obtain rfl:x=aP y:=by simpa using n5
 have hv:=Yi (hR.ci [y]) (by
  show Qq none (aC c.gl s.fs [aP y]);simp only[aC,map_cons,map_nil,hx];simp[Qq,fb])
 have hv:VR g (Qm c g s.fs) w (.ptr bi 0) (a.eval y):=by
  have e:(aC c.gl s.fs ([y].map aP)).map Qh=[.ptr bi 0]:=by
   show [Qh (aU c.gl s.fs (aP y))]=_;rw[hx];rfl
  rw[e]at hv;exact hv.1
 obtain ⟨k,e1,hg⟩:∃ k,a.eval y=.pointer (some ⟨k,0,none⟩)/\g bi=.re k:=by
  generalize a.eval y=u at hv;cases hv;exact ⟨_,rfl,by assumption⟩
 obtain ⟨m,q1,bW⟩:=XB hR hi hg;obtain ⟨es,p1,p2,p3,p4,p5,p6,p7,p8⟩:=Oz hR hb bW;have gw:i<es.size:=by omega
 refine Za (Ji aV) ?_;have hrun:=run_entry_at (P:=P) w k m ck seen.toArray es ck (es.getD i default) (by rw[p7 i gw,List.push_toArray];exact q1) p1 (by
  rw[<- tS];have:i<es.toList.length:=by simpa using gw
  simp only[List.getD,List.getElem?_eq_getElem this,Option.getD_some];exact List.getElem_mem _) (by
  rw[List.nodup_iff_pairwise_ne,List.pairwise_iff_getElem];intro x y I5 OB OC;simp only[List.length_map,Array.length_toList]at I5 OB;have:=p6 x y OC OB;simp only[List.getElem_map,Array.getElem_toList];simp only[Array.getD_eq_getD_getElem?,Array.getElem?_eq_getElem I5,Array.getElem?_eq_getElem OB,Option.getD_some]at this;omega)
 have pj:(execOp a.eval io).run P w=.ok (.value (.tuple #[(es.getD i default).key,(es.getD i default).val])) w:=by
  unfold execOp;simp only[hop,e1];exact Zx hrun
 unfold Oper.wp;rw[pj];show K' (a.put io.dst _) _;rw[a8];refine hK g _ _ _ h (by
  rw[St.bS];refine hR.put (by simpa using hd) (.aR rfl fun j hj=>?_);have eI:j<2:=hj;rcases (by omega:j=0\/j=1) with rfl|rfl
  ·exact p3 i cO
  ·exact p4 i cO)
end
def Yjv {FP:Prop}{p q:Prop}(fp:FP)(k:q)(h:FP->cV q->p:=by (intro zp zk;((first|refine Yh3 zp ?_|refine Yac zp ?_);(refine XG ?_;((try with_reducible and_intros);all_goals try first|refine zm ?_|exact CL)));exact zk.it)):p:=h fp ⟨k⟩
def OD {FP:Prop}{F:Prop}{p q:Prop}(fp:FP)(f:F)(k:q)(h:FP->F->cV q->p:=by (intro zp aQ zk;exact Yjv zp zk.it)):p:=h fp f ⟨k⟩
end Go.Proofs.YtogckmommodmhaaGreatDoor
