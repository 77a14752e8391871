import Derived.Test.YtogckmommodmhaaGreatDoorZx5
namespace Go.Proofs.YtogckmommodmhaaGreatDoor
open List (length_append map_toArray map_cons map_nil mem_map all_eq_true mem_cons map_congr_left map_id cons_append)
open Go.RowKit
set_option linter.all false
set_option maxRecDepth 100000
variable {anc:List Nat}{kt:TypeId}{o:Oper}{p:List Nat}{k:Nat}{r0:List bB}{cs:List AV}{es:Array MapEntry}{b:Nat}{s' s:St}{K:St->Prop}{kvs:List (AV×AV)}{t:TypeId}{d i:Nat}{wide:Bool}{x:AV}{clock:Nat}{dn:Bool}{xs:List TV}{y:AV}{u v:Value}{z:AV}(j:Nat)
def zK:Bk->Prop
 | .cells _=>True
 | _=>False
def WU {x:Bk}(h:zK x):x.live:=by cases x<;>first|exact h.elim|trivial
theorem Yim (cs:List AV):zK (.cells cs)=True:=rfl
attribute [go_sem] Yim
section
variable {P:Program}{c:Cx}{ops:Array Oper}{io:Oper}
def Xv1 {es:Nat}{lo hi:Bool}{xs:List Operand}(h:Xt P o=some (.Ih es lo hi,xs)):∃ t x l h' mx e,o.op=.slice t x l h' (some mx)/\P.underlying t=some (.slice e)/\Zt P e=some es/\l.isSome=lo/\h'.isSome=hi/\xs=x::(l.toList++h'.toList++[mx]):=by
 unfold Xt at h
 repeat' split at h
 all_goals first
  | (simp only[Option.map_eq_some_iff,Prod.mk.injEq,PK.Ih.injEq]at h;obtain ⟨es',h1,⟨rfl,rfl,rfl⟩,rfl⟩:=h;exact ⟨_,_,_,_,_,_,by assumption,by assumption,h1,rfl,rfl,rfl⟩)
  | (simp at h;done)
  | (cases h;done)
  | (simp[Option.map_eq_some_iff]at h;done)
def I2 {g:Nat->GM}{W:Nat->Prop}{w:World}{k:IntKind}{n:Int}  (h:VR g W w (.int k n) v):v=.int k n:=by cases h;rfl
def Yc5 {es b off n cc:Nat}{k1 k2 k3:IntKind}{i j m:Int}(h0:0<=i)(h1:i<=j)(h2:j<=m)(h3:m<=cc):kS P c (.Ih es true true) [.sl es b off n cc,.int k1 i,.int k2 j,.int k3 m] .any:=by
 intro o ys aE g W a w _ _ hv K Q hK;obtain ⟨t,x,l,h',mx,e,hop,hu,dj,hl,hh,rfl⟩:=Xv1 aE;obtain ⟨lo,rfl⟩:=Option.isSome_iff_exists.1 hl;obtain ⟨hi,rfl⟩:=Option.isSome_iff_exists.1 hh;obtain ⟨hx,kh,ec,vq,_⟩:=hv;have he:P.elem t=e:=by simp[Program.elem,hu]
 have kV:∀ (ad:Option Addr) (len cap:Nat),cc<=cap->a.eval x=.slice ad len cap->∃ v,(execOp a.eval o).run P w=.ok (.value v) w:=by
  intro ad len cap hcap hx;have e1:a.eval lo=.int k1 i:=I2 kh;have e2:a.eval hi=.int k2 j:=I2 ec;have e3:a.eval mx=.int k3 m:=I2 vq;refine ⟨sliced ad i.toNat j.toNat m.toNat es,?_⟩;simp only[execOp,hop];refine Zy ?_;simp only[Option.map_some,hx,e1,e2,e3];rw[run_sliceAt_slice _ _ _ _ _ _ (by rw[he];exact hu),run_slice_lhm _ _ _ _ _ (by rw[he];exact hu) k1 k2 k3 i j m h0 h1 h2 af,he,Kc dj];rfl
 have b9:∃ v,(execOp a.eval o).run P w=.ok (.value v) w:=by
  rcases qW hx with ⟨k,cap,e',cur,fz,e1,_,_,q2,_,_,_⟩|⟨ad,e1,_,_,q⟩
  ·exact kV _ _ cap q2 e1
  ·exact kV _ _ 0 af e1
 obtain ⟨v,hr⟩:=b9;unfold Oper.wp;rw[hr];exact hK _ _ (Fr.refl _ _) (.any _)
variable {g:Nat->GM}{s:FS}{a:Act}{w:World}
def Xp5 (hR:R c g s a w){t u ty e:TypeId}{i:TypeInfo}{z:Value}{es:Nat}(ht:P.underlying t=some (.slice e))(hu:u=t\/P.underlying u=some .string)(hi:P.info? e=some i)(hz:i.zero=some z)(dj:i.size=es)(lN:z.cells.size=es)
  {b n cc:Nat} {vx:AV} {ub ux:Value} {str:Bool} (hb:VR g (Qm c g s) w (.sl es b 0 n cc) ub) (hx:VR g (Qm c g s) w vx ux) (hl:n*es<=(Zc (s.H b)).length) (iN:zK (s.H b)) (zu:my s es str vx) (eC:n+Xf vx<=cc) :
  ∃ v' w',(Builtin.append_ #[t,u] ty #[ub,ux]).run P w=.ok v' w'∧R c g (s.aI b (.cells (Xu s es (.sl es b 0 n cc)++Xu s es vx))) a w' ∧
   VR g (Qm c g (s.aI b (.cells (Xu s es (.sl es b 0 n cc)++Xu s es vx)))) w' (.sl es b 0 (n+Xf vx) cc) v':=by
 have aO:=WU iN;obtain ⟨news,q1,q2,q3,q4,q5,q6⟩:=IC (P:=P) hR hx zu;obtain ⟨dZ,o1,o2,o3,o4,o5,o6⟩:=IC (P:=P) (str:=false) hR hb (x:=.sl es b 0 n cc) ⟨rfl,rfl,by simpa using hl⟩;simp only[NQ]at o1 o2 o3 o4 o6;rcases qW hb with ⟨k,cap,e',cur,fz,rfl,h1,h2,h3,h4,h5,h6⟩|⟨ad,rfl,h1,rfl,rfl⟩
 ·have hlen:(dZ++news).length=(n + Xf vx) * es:=by rw[length_append,o3,q3,Nat.add_mul]
  have w5:(Xu s es (.sl es b 0 n cc)++Xu s es vx).length=(n+Xf vx)*es:=by rw[length_append,o4,q4,Nat.add_mul]
  have yU:∀ v ∈ dZ++news,v.oneCell'=true:=fun v hv=>(List.mem_append.1 hv).elim (o5 v) (q5 v);have IE:∀ j,j<(n+Xf vx)*es->VR g (Qm c g s) w ((Xu s es (.sl es b 0 n cc)++Xu s es vx).getD j .any) ((dZ++news).getD j undef):=fun j hj=>by
   by_cases iu:j<n*es
   ·have:=o6 j iu;simp only[List.getD,List.getElem?_append_left (show j<(Xu s es (.sl es b 0 n cc)).length by omega),List.getElem?_append_left (show j<dZ.length by omega)]at this ⊢;exact this
   ·have:=q6 (j-n*es) (by rw[Nat.add_mul]at hj;omega);simp only[List.getD,List.getElem?_append_right (show (Xu s es (.sl es b 0 n cc)).length<=j by omega),List.getElem?_append_right (show dZ.length<=j by omega),o3,o4]at this ⊢;exact this
  have ss:n+Xf vx<=cap:=by omega
  have dk:=hR.h b;rw[h1]at dk;have qZ:fz=(0,0)\/cur.size<=fz.1:=by
   cases hh:s.H b with
   | cells cs=>rw[hh]at dk;cases dk with|cells bL _ _ _ hf=>rw[h5]at bL;cases bL;exact hf
   | az kvs dn=>rw[hh]at dk;cases dk with|az bL=>rw[h5]at bL;cases bL
   | bp kvs bs ck=>rw[hh]at dk;cases dk with|bp bL=>rw[h5]at bL;cases bL
   | iter b0 ck seen=>rw[hh]at dk;cases dk with|iter bL=>rw[h5]at bL;cases bL
   | dM ls=>rw[hh]at iN;exact iN.elim
   | free=>rw[hh]at aO;exact aO.elim
   | dead=>rw[hh]at aO;exact aO.elim
  have hmul:(n+Xf vx)*es<=cap*es:=Nat.mul_le_mul_right _ ss;have iM:n*i.size+news.length<=cur.size:=by rw[dj,q3,<- Nat.add_mul];omega
  have hr:=VG (ty:=ty) (P:=P) ht hu hi k n cap ux (Xf vx) news cur e' fz w q1 h5 qZ (by rw[dj];exact q2) q5 ss iM;rw[dj]at hr;have hnc:n*es<=cap*es:=Nat.mul_le_mul_right es (Nat.le_trans h2 h3);have holds:dZ=cur.toList.take (n*es):=by
   have a1:=o2 w rfl;have a2:=run_firstCells_some (P:=P) w es n ⟨k,0,none⟩ n cap (cur.toList.take (n*es)) (by simp;omega) (by have:=NR h5 (o:=0) (n:=n*es) af w rfl;simpa using this);rw[a1]at a2;simpa using a2
  have cE:(cur.toList.take (n*es)++news++cur.toList.drop (n*es+news.length)).toArray.size=cur.size:=by
   rw[dj]at iM;simp;omega
  have a6:∀ j,j<(n+Xf vx)*es->(cur.toList.take (n*es)++news++cur.toList.drop (n*es+news.length)).toArray.getD j undef=(dZ++news).getD j undef:=fun j hj=>by
   rw[<- holds];simp only[Array.getD_eq_getD_getElem?,List.getD,List.getElem?_toArray];rw[List.getElem?_append_left af]
  have hf:=VK (new:=(cur.toList.take (n*es)++news++cur.toList.drop (n*es+news.length)).toArray) h5 cE;have w7:Qm c g s k:=.inr ⟨b,aO,h1⟩;have bw:=hR.setBlock (x:=.cells (Xu s es (.sl es b 0 n cc)++Xu s es vx)) h1 aO trivial hf (by
   refine .cells (cur:=(cur.toList.take (n*es)++news++cur.toList.drop (n*es+news.length)).toArray) (e:=e') (fz:=fz) (setRow_heap w k cur _ e' fz h5) af (fun j hj=>?_) (fun j hj=>?_) (by rw[cE];exact qZ)
   ·rw[a6 j af];have dd:j < (dZ++news).length:=by omega
    simp only[List.getD,List.getElem?_eq_getElem dd,Option.getD_some];exact yU _ (List.getElem_mem dd)
   ·rw[a6 j af];exact (IE j af).mono (hf.weak fun i hi=>hi ▸ w7) (fun _ _ h=>h) (fun _ _=>rfl))
  exact ⟨_,_,hr,bw,.sl (k:=k) (e:=e') (fz:=fz) h1 eC h3 h4 (setRow_heap w k cur _ e' fz h5) (by rw[cE];exact h6)⟩
 ·have hm:Xf vx=0:=by omega
  rw[hm]at q1 q2 q3 q4;have hn:news=[]:=List.eq_nil_of_length_eq_zero af;have hc:Xu s es vx=[]:=List.eq_nil_of_length_eq_zero af;have ny:Xu s es (.sl es b 0 0 0)=[]:=List.eq_nil_of_length_eq_zero af;subst hn;have hr:=VH (P:=P) (ty:=ty) ht hu hi ad 0 0 ux w q1 (by rw[dj];exact q2) (Nat.le_refl _);have xl:s.H b=.cells []:=by
   have dk:=hR.h b;rw[h1]at dk;cases hh:s.H b with
   | cells cs=>rw[hh]at dk;cases dk;rfl
   | az kvs dn=>rw[hh]at dk;cases dk
   | bp kvs bs ck=>rw[hh]at dk;cases dk
   | iter b0 ck seen=>rw[hh]at dk;cases dk
   | dM ls=>rw[hh]at iN;exact iN.elim
   | free=>rw[hh]at aO;exact aO.elim
   | dead=>rw[hh]at aO;exact aO.elim
  have hs:s.aI b (.cells (Xu s es (.sl es b 0 0 0)++Xu s es vx))=s:=by
   rw[hc,ny];refine pj (fun _=>rfl) fun j=>?_;rw[FS.a8];split
   ·rename_i h;subst h;rw[xl];rfl
   ·rfl
  rw[hs,hm];exact ⟨_,_,hr,hR,.kH h1 rfl⟩
def ED (s:FS)(es:Nat)(str:Bool):List AV->Prop
 | [.sl es2 b o n cc,vx]=>es2=es/\o=0/\n*es<=(Zc (s.H b)).length/\zK (s.H b)/\my s es str vx/\n+Xf vx<=cc
 | _=>False
def On (es:Nat):List AV->AV
 | [.sl _ b _ n cc,vx]=>.sl es b 0 (n+Xf vx) cc
 | _=>.any
def EE:List AV->Nat
 | .sl _ b _ _ _::_=>b
 | _=>0
theorem Xwa (s:FS)(es es2 b o n cc:Nat)(str:Bool)(vx:AV):ED s es str [.sl es2 b o n cc,vx]=(es2=es/\o=0/\n*es<=(Zc (s.H b)).length/\zK (s.H b)/\my s es str vx/\n+Xf vx<=cc):=rfl
theorem Yb4 (es es2 b o n cc:Nat)(vx:AV):On es [.sl es2 b o n cc,vx]=.sl es b 0 (n+Xf vx) cc:=rfl
theorem Ycb (es2 b o n cc:Nat)(r:List AV):EE (.sl es2 b o n cc::r)=b:=rfl
attribute [go_sem] Xwa Yb4 Ycb
def I3 (s:St)(gl:Nat->AV)(d:Nat)(xs:List TV):bc:=⟨Xe xs,EE ((aD gl s.fs xs).map Qh)::En ((aD gl s.fs xs).map Qh),[d],[EE ((aD gl s.fs xs).map Qh)]⟩
def EF (s:St)(gl:Nat->AV)(d es:Nat)(xs:List TV):St:=(s.aI (EE ((aD gl s.fs xs).map Qh)) (.cells (Em s.fs es ((aD gl s.fs xs).map Qh)))).put d (On es ((aD gl s.fs xs).map Qh))
def WV {s:St}{d es jr:Nat}{str:Bool}  (hc:Qr none (aD c.gl s.fs xs))(aS:ED s.fs es str ((aD c.gl s.fs xs).map Qh)) :
  Ki P c (.pd (some d) (.app es jr str) xs none) s.fs (I3 s c.gl d xs) (EF s c.gl d es xs).fs:=by
 intro ops io he;obtain ⟨aX,bb,hd,ys,aE,rfl⟩:=Zm he;obtain ⟨x,y,t,u,e,i,z,rfl,hop,hu,hi,hz,lN,dj,rY,NU⟩:=VP aE;have ec:(aD c.gl s.fs ([x,y].map aP)).map Qh=[Qh (aV c.gl s.fs (aP x)),Qh (aV c.gl s.fs (aP y))]:=rfl;unfold I3 EF;rw[ec]at aS ⊢;generalize hvb:Qh (aV c.gl s.fs (aP x))=vb at *
 generalize VT:Qh (aV c.gl s.fs (aP y))=vx at *
 cases vb<;>simp only[ED]at aS
 rename_i es2 b o n cc;obtain ⟨rfl,rfl,hl,aO,zu,eC⟩:=aS;rw[St.bU,St.cg];simp only[EE,On,En,Em];refine IF (kb:=none) (Jj aX) bb (by simpa using hd) fun s2 hT hH g a w hR=>?_;have bj:aD c.gl s2 ([x,y].map aP)=aD c.gl s.fs ([x,y].map aP):=Yd hT;have eR:=Yk (hR.ci [x,y]) (by rw[bj];exact hc);rw[bj,ec]at eR;obtain ⟨v1,v2,_⟩:=eR;have tQ:s2.H b=s.fs.H b:=hH b av;have Ep:∀ b',j5 vx=some b'->s2.H b'=s.fs.H b':=fun b' h=>hH b' (by simp[h]);obtain ⟨v',w',hr,h1,h2⟩:=Xp5 (P:=P) (ty:=io.type) hR hu NU hi hz dj (lN.trans dj) v1 v2 (by rw[tQ];exact hl) (by rw[tQ];exact aO) (VQ Ep zu) eC;rw[IJ (s:=s.fs) (x:=.sl es2 b 0 n cc) fun b' h=>by cases h;exact tQ,IJ Ep]at h1 h2;refine ⟨g,v',w',?_,h1,h2⟩;unfold execOp;simp only[hop,resolve,invoke,builtin,Sem.run_bind,Sem.run_pure,Result.andThen_ok,map_toArray,map_cons,map_nil,hr]
def Yca {s:St}{d es jr:Nat}{str:Bool}  (h:Qr none (aD c.gl s.fs xs)/\ED s.fs es str ((aD c.gl s.fs xs).map Qh)/\XP P c r0 K (EF s c.gl d es xs)) :
  Yo P c (.pd (some d) (.app es jr str) xs none) r0 K s:=.inl ⟨_,_,WV h.1 h.2.1,h.2.2⟩
def Xuf {fs:List bc}   {s:St}{d es jr:Nat}{str:Bool}  (h:Qr none (aD c.gl s.fs xs)/\ED s.fs es str ((aD c.gl s.fs xs).map Qh)/\XD P c anc r0 (I3 s c.gl d xs::fs) K (EF s c.gl d es xs)) :
  Yz P c anc (.pd (some d) (.app es jr str) xs none) r0 fs K s:=⟨_,_,WV h.1 h.2.1,h.2.2⟩
attribute [go_sem] EF I3
def Xvx {xs:List Operand}(h:Xt P o=some (.Ig t,xs)):∃ x,o.op=.call ⟨.builtin .clear,⟨[x]⟩,⟨[t]⟩⟩/\xs=[x]:=by
 unfold Xt at h
 repeat' split at h
 all_goals first
  | (cases h;exact ⟨_,by assumption,rfl⟩)
  | (simp at h;done)
  | (cases h;done)
  | (simp[Option.map_eq_some_iff]at h;done)
def Co (P:Program)(t:TypeId)(es:Nat):Prop:=∃ e i z,P.underlying t=some (.slice e)/\P.info? e=some i/\i.zero=some z/\z.cells.size=es/\z.cells.all (·.oneCell')=true
def WW (P:Program)(t:TypeId)(es:Nat):Bool:=match P.underlying t with
 | some (.slice e)=>match P.info? e with
  | some i=>match i.zero with
   | some z=>decide (z.cells.size=es)&&z.cells.all (·.oneCell')
   | none=>false
  | none=>false
 | _=>false
def Oo {es:Nat}(h:WW P t es=true):Co P t es:=by
 unfold WW at h;split at h
 ·split at h
  ·split at h
   ·rw[Bool.and_eq_true,decide_eq_true_eq]at h;exact ⟨_,_,_,by assumption,by assumption,by assumption,h.1,h.2⟩
   ·cases h
  ·cases h
 ·cases h
def I4 (s:FS)(es:Nat):List AV->Prop
 | [.sl es2 b _ n cc]=>es2=es/\zK (s.H b)/\n<=cc
 | _=>False
def Cp:List AV->Nat
 | .sl _ b _ _ _::_=>b
 | _=>0
def I5 (s:FS):List AV->List AV
 | .sl _ b off _ _::_=>(Zc (s.H b)).take off
 | _=>[]
theorem Ycx (s:FS)(es es2 b o n cc:Nat):I4 s es [.sl es2 b o n cc]=(es2=es/\zK (s.H b)/\n<=cc):=rfl
theorem Yhe (es2 b o n cc:Nat)(r:List AV):Cp (.sl es2 b o n cc::r)=b:=rfl
theorem Ygz (s:FS)(es2 b o n cc:Nat)(r:List AV):I5 s (.sl es2 b o n cc::r)=(Zc (s.H b)).take o:=rfl
attribute [go_sem] Ycx Yhe Ygz
def Xw3 {z:Array Value}(h:z.all (·.oneCell')=true)(n:Nat):∀ v ∈ (Builtin.zeroCells z n).toList,v.oneCell'=true:=by
 intro v hv;unfold Builtin.zeroCells at hv;simp only[Array.toList_map,mem_map]at hv;obtain ⟨i,hi,rfl⟩:=hv;have n8:i<n*z.size:=by simpa using hi
 have hz:0<z.size:=by
  rcases Nat.eq_zero_or_pos z.size with h0|h0
  ·rw[h0]at n8;omega
  ·exact h0
 have hm:=Nat.mod_lt i hz;rw[getElem!_pos z _ hm];exact Array.all_eq_true.1 h _ hm
def Xvf {s:St}  {es:Nat}  (hz:Co P t es)(hc:Qr none (aD c.gl s.fs xs))(aS:I4 s.fs es ((aD c.gl s.fs xs).map Qh)) :
  Ki P c (.pd none (.Ig t) xs none) s.fs ⟨Xe xs,[Cp ((aD c.gl s.fs xs).map Qh)],[],[Cp ((aD c.gl s.fs xs).map Qh)]⟩ (s.aI (Cp ((aD c.gl s.fs xs).map Qh)) (.cells (I5 s.fs ((aD c.gl s.fs xs).map Qh)))).fs:=by
 intro ops io he;obtain ⟨aX,bb,hd,ys,aE,rfl⟩:=Zm he;obtain ⟨x,hop,rfl⟩:=Xvx aE;obtain ⟨e,i,z,hu,hi,hzi,lN,rk⟩:=hz;have kh:(aD c.gl s.fs ([x].map aP)).map Qh=[Qh (aV c.gl s.fs (aP x))]:=rfl;rw[kh]at aS ⊢;generalize VT:Qh (aV c.gl s.fs (aP x))=vx at *
 cases vx<;>simp only[I4]at aS
 rename_i es2 b off n cc;obtain ⟨rfl,iN,hn⟩:=aS;rw[St.cg];simp only[Cp,I5];refine ⟨fun i _=>rfl,fun i hi=>by rw[FS.a8,aa (fun e=>hi (by simp[e]))],fun s2 hT hH g a w hR K Q' hK=>Ze (Jj aX) ?_⟩;have bj:aD c.gl s2 ([x].map aP)=aD c.gl s.fs ([x].map aP):=Yd hT;have eR:=Yk (hR.ci [x]) (by rw[bj];exact hc);rw[bj,kh]at eR;obtain ⟨hx,_⟩:=eR;have tQ:s2.H b=s.fs.H b:=hH b av;rw[<- tQ]at iN hK;have aO:=WU iN;have hzv:(zeroValue e).run P w=.ok z w:=by simp[zeroValue,typeInfo,hi,hzi]
 have EG:∀ n,(Builtin.zeroCells z.cells n).toList.length=n*es2:=fun n=>by rw[Array.length_toList,size_zeroCells,lN]
 have EH:∃ w',(execOp a.eval io).run P w=.ok (.value (.tuple #[])) w'/\R c g (s2.aI b (.cells ((Zc (s2.H b)).take off))) a w':=by
  have dk:=hR.h b;rcases qW hx with ⟨k,cap,e',cur,fz,e1,h1,h2,h3,h4,h5,h6⟩|⟨ad,e1,h1,rfl,rfl⟩
  ·rw[h1]at dk;have dJ:=aO;have iX:=tQ;clear tQ iX hK;cases hh:s2.H b with
   | az kvs dn=>rw[hh]at dk;cases dk with|az bL=>rw[h5]at bL;cases bL
   | bp kvs bs ck=>rw[hh]at dk;cases dk with|bp bL=>rw[h5]at bL;cases bL
   | iter b0 ck seen=>rw[hh]at dk;cases dk with|iter bL=>rw[h5]at bL;cases bL
   | dM ls=>rw[hh]at iN;exact iN.elim
   | free=>rw[hh]at aO;exact aO.elim
   | dead=>rw[hh]at aO;exact aO.elim
   | cells cs =>
   rw[hh]at dk;cases dk with
   | cells bL mf mz qa nV =>
   rw[h5]at bL;cases bL;have hmul:n*es2<=cap*es2:=Nat.mul_le_mul_right _ af;obtain ⟨w',eX,r1,r2,r3,r4,r5⟩:=MU (P:=P) off (Builtin.zeroCells z.cells n).toList 0 w cur h5 (Xw3 rk n) (by rw[EG];omega) nV;have hrun:(execOp a.eval io).run P w=.ok (.value (.tuple #[])) w':=by
    unfold execOp;simp only[hop,resolve,invoke,builtin,Sem.run_bind,Sem.run_pure,Result.andThen_ok,map_toArray,map_cons,map_nil,e1];cases n with
    | zero =>
     have:(Builtin.zeroCells z.cells 0).toList=[]:=List.eq_nil_of_length_eq_zero (by rw[EG];omega);rw[this]at r1;have hw:w'=w:=by
      have:(storeCells ⟨k,off,none⟩ [] 0).run P w=.ok () w:=rfl;rw[this]at r1;cases r1;rfl
     subst hw;simp[Builtin.clear_,run_underlying hu]
    | succ n=>simp[Builtin.clear_,run_underlying hu,hzv,r1]
   have w7:Qm c g s2 k:=.inr ⟨b,dJ,h1⟩;refine ⟨w',hrun,hR.setBlock h1 dJ trivial r5 (.cells r2 (by rw[r3];simp[Zc];omega) (fun j hj=>?_) (fun j hj=>?_) (by rw[r3];exact nV))⟩
   ·have dd:j < cs.length∧j < off:=by simp[Zc]at hj;omega
    rw[r4 j,aa af];exact mz j dd.1
   ·have dd:j < cs.length∧j < off:=by simp[Zc]at hj;omega
    rw[r4 j,aa af];have:((Zc (Bk.cells cs)).take off).getD j .any=cs.getD j .any:=by simp[Zc,List.getD,List.getElem?_take,dd.2]
    rw[this];exact (qa j dd.1).mono (r5.weak fun i hi=>hi ▸ w7) (fun _ _ h=>h) (fun _ _=>rfl)
  ·rw[h1]at dk;have xl:s2.H b=.cells []:=by
    cases hh:s2.H b with
    | cells cs=>rw[hh]at dk;cases dk;rfl
    | az kvs dn=>rw[hh]at dk;cases dk
    | bp kvs bs ck=>rw[hh]at dk;cases dk
    | iter b0 ck seen=>rw[hh]at dk;cases dk
    | dM ls=>rw[hh]at iN;exact iN.elim
    | free=>rw[hh]at aO;exact aO.elim
    | dead=>rw[hh]at aO;exact aO.elim
   have hs:s2.aI b (.cells ((Zc (s2.H b)).take off))=s2:=by
    refine pj (fun _=>rfl) fun j=>?_;rw[FS.a8];split
    ·rename_i h;subst h;rw[xl];simp[Zc]
    ·rfl
   rw[hs];refine ⟨w,?_,hR⟩;unfold execOp;simp only[hop,resolve,invoke,builtin,Sem.run_bind,Sem.run_pure,Result.andThen_ok,map_toArray,map_cons,map_nil,e1];cases ad<;>simp[Builtin.clear_,run_underlying hu]
 obtain ⟨w',hr,bh⟩:=EH;unfold Oper.wp;rw[hr];show K (a.put io.dst (.tuple #[])) w';rw[bb];refine hK g a w' ?_;rw[DS];exact bh
def I6 {s:St}  {es:Nat}  (hz:Co P t es)(h:Qr none (aD c.gl s.fs xs)/\I4 s.fs es ((aD c.gl s.fs xs).map Qh)/\XP P c r0 K (s.aI (Cp ((aD c.gl s.fs xs).map Qh)) (.cells (I5 s.fs ((aD c.gl s.fs xs).map Qh))))) :
  Yo P c (.pd none (.Ig t) xs none) r0 K s:=.inl ⟨_,_,Xvf hz h.1 h.2.1,h.2.2⟩
end
def Yk7 {p q:Prop}(k:q)(h:cW q->p:=by (intro zk;((first|apply Yca|apply Xuf);(refine XG ?_;((try with_reducible and_intros);all_goals try first|refine zm ?_|exact CL)));exact zk.it)):p:=h ⟨k⟩
def WX {F:Prop}{p q:Prop}(f:F)(k:q)(h:F->cW q->p:=by (intro aQ zk;exact Yk7 zk.it)):p:=h f ⟨k⟩
def EI (P:Program)(kt:TypeId):Bool:=match P.underlying kt with
 | some (.struct _)=>true
 | some (.array _ _)=>true
 | _=>false
def Wz (wide:Bool):AV->Option (List AV)
 | .agg cs=>bif wide then some cs else none
 | x=>bif wide then none else some [x]
def Zs (wide:Bool)(ks:List SK)(x:AV):Prop:=(Wz wide x).map (List.map Yt)=some (ks.map some)
structure oy (P:Program)(kt:TypeId)(wide:Bool)(ks:List SK):Prop where
 sh:jT P 100 kt=some ks
 wd:EI P kt=wide
 ns:∀ k ∈ ks,k≠.str
section
variable {P:Program}{g:Nat->GM}{W:Nat->Prop}{w:World}
def Oq {ks:List SK}  (hx:Zs wide ks x):∃ cs,Wz wide x=some cs/\cs.map Yt=ks.map some:=by
 unfold Zs at hx;cases h:Wz wide x with
 | none=>rw[h]at hx;cases hx
 | some cs=>rw[h]at hx;exact ⟨cs,rfl,by simpa using hx⟩
def WY (h:Wz false x=some cs):cs=[x]:=by cases x<;>simp[Wz]at h<;>exact h.symm
def WZ (h:Wz true x=some cs):x=.agg cs:=by cases x<;>simp[Wz]at h;rw[h]
def Xzq (hx:Wz wide x=some cs)(hy:Wz wide y=some cs):x=y:=by
 cases wide with
 | true=>rw[WZ hx,WZ hy]
 | false=>have h1:=WY hx;have h2:=WY hy;rw[h1]at h2;injection h2
theorem key_holds {ks:List SK}(hT:oy P kt wide ks)   (hx:Zs wide ks x)(hv:VR g W w x v) :
  ∃ cs us,Wz wide x=some cs/\cs.map Yt=ks.map some/\Uk P kt v us/\us.length=cs.length/\∀ j,j<cs.length->VR g W w (cs.getD j .any) (us.getD j undef):=by
 obtain ⟨cs,h1,h2⟩:=Oq hx;have hw:=hT.wd;unfold EI at hw;cases wide with
 | true =>
  cases x<;>simp[Wz]at h1
  subst h1;obtain ⟨us,rfl,q1,q2,q3⟩:=Uq hv;refine ⟨_,us.toList,rfl,h2,?_,by simpa using q1,fun j hj=>by have:=q3 j hj;simpa [Array.getD_eq_getD_getElem?,List.getD] using this⟩;unfold Uk;split<;>simp_all
 | false =>
  have mz:cs=[x]:=by cases x<;>simp[Wz]at h1<;>exact h1.symm
  refine ⟨cs,[v],h1,h2,?_,by rw[mz];rfl,fun j hj=>?_⟩
  ·unfold Uk;split<;>simp_all
  ·rw[mz]at hj ⊢;simp at hj;subst hj;exact hv
def Yfs {ks:List SK}(hT:oy P kt wide ks)   (hx:Zs wide ks x)(hy:Zs wide ks y)(hu:VR g W w x u)(hv:VR g W w y v):∃ r:Bool,(∀ w',(Op.equal kt u v).run P w'=.ok r w')/\(r=true ↔ x=y):=by
 obtain ⟨cs,us,x1,x2,x3,x4,x5⟩:=key_holds hT hx hu;obtain ⟨ds,vs,y1,y2,y3,y4,y5⟩:=key_holds hT hy hv;have kl:cs.length=ks.length:=by simpa using congrArg List.length x2
 have kl':ds.length=ks.length:=by simpa using congrArg List.length y2
 refine ⟨Jx ks us vs,fun w'=>IA (P:=P) 9900 100 kt ks hT.sh w' _ _ _ _ x3 y3 af af (Cb ks cs _ x2 x4 x5) (Cb ks ds _ y2 y4 y5),?_⟩;rw[NO ks cs ds _ _ x2 y2 x4 y4 x5 y5];exact ⟨fun h=>by subst h;exact Xzq x1 y1,fun h=>by subst h;rw[x1]at y1;injection y1⟩
def W0 {ks:List SK}   (hx:Zs wide ks x)(hu:VR g W w x u)(hv:VR g W w x v):u=v:=by
 obtain ⟨cs,h1,h2⟩:=Oq hx;have one:∀ {y:AV} {k:SK} {a b:Value},Yt y=some k->VR g W w y a->VR g W w y b->a=b:=by
  intro y k a b hk ha hb;cases y<;>simp[Yt]at hk<;>cases ha<;>cases hb<;>rfl
 have all:∀ c ∈ cs,∃ k,Yt c=some k:=fun c hc=>by
  have:Yt c ∈ ks.map some:=by rw[<- h2];exact List.mem_map_of_mem hc
  obtain ⟨k,_,hk⟩:=mem_map.1 this;exact ⟨k,hk.symm⟩
 cases x with
 | agg ds =>
  cases wide<;>simp[Wz]at h1
  subst h1;obtain ⟨a,rfl,a1,a2,a3⟩:=Uq hu;obtain ⟨b,rfl,b1,b2,b3⟩:=Uq hv;congr 1;apply Array.ext
  ·rw[a1,b1]
  ·intro j hj eJ;have oz:j < ds.length:=by omega
   obtain ⟨k,hk⟩:=all (ds.getD j .any) (by simp[List.getD,oz]);have:=one hk (a3 j oz) (b3 j oz);simpa [Array.getD_eq_getD_getElem?,hj,eJ] using this
 | _ =>
  cases wide<;>simp[Wz]at h1
  subst h1;obtain ⟨k,hk⟩:=all _ (List.mem_singleton.2 rfl);exact one hk hu hv
def Ot (em:Bool)(d:Nat):∀ (m:Nat) (t:TypeId) (ks:List SK),jT P m t=some ks->∀ (w:World) (x:Value) (us:List Value),Uk P t x us->us.length=ks.length->lM ks us->(Instr.checkKey em (d+m) t x).run P w=.ok () w
 | 0,_,_,h=>by cases h
 | m+1,t,ks,h=>by
  intro w x us hx lu ou;unfold jT at h;cases hu:P.underlying t with
  | none=>simp[hu]at h
  | some kd =>
   rw[hu]at h;simp only[Uk,hu]at hx;rw[show d+(m+1)=(d+m)+1 from rfl];cases kd<;>simp only[Option.some.injEq,reduceCtorEq]at h hx
   case bool=>subst h hx;obtain ⟨⟨a,rfl⟩,_⟩:=ou;simp[Instr.checkKey,run_underlying hu]
   case int k=>subst h hx;obtain ⟨⟨a,rfl⟩,_⟩:=ou;simp[Instr.checkKey,run_underlying hu]
   case string=>subst h hx;obtain ⟨⟨a,rfl⟩,_⟩:=ou;simp[Instr.checkKey,run_underlying hu]
   case struct fs =>
    subst hx;split at h
    ·cases h
    ·rw[Instr.checkKey];simp only[Sem.run_bind,run_underlying hu,Result.andThen_ok];rw[← Array.forIn_toList]
     have key:∀ (L:List Field) (o:Nat) (ks:List SK),B8 (jT P m) P o L=some ks→lM ks (us.toArray.toList.drop o) →
       (forIn L PUnit.unit fun f r=>do
        if f.name ≠ "_" then do
         let v <- part f.type us.toArray f.offset
         Instr.checkKey em (d+m) f.type v
         pure (ForInStep.yield PUnit.unit)
        else pure (ForInStep.yield PUnit.unit):Sem PUnit).run P w=.ok PUnit.unit w:=by
      intro L
      induction L with
      | nil=>intro o ks _ _;simp
      | cons f L ih =>
       intro o ks h hx;unfold B8 at h;split at h
       ·cases h
       ·rename_i hn;simp only[not_or,Decidable.not_not]at hn;obtain ⟨fx,fy,od⟩:=hn;have pg:=Iz od;simp only[Option.bind_eq_some_iff]at h;obtain ⟨k1,h1,h2⟩:=h;split at h2
        ·rename_i hc;simp only[Option.map_eq_some_iff]at h2;obtain ⟨k2,h2,rfl⟩:=h2;obtain ⟨x1,x2⟩:=wZ _ _ _ hx;obtain ⟨a,pa,ha⟩:=B9 w h1 pg hc x1;have lx:=w3 _ _ x1;have hr:=Ot em d m _ _ h1 w a _ ha (by rw[List.length_take];omega) (zt _ _ x1);rw[List.drop_drop]at x2;simp only[List.forIn_cons,Sem.run_bind,fx,ne_eq,not_false_eq_true,if_true,fy,pa,hr,Result.andThen_ok,Sem.run_pure];exact ih _ _ h2 x2
        ·cases h2
     have h3:=key fs.toList 0 ks h (by simpa using ou);rw[h3];rfl
   case array n e =>
    subst hx;split at h
    ·cases h
    ·rename_i aL;obtain ⟨i,hi⟩:=Option.isSome_iff_exists.1 (Iz aL);simp only[Option.bind_eq_some_iff]at h;obtain ⟨k1,h1,h2⟩:=h;split at h2
     ·rename_i hc;cases h2;rw[Instr.checkKey];simp only[Sem.run_bind,run_underlying hu,Result.andThen_ok];simp only[Std.Legacy.Range.forIn_eq_forIn_range',Std.Legacy.Range.size,Nat.sub_zero,Nat.add_one_sub_one,Nat.div_one]
      have key:∀ (n i0:Nat),lM (List.replicate n k1).flatten (us.toArray.toList.drop (i0 * k1.length)) →
        (forIn (List.range' i0 n) PUnit.unit fun i r=>do
         let z <- sizeOf e
         let v <- part e us.toArray (i*z)
         Instr.checkKey em (d+m) e v
         pure (ForInStep.yield PUnit.unit):Sem PUnit).run P w=.ok PUnit.unit w:=by
       intro n
       induction n with
       | zero=>intro i0 _;simp
       | succ n ih =>
        intro i0 hx;rw[List.replicate_succ,List.flatten_cons]at hx;obtain ⟨x1,x2⟩:=wZ _ _ _ hx;obtain ⟨a,pa,ha⟩:=B9 w h1 (by rw[hi];rfl) hc x1;have lx:=w3 _ _ x1;have hr:=Ot em d m _ _ h1 w a _ ha (by rw[List.length_take];omega) (zt _ _ x1);have e1:i0*k1.length+k1.length=(i0+1)*k1.length:=by rw[Nat.add_mul,Nat.one_mul]
        rw[List.drop_drop,e1]at x2;rw[List.range'_succ];simp only[List.forIn_cons,Sem.run_bind,run_sizeOf w hi,hc,pa,hr,Result.andThen_ok,Sem.run_pure];exact ih (i0+1) x2
      have h3:=key n 0 (by simpa using ou);rw[h3];rfl
     ·cases h2
def I7 {ks:List SK}(hT:oy P kt wide ks)   (hx:Zs wide ks x)(hv:VR g W w x v)(em:Bool)(w':World):(Instr.checkKey em 10000 kt v).run P w'=.ok () w':=by
 obtain ⟨cs,us,x1,x2,x3,x4,x5⟩:=key_holds hT hx hv;have kl:cs.length=ks.length:=by simpa using congrArg List.length x2
 exact Ot em 9900 100 kt ks hT.sh w' v us x3 af (Cb ks cs _ x2 x4 x5)
open Classical in
noncomputable def fA (kvs:List (AV×AV))(x:AV):Option Nat:=kvs.findIdx? fun p=>decide (p.1=x)
def W1 {kt:TypeId}{wide:Bool}{ks:List SK}(hT:oy P kt wide ks){x:AV}{v:Value}(hx:Zs wide ks x)(hv:VR g W w x v):∀ (kvs:List (AV×AV)) (es:List MapEntry) (i:Nat),es.length=kvs.length->(∀ p ∈ kvs,Zs wide ks p.1) ->
  (∀ j,j<kvs.length->VR g W w (kvs.getD j (.any,.any)).1 (es.getD j default).key)->∀ w',(Instr.findAsking kt v es i).run P w'=.ok ((fA kvs x).map fun j=>(i+j,(es.getD j default).val)) w'
 | [],[],i,_,_,_,w'=>by simp[Instr.findAsking,fA]
 | [],_::_,_,h,_,_,_=>by simp at h
 | _::_,[],_,h,_,_,_=>by simp at h
 | p::kvs,e::es,i,hl,hk,eR,w'=>by
  have h0:=eR 0 av;simp only[List.getD_cons_zero]at h0;obtain ⟨r,hr,su⟩:=Yfs hT hx (hk p av) hv h0;have ih:=W1 hT hx hv kvs es (i+1) (by simpa using hl) (fun q hq=>hk q (by simp[hq])) (fun j hj=>by simpa using eR (j+1) (by simp;omega)) w';simp only[Instr.findAsking,Sem.run_bind,hr,Result.andThen_ok];unfold fA at ih ⊢;rw[List.findIdx?_cons];cases r with
  | true =>
   have:p.1=x:=(su.1 rfl).symm;simp[this]
  | false =>
   have cf:¬ p.1=x:=fun h=>by have:=su.2 h.symm;cases this
   simp only[Bool.false_eq_true,if_false,cf,decide_false];rw[ih];generalize List.findIdx? _ kvs=o;cases o with
   | none=>rfl
   | some j=>simp only[Option.map_some,List.getD_cons_succ];rw[show i+1+j=i+(j+1) by omega]
def W3 {kt:TypeId}{ks:List SK}{d:TypeDesc}(hu:P.underlying kt=some d)(hT:oy P kt false ks){x:AV}{v:Value}(hx:Zs false ks x)(hv:VR g W w x v):∀ (kvs:List (AV×AV)) (es:List MapEntry) (i:Nat),es.length=kvs.length->(∀ p ∈ kvs,Zs false ks p.1) ->
  (∀ j,j<kvs.length->VR g W w (kvs.getD j (.any,.any)).1 (es.getD j default).key)->Instr.findNow d v es i=some ((fA kvs x).map fun j=>(i+j,(es.getD j default).val))
 | [],[],i,_,_,_=>by simp[Instr.findNow,fA]
 | [],_::_,_,h,_,_=>by simp at h
 | _::_,[],_,h,_,_=>by simp at h
 | p::kvs,e::es,i,hl,hk,eR=>by
  have h0:=eR 0 av;simp only[List.getD_cons_zero]at h0;have ih:=W3 hu hT hx hv kvs es (i+1) (by simpa using hl) (fun q hq=>hk q (by simp[hq])) (fun j hj=>by simpa using eR (j+1) (by simp;omega));have cX:∃ r:Bool,Instr.sameNow d v e.key=some r/\(r=true ↔ p.1=x):=by
   obtain ⟨cs,us,x1,x2,x3,x4,x5⟩:=key_holds hT hx hv;obtain ⟨ds,vs,y1,y2,y3,y4,y5⟩:=key_holds hT (hk p av) h0;have zL:=hT.sh;have zM:=hT.wd;unfold EI at zM;unfold jT at zL;rw[hu]at zL zM;simp only[Uk,hu]at x3 y3;have Ea:Wz false p.1=some [p.1]:=by revert y1;cases p.1<;>simp[Wz]
   have tX:Wz false x=some [x]:=by revert x1;cases x<;>simp[Wz]
   rw[tX]at x1;rw[Ea]at y1;cases x1;cases y1;cases d<;>simp only[Option.some.injEq,reduceCtorEq]at zL zM
   case bool =>
    subst zL;simp at x2 y2;cases x<;>simp[Yt]at x2
    cases hp:p.1<;>rw[hp]at y2 h0<;>simp[Yt]at y2
    cases hv;cases hq:e.key<;>rw[hq]at h0<;>cases h0
    refine ⟨_,rfl,?_⟩;simp;exact eq_comm
   case int k =>
    subst zL;simp at x2 y2;cases x<;>simp[Yt]at x2
    cases hp:p.1<;>rw[hp]at y2 h0<;>simp[Yt]at y2
    subst x2 y2;cases hv;cases hq:e.key<;>rw[hq]at h0<;>cases h0
    refine ⟨_,by simp only[Instr.sameNow,if_true];rfl,?_⟩;simp;exact eq_comm
   case string=>exact (hT.ns _ (by rw[<- zL];simp) rfl).elim
   all_goals first|(cases zL;done)|(simp at zM;done)
  obtain ⟨r,hr,su⟩:=cX;unfold Instr.findNow;rw[hr];unfold fA at ih ⊢;rw[List.findIdx?_cons];cases r with
  | true=>simp[su.1 rfl]
  | false =>
   have cf:¬ p.1=x:=fun h=>by have:=su.2 h;cases this
   simp only[Bool.false_eq_true,if_false,cf,decide_false];rw[ih];generalize List.findIdx? _ kvs=o;cases o with
   | none=>rfl
   | some j=>simp only[Option.map_some,List.getD_cons_succ];rw[show i+1+j=i+(j+1) by omega]
def I8 {kt:TypeId}{wide:Bool}{ks:List SK}(hT:oy P kt wide ks){x:AV}{v:Value}(hx:Zs wide ks x)(hv:VR g W w x v){kvs:List (AV×AV)}{es:List MapEntry}(hl:es.length=kvs.length)(hk:∀ p ∈ kvs,Zs wide ks p.1)
  (eR:∀ j,j<kvs.length->VR g W w (kvs.getD j (.any,.any)).1 (es.getD j default).key) (w':World):(Instr.findKey kt v es).run P w'=.ok ((fA kvs x).map fun j=>(j,(es.getD j default).val)) w':=by
 cases wide with
 | true =>
  have zM:=hT.wd;unfold EI at zM;rw[run_findKey_eq w' (by split at zM<;>simp_all) v es,W1 hT hx hv kvs es 0 hl hk eR w'];simp
 | false =>
  cases hu:P.underlying kt with
  | none=>have:=hT.sh;unfold jT at this;rw[hu]at this;cases this
  | some d =>
   rw[MapKept.run_findKey hu (W3 hu hT hx hv kvs es 0 hl hk eR)];simp
def W4 {ks:List SK}(Ou:∀ k ∈ ks,k≠.str)   (hx:Zs wide ks x)(hv:VR g W w x v):Instr.sameBits 10000 v v=true:=by
 obtain ⟨cs,h1,h2⟩:=Oq hx;have all:∀ c ∈ cs,∃ k,Yt c=some k/\k≠.str:=fun c hc=>by
  have:Yt c ∈ ks.map some:=by rw[<- h2];exact List.mem_map_of_mem hc
  obtain ⟨k,po,hk⟩:=mem_map.1 this;exact ⟨k,hk.symm,Ou k po⟩
 have one:∀ {y:AV} {k:SK} {a:Value} (n:Nat),Yt y=some k/\k≠.str->VR g W w y a->Instr.sameBits n a a=true:=by
  rintro y k a n ⟨hk,hk2⟩ ha;cases y<;>simp[Yt]at hk<;>(try (exact (hk2 hk.symm).elim))<;>cases ha<;>cases n<;>simp[Instr.sameBits]
 cases x with
 | agg ds =>
  cases wide<;>simp[Wz]at h1
  subst h1;obtain ⟨a,rfl,a1,a2,a3⟩:=Uq hv;show (a.size==a.size&&(a.toList.zip a.toList).all fun (x,y)=>Instr.sameBits 9999 x y)=true;simp only[beq_self_eq_true,Bool.true_and,all_eq_true];rintro ⟨u1,u2⟩ hm;obtain ⟨j,hj,he⟩:=List.getElem_of_mem hm;simp at hj;simp only[List.getElem_zip,Prod.mk.injEq]at he;obtain ⟨e1,e2⟩:=he;subst e1 e2;have oz:j<ds.length:=by omega
  obtain ⟨k,hk⟩:=all (ds.getD j .any) (by simp[List.getD,oz]);have:=one 9999 hk (a3 j oz);simpa [Array.getD_eq_getD_getElem?,hj] using this
 | _ =>
  cases wide<;>simp[Wz]at h1
  subst h1;obtain ⟨k,hk⟩:=all _ (List.mem_singleton.2 rfl);exact one _ hk hv
end
def W5 (P:Program)(t:TypeId):Option (Bool×List SK×AV):=match P.underlying t with
 | some (.map kt et)=>match jT P 100 kt with
  | some ks=>if ks.all (fun k=>match k with|.str=>false|_=>true) then ((P.info? et).bind (·.zero)).map fun z=>(EI P kt,ks,uX z) else none
  | none=>none
 | _=>none
structure cu (P:Program)(t:TypeId)(wide:Bool)(ks:List SK)(z:AV):Prop where
 of:∃ kt et zv,P.underlying t=some (.map kt et)/\oy P kt wide ks/\(∀ w,(zeroValue et).run P w=.ok zv w)/\uX zv=z
def cu.mk' {P:Program}   {ks:List SK}  (h:W5 P t=some (wide,ks,z)):cu P t wide ks z:=by
 unfold W5 at h;split at h
 ·rename_i kt et hu;split at h
  ·rename_i ks' eb;split at h
   ·rename_i Ou;simp only[Option.map_eq_some_iff,Prod.mk.injEq]at h;obtain ⟨zv,hz,rfl,rfl,rfl⟩:=h;refine ⟨kt,et,zv,hu,⟨eb,rfl,fun k hk e=>?_⟩,fun w=>?_,rfl⟩
    ·have:=all_eq_true.1 Ou k hk;subst e;cases this
    ·cases hi:P.info? et with
     | none=>rw[hi]at hz;cases hz
     | some i=>rw[hi]at hz;simp at hz;simp[zeroValue,typeInfo,hi,hz]
   ·cases h
  ·cases h
 ·cases h
noncomputable def Kk (kvs:List (AV×AV))(x z:AV):AV:=match fA kvs x with
 | some i=>(kvs.getD i (.any,.any)).2
 | none=>z
noncomputable def Cq (kvs:List (AV×AV))(x:AV):Bool:=(fA kvs x).isSome
noncomputable def Jy (kvs:List (AV×AV))(x v:AV):List (AV×AV):=match fA kvs x with
 | some i=>kvs.set i (x,v)
 | none=>kvs++[(x,v)]
noncomputable def zN (kvs:List (AV×AV))(x:AV):List (AV×AV):=match fA kvs x with
 | some i=>kvs.eraseIdx i
 | none=>kvs
noncomputable def qi (kvs:List (AV×AV))(x z:AV):List (AV×AV):=match fA kvs x with
 | some _=>kvs
 | none=>kvs++[(x,z)]
noncomputable def nh (kvs:List (AV×AV))(x:AV):Nat:=(fA kvs x).getD kvs.length
def Wy (wide:Bool)(ks:List SK)(kvs:List (AV×AV)):Prop:=∀ p ∈ kvs,Zs wide ks p.1
def Cr (h:fA kvs x=some i):i<kvs.length/\(kvs.getD i (.any,.any)).1=x:=by
 unfold fA at h;obtain ⟨hi,h1,_⟩:=List.findIdx?_eq_some_iff_getElem.1 h;refine ⟨hi,?_⟩;have e:kvs.getD i (.any,.any)=kvs[i]:=by simp[List.getD,hi]
 rw[e];exact @of_decide_eq_true _ (Classical.propDecidable _) h1
section
variable {P:Program}{c:Cx}{ops:Array Oper}{io:Oper}{g:Nat->GM}{s:FS}{a:Act}{w:World}
def zO (hR:R c g s a w)    (hb:s.H b=.az kvs dn)(hg:g b=.re k):∃ es clock,w.heap[k]?=some (.map es clock)/\es.size=kvs.length /\
  (∀ j,j<kvs.length->VR g (Qm c g s) w (kvs.getD j (.any,.any)).1 (es.getD j default).key)/\(∀ j,j<kvs.length->VR g (Qm c g s) w (kvs.getD j (.any,.any)).2 (es.getD j default).val) /\
  (∀ j,j<es.size->(es.getD j default).born<clock)/\(∀ i j,i<j->j<es.size->(es.getD i default).born<(es.getD j default).born)/\(dn=true->(∀ j,j<es.size->(es.getD j default).born=j)/\clock=es.size):=by
 have:=hR.h b;rw[hb,hg]at this;cases this with
 | az h1 h2 h3 h4 h5 h6 h7=>exact ⟨_,_,h1,h2,h3,h4,h5,h6,h7⟩
def tZ:es.toList.getD j default=es.getD j default:=by simp[Array.getD_eq_getD_getElem?,List.getD]
def zP {o:Obj}   (hk:w.heap[k]?=some (.map es clock)):(setObj k o).run P w=.ok () { w with heap:=w.heap.setIfInBounds k o }:=by
 simp[setObj,Sem.run,hk]
def W6 {es es':Array MapEntry}{clock clock':Nat}(hk:w.heap[k]?=some (.map es clock)):Fr w { w with heap:=w.heap.setIfInBounds k (.map es' clock') } (fun i=>i=k) :=
 ⟨rfl,rfl,rfl,by simp,fun i _ cf=>by simp only[Array.getElem?_setIfInBounds];rw[aa fun e=>cf e.symm],fun i cur e fz hi=>by
  by_cases h:i=k
  ·subst h;rw[hk]at hi;cases hi
  ·exact ⟨cur,by simp only[Array.getElem?_setIfInBounds];rw[aa fun e=>h e.symm];exact hi,rfl⟩⟩
def Xqh {o o':Obj}(hk:w.heap[k]?=some o):({ w with heap:=w.heap.setIfInBounds k o' }:World).heap[k]?=some o':=by
 have:=Ws hk;simp[this]
def R.kW (hR:R c g s a w){b k:Nat}{kvs kvs':List (AV×AV)}{dn dn':Bool}{es es':Array MapEntry}{clock clock':Nat}(hb:s.H b=.az kvs dn)(hg:g b=.re k)(hk:w.heap[k]?=some (.map es clock))(hs:es'.size=kvs'.length)
  (h1:∀ j,j<kvs'.length->VR g (Qm c g s) w (kvs'.getD j (.any,.any)).1 (es'.getD j default).key) (h2:∀ j,j<kvs'.length->VR g (Qm c g s) w (kvs'.getD j (.any,.any)).2 (es'.getD j default).val)
  (h3:∀ j,j<es'.size->(es'.getD j default).born<clock') (h4:∀ i j,i<j->j<es'.size->(es'.getD i default).born<(es'.getD j default).born) (h5:dn'=true->(∀ j,j<es'.size->(es'.getD j default).born=j)/\clock'=es'.size) :
  R c g (s.aI b (.az kvs' dn')) a { w with heap:=w.heap.setIfInBounds k (.map es' clock') }:=by
 have aO:(s.H b).live:=by rw[hb];trivial
 have hf:=W6 (es':=es') (clock':=clock') hk;have w7:Qm c g s k:=.inr ⟨b,aO,hg⟩;have hm:∀ {x v},VR g (Qm c g s) w x v->VR g (Qm c g s) { w with heap:=w.heap.setIfInBounds k (.map es' clock') } x v:=fun h=>h.mono (hf.weak fun i hi=>hi ▸ w7) (fun _ _ h=>h) (fun _ _=>rfl);exact hR.setBlock hg aO trivial hf (.az (Xqh hk) hs (fun j hj=>hm (h1 j hj)) (fun j hj=>hm (h2 j hj)) h3 h4 h5)
def R.gP (hR:R c g s a w)    (hb:s.H b=.az kvs dn):R c g (s.aI b (.az kvs false)) a w:=by
 have h:=hR.h b;rw[hb]at h;generalize hg:g b=m at h;cases h with
 | az h1 h2 h3 h4 h5 h6 h7 =>
  exact hR.setBlock hg (by rw[hb];trivial) trivial (Fr.refl _ _) (.az h1 h2 h3 h4 h5 h6 fun h=>by cases h)
def Ybn (hR:R c g s a w)   {ks:List SK}  (hT:cu P t wide ks z)    (hb:s.H b=.az kvs dn)  {m v:Value}(hm:VR g (Qm c g s) w (.mp b) m)(hx:VR g (Qm c g s) w x v)(lO:Zs wide ks x)(eb:Wy wide ks kvs)(ok:Bool) :
  ∃ r,(Instr.lookup t m v ok).run P w=.ok r w/\VR g (Qm c g s) w (bif ok then .aR [Kk kvs x z,.bool (Cq kvs x)] else Kk kvs x z) r:=by
 obtain ⟨kt,et,zv,hu,hK,hz,rfl⟩:=hT.of;obtain ⟨k,rfl,hg⟩:=yV hm;obtain ⟨es,clock,q1,q2,q3,q4,q5,q6,q7⟩:=zO hR hb hg;have ei:=I8 hK lO hx (kvs:=kvs) (es:=es.toList) (by simpa using q2) eb (fun j hj=>by rw[tZ];exact q3 j hj) w;have hck:=I7 hK lO hx es.isEmpty w;have en:(getObj k).run P w=.ok (.map es clock) w:=by simp[getObj,Sem.run,q1]
 have fZ:∃ r0,VR g (Qm c g s) w (Kk kvs x (uX zv)) r0/\(Instr.lookup t (.map (some k)) v ok).run P w=.ok (if ok then .tuple #[r0,.bool (Cq kvs x)] else r0) w:=by
  unfold Kk Cq;cases hf:fA kvs x with
  | none =>
   rw[hf]at ei;refine ⟨zv,BD zv,?_⟩;simp only[Instr.lookup,Sem.run_bind,run_underlying hu,Result.andThen_ok,en,hck,ei,Option.map_none,hz,Sem.run_pure];rfl
  | some i =>
   rw[hf]at ei;obtain ⟨hi,_⟩:=Cr hf;refine ⟨_,q4 i hi,?_⟩;simp only[Instr.lookup,Sem.run_bind,run_underlying hu,Result.andThen_ok,en,hck,ei,Option.map_some,Sem.run_pure,tZ];rfl
 obtain ⟨r0,hv,hr⟩:=fZ;refine ⟨_,hr,?_⟩;cases ok with
 | false=>exact hv
 | true =>
  refine .aR rfl fun j hj=>?_
  match j,hj with
  | 0,_=>exact hv
  | 1,_=>exact .bool _
  | j+2,hj=>simp at hj;omega
def Cs {e:MapEntry} :(es.push e).getD j default=if j=es.size then e else es.getD j default:=by
 simp only[Array.getD_eq_getD_getElem?,Array.getElem?_push];split<;>rfl
def Ov {f:MapEntry->MapEntry}  (hi:i<es.size)(j:Nat):(es.modify i f).getD j default=if j=i then f (es.getD j default) else es.getD j default:=by
 simp only[Array.getD_eq_getD_getElem?,Array.getElem?_modify];by_cases h:j=i
 ·subst h;simp[hi]
 ·rw[aa h,aa fun e=>h e.symm]
def W7 {p:AV×AV} :(kvs++[p]).getD j (.any,.any)=if j=kvs.length then p else kvs.getD j (.any,.any):=by
 by_cases h:j=kvs.length
 ·subst h;simp[List.getD]
 ·rw[aa h];rcases Nat.lt_or_ge j kvs.length with h1|h1
  ·simp[List.getD,List.getElem?_append_left h1]
  ·have:(kvs++[p])[j]?=none:=List.getElem?_eq_none (by simp;omega);simp[List.getD,this,List.getElem?_eq_none h1]
def W8 {p:AV×AV}  (hi:i<kvs.length)(j:Nat):(kvs.set i p).getD j (.any,.any)=if j=i then p else kvs.getD j (.any,.any):=by
 by_cases h:j=i
 ·subst h;simp[List.getD,hi]
 ·rw[aa h];simp[List.getD,List.getElem?_set_ne fun e=>h e.symm]
def Ow (hR:R c g s a w){b k:Nat}{kvs:List (AV×AV)}{dn:Bool}(hb:s.H b=.az kvs dn)(hg:g b=.re k){es:Array MapEntry}{clock:Nat}(q1:w.heap[k]?=some (.map es clock)){i:Nat}(hi:i<kvs.length){y:AV}{u:Value}(hy:VR g (Qm c g s) w y u){f:MapEntry->MapEntry}
  (zQ:∀ e,(f e).born=e.born) (iU:(f (es.getD i default)).val=u) (hf3:(f (es.getD i default)).key=(es.getD i default).key) :
  R c g (s.aI b (.az (kvs.set i ((kvs.getD i (.any,.any)).1,y)) dn)) a { w with heap:=w.heap.setIfInBounds k (.map (es.modify i f) clock) }:=by
 obtain ⟨es',clock',r1,q2,q3,q4,q5,q6,q7⟩:=zO hR hb hg;rw[q1]at r1;cases r1;have gG:i<es.size:=by omega
 have hb2:∀ j,((es.modify i f).getD j default).born=(es.getD j default).born:=fun j=>by
  rw[Ov gG];split
  ·exact zQ _
  ·rfl
 refine hR.kW hb hg q1 (by simp;exact q2) (fun j hj=>?_) (fun j hj=>?_) (fun j hj=>?_) (fun i' j gn hj=>?_) (fun hd=>?_)
 ·rw[List.length_set]at hj;rw[W8 hi,Ov gG];split
  ·rename_i e;subst e;rw[hf3];exact q3 _ hj
  ·exact q3 _ hj
 ·rw[List.length_set]at hj;rw[W8 hi,Ov gG];split
  ·rename_i e;subst e;rw[iU];exact hy
  ·exact q4 _ hj
 ·rw[hb2];exact q5 j (by simpa using hj)
 ·rw[hb2,hb2];exact q6 i' j gn (by simpa using hj)
 ·obtain ⟨d1,d2⟩:=q7 hd;exact ⟨fun j hj=>by rw[hb2];exact d1 j (by simpa using hj),by simpa using d2⟩
def W9 (hR:R c g s a w)    (hb:s.H b=.az kvs dn)(hg:g b=.re k)   (q1:w.heap[k]?=some (.map es clock))   (hx:VR g (Qm c g s) w x v)(hy:VR g (Qm c g s) w y u) :
  R c g (s.aI b (.az (kvs++[(x,y)]) dn)) a { w with heap:=w.heap.setIfInBounds k (.map (es.push { key:=v,val:=u,born:=clock }) (clock+1)) }:=by
 obtain ⟨es',clock',r1,q2,q3,q4,q5,q6,q7⟩:=zO hR hb hg;rw[q1]at r1;cases r1;refine hR.kW hb hg q1 (by simp;exact q2) (fun j hj=>?_) (fun j hj=>?_) (fun j hj=>?_) (fun i j gn hj=>?_) (fun hd=>?_)
 ·rw[length_append,List.length_singleton]at hj;rw[W7,Cs,q2];split
  ·exact hx
  ·exact q3 j af
 ·rw[length_append,List.length_singleton]at hj;rw[W7,Cs,q2];split
  ·exact hy
  ·exact q4 j af
 ·rw[Array.size_push]at hj;rw[Cs];split
  ·show clock<clock+1;omega
  ·have:=q5 j af;omega
 ·rw[Array.size_push]at hj;rw[Cs,Cs,aa af];split
  ·exact q5 i af
  ·exact q6 i j gn af
 ·obtain ⟨d1,d2⟩:=q7 hd;refine ⟨fun j hj=>?_,by rw[Array.size_push];omega⟩;rw[Array.size_push]at hj;rw[Cs];split
  ·rename_i e;show clock=j;omega
  ·exact d1 j af
def Ybo (hR:R c g s a w){t:TypeId}{wide:Bool}{ks:List SK}{z:AV}(hT:cu P t wide ks z){b:Nat}{kvs:List (AV×AV)}{dn:Bool}(hb:s.H b=.az kvs dn){x y:AV}{m v u:Value}(hm:VR g (Qm c g s) w (.mp b) m)(hx:VR g (Qm c g s) w x v)(hy:VR g (Qm c g s) w y u)
  (lO:Zs wide ks x) (eb:Wy wide ks kvs):∃ w',(Instr.mapUpdate t m v u).run P w=.ok () w'/\R c g (s.aI b (.az (Jy kvs x y) dn)) a w':=by
 obtain ⟨kt,et,zv,hu,hK,hz,rfl⟩:=hT.of;obtain ⟨k,rfl,hg⟩:=yV hm;obtain ⟨es,clock,q1,q2,q3,q4,q5,q6,q7⟩:=zO hR hb hg;have ei:=I8 hK lO hx (kvs:=kvs) (es:=es.toList) (by simpa using q2) eb (fun j hj=>by rw[tZ];exact q3 j hj) w;have hck:=I7 hK lO hx false w;have en:(getObj k).run P w=.ok (.map es clock) w:=by simp[getObj,Sem.run,q1]
 have fO:=Ws q1;unfold Jy;cases hf:fA kvs x with
 | none =>
  rw[hf]at ei;refine ⟨_,?_,W9 hR hb hg q1 hx hy⟩;simp only[Instr.mapUpdate,Sem.run_bind,run_underlying hu,Result.andThen_ok,en,hck,ei,Option.map_none,zP q1]
 | some i =>
  rw[hf]at ei;obtain ⟨hi,xm⟩:=Cr hf;have gG:i<es.size:=by omega
  have h3:=q3 i hi;rw[xm]at h3;have zR:(es.getD i default).key=v:=W0 lO h3 hx;have uZ:Instr.sameBits 10000 v v=true:=W4 hK.ns lO hx;have pq:(Instr.keyThatStays (((es[i]?).map (·.key)).getD v) v).run P w=.ok v w:=by
   have e:((es[i]?).map (·.key)).getD v=v:=by
    have:es.getD i default=es[i]:=by simp[Array.getD_eq_getD_getElem?,gG]
    rw[Array.getElem?_eq_getElem gG];rw[this]at zR;simpa using zR
   rw[e];simp[Instr.keyThatStays,uZ]
  have bw:=Ow hR hb hg q1 hi hy (f:=fun e=>{ e with key:=v,val:=u }) (fun _=>rfl) rfl zR.symm;rw[xm]at bw;refine ⟨_,?_,bw⟩;simp only[Instr.mapUpdate,Sem.run_bind,run_underlying hu,Result.andThen_ok,en,hck,ei,Option.map_some,pq,zP q1]
def Yba (hR:R c g s a w){t:TypeId}{wide:Bool}{ks:List SK}{z:AV}(hT:cu P t wide ks z){b:Nat}{kvs:List (AV×AV)}(hb:s.H b=.az kvs true){x:AV}{m v:Value}(hm:VR g (Qm c g s) w (.mp b) m)(hx:VR g (Qm c g s) w x v)
  (lO:Zs wide ks x) (eb:Wy wide ks kvs):∃ r w',(Instr.mapEntry t m v).run P w=.ok r w'/\R c g (s.aI b (.az (qi kvs x z) true)) a w'/\VR g (Qm c g s) w (.aR [Kk kvs x z,.int .i64 (nh kvs x)]) r/\Fr w w' (fun i=>g b=.re i):=by
 obtain ⟨kt,et,zv,hu,hK,hz,rfl⟩:=hT.of;obtain ⟨k,rfl,hg⟩:=yV hm;obtain ⟨es,clock,q1,q2,q3,q4,q5,q6,q7⟩:=zO hR hb hg;have ei:=I8 hK lO hx (kvs:=kvs) (es:=es.toList) (by simpa using q2) eb (fun j hj=>by rw[tZ];exact q3 j hj) w;have hck:=I7 hK lO hx false w;have en:(getObj k).run P w=.ok (.map es clock) w:=by simp[getObj,Sem.run,q1]
 have fO:=Ws q1;obtain ⟨d1,d2⟩:=q7 rfl;have aR:∀ {r0:Value} {x0:AV} {n:Nat},VR g (Qm c g s) w x0 r0->VR g (Qm c g s) w (.aR [x0,.int .i64 (n:Int)]) (.tuple #[r0,goInt n]):=fun h0=>by
  refine .aR rfl fun j hj=>?_
  match j,hj with
  | 0,_=>exact h0
  | 1,_=>exact .int _ _
  | j+2,hj=>simp at hj;omega
 have nt:∀ {es' clock'},Fr w { w with heap:=w.heap.setIfInBounds k (.map es' clock') } (fun i=>g b=.re i):=fun {es' clock'}=>(W6 (es':=es') (clock':=clock') q1).weak fun i hi=>by rw[hi];exact hg
 unfold qi Kk nh;cases hf:fA kvs x with
 | none =>
  rw[hf]at ei;have hp:=W9 hR hb hg q1 hx (BD zv);refine ⟨.tuple #[zv,goInt (clock:Nat)],_,?_,hp,?_,nt⟩
  ·simp only[Instr.mapEntry,Sem.run_bind,run_underlying hu,Result.andThen_ok,en,hck,ei,Option.map_none,hz,zP q1,Sem.run_pure]
  ·have:clock=kvs.length:=by omega
   rw[this];exact aR (BD zv)
 | some i =>
  rw[hf]at ei;obtain ⟨hi,xm⟩:=Cr hf;have gG:i<es.size:=by omega
  have h3:=q3 i hi;rw[xm]at h3;have zR:(es.getD i default).key=v:=W0 lO h3 hx;have uZ:Instr.sameBits 10000 v v=true:=W4 hK.ns lO hx;have Ox:es.getD i default=es[i]:=by simp[Array.getD_eq_getD_getElem?,gG]
  have pq:(Instr.keyThatStays (((es[i]?).map (·.key)).getD v) v).run P w=.ok v w:=by
   have e:((es[i]?).map (·.key)).getD v=v:=by
    rw[Array.getElem?_eq_getElem gG];rw[Ox]at zR;simpa using zR
   rw[e];simp[Instr.keyThatStays,uZ]
  have bw:=Ow hR hb hg q1 hi (q4 i hi) (f:=fun e=>{ e with key:=v }) (fun _=>rfl) rfl zR.symm;have cr:kvs.set i ((kvs.getD i (.any,.any)).1,(kvs.getD i (.any,.any)).2)=kvs:=by
   have e:kvs.getD i (.any,.any)=kvs[i]:=by simp[List.getD,hi]
   rw[e];exact List.set_getElem_self hi
  rw[cr]at bw;refine ⟨.tuple #[(es.getD i default).val,goInt (i:Nat)],_,?_,bw,aR (q4 i hi),nt⟩;have EJ:((es[i]?).map fun e=>(e.born:Int)).getD 0=(i:Int):=by
   rw[Array.getElem?_eq_getElem gG];have:=d1 i gG;rw[Ox]at this;have h9:es[i].born=i:=by simpa using this
   simp[h9]
  have zS:((((es[i]?).map (·.born)).getD 0:Nat):Int)=(i:Int):=by
   rw[Array.getElem?_eq_getElem gG];have:=d1 i gG;rw[Ox]at this;have h9:es[i].born=i:=by simpa using this
   simp[h9]
  simp only[Instr.mapEntry,Sem.run_bind,run_underlying hu,Result.andThen_ok,en,hck,ei,Option.map_some,pq,zP q1,Sem.run_pure,EJ,zS,tZ]
def Yej (hR:R c g s a w)    (hb:s.H b=.az kvs true)  {m u:Value}  (hi:i<kvs.length)(hm:VR g (Qm c g s) w (.mp b) m)(hy:VR g (Qm c g s) w y u) :
  ∃ w',(Instr.entryStore t m (.int .i64 (i:Int)) u).run P w=.ok () w'/\R c g (s.aI b (.az (kvs.set i ((kvs.getD i (.any,.any)).1,y)) true)) a w':=by
 obtain ⟨k,rfl,hg⟩:=yV hm;obtain ⟨es,clock,q1,q2,q3,q4,q5,q6,q7⟩:=zO hR hb hg;have en:(getObj k).run P w=.ok (.map es clock) w:=by simp[getObj,Sem.run,q1]
 have fO:=Ws q1;obtain ⟨d1,d2⟩:=q7 rfl;have gG:i<es.size:=by omega
 have bw:=Ow hR hb hg q1 hi hy (f:=fun e=>{ e with val:=u }) (fun _=>rfl) rfl rfl;have kj:es.findIdx? (fun e=>(e.born:Int)==(i:Int))=some i:=by
  rw[Array.findIdx?_eq_some_iff_getElem];have hd:∀ j (hj:j<es.size),es[j].born=j:=fun j hj=>by
   have:=d1 j hj;simpa [Array.getD_eq_getD_getElem?,hj] using this
  refine ⟨gG,by simp[hd i gG],fun j hj=>?_⟩;rw[hd j af];simp;omega
 refine ⟨_,?_,bw⟩;simp only[Instr.entryStore,Sem.run_bind,Result.andThen_ok,en];have has:(asIntOf (.int .i64 (i:Int))).run P w=.ok (.i64,(i:Int)) w:=by simp[asIntOf]
 simp only[asInt,Sem.run_pure,Sem.run_bind,Result.andThen_ok,has,kj,zP q1]
end
def eK:List AV->Nat
 | .mp b::_=>b
 | _=>0
def I9:List AV->Prop
 | .mp _::_=>True
 | _=>False
def nD:List AV->AV
 | _::x::_=>x
 | _=>.any
def zU:List AV->AV
 | _::_::x::_=>x
 | _=>.any
def Ct:List AV->Int
 | _::.int _ n::_=>n
 | _=>0
def Oy:List AV->Prop
 | _::.int .i64 _::_=>True
 | _=>False
def iY:Bk->List (AV×AV)
 | .az kvs _=>kvs
 | _=>[]
def sv:Bk->Bool
 | .az _ dn=>dn
 | _=>false
def xn:Bk->Prop
 | .az _ _=>True
 | _=>False
theorem Yin (b:Nat)(r:List AV):eK (.mp b::r)=b:=rfl
theorem Ygl (b:Nat)(r:List AV):I9 (.mp b::r)=True:=rfl
theorem Yh5 (x y:AV)(r:List AV):nD (x::y::r)=y:=rfl
theorem Yhr (x y z:AV)(r:List AV):zU (x::y::z::r)=z:=rfl
theorem Ygw (x:AV)(k:IntKind)(n:Int)(r:List AV):Ct (x::.int k n::r)=n:=rfl
theorem Ydy (x:AV)(n:Int)(r:List AV):Oy (x::.int .i64 n::r)=True:=rfl
theorem Yjc (kvs:List (AV×AV))(dn:Bool):iY (.az kvs dn)=kvs:=rfl
theorem Yir (kvs:List (AV×AV))(dn:Bool):sv (.az kvs dn)=dn:=rfl
theorem Xvi (kvs:List (AV×AV))(dn:Bool):xn (.az kvs dn)=True:=rfl
theorem Xcc (ks:List SK)(cs:List AV):Zs true ks (.agg cs)=(cs.map Yt=ks.map some):=by simp[Zs,Wz]
theorem Xd3 (k:IntKind)(n:Int):Zs false [.int k] (.int k n)=True:=by simp[Zs,Wz,Yt]
theorem Xc2 (k:IntKind)(n:Int):Yt (.int k n)=some (.int k):=rfl
theorem Qx8 (b:Bool):Yt (.bool b)=some .bool:=rfl
attribute [go_sem] Yin Ygl Yh5 Yhr Ygw Ydy Yjc Yir Xvi Xcc Xd3 Xc2 Qx8
def EK {vs:List AV}(h:I9 vs):∃ b r,vs=.mp b::r:=by
 match vs,h with
 | .mp b::r,_=>exact ⟨b,r,rfl⟩
def EL {x:Bk}(h:xn x):∃ kvs dn,x=.az kvs dn:=by
 cases x<;>first|exact h.elim|exact ⟨_,_,rfl⟩
section
variable {P:Program}{c:Cx}{ops:Array Oper}{io:Oper}
def Xys {ok:Bool}{xs:List Operand}(h:Xt P o=some (.wR t ok,xs)):∃ m k,o.op=.lookup t m k ok/\xs=[m,k]:=by
 unfold Xt at h
 repeat' split at h
 all_goals first
  | (cases h;exact ⟨_,_,by assumption,rfl⟩)
  | (simp at h;done)
  | (cases h;done)
  | (simp[Option.map_eq_some_iff]at h;done)
def Xxu {xs:List Operand}(h:Xt P o=some (.DP t,xs)):∃ m k v,o.op=.mapUpdate t m k v/\xs=[m,k,v]:=by
 unfold Xt at h
 repeat' split at h
 all_goals first
  | (cases h;exact ⟨_,_,_,by assumption,rfl⟩)
  | (simp at h;done)
  | (cases h;done)
  | (simp[Option.map_eq_some_iff]at h;done)
def Xyk {xs:List Operand}(h:Xt P o=some (.BK t,xs)):∃ m k,o.op=.mapEntry t m k/\xs=[m,k]:=by
 unfold Xt at h
 repeat' split at h
 all_goals first
  | (cases h;exact ⟨_,_,by assumption,rfl⟩)
  | (simp at h;done)
  | (cases h;done)
  | (simp[Option.map_eq_some_iff]at h;done)
def Xyg {xs:List Operand}(h:Xt P o=some (.DQ t,xs)):∃ m k v,o.op=.entryStore t m k v/\xs=[m,k,v]:=by
 unfold Xt at h
 repeat' split at h
 all_goals first
  | (cases h;exact ⟨_,_,_,by assumption,rfl⟩)
  | (simp at h;done)
  | (cases h;done)
  | (simp[Option.map_eq_some_iff]at h;done)
def Xz9 {xs:List Operand}(h:Xt P o=some (.Ie t,xs)):∃ r,o.op=.makeMap t r/\(r=none\/∃ k n,r=some (.const (.int k n)))/\xs=[]:=by
 unfold Xt at h
 repeat' split at h
 all_goals first
  | (rename_i hh;exact Bool.noConfusion hh)
  | (cases h;exact ⟨_,by assumption,.inl rfl,rfl⟩)
  | (cases h;exact ⟨_,by assumption,.inr ⟨_,_,rfl⟩,rfl⟩)
  | (simp at h;done)
  | (cases h;done)
  | (simp[Option.map_eq_some_iff]at h;done)
def Yg0 {s:FS}{d:Nat}{V:AV}{rt rb:List Nat}(hg:io.guard=none)(bb:io.dst=some d)(hd:d<c.N)
  (core:∀ s2:FS,(∀ i ∈ rt,s2.T i=s.T i)->(∀ b ∈ rb,s2.H b=s.H b)->∀ g a w,R c g s2 a w->∃ v',(execOp a.eval io).run P w=.ok (.value v') w/\VR g (Qm c g s2) w V v') :
  kL P c ops io s ⟨rt,rb,[d],[]⟩ (s.put d V):=by
 refine ⟨fun i hi=>?_,fun j hj=>rfl,fun s2 hT hH g a w hR K Q' hK=>Ze hg ?_⟩
 ·rw[FS.dF,aa (fun e=>hi (by simp[e]))]
 ·obtain ⟨v',hr,hv⟩:=core s2 hT hH g a w hR;unfold Oper.wp;rw[hr];show K (a.put io.dst v') w;rw[bb];refine hK g _ w ?_;rw[yY];exact hR.put hd hv
def XA {s:FS}{b d:Nat}{X:Bk}{V:AV}{rt rb:List Nat}(hg:io.guard=none)(bb:io.dst=some d)(hd:d<c.N)
  (core:∀ s2:FS,(∀ i ∈ rt,s2.T i=s.T i)->(∀ b ∈ rb,s2.H b=s.H b)->∀ g a w,R c g s2 a w->∃ g' v' w',(execOp a.eval io).run P w=.ok (.value v') w'/\R c g' (s2.aI b X) a w'/\VR g' (Qm c g' (s2.aI b X)) w' V v') :
  kL P c ops io s ⟨rt,rb,[d],[b]⟩ ((s.aI b X).put d V):=by
 refine ⟨fun i hi=>?_,fun j hj=>?_,fun s2 hT hH g a w hR K Q' hK=>Ze hg ?_⟩
 ·rw[FS.dF,aa (fun e=>hi (by simp[e]))];rfl
 ·rw[FS.rR,FS.a8,aa (fun e=>hj (by simp[e]))]
 ·obtain ⟨g',v',w',hr,bh,hv⟩:=core s2 hT hH g a w hR;unfold Oper.wp;rw[hr];show K (a.put io.dst v') w';rw[bb];refine hK g' _ w' ?_;rw[UW];exact bh.put hd hv
def XB {s:FS}{b:Nat}{X:Bk}{rt rb:List Nat}(hg:io.guard=none)(bb:io.dst=none)
  (core:∀ s2:FS,(∀ i ∈ rt,s2.T i=s.T i)->(∀ b ∈ rb,s2.H b=s.H b)->∀ g a w,R c g s2 a w->∃ g' w',(execOp a.eval io).run P w=.ok .skip w'/\R c g' (s2.aI b X) a w') :
  kL P c ops io s ⟨rt,rb,[],[b]⟩ (s.aI b X):=by
 refine ⟨fun i hi=>rfl,fun j hj=>?_,fun s2 hT hH g a w hR K Q' hK=>Ze hg ?_⟩
 ·rw[FS.a8,aa (fun e=>hj (by simp[e]))]
 ·obtain ⟨g',w',hr,bh⟩:=core s2 hT hH g a w hR;unfold Oper.wp;rw[hr];show K (a.put io.dst undef) w';rw[bb];refine hK g' _ w' ?_;rw[DS];exact bh
def qj (s:FS)(wide:Bool)(ks:List SK)(vs:List AV):Prop:=I9 vs/\xn (s.H (eK vs))/\Zs wide ks (nD vs)/\Wy wide ks (iY (s.H (eK vs)))
noncomputable def zV (s:FS)(z:AV)(ok:Bool)(vs:List AV):AV:=bif ok then .aR [Kk (iY (s.H (eK vs))) (nD vs) z,.bool (Cq (iY (s.H (eK vs))) (nD vs))] else Kk (iY (s.H (eK vs))) (nD vs) z
def Wu (s:FS)(gl:Nat->AV)(xs:List TV)(wt:List Nat)(wr:Bool):bc:=⟨Xe xs,[eK ((aD gl s xs).map Qh)],wt,bif wr then [eK ((aD gl s xs).map Qh)] else []⟩
def JA {ok:Bool}   {ks:List SK}  (hT:cu P t wide ks z)(hc:Qr none (aD c.gl s.fs xs))(aS:qj s.fs wide ks ((aD c.gl s.fs xs).map Qh)) :
  Ki P c (.pd (some d) (.wR t ok) xs none) s.fs (Wu s.fs c.gl xs [d] false) (s.put d (zV s.fs z ok ((aD c.gl s.fs xs).map Qh))).fs:=by
 intro ops io he;obtain ⟨aX,bb,hd,ys,aE,rfl⟩:=Zm he;obtain ⟨m,k,hop,rfl⟩:=Xys aE;have ec:(aD c.gl s.fs ([m,k].map aP)).map Qh=[Qh (aV c.gl s.fs (aP m)),Qh (aV c.gl s.fs (aP k))]:=rfl;unfold Wu;rw[ec]at aS ⊢;generalize JB:Qh (aV c.gl s.fs (aP m))=vm at *
 generalize zw:Qh (aV c.gl s.fs (aP k))=vk at *
 obtain ⟨h1,h2,h3,h4⟩:=aS;obtain ⟨b,r,hb⟩:=EK h1;injection hb with eO hb2
 subst eO;obtain ⟨kvs,dn,iX⟩:=EL h2;simp only[zV,eK,nD,cond_false]at h3 h4 iX ⊢;rw[iX]at h4 ⊢;simp only[iY]at h4 ⊢;rw[St.bU];refine Yg0 (Jj aX) bb (by simpa using hd) fun s2 kX pw g a w hR=>?_;have bj:aD c.gl s2 ([m,k].map aP)=aD c.gl s.fs ([m,k].map aP):=Yd kX;have eR:=Yk (hR.ci [m,k]) (by rw[bj];exact hc);rw[bj,ec]at eR;obtain ⟨v1,v2,_⟩:=eR;obtain ⟨r0,hr,hv⟩:=Ybn hR hT (b:=b) (kvs:=kvs) (dn:=dn) (by rw[pw b av,iX]) v1 v2 h3 h4 ok;refine ⟨r0,?_,hv⟩;unfold execOp;simp only[hop];exact Zy hr
def Ygy {ok:Bool}   {ks:List SK}  (hT:cu P t wide ks z)(h:Qr none (aD c.gl s.fs xs)/\qj s.fs wide ks ((aD c.gl s.fs xs).map Qh)/\XP P c r0 K (s.put d (zV s.fs z ok ((aD c.gl s.fs xs).map Qh)))) :
  Yo P c (.pd (some d) (.wR t ok) xs none) r0 K s:=.inl ⟨_,_,JA hT h.1 h.2.1,h.2.2⟩
def Ybz {fs:List bc}      {ok:Bool}   {ks:List SK}  (hT:cu P t wide ks z)(h:Qr none (aD c.gl s.fs xs)/\qj s.fs wide ks ((aD c.gl s.fs xs).map Qh)/\XD P c anc r0 (Wu s.fs c.gl xs [d] false::fs) K (s.put d (zV s.fs z ok ((aD c.gl s.fs xs).map Qh)))) :
  Yz P c anc (.pd (some d) (.wR t ok) xs none) r0 fs K s:=⟨_,_,JA hT h.1 h.2.1,h.2.2⟩
def EM (s:FS)(vs:List AV)(kvs:List (AV×AV)):Bk:=.az kvs (sv (s.H (eK vs)))
def XC {ks:List SK}  (hT:cu P t wide ks z)(hc:Qr none (aD c.gl s.fs xs))(aS:qj s.fs wide ks ((aD c.gl s.fs xs).map Qh)) :
  Ki P c (.pd none (.DP t) xs none) s.fs (Wu s.fs c.gl xs [] true) (s.aI (eK ((aD c.gl s.fs xs).map Qh)) (EM s.fs ((aD c.gl s.fs xs).map Qh) (Jy (iY (s.fs.H (eK ((aD c.gl s.fs xs).map Qh)))) (nD ((aD c.gl s.fs xs).map Qh)) (zU ((aD c.gl s.fs xs).map Qh))))).fs:=by
 intro ops io he;obtain ⟨aX,bb,hd,ys,aE,rfl⟩:=Zm he;obtain ⟨m,k,v,hop,rfl⟩:=Xxu aE;have ec:(aD c.gl s.fs ([m,k,v].map aP)).map Qh=[Qh (aV c.gl s.fs (aP m)),Qh (aV c.gl s.fs (aP k)),Qh (aV c.gl s.fs (aP v))]:=rfl;unfold Wu;rw[ec]at aS ⊢;generalize JB:Qh (aV c.gl s.fs (aP m))=vm at *
 generalize zw:Qh (aV c.gl s.fs (aP k))=vk at *
 generalize ra:Qh (aV c.gl s.fs (aP v))=vv at *
 obtain ⟨h1,h2,h3,h4⟩:=aS;obtain ⟨b,r,hb⟩:=EK h1;injection hb with eO hb2
 subst eO;obtain ⟨kvs,dn,iX⟩:=EL h2;simp only[EM,eK,nD,zU,cond_true]at h3 h4 iX ⊢;rw[iX]at h4 ⊢;simp only[iY,sv]at h4 ⊢;rw[St.cg];refine XB (Jj aX) bb fun s2 kX pw g a w hR=>?_;have bj:aD c.gl s2 ([m,k,v].map aP)=aD c.gl s.fs ([m,k,v].map aP):=Yd kX;have eR:=Yk (hR.ci [m,k,v]) (by rw[bj];exact hc);rw[bj,ec]at eR;obtain ⟨v1,v2,v3,_⟩:=eR;obtain ⟨w',hr,bh⟩:=Ybo hR hT (b:=b) (kvs:=kvs) (dn:=dn) (by rw[pw b av,iX]) v1 v2 v3 h3 h4;refine ⟨g,w',?_,bh⟩;unfold execOp;simp only[hop,Sem.run_bind,hr,Result.andThen_ok,Sem.run_pure]
def Oz {ks:List SK}  (hT:cu P t wide ks z)(h:Qr none (aD c.gl s.fs xs)/\qj s.fs wide ks ((aD c.gl s.fs xs).map Qh)/\XP P c r0 K (s.aI (eK ((aD c.gl s.fs xs).map Qh)) (EM s.fs ((aD c.gl s.fs xs).map Qh) (Jy (iY (s.fs.H (eK ((aD c.gl s.fs xs).map Qh)))) (nD ((aD c.gl s.fs xs).map Qh)) (zU ((aD c.gl s.fs xs).map Qh)))))) :
  Yo P c (.pd none (.DP t) xs none) r0 K s:=.inl ⟨_,_,XC hT h.1 h.2.1,h.2.2⟩
def OA {fs:List bc}       {ks:List SK}  (hT:cu P t wide ks z)(h:Qr none (aD c.gl s.fs xs)/\qj s.fs wide ks ((aD c.gl s.fs xs).map Qh)/\XD P c anc r0 (Wu s.fs c.gl xs [] true::fs) K (s.aI (eK ((aD c.gl s.fs xs).map Qh)) (EM s.fs ((aD c.gl s.fs xs).map Qh) (Jy (iY (s.fs.H (eK ((aD c.gl s.fs xs).map Qh)))) (nD ((aD c.gl s.fs xs).map Qh)) (zU ((aD c.gl s.fs xs).map Qh)))))) :
  Yz P c anc (.pd none (.DP t) xs none) r0 fs K s:=⟨_,_,XC hT h.1 h.2.1,h.2.2⟩
def JC (s:FS)(wide:Bool)(ks:List SK)(vs:List AV):Prop:=qj s wide ks vs/\sv (s.H (eK vs))=true
noncomputable def EN (s:FS)(z:AV)(vs:List AV):AV:=.aR [Kk (iY (s.H (eK vs))) (nD vs) z,.int .i64 (nh (iY (s.H (eK vs))) (nD vs))]
noncomputable def EO (s:FS)(z:AV)(vs:List AV):Bk:=.az (qi (iY (s.H (eK vs))) (nD vs) z) true
def VR.xo {g:Nat->GM}{s:FS}  {X:Bk}{w w':World}   (h:VR g (Qm c g s) w x v)(hb:(s.H b).live)(hX:X.live)(hf:Fr w w' (fun i=>g b=.re i)):VR g (Qm c g (s.aI b X)) w' x v :=
 h.mono (hf.weak fun i hi=>.inr ⟨b,hb,hi⟩) (fun k _ hk=>by
  rcases hk with h|⟨b',h1,h2⟩
  ·exact .inl h
  ·rw[FS.a8]at h1;split at h1
   ·rename_i e;subst e;exact .inr ⟨_,hb,h2⟩
   ·exact .inr ⟨b',h1,h2⟩) (fun _ _=>rfl)
def XE {ks:List SK}  (hT:cu P t wide ks z)(hc:Qr none (aD c.gl s.fs xs))(aS:JC s.fs wide ks ((aD c.gl s.fs xs).map Qh)) :
  Ki P c (.pd (some d) (.BK t) xs none) s.fs (Wu s.fs c.gl xs [d] true) ((s.aI (eK ((aD c.gl s.fs xs).map Qh)) (EO s.fs z ((aD c.gl s.fs xs).map Qh))).put d (EN s.fs z ((aD c.gl s.fs xs).map Qh))).fs:=by
 intro ops io he;obtain ⟨aX,bb,hd,ys,aE,rfl⟩:=Zm he;obtain ⟨m,k,hop,rfl⟩:=Xyk aE;have ec:(aD c.gl s.fs ([m,k].map aP)).map Qh=[Qh (aV c.gl s.fs (aP m)),Qh (aV c.gl s.fs (aP k))]:=rfl;unfold Wu;rw[ec]at aS ⊢;generalize JB:Qh (aV c.gl s.fs (aP m))=vm at *
 generalize zw:Qh (aV c.gl s.fs (aP k))=vk at *
 obtain ⟨⟨h1,h2,h3,h4⟩,h5⟩:=aS;obtain ⟨b,r,hb⟩:=EK h1;injection hb with eO hb2
 subst eO;obtain ⟨kvs,dn,iX⟩:=EL h2;simp only[EO,EN,eK,nD,cond_true]at h3 h4 h5 iX ⊢;rw[iX]at h4 h5 ⊢;simp only[iY,sv]at h4 h5 ⊢;subst h5;rw[St.bU,St.cg];refine XA (Jj aX) bb (by simpa using hd) fun s2 kX pw g a w hR=>?_;have bj:aD c.gl s2 ([m,k].map aP)=aD c.gl s.fs ([m,k].map aP):=Yd kX;have eR:=Yk (hR.ci [m,k]) (by rw[bj];exact hc);rw[bj,ec]at eR;obtain ⟨v1,v2,_⟩:=eR;have hb2:s2.H b=.az kvs true:=by rw[pw b av,iX]
 obtain ⟨r0,w',hr,bh,hv,hf⟩:=Yba hR hT (b:=b) (kvs:=kvs) hb2 v1 v2 h3 h4;refine ⟨g,r0,w',?_,bh,hv.xo (by rw[hb2];trivial) trivial hf⟩;unfold execOp;simp only[hop,Sem.run_bind,hr,Result.andThen_ok,Sem.run_pure]
def XF {ks:List SK}  (hT:cu P t wide ks z)(h:Qr none (aD c.gl s.fs xs)/\JC s.fs wide ks ((aD c.gl s.fs xs).map Qh)/\XP P c r0 K ((s.aI (eK ((aD c.gl s.fs xs).map Qh)) (EO s.fs z ((aD c.gl s.fs xs).map Qh))).put d (EN s.fs z ((aD c.gl s.fs xs).map Qh)))) :
  Yo P c (.pd (some d) (.BK t) xs none) r0 K s:=.inl ⟨_,_,XE hT h.1 h.2.1,h.2.2⟩
def XH {fs:List bc}        {ks:List SK}  (hT:cu P t wide ks z)(h:Qr none (aD c.gl s.fs xs)/\JC s.fs wide ks ((aD c.gl s.fs xs).map Qh)/\XD P c anc r0 (Wu s.fs c.gl xs [d] true::fs) K ((s.aI (eK ((aD c.gl s.fs xs).map Qh)) (EO s.fs z ((aD c.gl s.fs xs).map Qh))).put d (EN s.fs z ((aD c.gl s.fs xs).map Qh)))) :
  Yz P c anc (.pd (some d) (.BK t) xs none) r0 fs K s:=⟨_,_,XE hT h.1 h.2.1,h.2.2⟩
def OB (s:FS)(vs:List AV):Prop:=I9 vs/\xn (s.H (eK vs))/\sv (s.H (eK vs))=true/\Oy vs/\0<=Ct vs/\Ct vs<(iY (s.H (eK vs))).length
def JD (s:FS)(vs:List AV):Bk:=.az ((iY (s.H (eK vs))).set (Ct vs).toNat (((iY (s.H (eK vs))).getD (Ct vs).toNat (.any,.any)).1,zU vs)) true
def Xwn (hc:Qr none (aD c.gl s.fs xs))(aS:OB s.fs ((aD c.gl s.fs xs).map Qh)) :
  Ki P c (.pd none (.DQ t) xs none) s.fs (Wu s.fs c.gl xs [] true) (s.aI (eK ((aD c.gl s.fs xs).map Qh)) (JD s.fs ((aD c.gl s.fs xs).map Qh))).fs:=by
 intro ops io he;obtain ⟨aX,bb,hd,ys,aE,rfl⟩:=Zm he;obtain ⟨m,k,v,hop,rfl⟩:=Xyg aE;have ec:(aD c.gl s.fs ([m,k,v].map aP)).map Qh=[Qh (aV c.gl s.fs (aP m)),Qh (aV c.gl s.fs (aP k)),Qh (aV c.gl s.fs (aP v))]:=rfl;unfold Wu;rw[ec]at aS ⊢;generalize JB:Qh (aV c.gl s.fs (aP m))=vm at *
 generalize zw:Qh (aV c.gl s.fs (aP k))=vk at *
 generalize ra:Qh (aV c.gl s.fs (aP v))=vv at *
 obtain ⟨h1,h2,h3,h4,h5,h6⟩:=aS;obtain ⟨b,r,hb⟩:=EK h1;injection hb with eO hb2
 subst eO;cases vk<;>simp only[Oy]at h4
 rename_i kd n;cases kd<;>simp only at h4
 obtain ⟨kvs,dn,iX⟩:=EL h2;simp only[JD,eK,zU,Ct,cond_true]at h3 h5 h6 iX ⊢;rw[iX]at h3 h6 ⊢;simp only[iY,sv]at h3 h6 ⊢;subst h3;obtain ⟨i,rfl⟩:=Int.eq_ofNat_of_zero_le h5;rw[Int.toNat_natCast];rw[St.cg];refine XB (Jj aX) bb fun s2 kX pw g a w hR=>?_;have bj:aD c.gl s2 ([m,k,v].map aP)=aD c.gl s.fs ([m,k,v].map aP):=Yd kX;have eR:=Yk (hR.ci [m,k,v]) (by rw[bj];exact hc);rw[bj,ec]at eR;obtain ⟨v1,v2,v3,_⟩:=eR;obtain ⟨w',hr,bh⟩:=Yej (P:=P) hR (t:=t) (b:=b) (kvs:=kvs) (i:=i) (by rw[pw b av,iX]) af v1 v3;rw[<- I2 v2]at hr;refine ⟨g,w',?_,bh⟩;unfold execOp;simp only[hop,Sem.run_bind,hr,Result.andThen_ok,Sem.run_pure]
def XI {fs:List bc}      (h:Qr none (aD c.gl s.fs xs)/\OB s.fs ((aD c.gl s.fs xs).map Qh)/\XD P c anc r0 (Wu s.fs c.gl xs [] true::fs) K (s.aI (eK ((aD c.gl s.fs xs).map Qh)) (JD s.fs ((aD c.gl s.fs xs).map Qh)))) :
  Yz P c anc (.pd none (.DQ t) xs none) r0 fs K s:=⟨_,_,Xwn h.1 h.2.1,h.2.2⟩
def Xug {ks:List SK}  (hT:cu P t wide ks z)(hf:s.fs.H s.n=.free):Ki P c (.pd (some d) (.Ie t) [] none) s.fs ⟨[],[s.n],[d],[s.n]⟩ ((s.nw (.az [] true)).put d (.mp s.n)).fs:=by
 intro ops io he;obtain ⟨aX,bb,hd,ys,aE,og⟩:=Zm he;obtain ⟨r,hop,hr,rfl⟩:=Xz9 aE;obtain ⟨kt,et,zv,hu,_,_,_⟩:=hT.of;rw[St.bU,St.iC];refine XA (Jj aX) bb (by simpa using hd) fun s2 kX pw g a w hR=>?_;have bq:s2.H s.n=.free:=by rw[pw _ av];exact hf
 have cz:=heap_alloc_new w (.map #[] 0);have hrun:(execOp a.eval io).run P w=.ok (.value (.map (some w.heap.size))) (w.alloc (.map #[] 0)):=by
  rcases hr with rfl|⟨k,n,rfl⟩
  ·simp[execOp,hop,Instr.makeMap,newObj,Sem.run]
  ·simp[execOp,hop,Instr.makeMap,newObj,Sem.run_bind,run_underlying hu,asInt,asIntOf,Act.eval];simp[Sem.run]
 refine ⟨_,_,_,hrun,hR.new (.map #[] 0) bq trivial fun g' fN=>?_,.mp (by simp[Zh])⟩;exact .az cz rfl (fun j hj=>by simp at hj) (fun j hj=>by simp at hj) (fun j hj=>by simp at hj) (fun i j _ hj=>by simp at hj) (fun _=>⟨fun j hj=>by simp at hj,rfl⟩)
def zW {ks:List SK}  (hT:cu P t wide ks z)(h:s.fs.H s.n=.free/\XP P c r0 K ((s.nw (.az [] true)).put d (.mp s.n))) :
  Yo P c (.pd (some d) (.Ie t) [] none) r0 K s:=.inl ⟨_,_,Xug hT h.1,h.2⟩
attribute [go_sem] qj zV Wu EM JC EN EO OB JD
end
def Yk5 {FP:Prop}{p q:Prop}(fp:FP)(k:q)(h:FP->cW q->p:=by (intro zp zk;((first|refine Ygy zp ?_|refine Ybz zp ?_);(refine XG ?_;((try with_reducible and_intros);all_goals try first|refine zm ?_|exact CL)));exact zk.it)):p:=h fp ⟨k⟩
def Ykd {FP:Prop}{p q:Prop}(fp:FP)(k:q)(h:FP->cW q->p:=by (intro zp zk;((first|refine Oz zp ?_|refine OA zp ?_);(refine XG ?_;((try with_reducible and_intros);all_goals try first|refine zm ?_|exact CL)));exact zk.it)):p:=h fp ⟨k⟩
def Ul {FP:Prop}{F:Prop}{p q:Prop}(fp:FP)(f:F)(k:q)(h:FP->F->cW q->p:=by (intro zp aQ zk;exact Yk5 zp zk.it)):p:=h fp f ⟨k⟩
def xq {FP:Prop}{F:Prop}{p q:Prop}(fp:FP)(f:F)(k:q)(h:FP->F->cW q->p:=by (intro zp aQ zk;exact Ykd zp zk.it)):p:=h fp f ⟨k⟩
mutual
def dm (S:Nat->Prop):AV->Prop
 | .dV _ v=>dm S v
 | .agg cs=>dL S cs
 | .aR cs=>dL S cs
 | .xp cs _=>dL S cs
 | .isl _ cs=>dL S cs
 | .cl _ cs=>dL S cs
 | .ptr b _=>S b
 | .sl _ b _ _ _=>S b
 | .mp b=>S b
 | _=>True
def dL (S:Nat->Prop):List AV->Prop
 | []=>True
 | x::xs=>dm S x/\dL S xs
end
def EP {S:Nat->Prop}:∀ {cs:List AV},dL S cs ↔ ∀ x ∈ cs,dm S x
 | []=>by simp[dL]
 | x::xs=>by simp[dL,EP (cs:=xs)]
def Cu {S:Nat->Prop}  (h:dL S cs)(j:Nat):dm S (cs.getD j .any):=by
 by_cases hj:j<cs.length
 ·rw[DG hj];exact EP.1 h _ (List.getElem_mem _)
 ·have:cs.getD j .any=.any:=by simp[List.getD,Nat.le_of_not_lt hj]
  rw[this];simp[dm]
def sw (S:Nat->Prop):Bk->Prop
 | .cells cs=>dL S cs
 | .az kvs _=>∀ p ∈ kvs,dm S p.1/\dm S p.2
 | .bp kvs _ _=>∀ p ∈ kvs,dm S p.1/\dm S p.2
 | .iter b _ _=>S b
 | .dM ls=>∀ l ∈ ls,ah 0 l
 | _=>True
section
variable {S:Nat->Prop}{W W':Nat->Prop}{w w':World}{g g':Nat->GM}
def VR.only (hg:∀ b,S b->g b≠.un->g b=g' b){v:AV}  (h:VR g W w v u):dm S v->VR g' W w v u:=by
 induction h with
 | any v=>intro _;exact .any _
 | dV h h0 ih=>intro hn;simp only[dm]at hn;exact .dV (fun hb=>ih hb hn) h0
 | int k n=>intro _;exact .int _ _
 | bool b=>intro _;exact .bool _
 | str l=>intro _;exact .str _
 | agg hs h1 h ih=>intro hn;simp only[dm]at hn;exact .agg hs h1 fun j hj=>ih j hj (Cu hn j)
 | aR hs h ih=>intro hn;simp only[dm]at hn;exact .aR hs fun j hj=>ih j hj (Cu hn j)
 | ptr e=>intro hn;simp only[dm]at hn;exact .ptr (by rw[<- hg _ hn (by rw[e];intro x;cases x)];exact e)
 | xp hc h ih=>intro hn;simp only[dm]at hn;exact .xp hc fun j hj=>ih j hj (Cu hn j)
 | sl e a b c d f=>intro hn;simp only[dm]at hn;exact .sl (by rw[<- hg _ hn (by rw[e];intro x;cases x)];exact e) a b c d f
 | kH e hc=>intro hn;simp only[dm]at hn;exact .kH (by rw[<- hg _ hn (by rw[e];intro x;cases x)];exact e) hc
 | isl a b hc h ih=>intro hn;simp only[dm]at hn;exact .isl a b hc fun j hj=>ih j hj (Cu hn j)
 | nils a=>intro _;exact .nils _
 | cl hs h ih=>intro hn;simp only[dm]at hn;exact .cl hs fun j hj=>ih j hj (Cu hn j)
 | mp e=>intro hn;simp only[dm]at hn;exact .mp (by rw[<- hg _ hn (by rw[e];intro x;cases x)];exact e)
 | lit v=>intro _;exact .lit _
def BR.only (hg:∀ b,S b->g b≠.un->g b=g' b){m:GM}{x:Bk}(h:BR g W w m x)(hn:sw S x):BR g' W w m x:=by
 cases h with
 | free=>exact .free
 | dead h=>exact .dead h
 | ph=>exact .ph
 | cells hb hl h1 hv hz=>exact .cells hb hl h1 (fun j hj=>(hv j hj).only hg (Cu hn j)) hz
 | az hb hs jm hv hc ha hd =>
  rename_i k kvs dn es clock;have bQ:∀ j,j<kvs.length->kvs.getD j (.any,.any) ∈ kvs:=fun j hj=>by simp[List.getD,hj]
  exact .az hb hs (fun j hj=>(jm j hj).only hg (hn _ (bQ j hj)).1) (fun j hj=>(hv j hj).only hg (hn _ (bQ j hj)).2) hc ha hd
 | bp hb hs jm hv hc ha hd =>
  rename_i k kvs bs es clock;have bQ:∀ j,j<kvs.length->kvs.getD j (.any,.any) ∈ kvs:=fun j hj=>by simp[List.getD,hj]
  exact .bp hb hs (fun j hj=>(jm j hj).only hg (hn _ (bQ j hj)).1) (fun j hj=>(hv j hj).only hg (hn _ (bQ j hj)).2) hc ha hd
 | iter hb l8=>exact .iter hb (by rw[<- hg _ hn (by rw[l8];intro x;cases x)];exact l8)
 | dM hp h=>exact BR.kQ (.dM hp h) hn fun _ h=>h
end
def To (p:List Nat)(s s':St):Prop:=∀ (c:Cx) (g:Nat->GM) (a:Act) (w:World),(∀ q ∈ c.gh,q.1 ∈ p)->R c g s.fs a w->∃ g',R c g' s'.fs a w
def To.refl (p:List Nat)(s:St):To p s s:=fun c g a w _ hR=>⟨g,hR⟩
def To.trans {s s' s2:St}(h:To p s s')(k:To p s' s2):To p s s2:=fun c g a w hp hR=>by
 obtain ⟨g1,h1⟩:=h c g a w hp hR;exact k c g1 a w hp h1
def XJ (p:List Nat)(ρ:List (Nat×Nat))(n:Nat):Bool:=ρ.all (fun q=>!p.contains q.1)&&p.all (fun b=>decide (b<n))
def XK {p:List Nat}:∀ {ρ:List (Nat×Nat)},ρ.all (fun q=>!p.contains q.1)=true->∀ b ∈ p,rl ρ b=b
 | [],_,_,_=>rfl
 | (i,j)::l,h,b,hb=>by
   simp only[List.all_cons,Bool.and_eq_true,Bool.not_eq_true']at h;have hi:(i==b)=false:=by
    cases e:i==b with
    | false=>rfl
    | true =>
     have:i=b:=by simpa using e
     subst this;have:=h.1;rw[List.contains_iff_mem.2 hb]at this;cases this
   show (bif i==b then j else rl l b)=b;rw[hi];exact XK h.2 b hb
def To.sub {ρ:List (Nat×Nat)}(hp:XJ p ρ s'.n=true)(h:Sub (rl ρ) s s'):To p s s':=fun c g a w hg hR=>h.to hR fun q hq=>by
 unfold XJ at hp;rw[Bool.and_eq_true]at hp;exact ⟨XK hp.1 _ (hg q hq),ap (all_eq_true.1 hp.2 _ (hg q hq))⟩
def To.ER {ρ:Nat->Nat}(hp:∀ b,b ∈ p->ρ b=b/\b<s'.n)(h:Sub ρ s s'):To p s s':=fun c g a w hg hR=>h.to hR fun q hq=>hp _ (hg q hq)
section
variable {P:Program}{c:Cx}
def qk {o:bB}    (bf:∀ q ∈ c.gh,q.1 ∈ p)(h:To p s s')(k:Yo P c o r0 K s'):Yo P c o r0 K s:=by
 refine .inr fun ops io he g a w hR K' Q' hK=>?_;obtain ⟨g',bh⟩:=h c g a w bf hR;rcases k with ⟨F,s2,hA,hr⟩|hS
 ·have y9:=hA ops io he;refine y9.step s'.fs (fun _ _=>rfl) (fun _ _=>rfl) g' a w bh K' Q' fun g2 a' w' cp=>?_;rw[Ii y9.a7 y9.dt]at cp;exact hK g2 s2 a' w' hr cp
 ·exact hS ops io he g' a w bh K' Q' hK
def JE {σ:Type}(p:List Nat)(I:σ->Prop)(df:σ->St)(μ:σ->Nat)(x:σ)(Q:EX->St->Prop):EX->St->Prop
 | .normal,s=>∃ y,I y/\To p s (df y)/\μ y<μ x
 | e,s=>Q e s
def Yn {σ:Type}(I:σ->Prop)(df:σ->St)(μ:σ->Nat){b:TC}{Q:EX->St->Prop}{s:St}(hm:P.follows .mixedOrders=true)(p:List Nat)(bf:∀ q ∈ c.gh,q.1 ∈ p)(h0:∃ y,I y/\To p s (df y))
  (hr:∀ x,I x->xw P c b (JE p I df μ x Q) (df x)):rf P c b Q s:=by
 intro code he g a w hR;obtain ⟨y0,Eb,fT⟩:=h0;obtain ⟨g0,mr⟩:=fT c g a w bf hR;have key:∀ n (x:σ),μ x=n->I x->∀ g a w,R c g (df x).fs a w->∀ (fr:Frame) (k:List Item) (cs:List Frame),∃ e a' w',vg c Q e a' w'/\Arrives P (lone (fr.at a (.code code::.inLoop code::k)) cs w) fr k cs e a' w':=by
  intro n
  induction n using Nat.strongRecOn with
  | _ n ih =>
   intro x hx hI g a w hR fr k cs;have hb:=zn hm code b _ _ he (hr x hI) g a w hR;obtain ⟨e,a1,w1,hq,fw⟩:=hb fr (.inLoop code::k) cs;cases e with
   | normal =>
    obtain ⟨g1,s1,gE,y,Ec,hs,hlt⟩:=hq;obtain ⟨g2,cp⟩:=hs c g1 a1 w1 bf gE;obtain ⟨e2,a2,w2,nz,mw⟩:=ih (μ y) af y rfl Ec g2 a1 w1 cp fr k cs;exact ⟨e2,a2,w2,nz,.of_steps (Steps.trans fw (.one step_inLoop)) mw⟩
   | exit i=>exact ⟨.exit i,a1,w1,hq,.pass (x:=.inLoop code) rfl (fun _ _=>.inl av) fw⟩
   | ret=>exact ⟨.ret,a1,w1,hq,.pass (x:=.inLoop code) rfl (fun _ _=>.inl av) fw⟩
   | goto l=>exact hq.elim
   | panic ch=>exact hq.elim
   | outgrown=>exact hq.elim
 intro fr k cs;obtain ⟨e,a',w',hq,fw⟩:=key _ y0 rfl Eb g0 a w mr fr k cs;exact ⟨e,a',w',hq,.of_steps (.one step_loop) fw⟩
def GQ (P:Program)(gl:Nat->AV)(f:FuncId)(args:List AV)(aL:List (Nat×Bk))(m:Nat)(p:List Nat){ι:Type}(Q:ι->Prop)(r:ι->AV)(ax:ι->List (Nat×Bk)):Prop :=
 BY P f∧∀ (w:World) (vs:List Value) (G X:Nat→Prop) (g:Nat→GM),R ⟨0,w,G,X,gl,[]⟩ g (dD aL m) ⟨#[],[]⟩ w→bT g (Qm ⟨0,w,G,X,gl,[]⟩ g (dD aL m)) w args vs →
  Calls P f vs.toArray w fun e w'=>∃ x v g',Q x/\e=.returned v/\R ⟨0,w,G,X,gl,[]⟩ g' (dD (ax x) m) ⟨#[],[]⟩ w'/\(∀ b,b ∈ p->g' b=g b)/\VR g' (Qm ⟨0,w,G,X,gl,[]⟩ g' (dD (ax x) m)) w' (r x) v
def JF (m:Nat)(p:List Nat)(rs:List RS){ι:Type}(Q:ι->Prop)(r:ι->AV)(ax:ι->List (Nat×Bk)):EX->St->Prop
 | .exit _,_=>False
 | _,s=>Un s.fs rs/\∃ x,Q x/\To p ⟨[(0,iE s.fs rs)],s.h,s.n⟩ ⟨[(0,r x)],ax x,m⟩
def Xxy {gl : Nat -> AV} {f : FuncId} {fn : Func} {code : Code} {t : TC} {rs : List RS} {args : List AV} {aL : List (Nat×Bk)} {m : Nat} {p : List Nat} {ι : Type} {Q : ι -> Prop} {r : ι -> AV} {ax : ι -> List (Nat×Bk)} (hm : P.follows .mixedOrders = true) (hf : P.funcs[f]? = some fn) (hb : fn.body = some code) (fx : (fn.name == "runtime.NumGoroutine") = false)
  (he:Js P fn.ntmps code=some t) (hr:qe P fn.results.toList=some rs) (hN:args.length<=fn.ntmps) (aO:∀ q ∈ aL,q.2.live) (OC:∀ b ∈ p,b<m)
  (h:∀ c:Cx,(∀ q ∈ c.gh,q.1 ∈ p)->c.gl=gl->xw P c t (JF m p rs Q r ax) ⟨kR 0 args,aL,m⟩):GQ P gl f args aL m p Q r ax:=by
 refine ⟨⟨fn,hf,by rw[hb];rfl,fx⟩,fun w vs G X g mr hv=>?_⟩;refine calls_of_wp hf hb ?_;have kJ:∀ b,b<m->g b≠.un:=fun b jU e=>by
  have:=mr.h b;rw[e]at this;have hh:(dD aL m).H b=Qb aL m b:=rfl;rw[hh]at this;rcases Jk aL m b with q|⟨q0,hp,_,q⟩
  ·rw[q,am jU]at this;cases this;rename_i h;exact h rfl
  ·rw[q]at this;have hl:=aO q0 hp;cases hx:q0.2 with
   | free=>rw[hx]at hl;exact hl.elim
   | dead=>rw[hx]at hl;exact hl.elim
   | cells cs=>rw[hx]at this;cases this
   | az kvs dn=>rw[hx]at this;cases this
   | bp kvs bs ck=>rw[hx]at this;cases this
   | iter b0 ck seen=>rw[hx]at this;cases this
   | dM ls=>rw[hx]at this;cases this with|dM _ h=>cases h
 have jv:∀ q ∈ p.map (fun b=>(b,g b)),g q.1=q.2/\q.2≠.un:=fun q hp=>by
  obtain ⟨b,jU,rfl⟩:=mem_map.1 hp;exact ⟨rfl,kJ b (OC b jU)⟩
 have bf:∀ q ∈ p.map (fun b=>(b,g b)),q.1 ∈ p:=fun q hp=>by
  obtain ⟨b,jU,rfl⟩:=mem_map.1 hp;exact jU
 have hR:=NZ (N:=fn.ntmps) hN mr hv jv;have:=zn (c:=⟨fn.ntmps,w,G,X,gl,p.map (fun b=>(b,g b))⟩) hm code t _ _ he (h _ bf rfl) _ _ _ hR;refine wp_mono this fun e a' w' hq=>?_
 have fin:∀ (g1:Nat→GM) (s:St),R ⟨fn.ntmps,w,G,X,gl,p.map (fun b=>(b,g b))⟩ g1 s.fs a' w'→(Un s.fs rs∧∃ x,Q x∧To p ⟨[(0,iE s.fs rs)],s.h,s.n⟩ ⟨[(0,r x)],ax x,m⟩) →
   a'.defers=[]/\∃ v,(results fn a'.tmps).run P w'=.ok v w'/\(∃ x rW g',Q x/\Ending.returned v=.returned rW/\R ⟨0,w,G,X,gl,[]⟩ g' (dD (ax x) m) ⟨#[],[]⟩ w'/\(∀ b,b ∈ p->g' b=g b)/\VR g' (Qm ⟨0,w,G,X,gl,[]⟩ g' (dD (ax x) m)) w' (r x) rW):=by
  intro g1 s bh ⟨h1,x,hQ,h3⟩;obtain ⟨v,h4,h5⟩:=Iv bh hr h1;refine ⟨bh.ew,v,h4,x,v,?_⟩;have gE:R ⟨1,w,G,X,gl,p.map (fun b=>(b,g b))⟩ g1 (⟨[(0,iE s.fs rs)],s.h,s.n⟩:St).fs ⟨#[v],[]⟩ w':=by
   refine ⟨rfl,rfl,fun i=>?_,bh.gl,bh.h,bh.inj,bh.old,bh.fr,bh.xs,bh.jn⟩;show VR g1 _ w' (look [(0,iE s.fs rs)] i) _;rw[Jn];split
   ·rename_i hi;subst hi;exact h5
   ·exact .any _
  obtain ⟨g2,cp⟩:=h3 _ g1 _ _ bf gE;refine ⟨g2,hQ,rfl,⟨rfl,rfl,fun i=>.any _,cp.gl,cp.h,cp.inj,cp.old,cp.fr,cp.xs,fun q hp=>by cases hp⟩,fun b hb=>?_,?_⟩
  ·exact (cp.jn (b,g b) (mem_map.2 ⟨b,hb,rfl⟩)).1
  ·exact cp.t 0
 cases e with
 | normal=>obtain ⟨g,s,bh,db⟩:=hq;exact fin g s bh db
 | ret=>obtain ⟨g,s,bh,db⟩:=hq;exact fin g s bh db
 | exit i=>obtain ⟨g,s,bh,db⟩:=hq;exact db.elim
 | goto l=>exact hq.elim
 | panic ch=>exact hq.elim
 | outgrown=>exact hq.elim
def FT.gq {P:Program}{gl:Nat->AV}{f:FuncId}{fn:Func}{t:TC}{rs:List RS}(hF:FT P f fn t rs){args:List AV}{aL:List (Nat×Bk)}{m:Nat}{p:List Nat}{ι:Type}{Q:ι->Prop}{r:ι->AV}{ax:ι->List (Nat×Bk)}(hN:args.length<=fn.ntmps)(aO:∀ q ∈ aL,q.2.live)(OC:∀ b ∈ p,b<m)
  (h:∀ c:Cx,(∀ q ∈ c.gh,q.1 ∈ p)->c.gl=gl->xw P c t (JF m p rs Q r ax) ⟨kR 0 args,aL,m⟩):GQ P gl f args aL m p Q r ax:=by
 have hc:=hF.code;cases hb:fn.body with
 | none=>rw[hb]at hc;simp at hc
 | some code =>
  rw[hb]at hc;exact Xxy hF.mixed hF.func hb hF.name hc hF.res hN aO OC h
structure HL (h:List (Nat×Bk))(m:Nat):Prop where
 mem:∀ q ∈ h,q.1<m/\bX m q.2
 jV:∀ b,b<m->∃ q ∈ h,q.1=b
 self:∀ q ∈ h,Qb h m q.1=q.2
def HL.live {h:List (Nat×Bk)}{m b:Nat}(H:HL h m)(hb:b<m)(n:Nat):Qb h n b=Qb h m b/\∃ q ∈ h,q.1=b/\Qb h m b=q.2:=by
 have key:∀ (l:List (Nat×Bk)),(∃ q ∈ l,q.1=b)->Qb l n b=Qb l m b/\∃ q ∈ l,q.1=b/\Qb l m b=q.2:=fun l=>by
  induction l with
  | nil=>rintro ⟨q,hq,_⟩;cases hq
  | cons p l ih =>
   obtain ⟨i,x⟩:=p;rintro ⟨q,hq,e⟩;rw[Qf,Qf];by_cases hi:i=b
   ·rw[am hi,am hi];exact ⟨rfl,(i,x),by simp,hi,rfl⟩
   ·rw[aa hi,aa hi];rcases mem_cons.1 hq with rfl|hq
    ·exact (hi e).elim
    ·obtain ⟨h1,q',h2,h3,h4⟩:=ih ⟨q,hq,e⟩;exact ⟨h1,q',by simp[h2],h3,h4⟩
 exact key h (H.jV b hb)
def vC (σ:Nat->Nat)(p:List Nat)(m:Nat)(j:Nat):Prop:=∀ b,b<m->σ b=j->b ∈ p
def iZ (σ:Nat->Nat)(m:Nat)(j:Nat):Prop:=∀ b,b<m->σ b≠j
def Ybw {σ:Nat->Nat}{s s3:FS}{a:Act}{w w':World}{g g1 g2:Nat->GM}{h h':List (Nat×Bk)}{m:Nat}{p:List Nat}(hR:R c g s a w)(ct:∀ b b',b<m->b'<m->σ b=σ b'->b=b')(hh:HL h m)(ua:HL h' m)(fit:∀ b,b<m->s.H (σ b)=Qw σ (Qb h m b))
  (hT:∀ i,dm (vC σ p m) (s.T i)) (hB:∀ j,iZ σ m j->sw (vC σ p m) (s.H j)) (bf:∀ q ∈ c.gh,vC σ p m q.1)
  (iv:∀ b,b<m->g (σ b)≠.un->g (σ b)=g1 b) (mA:∀ b,b ∈ p->g2 b=g1 b) (cp:R (rm c g s w σ h m) g2 (dD h' m) ⟨#[],[]⟩ w')
  (OD:∀ i,s3.T i=s.T i) (ES:∀ b,b<m->s3.H (σ b)=Qw σ (Qb h' m b)) (zX:∀ j,iZ σ m j->s3.H j=s.H j) :
  R c (Kf g g2 σ m) s3 a w'/\∀ {r:AV} {v:Value},Qe m r->VR g2 (Qm (rm c g s w σ h m) g2 (dD h' m)) w' r v->VR (Kf g g2 σ m) (Qm c (Kf g g2 σ m) s3) w' (aB σ r) v:=by
 have dJ:∀ b,b<m->(Qb h m b).live:=fun b hb=>by
  obtain ⟨_,q,hq,_,e⟩:=hh.live hb m;rw[e];exact Xa (hh.mem q hq).2
 have j7:∀ b,b<m->(Qb h' m b).live:=fun b hb=>by
  obtain ⟨_,q,hq,_,e⟩:=ua.live hb m;rw[e];exact Xa (ua.mem q hq).2
 have eP:∀ b,b<m->(s.H (σ b)).live:=fun b hb=>by rw[fit b hb,BX];exact dJ b hb
 have named:∀ b,b<m->g (σ b)≠.un:=fun b hb e=>by
  have:=hR.h (σ b);rw[e]at this;have hl:=eP b hb;generalize s.H (σ b)=x at this hl;exact this.gK hl
 have low:∀ b,(Qb h m b).live->b<m:=fun b hl=>by
  rcases Jk h m b with q|⟨q,hq,rfl,_⟩
  ·rw[q]at hl;split at hl<;>exact hl.elim
  ·exact (hh.mem q hq).1
 have qna:∀ b,(Qb h' m b).live->b<m:=fun b hl=>by
  rcases Jk h' m b with q|⟨q,hq,rfl,_⟩
  ·rw[q]at hl;split at hl<;>exact hl.elim
  ·exact (ua.mem q hq).1
 have gs:∀ b,b<m->Kf g g2 σ m (σ b)=g2 b:=fun b dK=>by
  unfold Kf;have hex:∃ b',b'<m/\σ b'=σ b:=⟨b,dK,rfl⟩
  rw[dif_pos hex];rw[ct _ _ hex.choose_spec.1 dK hex.choose_spec.2]
 have go:∀ j,iZ σ m j->Kf g g2 σ m j=g j:=fun j h=>by
  unfold Kf;rw[dif_neg];rintro ⟨b,h1,h2⟩;exact h b h1 h2
 have part:∀ j,(∃ b,b<m/\σ b=j)\/iZ σ m j:=fun j=>by
  by_cases e:∃ b,b<m/\σ b=j
  ·exact .inl e
  ·exact .inr fun b h1 h2=>e ⟨b,h1,h2⟩
 have gS:∀ j,vC σ p m j->g j≠.un->g j=Kf g g2 σ m j:=fun j hj cf=>by
  rcases part j with ⟨b,hb,rfl⟩|fy
  ·rw[gs b hb,mA b (hj b hb rfl)];exact iv b hb cf
  ·rw[go j fy]
 have hf:Fr w w' (sa g σ h m):=cp.fr;have Cj:∀ k,sa g σ h m k->Qm c g s k:=fun k ⟨b,h1,h2⟩=>.inr ⟨σ b,eP b (low b h1),h2⟩;have sj:Fr w w' (Qm c g s):=hf.weak Cj;have tT:∀ j k,iZ σ m j->(s.H j).live->g j=.re k->¬ sa g σ h m k:=fun j k h1 h2 h3 ⟨b,q1,q2⟩ =>
  h1 b (low b q1) (hR.inj (σ b) j k (eP b (low b q1)) h2 q2 h3)
 have gN:∀ b k,b<m->g2 b=.re k->w.heap.size<=k\/∃ b0,b0<m/\g (σ b0)=.re k:=fun b k hb hk=>by
  rcases cp.old b k (j7 b hb) hk with h|⟨b0,q1,q2⟩
  ·exact .inl h
  ·exact .inr ⟨b0,low b0 q1,q2⟩
 have dw:∀ j,(s3.H j).live->(∃ b,b<m/\σ b=j)\/(iZ σ m j/\(s.H j).live):=fun j hl=>by
  rcases part j with h|h
  ·exact .inl h
  ·rw[zX j h]at hl;exact .inr ⟨h,hl⟩
 have qf:∀ k,k<w.heap.size->Qm c (Kf g g2 σ m) s3 k->Qm c g s k:=by
  rintro k hk (h|⟨j,h1,h2⟩)
  ·exact .inl h
  ·rcases dw j h1 with ⟨b,hb,rfl⟩|⟨hj,hl⟩
   ·rw[gs b hb]at h2;rcases gN b k hb h2 with h|⟨b0,q1,q2⟩
    ·omega
    ·exact .inr ⟨σ b0,eP b0 q1,q2⟩
   ·rw[go j hj]at h2;exact .inr ⟨j,hl,h2⟩
 have qg:∀ k,Qm c (Kf g g2 σ m) s3 k->Qm (rm c g s w σ h m) g2 (dD h' m) k:=by
  rintro k (h|⟨j,h1,h2⟩)
  ·refine .inl ⟨.inl h,fun ⟨b,q1,q2⟩=>?_⟩;obtain ⟨x1,x2⟩:=hR.xs k h;rcases hR.old (σ b) k (eP b (low b q1)) q2 with h|h
   ·omega
   ·exact x2 h
  ·rcases dw j h1 with ⟨b,hb,rfl⟩|⟨hj,hl⟩
   ·rw[gs b hb]at h2;exact .inr ⟨b,j7 b hb,h2⟩
   ·rw[go j hj]at h2;exact .inl ⟨.inr ⟨j,hl,h2⟩,tT j k hj hl h2⟩
 refine ⟨⟨hR.size,hR.ew,fun i=>?_,fun i=>(hR.gl i).mono sj qf (fun _ _=>rfl),fun j=>?_,fun j j' k h1 h2 e1 e2=>?_,fun j k h1 e1=>?_,hR.fr.trans hf fun k hk ⟨b,q1,q2⟩=>?_,hR.xs,fun q hq=>?_⟩,fun {r v} hn hv=>?_⟩
 ·rw[OD];exact ((hR.t i).only gS (hT i)).mono sj qf (fun _ _=>rfl)
 ·rcases part j with ⟨b,hb,rfl⟩|hj
  ·rw[gs b hb,ES b hb];have ez:=cp.h b;have e:(dD h' m).H b=Qb h' m b:=rfl;rw[e]at ez;obtain ⟨_,q,hq,_,eq⟩:=ua.live hb m;rw[eq]at ez ⊢;exact ez.bv (n:=m) gs (ua.mem q hq).2 qg
  ·rw[go j hj,zX j hj];refine ((hR.h j).only gS (hB j hj)).mono sj qf (fun _ _=>rfl) fun k hk hl=>hf.iq k ?_ (tT j k hj hl hk);exact BR.lt (hk ▸ hR.h j) hl
 ·rcases dw j h1 with ⟨b,hb,rfl⟩|⟨hj,hl⟩<;>rcases dw j' h2 with ⟨b',bL,rfl⟩|⟨dd,mf⟩
  ·rw[gs b hb]at e1;rw[gs b' bL]at e2;rw[cp.inj b b' k (j7 b hb) (j7 b' bL) e1 e2]
  ·rw[gs b hb]at e1;rw[go j' dd]at e2;have hlt:=BR.lt (e2 ▸ hR.h j') mf;rcases gN b k hb e1 with h|⟨b0,q1,q2⟩
   ·omega
   ·exact (dd b0 q1 (hR.inj (σ b0) j' k (eP b0 q1) mf q2 e2)).elim
  ·rw[gs b' bL]at e2;rw[go j hj]at e1;have hlt:=BR.lt (e1 ▸ hR.h j) hl;rcases gN b' k bL e2 with h|⟨b0,q1,q2⟩
   ·omega
   ·exact (hj b0 q1 (hR.inj (σ b0) j k (eP b0 q1) hl q2 e1)).elim
  ·rw[go j hj]at e1;rw[go j' dd]at e2;exact hR.inj j j' k hl mf e1 e2
 ·rcases dw j h1 with ⟨b,hb,rfl⟩|⟨hj,hl⟩
  ·rw[gs b hb]at e1;rcases gN b k hb e1 with h|⟨b0,q1,q2⟩
   ·have:=hR.fr.size;exact .inl af
   ·exact hR.old (σ b0) k (eP b0 q1) q2
  ·rw[go j hj]at e1;exact hR.old j k hl e1
 ·rcases hR.old (σ b) k (eP b (low b q1)) q2 with h|h
  ·omega
  ·exact h
 ·obtain ⟨q1,q2⟩:=hR.jn q hq;refine ⟨?_,q2⟩;have:=gS q.1 (bf q hq) (by rw[q1];exact q2);rw[<- this,q1]
 ·exact (hv.bv (ρ:=σ) (g:=Kf g g2 σ m) gs hn).mono (Fr.refl _ _) (fun k _=>qg k) (fun _ _=>rfl)
end
theorem ru {x:Bk}:Qw id x=x:=by
 cases x with
 | cells cs=>simp only[Qw];rw[Zx];congr 1;exact (map_congr_left fun x _=>tP id (fun _=>rfl) x).trans (map_id cs)
 | az kvs dn=>simp only[Qw];congr 1;exact (map_congr_left fun x _=>by rw[tP id (fun _=>rfl),tP id (fun _=>rfl)];rfl).trans (map_id kvs)
 | bp kvs bs ck=>simp only[Qw];congr 1;exact (map_congr_left fun x _=>by rw[tP id (fun _=>rfl),tP id (fun _=>rfl)];rfl).trans (map_id kvs)
 | iter b0 ck seen=>rfl
 | dM ls=>rfl
 | free=>rfl
 | dead=>rfl
def ql (l:List AV):ay id l=l:=by rw[Zx];exact (map_congr_left fun x _=>tP id (fun _=>rfl) x).trans (map_id l)
def zY (S:Nat->Prop):List (Nat×AV)->Prop
 | []=>True
 | q::l=>dm S q.2/\zY S l
def XL {S:Nat->Prop}:∀ {l:List (Nat×AV)},zY S l->∀ i,dm S (look l i)
 | [],_,i=>by simp[look,dm]
 | (j,v)::l,h,i=>by
   rw[Jn];split
   ·exact h.1
   ·exact XL h.2 i
def Qq (σ:Nat->Nat)(h:List (Nat×Bk)):List (Nat×Bk):=h.map fun q=>(σ q.1,Qw σ q.2)
def Wd (h:List (Nat×Bk)):Qq id h=h:=by
 unfold Qq;exact (map_congr_left fun q _=>by rw[ru];rfl).trans (map_id h)
def Ku {σ:Nat->Nat}{m:Nat}(ct:∀ b b',b<m->b'<m->σ b=σ b'->b=b'){n b:Nat}(hb:b<m):∀ {h:List (Nat×Bk)},(∀ q ∈ h,q.1<m)->(∃ q ∈ h,q.1=b)->Qb (Qq σ h) n (σ b)=Qw σ (Qb h m b)
 | [],_,⟨q,hq,_⟩=>by cases hq
 | (i,x)::l,hm,⟨q,hq,e⟩=>by
   show Qb ((σ i,Qw σ x)::Qq σ l) n (σ b)=_;rw[Qf,Qf];by_cases hi:i=b
   ·rw[am hi,am (by rw[hi])]
   ·rw[aa hi,aa fun e=>hi (ct _ _ (hm (i,x) av) hb e)];rcases mem_cons.1 hq with rfl|hq
    ·exact (hi e).elim
    ·exact Ku ct hb (fun q hq=>hm q (by simp[hq])) ⟨q,hq,e⟩
def Kx {σ:Nat->Nat}{m n j:Nat}(hj:iZ σ m j):∀ {h:List (Nat×Bk)},(∀ q ∈ h,q.1<m)->Qb (Qq σ h) n j=if j<n then .dead else .free
 | [],_=>rfl
 | (i,x)::l,hm=>by
   show Qb ((σ i,Qw σ x)::Qq σ l) n j=_;rw[Qf,aa (hj i (hm (i,x) av))];exact Kx hj fun q hq=>hm q (by simp[hq])
def Xl {n j:Nat}{h:List (Nat×Bk)}:∀ {ex:List (Nat×Bk)},(∀ q ∈ ex,q.1≠j)->Qb (ex++h) n j=Qb h n j
 | [],_=>rfl
 | (i,x)::l,hm=>by
   rw[cons_append,Qf,aa (hm (i,x) av)];exact Xl fun q hq=>hm q (by simp[hq])
def Cv {n j:Nat}{h h':List (Nat×Bk)}(e:Qb h n j=Qb h' n j):∀ {ex:List (Nat×Bk)},Qb (ex++h) n j=Qb (ex++h') n j
 | []=>e
 | (i,x)::l=>by
   rw[cons_append,cons_append,Qf,Qf,Cv e]
def Yk9 (σ:Nat->Nat)(p:List Nat)(m:Nat)(ex:List (Nat×Bk)):Prop:=∀ q ∈ ex,iZ σ m q.1/\sw (vC σ p m) q.2
def lP (v:Bool)(f:FuncId)(l:List AV):Option (FuncId×List AV):=bif v then vr l else some (f,l)
structure ET (gl:Nat->AV)(s:St)(xs:List TV)(v:Bool)(f:FuncId)(args:List AV)(σ:Nat->Nat)(p pc:List Nat)(m:Nat)(t:List (Nat×AV))(ex aL:List (Nat×Bk))(n:Nat):Prop where
 to:To pc s ⟨t,ex++Qq σ aL,n⟩
 inj:∀ b b',b<m->b'<m->σ b=σ b'->b=b'
 hl:HL aL m
 pc:∀ b ∈ pc,vC σ p m b
 hex:Yk9 σ p m ex
 ht:zY (vC σ p m) t
 fh:Qr none (aD gl (⟨t,ex++Qq σ aL,n⟩:St).fs xs)
 aM:lP v f ((aD gl (⟨t,ex++Qq σ aL,n⟩:St).fs xs).map Qh)=some (f,ay σ args)
 nm:ah m args
section
variable {P:Program}{c:Cx}
def Yae {v:Bool}{s:St}{f:FuncId}{xs:List TV}{args:List AV}{aL:List (Nat×Bk)}{σ:Nat->Nat}{m n:Nat}{p pc:List Nat}{ι:Type}{Q:ι->Prop}{r:ι->AV}{ax:ι->List (Nat×Bk)}{t:List (Nat×AV)}{ex:List (Nat×Bk)}(hq:GQ P c.gl f args aL m p Q r ax)
  (bf:∀ q ∈ c.gh,q.1 ∈ pc) (ok:ET c.gl s xs v f args σ p pc m t ex aL n) (dS:∀ x,Q x->HL (ax x) m) (hr:∀ x,Q x->Qe m (r x)) {g0:Nat->GM} {a:Act} {w:World} (mr:R c g0 s.fs a w) :
  ∃ g,R c g (⟨t,ex++Qq σ aL,n⟩:St).fs a w/\∀ vs,bT g (Qm c g (⟨t,ex++Qq σ aL,n⟩:St).fs) w (ay σ args) vs->Calls P f vs.toArray w fun e w'=>∃ x v g3,Q x/\e=.returned v/\R c g3 (⟨t,ex++Qq σ (ax x),n⟩:St).fs a w'/\VR g3 (Qm c g3 (⟨t,ex++Qq σ (ax x),n⟩:St).fs) w' (aB σ (r x)) v:=by
 obtain ⟨g,hR⟩:=ok.to c g0 a w bf mr;refine ⟨g,hR,fun vs hv=>?_⟩;have qm:∀ b,b<m->∀ q ∈ ex,q.1≠σ b:=fun b hb q hq e=>(ok.hex q hq).1 b hb e.symm;have fit:∀ b,b<m->(⟨t,ex++Qq σ aL,n⟩:St).fs.H (σ b)=Qw σ (Qb aL m b):=fun b hb=>by
  show Qb (ex++Qq σ aL) n (σ b)=_;rw[Xl (qm b hb)];exact Ku ok.inj hb (fun q hq=>(ok.hl.mem q hq).1) (ok.hl.jV b hb)
 have zZ:Fit σ (⟨t,ex++Qq σ aL,n⟩:St).fs aL m:=by
  refine ⟨fun q hq=>⟨(ok.hl.mem q hq).1,(ok.hl.mem q hq).2,?_⟩,fun q hq q' db e=>ok.inj _ _ (ok.hl.mem q hq).1 (ok.hl.mem q' db).1 e⟩;rw[fit q.1 (ok.hl.mem q hq).1,ok.hl.self q hq]
 obtain ⟨g1,iv,zE,tU⟩:=IN hR zZ;have kh:=Ex (σ:=σ) (g1:=g1) iv tU ok.nm hv;refine (hq.2 w _ _ _ g1 zE kh).mono fun e w' ⟨x,v,g2,hQ,e1,e2,e3,e4⟩=>?_;have hXB:∀ j,iZ σ m j->sw (vC σ p m) ((⟨t,ex++Qq σ aL,n⟩:St).fs.H j):=fun j hj=>by
  show sw _ (Qb (ex++Qq σ aL) n j);rcases Jk (ex++Qq σ aL) n j with q|⟨q,hq,rfl,q2⟩
  ·rw[q];split<;>trivial
  ·rw[q2];rcases List.mem_append.1 hq with h|h
   ·exact (ok.hex q h).2
   ·obtain ⟨q',db,rfl⟩:=mem_map.1 h;exact (hj q'.1 (ok.hl.mem q' db).1 rfl).elim
 obtain ⟨mF,fZ⟩:=Ybw (s3:=(⟨t,ex++Qq σ (ax x),n⟩:St).fs) hR ok.inj ok.hl (dS x hQ) fit (XL ok.ht) hXB (fun q hq=>ok.pc _ (bf q hq)) iv e3 e2 (fun i=>rfl)
  (fun b hb=>by
   show Qb (ex++Qq σ (ax x)) n (σ b)=_;rw[Xl (qm b hb)];exact Ku ok.inj hb (fun q hq=>((dS x hQ).mem q hq).1) ((dS x hQ).jV b hb))
  (fun j hj=>Cv (by rw[Kx hj fun q hq=>((dS x hQ).mem q hq).1,Kx hj fun q hq=>(ok.hl.mem q hq).1]))
 exact ⟨x,v,_,hQ,e1,mF,fZ (hr x hQ) e4⟩
def Yiv {r0:List bB}{K:St->Prop}{s:St}{d:Option Nat}{f:FuncId}{xs:List TV}{args:List AV}{aL:List (Nat×Bk)}{σ:Nat->Nat}{m n:Nat}{p pc:List Nat}{ι:Type}{Q:ι->Prop}{r:ι->AV}{ax:ι->List (Nat×Bk)}(hq:GQ P c.gl f args aL m p Q r ax)
  (bf:∀ q ∈ c.gh,q.1 ∈ pc) (t:List (Nat×AV)) (ex:List (Nat×Bk)) (ok:ET c.gl s xs false f args σ p pc m t ex aL n) (dS:∀ x,Q x->HL (ax x) m) (hr:∀ x,Q x->Qe m (r x))
  (hk:∀ x,Q x->XP P c r0 K (St.ca ⟨t,ex++Qq σ (ax x),n⟩ d (aB σ (r x)))):Yo P c (.pd d (.call f) xs none) r0 K s:=by
 refine .inr fun ops io he g0 a w mr K' Q' hK=>?_;obtain ⟨g,hR,eB⟩:=Yae hq bf ok dS hr mr;obtain ⟨aX,bb,hd,ys,aE,rfl⟩:=Zm he;obtain ⟨ts,hop⟩:=BZ aE;have hv:=Yk (hR.ci ys) ok.fh;have aM:=ok.aM;simp only[lP,cond_false,Option.some.injEq,Prod.mk.injEq,true_and]at aM;rw[aM]at hv;refine Ze (Jj aX) ?_;unfold Oper.wp;rw[B0 hq.1 hop];rw[Oper.upon_enter];refine (eB _ hv).mono fun e w' ⟨x,v,g3,hQ,e1,mF,vq⟩=>?_;subst e1;show K' (a.put io.dst v) w';rw[bb];cases d with
 | none=>exact hK g3 _ _ _ (hk x hQ) (mF.uU v)
 | some d =>
  refine hK g3 ((⟨t,ex++Qq σ (ax x),n⟩:St).put d (aB σ (r x))) _ _ (hk x hQ) ?_;rw[St.bU];exact mF.put (by simpa using hd) vq
end
end Go.Proofs.YtogckmommodmhaaGreatDoor
namespace Go.Proofs.YtogckmommodmhaaGreatDoor
open List (map_cons map_nil)
open Go.RowKit
set_option linter.all false
set_option maxRecDepth 100000
variable {es:Array MapEntry}{o:Oper}{r0:List bB}{xs:List Operand}{K:St->Prop}{a:Act}{s:St}{t:TypeId}{w:World}{k b:Nat}{wide:Bool}{kvs:List (AV×AV)}{bs:List Nat}{ck:Nat}{z:AV}
def OE {α:Type}(l:List α)(i j:Nat)(d:α):(l.eraseIdx i).getD j d=if j<i then l.getD j d else l.getD (j+1) d:=by
 simp only[List.getD,List.getElem?_eraseIdx];split<;>rfl
def EU (es:Array MapEntry)(i j:Nat):(es.eraseIdxIfInBounds i).getD j default=if j<i then es.getD j default else es.getD (j+1) default:=by
 rw[<- tZ,<- tZ,<- tZ,<- OE];congr 1;unfold Array.eraseIdxIfInBounds;split
 ·simp
 ·rename_i h;rw[List.eraseIdx_of_length_le (by simpa using h)]
def OF {i:Nat}(hi:i<es.size):(es.eraseIdxIfInBounds i).size=es.size-1:=by
 unfold Array.eraseIdxIfInBounds;rw[dif_pos hi];simp
section
variable {P:Program}{c:Cx}{g:Nat->GM}{s:FS}{a:Act}{w:World}
def Ye3 (hR:R c g s a w){t t2 ty:TypeId}{wide:Bool}{ks:List SK}{z:AV}(hT:cu P t wide ks z){b:Nat}{kvs:List (AV×AV)}{dn:Bool}(hb:s.H b=.az kvs dn){x:AV}{m v:Value}(hm:VR g (Qm c g s) w (.mp b) m)(hx:VR g (Qm c g s) w x v)
  (lO:Zs wide ks x) (eb:Wy wide ks kvs):∃ w',(Builtin.delete_ #[t,t2] ty #[m,v]).run P w=.ok (.tuple #[]) w'/\R c g (s.aI b (.az (zN kvs x) false)) a w':=by
 obtain ⟨kt,et,zv,hu,hK,hz,rfl⟩:=hT.of;obtain ⟨k,rfl,hg⟩:=yV hm;obtain ⟨es,clock,q1,q2,q3,q4,q5,q6,q7⟩:=zO hR hb hg;have ei:=I8 hK lO hx (kvs:=kvs) (es:=es.toList) (by simpa using q2) eb (fun j hj=>by rw[tZ];exact q3 j hj) w;have hck:=I7 hK lO hx es.isEmpty w;have en:(getObj k).run P w=.ok (.map es clock) w:=by simp[getObj,Sem.run,q1]
 have fO:=Ws q1;unfold zN;cases hf:fA kvs x with
 | none =>
  rw[hf]at ei;refine ⟨_,?_,hR.kW (kvs':=kvs) (dn':=false) (es':=es) (clock':=clock) hb hg q1 q2 q3 q4 q5 q6 (fun h=>by cases h)⟩;simp only[Builtin.delete_,Sem.run_bind,run_underlying hu,Result.andThen_ok,en,hck,ei,Option.map_none,zP q1,Sem.run_pure,List.getElem?_toArray,List.getElem?_cons_zero,List.getElem?_cons_succ]
 | some i =>
  rw[hf]at ei;obtain ⟨hi,xm⟩:=Cr hf;have gG:i<es.size:=by omega
  have bw:=hR.kW (kvs':=kvs.eraseIdx i) (dn':=false) (es':=es.eraseIdxIfInBounds i) (clock':=clock) hb hg q1 (by rw[OF gG,List.length_eraseIdx,am hi,q2])
   (fun j hj=>by
    rw[List.length_eraseIdx,am hi]at hj;rw[OE,EU];split
    ·exact q3 j af
    ·exact q3 (j+1) af)
   (fun j hj=>by
    rw[List.length_eraseIdx,am hi]at hj;rw[OE,EU];split
    ·exact q4 j af
    ·exact q4 (j+1) af)
   (fun j hj=>by
    rw[OF gG]at hj;rw[EU];split
    ·exact q5 j af
    ·exact q5 (j+1) af)
   (fun i' j gn hj=>by
    rw[OF gG]at hj;rw[EU,EU];split<;>split
    ·exact q6 i' j gn af
    ·exact q6 i' (j+1) af af
    ·omega
    ·exact q6 (i'+1) (j+1) af af) (fun h=>by cases h)
  refine ⟨_,?_,bw⟩;simp only[Builtin.delete_,Sem.run_bind,run_underlying hu,Result.andThen_ok,en,hck,ei,Option.map_some,zP q1,Sem.run_pure,List.getElem?_toArray,List.getElem?_cons_zero,List.getElem?_cons_succ]
end
section
variable {P:Program}{c:Cx}{ops:Array Oper}{io:Oper}
def Xz5 (h:Xt P o=some (.del t,xs)):∃ x y t2,o.op=.call ⟨.builtin .delete,⟨[x,y]⟩,⟨[t,t2]⟩⟩/\xs=[x,y]:=by
 unfold Xt at h
 repeat' split at h
 all_goals first
  | (cases h;exact ⟨_,_,_,by assumption,rfl⟩)
  | (simp at h;done)
  | (cases h;done)
  | (simp[Option.map_eq_some_iff]at h;done)
def Xxq (h:Xt P o=some (.MO t,xs)):∃ x,o.op=.range t x/\xs=[x]:=by
 unfold Xt at h
 repeat' split at h
 all_goals first
  | (cases h;exact ⟨_,by assumption,rfl⟩)
  | (simp at h;done)
  | (cases h;done)
  | (simp[Option.map_eq_some_iff]at h;done)
def Xxo (h:Xt P o=some (.bH,xs)):∃ x,o.op=.next x false/\xs=[x]:=by
 unfold Xt at h
 repeat' split at h
 all_goals first
  | (cases h;exact ⟨_,by assumption,rfl⟩)
  | (simp at h;done)
  | (cases h;done)
  | (simp[Option.map_eq_some_iff]at h;done)
def Xvw (h:Xt P o=some (.MP,xs)):∃ x,o.op=.entry x/\xs=[x]:=by
 unfold Xt at h
 repeat' split at h
 all_goals first
  | (cases h;exact ⟨_,by assumption,rfl⟩)
  | (simp at h;done)
  | (cases h;done)
  | (simp[Option.map_eq_some_iff]at h;done)
def Yek {s:FS}{b:Nat}{X:Bk}{rt rb:List Nat}(hg:io.guard=none)(bb:io.dst=none)
  (core:∀ s2:FS,(∀ i ∈ rt,s2.T i=s.T i)->(∀ b ∈ rb,s2.H b=s.H b)->∀ g a w,R c g s2 a w->∃ g' v' w',(execOp a.eval io).run P w=.ok (.value v') w'/\R c g' (s2.aI b X) a w') :
  kL P c ops io s ⟨rt,rb,[],[b]⟩ (s.aI b X):=by
 refine ⟨fun i hi=>rfl,fun j hj=>?_,fun s2 hT hH g a w hR K Q' hK=>Ze hg ?_⟩
 ·rw[FS.a8,aa (fun e=>hj (by simp[e]))]
 ·obtain ⟨g',v',w',hr,bh⟩:=core s2 hT hH g a w hR;unfold Oper.wp;rw[hr];show K (a.put io.dst v') w';rw[bb];refine hK g' _ w' ?_;rw[DS];exact bh
noncomputable def EV (s:FS)(vs:List AV):Bk:=.az (zN (iY (s.H (eK vs))) (nD vs)) false
def XN {xs:List TV}  {ks:List SK}  (hT:cu P t wide ks z)(hc:Qr none (aD c.gl s.fs xs))(aS:qj s.fs wide ks ((aD c.gl s.fs xs).map Qh)) :
  Ki P c (.pd none (.del t) xs none) s.fs (Wu s.fs c.gl xs [] true) (s.aI (eK ((aD c.gl s.fs xs).map Qh)) (EV s.fs ((aD c.gl s.fs xs).map Qh))).fs:=by
 intro ops io he;obtain ⟨aX,bb,hd,ys,aE,rfl⟩:=Zm he;obtain ⟨m,k,t2,hop,rfl⟩:=Xz5 aE;have ec:(aD c.gl s.fs ([m,k].map aP)).map Qh=[Qh (aV c.gl s.fs (aP m)),Qh (aV c.gl s.fs (aP k))]:=rfl;unfold Wu;rw[ec]at aS ⊢;generalize JB:Qh (aV c.gl s.fs (aP m))=vm at *
 generalize zw:Qh (aV c.gl s.fs (aP k))=vk at *
 obtain ⟨h1,h2,h3,h4⟩:=aS;obtain ⟨b,r,hb⟩:=EK h1;injection hb with eO hb2
 subst eO;obtain ⟨kvs,dn,iX⟩:=EL h2;simp only[EV,eK,nD,cond_true]at h3 h4 iX ⊢;rw[iX]at h4 ⊢;simp only[iY]at h4 ⊢;rw[St.cg];refine Yek (Jj aX) bb fun s2 kX pw g a w hR=>?_;have bj:aD c.gl s2 ([m,k].map aP)=aD c.gl s.fs ([m,k].map aP):=Yd kX;have eR:=Yk (hR.ci [m,k]) (by rw[bj];exact hc);rw[bj,ec]at eR;obtain ⟨v1,v2,_⟩:=eR;obtain ⟨w',hr,bh⟩:=Ye3 hR hT (t2:=t2) (ty:=io.type) (b:=b) (kvs:=kvs) (dn:=dn) (by rw[pw b av,iX]) v1 v2 h3 h4;refine ⟨g,.tuple #[],w',?_,bh⟩;unfold execOp;simp only[hop,resolve,invoke,builtin,Sem.run_bind,Sem.run_pure,Result.andThen_ok,List.map_toArray,map_cons,map_nil];rw[show (Builtin.delete_ { toList:=[t,t2] } io.type #[a.eval m,a.eval k]).run P w=_ from hr];rfl
def Ygi {xs:List TV}  {ks:List SK}  (hT:cu P t wide ks z)(h:Qr none (aD c.gl s.fs xs)/\qj s.fs wide ks ((aD c.gl s.fs xs).map Qh)/\XP P c r0 K (s.aI (eK ((aD c.gl s.fs xs).map Qh)) (EV s.fs ((aD c.gl s.fs xs).map Qh)))) :
  Yo P c (.pd none (.del t) xs none) r0 K s:=.inl ⟨_,_,XN hT h.1 h.2.1,h.2.2⟩
def Ybx {anc:List Nat}{fs:List bc}     {xs:List TV}  {ks:List SK}  (hT:cu P t wide ks z)(h:Qr none (aD c.gl s.fs xs)/\qj s.fs wide ks ((aD c.gl s.fs xs).map Qh)/\XD P c anc r0 (Wu s.fs c.gl xs [] true::fs) K (s.aI (eK ((aD c.gl s.fs xs).map Qh)) (EV s.fs ((aD c.gl s.fs xs).map Qh)))) :
  Yz P c anc (.pd none (.del t) xs none) r0 fs K s:=⟨_,_,XN hT h.1 h.2.1,h.2.2⟩
attribute [go_sem] EV
def OG (bs:List Nat)(n ck:Nat):Prop:=bs.length=n/\(∀ i j,i<j->j<n->bs.getD i 0<bs.getD j 0)/\∀ i,i<n->bs.getD i 0<ck
def JG (j:Nat)(hj:j<es.size):(es.toList.map (·.born)).getD j 0=(es.getD j default).born:=by
 simp[List.getD,Array.getD_eq_getD_getElem?,hj]
def R.toX {g:Nat->GM}{s:FS}   (hR:R c g s a w)   {dn:Bool}(hb:s.H b=.az kvs dn):∃ bs ck,OG bs kvs.length ck/\R c g (s.aI b (.bp kvs bs ck)) a w:=by
 have h:=hR.h b;rw[hb]at h;generalize hg:g b=m at h;cases h with
 | az h1 h2 h3 h4 h5 h6 h7 =>
  rename_i k es clock;refine ⟨es.toList.map (·.born),clock,⟨by simpa using h2,fun i j gn hj=>?_,fun i hi=>?_⟩,hR.setBlock hg (by rw[hb];trivial) trivial (Fr.refl _ _) (.bp h1 h2 h3 h4 h5 h6 rfl)⟩
  ·rw[JG i af,JG j af];exact h6 i j gn af
  ·rw[JG i af];exact h5 i af
def OH {g:Nat->GM}{s:FS}   (hR:R c g s a w)     (hb:s.H b=.bp kvs bs ck)(hg:g b=.re k):∃ es,w.heap[k]?=some (.map es ck)/\es.size=kvs.length /\
  (∀ j,j<kvs.length->VR g (Qm c g s) w (kvs.getD j (.any,.any)).1 (es.getD j default).key)/\(∀ j,j<kvs.length->VR g (Qm c g s) w (kvs.getD j (.any,.any)).2 (es.getD j default).val) /\
  (∀ j,j<es.size->(es.getD j default).born<ck)/\(∀ i j,i<j->j<es.size->(es.getD i default).born<(es.getD j default).born)/\(∀ j,j<es.size->(es.getD j default).born=bs.getD j 0)/\bs.length=kvs.length:=by
 have:=hR.h b;rw[hb,hg]at this;cases this with
 | bp h1 h2 h3 h4 h5 h6 h7=>exact ⟨_,h1,h2,h3,h4,h5,h6,fun j hj=>by rw[<- h7,JG j hj],by rw[<- h7];simpa using h2⟩
def XO {g:Nat->GM}{s:FS}   (hR:R c g s a w){bi k b ck:Nat}{seen:List Nat}(hb:s.H bi=.iter b ck seen)(hg:g bi=.re k):∃ m,w.heap[k]?=some (.mapIter (some m) ck seen.toArray ck)/\g b=.re m:=by
 have:=hR.h bi;rw[hb,hg]at this;cases this with
 | iter h1 h2=>exact ⟨_,h1,h2⟩
def R.JH {g:Nat->GM}{s:FS}   (hR:R c g s a w)     (hb:s.H b=.bp kvs bs ck):R c g (s.aI b (.az kvs false)) a w:=by
 have h:=hR.h b;rw[hb]at h;generalize hg:g b=m at h;cases h with
 | bp h1 h2 h3 h4 h5 h6 h7=>exact hR.setBlock hg (by rw[hb];trivial) trivial (Fr.refl _ _) (.az h1 h2 h3 h4 h5 h6 fun h=>by cases h)
def To.JH {p:List Nat}      (hb:s.fs.H b=.bp kvs bs ck):To p s (s.aI b (.az kvs false)):=fun c g a w _ hR=>⟨g,by rw[St.cg];exact hR.JH hb⟩
def XQ {r0:List bB}{K:St->Prop}{s:St}{d:Nat}{t:TypeId}{x:TV}{b:Nat}{kvs:List (AV×AV)}{dn wide:Bool}{ks:List SK}{z:AV}(hT:cu P t wide ks z)(hx:aV c.gl s.fs x=.mp b)(hb:s.fs.H b=.az kvs dn)(hf:s.fs.H s.n=.free)
  (h:∀ bs ck,OG bs kvs.length ck->XP P c r0 K (((s.aI b (.bp kvs bs ck)).nw (.iter b ck [])).put d (.ptr s.n 0))):Yo P c (.pd (some d) (.MO t) [x] none) r0 K s:=by
 refine .inr fun ops io he g a w hR K' Q' hK=>?_;obtain ⟨aX,bb,hd,ys,aE,og⟩:=Zm he;obtain ⟨y,hop,rfl⟩:=Xxq aE;obtain rfl:x=aP y:=by simpa using og
 obtain ⟨kt,et,zv,hu,_,_,_⟩:=hT.of;have hv:=Yk (hR.ci [y]) (by
  show Qr none (aD c.gl s.fs [aP y]);simp only[aD,map_cons,map_nil,hx];simp[Qr,fh])
 have hv:VR g (Qm c g s.fs) w (.mp b) (a.eval y):=by
  have e:(aD c.gl s.fs ([y].map aP)).map Qh=[.mp b]:=by
   show [Qh (aV c.gl s.fs (aP y))]=_;rw[hx];rfl
  rw[e]at hv;exact hv.1
 obtain ⟨k,e1,hg⟩:=yV hv;obtain ⟨bs,ck,dX,gE⟩:=hR.toX hb;obtain ⟨es,q1,q2,_⟩:=OH gE (b:=b) (k:=k) (kvs:=kvs) (bs:=bs) (ck:=ck) (by rw[FS.a8,am rfl]) hg;have cf:b≠s.n:=by rintro rfl;rw[hb]at hf;cases hf
 have bq:(s.fs.aI b (.bp kvs bs ck)).H s.n=.free:=by rw[FS.a8,aa cf];exact hf
 have cp:=gE.new (.mapIter (some k) ck #[] ck) bq (x:=.iter b ck []) trivial fun g' fN=>.iter (heap_alloc_new w _) (by rw[fN b (by rw[hg];intro x;cases x)];exact hg);refine Ze (Jj aX) ?_;have hrun:(execOp a.eval io).run P w=.ok (.value (.pointer (some ⟨w.heap.size,0,none⟩))) (w.alloc (.mapIter (some k) ck #[] ck)):=by
  unfold execOp;simp[hop,Instr.range,run_underlying hu,e1,getObj,newObj,Sem.run,Sem.run_bind,q1]
 unfold Oper.wp;rw[hrun];show K' (a.put io.dst _) _;rw[bb];refine hK (Zh g s.n (.re w.heap.size)) _ _ _ (h bs ck dX) ?_;rw[St.bU,St.iC,St.cg];exact cp.put (by simpa using hd) (.ptr (by simp[Zh]))
def Xuw {m:Option Nat}{s0 c0:Nat}{se:Array Nat}(o':Obj)(hk:w.heap[k]?=some (.mapIter m s0 se c0)):Fr w (ChangeMaps.setBlock w k o') (fun i=>i=k) :=
 ⟨rfl,rfl,rfl,by simp[ChangeMaps.setBlock],fun i _ cf=>by simp only[ChangeMaps.setBlock,Array.getElem?_setIfInBounds];rw[aa fun e=>cf e.symm],fun i cur e fz hi=>by
  by_cases h:i=k
  ·subst h;rw[hk]at hi;cases hi
  ·exact ⟨cur,by simp only[ChangeMaps.setBlock,Array.getElem?_setIfInBounds];rw[aa fun e=>h e.symm];exact hi,rfl⟩⟩
def XR {r0:List bB}{K:St->Prop}{s:St}{d:Nat}{x:TV}{bi b ck:Nat}{seen bs:List Nat}{kvs:List (AV×AV)}(hx:aV c.gl s.fs x=.ptr bi 0)(hi:s.fs.H bi=.iter b ck seen)(hb:s.fs.H b=.bp kvs bs ck)
  (h0:(∀ i,i<kvs.length->bs.getD i 0 ∈ seen)->XP P c r0 K (s.put d (.aR [.bool false])))
  (h1:∀ i,i<kvs.length->bs.getD i 0 ∉ seen->XP P c r0 K ((s.aI bi (.iter b ck (seen++[bs.getD i 0]))).put d (.aR [.bool true,(kvs.getD i (.any,.any)).1,(kvs.getD i (.any,.any)).2]))):Yo P c (.pd (some d) .bH [x] none) r0 K s:=by
 refine .inr fun ops io he g a w hR K' Q' hK=>?_;obtain ⟨aX,bb,hd,ys,aE,og⟩:=Zm he;obtain ⟨y,hop,rfl⟩:=Xxo aE;obtain rfl:x=aP y:=by simpa using og
 have hv:=Yk (hR.ci [y]) (by
  show Qr none (aD c.gl s.fs [aP y]);simp only[aD,map_cons,map_nil,hx];simp[Qr,fh])
 have hv:VR g (Qm c g s.fs) w (.ptr bi 0) (a.eval y):=by
  have e:(aD c.gl s.fs ([y].map aP)).map Qh=[.ptr bi 0]:=by
   show [Qh (aV c.gl s.fs (aP y))]=_;rw[hx];rfl
  rw[e]at hv;exact hv.1
 obtain ⟨k,e1,hg⟩:∃ k,a.eval y=.pointer (some ⟨k,0,none⟩)/\g bi=.re k:=by
  generalize a.eval y=u at hv;cases hv;exact ⟨_,rfl,by assumption⟩
 obtain ⟨m,q1,bZ⟩:=XO hR hi hg;obtain ⟨es,p1,p2,p3,p4,p5,p6,p7,p8⟩:=OH hR hb bZ;refine Ze (Jj aX) ?_;have hrun:=run_next_at (P:=P) w io.type k m ck ck seen.toArray es ck q1 p1 (fun x hx=>by
  obtain ⟨j,hj,rfl⟩:=List.getElem_of_mem hx;have eJ:j<es.size:=by simpa using hj
  have:=p5 j eJ;simp only[Array.getD_eq_getD_getElem?,Array.getElem?_eq_getElem eJ,Option.getD_some]at this;simpa using this) (Nat.le_refl _)
 have px:∀ r w',(Instr.next (.pointer (some ⟨k,0,none⟩)) false io.type).run P w=.ok r w'->(execOp a.eval io).run P w=.ok (.value r) w':=fun r w' h=>by
  unfold execOp;simp only[hop,e1];exact Zy h
 unfold Oper.wp;rcases hrun with ⟨hz,hr⟩|⟨e,lL,w1,fV,hr⟩
 ·rw[px _ _ hr];show K' (a.put io.dst _) _;rw[bb];refine hK g _ _ _ (h0 fun i hi=>?_) (by
   rw[St.bU];refine hR.put (by simpa using hd) (.aR rfl fun j hj=>?_);have:j=0:=by simp at hj;omega
   subst this;exact .bool _)
  ·have hl:leftOf es seen.toArray=#[]:=Array.eq_empty_of_size_eq_zero hz;have gG:i < es.size:=by omega
   have:=Array.filter_eq_empty_iff.1 hl es[i] (Array.getElem_mem gG);have bL:=p7 i gG;simp only[Array.getD_eq_getD_getElem?,Array.getElem?_eq_getElem gG,Option.getD_some]at bL;rw[<- bL];simpa using this
 ·obtain ⟨vD,OI⟩:e ∈ es.toList/\e.born ∉ seen:=by
   unfold leftOf at lL;simp at lL;exact ⟨by simpa using lL.1,lL.2⟩
  obtain ⟨i,n8,rfl⟩:=List.getElem_of_mem vD;have gG:i<es.size:=by simpa using n8
  have heq:es.toList[i]=es.getD i default:=by simp[Array.getD_eq_getD_getElem?,gG]
  have vE:=p7 i gG;rw[heq]at OI hr;rw[vE]at OI;rw[px _ _ hr];show K' (a.put io.dst _) _;rw[bb];have hRw:R c g s.fs a w1:=by
   rcases fV with rfl|rfl
   ·exact hR
   ·exact hR.grow (Fr.drew w _)
  have XS:w1.heap[k]?=some (.mapIter (some m) ck seen.toArray ck):=by rcases fV with rfl|rfl<;>exact q1
  have aO:(s.fs.H bi).live:=by rw[hi];trivial
  have fO:=Ws XS;have w7:Qm c g s.fs k:=.inr ⟨bi,aO,hg⟩;have hf:=Xuw (.mapIter (some m) ck (seen.toArray.push (es.getD i default).born) ck) XS;have mF:=hRw.setBlock (x:=.iter b ck (seen++[bs.getD i 0])) hg aO trivial hf (.iter (m:=m) (by
   rw[vE,<- List.push_toArray];simp[ChangeMaps.setBlock,fO]) bZ)
  refine hK g _ _ _ (h1 i af OI) (by
   rw[St.bU,St.cg];refine mF.put (by simpa using hd) (.aR rfl fun j hj=>?_);have hm:∀ {x v},VR g (Qm c g s.fs) w x v->VR g (Qm c g (s.fs.aI bi (.iter b ck (seen++[bs.getD i 0])))) (ChangeMaps.setBlock w1 k (.mapIter (some m) ck (seen.toArray.push (es.getD i default).born) ck)) x v:=fun h =>
    (h.mono (w':=w1) (W':=Qm c g s.fs) (by rcases fV with rfl|rfl;exact Fr.refl _ _;exact Fr.drew _ _) (fun _ _ h=>h) (fun _ _=>rfl)).xo aO trivial (hf.weak fun q hq=>by rw[hq];exact hg)
   have hj3:j<3:=hj;rcases (by omega:j=0\/j=1\/j=2) with rfl|rfl|rfl
   ·exact .bool _
   ·exact hm (p3 i af)
   ·exact hm (p4 i af))
def XT {r0:List bB}{K:St->Prop}{s:St}{d:Nat}{x:TV}{bi b ck i:Nat}{seen bs:List Nat}{kvs:List (AV×AV)}(hx:aV c.gl s.fs x=.ptr bi 0)(hi:s.fs.H bi=.iter b ck (seen++[bs.getD i 0]))(hb:s.fs.H b=.bp kvs bs ck)(cU:i<kvs.length)
  (h:XP P c r0 K (s.put d (.aR [(kvs.getD i (.any,.any)).1,(kvs.getD i (.any,.any)).2]))):Yo P c (.pd (some d) .MP [x] none) r0 K s:=by
 refine .inr fun ops io he g a w hR K' Q' hK=>?_;obtain ⟨aX,bb,hd,ys,aE,og⟩:=Zm he;obtain ⟨y,hop,rfl⟩:=Xvw aE;obtain rfl:x=aP y:=by simpa using og
 have hv:=Yk (hR.ci [y]) (by
  show Qr none (aD c.gl s.fs [aP y]);simp only[aD,map_cons,map_nil,hx];simp[Qr,fh])
 have hv:VR g (Qm c g s.fs) w (.ptr bi 0) (a.eval y):=by
  have e:(aD c.gl s.fs ([y].map aP)).map Qh=[.ptr bi 0]:=by
   show [Qh (aV c.gl s.fs (aP y))]=_;rw[hx];rfl
  rw[e]at hv;exact hv.1
 obtain ⟨k,e1,hg⟩:∃ k,a.eval y=.pointer (some ⟨k,0,none⟩)/\g bi=.re k:=by
  generalize a.eval y=u at hv;cases hv;exact ⟨_,rfl,by assumption⟩
 obtain ⟨m,q1,bZ⟩:=XO hR hi hg;obtain ⟨es,p1,p2,p3,p4,p5,p6,p7,p8⟩:=OH hR hb bZ;have gG:i<es.size:=by omega
 refine Ze (Jj aX) ?_;have hrun:=run_entry_at (P:=P) w k m ck seen.toArray es ck (es.getD i default) (by rw[p7 i gG,List.push_toArray];exact q1) p1 (by
  rw[<- tZ];have:i<es.toList.length:=by simpa using gG
  simp only[List.getD,List.getElem?_eq_getElem this,Option.getD_some];exact List.getElem_mem _) (by
  rw[List.nodup_iff_pairwise_ne,List.pairwise_iff_getElem];intro x y JI OK OL;simp only[List.length_map,Array.length_toList]at JI OK;have:=p6 x y OL OK;simp only[List.getElem_map,Array.getElem_toList];simp only[Array.getD_eq_getD_getElem?,Array.getElem?_eq_getElem JI,Array.getElem?_eq_getElem OK,Option.getD_some]at this;omega)
 have px:(execOp a.eval io).run P w=.ok (.value (.tuple #[(es.getD i default).key,(es.getD i default).val])) w:=by
  unfold execOp;simp only[hop,e1];exact Zy hrun
 unfold Oper.wp;rw[px];show K' (a.put io.dst _) _;rw[bb];refine hK g _ _ _ h (by
  rw[St.bU];refine hR.put (by simpa using hd) (.aR rfl fun j hj=>?_);have eJ:j<2:=hj;rcases (by omega:j=0\/j=1) with rfl|rfl
  ·exact p3 i cU
  ·exact p4 i cU)
end
def Yju {FP:Prop}{p q:Prop}(fp:FP)(k:q)(h:FP->cW q->p:=by (intro zp zk;((first|refine Ygi zp ?_|refine Ybx zp ?_);(refine XG ?_;((try with_reducible and_intros);all_goals try first|refine zm ?_|exact CL)));exact zk.it)):p:=h fp ⟨k⟩
def OM {FP:Prop}{F:Prop}{p q:Prop}(fp:FP)(f:F)(k:q)(h:FP->F->cW q->p:=by (intro zp aQ zk;exact Yju zp zk.it)):p:=h fp f ⟨k⟩
end Go.Proofs.YtogckmommodmhaaGreatDoor
