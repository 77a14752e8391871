import Derived.Test.YtogckmommodmhaaGreatDoorZy4
import Derived.Test.YtogckmommodmhaaGreatDoorZy2
import Derived.LaidMore
import Derived.Stop.Joined
namespace Go.Proofs.YtogckmommodmhaaGreatDoor
open List (mem_singleton mem_cons map_cons map_nil getElem?_eq_getElem append_nil getElem_mem mem_map mem_range length_map mem_append mem_append_right)
open Go.RowKit
set_option linter.all false
set_option maxRecDepth 100000
variable {anc li:List Nat}{o:Oper}{r0:List bD}{zs:List AV}{d:Option Nat}{xs:List TV}{gd:Option (Nat×Bool)}(gl:Nat->AV)(s:FS)(σ:Nat->Nat)(cs:List AV)(v:Value)(es:Nat)(l:List UInt8)(kb:Option Nat)(m:Nat)(rs:List RS)(b:Bool)(n:Nat)(ds:List AV)
section
variable {P:Program}{c:Cx}{ops:Array Oper}{io:Oper}
def VC (i:Nat):(s.cH kb).T i=s.T i:=by cases kb<;>rfl
def VD (j:Nat):(s.cH kb).H j=if kb=some j then .dead else s.H j:=by
 cases kb with
 | none=>rfl
 | some b=>simp only[FS.cH,FS.a7,Option.some.injEq]
def Ych {s s2:FS}{nm d:Nat}{kb:Option Nat}{X:Bk}{V:AV}{rt rb:List Nat}:dA s2 (((s.cH kb).aH nm X).put d V) ⟨rt,rb,[d],nm::kb.toList⟩=((s2.cH kb).aH nm X).put d V:=by
 refine qc (fun i=>?_) fun j=>?_
 ·show (if i ∈ [d] then _ else _)=_;simp only[FS.dE,mem_singleton];by_cases h:i=d
  ·subst h;simp
  ·rw[aa h,aa fun e=>h e.symm];show _=(s2.cH kb).T i;rw[VC]
 ·show (if j ∈ nm::kb.toList then (((s.cH kb).aH nm X).put d V).H j else s2.H j)=_;simp only[FS.rI,FS.a7,VD,mem_cons,Option.mem_toList];by_cases h:nm=j
  ·subst h;simp
  ·simp only[aa h,aa (fun e:j=nm=>h e.symm),false_or,(fun e=>h e.symm:¬ j=nm)];by_cases hk:kb=some j
   ·subst hk;simp
   ·have MR:¬ j ∈ kb:=fun e=>hk e;simp[hk,MR];exact fun e=>absurd e.symm h
def It {s:FS}{nm d:Nat}{kb:Option Nat}{X:List AV}{V:AV}{rt rb:List Nat}(hg:io.guard=none)(a8:io.dst=some d)(hd:d<c.N)
  (core:∀ s2:FS,(∀ i ∈ rt,s2.T i=s.T i)->(∀ b ∈ rb,s2.H b=s.H b)->∀ g a w,R c g s2 a w->∃ g' v' w',(execOp a.eval io).run P w=.ok (.value v') w'/\R c g' ((s2.cH kb).aH nm (.cells X)) a w'/\VR g' (Qm c g' ((s2.cH kb).aH nm (.cells X))) w' V v') :
  kD P c ops io s ⟨rt,rb,[d],nm::kb.toList⟩ (((s.cH kb).aH nm (.cells X)).put d V):=by
 refine ⟨fun i hi=>?_,fun j hj=>?_,fun s2 hT hH g a w hR K Q' hK=>Za hg ?_⟩
 ·rw[FS.dE,aa (fun e=>hi (by simp[e]))];exact VC s kb i
 ·rw[FS.rI,FS.a7,VD,aa (fun e=>hj (by simp[e])),aa (fun e=>hj (by simp[e]))]
 ·obtain ⟨g',v',w',hr,bc,hv⟩:=core s2 hT hH g a w hR;unfold Oper.wp;rw[hr];show K (a.put io.dst v') w';rw[a8];refine hK g' _ w' ?_;rw[Ych];exact bc.put hd hv
def VE {es jn:Nat}{str:Bool}{xs:List Operand}(h:Xs P o=some (.app es jn str,xs)) :
  ∃ x y t u e i z,xs=[x,y]/\o.op=.call ⟨.builtin .append,⟨[x,y]⟩,⟨[t,u]⟩⟩/\P.underlying t=some (.slice e)/\P.info? e=some i/\i.zero=some z/\z.cells.size=i.size/\i.size=es/\i.bytes=jn/\(u=t\/P.underlying u=some .string):=by
 unfold Xs at h
 repeat' split at h
 all_goals first
  | (cases h;exact ⟨_,_,_,_,_,_,_,rfl,by assumption,by assumption,by assumption,by assumption,(by rename_i hc _;exact hc.1),rfl,rfl,.inl (by assumption)⟩)
  | (cases h;exact ⟨_,_,_,_,_,_,_,rfl,by assumption,by assumption,by assumption,by assumption,(by rename_i hc _ _ _;exact hc.1),rfl,rfl,.inr (by assumption)⟩)
  | (simp at h;done)
  | (cases h;done)
  | (simp[Option.map_eq_some_iff]at h;done)
  | trace_state
def Iu (s:FS)(es jn:Nat)(str:Bool)(nm:Nat):List AV->Prop
 | [vb,vx]=>uW s es vb/\mf s es str vx/\s.H nm=.free/\Xe vb+Xe vx<=9223372036854775807/\(Xe vb+Xe vx)*jn<=140737488355328
 | _=>False
def NF (es nm:Nat):List AV->AV
 | [vb,vx]=>.sl es nm 0 (Xe vb+Xe vx) (Xe vb+Xe vx)
 | _=>.any
def Eb (s:FS)(es:Nat):List AV->List AV
 | [vb,vx]=>Xt s es vb++Xt s es vx
 | _=>[]
def Iv:List AV->Option Nat
 | vb::_=>jZ vb
 | []=>none
def Ec:List AV->List Nat
 | [vb,vx]=>(jZ vb).toList++(jZ vx).toList
 | _=>[]
def St.cH (s:St):Option Nat->St
 | some b=>s.aH b .dead
 | none=>s
def St.rR (s:St)(kb:Option Nat):(s.cH kb).fs=s.fs.cH kb:=by
 cases kb with
 | none=>rfl
 | some b=>exact St.cj _ _ _
def St.uX (s:St)(kb:Option Nat):(s.cH kb).n=s.n:=by cases kb<;>rfl
def Iw {s s2:FS}{es:Nat}{x:AV}(h:∀ b,jZ x=some b->s2.H b=s.H b):Xt s2 es x=Xt s es x:=by
 cases x<;>simp only[Xt]
 rename_i b o n cc;rw[h _ rfl]
def VF {s s2:FS}{es:Nat}{str:Bool}{x:AV}(h:∀ b,jZ x=some b->s2.H b=s.H b)(ok:mf s es str x):mf s2 es str x:=by
 cases x<;>simp only[mf]at ok ⊢<;>try exact ok
 rw[h _ rfl];exact ok
def Qz8 {s s2:FS}{es:Nat}{x:AV}(h:∀ b,jZ x=some b->s2.H b=s.H b)(ok:uW s es x):uW s2 es x:=by
 cases x<;>simp only[uW]at ok ⊢<;>try exact ok
 rw[h _ rfl];exact ok
def Ix (s:St)(gl:Nat->AV)(d:Nat)(xs:List TV):bg:=⟨Xf xs,s.n::Ec ((aC gl s.fs xs).map Qh),[d],s.n::(Iv ((aC gl s.fs xs).map Qh)).toList⟩
def Ed (s:St)(gl:Nat->AV)(d es:Nat)(xs:List TV):St:=((s.cH (Iv ((aC gl s.fs xs).map Qh))).nw (.cells (Eb s.fs es ((aC gl s.fs xs).map Qh)))).put d (NF es s.n ((aC gl s.fs xs).map Qh))
def VG {s:St}{d es jn:Nat}{str:Bool}  (hc:Qq none (aC c.gl s.fs xs))(aS:Iu s.fs es jn str s.n ((aC c.gl s.fs xs).map Qh)) :
  Kn P c (.pd (some d) (.app es jn str) xs none) s.fs (Ix s c.gl d xs) (Ed s c.gl d es xs).fs:=by
 intro ops io he;obtain ⟨aV,a8,hd,ys,aD,rfl⟩:=Zj he;obtain ⟨x,y,t,u,e,i,z,rfl,hop,hu,hi,hz,lE,df,rQ,NG⟩:=VE aD;have ea:(aC c.gl s.fs ([x,y].map aP)).map Qh=[Qh (aU c.gl s.fs (aP x)),Qh (aU c.gl s.fs (aP y))]:=rfl;unfold Ix Ed;rw[ea]at aS ⊢;generalize hvb:Qh (aU c.gl s.fs (aP x))=vb at *
 generalize VH:Qh (aU c.gl s.fs (aP y))=vx at *
 obtain ⟨Ir,zb,bq,qT,hb⟩:=aS;rw[St.bS,St.iw,St.rR,St.uX];simp only[Iv,Eb,NF,Ec];refine It (Ji aV) a8 (by simpa using hd) fun s2 hT hH g a w hR=>?_;have bj:aC c.gl s2 ([x,y].map aP)=aC c.gl s.fs ([x,y].map aP):=Ya hT;have eP:=Yi (hR.ci [x,y]) (by rw[bj];exact hc);rw[bj,ea]at eP;obtain ⟨v1,v2,_⟩:=eP;have tJ:∀ b,jZ vb=some b->s2.H b=s.fs.H b:=fun b h=>hH b (by simp[h]);have Ee:∀ b,jZ vx=some b->s2.H b=s.fs.H b:=fun b h=>hH b (by simp[h]);obtain ⟨g',v',w',hr,h1,h2⟩:=Xy4 (P:=P) (ty:=io.type) hR (nm:=s.n) (by rw[hH _ aw];exact bq) hu NG hi hz df (lE.trans df) v1 v2 (Qz8 tJ Ir) (VF Ee zb) (by unfold maxLen;omega) (by rw[rQ];exact hb);rw[Iw tJ,Iw Ee]at h1 h2;refine ⟨g',v',w',?_,h1,h2⟩;unfold execOp;simp only[hop,resolve,invoke,builtin,Sem.run_bind,Sem.run_pure,Result.andThen_ok,List.map_toArray,map_cons,map_nil,hr]
def wY {K:St->Prop}{s:St}{d es jn:Nat}{str:Bool}  (h:Qq none (aC c.gl s.fs xs)/\Iu s.fs es jn str s.n ((aC c.gl s.fs xs).map Qh)/\XP P c r0 K (Ed s c.gl d es xs)) :
  Yn P c (.pd (some d) (.app es jn str) xs none) r0 K s:=.inl ⟨_,_,VG h.1 h.2.1,h.2.2⟩
def wZ {fs:List bg}  {K:St->Prop}{s:St}{d es jn:Nat}{str:Bool}  (h:Qq none (aC c.gl s.fs xs)/\Iu s.fs es jn str s.n ((aC c.gl s.fs xs).map Qh)/\XD P c anc r0 (Ix s c.gl d xs::fs) K (Ed s c.gl d es xs)) :
  Zm P c anc (.pd (some d) (.app es jn str) xs none) r0 fs K s:=⟨_,_,VG h.1 h.2.1,h.2.2⟩
def Xpi (v:List (Value×Nat)):∀ (off:Nat) (cs:Array Value),(v.foldl (fun cs (c,j)=>cs.setIfInBounds (off+j) c) cs).size=cs.size:=by
 induction v with
 | nil=>intro off cs;rfl
 | cons p v ih=>intro off cs;rw[List.foldl_cons,ih];simp
def VI {place:Nat->Option (Nat×Nat)}:∀ (l:List (Nat×Value)) (cells cells':Array Value),Instr.fill place cells l=some cells'->cells'.size=cells.size
 | [],cells,cells',h=>by simp[Instr.fill]at h;rw[h]
 | (i,v)::l,cells,cells',h=>by
  unfold Instr.fill at h;split at h
  ·cases h
  ·split at h
   ·cases h
   ·rw[VI l _ _ h];rw[<- Array.foldl_toList];exact Xpi _ _ _
def Qpy {place:Nat->Option (Nat×Nat)}{cells cells':Array Value}{l:List (Nat×Value)}(h:Instr.fill place cells l=some cells'):cells'.size=cells.size:=VI l cells cells' h
def kN:Nat->List AV->List AV
 | 0,_=>[]
 | n+1,z=>z++kN n z
def VJ (z:List AV):∀ n,(kN n z).length=n*z.length
 | 0=>by simp[kN]
 | n+1=>by simp[kN,VJ z n,Nat.add_mul];omega
def VK (z:List AV):∀ n j,j<n*z.length->(kN n z).getD j .any=z.getD (j%z.length) .any
 | 0,j,h=>by simp at h
 | n+1,j,h=>by
  simp only[kN,List.getD];by_cases hj:j<z.length
  ·rw[List.getElem?_append_left hj,Nat.mod_eq_of_lt hj]
  ·rw[List.getElem?_append_right af];have h2:j - z.length < n * z.length:=by rw[Nat.add_mul]at h;omega
   have ih:=VK z n (j-z.length) h2;simp only[List.getD]at ih;rw[ih,<- Nat.mod_eq_sub_mod af]
def VL {es len:Nat}  {ps:List (Nat×Nat)}{xs:List Operand}(h:Xs P o=some (.yK es len zs ps,xs)) :
  ∃ t e i z parts,o.op=.buildSlice t len parts∧P.underlying t=some (.slice e)∧P.info? e=some i∧i.zero=some z∧z.cells.size=i.size∧0 < i.size∧z.cells.all (·.oneCell')=true∧len * i.size≤2 ^ 24∧len≤2 ^ 24 ∧
   es=i.size/\zs=z.cells.toList.map fE/\ps=parts.toList.map (fun p=>(p.1*i.size,i.size))/\xs=parts.toList.map (·.2):=by
 unfold Xs at h
 repeat' split at h
 all_goals first
  | (simp only[Option.some.injEq,Prod.mk.injEq,PK.yK.injEq]at h;obtain ⟨⟨rfl,rfl,rfl,rfl⟩,rfl⟩:=h
     rename_i hc;exact ⟨_,_,_,_,_,by assumption,by assumption,by assumption,by assumption,hc.1,hc.2.1,hc.2.2.1,hc.2.2.2.1,hc.2.2.2.2,rfl,rfl,rfl,rfl⟩)
  | (simp at h;done)
  | (cases h;done)
  | (simp[Option.map_eq_some_iff]at h;done)
def VM {s:St}{d es len:Nat}  {ps:List (Nat×Nat)}  (hc:Qq none (aC c.gl s.fs xs))(hlen:0<len)(bq:s.fs.H s.n=.free)(aS:Zb (kN len zs).length ps ((aC c.gl s.fs xs).map Qh)) :
  Kn P c (.pd (some d) (.yK es len zs ps) xs none) s.fs ⟨Xf xs,[s.n],[d],[s.n]⟩ ((s.nw (.cells (Je (kN len zs) ps ((aC c.gl s.fs xs).map Qh)))).put d (.sl es s.n 0 len len)).fs:=by
 intro ops io he;obtain ⟨aV,a8,hd,ys,aD,rfl⟩:=Zj he;obtain ⟨t,e,i,z,parts,hop,hu,hi,hz,lE,eW,qV,h24,NH,rfl,rfl,rfl,rfl⟩:=VL aD;rw[St.bS,St.iw];refine It (kb:=none) (Ji aV) a8 (by simpa using hd) fun s2 hT hH g a w hR=>?_;have bj:=Ya (gl:=c.gl) hT;have eP:=Yi (hR.ci (parts.toList.map (·.2))) (by rw[bj];exact hc);rw[bj]at eP;have iP:s2.H s.n=.free:=by rw[hH _ aw,bq]
 have NL:(z.cells.toList.map fE).length=i.size:=by simp[lE]
 have fH:(kN len (z.cells.toList.map fE)).length=len*i.size:=by rw[VJ,NL]
 have aW:((Array.range (len*i.size)).map (z.cells[· % z.cells.size]!)).size=len*i.size:=by simp
 have Iy:∀ j,j<len*i.size->((Array.range (len*i.size)).map (z.cells[· % z.cells.size]!)).getD j undef=z.cells.getD (j%i.size) undef:=fun j hj=>by
  have hm:=Nat.mod_lt j eW;simp[Array.getD_eq_getD_getElem?,hj,lE,hm]
 have h1z:∀ j,j<i.size->(z.cells.getD j undef).oneCell'=true:=fun j hj=>by
  have:=Array.all_eq_true.1 qV j af;simpa [Array.getD_eq_getD_getElem?,show j<z.cells.size by omega] using this
 have hgz:∀ j,j<i.size->(z.cells.toList.map fE).getD j .any=fE (z.cells.getD j undef):=fun j hj=>by
  simp[List.getD,Array.getD_eq_getD_getElem?,show j<z.cells.size by omega]
 obtain ⟨cells',f1,f2⟩:=Mx (g:=g) (W:=Qm c g s2) (w:=w) (place:=fun j=>some (j * i.size,i.size)) (parts.toList.map fun (p:Nat × Operand)=>(p.1 * i.size,i.size)) (parts.toList.map (fun (p:Nat × Operand)=>p.1)) aw eP aw (cs:=kN len (z.cells.toList.map fE)) (cells:=(Array.range (len * i.size)).map (z.cells[· % z.cells.size]!)) aS (by rw[aW,fH])
  (fun j hj=>by rw[fH]at hj;rw[Iy j hj];exact h1z _ (Nat.mod_lt _ eW)) (fun j hj=>by
   rw[fH]at hj;rw[Iy j hj,VK _ _ _ (by rw[NL];exact hj),NL,hgz _ (Nat.mod_lt _ eW)];exact HD _)
 obtain ⟨us,eu,q1,q2,q3⟩:=Ui f2;cases eu;have HT:(parts.map fun (p:Nat×Operand)=>(p.1,a.eval p.2)).toList=(parts.toList.map (·.1)).zip ((parts.toList.map (·.2)).map a.eval):=by
  simp only[Array.toList_map]
  induction parts.toList with
  | nil=>rfl
  | cons p l ih=>simp[ih]
 have hbl:(Je (kN len (z.cells.toList.map fE)) (parts.toList.map fun p=>(p.1*i.size,i.size)) ((aC c.gl s.fs ((parts.toList.map (·.2)).map aP)).map Qh)).length=len*i.size:=by
  rw[<- q1];have:=Qpy f1;rw[this,aW]
 have hr:=run_buildSlice (P:=P) w t e len (parts.map fun (j,x)=>(j,a.eval x)) cells' i z hu hi hz af (Nat.ne_of_gt (Nat.mul_pos hlen eW)) (by rw[<- HT]at f1;exact f1);have jk:∀ k,Qm c g s2 k->k<w.heap.size:=by
  rintro k (h|⟨b',hl,fF⟩)
  ·have:=(hR.xs k h).1;have:=hR.fr.size;omega
  ·exact BR.lt (fF ▸ hR.h b') hl
 have cf:=heap_alloc_new w (.cells cells' e);have bc:=hR.new (b:=s.n) (x:=.cells (Je (kN len (z.cells.toList.map fE)) (parts.toList.map fun p=>(p.1*i.size,i.size)) ((aC c.gl s.fs ((parts.toList.map (·.2)).map aP)).map Qh))) (.cells cells' e) iP trivial fun g' fF =>
  .cells (cur:=cells') (e:=e) (fz:=(0,0)) cf af q2 (fun j hj=>(q3 j hj).mono (Fr.alloc w _ _) (fun k hk h=>h.resolve_right af) fF) (.inl rfl)
 refine ⟨_,_,_,?_,bc,.sl (k:=w.heap.size) (e:=e) (cur:=cells') (fz:=(0,0)) B6 (Nat.le_refl _) (Nat.le_refl _) (by unfold maxLen;omega) cf (by rw[q1,hbl];omega)⟩;unfold execOp;simp only[hop,Sem.run_bind,hr,Result.andThen_ok,Sem.run_pure]
def w3 {r0:List bD}{K:St->Prop}{s:St}{d es len:Nat}{zs:List AV}{ps:List (Nat×Nat)}{xs:List TV}(h:Qq none (aC c.gl s.fs xs)/\0<len/\s.fs.H s.n=.free/\Zb (kN len zs).length ps ((aC c.gl s.fs xs).map Qh) /\
  XP P c r0 K ((s.nw (.cells (Je (kN len zs) ps ((aC c.gl s.fs xs).map Qh)))).put d (.sl es s.n 0 len len))):Yn P c (.pd (some d) (.yK es len zs ps) xs none) r0 K s:=.inl ⟨_,_,VM h.1 h.2.1 h.2.2.1 h.2.2.2.1,h.2.2.2.2⟩
def w5 {anc:List Nat}{fs:List bg}{r0:List bD}{K:St->Prop}{s:St}{d es len:Nat}{zs:List AV}{ps:List (Nat×Nat)}{xs:List TV}(h:Qq none (aC c.gl s.fs xs)/\0<len/\s.fs.H s.n=.free/\Zb (kN len zs).length ps ((aC c.gl s.fs xs).map Qh) /\
  XD P c anc r0 (⟨Xf xs,[s.n],[d],[s.n]⟩::fs) K ((s.nw (.cells (Je (kN len zs) ps ((aC c.gl s.fs xs).map Qh)))).put d (.sl es s.n 0 len len))):Zm P c anc (.pd (some d) (.yK es len zs ps) xs none) r0 fs K s:=⟨_,_,VM h.1 h.2.1 h.2.2.1 h.2.2.2.1,h.2.2.2.2⟩
def Xvw {xs:List Operand}(h:Xs P o=some (.DE,xs)):∃ src dst e x,o.op=.convert src dst x/\P.underlying src=some .string/\P.underlying dst=some (.slice e)/\P.underlying e=some (.int .u8)/\xs=[x]:=by
 unfold Xs at h
 repeat' split at h
 all_goals first
  | (simp only[Option.some.injEq,Prod.mk.injEq,true_and]at h;subst h;exact ⟨_,_,_,_,by assumption,by assumption,by assumption,by assumption,rfl⟩)
  | (simp at h;done)
  | (cases h;done)
  | (simp[Option.map_eq_some_iff]at h;done)
def Ef:AV->Prop
 | .str _=>True
 | _=>False
def VN {s:St}{d:Nat}{x:TV}(hc:fb none (aU c.gl s.fs x))(bq:s.fs.H s.n=.free)(aS:Ef (Qh (aU c.gl s.fs x))/\(cT (Qh (aU c.gl s.fs x))).length<=9223372036854775807) :
  Kn P c (.pd (some d) .DE [x] none) s.fs ⟨Xf [x],[s.n],[d],[s.n]⟩ ((s.nw (.cells (Xj (cT (Qh (aU c.gl s.fs x)))))).put d (.sl 1 s.n 0 (cT (Qh (aU c.gl s.fs x))).length (cT (Qh (aU c.gl s.fs x))).length)).fs:=by
 intro ops io he;obtain ⟨aV,a8,hd,ys,aD,n5⟩:=Zj he;obtain ⟨src,dst,e,y,hop,hs,zd,hee,rfl⟩:=Xvw aD;simp only[map_cons,map_nil,List.cons.injEq,and_true]at n5;subst n5;rw[St.bS,St.iw];refine It (kb:=none) (Ji aV) a8 (by simpa using hd) fun s2 hT hH g a w hR=>?_;have jo:aU c.gl s2 (aP y)=aU c.gl s.fs (aP y):=by
  have:=Ya (gl:=c.gl) (xs:=[aP y]) hT;simpa [aC] using this
 have hv:=DH (hR.ev y) (by rw[jo];exact hc);rw[jo]at hv;obtain ⟨h1,h2⟩:=aS;generalize Qh (aU c.gl s.fs (aP y))=v at *
 cases v<;>simp only[Ef]at h1
 rename_i l;simp only[cT]at h2 ⊢;have iP:s2.H s.n=.free:=by rw[hH _ aw,bq]
 generalize hy:a.eval y=uy at hv;cases hv;have hr:=run_bytes_of_string (P:=P) w src dst e ⟨l.toArray⟩ hs zd hee;have cC:(⟨l.toArray⟩:ByteArray).size=l.length:=rfl;rw[cC]at hr;generalize hcap:grownCap w l.length 0 e=cap at hr;have jk:l.length<=cap:=by rw[<- hcap];exact Hy w _ _ _
 have hle:cap<=maxLen:=by rw[<- hcap];exact grownCap_le_maxLen w _ _ _ (by unfold maxLen;omega)
 have VO:(bytesRow ⟨l.toArray⟩ cap).size=cap:=by simp[bytesRow,cC];omega
 have VP:∀ j (hj:j<l.length),(bytesRow ⟨l.toArray⟩ cap).getD j undef=.int .u8 (l[j]).toNat:=fun j hj=>by
  have:=bytesRow_at ⟨l.toArray⟩ cap j (by simpa using hj);rw[Array.getD_eq_getD_getElem?,this];simp
 have B7:R c g s2 a w.drew:=hR.grow (Fr.drew w _);have nVa:∀ k,Qm c g s2 k->k<w.drew.heap.size:=by
  rintro k (h|⟨b',hl,fF⟩)
  ·have:=(B7.xs k h).1;have:=B7.fr.size;omega
  ·exact BR.lt (fF ▸ B7.h b') hl
 have cf:=heap_alloc_new w.drew (.cells (bytesRow ⟨l.toArray⟩ cap) e ((bytesRow ⟨l.toArray⟩ cap).size,(bytesRow ⟨l.toArray⟩ cap).size+1));have hbl:(Xj l).length=l.length:=Vd l;have bc:=B7.new (b:=s.n) (x:=.cells (Xj l)) (.cells (bytesRow ⟨l.toArray⟩ cap) e ((bytesRow ⟨l.toArray⟩ cap).size,(bytesRow ⟨l.toArray⟩ cap).size+1)) iP trivial fun g' fF=>by
  refine .cells (cur:=bytesRow ⟨l.toArray⟩ cap) (e:=e) cf (by rw[hbl,VO];exact jk) (fun j hj=>?_) (fun j hj=>?_) (.inr (Nat.le_refl _))
  ·rw[VP j af];rfl
  ·rw[VP j af,Ve af];simp only[List.getD,getElem?_eq_getElem (show j<l.length by omega),Option.getD_some];exact .int _ _
 refine ⟨_,_,_,?_,bc,.sl (k:=w.heap.size) (e:=e) B6 (Nat.le_refl _) jk hle cf (by rw[VO];omega)⟩;unfold execOp;simp only[hop,hy,Sem.run_bind,hr,Result.andThen_ok,Sem.run_pure]
def w7 {r0:List bD}{K:St->Prop}{s:St}{d:Nat}{x:TV}(h:fb none (aU c.gl s.fs x)/\s.fs.H s.n=.free/\(Ef (Qh (aU c.gl s.fs x))/\(cT (Qh (aU c.gl s.fs x))).length<=9223372036854775807) /\
  XP P c r0 K ((s.nw (.cells (Xj (cT (Qh (aU c.gl s.fs x)))))).put d (.sl 1 s.n 0 (cT (Qh (aU c.gl s.fs x))).length (cT (Qh (aU c.gl s.fs x))).length))):Yn P c (.pd (some d) .DE [x] none) r0 K s:=.inl ⟨_,_,VN h.1 h.2.1 h.2.2.1,h.2.2.2⟩
def w8 {anc:List Nat}{fs:List bg}{r0:List bD}{K:St->Prop}{s:St}{d:Nat}{x:TV}(h:fb none (aU c.gl s.fs x)/\s.fs.H s.n=.free/\(Ef (Qh (aU c.gl s.fs x))/\(cT (Qh (aU c.gl s.fs x))).length<=9223372036854775807) /\
  XD P c anc r0 (⟨Xf [x],[s.n],[d],[s.n]⟩::fs) K ((s.nw (.cells (Xj (cT (Qh (aU c.gl s.fs x)))))).put d (.sl 1 s.n 0 (cT (Qh (aU c.gl s.fs x))).length (cT (Qh (aU c.gl s.fs x))).length))):Zm P c anc (.pd (some d) .DE [x] none) r0 fs K s:=⟨_,_,VN h.1 h.2.1 h.2.2.1,h.2.2.2⟩
end
theorem Xfo:Xt s es (.isl m ds)=ds.take (m*es):=rfl
theorem Xll (es es2 b o m c:Nat):Xt s es (.sl es2 b o m c)=((Yy (s.H b)).drop o).take (m*es):=rfl
theorem Xfs:Xt s es (.str l)=Xj l:=rfl
theorem Xbz:Xt s es .nils=[]:=rfl
theorem Xbe:mf s es b (.isl m ds)=(b=false/\m*es<=ds.length):=rfl
theorem Xkw (es es2 k o m c:Nat)(b:Bool):mf s es b (.sl es2 k o m c)=(b=false/\es2=es/\o+m*es<=(Yy (s.H k)).length):=rfl
theorem Xcd (l:List UInt8):mf s es b (.str l)=(b=true/\es=1):=rfl
theorem Xcn (a:Option Addr)(c:Nat):mf s es b (.lit (.slice a 0 c))=(b=false):=by simp[mf,Ip]
theorem Xh5:Xe (.lit v)=0:=rfl
theorem Xk1:jZ (.lit v)=none:=rfl
theorem Xgz (v:Value):Xt s es (.lit v)=[]:=rfl
theorem Qzu:mf s es b .nils=(b=false):=rfl
theorem Xbb (es es2 b o n c:Nat):uW s es (.sl es2 b o n c)=(es2=es/\o=0/\n*es<=(Yy (s.H b)).length/\(s.H b).live):=rfl
theorem Qug:uW s es .nils=True:=rfl
theorem Xoc (es b o n c:Nat):jZ (.sl es b o n c)=some b:=rfl
theorem Xc9:jZ .nils=none:=rfl
theorem Xh9 (cs:List AV):jZ (.isl n cs)=none:=rfl
theorem Xk8:jZ (.str l)=none:=rfl
theorem Yck (es jn nm:Nat)(b:Bool)(x y:AV):Iu s es jn b nm [x,y]=(uW s es x/\mf s es b y/\s.H nm=.free/\Xe x+Xe y<=9223372036854775807/\(Xe x+Xe y)*jn<=140737488355328):=rfl
theorem Ygz (es nm:Nat)(x y:AV):NF es nm [x,y]=.sl es nm 0 (Xe x+Xe y) (Xe x+Xe y):=rfl
theorem Yfb (x y:AV):Eb s es [x,y]=Xt s es x++Xt s es y:=rfl
theorem Yer (x:AV)(r:List AV):Iv (x::r)=jZ x:=rfl
theorem Yeb (x y:AV):Ec [x,y]=(jZ x).toList++(jZ y).toList:=rfl
theorem Ye5 (s:St)(b:Nat):s.cH (some b)=s.aH b .dead:=rfl
theorem Ydk (s:St):s.cH none=s:=rfl
theorem Yc3 (z:List AV):kN 0 z=[]:=rfl
theorem Ydc (z:List AV):kN (n+1) z=z++kN n z:=rfl
theorem Ycr:Ef (.str l)=True:=rfl
theorem Yep:(Bk.cells cs).live=True:=rfl
theorem NM (n:Int)(r:List AV):Xj l++(.int .u8 (IntKind.u8.wrap n)::r)=Xj (l++[UInt8.ofNat (IntKind.u8.wrap n).toNat])++r:=by
 have h0:0<=IntKind.u8.wrap n/\IntKind.u8.wrap n<256:=by rw[IntKind.wrap_u8];omega
 generalize IntKind.u8.wrap n=k at h0 ⊢;simp[Xj];omega
theorem Xqd {l:List UInt8}{n:Int}{r:List AV}(h0:0<=n)(h1:n<256):Xj l++(.int .u8 n::r)=Xj (l++[UInt8.ofNat n.toNat])++r:=by
 simp[Xj];omega
theorem Xua:Xj []=[]:=rfl
theorem Xxy:Ql []=[]:=rfl
theorem Xqj {l:List Int}{n:Int}{r:List AV}:Ql l++(.int .i64 n::r)=Ql (l++[n])++r:=by simp[Ql]
attribute [go_sem] NC Xtt Xtu Xlx Xfo Xll Xfs Xbz Xbe Xkw Xcd Qzu Xcn Xh5 Xk1 Xgz Xbb Qug Xoc Xc9 Xh9 Xk8 Yck Ygz Yfb Yer Yeb Ye5 Ydk Yc3 Ydc Ycr Yep NM Xqd Xqj Xua Xxy Ix Ed append_nil List.length_append Xxq Xy5
def Jn (r:AV):Prop:=∀ (g g':Nat->GM) (W W':Nat->Prop) (w w':World) (v:Value),VR g W w r v->VR g' W' w' r v
def Jn.int (k:IntKind)(n:Int):Jn (.int k n):=fun _ _ _ _ _ _ _ h=>by cases h;exact .int _ _
def Jn.bool:Jn (.bool b):=fun _ _ _ _ _ _ _ h=>by cases h;exact .bool _
def Jn.str:Jn (.str l):=fun _ _ _ _ _ _ _ h=>by cases h;exact .str _
def Jn.aR {cs:List AV}(h:∀ x ∈ cs,Jn x):Jn (.aR cs):=fun g g' W W' w w' v hv=>by
 obtain ⟨us,rfl,h1,h3⟩:=Dz hv;refine .aR h1 fun j hj=>?_;refine h _ ?_ _ _ _ _ _ _ _ (h3 j hj);simp only[List.getD,getElem?_eq_getElem hj,Option.getD_some];exact getElem_mem hj
def B9:AV->List Nat
 | .sl _ b _ _ _=>[b]
 | _=>[]
def Iz:AV->List Nat
 | .agg cs=>cs.flatMap B9
 | v=>B9 v
def VQ {s s2:FS}:∀ {v:AV},(∀ b ∈ B9 v,s2.H b=s.H b)->Ys s2 v=Ys s v:=fun {v} h=>by
 cases v<;>simp only[Ys]
 rw[h _ (by simp[B9])]
def Xg2 {s s2:FS}{v:AV}(h:∀ b ∈ Iz v,s2.H b=s.H b):Zf s2 v=Zf s v:=by
 cases v<;>simp only[Zf]
 case agg cs =>
  congr 1;refine List.map_congr_left fun x hx=>VQ fun b hb=>h b ?_;simp only[Iz,List.mem_flatMap];exact ⟨x,hx,hb⟩
 all_goals exact VQ h
section
variable {P:Program}{c:Cx}
def uY (s:FS)(gl:Nat->AV)(d:Option Nat)(xs:List TV)(gd:Option (Nat×Bool)):bg:=⟨jU gd++Xf xs,((aC gl s xs).map Qh).flatMap Iz,d.toList,[]⟩
def VS {g g':Nat->GM}{W W':Nat->Prop}{w:World}{f:AV->AV}:∀ {xs:List AV} {vs:List Value},bR g W w xs vs->(∀ x ∈ xs,∀ v,VR g W w x v->VR g' W' w (f x) v)->bR g' W' w (xs.map f) vs
 | [],[],_,_=>trivial
 | x::xs,v::vs,h,k=>⟨k x aw v h.1,VS h.2 fun y hy=>k y (by simp[hy])⟩
 | [],_::_,h,_=>h.elim
 | _::_,[],h,_=>h.elim
theorem VT {s:St}{d:Option Nat}{f:FuncId}{xs:List TV}{gd:Option (Nat×Bool)}{args:List AV}{r:AV}(aS:Ut c.gl s.fs xs gd)(aM:((aC c.gl s.fs xs).map Qh).map (Zf s.fs)=args)(ik:ah 0 args)(jO:Jn r)
  (ef:ob (gB s.fs gd) (PS P c.gl f args r)):Kn P c (.pd d (.call f) xs gd) s.fs (uY s.fs c.gl d xs gd) (s.cd d (cw (gB s.fs gd) r)).fs:=by
 intro ops io he;obtain ⟨aV,a8,hd,ys,aD,rfl⟩:=Zj he;obtain ⟨ts,hop⟩:=BS aD;have ju:(s.cd d (cw (gB s.fs gd) r)).fs=match d with|some d=>s.fs.put d (cw (gB s.fs gd) r)|none=>s.fs:=by
  cases d with
  | none=>rfl
  | some d=>exact St.bS _ _ _
 rw[ju];refine ⟨fun i hi=>?_,fun b _=>by cases d<;>rfl,?_⟩
 ·cases d with
  | none=>rfl
  | some d=>show (s.fs.put d _).T i=_;rw[FS.dE,aa (fun e=>hi (by simp[uY,e]))]
 ·intro s2 hT hH g a w hR K Q' hK;have bj:aC c.gl s2 (ys.map aP)=aC c.gl s.fs (ys.map aP):=Ya fun i hi=>hT i (by simp[uY,hi]);have hg:∀ t b,gd=some (t,b)->s2.T t=s.fs.T t:=fun t b e=>hT t (by simp[uY,e,jU]);have jV:gB s2 gd=gB s.fs gd:=by
   cases gd with
   | none=>rfl
   | some p=>obtain ⟨t,b⟩:=p;simp only[gB,hg t b rfl]
  have jW:gn s2 gd:=by
   have:=aS.1;cases gd with
   | none=>exact this
   | some p=>obtain ⟨t,b⟩:=p;simpa only[gn,hg t b rfl] using this
  have m8:∀ v w',Fr w w' (fun _=>False)->VR g (Qm c g s2) w' (cw (gB s.fs gd) r) v->K (a.put io.dst v) w':=fun v w' hf hv=>by
   rw[a8];have bc:=hR.grow hf;cases d with
   | none =>
    refine hK g _ w' ?_;have:dA s2 s.fs (uY s.fs c.gl none (ys.map aP) gd)=s2:=by unfold dA uY;simp
    simp only[this];exact bc
   | some d =>
    refine hK g _ w' ?_;show R c g (dA s2 (s.fs.put d _) ⟨jU gd++Xf (ys.map aP),_,[d],[]⟩) _ _;rw[yM];exact bc.put (by simpa using hd) hv
  unfold Uj;rw[wN aV hR jW,jV];have run:(∀ b,gB s.fs gd=some b->b=true)->io.wp P a w K Q':=by
   intro hb;have gX:Qq none (aC c.gl s2 (ys.map aP)):=by
    rw[bj];have:=aS.2;cases bW:gB s.fs gd with
    | none=>rw[bW]at this;exact this
    | some b=>rw[bW]at this;exact BD (hb b bW) this
   have rP:PS P c.gl f args r:=by
    cases bW:gB s.fs gd with
    | none=>rw[bW]at ef;exact ef
    | some b=>rw[bW]at ef;exact ef (hb b bW)
   have hv:=Yi (hR.ci ys) gX;rw[bj]at hv;have Iy:∀ x ∈ (aC c.gl s.fs (ys.map aP)).map Qh,Zf s2 x=Zf s.fs x:=fun x hx=>Xg2 fun b hb=>hH b (by simp only[uY,List.mem_flatMap];exact ⟨x,hx,hb⟩);have pW:bR (fun _=>.un) c.X w args (ys.map a.eval):=by
    rw[<- aM]at ik ⊢;refine VS hv fun x hx v h=>?_;have hn:=Xh.1 ik (Zf s.fs x) (List.mem_map_of_mem hx);rw[<- Iy x hx]at hn ⊢;exact Nj hR h hn
   have hX:∀ k,c.X k->k<w.heap.size:=fun k h=>by have:=(hR.xs k h).1;have:=hR.fr.size;omega
   have me:∀ i,VR (fun _=>.un) c.X w (c.gl i) (.pointer (some ⟨i,0,none⟩)):=fun i=>(hR.gl i).mono (Fr.refl _ _) (fun k _ h=>.inl h) (fun _ _=>rfl);have eB:=rP.2 w _ _ hX me pW;unfold Oper.wp;rw[BT rP.1 hop];rw[Oper.upon_enter];refine eB.mono fun e w' ⟨v,e1,e2,e3⟩=>?_;subst e1;refine m8 v w' e3 ?_;have ea:VR g (Qm c g s2) w' r v:=jO _ _ _ _ _ _ _ e2;cases bW:gB s.fs gd with
   | none=>exact ea
   | some b=>exact .dU (fun _=>ea) fun h=>by rw[hb b bW]at h;cases h
  cases bW:gB s.fs gd with
  | none=>simp only[Option.getD_none,if_true];exact run fun b h=>by rw[bW]at h;cases h
  | some b =>
   cases b with
   | true=>simp only[Option.getD_some,if_true];exact run fun b h=>by rw[bW]at h;cases h;rfl
   | false =>
    simp only[Option.getD_some,Bool.false_eq_true,if_false];refine m8 undef w (Fr.refl _ _) ?_;rw[bW];exact .dU (fun h=>by cases h) fun _=>rfl
def Wi {r0:List bD}{K:St->Prop}{s:St}{d:Option Nat}{f:FuncId}{xs:List TV}{gd:Option (Nat×Bool)}{args:List AV}{r:AV}(aM:((aC c.gl s.fs xs).map Qh).map (Zf s.fs)=args)(ef:PS P c.gl f args r)(jO:Jn r)
  (aS:Ut c.gl s.fs xs gd/\ah 0 args/\XP P c r0 K (s.cd d (cw (gB s.fs gd) r))):Yn P c (.pd d (.call f) xs gd) r0 K s:=.inl ⟨_,_,VT aS.1 aM aS.2.1 jO (y9 ef),aS.2.2⟩
def Kd {anc:List Nat}{fs:List bg}{r0:List bD}{K:St->Prop}{s:St}{d:Option Nat}{f:FuncId}{xs:List TV}{gd:Option (Nat×Bool)}{args:List AV}{r:AV}(aM:((aC c.gl s.fs xs).map Qh).map (Zf s.fs)=args)(ef:PS P c.gl f args r)(jO:Jn r)
  (aS:Ut c.gl s.fs xs gd/\ah 0 args/\XD P c anc r0 (uY s.fs c.gl d xs gd::fs) K (s.cd d (cw (gB s.fs gd) r))):Zm P c anc (.pd d (.call f) xs gd) r0 fs K s:=⟨_,_,VT aS.1 aM aS.2.1 jO (y9 ef),aS.2.2⟩
end
theorem Xb4 (es b o n c:Nat):B9 (.sl es b o n c)=[b]:=rfl
attribute [go_sem] uY Xb4 B9 Iz List.flatMap_cons List.flatMap_nil
section
variable {P:Program}{c:Cx}{g g':Nat->GM}{s:FS}{a:Act}{w w':World}{W W':Nat->Prop}
structure Fit (σ:Nat->Nat)(s:FS)(aK:List (Nat×Bk))(m:Nat):Prop where
 mem:∀ p ∈ aK,p.1<m/\bV m p.2/\s.H (σ p.1)=Qw σ p.2
 inj:∀ p ∈ aK,∀ q ∈ aK,σ p.1=σ q.1->p.1=q.1
def rS (g:Nat->GM)(σ:Nat->Nat)(aK:List (Nat×Bk))(m:Nat)(k:Nat):Prop:=∃ b,(Qc aK m b).live/\g (σ b)=.re k
def Yhr (c:Cx)(g:Nat->GM)(s:FS)(G:Nat->Prop)(k:Nat):Prop:=Qm c g s k/\¬ G k
def qW (c:Cx)(g:Nat->GM)(s:FS)(w:World)(σ:Nat->Nat)(aK:List (Nat×Bk))(m:Nat):Cx:=⟨0,w,rS g σ aK m,Yhr c g s (rS g σ aK m),c.gl,[]⟩
def Uy {h:List (Nat×Bk)}{m b:Nat}(hl:(Qc h m b).live):∃ p ∈ h,p.1=b/\Qc h m b=p.2:=by
 rcases Jh h m b with e|e
 ·rw[e]at hl;split at hl<;>exact hl.elim
 ·exact e
open Classical in
def IA {σ:Nat->Nat}{aK:List (Nat×Bk)}{m:Nat}(hR:R c g s a w)(fit:Fit σ s aK m):∃ g1:Nat->GM,(∀ b,b<m->g (σ b)≠.un->g (σ b)=g1 b) /\
  R (qW c g s w σ aK m) g1 (⟨[],aK,m⟩:St).fs ⟨#[],[]⟩ w/\(∀ k,Qm (qW c g s w σ aK m) g1 (⟨[],aK,m⟩:St).fs k->Qm c g s k):=by
 let g1:Nat->GM:=fun b=>if b<m then (if g (σ b)=.un then .ph else g (σ b)) else .un
 have iR:∀ b,b<m->g (σ b)≠.un->g (σ b)=g1 b:=fun b hb h=>by simp only[g1,am hb,aa h]
 have jk:∀ b,m<=b->g1 b=.un:=fun b hb=>by simp only[g1];rw[aa af]
 have cb:∀ b,b<m->g1 b≠.un:=fun b hb=>by
  simp only[g1,am hb];split
  ·intro h;cases h
  ·assumption
 have dG:∀ b,(Qc aK m b).live->b<m/\(s.H (σ b)).live/\g1 b=g (σ b):=fun b hl=>by
  obtain ⟨p,hp,rfl,e⟩:=Uy hl;obtain ⟨h1,h2,h3⟩:=fit.mem p hp;have dG:(s.H (σ p.1)).live:=by rw[h3,BP];exact Xb h2
  refine ⟨h1,dG,(iR _ h1 fun e=>?_).symm⟩;have:=hR.h (σ p.1);rw[e]at this;generalize s.H (σ p.1)=x at this dG;exact this.gE dG
 have hW:∀ k,Qm (qW c g s w σ aK m) g1 (⟨[],aK,m⟩:St).fs k->Qm c g s k:=by
  rintro k (h|⟨b,h1,h2⟩)
  ·exact h.1
  ·obtain ⟨_,h4,h5⟩:=dG b h1;exact .inr ⟨σ b,h4,by rw[<- h5];exact h2⟩
 refine ⟨g1,iR,⟨rfl,rfl,fun i=>.any _,fun i=>(hR.gl i).mono (Fr.refl w _) (fun k _=>hW k) (fun _ _=>rfl),fun b=>?_,fun b b' k h1 h2 e1 e2=>?_,fun b k h1 e1=>?_,Fr.refl _ _,fun k hk=>⟨?_,hk.2⟩,fun p hp=>by cases hp⟩,hW⟩
 ·show BR g1 _ w _ (Qc aK m b);rcases Jh aK m b with h|⟨p,h1,rfl,h3⟩
  ·rw[h];split
   ·rename_i hb;exact .dead (cb b hb)
   ·rename_i hb;rw[jk b af];exact .free
  ·rw[h3];obtain ⟨q1,q2,q3⟩:=fit.mem p h1;obtain ⟨_,_,e5⟩:=dG p.1 (by rw[h3];exact Xb q2);rw[e5];have ez:=hR.h (σ p.1);rw[q3]at ez;exact ez.jr iR q2 hW
 ·obtain ⟨p1,DX,rfl,_⟩:=Uy h1;obtain ⟨p2,fe,rfl,_⟩:=Uy h2;obtain ⟨_,l1,d1⟩:=dG _ h1;obtain ⟨_,l2,d2⟩:=dG _ h2;exact fit.inj p1 DX p2 fe (hR.inj _ _ k l1 l2 (by rw[<- d1];exact e1) (by rw[<- d2];exact e2))
 ·obtain ⟨_,l1,d1⟩:=dG _ h1;exact .inr ⟨b,h1,by rw[<- d1];exact e1⟩
 ·rcases hk.1 with h|⟨b',hl,fF⟩
  ·have:=(hR.xs k h).1;have:=hR.fr.size;show k<w.heap.size;omega
  ·exact BR.lt (fF ▸ hR.h b') hl
def dC (h:List (Nat×Bk))(n:Nat):FS:=(⟨[],h,n⟩:St).fs
def GS (P:Program)(gl:Nat->AV)(f:FuncId)(args:List AV)(aK:List (Nat×Bk))(m:Nat)(r:AV)(ax:List (Nat×Bk))(n:Nat):Prop :=
 BQ P f∧∀ (w:World) (vs:List Value) (G X:Nat→Prop) (g:Nat→GM),R ⟨0,w,G,X,gl,[]⟩ g (dC aK m) ⟨#[],[]⟩ w→bR g (Qm ⟨0,w,G,X,gl,[]⟩ g (dC aK m)) w args vs →
  Calls P f vs.toArray w fun e w'=>∃ v g',e=.returned v/\R ⟨0,w,G,X,gl,[]⟩ g' (dC ax n) ⟨#[],[]⟩ w'/\(∀ b,b<m->g' b=g b)/\VR g' (Qm ⟨0,w,G,X,gl,[]⟩ g' (dC ax n)) w' r v
def IB (m:Nat)(rs:List RS)(r:AV)(ax:List (Nat×Bk))(n:Nat):EX->St->Prop
 | .exit _,_=>False
 | _,s=>Ue s.fs rs/\∃ ρ,rN m ρ n/\Sub (rl ρ) ⟨[(0,iy s.fs rs)],s.h,s.n⟩ ⟨[(0,r)],ax,n⟩
def NN {w:World}{vs:List Value}{args:List AV}{N:Nat}(hN:args.length<=N){G X:Nat->Prop}{gl:Nat->AV}{g:Nat->GM}{aK:List (Nat×Bk)}{m:Nat}{gh:List (Nat×GM)}(hR:R ⟨0,w,G,X,gl,[]⟩ g (dC aK m) ⟨#[],[]⟩ w)
  (hv:bR g (Qm ⟨0,w,G,X,gl,[]⟩ g (dC aK m)) w args vs) (js:∀ p ∈ gh,g p.1=p.2/\p.2≠.un) :
  R ⟨N,w,G,X,gl,gh⟩ g (⟨kJ 0 args,aK,m⟩:St).fs { tmps:=vs.toArray++Array.replicate (N-vs.toArray.size) undef,defers:=[] } w:=by
 have hl:=hv.length;refine ⟨by simp;omega,rfl,fun i=>?_,hR.gl,hR.h,hR.inj,hR.old,hR.fr,hR.xs,js⟩;show VR g _ w (look (kJ 0 args) i) _;rw[Nf];split
 ·rename_i h;have hi:i < vs.length:=by omega
  have:=hv.get i af;have e:(vs.toArray++Array.replicate (N-vs.toArray.size) undef).getD i undef=vs.getD i undef:=by
   simp only[Array.getD_eq_getD_getElem?,List.getD];rw[Array.getElem?_append_left (by simpa using hi)];simp
  rw[e];have h2:VR g (Qm ⟨0,w,G,X,gl,[]⟩ g (dC aK m)) w (args.getD (i-0) .any) (vs.getD i undef):=by simpa using this
  exact h2
 ·exact .any _
def Xz4 {gl : Nat -> AV} {f : FuncId} {fn : Func} {code : Code} {t : TC} {rs : List RS} {args : List AV} {aK ax : List (Nat×Bk)} {m n : Nat} {r : AV} (hm : P.follows .mixedOrders = true) (hf : P.funcs[f]? = some fn) (hb : fn.body = some code) (fq : (fn.name == "runtime.NumGoroutine") = false)
  (he:Jq P fn.ntmps code=some t) (hr:qb P fn.results.toList=some rs) (hN:args.length<=fn.ntmps) (aO:∀ p ∈ aK,p.2.live)
  (h:∀ c:Cx,(∀ p ∈ c.gh,p.1<m)->c.gl=gl->xw P c t (IB m rs r ax n) ⟨kJ 0 args,aK,m⟩):GS P gl f args aK m r ax n:=by
 refine ⟨⟨fn,hf,by rw[hb];rfl,fq⟩,fun w vs G X g l8 hv=>?_⟩;refine calls_of_wp hf hb ?_;have kA:∀ b,b<m->g b≠.un:=fun b jP e=>by
  have:=l8.h b;rw[e]at this;have hh:(dC aK m).H b=Qc aK m b:=rfl;rw[hh]at this;rcases Jh aK m b with q|⟨p,hp,_,q⟩
  ·rw[q,am jP]at this;cases this;rename_i h;exact h rfl
  ·rw[q]at this;have hl:=aO p hp;cases hx:p.2 with
   | free=>rw[hx]at hl;exact hl.elim
   | dead=>rw[hx]at hl;exact hl.elim
   | cells cs=>rw[hx]at this;cases this
   | az kvs dn=>rw[hx]at this;cases this
   | bp kvs bs ck=>rw[hx]at this;cases this
   | iter b0 ck seen=>rw[hx]at this;cases this
   | dK ls=>rw[hx]at this;cases this with|dK _ h=>cases h
 have js:∀ p ∈ (List.range m).map (fun b=>(b,g b)),g p.1=p.2/\p.2≠.un:=fun p hp=>by
  obtain ⟨b,jP,rfl⟩:=mem_map.1 hp;exact ⟨rfl,kA b (mem_range.1 jP)⟩
 have bf:∀ p ∈ (List.range m).map (fun b=>(b,g b)),p.1<m:=fun p hp=>by
  obtain ⟨b,jP,rfl⟩:=mem_map.1 hp;exact mem_range.1 jP
 have hR:=NN (N:=fn.ntmps) hN l8 hv js;have:=yX (c:=⟨fn.ntmps,w,G,X,gl,(List.range m).map (fun b=>(b,g b))⟩) hm code t _ _ he (h _ bf rfl) _ _ _ hR;refine wp_mono this fun e a' w' hq=>?_
 have fin:∀ (g1:Nat→GM) (s:St),R ⟨fn.ntmps,w,G,X,gl,(List.range m).map (fun b=>(b,g b))⟩ g1 s.fs a' w'→(Ue s.fs rs∧∃ ρ,rN m ρ n∧Sub (rl ρ) ⟨[(0,iy s.fs rs)],s.h,s.n⟩ ⟨[(0,r)],ax,n⟩) →
   a'.defers=[]/\∃ v,(results fn a'.tmps).run P w'=.ok v w'/\(∃ rO g',Ending.returned v=.returned rO/\R ⟨0,w,G,X,gl,[]⟩ g' (dC ax n) ⟨#[],[]⟩ w'/\(∀ b,b<m->g' b=g b)/\VR g' (Qm ⟨0,w,G,X,gl,[]⟩ g' (dC ax n)) w' r rO):=by
  intro g1 s bc ⟨h1,ρ,h2,h3⟩;obtain ⟨v,h4,h5⟩:=Ii bc hr h1;refine ⟨bc.ew,v,h4,v,?_⟩;have gp:R ⟨1,w,G,X,gl,(List.range m).map (fun b=>(b,g b))⟩ g1 (⟨[(0,iy s.fs rs)],s.h,s.n⟩:St).fs ⟨#[v],[]⟩ w':=by
   refine ⟨rfl,rfl,fun i=>?_,bc.gl,bc.h,bc.inj,bc.old,bc.fr,bc.xs,bc.jj⟩;show VR g1 _ w' (look [(0,iy s.fs rs)] i) _;rw[Jk];split
   ·rename_i hi;subst hi;exact h5
   ·exact .any _
  obtain ⟨g2,cq⟩:=h3.to gp (Nd bf h2);refine ⟨g2,rfl,⟨rfl,rfl,fun i=>.any _,cq.gl,cq.h,cq.inj,cq.old,cq.fr,cq.xs,fun p hp=>by cases hp⟩,fun b hb=>?_,?_⟩
  ·exact (cq.jj (b,g b) (mem_map.2 ⟨b,mem_range.2 hb,rfl⟩)).1
  ·exact cq.t 0
 cases e with
 | normal=>obtain ⟨g,s,bc,dd⟩:=hq;exact fin g s bc dd
 | ret=>obtain ⟨g,s,bc,dd⟩:=hq;exact fin g s bc dd
 | exit i=>obtain ⟨g,s,bc,dd⟩:=hq;exact dd.elim
 | goto l=>exact hq.elim
 | panic ch=>exact hq.elim
 | outgrown=>exact hq.elim
def tK (σ:Nat->Nat):Bk->Bk
 | .dead=>.dead
 | x=>Qw σ x
def BR.bv {σ:Nat->Nat}{n:Nat}(hg:∀ b,b<n->g' (σ b)=g b){mm:GM}{x:Bk}(h:BR g W w mm x)(hn:bV n x)(hW:∀ k,W' k->W k):BR g' W' w mm (Qw σ x):=by
 have fwd:∀ {v u},Qe n v->VR g W w v u->VR g' W' w (aA σ v) u:=fun hn h=>(h.bv (ρ:=σ) (g:=g') hg hn).mono (Fr.refl w W) (fun k _=>hW k) (fun _ _=>rfl);cases h with
 | free=>exact hn.elim
 | dead h=>exact hn.elim
 | ph=>simp only[Qw,ay];exact .ph
 | cells hb hl h1 hv hz =>
  simp only[Qw,bV]at hn ⊢;refine .cells hb (by rw[Yp];exact hl) (by rw[Yp];exact h1) (fun j hj=>?_) hz;rw[Yp]at hj;rw[Kt];exact fwd (Zz hn j) (hv j hj)
 | az hb hs ji hv hc ha hd =>
  rename_i k kvs dn es clock;simp only[Qw,bV]at hn ⊢;have aY:∀ j,j<kvs.length->(kvs.map fun p=>(aA σ p.1,aA σ p.2)).getD j (.any,.any)=(aA σ (kvs.getD j (.any,.any)).1,aA σ (kvs.getD j (.any,.any)).2):=fun j hj=>by simp[List.getD,hj]
  have bN:∀ j,j<kvs.length->kvs.getD j (.any,.any) ∈ kvs:=fun j hj=>by simp[List.getD,hj]
  refine .az hb (by rw[length_map];exact hs) (fun j hj=>?_) (fun j hj=>?_) hc ha hd
  ·rw[length_map]at hj;rw[aY j hj];exact fwd (hn _ (bN j hj)).1 (ji j hj)
  ·rw[length_map]at hj;rw[aY j hj];exact fwd (hn _ (bN j hj)).2 (hv j hj)
 | bp hb hs ji hv hc ha hd =>
  rename_i k kvs bs es clock;simp only[Qw,bV]at hn ⊢;have aY:∀ j,j<kvs.length->(kvs.map fun p=>(aA σ p.1,aA σ p.2)).getD j (.any,.any)=(aA σ (kvs.getD j (.any,.any)).1,aA σ (kvs.getD j (.any,.any)).2):=fun j hj=>by simp[List.getD,hj]
  have bN:∀ j,j<kvs.length->kvs.getD j (.any,.any) ∈ kvs:=fun j hj=>by simp[List.getD,hj]
  refine .bp hb (by rw[length_map];exact hs) (fun j hj=>?_) (fun j hj=>?_) hc ha hd
  ·rw[length_map]at hj;rw[aY j hj];exact fwd (hn _ (bN j hj)).1 (ji j hj)
  ·rw[length_map]at hj;rw[aY j hj];exact fwd (hn _ (bN j hj)).2 (hv j hj)
 | iter hb lU =>
  simp only[Qw,bV]at hn ⊢;exact .iter hb (by rw[hg _ hn];exact lU)
 | dK hp h=>exact BR.kH (.dK hp h) hn hW
structure ze (σ:Nat->Nat)(s s3:FS)(ax:List (Nat×Bk))(n:Nat):Prop where
 T:∀ i,s3.T i=s.T i
 H:∀ b,b<n->s3.H (σ b)=tK σ (Qc ax n b)
 rest:∀ j,(∀ b,b<n->σ b≠j)->s3.H j=s.H j
open Classical in
noncomputable def Kb (g g2:Nat->GM)(σ:Nat->Nat)(n:Nat)(j:Nat):GM:=if h:∃ b,b<n/\σ b=j then g2 h.choose else g j
def VU {σ:Nat->Nat}{aK ax:List (Nat×Bk)}{m n:Nat}{s3:FS}{g1 g2:Nat->GM}(hR:R c g s a w)(fit:Fit σ s aK m)(rT:∀ b,b<m->∃ p ∈ aK,p.1=b)(zf:m<=n)(ct:∀ b b',b<n->b'<n->σ b=σ b'->b=b')(cf:∀ b,m<=b->b<n->s.H (σ b)=.free)
  (ik:∀ p ∈ ax,bV n p.2) (hlt:∀ p ∈ ax,p.1<n) (iR:∀ b,b<m->g (σ b)≠.un->g (σ b)=g1 b) (oX:∀ b,b<m->g2 b=g1 b) (cq:R (qW c g s w σ aK m) g2 (dC ax n) ⟨#[],[]⟩ w') (hb:ze σ s s3 ax n) :
  R c (Kb g g2 σ n) s3 a w'/\∀ {r:AV} {v:Value},Qe n r->VR g2 (Qm (qW c g s w σ aK m) g2 (dC ax n)) w' r v->VR (Kb g g2 σ n) (Qm c (Kb g g2 σ n) s3) w' (aA σ r) v:=by
 have gs:∀ b,b<n->Kb g g2 σ n (σ b)=g2 b:=fun b dH=>by
  unfold Kb;have hex:∃ b',b'<n/\σ b'=σ b:=⟨b,dH,rfl⟩
  rw[dif_pos hex];rw[ct _ _ hex.choose_spec.1 dH hex.choose_spec.2]
 have go:∀ j,(∀ b,b<n->σ b≠j)->Kb g g2 σ n j=g j:=fun j h=>by
  unfold Kb;rw[dif_neg];rintro ⟨b,h1,h2⟩;exact h b h1 h2
 have named:∀ b,b<m->g (σ b)≠.un:=fun b jP e=>by
  obtain ⟨p,hp,rfl⟩:=rT b jP;obtain ⟨_,q2,q3⟩:=fit.mem p hp;have:=hR.h (σ p.1);rw[e,q3]at this;have hl:(Qw σ p.2).live:=BP.2 (Xb q2);generalize Qw σ p.2=x at this hl;exact this.gE hl
 have gm:∀ b,b<m->g2 b=g (σ b):=fun b jP=>by rw[oX b jP,<- iR b jP (named b jP)]
 have gk:∀ j,g j≠.un->Kb g g2 σ n j=g j:=fun j hj=>by
  by_cases h:∃ b,b<n/\σ b=j
  ·obtain ⟨b,dH,rfl⟩:=h;rw[gs b dH];by_cases jP:b < m
   ·exact gm b jP
   ·have:=hR.h (σ b);rw[cf b af dH]at this;generalize g (σ b)=x at this hj;cases this;exact (hj rfl).elim
  ·exact go j fun b h1 h2=>h ⟨b,h1,h2⟩
 have oxa:∀ b,(Qc ax n b).live->b<n:=fun b hl=>by
  obtain ⟨p,hp,rfl,_⟩:=Uy hl;exact hlt p hp
 have lin:∀ b,(Qc aK m b).live->b<m:=fun b hl=>by
  obtain ⟨p,hp,rfl,_⟩:=Uy hl;exact (fit.mem p hp).1
 have rU:∀ b,(Qc aK m b).live->(s.H (σ b)).live:=fun b hl=>by
  obtain ⟨p,hp,rfl,_⟩:=Uy hl;obtain ⟨_,q2,q3⟩:=fit.mem p hp;rw[q3,BP];exact Xb q2
 have dq:∀ j,(s3.H j).live->(∃ b,b<n/\σ b=j/\(Qc ax n b).live)\/((∀ b,b<n->σ b≠j)/\(s.H j).live):=fun j hl=>by
  by_cases h:∃ b,b<n/\σ b=j
  ·obtain ⟨b,dH,rfl⟩:=h;rw[hb.H b dH]at hl;refine .inl ⟨b,dH,rfl,?_⟩;cases hx:Qc ax n b with
   | free=>rw[hx]at hl;exact hl.elim
   | dead=>rw[hx]at hl;exact hl.elim
   | cells cs=>trivial
   | az kvs dn=>trivial
   | bp kvs bs ck=>trivial
   | iter b0 ck seen=>trivial
   | dK ls=>trivial
  ·have br:∀ b,b<n->σ b≠j:=fun b h1 h2=>h ⟨b,h1,h2⟩;rw[hb.rest j br]at hl;exact .inr ⟨br,hl⟩
 -- memory of a block yN comes back
 have gG:∀ b k,(Qc ax n b).live->g2 b=.re k->w.heap.size<=k\/∃ b0,(Qc aK m b0).live/\g (σ b0)=.re k:=fun b k hl hk=>cq.old b k hl hk;have hf:Fr w w' (rS g σ aK m):=cq.fr;have Ca:∀ k,rS g σ aK m k->Qm c g s k:=fun k ⟨b,h1,h2⟩=>.inr ⟨σ b,rU b h1,h2⟩;have rV:Fr w w' (Qm c g s):=hf.weak Ca;have tL:∀ j k,(∀ b,b<n->σ b≠j)->(s.H j).live->g j=.re k->¬ rS g σ aK m k:=fun j k h1 h2 h3 ⟨b,q1,q2⟩ =>
  h1 b (Nat.lt_of_lt_of_le (lin b q1) zf) (hR.inj (σ b) j k (rU b q1) h2 q2 h3)
 have qd:∀ k,k<w.heap.size->Qm c (Kb g g2 σ n) s3 k->Qm c g s k:=by
  rintro k hk (h|⟨j,h1,h2⟩)
  ·exact .inl h
  ·rcases dq j h1 with ⟨b,dH,rfl,hl⟩|⟨br,hl⟩
   ·rw[gs b dH]at h2;rcases gG b k hl h2 with h|⟨b0,q1,q2⟩
    ·omega
    ·exact Ca k ⟨b0,q1,q2⟩
   ·rw[go j br]at h2;exact .inr ⟨j,hl,h2⟩
 have qe:∀ k,Qm c (Kb g g2 σ n) s3 k->Qm (qW c g s w σ aK m) g2 (dC ax n) k:=by
  rintro k (h|⟨j,h1,h2⟩)
  ·refine .inl ⟨.inl h,fun ⟨b,q1,q2⟩=>?_⟩;obtain ⟨x1,x2⟩:=hR.xs k h;rcases hR.old (σ b) k (rU b q1) q2 with h|h
   ·omega
   ·exact x2 h
  ·rcases dq j h1 with ⟨b,dH,rfl,hl⟩|⟨br,hl⟩
   ·rw[gs b dH]at h2;exact .inr ⟨b,hl,h2⟩
   ·rw[go j br]at h2;exact .inl ⟨.inr ⟨j,hl,h2⟩,tL j k br hl h2⟩
 refine ⟨⟨hR.size,hR.ew,fun i=>?_,fun i=>(hR.gl i).mono rV qd (fun _ _=>rfl),fun j=>?_,fun j j' k h1 h2 e1 e2=>?_,fun j k h1 e1=>?_,hR.fr.trans hf fun k hk ⟨b,q1,q2⟩=>?_,hR.xs,fun p hp=>?_⟩,fun {r v} hn hv=>?_⟩
 ·rw[hb.T];exact (hR.t i).mono rV qd gk
 ·by_cases h:∃ b,b < n∧σ b=j
  ·obtain ⟨b,dH,rfl⟩:=h;rw[hb.H b dH,gs b dH];have ez:=cq.h b;have e:(dC ax n).H b=Qc ax n b:=rfl;rw[e]at ez;rcases Jh ax n b with q|⟨p,hp,_,q⟩
   ·rw[q,am dH]at ez ⊢;generalize g2 b=x at ez ⊢;cases ez with
    | dead h=>exact .dead h
   ·rw[q]at ez ⊢;have pV:=ik p hp;have:tK σ p.2=Qw σ p.2:=by
     cases hx:p.2<;>first|rfl|(rw[hx]at pV;exact pV.elim)
    rw[this];exact ez.bv (g':=Kb g g2 σ n) gs pV qe
  ·have br:∀ b,b<n->σ b≠j:=fun b h1 h2=>h ⟨b,h1,h2⟩;rw[hb.rest j br,go j br];refine (hR.h j).mono rV qd gk fun k hk hl=>hf.ig k ?_ (tL j k br hl hk);exact BR.lt (hk ▸ hR.h j) hl
 ·rcases dq j h1 with ⟨b,dH,rfl,hl⟩|⟨br,hl⟩<;>rcases dq j' h2 with ⟨b',Eg,rfl,lX⟩|⟨n6,lX⟩
  ·rw[gs b dH]at e1;rw[gs b' Eg]at e2;rw[cq.inj b b' k hl lX e1 e2]
  ·rw[gs b dH]at e1;rw[go j' n6]at e2;have hlt:=BR.lt (e2 ▸ hR.h j') lX;rcases gG b k hl e1 with h|hG
   ·omega
   ·exact (tL j' k n6 lX e2 hG).elim
  ·rw[gs b' Eg]at e2;rw[go j br]at e1;have hlt:=BR.lt (e1 ▸ hR.h j) hl;rcases gG b' k lX e2 with h|hG
   ·omega
   ·exact (tL j k br hl e1 hG).elim
  ·rw[go j br]at e1;rw[go j' n6]at e2;exact hR.inj j j' k hl lX e1 e2
 ·rcases dq j h1 with ⟨b,dH,rfl,hl⟩|⟨br,hl⟩
  ·rw[gs b dH]at e1;rcases gG b k hl e1 with h|⟨b0,q1,q2⟩
   ·have:=hR.fr.size;exact .inl af
   ·exact hR.old (σ b0) k (rU b0 q1) q2
  ·rw[go j br]at e1;exact hR.old j k hl e1
 ·rcases hR.old (σ b) k (rU b q1) q2 with h|h
  ·omega
  ·exact h
 ·obtain ⟨q1,q2⟩:=hR.jj p hp;exact ⟨by rw[gk p.1 (by rw[q1];exact q2),q1],q2⟩
 ·exact (hv.bv (ρ:=σ) (g:=Kb g g2 σ n) gs hn).mono (Fr.refl _ _) (fun k _=>qe k) (fun _ _=>rfl)
end
def sg (ins:List Nat)(m n0:Nat)(b:Nat):Nat:=if b<m then ins.getD b 0 else n0+(b-m)
def Eh (σ:Nat->Nat)(s:FS)(m:Nat):List (Nat×Bk)->Prop
 | []=>True
 | (b,x)::r=>b<m/\bV m x/\s.H (σ b)=Qw σ x/\Eh σ s m r
def Cb:List Nat->Bool
 | []=>true
 | x::r=>r.all (fun y=>!(Nat.beq x y))&&Cb r
def zg (ins:List Nat)(m n0:Nat):Bool:=(ins.length==m)&&Cb ins&&ins.all (fun j=>decide (j<n0))
def Ei (s:FS):List Nat->Prop
 | []=>True
 | j::r=>s.H j=.free/\Ei s r
def Ej (n:Nat):List (Nat×Bk)->Prop
 | []=>True
 | (b,x)::r=>b<n/\bV n x/\Ej n r
def Cc (n0:Nat):Nat->List Nat
 | 0=>[]
 | k+1=>Cc n0 k++[n0+k]
def j0 (n0 m n:Nat):List Nat:=Cc n0 (n-m)
def uZ {n0 j:Nat}:∀ {k:Nat},j ∈ Cc n0 k ↔ ∃ i,i<k/\n0+i=j
 | 0=>by simp[Cc]
 | k+1=>by
  simp only[Cc,mem_append,uZ (k:=k),mem_singleton];constructor
  ·rintro (⟨i,h,rfl⟩|rfl)
   ·exact ⟨i,by omega,rfl⟩
   ·exact ⟨k,by omega,rfl⟩
  ·rintro ⟨i,h,rfl⟩;by_cases hk:i=k
   ·subst hk;exact .inr rfl
   ·exact .inl ⟨i,by omega,rfl⟩
def idx:List (Nat×Bk)->List Nat
 | []=>[]
 | p::r=>p.1::idx r
def upto:Nat->List Nat
 | 0=>[]
 | n+1=>upto n++[n]
structure mg (s:FS)(n0:Nat)(ins:List Nat)(args:List AV)(aK:List (Nat×Bk))(m:Nat)(r:AV)(ax:List (Nat×Bk))(n:Nat):Prop where
 fit:Eh (sg ins m n0) s m aK
 mh:idx aK=upto m
 ins:zg ins m n0=true
 free:Ei s (j0 n0 m n)
 out:Ej n ax
 le:m<=n
 nr:Qe n r
 na:ah m args
def NO {σ:Nat->Nat}{s:FS}{m:Nat}:∀ {h:List (Nat×Bk)},Eh σ s m h->∀ p ∈ h,p.1<m/\bV m p.2/\s.H (σ p.1)=Qw σ p.2
 | [],_,p,hp=>by cases hp
 | (b,x)::r,h,p,hp=>by
  rcases mem_cons.1 hp with rfl|hp
  ·exact ⟨h.1,h.2.1,h.2.2.1⟩
  ·exact NO h.2.2.2 p hp
def IC {n:Nat}:∀ {h:List (Nat×Bk)},Ej n h->∀ p ∈ h,p.1<n/\bV n p.2
 | [],_,p,hp=>by cases hp
 | (b,x)::r,h,p,hp=>by
  rcases mem_cons.1 hp with rfl|hp
  ·exact ⟨h.1,h.2.1⟩
  ·exact IC h.2.2 p hp
def NP {s:FS}:∀ {l:List Nat},Ei s l->∀ j ∈ l,s.H j=.free
 | [],_,j,hj=>by cases hj
 | x::l,h,j,hj=>by
  rcases mem_cons.1 hj with rfl|hj
  ·exact h.1
  ·exact NP h.2 j hj
def NQ:∀ h:List (Nat×Bk),idx h=h.map (·.1)
 | []=>rfl
 | p::r=>by simp[idx,NQ r]
def NR:∀ {n b:Nat},b ∈ upto n ↔ b<n
 | 0,b=>by simp[upto]
 | n+1,b=>by simp[upto,NR (n:=n)];omega
def NT:∀ {l:List Nat},Cb l=true->∀ i j,i<l.length->j<l.length->l.getD i 0=l.getD j 0->i=j
 | [],_,i,j,hi,_,_=>by simp at hi
 | x::l,h,i,j,hi,hj,e=>by
  simp only[Cb,Bool.and_eq_true]at h;have bl:∀ y ∈ l,x≠y:=fun y hy exy=>by
   have:=List.all_eq_true.1 h.1 y hy;subst exy;simp at this
  have bN:∀ k,k<l.length->l.getD k 0 ∈ l:=fun k hk=>by simp only[List.getD,getElem?_eq_getElem hk,Option.getD_some];exact getElem_mem hk
  cases i with
  | zero =>
   cases j with
   | zero=>rfl
   | succ j=>simp only[List.getD_cons_zero,List.getD_cons_succ]at e;exact (bl _ (bN j (by simpa using hj)) e).elim
  | succ i =>
   cases j with
   | zero=>simp only[List.getD_cons_zero,List.getD_cons_succ]at e;exact (bl _ (bN i (by simpa using hi)) e.symm).elim
   | succ j=>simp only[List.getD_cons_succ]at e;rw[NT h.2 i j (by simpa using hi) (by simpa using hj) e]
def NU {ins:List Nat}{m n0:Nat}(h:zg ins m n0=true){b b':Nat}(e:sg ins m n0 b=sg ins m n0 b'):b=b':=by
 simp only[zg,Bool.and_eq_true,beq_iff_eq,List.all_eq_true,decide_eq_true_eq]at h;obtain ⟨⟨h1,h2⟩,h3⟩:=h;have bN:∀ k,k<m->ins.getD k 0<n0:=fun k hk=>h3 _ (by simp only[List.getD,getElem?_eq_getElem (show k<ins.length by omega),Option.getD_some];exact getElem_mem _);unfold sg at e;split at e<;>split at e
 ·exact NT h2 b b' af af e
 ·rename_i x y;have:=bN b x;omega
 ·rename_i x y;have:=bN b' y;omega
 ·omega
section
variable {P:Program}{c:Cx}
def dm (σ:Nat->Nat)(ax:List (Nat×Bk))(n:Nat):Nat->List (Nat×Bk)
 | 0=>[]
 | k+1=>(σ k,tK σ (Qc ax n k))::dm σ ax n k
def ml (s:St)(d:Option Nat)(ins:List Nat)(m:Nat)(r:AV)(ax:List (Nat×Bk))(n:Nat):St :=
 St.cd ⟨s.t,dm (sg ins m s.n) ax n n++s.h,s.n+(n-m)⟩ d (aA (sg ins m s.n) r)
def va (s:St)(d:Option Nat)(xs:List TV)(ins:List Nat)(m n:Nat):bg:=⟨Xf xs,ins++j0 s.n m n,d.toList,ins++j0 s.n m n⟩
def ID (h h2:List (Nat×Bk))(n j:Nat):(∃ p ∈ h,p.1=j)/\(∃ p ∈ h,p.1=j/\Qc (h++h2) n j=p.2)\/(∀ p ∈ h,p.1≠j)/\Qc (h++h2) n j=Qc h2 n j:=by
 induction h with
 | nil=>right;exact ⟨fun p hp=>(by cases hp),rfl⟩
 | cons p r ih =>
  obtain ⟨i,x⟩:=p;rw[List.cons_append,Qf];by_cases hi:i=j
  ·left;rw[am hi];exact ⟨⟨(i,x),by simp,hi⟩,(i,x),by simp,hi,rfl⟩
  ·rw[aa hi];rcases ih with ⟨⟨p,hp,e⟩,q,hq,e1,e2⟩|⟨h1,h2⟩
   ·exact .inl ⟨⟨p,by simp[hp],e⟩,q,by simp[hq],e1,e2⟩
   ·refine .inr ⟨fun p hp=>?_,h2⟩;rcases mem_cons.1 hp with rfl|hp
    ·exact hi
    ·exact h1 p hp
def zj {σ:Nat->Nat}{ax:List (Nat×Bk)}{n:Nat}:∀ {k:Nat} {p:Nat×Bk},p ∈ dm σ ax n k ↔ ∃ b,b<k/\p=(σ b,tK σ (Qc ax n b))
 | 0,p=>by simp[dm]
 | k+1,p=>by
  simp only[dm,mem_cons,zj (k:=k)];constructor
  ·rintro (rfl|⟨b,hb,rfl⟩)
   ·exact ⟨k,by omega,rfl⟩
   ·exact ⟨b,by omega,rfl⟩
  ·rintro ⟨b,hb,rfl⟩;by_cases h:b=k
   ·subst h;exact .inl rfl
   ·exact .inr ⟨b,by omega,rfl⟩
def Ek {σ:Nat->Nat}{m:Nat}{g g1:Nat->GM}{W W':Nat->Prop}{w:World}(hg:∀ b,b<m->g (σ b)≠.un->g (σ b)=g1 b)(hW:∀ k,W' k->W k):∀ {args:List AV} {vs:List Value},ah m args->bR g W w (ay σ args) vs->bR g1 W' w args vs
 | [],[],_,_=>trivial
 | x::xs,v::vs,hn,h=>by
  rw[Zd,map_cons,<- Zd]at h;exact ⟨(h.1.jr hg x rfl hn.1).mono (Fr.refl _ _) (fun k _=>hW k) (fun _ _=>rfl),Ek hg hW hn.2 h.2⟩
 | [],_::_,_,h=>by rw[Zd]at h;exact h.elim
 | _::_,[],_,h=>by rw[Zd]at h;exact h.elim
def VV {s:St}{d:Option Nat}{f:FuncId}{xs:List TV}{ins:List Nat}{args:List AV}{aK:List (Nat×Bk)}{m:Nat}{r:AV}{ax:List (Nat×Bk)}{n:Nat}(fC:GS P c.gl f args aK m r ax n)(hc:Qq none (aC c.gl s.fs xs))
  (aM:(aC c.gl s.fs xs).map Qh=ay (sg ins m s.n) args) (ok:mg s.fs s.n ins args aK m r ax n):Kn P c (.pd d (.call f) xs none) s.fs (va s d xs ins m n) (ml s d ins m r ax n).fs:=by
 intro ops io he;obtain ⟨aV,a8,hd,ys,aD,rfl⟩:=Zj he;obtain ⟨ts,hop⟩:=BS aD;have tM:∀ b b',b<n->b'<n->sg ins m s.n b=sg ins m s.n b'->b=b':=fun b b' _ _ e=>NU ok.ins e;have hlen:ins.length=m:=by
  have:=ok.ins;simp only[zg,Bool.and_eq_true,beq_iff_eq]at this;exact this.1.1
 -- the names yN are vd
 have ga:∀ b,b<n->sg ins m s.n b ∈ ins++j0 s.n m n:=fun b hb=>by
  unfold sg;split
  ·rename_i h;refine List.mem_append_left _ ?_;simp only[List.getD,getElem?_eq_getElem (show b<ins.length by omega),Option.getD_some];exact getElem_mem _
  ·refine mem_append_right _ ?_;simp only[j0,uZ];exact ⟨b-m,by omega,rfl⟩
 have jq:∀ j,j ∈ ins++j0 s.n m n->∃ b,b<n/\sg ins m s.n b=j:=fun j hj=>by
  rcases mem_append.1 hj with h|h
  ·obtain ⟨i,hi,rfl⟩:=List.getElem_of_mem h;have:=ok.le;refine ⟨i,by omega,?_⟩;unfold sg;rw[am af];simp[List.getD,hi]
  ·simp only[j0,uZ]at h;obtain ⟨i,hi,rfl⟩:=h;exact ⟨m+i,by omega,by unfold sg;rw[aa af];omega⟩
 have rW:∀ j,(ml s d ins m r ax n).fs.H j=Qc (dm (sg ins m s.n) ax n n++s.h) (s.n+(n-m)) j:=fun j=>by cases d<;>rfl
 have n7:∀ i,(ml s d ins m r ax n).fs.T i=match d with|some d=>(if d=i then aA (sg ins m s.n) r else s.fs.T i)|none=>s.fs.T i:=fun i=>by
  cases d with
  | none=>rfl
  | some d=>show look ((d,_)::s.t) i=_;rw[Jk];rfl
 have rX:∀ b,b<n->Qc (dm (sg ins m s.n) ax n n++s.h) (s.n+(n-m)) (sg ins m s.n b)=tK (sg ins m s.n) (Qc ax n b):=fun b hb=>by
  rcases ID (dm (sg ins m s.n) ax n n) s.h (s.n+(n-m)) (sg ins m s.n b) with ⟨_,p,hp,e1,e2⟩|⟨h1,_⟩
  ·obtain ⟨b',bL,rfl⟩:=zj.1 hp;have:=tM b' b bL hb e1;subst this;exact e2
  ·exact (h1 _ (zj.2 ⟨b,hb,rfl⟩) rfl).elim
 have mo:∀ j,j ∉ ins++j0 s.n m n->Qc (dm (sg ins m s.n) ax n n++s.h) (s.n+(n-m)) j=s.fs.H j:=fun j hj=>by
  rcases ID (dm (sg ins m s.n) ax n n) s.h (s.n+(n-m)) j with ⟨⟨p,hp,e⟩,_⟩|⟨_,h2⟩
  ·obtain ⟨b,hb,rfl⟩:=zj.1 hp;exact (hj (e ▸ ga b hb)).elim
  ·rw[h2];show Qc s.h (s.n+(n-m)) j=Qc s.h s.n j;have br:∀ k,k<=n-m->Qc s.h (s.n+k) j=Qc s.h s.n j:=fun k hk=>by
    induction k with
    | zero=>rfl
    | succ k ih =>
     rw[<- ih af];refine Ku s.h (s.n+k) j fun e=>hj ?_;refine mem_append_right _ ?_;simp only[j0,uZ];exact ⟨k,by omega,e.symm⟩
   exact br _ (Nat.le_refl _)
 refine ⟨fun i hi=>?_,fun j hj=>?_,fun s2 hT hH g a w hR K Q' hK=>Za (Ji aV) ?_⟩
 ·rw[n7];cases d with
  | none=>rfl
  | some d=>simp only[va,Option.toList_some,mem_singleton]at hi;simp only;rw[aa fun e=>hi e.symm]
 ·rw[rW];exact mo j hj
 ·have bj:aC c.gl s2 (ys.map aP)=aC c.gl s.fs (ys.map aP):=Ya fun i hi=>hT i hi;have hv:=Yi (hR.ci ys) (by rw[bj];exact hc);rw[bj,aM]at hv;have mr:Fit (sg ins m s.n) s2 aK m:=by
   refine ⟨fun p hp=>?_,fun p hp q hq e=>NU ok.ins e⟩;obtain ⟨q1,q2,q3⟩:=NO ok.fit p hp;exact ⟨q1,q2,by rw[hH _ (ga p.1 (Nat.lt_of_lt_of_le q1 ok.le))];exact q3⟩
  have rT:∀ b,b<m->∃ p ∈ aK,p.1=b:=fun b hb=>by
   have:=NR.2 hb;rw[<- ok.mh,NQ]at this;obtain ⟨p,hp,e⟩:=mem_map.1 this;exact ⟨p,hp,e⟩
  have cf:∀ b,m<=b->b<n->s2.H (sg ins m s.n b)=.free:=fun b h1 h2=>by
   rw[hH _ (ga b h2)];refine NP ok.free _ ?_;unfold sg;rw[aa af];simp only[j0,uZ];exact ⟨b-m,by omega,rfl⟩
  obtain ⟨g1,iR,zn,tN⟩:=IA hR mr;have j7:=Ek (g1:=g1) iR tN ok.na hv;have eB:=fC.2 w _ _ _ g1 zn j7;unfold Oper.wp;rw[BT fC.1 hop];rw[Oper.upon_enter];refine eB.mono fun e w' ⟨v,g2,e1,e2,e3,e4⟩=>?_;subst e1
  let s3:FS:=⟨s2.T,fun j=>if j ∈ ins++j0 s.n m n then (ml s d ins m r ax n).fs.H j else s2.H j⟩
  have hb:ze (sg ins m s.n) s2 s3 ax n:=by
   refine ⟨fun i=>rfl,fun b dH=>?_,fun j hj=>?_⟩
   ·show (if _ then _ else _)=_;rw[am (ga b dH),rW,rX b dH]
   ·show (if _ then _ else _)=_;rw[aa fun h=>?_];obtain ⟨b,dH,rfl⟩:=jq j h;exact hj b dH rfl
  obtain ⟨mw,fS⟩:=VU hR mr rT ok.le tM cf (fun p hp=>(IC ok.out p hp).2) (fun p hp=>(IC ok.out p hp).1) iR e3 e2 hb;have ve:=fS ok.nr e4;show K (a.put io.dst v) w';rw[a8];cases d with
  | none =>
   refine hK (Kb g g2 (sg ins m s.n) n) _ w' ?_;have:dA s2 (ml s none ins m r ax n).fs (va s none (ys.map aP) ins m n)=s3:=by
    refine qc (fun i=>?_) fun j=>rfl;show (if i ∈ ([]:List Nat) then (ml s none ins m r ax n).fs.T i else s2.T i)=s2.T i;simp
   rw[this];exact mw
  | some d =>
   refine hK (Kb g g2 (sg ins m s.n) n) _ w' ?_;have:dA s2 (ml s (some d) ins m r ax n).fs (va s (some d) (ys.map aP) ins m n)=s3.put d (aA (sg ins m s.n) r):=by
    refine qc (fun i=>?_) fun j=>rfl;show (if i ∈ [d] then (ml s (some d) ins m r ax n).fs.T i else s2.T i)=_;rw[FS.dE,n7];by_cases h:d=i
    ·subst h;simp
    ·rw[aa (by simpa using fun e:i=d=>h e.symm),aa h]
   rw[this];exact mw.put (by simpa using hd) ve
def Kk {r0:List bD}{K:St->Prop}{s:St}{d:Option Nat}{f:FuncId}{xs:List TV}{ins:List Nat}{args:List AV}{aK:List (Nat×Bk)}{m:Nat}{r:AV}{ax:List (Nat×Bk)}{n:Nat}(fC:GS P c.gl f args aK m r ax n)
  (aM:(aC c.gl s.fs xs).map Qh=ay (sg ins m s.n) args) (h:Qq none (aC c.gl s.fs xs)/\mg s.fs s.n ins args aK m r ax n/\XP P c r0 K (ml s d ins m r ax n)):Yn P c (.pd d (.call f) xs none) r0 K s :=
 .inl ⟨_,_,VV fC h.1 aM h.2.1,h.2.2⟩
def Jc {anc:List Nat}{fs:List bg}{r0:List bD}{K:St->Prop}{s:St}{d:Option Nat}{f:FuncId}{xs:List TV}{ins:List Nat}{args:List AV}{aK:List (Nat×Bk)}{m:Nat}{r:AV}{ax:List (Nat×Bk)}{n:Nat}(fC:GS P c.gl f args aK m r ax n)
  (aM:(aC c.gl s.fs xs).map Qh=ay (sg ins m s.n) args) (h:Qq none (aC c.gl s.fs xs)/\mg s.fs s.n ins args aK m r ax n/\XD P c anc r0 (va s d xs ins m n::fs) K (ml s d ins m r ax n)):Zm P c anc (.pd d (.call f) xs none) r0 fs K s :=
 ⟨_,_,VV fC h.1 aM h.2.1,h.2.2⟩
end
def FT.gs {P:Program}{gl:Nat->AV}{f:FuncId}{fn:Func}{t:TC}{rs:List RS}(hF:FT P f fn t rs){args:List AV}{aK ax:List (Nat×Bk)}{m n:Nat}{r:AV}(hN:args.length<=fn.ntmps)(aO:∀ p ∈ aK,p.2.live)
  (h:∀ c:Cx,(∀ p ∈ c.gh,p.1<m)->c.gl=gl->xw P c t (IB m rs r ax n) ⟨kJ 0 args,aK,m⟩):GS P gl f args aK m r ax n:=by
 have hc:=hF.code;cases hb:fn.body with
 | none=>rw[hb]at hc;simp at hc
 | some code =>
  rw[hb]at hc;exact Xz4 hF.mixed hF.func hb hF.name hc hF.res hN aO h
theorem Ybl (n0:Nat)(ins:List Nat)(args:List AV)(aK:List (Nat×Bk))(m:Nat)(r:AV)(ax:List (Nat×Bk))(n:Nat):mg s n0 ins args aK m r ax n =
  (Eh (sg ins m n0) s m aK/\idx aK=upto m/\zg ins m n0=true/\Ei s (j0 n0 m n)/\Ej n ax/\m<=n/\Qe n r/\ah m args) :=
 propext ⟨fun h=>⟨h.fit,h.mh,h.ins,h.free,h.out,h.le,h.nr,h.na⟩,fun ⟨a,b,c,d,e,f,g,h⟩=>⟨a,b,c,d,e,f,g,h⟩⟩
theorem Xgi (r:AV)(ax:List (Nat×Bk))(n:Nat)(s:St):IB m rs r ax n .ret s=(Ue s.fs rs/\∃ ρ,rN m ρ n/\Sub (rl ρ) ⟨[(0,iy s.fs rs)],s.h,s.n⟩ ⟨[(0,r)],ax,n⟩):=rfl
theorem Que (r:AV)(ax:List (Nat×Bk))(n:Nat)(s:St):IB m rs r ax n .normal s=(Ue s.fs rs/\∃ ρ,rN m ρ n/\Sub (rl ρ) ⟨[(0,iy s.fs rs)],s.h,s.n⟩ ⟨[(0,r)],ax,n⟩):=rfl
theorem Qq9 {σ:Type}  (I:σ->Prop)(c5:σ->St)(μ:σ->Nat)(x:σ)(Q:EX->St->Prop)(s:St):Ih m I c5 μ x Q .normal s=∃ y,I y/\(∃ ρ,rN m ρ (c5 y).n/\Sub (rl ρ) s (c5 y))/\μ y<μ x:=rfl
theorem Qzg {σ:Type}  (I:σ->Prop)(c5:σ->St)(μ:σ->Nat)(x:σ)(Q:EX->St->Prop)(s:St):Ih m I c5 μ x Q .ret s=Q .ret s:=rfl
theorem Quh {σ:Type}  (I:σ->Prop)(c5:σ->St)(μ:σ->Nat)(x:σ)(Q:EX->St->Prop)(i:Nat)(s:St):Ih m I c5 μ x Q (.exit i) s=Q (.exit i) s:=rfl
def Xhc:rN m [] n=(m<=n):=propext ⟨fun h=>h.2,fun h=>⟨fun p hp=>(by cases hp),h⟩⟩
theorem Xcx (m i j n:Nat)(r:List (Nat×Nat)):rN m ((i,j)::r) n=(m<=i/\rN m r n):=propext ⟨fun h=>⟨h.1 (i,j) (by simp),fun p hp=>h.1 p (by simp[hp]),h.2⟩,fun h=>⟨fun p hp=>by
 rcases mem_cons.1 hp with rfl|hp
 ·exact h.1
 ·exact h.2.1 p hp,h.2.2⟩⟩
theorem Qul:tK σ (.cells cs)=Qw σ (.cells cs):=rfl
theorem Qxr (kvs:List (AV×AV))(dn:Bool):tK σ (.az kvs dn)=Qw σ (.az kvs dn):=rfl
theorem Xae:tK σ .dead=.dead:=rfl
attribute [go_sem] Ybl ml va sg Eh Ej Ei j0 Cc dm idx upto zg Cb Xgi Que Qq9 Qzg Quh Xhc Xcx Qul Qxr Xae List.all_cons List.all_nil
def St.ph (s:St)(d es:Nat):St:=(s.nw (.cells [])).put d (.sl es s.n 0 0 0)
def St.zo (s:St):List (Nat×Nat)->St
 | []=>s
 | (d,es)::r=>(s.ph d es).zo r
def IE (s:St):List (Nat×Nat)->Prop
 | []=>True
 | (d,es)::r=>(s.fs.H s.n=.free/\look s.t d=.nils)/\IE (s.ph d es) r
section
variable {P:Program}{c:Cx}
def R.ph {s:St}{d es:Nat}{g:Nat->GM}{a:Act}{w:World}(hR:R c g s.fs a w)(bq:s.fs.H s.n=.free)(hd:look s.t d=.nils):∃ g',R c g' (s.ph d es).fs a w:=by
 have h1:=R.kL hR bq;refine ⟨Zg g s.n .ph,?_⟩;have e:(s.ph d es).fs=(s.fs.aH s.n (.cells [])).put d (.sl es s.n 0 0 0):=by
  unfold St.ph;rw[St.bS,St.iw]
 rw[e];refine ⟨h1.size,h1.ew,fun i=>?_,h1.gl,h1.h,h1.inj,h1.old,h1.fr,h1.xs,h1.jj⟩;rw[FS.dE];split
 ·rename_i hi;subst hi;have:=hR.t d;have e2:s.fs.T d=.nils:=hd;rw[e2]at this;obtain ⟨ad,h⟩:=DA this;rw[h];exact .kz (by simp[Zg]) rfl
 ·exact h1.t i
def R.zo:∀ {ps:List (Nat×Nat)} {s:St} {g:Nat->GM} {a:Act} {w:World},R c g s.fs a w->IE s ps->∃ g',R c g' (s.zo ps).fs a w
 | [],s,g,a,w,hR,_=>⟨g,hR⟩
 | (d,es)::r,s,g,a,w,hR,h=>by
  obtain ⟨g1,h1⟩:=hR.ph (es:=es) h.1.1 h.1.2;exact R.zo (ps:=r) (s:=s.ph d es) h1 h.2
def Xlj {ps:List (Nat×Nat)}{b:TC}{Q:EX->St->Prop}{s:St}(h0:IE s ps)(h:qS P c b Q (s.zo ps)):qS P c b Q s:=fun code he g a w hR=>by
 obtain ⟨g1,h1⟩:=hR.zo h0;exact h code he g1 a w h1
end
attribute [go_sem] St.ph St.zo IE
section
variable {P:Program}{c:Cx}
def zq (d:Option Nat)(gd:Option (Nat×Bool)):bg:=⟨jU gd,[],d.toList,[]⟩
def VW {s:St}  {k:PK}   (hb:gB s.fs gd=some false)(aS:gn s.fs gd):Kn P c (.pd d k xs gd) s.fs (zq d gd) (s.cd d (.dU false .any)).fs:=by
 intro ops io he;obtain ⟨aV,a8,hd,ys,aD,rfl⟩:=Zj he;have ju:(s.cd d (.dU false .any)).fs=match d with|some d=>s.fs.put d (.dU false .any)|none=>s.fs:=by
  cases d with
  | none=>rfl
  | some d=>exact St.bS _ _ _
 rw[ju];refine ⟨fun i hi=>?_,fun b _=>by cases d<;>rfl,?_⟩
 ·cases d with
  | none=>rfl
  | some d=>show (s.fs.put d _).T i=_;rw[FS.dE,aa (fun e=>hi (by simp[zq,e]))]
 ·intro s2 hT hH g a w hR K Q' hK;have hg:∀ t b,gd=some (t,b)->s2.T t=s.fs.T t:=fun t b e=>hT t (by simp[zq,e,jU]);have jV:gB s2 gd=gB s.fs gd:=by
   cases gd with
   | none=>rfl
   | some p=>obtain ⟨t,b⟩:=p;simp only[gB,hg t b rfl]
  have jW:gn s2 gd:=by
   cases gd with
   | none=>exact aS
   | some p=>obtain ⟨t,b⟩:=p;simpa only[gn,hg t b rfl] using aS
  have m8:K (a.put io.dst undef) w:=by
   rw[a8];cases d with
   | none =>
    refine hK g _ w ?_;have:dA s2 s.fs (zq none gd)=s2:=by unfold dA zq;simp
    simp only[this];exact hR
   | some d =>
    refine hK g _ w ?_;show R c g (dA s2 (s.fs.put d _) ⟨jU gd,[],[d],[]⟩) _ _;rw[yM];exact hR.put (by simpa using hd) (.dU (fun h=>by cases h) fun _=>rfl)
  unfold Uj;rw[wN aV hR jW,jV,hb];simp only[Option.getD_some,Bool.false_eq_true,if_false];exact m8
def w9 {K:St->Prop}{s:St}  {k:PK}   (hb:gB s.fs gd=some false)(aS:gn s.fs gd/\XP P c r0 K (s.cd d (.dU false .any))):Yn P c (.pd d k xs gd) r0 K s :=
 .inl ⟨_,_,VW hb aS.1,aS.2⟩
def xc {fs:List bg}  {K:St->Prop}{s:St}  {k:PK}   (hb:gB s.fs gd=some false)(aS:gn s.fs gd/\XD P c anc r0 (zq d gd::fs) K (s.cd d (.dU false .any))):Zm P c anc (.pd d k xs gd) r0 fs K s :=
 ⟨_,_,VW hb aS.1,aS.2⟩
end
attribute [go_sem] zq
section
variable {P:Program}{c:Cx}
def VX {s s':St}{d:Option Nat}{k:PK}{f:FuncId}{xs:List TV}{σ:Nat->Nat}{args:List AV}{aK:List (Nat×Bk)}{m:Nat}{r:AV}{ax:List (Nat×Bk)}{n:Nat}{N:List Nat}(fC:GS P c.gl f args aK m r ax n)
  (jv:∀ (o:Oper) (ys:List Operand),Xs P o=some (k,ys)->xs=ys.map aP->∀ (s2:FS) (g:Nat->GM) (a:Act) (w:World),(∀ i ∈ Xf xs,s2.T i=s.fs.T i)->R c g s2 a w->∃ vs:List Value,(execOp a.eval o).run P w=.ok (.enter f vs.toArray) w/\bR g (Qm c g s2) w (ay σ args) vs)
  (tM:∀ b b',b<n->b'<n->σ b=σ b'->b=b') (iG:∀ p ∈ aK,p.1<m/\bV m p.2/\s.fs.H (σ p.1)=Qw σ p.2) (rT:∀ b,b<m->∃ p ∈ aK,p.1=b) (hle:m<=n) (bq:∀ b,m<=b->b<n->s.fs.H (σ b)=.free)
  (my:∀ p ∈ ax,p.1<n/\bV n p.2) (NV:Qe n r) (yH:ah m args)
  (xd:∀ b,b<n->σ b ∈ N) (dM:∀ j ∈ N,∃ b,b<n/\σ b=j)
  (n7:∀ i,s'.fs.T i=match d with|some d=>(if d=i then aA σ r else s.fs.T i)|none=>s.fs.T i) (rX:∀ b,b<n->s'.fs.H (σ b)=tK σ (Qc ax n b)) (mo:∀ j,j ∉ N->s'.fs.H j=s.fs.H j):Kn P c (.pd d k xs none) s.fs ⟨Xf xs,N,d.toList,N⟩ s'.fs:=by
 intro ops io he;obtain ⟨aV,a8,hd,ys,aD,rfl⟩:=Zj he;refine ⟨fun i hi=>?_,fun j hj=>mo j hj,fun s2 hT hH g a w hR K Q' hK=>Za (Ji aV) ?_⟩
 ·rw[n7];cases d with
  | none=>rfl
  | some d=>simp only[Option.toList_some,mem_singleton]at hi;simp only;rw[aa fun e=>hi e.symm]
 ·obtain ⟨vs,hrun,hv⟩:=jv io ys aD rfl s2 g a w hT hR;have mr:Fit σ s2 aK m:=by
   refine ⟨fun p hp=>?_,fun p hp q hq e=>tM _ _ (Nat.lt_of_lt_of_le (iG p hp).1 hle) (Nat.lt_of_lt_of_le (iG q hq).1 hle) e⟩;obtain ⟨q1,q2,q3⟩:=iG p hp;exact ⟨q1,q2,by rw[hH _ (xd p.1 (Nat.lt_of_lt_of_le q1 hle))];exact q3⟩
  have cf:∀ b,m<=b->b<n->s2.H (σ b)=.free:=fun b h1 h2=>by
   rw[hH _ (xd b h2)];exact bq b h1 h2
  obtain ⟨g1,iR,zn,tN⟩:=IA hR mr;have j7:=Ek (g1:=g1) iR tN yH hv;have eB:=fC.2 w _ _ _ g1 zn j7;unfold Oper.wp;rw[hrun];rw[Oper.upon_enter];refine eB.mono fun e w' ⟨v,g2,e1,e2,e3,e4⟩=>?_;subst e1
  let s3:FS:=⟨s2.T,fun j=>if j ∈ N then s'.fs.H j else s2.H j⟩
  have hb:ze σ s2 s3 ax n:=by
   refine ⟨fun i=>rfl,fun b dH=>?_,fun j hj=>?_⟩
   ·show (if _ then _ else _)=_;rw[am (xd b dH),rX b dH]
   ·show (if _ then _ else _)=_;rw[aa fun h=>?_];obtain ⟨b,dH,rfl⟩:=dM j h;exact hj b dH rfl
  obtain ⟨mw,fS⟩:=VU hR mr rT hle tM cf (fun p hp=>(my p hp).2) (fun p hp=>(my p hp).1) iR e3 e2 hb;have ve:=fS NV e4;show K (a.put io.dst v) w';rw[a8];cases d with
  | none =>
   refine hK (Kb g g2 σ n) _ w' ?_;have:dA s2 s'.fs ⟨Xf (ys.map aP),N,[],N⟩=s3:=by
    refine qc (fun i=>?_) fun j=>rfl;show (if i ∈ ([]:List Nat) then s'.fs.T i else s2.T i)=s2.T i;simp
   show R c _ (dA s2 s'.fs ⟨Xf (ys.map aP),N,[],N⟩) _ _;rw[this];exact mw
  | some d =>
   refine hK (Kb g g2 σ n) _ w' ?_;have:dA s2 s'.fs ⟨Xf (ys.map aP),N,[d],N⟩=s3.put d (aA σ r):=by
    refine qc (fun i=>?_) fun j=>rfl;show (if i ∈ [d] then s'.fs.T i else s2.T i)=_;rw[FS.dE,n7];by_cases h:d=i
    ·subst h;simp
    ·rw[aa (by simpa using fun e:i=d=>h e.symm),aa h]
   show R c _ (dA s2 s'.fs ⟨Xf (ys.map aP),N,[d],N⟩) _ _;rw[this];exact mw.put (by simpa using hd) ve
def Ydy {s:St}{d:Option Nat}{k:PK}{f:FuncId}{xs:List TV}{ins:List Nat}{args:List AV}{aK:List (Nat×Bk)}{m:Nat}{r:AV}{ax:List (Nat×Bk)}{n:Nat}(fC:GS P c.gl f args aK m r ax n)
  (jv:∀ (o:Oper) (ys:List Operand),Xs P o=some (k,ys)->xs=ys.map aP->∀ (s2:FS) (g:Nat->GM) (a:Act) (w:World),(∀ i ∈ Xf xs,s2.T i=s.fs.T i)->R c g s2 a w->∃ vs:List Value,(execOp a.eval o).run P w=.ok (.enter f vs.toArray) w/\bR g (Qm c g s2) w (ay (sg ins m s.n) args) vs)
  (ok:mg s.fs s.n ins args aK m r ax n):Kn P c (.pd d k xs none) s.fs (va s d xs ins m n) (ml s d ins m r ax n).fs:=by
 have tM:∀ b b',b<n->b'<n->sg ins m s.n b=sg ins m s.n b'->b=b':=fun b b' _ _ e=>NU ok.ins e;have hlen:ins.length=m:=by
  have:=ok.ins;simp only[zg,Bool.and_eq_true,beq_iff_eq]at this;exact this.1.1
 -- the names yN are vd
 have ga:∀ b,b<n->sg ins m s.n b ∈ ins++j0 s.n m n:=fun b hb=>by
  unfold sg;split
  ·rename_i h;refine List.mem_append_left _ ?_;simp only[List.getD,getElem?_eq_getElem (show b<ins.length by omega),Option.getD_some];exact getElem_mem _
  ·refine mem_append_right _ ?_;simp only[j0,uZ];exact ⟨b-m,by omega,rfl⟩
 have jq:∀ j,j ∈ ins++j0 s.n m n->∃ b,b<n/\sg ins m s.n b=j:=fun j hj=>by
  rcases mem_append.1 hj with h|h
  ·obtain ⟨i,hi,rfl⟩:=List.getElem_of_mem h;have:=ok.le;refine ⟨i,by omega,?_⟩;unfold sg;rw[am af];simp[List.getD,hi]
  ·simp only[j0,uZ]at h;obtain ⟨i,hi,rfl⟩:=h;exact ⟨m+i,by omega,by unfold sg;rw[aa af];omega⟩
 have rW:∀ j,(ml s d ins m r ax n).fs.H j=Qc (dm (sg ins m s.n) ax n n++s.h) (s.n+(n-m)) j:=fun j=>by cases d<;>rfl
 have n7:∀ i,(ml s d ins m r ax n).fs.T i=match d with|some d=>(if d=i then aA (sg ins m s.n) r else s.fs.T i)|none=>s.fs.T i:=fun i=>by
  cases d with
  | none=>rfl
  | some d=>show look ((d,_)::s.t) i=_;rw[Jk];rfl
 have rX:∀ b,b<n->Qc (dm (sg ins m s.n) ax n n++s.h) (s.n+(n-m)) (sg ins m s.n b)=tK (sg ins m s.n) (Qc ax n b):=fun b hb=>by
  rcases ID (dm (sg ins m s.n) ax n n) s.h (s.n+(n-m)) (sg ins m s.n b) with ⟨_,p,hp,e1,e2⟩|⟨h1,_⟩
  ·obtain ⟨b',bL,rfl⟩:=zj.1 hp;have:=tM b' b bL hb e1;subst this;exact e2
  ·exact (h1 _ (zj.2 ⟨b,hb,rfl⟩) rfl).elim
 have mo:∀ j,j ∉ ins++j0 s.n m n->Qc (dm (sg ins m s.n) ax n n++s.h) (s.n+(n-m)) j=s.fs.H j:=fun j hj=>by
  rcases ID (dm (sg ins m s.n) ax n n) s.h (s.n+(n-m)) j with ⟨⟨p,hp,e⟩,_⟩|⟨_,h2⟩
  ·obtain ⟨b,hb,rfl⟩:=zj.1 hp;exact (hj (e ▸ ga b hb)).elim
  ·rw[h2];show Qc s.h (s.n+(n-m)) j=Qc s.h s.n j;have br:∀ k,k<=n-m->Qc s.h (s.n+k) j=Qc s.h s.n j:=fun k hk=>by
    induction k with
    | zero=>rfl
    | succ k ih =>
     rw[<- ih af];refine Ku s.h (s.n+k) j fun e=>hj ?_;refine mem_append_right _ ?_;simp only[j0,uZ];exact ⟨k,by omega,e.symm⟩
   exact br _ (Nat.le_refl _)
 exact VX (σ:=sg ins m s.n) (N:=ins++j0 s.n m n) fC jv tM (fun p hp=>NO ok.fit p hp) (fun b hb=>by
  have:=NR.2 hb;rw[<- ok.mh,NQ]at this;obtain ⟨p,hp,e⟩:=mem_map.1 this;exact ⟨p,hp,e⟩) ok.le (fun b h1 h2=>by
  refine NP ok.free _ ?_;unfold sg;rw[aa af];simp only[j0,uZ];exact ⟨b-m,by omega,rfl⟩) (fun p hp=>IC ok.out p hp) ok.nr ok.na ga jq (fun i=>by rw[n7];cases d<;>rfl) (fun b hb=>by rw[rW];exact rX b hb) (fun j hj=>by rw[rW];exact mo j hj)
def NW {xs:List Operand}(h:Xs P o=some (.dg,xs)):∃ x ys ts,xs=x::ys/\o.op=.call ⟨.value x,ys.toArray,ts⟩:=by
 unfold Xs at h
 repeat' split at h
 all_goals first
  | (simp only[Option.some.injEq,Prod.mk.injEq,true_and]at h;subst h;rename_i hop;exact ⟨_,_,_,rfl,by rw[hop]⟩)
  | (simp at h;done)
  | (cases h;done)
  | (simp[Option.map_eq_some_iff]at h;done)
def NY {f:FuncId}(hc:BQ P f)  {x:Operand}{ys:List Operand}{ts:Array TypeId}(ho:o.op=.call ⟨.value x,ys.toArray,ts⟩)(a:Act)(w:World)(us:Array Value)(hx:a.eval x=.func (.func f) #[] us) :
  (execOp a.eval o).run P w=.ok (.enter f (ys.map a.eval++us.toList).toArray) w:=by
 have e:(ys.map a.eval++us.toList).toArray=(ys.map a.eval).toArray++us:=Array.ext' aw;rw[e];obtain ⟨fn,h1,h2,h3⟩:=hc;have Nk:fn.body≠none:=fun e=>by rw[e]at h2;cases h2
 have Nl : fn.name ≠ "runtime.NumGoroutine" := fun e => by rw [e] at h3; cases h3
 simp[execOp,ho,resolve,hx,Deferred.ofValue,invoke,callFunc,program,Sem.run,h1,Nk,Nl]
def IF {g:Nat->GM}{W:Nat->Prop}{w:World}:∀ {xs ys:List AV} {us vs:List Value},bR g W w xs us->bR g W w ys vs->bR g W w (xs++ys) (us++vs)
 | [],_,[],_,_,h=>h
 | _::_,_,_::_,_,h,k=>⟨h.1,IF h.2 k⟩
 | [],_,_::_,_,h,_=>h.elim
 | _::_,_,[],_,h,_=>h.elim
def IG {g:Nat->GM}{W:Nat->Prop}{w:World}:∀ {xs:List AV} {us:List Value},us.length=xs.length->(∀ j,j<xs.length->VR g W w (xs.getD j .any) (us.getD j undef))->bR g W w xs us
 | [],[],_,_=>trivial
 | x::xs,u::us,hl,h=>⟨by simpa using h 0 aw,IG (by simpa using hl) fun j hj=>by simpa using h (j+1) (by simp;omega)⟩
 | [],_::_,hl,_=>by simp at hl
 | _::_,[],hl,_=>by simp at hl
def vf:List AV->Option (FuncId×List AV)
 | .cl f caps::r=>some (f,r++caps)
 | _=>none
def VY {s:St}{d:Option Nat}{f:FuncId}{xs:List TV}{ins:List Nat}{args:List AV}{aK:List (Nat×Bk)}{m:Nat}{r:AV}{ax:List (Nat×Bk)}{n:Nat}(fC:GS P c.gl f args aK m r ax n)(hc:Qq none (aC c.gl s.fs xs))
  (aM:vf ((aC c.gl s.fs xs).map Qh)=some (f,ay (sg ins m s.n) args)) (ok:mg s.fs s.n ins args aK m r ax n):Kn P c (.pd d .dg xs none) s.fs (va s d xs ins m n) (ml s d ins m r ax n).fs:=by
 refine Ydy fC (fun o zs aD vg s2 g a w hT hR=>?_) ok;obtain ⟨x,ys,ts,rfl,hop⟩:=NW aD;subst vg;have bj:aC c.gl s2 ((x::ys).map aP)=aC c.gl s.fs ((x::ys).map aP):=Ya fun i hi=>hT i hi;have hv:=Yi (hR.ci (x::ys)) (by rw[bj];exact hc);rw[bj]at hv;generalize (aC c.gl s.fs ((x::ys).map aP)).map Qh=zs at aM hv;cases zs with
 | nil=>simp[vf]at aM
 | cons z zs =>
  unfold vf at aM;split at aM
  ·rename_i f' rY r' heq;simp only[Option.some.injEq,Prod.mk.injEq]at aM;obtain ⟨rfl,aM⟩:=aM;simp only[List.cons.injEq]at heq;obtain ⟨rfl,rfl⟩:=heq;rw[map_cons]at hv;obtain ⟨h1,h2⟩:=hv;generalize hx:a.eval x=vx at h1;cases h1 with
   | cl hs h =>
    refine ⟨_,NY fC.1 hop a w _ hx,?_⟩;rw[<- aM];have:=IF h2 (IG (xs:=rY) (us:=Array.toList _) (by simpa using hs) fun j hj=>by
     have:=h j hj;simpa [Array.getD_eq_getD_getElem?,List.getD] using this)
    exact this
  ·cases aM
def Jb {r0:List bD}{K:St->Prop}{s:St}{d:Option Nat}{f:FuncId}{xs:List TV}{ins:List Nat}{args:List AV}{aK:List (Nat×Bk)}{m:Nat}{r:AV}{ax:List (Nat×Bk)}{n:Nat}(fC:GS P c.gl f args aK m r ax n)
  (aM:vf ((aC c.gl s.fs xs).map Qh)=some (f,ay (sg ins m s.n) args)) (h:Qq none (aC c.gl s.fs xs)/\mg s.fs s.n ins args aK m r ax n/\XP P c r0 K (ml s d ins m r ax n)):Yn P c (.pd d .dg xs none) r0 K s :=
 .inl ⟨_,_,VY fC h.1 aM h.2.1,h.2.2⟩
def Zc {anc:List Nat}{fs:List bg}{r0:List bD}{K:St->Prop}{s:St}{d:Option Nat}{f:FuncId}{xs:List TV}{ins:List Nat}{args:List AV}{aK:List (Nat×Bk)}{m:Nat}{r:AV}{ax:List (Nat×Bk)}{n:Nat}(fC:GS P c.gl f args aK m r ax n)
  (aM:vf ((aC c.gl s.fs xs).map Qh)=some (f,ay (sg ins m s.n) args)) (h:Qq none (aC c.gl s.fs xs)/\mg s.fs s.n ins args aK m r ax n/\XD P c anc r0 (va s d xs ins m n::fs) K (ml s d ins m r ax n)):Zm P c anc (.pd d .dg xs none) r0 fs K s :=
 ⟨_,_,VY fC h.1 aM h.2.1,h.2.2⟩
def Jp {f:FuncId}{caps fV:List AV}{r:AV}(ef:PS P c.gl f (fV++caps) r)(ik:ah 0 (fV++caps)):nh P c .dg (.cl f caps::fV) r:=by
 intro o ys aD g W a w hX me hv K Q hK;obtain ⟨x,zs,ts,rfl,hop⟩:=NW aD;rw[map_cons]at hv;obtain ⟨h1,h2⟩:=hv;generalize hx:a.eval x=vx at h1;cases h1 with
 | cl hs h =>
  have h3:=IF h2 (IG (xs:=caps) (us:=Array.toList _) (by simpa using hs) fun j hj=>by
   have:=h j hj;simpa [Array.getD_eq_getD_getElem?,List.getD] using this)
  have h4:bR (fun _=>.un) W w (fV++caps) _:=Nn (n:=0) (fun b hb=>absurd hb af) h3 ik;unfold Oper.wp;rw[NY ef.1 hop a w _ hx];rw[Oper.upon_enter];refine (ef.2 w _ _ hX me h4).mono fun e w' ⟨v,e1,e2,e3⟩=>?_;subst e1;exact hK v w' e3 (e2.mono (Fr.refl _ _) (fun _ _ h=>h) (fun _ h=>absurd rfl h))
def VZ {N:Nat}{ops:Array Oper}{io:Oper}  {k:PK}   (h:Uu P N ops io=some (.pd d k xs gd)):Uu P N ops { io with guard:=none }=some (.pd d k xs none):=by
 have lU:nT ops { io with guard:=none }=some none:=rfl;have hq:uN P { io with guard:=none }=uN P io:=rfl;have hp:Xs P { io with guard:=none }=Xs P io:=rfl;unfold Uu at h ⊢;rw[lU,hq,hp];split at h
 ·cases h
 ·rename_i DJ hg;dsimp only;split at h
  ·split at h
   ·split at h<;>simp at h
   ·cases h
  ·split at h<;>simp at h
  ·split at h<;>simp at h
  ·rename_i n1 n2 n3;have rest:∀ {α:Type} (x:α),x=x:=fun _=>rfl;split at h
   ·split at h<;>simp at h
   ·rename_i n4;split at h
    ·rename_i k' ys hk;split at h
     ·rename_i hd;simp only[Option.some.injEq,bD.pd.injEq]at h;obtain ⟨rfl,rfl,rfl,rfl⟩:=h;split
      all_goals first
       | (exfalso;apply n1<;>assumption)
       | (exfalso;apply n2<;>assumption)
       | (exfalso;apply n3<;>assumption)
       | (exfalso;apply n4<;>assumption)
       | rfl
       | (exfalso;contradiction)
     ·cases h
    ·cases h
def NZ {s:FS}{s':FS}  {k:PK}   {F:bg}(hb:gB s gd=some true)(aS:gn s gd)(h:Kn P c (.pd d k xs none) s F s'):Kn P c (.pd d k xs gd) s ⟨jU gd++F.rt,F.rb,F.wt,F.wb⟩ s':=by
 intro ops io he;obtain ⟨aV,a8,hd,ys,aD,rfl⟩:=Zj he;obtain ⟨h1,h2,h3⟩:=h ops _ (VZ he);refine ⟨h1,h2,fun s2 hT hH g a w hR K Q' hK=>?_⟩;have hg:∀ t b,gd=some (t,b)->s2.T t=s.T t:=fun t b e=>hT t (by simp[e,jU]);have jV:gB s2 gd=gB s gd:=by
  cases gd with
  | none=>rfl
  | some p=>obtain ⟨t,b⟩:=p;simp only[gB,hg t b rfl]
 have jW:gn s2 gd:=by
  cases gd with
  | none=>exact aS
  | some p=>obtain ⟨t,b⟩:=p;simpa only[gn,hg t b rfl] using aS
 have h4:=h3 s2 (fun i hi=>hT i (by simp[hi])) hH g a w hR K Q' hK;unfold Uj at h4 ⊢;rw[wN aV hR jW,jV,hb];rw[HZ rfl,am rfl]at h4;rw[Option.getD_some,am rfl];exact h4
def Yi9 {K:St->Prop}{s:St}  {k:PK}   (hb:gB s.fs gd=some true)(aS:gn s.fs gd)(h:Yn P c (.pd d k xs none) r0 K s):Yn P c (.pd d k xs gd) r0 K s:=by
 rcases h with ⟨F,s',h1,h2⟩|h
 ·exact .inl ⟨_,s',NZ hb aS h1,h2⟩
 ·refine .inr fun ops io he g a w hR K' Q' hK=>?_;obtain ⟨aV,a8,hd,ys,aD,rfl⟩:=Zj he;have h4:=h ops _ (VZ he) g a w hR K' Q' hK;unfold Uj at h4 ⊢;rw[wN aV hR aS,hb];rw[HZ rfl,am rfl]at h4;rw[Option.getD_some,am rfl];exact h4
end
theorem Xj4 (f:FuncId)(caps r:List AV):vf (.cl f caps::r)=some (f,r++caps):=rfl
attribute [go_sem] Xj4
section
variable {P:Program}{c:Cx}
def z1 {o:bD}{r:List bD}{K:St->Prop}{s:St}(h:Yn P c o r K s):Yn P c o r K s:=h
def z2 {t:TC}{Q:EX->St->Prop}{s:St}(h:xw P c t Q s):xw P c t Q s:=h
def z3 {o:bD}{r:List bD}{fs:List bg}{K:St->Prop}{s:St}(h:Zm P c anc o r fs K s):Zm P c anc o r fs K s:=h
end
attribute [go_sem] if_true if_false List.length_replicate List.length_take List.length_drop List.length_set List.length_cons List.length_nil decide_true decide_false bne_self_eq_false beq_self_eq_true
def vh (n:Nat):Nat:=n
theorem aQ:vh 1=1:=rfl
theorem bw:vh 2=2:=rfl
theorem bQ:vh 3=3:=rfl
theorem cy:vh 4=4:=rfl
theorem dh:vh 5=5:=rfl
theorem ff:vh 6=6:=rfl
theorem gu:vh 7=7:=rfl
theorem nk:vh 8=8:=rfl
theorem qX:vh 9=9:=rfl
class Main (p:Prop):Prop where
 it:True
instance {P:Program}{c:Cx}{o:bD}{r:List bD}{K:St->Prop}{s:St}:Main (Yn P c o r K s):=⟨trivial⟩
instance {P:Program}{c:Cx}{t:TC}{Q:EX->St->Prop}{s:St}:Main (xw P c t Q s):=⟨trivial⟩
instance {P:Program}{c:Cx}{anc:List Nat}{o:bD}{r:List bD}{fs:List bg}{K:St->Prop}{s:St}:Main (Zm P c anc o r fs K s):=⟨trivial⟩
instance {P:Program}{c:Cx}{b:TC}{Q:EX->St->Prop}{s:St}:Main (qS P c b Q s):=⟨trivial⟩
def zm {p:Prop}[Main p](h:p):p:=h
def XG {p q:Prop}(k:q)(h:p=q:=by (conv=>lhs;simp (disch:=first|omega|(simp only[go_sem]<;>omega)|fail) only[go_sem,↓reduceIte,Nat.reduceBEq,Nat.reduceAdd,Nat.reduceMul,Nat.reduceSub,Nat.reduceLT,Nat.reduceLeDiff,Nat.reduceEqDiff,Int.reduceToNat,Int.reduceBEq,Int.reduceBNe,Int.reduceLT,Int.reduceLE,Int.reduceEq,aQ,bw,bQ,cy,dh,ff,gu,nk,qX])):p:=h.mpr k
def XM {p q:Prop}(k:q)(h:p=q:=by (conv=>lhs;simp (disch:=first|omega|(simp only[go_sem]<;>omega)|fail) only[go_sem,↓reduceIte,Nat.reduceBEq,Nat.reduceAdd,Nat.reduceMul,Nat.reduceSub,Nat.reduceLT,Nat.reduceLeDiff,Nat.reduceEqDiff,Int.reduceToNat,Int.reduceBEq,Int.reduceBNe,Int.reduceLT,Int.reduceLE,Int.reduceEq,Int.reduceMul,Int.reduceAdd,Int.reduceSub,aQ,bw,bQ,cy,dh,ff,gu,nk,qX])):p:=h.mpr k
def CL {p:Prop}(h:p:=by (first|exact True.intro|omega|(show Ud _ _ _=true;decide +kernel)|(refine fun _=>?_;simp_all;done)|fail)):p:=h
def Qb {P:Program}{c:Cx}{Q:EX->St->Prop}{s:St}{x:TV}{a b:TC}{t:Bool}{A B:Prop}(ht:A->xw P c a Q s)(hf:B->xw P c b Q s)
  (h:aU c.gl s.fs x=.bool t:=by (refine XG ?_;first|exact rfl|exact True.intro|fail))
  (hA:(t=true)=A:=by (conv=>lhs;(try simp only[decide_eq_true_eq,decide_eq_false_iff_not,Bool.or_eq_true,Bool.and_eq_true,Bool.not_eq_true',Bool.or_eq_false_iff,Bool.and_eq_false_iff,Bool.not_eq_false',beq_iff_eq,bne_iff_ne,ne_eq,beq_eq_false_iff_ne,bne_eq_false_iff_eq,Bool.true_eq_false,Bool.false_eq_true,Decidable.not_not])))
  (hB:(t=false)=B:=by (conv=>lhs;(try simp only[decide_eq_true_eq,decide_eq_false_iff_not,Bool.or_eq_true,Bool.and_eq_true,Bool.not_eq_true',Bool.or_eq_false_iff,Bool.and_eq_false_iff,Bool.not_eq_false',beq_iff_eq,bne_iff_ne,ne_eq,beq_eq_false_iff_ne,bne_eq_false_iff_eq,Bool.true_eq_false,Bool.false_eq_true,Decidable.not_not]))):xw P c (.cond x a b) Q s :=
 Yj2 h (fun e=>ht (hA.mp e)) (fun e=>hf (hB.mp e))
structure cV (q:Prop):Prop where
 it:q
def oY (_:List Nat):Prop:=True
def ip (l:List Nat):oY l:=trivial
def An {p q:Prop}(a:p)(b:q):p/\q:=⟨a,b⟩
@[reducible] def n8 {l:List Nat} (_:oY l):List Nat:=l
theorem Qa {p q:Prop}(k:q)(h:cV q->p:=by (intro zk;(refine XG ?_;(try with_reducible and_intros);all_goals try first|refine zm ?_|exact CL);exact zk.it)):p:=h ⟨k⟩
def Qp {p:Prop}(h:p:=by ((refine XG ?_;(try with_reducible and_intros);all_goals try first|refine zm ?_|exact CL))):p:=h
def Xd {FP:Prop}{p q:Prop}(fp:FP)(k:q)(h:FP->cV q->p:=by (intro zp zk;((first|apply Yw|apply Yf|apply Xn|apply Xg)<;>(first|exact zp|(refine XG ?_;first|exact rfl|exact True.intro|((try with_reducible and_intros);all_goals try first|refine zm ?_|exact CL))));exact zk.it)):p:=h fp ⟨k⟩
def N0 {FP:Prop}{p:Prop}(fp:FP)(h:FP->p:=by (intro zp;((first|apply Yw|apply Yf|apply Xn|apply Xg)<;>(first|exact zp|(refine XG ?_;first|exact rfl|exact True.intro|((try with_reducible and_intros);all_goals try first|refine zm ?_|exact CL)))))):p:=h fp
def Jx {p q:Prop}(k:q)(h:cV q->p:=by (intro zk;((first|apply wY|apply wZ|apply w3|apply w5|apply w7|apply w8);refine XG ?_;(try with_reducible and_intros);all_goals try first|refine zm ?_|exact CL);exact zk.it)):p:=h ⟨k⟩
def Yj9 {p:Prop}(h:p:=by (((first|apply wY|apply wZ|apply w3|apply w5|apply w7|apply w8);refine XG ?_;(try with_reducible and_intros);all_goals try first|refine zm ?_|exact CL))):p:=h
def qf {FP:Prop}{p q:Prop}(fi:oY li)(fp:FP)(k:q)(h:oY li->FP->cV q->p:=by (intro zi zp zk;((first|refine Kk (ins:=n8 zi) zp ?_ ?_|refine Jc (ins:=n8 zi) zp ?_ ?_|refine Jb (ins:=n8 zi) zp ?_ ?_|refine Zc (ins:=n8 zi) zp ?_ ?_)<;>(dsimp only[n8];refine XG ?_;(try first|exact rfl|exact True.intro);(try with_reducible and_intros);all_goals try first|refine zm ?_|exact CL));exact zk.it)):p:=h fi fp ⟨k⟩
def N4 {FP:Prop}{p:Prop}(fi:oY li)(fp:FP)(h:oY li->FP->p:=by (intro zi zp;((first|refine Kk (ins:=n8 zi) zp ?_ ?_|refine Jc (ins:=n8 zi) zp ?_ ?_|refine Jb (ins:=n8 zi) zp ?_ ?_|refine Zc (ins:=n8 zi) zp ?_ ?_)<;>(dsimp only[n8];refine XG ?_;(try first|exact rfl|exact True.intro);(try with_reducible and_intros);all_goals try first|refine zm ?_|exact CL)))):p:=h fi fp
def El {p q:Prop}(k:q)(h:cV q->p:=by (intro zk;(refine XM ?_;(try with_reducible and_intros);all_goals try first|refine zm ?_|exact CL);exact zk.it)):p:=h ⟨k⟩
def Yjf {p:Prop}(h:p:=by ((refine XM ?_;(try with_reducible and_intros);all_goals try first|refine zm ?_|exact CL))):p:=h
def N5 {FP:Prop}{p q:Prop}(fp:FP)(k:q)(h:FP->cV q->p:=by (intro zp zk;((first|apply Yw|apply Yf|apply Xn|apply Xg)<;>(first|exact zp|(refine XM ?_;first|exact rfl|exact True.intro|((try with_reducible and_intros);all_goals try first|refine zm ?_|exact CL))));exact zk.it)):p:=h fp ⟨k⟩
def Qd {F:Prop}{p q:Prop}(f:F)(k:q)(h:F->cV q->p:=by (intro aQ zk;exact Qa zk.it)):p:=h f ⟨k⟩
def Qi {F:Prop}{p:Prop}(f:F)(h:F->p:=by (intro aQ;exact Qp )):p:=h f
def Qk {FP:Prop}{F:Prop}{p q:Prop}(fp:FP)(f:F)(k:q)(h:FP->F->cV q->p:=by (intro zp aQ zk;exact Xd zp zk.it)):p:=h fp f ⟨k⟩
def vi {FP:Prop}{F:Prop}{p:Prop}(fp:FP)(f:F)(h:FP->F->p:=by (intro zp aQ;exact N0 zp)):p:=h fp f
def Ym {F:Prop}{p q:Prop}(f:F)(k:q)(h:F->cV q->p:=by (intro aQ zk;exact Jx zk.it)):p:=h f ⟨k⟩
def II {F:Prop}{p:Prop}(f:F)(h:F->p:=by (intro aQ;exact Yj9 )):p:=h f
def Zv {FP:Prop}{F:Prop}{p q:Prop}(fi:oY li)(fp:FP)(f:F)(k:q)(h:oY li->FP->F->cV q->p:=by (intro zi zp aQ zk;exact qf zi zp zk.it)):p:=h fi fp f ⟨k⟩
def Ka {FP:Prop}{F:Prop}{p:Prop}(fi:oY li)(fp:FP)(f:F)(h:oY li->FP->F->p:=by (intro zi zp aQ;exact N4 zi zp)):p:=h fi fp f
def tO {F:Prop}{p q:Prop}(f:F)(k:q)(h:F->cV q->p:=by (intro aQ zk;exact El zk.it)):p:=h f ⟨k⟩
def IJ {F:Prop}{p:Prop}(f:F)(h:F->p:=by (intro aQ;exact Yjf )):p:=h f
def Yjs {FP:Prop}{F:Prop}{p q:Prop}(fp:FP)(f:F)(k:q)(h:FP->F->cV q->p:=by (intro zp aQ zk;exact N5 zp zk.it)):p:=h fp f ⟨k⟩
def Yjj {FP:Prop}{p q r:Prop}(fi:oY li)(fp:FP)(k:q)(l:r)(h:oY li->FP->cV q->cV r->p:=by (intro zi zp zk zl;((first|refine Kk (ins:=n8 zi) zp ?_ ?_|refine Jc (ins:=n8 zi) zp ?_ ?_|refine Jb (ins:=n8 zi) zp ?_ ?_|refine Zc (ins:=n8 zi) zp ?_ ?_)<;>(dsimp only[n8];refine XM ?_;(try first|exact rfl|exact True.intro);((try with_reducible and_intros);all_goals try first|refine zm ?_|exact CL)));exact zk.it;exact zl.it)):p:=h fi fp ⟨k⟩ ⟨l⟩
def zr {FP:Prop}{F:Prop}{p q r:Prop}(fi:oY li)(fp:FP)(f:F)(k:q)(l:r)(h:oY li->FP->F->cV q->cV r->p:=by (intro zi zp aQ zk zl;exact Yjj zi zp zk.it zl.it)):p:=h fi fp f ⟨k⟩ ⟨l⟩
def Yc {p q:Prop}(k:q)(h:cV q->p:=by (intro zk;refine Qb (fun zh=>?_) (fun zh=>?_)<;>first|exact zh.elim|exact zk.it)):p:=h ⟨k⟩
def Xy {p q:Prop}(k:q)(h:cV q->p:=by (intro zk;((first|apply w9|apply xc)<;>(refine XG ?_;first|exact rfl|exact True.intro|((try with_reducible and_intros);all_goals try first|refine zm ?_|exact CL)));exact zk.it)):p:=h ⟨k⟩
def tP {p q:Prop}(k:q)(h:cV q->p:=by (intro zk;((refine Yi9 ?_ ?_ ?_);(focus (refine XG ?_;try first|exact rfl|exact True.intro));(focus (refine XG ?_;try trivial)));exact zk.it)):p:=h ⟨k⟩
def jw {F:Prop}{p q:Prop}(f:F)(k:q)(h:F->cV q->p:=by (intro aQ zk;exact Xy zk.it)):p:=h f ⟨k⟩
def zt {F:Prop}{p q:Prop}(f:F)(k:q)(h:F->cV q->p:=by (intro aQ zk;exact tP zk.it)):p:=h f ⟨k⟩
def V0:FT Tryz.prog 135 Tryz.f135 (aG Tryz.prog Tryz.f135) [.t 4,.t 5]:=.of Tryz.func135
def V1:FT Tryz.prog 161 Tryz.f161 (aG Tryz.prog Tryz.f161) [.t 4,.t 5]:=.of Tryz.func161
def V2:FT Tryz.prog 83 Tryz.f83 (aG Tryz.prog Tryz.f83) [.t 2,.t 3]:=.of Tryz.func83
def V3:FT Tryz.prog 160 Tryz.f160 (aG Tryz.prog Tryz.f160) [.t 2,.t 3]:=.of Tryz.func160
def Xgl:FT Tryz.prog 85 Tryz.f85 (aG Tryz.prog Tryz.f85) [.t 2]:=.of Tryz.func85
def Qzi:FT Tryz.prog 174 Tryz.f174 (aG Tryz.prog Tryz.f174) [.t 2]:=.of Tryz.func174
def IK:FT Tryz.prog 122 Tryz.f122 (aG Tryz.prog Tryz.f122) [.t 6]:=.of Tryz.func122
def Xhp:FT Tryz.prog 123 Tryz.f123 (aG Tryz.prog Tryz.f123) [.t 8,.t 9]:=.of Tryz.func123
def Qzf:FT Tryz.prog 175 Tryz.f175 (aG Tryz.prog Tryz.f175) [.t 2]:=.of Tryz.func175
def Xbv:FT Tryz.prog 173 Tryz.f173 (aG Tryz.prog Tryz.f173) [.t 8,.t 9]:=.of Tryz.func173
def V4:FT Tryz.prog 144 Tryz.f144 (aG Tryz.prog Tryz.f144) [.t 4]:=.of Tryz.func144
structure Em where
 k:Nat
 l:List UInt8
def Wl (v:Int)(n:Nat)(hn:n<=8)(hl:l.length<=100000000) :
  GS Tryz.prog gl 122 [.sl 1 0 0 l.length l.length,.int .i64 v,.int .i64 n] [(0,.cells (Xj l))] 1 (.sl 1 1 0 (l.length+n) (l.length+n)) [(1,.cells (Xj (l++be v n)))] 2:=by
 refine IK.gs (ap rfl) (by simp[Bk.live]) fun c bf hg=>?_
 conv in aG _ _=>cbv
 refine Qa ?_
 refine wT (fun x:Em=>x.k≤n∧x.l++be v x.k=l++be v n) (fun x=>⟨[(0,.sl 1 1 0 x.l.length x.l.length),(1,.int .i64 v),(7,.int .i64 ((x.k:Int) - 1))],[(1,.cells (Xj x.l))],2⟩) (fun x=>x.k) IK.mixed 1 bf
  ⟨⟨n,l⟩,⟨Nat.le_refl _,rfl⟩,[(1,0)],by exact Qp⟩ fun ⟨k,l'⟩ ⟨hk,he⟩=>?_
 dsimp only at hk he;refine Qa ?_;have kE:l'.length+k=l.length+n:=by
  have:=congrArg List.length he;simpa [Qj] using this
 refine Qb ?_ ?_<;>intro h1
 ·obtain ⟨k,rfl⟩:∃ j,k=j + 1:=⟨k - 1,by omega⟩
  have e1:(((k+1:Nat):Int)-1)=k:=by omega
  rw[e1]at h1 ⊢;refine Qa ?_;refine Jx ?_;refine Jx ?_;refine ⟨⟨k,l'++[Qx v k]⟩,⟨by dsimp only;omega,?_⟩,⟨[(1,3)],?_⟩,by dsimp only;omega⟩
  ·simpa [be] using he
  ·refine Qa ?_;rfl
 ·have gH:k=0:=by omega
  subst gH;simp only[be,append_nil]at he;subst he;refine Qa ?_;refine ⟨[],?_⟩;exact Qi @Qj
structure En where
 k:Nat
 l:Option (List UInt8)
def V5 (v:Int)(n:Nat)(hn:n<=8)(h0:0<n) :
  GS Tryz.prog gl 122 [.nils,.int .i64 v,.int .i64 n] [] 0 (.sl 1 0 0 n n) [(0,.cells (Xj (be v n)))] 1:=by
 refine IK.gs (ap rfl) aw fun c bf hg=>?_
 conv in aG _ _=>cbv
 refine Qa ?_
 refine wT (fun x:En=>x.k≤n∧(x.l.getD [])++be v x.k=be v n∧(x.l=none→x.k=n)) (fun x=>match x.l with|none=>⟨[(0,.nils),(1,.int .i64 v),(7,.int .i64 ((x.k:Int) - 1))],[],0⟩|some l=>⟨[(0,.sl 1 0 0 l.length l.length),(1,.int .i64 v),(7,.int .i64 ((x.k:Int) - 1))],[(0,.cells (Xj l))],1⟩) (fun x=>x.k) IK.mixed 0 bf
  ⟨⟨n,none⟩,⟨Nat.le_refl _,rfl,fun _=>rfl⟩,[],by exact Qp⟩ fun ⟨k,o⟩ ⟨hk,he,br⟩=>?_
 cases o with
 | none =>
  dsimp only at hk he br;obtain rfl:=br rfl;refine Qa ?_;refine Qb ?_ ?_<;>intro h1
  ·obtain ⟨k,rfl⟩:∃ j,k=j + 1:=⟨k - 1,by omega⟩
   have e1:(((k+1:Nat):Int)-1)=k:=by omega
   rw[e1]at h1 ⊢;refine Qa ?_;refine Jx ?_;refine Jx ?_;refine ⟨⟨k,some [Qx v k]⟩,⟨by dsimp only;omega,?_,fun h=>by cases h⟩,⟨[(0,1)],?_⟩,by dsimp only;omega⟩
   ·simp[be]
   ·refine Qa ?_;exact NM [] _ []
  ·omega
 | some l' =>
  dsimp only[Option.getD_some]at hk he br;have kE:l'.length+k=n:=by
   have:=congrArg List.length he;simpa [Qj] using this
  refine Qa ?_;refine Qb ?_ ?_<;>intro h1
  ·obtain ⟨k,rfl⟩:∃ j,k=j + 1:=⟨k - 1,by omega⟩
   have e1:(((k+1:Nat):Int)-1)=k:=by omega
   rw[e1]at h1 ⊢;refine Qa ?_;refine Jx ?_;refine Jx ?_;refine ⟨⟨k,some (l'++[Qx v k])⟩,⟨by dsimp only;omega,?_,fun h=>by cases h⟩,⟨[(0,2)],?_⟩,by dsimp only;omega⟩
   ·simpa [be] using he
   ·refine Qa ?_;rfl
  ·have gH:k=0:=by omega
   subst gH;simp only[be,append_nil]at he;subst he;refine Qa ?_;refine ⟨[],?_⟩;exact Qi @Qj
def Jd (t s a b:Int):Bool:=decide (0<=t)&&decide (t<=1099511627776)&&decide (0<=s)&&decide (s<8)&&decide (0<=a)&&decide (a<3)&&decide (0<=b)&&decide (b<6)
def qY (t s a b:Int):Int:=if Jd t s a b=true then 0 else 2
def Xh2 (t s a b:Int)(f:Bool):PS Tryz.prog gl 85 [.agg [.int .i64 t,.int .i64 s,.int .i64 a,.int .i64 b,.bool f]] (.int .i64 (qY t s a b)):=by
 refine Xgl.ps (ap rfl) (by simp[Qe]) fun c hN hg=>?_
 conv in aG _ _=>cbv
 refine Qa ?_
 (repeat' (first|((refine Qb (fun hh=>?_) (fun hh=>?_)<;>try exact hh.elim)<;>refine Qa ?_) ))
 ·unfold qY Jd;rw[aa];simp;omega
 ·unfold qY Jd;rw[am];simp;omega
def Qye (t s a b:Int)(f:Bool):PS Tryz.prog gl 174 [.agg [.int .i64 t,.int .i64 s,.int .i64 a,.int .i64 b,.bool f]] (.int .i64 (qY t s a b)):=by
 refine Qzi.ps (ap rfl) (by simp[Qe]) fun c hN hg=>?_
 conv in aG _ _=>cbv
 refine Qa ?_
 (repeat' (first|((refine Qb (fun hh=>?_) (fun hh=>?_)<;>try exact hh.elim)<;>refine Qa ?_) ))
 ·unfold qY Jd;rw[aa];simp;omega
 ·unfold qY Jd;rw[am];simp;omega
def j8 (seq time set:Int)(bs:List UInt8):List UInt8:=be 10 2++be (20+bs.length) 2++be (time.tmod 4294967296) 4++be seq 4++be 1 4++be set 2++be (4+bs.length) 2++bs
def Wz (seq time set:Int)(bs:List UInt8):AV:=if 0<=seq/\seq<4294967296 then .aR [.str (j8 seq time set bs),.int .i64 0] else .aR [.str [],.int .i64 2]
def V6 (seq time set:Int)(bs:List UInt8)(hl:bs.length<=10000000):PS Tryz.prog gl 123 [.int .i64 seq,.int .i64 time,.int .i64 set,.isl bs.length (Xj bs)] (Wz seq time set bs):=by
 refine Xhp.ps (ap rfl) (by unfold Wz;split<;>simp[Qe,ah]) fun c hN hg=>?_
 conv in aG _ _=>cbv
 refine Qa ?_
 (refine Qb (fun h1=>?_) (fun h1=>?_)<;>try exact h1.elim)
 ·refine Qa ?_;unfold Wz;rw[aa af]
 ·refine Qa ?_
  (have zC:=(V5 c.gl 10 2 aJ aJ);refine Zv (ip []) zC @Qj ?_;clear zC)
  (have zC:=(Wl c.gl (be 10 2) (20+bs.length) 2 aJ (by simp[Qj]));refine Zv (ip [0]) zC @Qj ?_;clear zC)
  (have zC:=(Wl c.gl (be 10 2++be (20+bs.length) 2) (time.tmod 4294967296) 4 aJ (by simp[Qj]));refine Zv (ip [1]) zC @Qj ?_;clear zC)
  (have zC:=(Wl c.gl (be 10 2++be (20+bs.length) 2++be (time.tmod 4294967296) 4) seq 4 aJ (by simp[Qj]));refine Zv (ip [2]) zC @Qj ?_;clear zC)
  (have zC:=(Wl c.gl (be 10 2++be (20+bs.length) 2++be (time.tmod 4294967296) 4++be seq 4) 1 4 aJ (by simp[Qj]));refine Zv (ip [3]) zC @Qj ?_;clear zC)
  (have zC:=(Wl c.gl (be 10 2++be (20+bs.length) 2++be (time.tmod 4294967296) 4++be seq 4++be 1 4) set 2 aJ (by simp[Qj]));refine Zv (ip [4]) zC @Qj ?_;clear zC)
  (have zC:=(Wl c.gl (be 10 2++be (20+bs.length) 2++be (time.tmod 4294967296) 4++be seq 4++be 1 4++be set 2) (4+bs.length) 2 aJ (by simp[Qj]));refine Zv (ip [5]) zC @Qj ?_;clear zC)
  refine Ym @Qj ?_;unfold Wz j8;rw[am af,List.take_of_length_le (by simp[Qj])]
def Xv:List Int:=[323,8,8,4,225,4,361,2,362,2,230,1]
def jx (k:Nat):List UInt8:=be 300 2++be 6 2++(Xv.take (2*k)).flatMap fun f=>be f 2
def N6:∀ k,k<=6->(jx k).length=4+4*k:=by decide +kernel
def Xo9:∀ k,k<6->jx k++be (Xv.getD (2*k) 0) 2++be (Xv.getD (2*k+1) 0) 2=jx (k+1):=by decide +kernel
def Xb7 (h0:gl 0=.xp (Ql Xv) 0)(seq:Int):PS Tryz.prog gl 83 [.int .i64 seq] (Wz seq 0 2 (jx 6)):=by
 refine V2.ps (ap rfl) (by unfold Wz;split<;>simp[Qe,ah]) fun c hN hg=>?_
 conv in aG _ _=>cbv
 have lU:c.gl 0=.xp (Ql Xv) 0:=by rw[hg];exact h0
 have hf:Xv.length=12:=rfl;refine Qa ?_
 (have zC:=(V5 c.gl 300 2 aJ aJ);refine Zv (ip []) zC @Qj ?_;clear zC)
 (have zC:=(Wl c.gl (be 300 2) 6 2 aJ (by simp[Qj]));refine Zv (ip [0]) zC (An @Qj (An @lU @hf)) ?_;clear zC)
 refine Qu (fun k:Nat=>k≤6) (fun k=>⟨[(0,.int .i64 seq),(4,.sl 1 0 0 (4 + 4 * k) (4 + 4 * k)),(10,.agg (Ql Xv)),(11,.int .i64 k)],[(0,.cells (Xj (jx k)))],1⟩) (fun k=>6 - k) V2.mixed hN
  ⟨0,by omega,[(0,1)],by refine Qa ?_;rfl⟩ fun k hk=>?_
 refine Qa ?_
 (refine Qb (fun h1=>?_) (fun h1=>?_)<;>try exact h1.elim)
 ·have fg:k < 6:=by omega
  have hl:=N6 k hk;have hs:=Xo9 k fg;have hl2:(jx k).length<=100000000:=by omega
  have e3:k*2=2*k:=by omega
  refine Qd @hf ?_
  (have zC:=(Wl c.gl (jx k) (Xv.getD (2*k) 0) 2 aJ hl2);refine Zv (ip [0]) zC (An @Qj (An @hf (An @hl @e3))) ?_;clear zC)
  (have zC:=(Wl c.gl (jx k++be (Xv.getD (2*k) 0) 2) (Xv.getD (2*k+1) 0) 2 aJ (by simp[Qj];omega));refine Zv (ip [2]) zC (An @Qj (An @hf (An @hl @e3))) ?_;clear zC)
  refine ⟨k+1,by omega,⟨[(0,3)],?_⟩,by omega⟩;exact Qi @hs
 ·have:k=6:=by omega
  subst this;have N7:(jx 6).length=28:=N6 6 af;have hm:=V6 c.gl seq 0 2 (jx 6) af;rw[N7]at hm;by_cases hq:0<=seq/\seq<4294967296
  ·have e:Wz seq 0 2 (jx 6)=.aR [.str (j8 seq 0 2 (jx 6)),.int .i64 0]:=am hq;rw[e]at hm ⊢;refine Qa ?_
   ((first|apply Wi|apply Kd)<;>(first|exact hm|(with_reducible exact .aR (by simp[Jn.str,Jn.int]))|(have aQ:=@N7;refine XG ?_;clear aQ;first|exact rfl|exact True.intro|((try with_reducible and_intros);all_goals try first|refine zm ?_|exact CL))))
  ·have e:Wz seq 0 2 (jx 6)=.aR [.str [],.int .i64 2]:=aa hq;rw[e]at hm ⊢;refine Qa ?_
   ((first|apply Wi|apply Kd)<;>(first|exact hm|(with_reducible exact .aR (by simp[Jn.str,Jn.int]))|(have aQ:=@N7;refine XG ?_;clear aQ;first|exact rfl|exact True.intro|((try with_reducible and_intros);all_goals try first|refine zm ?_|exact CL))))
end Go.Proofs.YtogckmommodmhaaGreatDoor
namespace Go.Proofs.YtogckmommodmhaaGreatDoor
open Go.ChangeShapes Go.WideShapes Go.ChangeAt Go.WideMaps Go.WideElems Go.RowKit
open Go.RowKit
set_option linter.all false
set_option maxRecDepth 100000
variable {W:World}
noncomputable def vj : List (String×DataW Unit) := [("rentroll/record.fields", Rows.laid_rentroll_record_fields)]
def Yc8 : Tryz.prog.globalNamed "rentroll/record.fields" = some 0 := by kernel_rfl
def Ya9:(Tryz.prog.globals[0]?).map (·.type)=some 156:=by kernel_rfl
def uF6:Tryz.prog.underlying 156=some (.array 6 155):=by kernel_rfl
def uF2:Tryz.prog.underlying 155=some (.array 2 3):=by kernel_rfl
def cF2:Tryz.prog.cellsOf 155=2:=by kernel_rfl
def cF1:Tryz.prog.cellsOf 3=1:=by kernel_rfl
def cF6:Tryz.prog.cellsOf 156=12:=by kernel_rfl
def V7:List (Int×Int):=[(323,8),(8,4),(225,4),(361,2),(362,2),(230,1)]
theorem Ydt:(Rows.laid_rentroll_record_fields:DataW Unit)=.agg (V7.map fun p=>.agg [.lit (.int .i64 p.1),.lit (.int .i64 p.2)]):=rfl
def V8 (os:Os)(args:Array Value):laidMetH Tryz.prog vj ((World.doorLaid Tryz.prog 400 os).forCall (fun _ _=>0) ⟨#[],args,[]⟩).memory :=
 laidMetH_of_parts3 (fuel:=8) (laidMet_of_run' 8 (by kernel_rfl) (by kernel_rfl)) (by kernel_rfl) (by kernel_rfl)
def Qsa (h:laidMetH Tryz.prog vj W):∀ j,j<12->W.cell? ⟨0,j,none⟩=some (.int .i64 (Xv.getD j 0)):=by
 rw[MakeChecks.laidMetH_plain _ _ _ (by kernel_rfl)]at h;obtain ⟨ps,⟨g0,t0,N8,f0,p0,q0,lU,N9,MK,hd0,_,_⟩,_,_⟩:=h;obtain rfl:=Option.some.inj (Yc8.symm.trans lU);obtain rfl:=Option.some.inj (Ya9.symm.trans N9);obtain ⟨xs,m1,rfl,tQ,hlen,hn6,aD⟩:=DataW.trod_array uF6 hd0;rw[cF6]at hlen;rw[Ydt]at tQ;simp only[Prod.mk.injEq,DataW.agg.injEq]at tQ;have key:∀ i,i<6->∀ k,k<2->N8.toList[i*2+k]?=some (.int .i64 (Xv.getD (i*2+k) 0)):=by
  intro i hi k hk;have h1:=aD i hi;rw[cF2]at h1;have V9:xs[i]?=some (xs[i]'af):=List.getElem?_eq_getElem af;rw[V9]at h1;obtain ⟨ys,m2,rfl,hy,Cd,hy2,Oa⟩:=DataW.trod_array uF2 h1;have oZ:=Oa k hk;rw[cF1]at oZ;have WA:ys[k]?=some (ys[k]'af):=List.getElem?_eq_getElem af;rw[WA]at oZ;obtain ⟨z,e1,e2,_⟩:=DataW.trod_int Tryz.underlying3 oZ;have IL:(xs[i]'af).1=.agg (ys.map (·.1)):=by rw[hy]
  have hL:(xs.map (·.1))[i]?=some (.agg (ys.map (·.1))):=by rw[List.getElem?_map,V9,Option.map_some,IL]
  rw[<- tQ.1]at hL;have hz:(ys.map (·.1))[k]?=some (.lit (.int .i64 z)):=by rw[List.getElem?_map,WA,Option.map_some,e2]
  have eQ:N8.toList[i*2+k]?=some (.int .i64 z):=by
   have:((((N8.toList.drop (i*2)).take 2).drop (k*1)).take 1)[0]?=some (.int .i64 z):=by rw[e1];rfl
   rw[List.getElem?_take,am af,List.getElem?_drop,List.getElem?_take,am af,List.getElem?_drop]at this;simpa using this
  rw[eQ];have bl:∀ i,i<6->∀ k,k<2->∀ l:List (DataW Unit),(V7.map fun p=>(DataW.agg [.lit (.int .i64 p.1),.lit (.int .i64 p.2)]:DataW Unit))[i]?=some (.agg l)->l[k]?=some (.lit (.int .i64 (Xv.getD (i*2+k) 0))):=by
   intro i hi k hk l hl
   match i,k,hi,hk,hl with
   | 0,0,_,_,hl=>cases hl;rfl
   | 0,1,_,_,hl=>cases hl;rfl
   | 1,0,_,_,hl=>cases hl;rfl
   | 1,1,_,_,hl=>cases hl;rfl
   | 2,0,_,_,hl=>cases hl;rfl
   | 2,1,_,_,hl=>cases hl;rfl
   | 3,0,_,_,hl=>cases hl;rfl
   | 3,1,_,_,hl=>cases hl;rfl
   | 4,0,_,_,hl=>cases hl;rfl
   | 4,1,_,_,hl=>cases hl;rfl
   | 5,0,_,_,hl=>cases hl;rfl
   | 5,1,_,_,hl=>cases hl;rfl
  have:=bl i hi k hk _ hL;rw[hz]at this;simp only[Option.some.injEq,DataW.lit.injEq,Lit.int.injEq,true_and]at this;rw[this]
 intro j hj;rw[World.var?_cell lU MK j,<- Array.getElem?_toList];have:=key (j/2) af (j%2) af
 rwa [show j/2*2+j%2=j by omega]at this
def xe (i:Nat):AV:=if i=0 then .xp (Ql Xv) 0 else .any
theorem WB:xe 0=.xp (Ql Xv) 0:=rfl
def Yhf (h:∀ j,j<12->W.cell? ⟨0,j,none⟩=some (.int .i64 (Xv.getD j 0)))(i:Nat):VR (fun _=>.un) (fun _=>False) W (xe i) (.pointer (some ⟨i,0,none⟩)):=by
 unfold xe;split
 ·rename_i e;subst e;have hl:(Ql Xv).length=12:=rfl;have hx:=VR.xp (g:=fun _=>GM.un) (W:=fun _=>False) (w:=W) (cs:=Ql Xv) (off:=0) (k:=0) (o:=0) (us:=fun j=>.int .i64 (Xv.getD j 0)) (fun j hj=>by
   rw[hl]at hj;exact ⟨by have:=h j hj;rw[Nat.zero_add];exact this,id,rfl⟩) (fun j hj=>by
   rw[hl]at hj;rw[BU (show j<Xv.length from hj)];exact .int _ _)
  simpa using hx
 ·exact .any _
set_option maxRecDepth 100000 in
def WC {f:FuncId}{fn:Func}(zu:Tryz.prog.inits.idxOf? f=none)(kO:Tryz.prog.funcs[f]?=some fn)
  (hrd:∀ t ∈ fn.params.toList,Tryz.prog.readableRec t=true/\t<Tryz.prog.types.size) (Ob:fn.resultTypes=#[4])
  (s:ChangeSpec) (hv:s.vars=[]) (hs:∀ (H:Type) (ds:List (DataW H)),ds.length=fn.params.size->s.fn H ds={ results:=[.lit (.bool true)],args:=ds,vars:=[] })
  (os:Os) (started:os.Started) (H:Type) (enc:TypeId×Value->H)
  (witness:∃ (w:World) (tape:Tape) (i:Input),w.os=os∧(w.forCall tape i).Shaped Tryz.prog∧i.vars=[]∧Input.okWide Tryz.prog (w.forCall tape i) .any w.heap.size f i ∧
   ((s.pre enc Tryz.prog fn [] false (w.forCall tape i).memory i.args/\laidMetH Tryz.prog vj (w.forCall tape i).memory)/\sizedMet enc Tryz.prog fn (OpenSpec.ofChange s) false (w.forCall tape i).memory i.args)/\({}:Assume).holds Tryz.prog (lone (Frame.enter Tryz.prog f i.args .normal) [] (w.forCall tape i)))
  (rZ:∀ (W:World) (base:Nat) (args:Array Value) (ds:List (DataW H)),yx H enc Tryz.prog fn W base args ds→(∀ i,VR (fun _=>.un) (fun _=>False) W (xe i) (.pointer (some ⟨i,0,none⟩))) →
   Calls Tryz.prog f args W fun e W'=>e=.returned (.bool true)/\Below W.heap.size W W') :
  ReturnsInHanded {} Tryz.checked os f .any (fun w args=>(s.pre enc Tryz.prog fn [] false w args/\laidMetH Tryz.prog vj w)/\sizedMet enc Tryz.prog fn (OpenSpec.ofChange s) false w args) (s.post enc Tryz.prog fn false true false false):=by
 refine returnsInHanded_of_change_and (C:=Tryz.checked) (X:=fun w _=>laidMetH Tryz.prog vj w) (fun _ _ _ hh h=>h.of_heap hh) Tryz.own started zu kO witness ?_;intro W base args ds gs before fS hW _ cC hL _;have iS:=hW;obtain ⟨p,q,hA,hV,rfl,qQ,sa⟩:=hW;have fC:gs=[]/\q=[]:=by
  rw[hv]at hV;exact trodVars_none hV
 obtain ⟨rfl,rfl⟩:=fC;have jT:s.plain.varTypes Tryz.checked.prog=[]:=by
  simp[ChangeSpec.plain,hv,DataSpec.varTypes]
 rw[jT,List.append_nil,List.append_nil]at cC;refine (rZ W base args ds ⟨fS,⟨p,hA⟩,cC⟩ (Yhf (Qsa hL))).mono fun e W' ⟨he,Dt⟩=>?_;subst he;have hlen:ds.length=fn.params.size:=by rw[TN hA];simp
 have hS:=hs H (ds++[]) (by simpa using hlen);refine ⟨_,rfl,ds,[],p++[],[],p,[],iS,?_,?_,?_,Dt.frame _,fun h=>by cases h⟩
 ·rw[hS,Ob];exact trodAll_mk1 (shut_bool Tryz.underlying4 _)
 ·rw[hS];simp only[List.append_nil];exact TM Tryz.laidOut Dt hrd hA
 ·rw[hS,hv];simp[DataW.TrodVars]
end Go.Proofs.YtogckmommodmhaaGreatDoor
namespace Go.Proofs.YtogckmommodmhaaGreatDoor
open Go.RowKit
set_option linter.all false
set_option maxRecDepth 100000
variable {c:Cx}{es:Nat}{b:Bool}
section
variable {P:Program}{c:Cx}{g:Nat->GM}{s:St}{a:Act}{w:World}
def St.named (s:St)(i es:Nat):St:=⟨(i,.sl es s.n 0 0 0)::s.t,(s.n,.cells [])::s.h,s.n+1⟩
def R.named {i es:Nat}(hR:R c g s.fs a w)(hi:look s.t i=.nils)(hf:s.fs.H s.n=.free):R c (fun b=>if b=s.n then .ph else g b) (s.named i es).fs a w:=by
 have kA:g s.n=.un:=by
  have:=hR.h s.n;rw[hf]at this;generalize g s.n=m at this;cases this;rfl
 have hH:∀ b,b≠s.n->(s.named i es).fs.H b=s.fs.H b:=fun b hb=>by
  show Qc ((s.n,_)::s.h) (s.n+1) b=Qc s.h s.n b;rw[Qf,aa (fun e=>hb e.symm),Ku _ _ _ hb]
 have vl:(s.named i es).fs.H s.n=.cells []:=by
  show Qc ((s.n,_)::s.h) (s.n+1) s.n=_;rw[Qf,am rfl]
 have cb:∀ {b k},(if b=s.n then GM.ph else g b)=.re k->b≠s.n/\g b=.re k:=fun {b k} h=>by
  by_cases hb:b=s.n
  ·rw[am hb]at h;cases h
  ·rw[aa hb]at h;exact ⟨hb,h⟩
 have hg:∀ b,g b≠.un->(if b=s.n then GM.ph else g b)=g b:=fun b hb=>by
  rw[aa];rintro rfl;exact hb kA
 have hW:∀ k,Qm c (fun b=>if b=s.n then .ph else g b) (s.named i es).fs k->Qm c g s.fs k:=by
  rintro k (h|⟨b,h1,h2⟩)
  ·exact .inl h
  ·obtain ⟨hb,h3⟩:=cb h2;rw[hH b hb]at h1;exact .inr ⟨b,h1,h3⟩
 have mono:∀ {v u},VR g (Qm c g s.fs) w v u->VR (fun b=>if b=s.n then .ph else g b) (Qm c (fun b=>if b=s.n then .ph else g b) (s.named i es).fs) w v u:=fun h=>h.mono (Fr.refl _ _) (fun k _=>hW k) hg;refine ⟨hR.size,hR.ew,fun j=>?_,fun j=>(hR.gl j).mono (Fr.refl _ _) (fun k _=>hW k) (fun _ _=>rfl),fun b=>?_,fun b b' k h1 h2 e1 e2=>?_,fun b k h1 e1=>?_,hR.fr,hR.xs,fun p hp=>?_⟩
 ·show VR _ _ w (look ((i,_)::s.t) j) _;rw[Jk];split
  ·rename_i fX;subst fX;have:=hR.t i;have e:s.fs.T i=.nils:=hi;rw[e]at this;generalize a.tmps.getD i undef=u at this ⊢;cases this;exact .kz (am rfl) rfl
  ·exact mono (hR.t j)
 ·by_cases hb:b=s.n
  ·subst hb;show BR _ _ w (if s.n=s.n then _ else _) _;rw[am rfl,vl];exact .ph
  ·show BR _ _ w (if b=s.n then _ else _) _;rw[aa hb,hH b hb];exact (hR.h b).mono (Fr.refl _ _) (fun k _=>hW k) hg (fun _ _ _=>rfl)
 ·obtain ⟨b1,g1⟩:=cb e1;obtain ⟨b2,g2⟩:=cb e2;rw[hH b b1]at h1;rw[hH b' b2]at h2;exact hR.inj b b' k h1 h2 g1 g2
 ·obtain ⟨b1,g1⟩:=cb e1;rw[hH b b1]at h1;exact hR.old b k h1 g1
 ·obtain ⟨q1,q2⟩:=hR.jj p hp;exact ⟨by show (if p.1=s.n then GM.ph else g p.1)=_;rw[hg _ (by rw[q1];exact q2)];exact q1,q2⟩
def vn {b:TC}{Q:EX->St->Prop}(i es:Nat)(hi:look s.t i=.nils)(hf:s.fs.H s.n=.free)(h:qS P c b Q (s.named i es)):qS P c b Q s :=
 fun code he g a w hR=>h code he _ a w (hR.named hi hf)
end
section
variable {P:Program}{w:World}
def Eo (P:Program)(c:Cx)(k:PK)(xs:List TV)(vs:List AV)(r:AV):Prop :=
 ∀ (o:Oper) (ys:List Operand),Xs P o=some (k,ys)→ys.map aP=xs→∀ (g:Nat→GM) (W:Nat→Prop) (a:Act) (w:World),(∀ i,W i→i < w.heap.size)→(∀ i,VR (fun _=>.un) W w (c.gl i) (.pointer (some ⟨i,0,none⟩)))→bR g W w vs (ys.map a.eval) →
  ∀ (K:Act->World->Prop) (Q:Exit->Act->World->Prop),(∀ v w',Fr w w' (fun _=>False)->VR g W w' r v->K (a.put o.dst v) w')->o.wp P a w K Q
theorem Xgb {c:Cx}{s:St}{d:Option Nat}{k:PK}{xs:List TV}{gd:Option (Nat×Bool)}{args:List AV}{r:AV}(aS:Ut c.gl s.fs xs gd)(aM:(aC c.gl s.fs xs).map Qh=args)
  (hq:ob (gB s.fs gd) (Eo P c k xs args r)):Kn P c (.pd d k xs gd) s.fs (Yz d xs gd) (s.cd d (cw (gB s.fs gd) r)).fs:=by
 intro ops io he;obtain ⟨aV,a8,hd,ys,aD,rfl⟩:=Zj he;have ju:(s.cd d (cw (gB s.fs gd) r)).fs=match d with|some d=>s.fs.put d (cw (gB s.fs gd) r)|none=>s.fs:=by
  cases d with
  | none=>rfl
  | some d=>exact St.bS _ _ _
 rw[ju];refine ⟨fun i hi=>?_,fun b _=>by cases d<;>rfl,?_⟩
 ·cases d with
  | none=>rfl
  | some d=>show (s.fs.put d _).T i=_;rw[FS.dE,aa (fun e=>hi (by simp[Yz,e]))]
 ·intro s2 hT hH g a w hR K Q' hK;have bj:aC c.gl s2 (ys.map aP)=aC c.gl s.fs (ys.map aP):=Ya fun i hi=>hT i (by simp[Yz,hi]);have hg:∀ t b,gd=some (t,b)->s2.T t=s.fs.T t:=fun t b e=>hT t (by simp[Yz,e,jU]);have jV:gB s2 gd=gB s.fs gd:=by
   cases gd with
   | none=>rfl
   | some p=>obtain ⟨t,b⟩:=p;simp only[gB,hg t b rfl]
  have jW:gn s2 gd:=by
   have:=aS.1;cases gd with
   | none=>exact this
   | some p=>obtain ⟨t,b⟩:=p;simpa only[gn,hg t b rfl] using this
  have m8:∀ v w',Fr w w' (fun _=>False)->VR g (Qm c g s2) w' (cw (gB s.fs gd) r) v->K (a.put io.dst v) w':=fun v w' hf hv=>by
   rw[a8];have bc:=hR.grow hf;cases d with
   | none =>
    refine hK g _ w' ?_;have:dA s2 s.fs (Yz none (ys.map aP) gd)=s2:=by unfold dA Yz;simp
    simp only[this];exact bc
   | some d =>
    refine hK g _ w' ?_;show R c g (dA s2 (s.fs.put d _) ⟨jU gd++Xf (ys.map aP),[],[d],[]⟩) _ _;rw[yM];exact bc.put (by simpa using hd) hv
  unfold Uj;rw[wN aV hR jW,jV];have run:(∀ b,gB s.fs gd=some b->b=true)->io.wp P a w K Q':=by
   intro hb;have gX:Qq none (aC c.gl s2 (ys.map aP)):=by
    rw[bj];have:=aS.2;cases bW:gB s.fs gd with
    | none=>rw[bW]at this;exact this
    | some b=>rw[bW]at this;exact BD (hb b bW) this
   have dd:Eo P c k (ys.map aP) args r:=by
    cases bW:gB s.fs gd with
    | none=>rw[bW]at hq;exact hq
    | some b=>rw[bW]at hq;exact hq (hb b bW)
   have hv:=Yi (hR.ci ys) gX;rw[bj,aM]at hv;have hX:∀ k,Qm c g s2 k->k<w.heap.size:=by
    rintro k (h|⟨b',hl,fF⟩)
    ·have:=(hR.xs k h).1;have:=hR.fr.size;omega
    ·exact BR.lt (fF ▸ hR.h b') hl
   refine dd io ys aD rfl g _ a w hX (fun i=>(hR.gl i)) hv K Q' fun v w' hf ea=>?_;refine m8 v w' hf ?_;cases bW:gB s.fs gd with
   | none=>exact ea
   | some b=>exact .dU (fun _=>ea) fun h=>by rw[hb b bW]at h;cases h
  cases bW:gB s.fs gd with
  | none=>simp only[Option.getD_none,if_true];exact run fun b h=>by rw[bW]at h;cases h
  | some b =>
   cases b with
   | true=>simp only[Option.getD_some,if_true];exact run fun b h=>by rw[bW]at h;cases h;rfl
   | false =>
    simp only[Option.getD_some,Bool.false_eq_true,if_false];refine m8 undef w (Fr.refl _ _) ?_;rw[bW];exact .dU (fun h=>by cases h) fun _=>rfl
def Oc {c:Cx}{r0:List bD}{K:St->Prop}{s:St}{d:Option Nat}{k:PK}{xs:List TV}{gd:Option (Nat×Bool)}{args:List AV}{r:AV}(aM:(aC c.gl s.fs xs).map Qh=args)(hq:Eo P c k xs args r)
  (aS:Ut c.gl s.fs xs gd/\XP P c r0 K (s.cd d (cw (gB s.fs gd) r))):Yn P c (.pd d k xs gd) r0 K s:=.inl ⟨_,_,Xgb aS.1 aM (y9 hq),aS.2⟩
def zw:AV->Option Bool
 | .isl _ (_::_)=>some false
 | .lit (.slice a _ _)=>some a.isNone
 | _=>none
def Xw7 {g:Nat->GM}{W:Nat->Prop}{x:AV}{v:Value}  (hx:VR g W w x v)(h:zw x=some b):∃ a n cap,v=.slice a n cap/\a.isNone=b:=by
 unfold zw at h;split at h
 ·obtain ⟨a,cap,us,rfl,_,_,h3,_⟩:=uP hx;obtain ⟨k,o,rfl,_⟩:=h3 0 aw;cases h;exact ⟨_,_,_,rfl,rfl⟩
 ·cases h;cases hx;exact ⟨_,_,_,rfl,rfl⟩
 ·cases h
def Xaw (w:World)(t e:TypeId)(a:Option Addr)(l c:Nat)(h:P.underlying t=some (.slice e)):(binOp .eql t (.slice a l c) (.slice none 0 0)).run P w=.ok (.bool a.isNone) w:=by
 simp only[binOp];simp[run_equal_slice_nil w t e a l c h]
def Xyc {y:Operand}(h:aP y=.c .nils):y=.const (.slice none 0 0):=by
 cases y with
 | const v =>
  simp only[aP,TV.c.injEq]at h;cases v<;>simp only[uM,fE]at h<;>first|(cases h;done)|skip
  all_goals split at h
  all_goals first|(cases h;done)|rfl|(simp at h;obtain ⟨rfl,rfl,rfl⟩:=h;rfl)|simp_all
 | _=>simp[aP]at h
def Xws {ne:Bool}{t e:TypeId}{x:TV}{v:AV}  (ht:P.underlying t=some (.slice e))(hb:zw v=some b):Eo P c (.cA ne t) [x,.c .nils] [v,.nils] (.bool (ne != b)):=by
 intro o ys aD n5 g W a w _ _ hv K Q hK;obtain ⟨x',y',u,hop,rfl⟩:=Vm aD;simp only[List.map_cons,List.map_nil,List.cons.injEq,and_true]at n5;have hy:=Xyc n5.2;subst hy;obtain ⟨hx,_,_⟩:=hv;obtain ⟨ad,n,cap,WD,rfl⟩:=Xw7 hx hb;have ey:a.eval (.const (.slice none 0 0))=.slice none 0 0:=rfl;have run:(execOp a.eval o).run P w=.ok (.value (.bool (ne != ad.isNone))) w:=by
  unfold execOp;cases ne
  ·simp only[hop,WD,ey,cond_false,Sem.run_bind];simp[eqGuard,Xaw w t e ad n cap ht]
  ·simp only[hop,WD,ey,cond_true,Sem.run_bind];simp[eqGuard,run_neq_slice_nil w t e ad n cap ht]
 unfold Oper.wp;rw[run];exact hK _ _ (Fr.refl _ _) (.bool _)
def WE {zs:List AV}:nh P c (.yK es 0 zs []) [] .nils:=by
 intro o ys aD g W a w _ _ hv K Q hK;obtain ⟨t,e,i,z,parts,hop,hu,hi,hz,lE,eW,qV,h24,NH,rfl,rfl,ef,rfl⟩:=VL aD;have hp:parts=#[]:=by
  have:=congrArg List.length ef;simp at this;exact Array.eq_empty_of_size_eq_zero this.symm
 subst hp;have run:(execOp a.eval o).run P w=.ok (.value (.slice (some ⟨w.heap.size,0,none⟩) 0 0)) (w.alloc (.cells #[] e)):=by
  unfold execOp;simp only[hop,Sem.run_bind];simp[Instr.buildSlice,run_underlying hu,sizeOf,typeInfo,hi,Instr.fill,newRow];have:(Array.map (fun x:Nat=>(default:Value)) (Array.range 0))=#[]:=Array.eq_empty_of_size_eq_zero aw;rw[this]
 unfold Oper.wp;rw[run];exact hK _ _ (Fr.alloc _ _ _) (.nils _)
def GS.empty {gl:Nat->AV}{f:FuncId}  {cs:List AV}(h1:∀ cap,GS P gl f [.lit (.slice none 0 cap)] [] 0 .nils [] 0)(h2:∀ a cap,GS P gl f [.lit (.slice (some a) 0 cap)] [] 0 (.sl es 0 0 0 0) [(0,.cells [])] 1):GS P gl f [.isl 0 cs] [] 0 (.sl es 0 0 0 0) [(0,.cells [])] 1:=by
 refine ⟨(h1 0).1,fun w vs G X g hR hv=>?_⟩;cases vs with
 | nil=>exact hv.elim
 | cons v vs =>
 cases vs with
 | cons _ _=>exact hv.2.elim
 | nil =>
 obtain ⟨hv,_⟩:=hv;obtain ⟨a,cap,us,rfl,_⟩:=uP hv;cases a with
 | some a=>exact (h2 a cap).2 w [.slice (some a) 0 cap] G X g hR ⟨.lit _,trivial⟩
 | none =>
  refine ((h1 cap).2 w [.slice none 0 cap] G X g hR ⟨.lit _,trivial⟩).mono ?_;rintro e w' ⟨v,g',rfl,bc,_,pW⟩;have gp:R ⟨1,w,G,X,gl,[]⟩ g' (⟨[(0,.nils)],[],0⟩:St).fs ⟨#[v],[]⟩ w':=by
   refine ⟨rfl,rfl,fun i=>?_,bc.gl,bc.h,bc.inj,bc.old,bc.fr,bc.xs,fun p hp=>by cases hp⟩;show VR g' _ w' (look [(0,.nils)] i) _;rw[Jk];split
   ·rename_i hi;subst hi;exact pW
   ·exact .any _
  have cq:=gp.named (i:=0) (es:=es) rfl rfl;exact ⟨v,_,rfl,⟨rfl,rfl,fun i=>.any _,cq.gl,cq.h,cq.inj,cq.old,cq.fr,cq.xs,fun p hp=>by cases hp⟩,fun b hb=>by omega,cq.t 0⟩
end
end Go.Proofs.YtogckmommodmhaaGreatDoor
