import Derived.Test.YtogckmommodmhaaGreatDoorZx4
import Derived.Test.YtogckmommodmhaaGreatDoorZx2
import Derived.LaidMore
import Derived.Stop.Joined
namespace Go.Proofs.YtogckmommodmhaaGreatDoor
open List (mem_singleton mem_cons map_cons map_nil getElem?_eq_getElem append_nil getElem_mem mem_map mem_range length_map mem_append mem_append_right)
open Go.RowKit
set_option linter.all false
set_option maxRecDepth 100000
variable {anc li:List Nat}{o:Oper}{r0:List bB}{zs:List AV}{d:Option Nat}{xs:List TV}{gd:Option (Nat×Bool)}(gl:Nat->AV)(s:FS)(σ:Nat->Nat)(cs:List AV)(v:Value)(es:Nat)(l:List UInt8)(kb:Option Nat)(m:Nat)(rs:List RS)(b:Bool)(n:Nat)(ds:List AV)
section
variable {P:Program}{c:Cx}{ops:Array Oper}{io:Oper}
def VN (i:Nat):(s.cK kb).T i=s.T i:=by cases kb<;>rfl
def VO (j:Nat):(s.cK kb).H j=if kb=some j then .dead else s.H j:=by
 cases kb with
 | none=>rfl
 | some b=>simp only[FS.cK,FS.a8,Option.some.injEq]
def Yax {s s2:FS}{nm d:Nat}{kb:Option Nat}{X:Bk}{V:AV}{rt rb:List Nat}:dB s2 (((s.cK kb).aI nm X).put d V) ⟨rt,rb,[d],nm::kb.toList⟩=((s2.cK kb).aI nm X).put d V:=by
 refine pj (fun i=>?_) fun j=>?_
 ·show (if i ∈ [d] then _ else _)=_;simp only[FS.dF,mem_singleton];by_cases h:i=d
  ·subst h;simp
  ·rw[aa h,aa fun e=>h e.symm];show _=(s2.cK kb).T i;rw[VN]
 ·show (if j ∈ nm::kb.toList then (((s.cK kb).aI nm X).put d V).H j else s2.H j)=_;simp only[FS.rR,FS.a8,VO,mem_cons,Option.mem_toList];by_cases h:nm=j
  ·subst h;simp
  ·simp only[aa h,aa (fun e:j=nm=>h e.symm),false_or,(fun e=>h e.symm:¬ j=nm)];by_cases hk:kb=some j
   ·subst hk;simp
   ·have M3:¬ j ∈ kb:=fun e=>hk e;simp[hk,M3];exact fun e=>absurd e.symm h
def IF {s:FS}{nm d:Nat}{kb:Option Nat}{X:List AV}{V:AV}{rt rb:List Nat}(hg:io.guard=none)(bb:io.dst=some d)(hd:d<c.N)
  (core:∀ s2:FS,(∀ i ∈ rt,s2.T i=s.T i)->(∀ b ∈ rb,s2.H b=s.H b)->∀ g a w,R c g s2 a w->∃ g' v' w',(execOp a.eval io).run P w=.ok (.value v') w'/\R c g' ((s2.cK kb).aI nm (.cells X)) a w'/\VR g' (Qm c g' ((s2.cK kb).aI nm (.cells X))) w' V v') :
  kL P c ops io s ⟨rt,rb,[d],nm::kb.toList⟩ (((s.cK kb).aI nm (.cells X)).put d V):=by
 refine ⟨fun i hi=>?_,fun j hj=>?_,fun s2 hT hH g a w hR K Q' hK=>Ze hg ?_⟩
 ·rw[FS.dF,aa (fun e=>hi (by simp[e]))];exact VN s kb i
 ·rw[FS.rR,FS.a8,VO,aa (fun e=>hj (by simp[e])),aa (fun e=>hj (by simp[e]))]
 ·obtain ⟨g',v',w',hr,bh,hv⟩:=core s2 hT hH g a w hR;unfold Oper.wp;rw[hr];show K (a.put io.dst v') w';rw[bb];refine hK g' _ w' ?_;rw[Yax];exact bh.put hd hv
def VP {es jr:Nat}{str:Bool}{xs:List Operand}(h:Xt P o=some (.app es jr str,xs)) :
  ∃ x y t u e i z,xs=[x,y]/\o.op=.call ⟨.builtin .append,⟨[x,y]⟩,⟨[t,u]⟩⟩/\P.underlying t=some (.slice e)/\P.info? e=some i/\i.zero=some z/\z.cells.size=i.size/\i.size=es/\i.bytes=jr/\(u=t\/P.underlying u=some .string):=by
 unfold Xt at h
 repeat' split at h
 all_goals first
  | (cases h;exact ⟨_,_,_,_,_,_,_,rfl,by assumption,by assumption,by assumption,by assumption,(by rename_i hc _;exact hc.1),rfl,rfl,.inl (by assumption)⟩)
  | (cases h;exact ⟨_,_,_,_,_,_,_,rfl,by assumption,by assumption,by assumption,by assumption,(by rename_i hc _ _ _;exact hc.1),rfl,rfl,.inr (by assumption)⟩)
  | (simp at h;done)
  | (cases h;done)
  | (simp[Option.map_eq_some_iff]at h;done)
  | trace_state
def IG (s:FS)(es jr:Nat)(str:Bool)(nm:Nat):List AV->Prop
 | [vb,vx]=>vi s es vb/\my s es str vx/\s.H nm=.free/\Xf vb+Xf vx<=9223372036854775807/\(Xf vb+Xf vx)*jr<=140737488355328
 | _=>False
def NT (es nm:Nat):List AV->AV
 | [vb,vx]=>.sl es nm 0 (Xf vb+Xf vx) (Xf vb+Xf vx)
 | _=>.any
def Em (s:FS)(es:Nat):List AV->List AV
 | [vb,vx]=>Xu s es vb++Xu s es vx
 | _=>[]
def II:List AV->Option Nat
 | vb::_=>j5 vb
 | []=>none
def En:List AV->List Nat
 | [vb,vx]=>(j5 vb).toList++(j5 vx).toList
 | _=>[]
def St.cK (s:St):Option Nat->St
 | some b=>s.aI b .dead
 | none=>s
def St.rZ (s:St)(kb:Option Nat):(s.cK kb).fs=s.fs.cK kb:=by
 cases kb with
 | none=>rfl
 | some b=>exact St.cg _ _ _
def St.vj (s:St)(kb:Option Nat):(s.cK kb).n=s.n:=by cases kb<;>rfl
def IJ {s s2:FS}{es:Nat}{x:AV}(h:∀ b,j5 x=some b->s2.H b=s.H b):Xu s2 es x=Xu s es x:=by
 cases x<;>simp only[Xu]
 rename_i b o n cc;rw[h _ rfl]
def VQ {s s2:FS}{es:Nat}{str:Bool}{x:AV}(h:∀ b,j5 x=some b->s2.H b=s.H b)(ok:my s es str x):my s2 es str x:=by
 cases x<;>simp only[my]at ok ⊢<;>try exact ok
 rw[h _ rfl];exact ok
def Qx2 {s s2:FS}{es:Nat}{x:AV}(h:∀ b,j5 x=some b->s2.H b=s.H b)(ok:vi s es x):vi s2 es x:=by
 cases x<;>simp only[vi]at ok ⊢<;>try exact ok
 rw[h _ rfl];exact ok
def IK (s:St)(gl:Nat->AV)(d:Nat)(xs:List TV):bc:=⟨Xe xs,s.n::En ((aD gl s.fs xs).map Qh),[d],s.n::(II ((aD gl s.fs xs).map Qh)).toList⟩
def Eo (s:St)(gl:Nat->AV)(d es:Nat)(xs:List TV):St:=((s.cK (II ((aD gl s.fs xs).map Qh))).nw (.cells (Em s.fs es ((aD gl s.fs xs).map Qh)))).put d (NT es s.n ((aD gl s.fs xs).map Qh))
def VS {s:St}{d es jr:Nat}{str:Bool}  (hc:Qr none (aD c.gl s.fs xs))(aS:IG s.fs es jr str s.n ((aD c.gl s.fs xs).map Qh)) :
  Ki P c (.pd (some d) (.app es jr str) xs none) s.fs (IK s c.gl d xs) (Eo s c.gl d es xs).fs:=by
 intro ops io he;obtain ⟨aX,bb,hd,ys,aE,rfl⟩:=Zm he;obtain ⟨x,y,t,u,e,i,z,rfl,hop,hu,hi,hz,lN,dj,rY,NU⟩:=VP aE;have ec:(aD c.gl s.fs ([x,y].map aP)).map Qh=[Qh (aV c.gl s.fs (aP x)),Qh (aV c.gl s.fs (aP y))]:=rfl;unfold IK Eo;rw[ec]at aS ⊢;generalize hvb:Qh (aV c.gl s.fs (aP x))=vb at *
 generalize VT:Qh (aV c.gl s.fs (aP y))=vx at *
 obtain ⟨ID,zu,bq,rh,hb⟩:=aS;rw[St.bU,St.iC,St.rZ,St.vj];simp only[II,Em,NT,En];refine IF (Jj aX) bb (by simpa using hd) fun s2 hT hH g a w hR=>?_;have bj:aD c.gl s2 ([x,y].map aP)=aD c.gl s.fs ([x,y].map aP):=Yd hT;have eR:=Yk (hR.ci [x,y]) (by rw[bj];exact hc);rw[bj,ec]at eR;obtain ⟨v1,v2,_⟩:=eR;have tQ:∀ b,j5 vb=some b->s2.H b=s.fs.H b:=fun b h=>hH b (by simp[h]);have Ep:∀ b,j5 vx=some b->s2.H b=s.fs.H b:=fun b h=>hH b (by simp[h]);obtain ⟨g',v',w',hr,h1,h2⟩:=Xx8 (P:=P) (ty:=io.type) hR (nm:=s.n) (by rw[hH _ av];exact bq) hu NU hi hz dj (lN.trans dj) v1 v2 (Qx2 tQ ID) (VQ Ep zu) (by unfold maxLen;omega) (by rw[rY];exact hb);rw[IJ tQ,IJ Ep]at h1 h2;refine ⟨g',v',w',?_,h1,h2⟩;unfold execOp;simp only[hop,resolve,invoke,builtin,Sem.run_bind,Sem.run_pure,Result.andThen_ok,List.map_toArray,map_cons,map_nil,hr]
def w8 {K:St->Prop}{s:St}{d es jr:Nat}{str:Bool}  (h:Qr none (aD c.gl s.fs xs)/\IG s.fs es jr str s.n ((aD c.gl s.fs xs).map Qh)/\XP P c r0 K (Eo s c.gl d es xs)) :
  Yo P c (.pd (some d) (.app es jr str) xs none) r0 K s:=.inl ⟨_,_,VS h.1 h.2.1,h.2.2⟩
def w9 {fs:List bc}  {K:St->Prop}{s:St}{d es jr:Nat}{str:Bool}  (h:Qr none (aD c.gl s.fs xs)/\IG s.fs es jr str s.n ((aD c.gl s.fs xs).map Qh)/\XD P c anc r0 (IK s c.gl d xs::fs) K (Eo s c.gl d es xs)) :
  Yz P c anc (.pd (some d) (.app es jr str) xs none) r0 fs K s:=⟨_,_,VS h.1 h.2.1,h.2.2⟩
def Xro (v:List (Value×Nat)):∀ (off:Nat) (cs:Array Value),(v.foldl (fun cs (c,j)=>cs.setIfInBounds (off+j) c) cs).size=cs.size:=by
 induction v with
 | nil=>intro off cs;rfl
 | cons p v ih=>intro off cs;rw[List.foldl_cons,ih];simp
def VU {place:Nat->Option (Nat×Nat)}:∀ (l:List (Nat×Value)) (cells cells':Array Value),Instr.fill place cells l=some cells'->cells'.size=cells.size
 | [],cells,cells',h=>by simp[Instr.fill]at h;rw[h]
 | (i,v)::l,cells,cells',h=>by
   unfold Instr.fill at h;split at h
   ·cases h
   ·split at h
    ·cases h
    ·rw[VU l _ _ h];rw[<- Array.foldl_toList];exact Xro _ _ _
def Qqs {place:Nat->Option (Nat×Nat)}{cells cells':Array Value}{l:List (Nat×Value)}(h:Instr.fill place cells l=some cells'):cells'.size=cells.size:=VU l cells cells' h
def kU:Nat->List AV->List AV
 | 0,_=>[]
 | n+1,z=>z++kU n z
def VV (z:List AV):∀ n,(kU n z).length=n*z.length
 | 0=>by simp[kU]
 | n+1=>by simp[kU,VV z n,Nat.add_mul];omega
def VW (z:List AV):∀ n j,j<n*z.length->(kU n z).getD j .any=z.getD (j%z.length) .any
 | 0,j,h=>by simp at h
 | n+1,j,h=>by
  simp only[kU,List.getD];by_cases hj:j<z.length
  ·rw[List.getElem?_append_left hj,Nat.mod_eq_of_lt hj]
  ·rw[List.getElem?_append_right af];have h2:j - z.length < n * z.length:=by rw[Nat.add_mul]at h;omega
   have ih:=VW z n (j-z.length) h2;simp only[List.getD]at ih;rw[ih,<- Nat.mod_eq_sub_mod af]
def VX {es len:Nat}  {ps:List (Nat×Nat)}{xs:List Operand}(h:Xt P o=some (.yW es len zs ps,xs)) :
  ∃ t e i z parts,o.op=.buildSlice t len parts∧P.underlying t=some (.slice e)∧P.info? e=some i∧i.zero=some z∧z.cells.size=i.size∧0 < i.size∧z.cells.all (·.oneCell')=true∧len * i.size≤2 ^ 24∧len≤2 ^ 24 ∧
   es=i.size/\zs=z.cells.toList.map fM/\ps=parts.toList.map (fun p=>(p.1*i.size,i.size))/\xs=parts.toList.map (·.2):=by
 unfold Xt at h
 repeat' split at h
 all_goals first
  | (simp only[Option.some.injEq,Prod.mk.injEq,PK.yW.injEq]at h;obtain ⟨⟨rfl,rfl,rfl,rfl⟩,rfl⟩:=h
     rename_i hc;exact ⟨_,_,_,_,_,by assumption,by assumption,by assumption,by assumption,hc.1,hc.2.1,hc.2.2.1,hc.2.2.2.1,hc.2.2.2.2,rfl,rfl,rfl,rfl⟩)
  | (simp at h;done)
  | (cases h;done)
  | (simp[Option.map_eq_some_iff]at h;done)
def VY {s:St}{d es len:Nat}  {ps:List (Nat×Nat)}  (hc:Qr none (aD c.gl s.fs xs))(hlen:0<len)(bq:s.fs.H s.n=.free)(aS:Zf (kU len zs).length ps ((aD c.gl s.fs xs).map Qh)) :
  Ki P c (.pd (some d) (.yW es len zs ps) xs none) s.fs ⟨Xe xs,[s.n],[d],[s.n]⟩ ((s.nw (.cells (Jg (kU len zs) ps ((aD c.gl s.fs xs).map Qh)))).put d (.sl es s.n 0 len len)).fs:=by
 intro ops io he;obtain ⟨aX,bb,hd,ys,aE,rfl⟩:=Zm he;obtain ⟨t,e,i,z,parts,hop,hu,hi,hz,lN,fa,rk,h24,NV,rfl,rfl,rfl,rfl⟩:=VX aE;rw[St.bU,St.iC];refine IF (kb:=none) (Jj aX) bb (by simpa using hd) fun s2 hT hH g a w hR=>?_;have bj:=Yd (gl:=c.gl) hT;have eR:=Yk (hR.ci (parts.toList.map (·.2))) (by rw[bj];exact hc);rw[bj]at eR;have iU:s2.H s.n=.free:=by rw[hH _ av,bq]
 have NW:(z.cells.toList.map fM).length=i.size:=by simp[lN]
 have fQ:(kU len (z.cells.toList.map fM)).length=len*i.size:=by rw[VV,NW]
 have aY:((Array.range (len*i.size)).map (z.cells[· % z.cells.size]!)).size=len*i.size:=by simp
 have IL:∀ j,j<len*i.size->((Array.range (len*i.size)).map (z.cells[· % z.cells.size]!)).getD j undef=z.cells.getD (j%i.size) undef:=fun j hj=>by
  have hm:=Nat.mod_lt j fa;simp[Array.getD_eq_getD_getElem?,hj,lN,hm]
 have h1z:∀ j,j<i.size->(z.cells.getD j undef).oneCell'=true:=fun j hj=>by
  have:=Array.all_eq_true.1 rk j af;simpa [Array.getD_eq_getD_getElem?,show j<z.cells.size by omega] using this
 have hgz:∀ j,j<i.size->(z.cells.toList.map fM).getD j .any=fM (z.cells.getD j undef):=fun j hj=>by
  simp[List.getD,Array.getD_eq_getD_getElem?,show j<z.cells.size by omega]
 obtain ⟨cells',f1,f2⟩:=MJ (g:=g) (W:=Qm c g s2) (w:=w) (place:=fun j=>some (j * i.size,i.size)) (parts.toList.map fun (p:Nat × Operand)=>(p.1 * i.size,i.size)) (parts.toList.map (fun (p:Nat × Operand)=>p.1)) av eR av (cs:=kU len (z.cells.toList.map fM)) (cells:=(Array.range (len * i.size)).map (z.cells[· % z.cells.size]!)) aS (by rw[aY,fQ])
  (fun j hj=>by rw[fQ]at hj;rw[IL j hj];exact h1z _ (Nat.mod_lt _ fa)) (fun j hj=>by
   rw[fQ]at hj;rw[IL j hj,VW _ _ _ (by rw[NW];exact hj),NW,hgz _ (Nat.mod_lt _ fa)];exact HV _)
 obtain ⟨us,eu,q1,q2,q3⟩:=Uq f2;cases eu;have Ic:(parts.map fun (p:Nat×Operand)=>(p.1,a.eval p.2)).toList=(parts.toList.map (·.1)).zip ((parts.toList.map (·.2)).map a.eval):=by
  simp only[Array.toList_map]
  induction parts.toList with
  | nil=>rfl
  | cons p l ih=>simp[ih]
 have hbl:(Jg (kU len (z.cells.toList.map fM)) (parts.toList.map fun p=>(p.1*i.size,i.size)) ((aD c.gl s.fs ((parts.toList.map (·.2)).map aP)).map Qh)).length=len*i.size:=by
  rw[<- q1];have:=Qqs f1;rw[this,aY]
 have hr:=run_buildSlice (P:=P) w t e len (parts.map fun (j,x)=>(j,a.eval x)) cells' i z hu hi hz af (Nat.ne_of_gt (Nat.mul_pos hlen fa)) (by rw[<- Ic]at f1;exact f1);have jY:∀ k,Qm c g s2 k->k<w.heap.size:=by
  rintro k (h|⟨b',hl,fN⟩)
  ·have:=(hR.xs k h).1;have:=hR.fr.size;omega
  ·exact BR.lt (fN ▸ hR.h b') hl
 have cz:=heap_alloc_new w (.cells cells' e);have bh:=hR.new (b:=s.n) (x:=.cells (Jg (kU len (z.cells.toList.map fM)) (parts.toList.map fun p=>(p.1*i.size,i.size)) ((aD c.gl s.fs ((parts.toList.map (·.2)).map aP)).map Qh))) (.cells cells' e) iU trivial fun g' fN =>
  .cells (cur:=cells') (e:=e) (fz:=(0,0)) cz af q2 (fun j hj=>(q3 j hj).mono (Fr.alloc w _ _) (fun k hk h=>h.resolve_right af) fN) (.inl rfl)
 refine ⟨_,_,_,?_,bh,.sl (k:=w.heap.size) (e:=e) (cur:=cells') (fz:=(0,0)) Cd (Nat.le_refl _) (Nat.le_refl _) (by unfold maxLen;omega) cz (by rw[q1,hbl];omega)⟩;unfold execOp;simp only[hop,Sem.run_bind,hr,Result.andThen_ok,Sem.run_pure]
def xc {r0:List bB}{K:St->Prop}{s:St}{d es len:Nat}{zs:List AV}{ps:List (Nat×Nat)}{xs:List TV}(h:Qr none (aD c.gl s.fs xs)/\0<len/\s.fs.H s.n=.free/\Zf (kU len zs).length ps ((aD c.gl s.fs xs).map Qh) /\
  XP P c r0 K ((s.nw (.cells (Jg (kU len zs) ps ((aD c.gl s.fs xs).map Qh)))).put d (.sl es s.n 0 len len))):Yo P c (.pd (some d) (.yW es len zs ps) xs none) r0 K s:=.inl ⟨_,_,VY h.1 h.2.1 h.2.2.1 h.2.2.2.1,h.2.2.2.2⟩
def xd {anc:List Nat}{fs:List bc}{r0:List bB}{K:St->Prop}{s:St}{d es len:Nat}{zs:List AV}{ps:List (Nat×Nat)}{xs:List TV}(h:Qr none (aD c.gl s.fs xs)/\0<len/\s.fs.H s.n=.free/\Zf (kU len zs).length ps ((aD c.gl s.fs xs).map Qh) /\
  XD P c anc r0 (⟨Xe xs,[s.n],[d],[s.n]⟩::fs) K ((s.nw (.cells (Jg (kU len zs) ps ((aD c.gl s.fs xs).map Qh)))).put d (.sl es s.n 0 len len))):Yz P c anc (.pd (some d) (.yW es len zs ps) xs none) r0 fs K s:=⟨_,_,VY h.1 h.2.1 h.2.2.1 h.2.2.2.1,h.2.2.2.2⟩
def Xz6 {xs:List Operand}(h:Xt P o=some (.DO,xs)):∃ src dst e x,o.op=.convert src dst x/\P.underlying src=some .string/\P.underlying dst=some (.slice e)/\P.underlying e=some (.int .u8)/\xs=[x]:=by
 unfold Xt at h
 repeat' split at h
 all_goals first
  | (simp only[Option.some.injEq,Prod.mk.injEq,true_and]at h;subst h;exact ⟨_,_,_,_,by assumption,by assumption,by assumption,by assumption,rfl⟩)
  | (simp at h;done)
  | (cases h;done)
  | (simp[Option.map_eq_some_iff]at h;done)
def Er:AV->Prop
 | .str _=>True
 | _=>False
def VZ {s:St}{d:Nat}{x:TV}(hc:fh none (aV c.gl s.fs x))(bq:s.fs.H s.n=.free)(aS:Er (Qh (aV c.gl s.fs x))/\(cV (Qh (aV c.gl s.fs x))).length<=9223372036854775807) :
  Ki P c (.pd (some d) .DO [x] none) s.fs ⟨Xe [x],[s.n],[d],[s.n]⟩ ((s.nw (.cells (Xi (cV (Qh (aV c.gl s.fs x)))))).put d (.sl 1 s.n 0 (cV (Qh (aV c.gl s.fs x))).length (cV (Qh (aV c.gl s.fs x))).length)).fs:=by
 intro ops io he;obtain ⟨aX,bb,hd,ys,aE,og⟩:=Zm he;obtain ⟨src,dst,e,y,hop,hs,zx,hee,rfl⟩:=Xz6 aE;simp only[map_cons,map_nil,List.cons.injEq,and_true]at og;subst og;rw[St.bU,St.iC];refine IF (kb:=none) (Jj aX) bb (by simpa using hd) fun s2 hT hH g a w hR=>?_;have js:aV c.gl s2 (aP y)=aV c.gl s.fs (aP y):=by
  have:=Yd (gl:=c.gl) (xs:=[aP y]) hT;simpa [aD] using this
 have hv:=DR (hR.ev y) (by rw[js];exact hc);rw[js]at hv;obtain ⟨h1,h2⟩:=aS;generalize Qh (aV c.gl s.fs (aP y))=v at *
 cases v<;>simp only[Er]at h1
 rename_i l;simp only[cV]at h2 ⊢;have iU:s2.H s.n=.free:=by rw[hH _ av,bq]
 generalize hy:a.eval y=uy at hv;cases hv;have hr:=run_bytes_of_string (P:=P) w src dst e ⟨l.toArray⟩ hs zx hee;have cE:(⟨l.toArray⟩:ByteArray).size=l.length:=rfl;rw[cE]at hr;generalize hcap:grownCap w l.length 0 e=cap at hr;have jY:l.length<=cap:=by rw[<- hcap];exact HP w _ _ _
 have hle:cap<=maxLen:=by rw[<- hcap];exact grownCap_le_maxLen w _ _ _ (by unfold maxLen;omega)
 have V0:(bytesRow ⟨l.toArray⟩ cap).size=cap:=by simp[bytesRow,cE];omega
 have V1:∀ j (hj:j<l.length),(bytesRow ⟨l.toArray⟩ cap).getD j undef=.int .u8 (l[j]).toNat:=fun j hj=>by
  have:=bytesRow_at ⟨l.toArray⟩ cap j (by simpa using hj);rw[Array.getD_eq_getD_getElem?,this];simp
 have Ce:R c g s2 a w.drew:=hR.grow (Fr.drew w _);have n8a:∀ k,Qm c g s2 k->k<w.drew.heap.size:=by
  rintro k (h|⟨b',hl,fN⟩)
  ·have:=(Ce.xs k h).1;have:=Ce.fr.size;omega
  ·exact BR.lt (fN ▸ Ce.h b') hl
 have cz:=heap_alloc_new w.drew (.cells (bytesRow ⟨l.toArray⟩ cap) e ((bytesRow ⟨l.toArray⟩ cap).size,(bytesRow ⟨l.toArray⟩ cap).size+1));have hbl:(Xi l).length=l.length:=Vp l;have bh:=Ce.new (b:=s.n) (x:=.cells (Xi l)) (.cells (bytesRow ⟨l.toArray⟩ cap) e ((bytesRow ⟨l.toArray⟩ cap).size,(bytesRow ⟨l.toArray⟩ cap).size+1)) iU trivial fun g' fN=>by
  refine .cells (cur:=bytesRow ⟨l.toArray⟩ cap) (e:=e) cz (by rw[hbl,V0];exact jY) (fun j hj=>?_) (fun j hj=>?_) (.inr (Nat.le_refl _))
  ·rw[V1 j af];rfl
  ·rw[V1 j af,Vq af];simp only[List.getD,getElem?_eq_getElem (show j<l.length by omega),Option.getD_some];exact .int _ _
 refine ⟨_,_,_,?_,bh,.sl (k:=w.heap.size) (e:=e) Cd (Nat.le_refl _) jY hle cz (by rw[V0];omega)⟩;unfold execOp;simp only[hop,hy,Sem.run_bind,hr,Result.andThen_ok,Sem.run_pure]
def xe {r0:List bB}{K:St->Prop}{s:St}{d:Nat}{x:TV}(h:fh none (aV c.gl s.fs x)/\s.fs.H s.n=.free/\(Er (Qh (aV c.gl s.fs x))/\(cV (Qh (aV c.gl s.fs x))).length<=9223372036854775807) /\
  XP P c r0 K ((s.nw (.cells (Xi (cV (Qh (aV c.gl s.fs x)))))).put d (.sl 1 s.n 0 (cV (Qh (aV c.gl s.fs x))).length (cV (Qh (aV c.gl s.fs x))).length))):Yo P c (.pd (some d) .DO [x] none) r0 K s:=.inl ⟨_,_,VZ h.1 h.2.1 h.2.2.1,h.2.2.2⟩
def xf {anc:List Nat}{fs:List bc}{r0:List bB}{K:St->Prop}{s:St}{d:Nat}{x:TV}(h:fh none (aV c.gl s.fs x)/\s.fs.H s.n=.free/\(Er (Qh (aV c.gl s.fs x))/\(cV (Qh (aV c.gl s.fs x))).length<=9223372036854775807) /\
  XD P c anc r0 (⟨Xe [x],[s.n],[d],[s.n]⟩::fs) K ((s.nw (.cells (Xi (cV (Qh (aV c.gl s.fs x)))))).put d (.sl 1 s.n 0 (cV (Qh (aV c.gl s.fs x))).length (cV (Qh (aV c.gl s.fs x))).length))):Yz P c anc (.pd (some d) .DO [x] none) r0 fs K s:=⟨_,_,VZ h.1 h.2.1 h.2.2.1,h.2.2.2⟩
end
theorem Xhv:Xu s es (.isl m ds)=ds.take (m*es):=rfl
theorem Xs3 (es es2 b o m c:Nat):Xu s es (.sl es2 b o m c)=((Zc (s.H b)).drop o).take (m*es):=rfl
theorem Xi3:Xu s es (.str l)=Xi l:=rfl
theorem Xcx:Xu s es .nils=[]:=rfl
theorem Xcp:my s es b (.isl m ds)=(b=false/\m*es<=ds.length):=rfl
theorem Xjd (es es2 k o m c:Nat)(b:Bool):my s es b (.sl es2 k o m c)=(b=false/\es2=es/\o+m*es<=(Zc (s.H k)).length):=rfl
theorem Xb5 (l:List UInt8):my s es b (.str l)=(b=true/\es=1):=rfl
theorem Xb7 (a:Option Addr)(c:Nat):my s es b (.lit (.slice a 0 c))=(b=false):=by simp[my,IB]
theorem Xh5:Xf (.lit v)=0:=rfl
theorem Xj6:j5 (.lit v)=none:=rfl
theorem Xim (v:Value):Xu s es (.lit v)=[]:=rfl
theorem Qxe:my s es b .nils=(b=false):=rfl
theorem Xbh (es es2 b o n c:Nat):vi s es (.sl es2 b o n c)=(es2=es/\o=0/\n*es<=(Zc (s.H b)).length/\(s.H b).live):=rfl
theorem Qun:vi s es .nils=True:=rfl
theorem Xs1 (es b o n c:Nat):j5 (.sl es b o n c)=some b:=rfl
theorem Xbk:j5 .nils=none:=rfl
theorem Xi7 (cs:List AV):j5 (.isl n cs)=none:=rfl
theorem Xiy:j5 (.str l)=none:=rfl
theorem Ye8 (es jr nm:Nat)(b:Bool)(x y:AV):IG s es jr b nm [x,y]=(vi s es x/\my s es b y/\s.H nm=.free/\Xf x+Xf y<=9223372036854775807/\(Xf x+Xf y)*jr<=140737488355328):=rfl
theorem Yge (es nm:Nat)(x y:AV):NT es nm [x,y]=.sl es nm 0 (Xf x+Xf y) (Xf x+Xf y):=rfl
theorem Yh9 (x y:AV):Em s es [x,y]=Xu s es x++Xu s es y:=rfl
theorem Yg1 (x:AV)(r:List AV):II (x::r)=j5 x:=rfl
theorem Yg3 (x y:AV):En [x,y]=(j5 x).toList++(j5 y).toList:=rfl
theorem Yal (s:St)(b:Nat):s.cK (some b)=s.aI b .dead:=rfl
theorem Yb0 (s:St):s.cK none=s:=rfl
theorem Ycu (z:List AV):kU 0 z=[]:=rfl
theorem Yai (z:List AV):kU (n+1) z=z++kU n z:=rfl
theorem Ya8:Er (.str l)=True:=rfl
theorem Ygr:(Bk.cells cs).live=True:=rfl
theorem NY (n:Int)(r:List AV):Xi l++(.int .u8 (IntKind.u8.wrap n)::r)=Xi (l++[UInt8.ofNat (IntKind.u8.wrap n).toNat])++r:=by
 have h0:0<=IntKind.u8.wrap n/\IntKind.u8.wrap n<256:=by rw[IntKind.wrap_u8];omega
 generalize IntKind.u8.wrap n=k at h0 ⊢;simp[Xi];omega
theorem Xn9 {l:List UInt8}{n:Int}{r:List AV}(h0:0<=n)(h1:n<256):Xi l++(.int .u8 n::r)=Xi (l++[UInt8.ofNat n.toNat])++r:=by
 simp[Xi];omega
theorem Xy6:Xi []=[]:=rfl
theorem Xwv:Ql []=[]:=rfl
theorem Xod {l:List Int}{n:Int}{r:List AV}:Ql l++(.int .i64 n::r)=Ql (l++[n])++r:=by simp[Ql]
attribute [go_sem] NQ Xzj Xxf Xtj Xhv Xs3 Xi3 Xcx Xcp Xjd Xb5 Qxe Xb7 Xh5 Xj6 Xim Xbh Qun Xs1 Xbk Xi7 Xiy Ye8 Yge Yh9 Yg1 Yg3 Yal Yb0 Ycu Yai Ya8 Ygr NY Xn9 Xod Xy6 Xwv IK Eo append_nil List.length_append Xvc Xuc
def Ji (r:AV):Prop:=∀ (g g':Nat->GM) (W W':Nat->Prop) (w w':World) (v:Value),VR g W w r v->VR g' W' w' r v
def Ji.int (k:IntKind)(n:Int):Ji (.int k n):=fun _ _ _ _ _ _ _ h=>by cases h;exact .int _ _
def Ji.bool:Ji (.bool b):=fun _ _ _ _ _ _ _ h=>by cases h;exact .bool _
def Ji.str:Ji (.str l):=fun _ _ _ _ _ _ _ h=>by cases h;exact .str _
def Ji.aR {cs:List AV}(h:∀ x ∈ cs,Ji x):Ji (.aR cs):=fun g g' W W' w w' v hv=>by
 obtain ⟨us,rfl,h1,h3⟩:=DJ hv;refine .aR h1 fun j hj=>?_;refine h _ ?_ _ _ _ _ _ _ _ (h3 j hj);simp only[List.getD,getElem?_eq_getElem hj,Option.getD_some];exact getElem_mem hj
def Cg:AV->List Nat
 | .sl _ b _ _ _=>[b]
 | _=>[]
def IM:AV->List Nat
 | .agg cs=>cs.flatMap Cg
 | v=>Cg v
def V2 {s s2:FS}:∀ {v:AV},(∀ b ∈ Cg v,s2.H b=s.H b)->Yv s2 v=Yv s v:=fun {v} h=>by
 cases v<;>simp only[Yv]
 rw[h _ (by simp[Cg])]
def Xkx {s s2:FS}{v:AV}(h:∀ b ∈ IM v,s2.H b=s.H b):Zi s2 v=Zi s v:=by
 cases v<;>simp only[Zi]
 case agg cs =>
  congr 1;refine List.map_congr_left fun x hx=>V2 fun b hb=>h b ?_;simp only[IM,List.mem_flatMap];exact ⟨x,hx,hb⟩
 all_goals exact V2 h
section
variable {P:Program}{c:Cx}
def vl (s:FS)(gl:Nat->AV)(d:Option Nat)(xs:List TV)(gd:Option (Nat×Bool)):bc:=⟨jQ gd++Xe xs,((aD gl s xs).map Qh).flatMap IM,d.toList,[]⟩
def V3 {g g':Nat->GM}{W W':Nat->Prop}{w:World}{f:AV->AV}:∀ {xs:List AV} {vs:List Value},bT g W w xs vs->(∀ x ∈ xs,∀ v,VR g W w x v->VR g' W' w (f x) v)->bT g' W' w (xs.map f) vs
 | [],[],_,_=>trivial
 | x::xs,v::vs,h,k=>⟨k x av v h.1,V3 h.2 fun y hy=>k y (by simp[hy])⟩
 | [],_::_,h,_=>h.elim
 | _::_,[],h,_=>h.elim
theorem V4 {s:St}{d:Option Nat}{f:FuncId}{xs:List TV}{gd:Option (Nat×Bool)}{args:List AV}{r:AV}(aS:Ux c.gl s.fs xs gd)(aM:((aD c.gl s.fs xs).map Qh).map (Zi s.fs)=args)(fU:ah 0 args)(ib:Ji r)
  (eg:ob (gB s.fs gd) (PS P c.gl f args r)):Ki P c (.pd d (.call f) xs gd) s.fs (vl s.fs c.gl d xs gd) (s.ca d (cw (gB s.fs gd) r)).fs:=by
 intro ops io he;obtain ⟨aX,bb,hd,ys,aE,rfl⟩:=Zm he;obtain ⟨ts,hop⟩:=BZ aE;have jx:(s.ca d (cw (gB s.fs gd) r)).fs=match d with|some d=>s.fs.put d (cw (gB s.fs gd) r)|none=>s.fs:=by
  cases d with
  | none=>rfl
  | some d=>exact St.bU _ _ _
 rw[jx];refine ⟨fun i hi=>?_,fun b _=>by cases d<;>rfl,?_⟩
 ·cases d with
  | none=>rfl
  | some d=>show (s.fs.put d _).T i=_;rw[FS.dF,aa (fun e=>hi (by simp[vl,e]))]
 ·intro s2 hT hH g a w hR K Q' hK;have bj:aD c.gl s2 (ys.map aP)=aD c.gl s.fs (ys.map aP):=Yd fun i hi=>hT i (by simp[vl,hi]);have hg:∀ t b,gd=some (t,b)->s2.T t=s.fs.T t:=fun t b e=>hT t (by simp[vl,e,jQ]);have j1:gB s2 gd=gB s.fs gd:=by
   cases gd with
   | none=>rfl
   | some p=>obtain ⟨t,b⟩:=p;simp only[gB,hg t b rfl]
  have j2:gg s2 gd:=by
   have:=aS.1;cases gd with
   | none=>exact this
   | some p=>obtain ⟨t,b⟩:=p;simpa only[gg,hg t b rfl] using this
  have np:∀ v w',Fr w w' (fun _=>False)->VR g (Qm c g s2) w' (cw (gB s.fs gd) r) v->K (a.put io.dst v) w':=fun v w' hf hv=>by
   rw[bb];have bh:=hR.grow hf;cases d with
   | none =>
    refine hK g _ w' ?_;have:dB s2 s.fs (vl s.fs c.gl none (ys.map aP) gd)=s2:=by unfold dB vl;simp
    simp only[this];exact bh
   | some d =>
    refine hK g _ w' ?_;show R c g (dB s2 (s.fs.put d _) ⟨jQ gd++Xe (ys.map aP),_,[d],[]⟩) _ _;rw[yY];exact bh.put (by simpa using hd) hv
  unfold Uo;rw[wS aX hR j2,j1];have run:(∀ b,gB s.fs gd=some b->b=true)->io.wp P a w K Q':=by
   intro hb;have iD:Qr none (aD c.gl s2 (ys.map aP)):=by
    rw[bj];have:=aS.2;cases bZ:gB s.fs gd with
    | none=>rw[bZ]at this;exact this
    | some b=>rw[bZ]at this;exact BL (hb b bZ) this
   have rX:PS P c.gl f args r:=by
    cases bZ:gB s.fs gd with
    | none=>rw[bZ]at eg;exact eg
    | some b=>rw[bZ]at eg;exact eg (hb b bZ)
   have hv:=Yk (hR.ci ys) iD;rw[bj]at hv;have IL:∀ x ∈ (aD c.gl s.fs (ys.map aP)).map Qh,Zi s2 x=Zi s.fs x:=fun x hx=>Xkx fun b hb=>hH b (by simp only[vl,List.mem_flatMap];exact ⟨x,hx,hb⟩);have qa:bT (fun _=>.un) c.X w args (ys.map a.eval):=by
    rw[<- aM]at fU ⊢;refine V3 hv fun x hx v h=>?_;have hn:=Xw.1 fU (Zi s.fs x) (List.mem_map_of_mem hx);rw[<- IL x hx]at hn ⊢;exact Nv hR h hn
   have hX:∀ k,c.X k->k<w.heap.size:=fun k h=>by have:=(hR.xs k h).1;have:=hR.fr.size;omega
   have jS:∀ i,VR (fun _=>.un) c.X w (c.gl i) (.pointer (some ⟨i,0,none⟩)):=fun i=>(hR.gl i).mono (Fr.refl _ _) (fun k _ h=>.inl h) (fun _ _=>rfl);have eB:=rX.2 w _ _ hX jS qa;unfold Oper.wp;rw[B0 rX.1 hop];rw[Oper.upon_enter];refine eB.mono fun e w' ⟨v,e1,e2,e3⟩=>?_;subst e1;refine np v w' e3 ?_;have ec:VR g (Qm c g s2) w' r v:=ib _ _ _ _ _ _ _ e2;cases bZ:gB s.fs gd with
   | none=>exact ec
   | some b=>exact .dV (fun _=>ec) fun h=>by rw[hb b bZ]at h;cases h
  cases bZ:gB s.fs gd with
  | none=>simp only[Option.getD_none,if_true];exact run fun b h=>by rw[bZ]at h;cases h
  | some b =>
   cases b with
   | true=>simp only[Option.getD_some,if_true];exact run fun b h=>by rw[bZ]at h;cases h;rfl
   | false =>
    simp only[Option.getD_some,Bool.false_eq_true,if_false];refine np undef w (Fr.refl _ _) ?_;rw[bZ];exact .dV (fun h=>by cases h) fun _=>rfl
def Wc {r0:List bB}{K:St->Prop}{s:St}{d:Option Nat}{f:FuncId}{xs:List TV}{gd:Option (Nat×Bool)}{args:List AV}{r:AV}(aM:((aD c.gl s.fs xs).map Qh).map (Zi s.fs)=args)(eg:PS P c.gl f args r)(ib:Ji r)
  (aS:Ux c.gl s.fs xs gd/\ah 0 args/\XP P c r0 K (s.ca d (cw (gB s.fs gd) r))):Yo P c (.pd d (.call f) xs gd) r0 K s:=.inl ⟨_,_,V4 aS.1 aM aS.2.1 ib (zr eg),aS.2.2⟩
def Jw {anc:List Nat}{fs:List bc}{r0:List bB}{K:St->Prop}{s:St}{d:Option Nat}{f:FuncId}{xs:List TV}{gd:Option (Nat×Bool)}{args:List AV}{r:AV}(aM:((aD c.gl s.fs xs).map Qh).map (Zi s.fs)=args)(eg:PS P c.gl f args r)(ib:Ji r)
  (aS:Ux c.gl s.fs xs gd/\ah 0 args/\XD P c anc r0 (vl s.fs c.gl d xs gd::fs) K (s.ca d (cw (gB s.fs gd) r))):Yz P c anc (.pd d (.call f) xs gd) r0 fs K s:=⟨_,_,V4 aS.1 aM aS.2.1 ib (zr eg),aS.2.2⟩
end
theorem Xc0 (es b o n c:Nat):Cg (.sl es b o n c)=[b]:=rfl
attribute [go_sem] vl Xc0 Cg IM List.flatMap_cons List.flatMap_nil
section
variable {P:Program}{c:Cx}{g g':Nat->GM}{s:FS}{a:Act}{w w':World}{W W':Nat->Prop}
structure Fit (σ:Nat->Nat)(s:FS)(aL:List (Nat×Bk))(m:Nat):Prop where
 mem:∀ p ∈ aL,p.1<m/\bX m p.2/\s.H (σ p.1)=Qw σ p.2
 inj:∀ p ∈ aL,∀ q ∈ aL,σ p.1=σ q.1->p.1=q.1
def sa (g:Nat->GM)(σ:Nat->Nat)(aL:List (Nat×Bk))(m:Nat)(k:Nat):Prop:=∃ b,(Qb aL m b).live/\g (σ b)=.re k
def Yis (c:Cx)(g:Nat->GM)(s:FS)(G:Nat->Prop)(k:Nat):Prop:=Qm c g s k/\¬ G k
def rm (c:Cx)(g:Nat->GM)(s:FS)(w:World)(σ:Nat->Nat)(aL:List (Nat×Bk))(m:Nat):Cx:=⟨0,w,sa g σ aL m,Yis c g s (sa g σ aL m),c.gl,[]⟩
def Ci {h:List (Nat×Bk)}{m b:Nat}(hl:(Qb h m b).live):∃ p ∈ h,p.1=b/\Qb h m b=p.2:=by
 rcases Jk h m b with e|e
 ·rw[e]at hl;split at hl<;>exact hl.elim
 ·exact e
open Classical in
def IN {σ:Nat->Nat}{aL:List (Nat×Bk)}{m:Nat}(hR:R c g s a w)(fit:Fit σ s aL m):∃ g1:Nat->GM,(∀ b,b<m->g (σ b)≠.un->g (σ b)=g1 b) /\
  R (rm c g s w σ aL m) g1 (⟨[],aL,m⟩:St).fs ⟨#[],[]⟩ w/\(∀ k,Qm (rm c g s w σ aL m) g1 (⟨[],aL,m⟩:St).fs k->Qm c g s k):=by
 let g1:Nat->GM:=fun b=>if b<m then (if g (σ b)=.un then .ph else g (σ b)) else .un
 have iv:∀ b,b<m->g (σ b)≠.un->g (σ b)=g1 b:=fun b hb h=>by simp only[g1,am hb,aa h]
 have jY:∀ b,m<=b->g1 b=.un:=fun b hb=>by simp only[g1];rw[aa af]
 have cf:∀ b,b<m->g1 b≠.un:=fun b hb=>by
  simp only[g1,am hb];split
  ·intro h;cases h
  ·assumption
 have dJ:∀ b,(Qb aL m b).live->b<m/\(s.H (σ b)).live/\g1 b=g (σ b):=fun b hl=>by
  obtain ⟨p,hp,rfl,e⟩:=Ci hl;obtain ⟨h1,h2,h3⟩:=fit.mem p hp;have dJ:(s.H (σ p.1)).live:=by rw[h3,BX];exact Xa h2
  refine ⟨h1,dJ,(iv _ h1 fun e=>?_).symm⟩;have:=hR.h (σ p.1);rw[e]at this;generalize s.H (σ p.1)=x at this dJ;exact this.gK dJ
 have hW:∀ k,Qm (rm c g s w σ aL m) g1 (⟨[],aL,m⟩:St).fs k->Qm c g s k:=by
  rintro k (h|⟨b,h1,h2⟩)
  ·exact h.1
  ·obtain ⟨_,h4,h5⟩:=dJ b h1;exact .inr ⟨σ b,h4,by rw[<- h5];exact h2⟩
 refine ⟨g1,iv,⟨rfl,rfl,fun i=>.any _,fun i=>(hR.gl i).mono (Fr.refl w _) (fun k _=>hW k) (fun _ _=>rfl),fun b=>?_,fun b b' k h1 h2 e1 e2=>?_,fun b k h1 e1=>?_,Fr.refl _ _,fun k hk=>⟨?_,hk.2⟩,fun p hp=>by cases hp⟩,hW⟩
 ·show BR g1 _ w _ (Qb aL m b);rcases Jk aL m b with h|⟨p,h1,rfl,h3⟩
  ·rw[h];split
   ·rename_i hb;exact .dead (cf b hb)
   ·rename_i hb;rw[jY b af];exact .free
  ·rw[h3];obtain ⟨q1,q2,q3⟩:=fit.mem p h1;obtain ⟨_,_,e5⟩:=dJ p.1 (by rw[h3];exact Xa q2);rw[e5];have ez:=hR.h (σ p.1);rw[q3]at ez;exact ez.ju iv q2 hW
 ·obtain ⟨p1,Ea,rfl,_⟩:=Ci h1;obtain ⟨p2,fk,rfl,_⟩:=Ci h2;obtain ⟨_,l1,d1⟩:=dJ _ h1;obtain ⟨_,l2,d2⟩:=dJ _ h2;exact fit.inj p1 Ea p2 fk (hR.inj _ _ k l1 l2 (by rw[<- d1];exact e1) (by rw[<- d2];exact e2))
 ·obtain ⟨_,l1,d1⟩:=dJ _ h1;exact .inr ⟨b,h1,by rw[<- d1];exact e1⟩
 ·rcases hk.1 with h|⟨b',hl,fN⟩
  ·have:=(hR.xs k h).1;have:=hR.fr.size;show k<w.heap.size;omega
  ·exact BR.lt (fN ▸ hR.h b') hl
def dD (h:List (Nat×Bk))(n:Nat):FS:=(⟨[],h,n⟩:St).fs
def GS (P:Program)(gl:Nat->AV)(f:FuncId)(args:List AV)(aL:List (Nat×Bk))(m:Nat)(r:AV)(ax:List (Nat×Bk))(n:Nat):Prop :=
 BY P f∧∀ (w:World) (vs:List Value) (G X:Nat→Prop) (g:Nat→GM),R ⟨0,w,G,X,gl,[]⟩ g (dD aL m) ⟨#[],[]⟩ w→bT g (Qm ⟨0,w,G,X,gl,[]⟩ g (dD aL m)) w args vs →
  Calls P f vs.toArray w fun e w'=>∃ v g',e=.returned v/\R ⟨0,w,G,X,gl,[]⟩ g' (dD ax n) ⟨#[],[]⟩ w'/\(∀ b,b<m->g' b=g b)/\VR g' (Qm ⟨0,w,G,X,gl,[]⟩ g' (dD ax n)) w' r v
def IP (m:Nat)(rs:List RS)(r:AV)(ax:List (Nat×Bk))(n:Nat):EX->St->Prop
 | .exit _,_=>False
 | _,s=>Un s.fs rs/\∃ ρ,rV m ρ n/\Sub (rl ρ) ⟨[(0,iE s.fs rs)],s.h,s.n⟩ ⟨[(0,r)],ax,n⟩
def NZ {w:World}{vs:List Value}{args:List AV}{N:Nat}(hN:args.length<=N){G X:Nat->Prop}{gl:Nat->AV}{g:Nat->GM}{aL:List (Nat×Bk)}{m:Nat}{gh:List (Nat×GM)}(hR:R ⟨0,w,G,X,gl,[]⟩ g (dD aL m) ⟨#[],[]⟩ w)
  (hv:bT g (Qm ⟨0,w,G,X,gl,[]⟩ g (dD aL m)) w args vs) (jv:∀ p ∈ gh,g p.1=p.2/\p.2≠.un) :
  R ⟨N,w,G,X,gl,gh⟩ g (⟨kR 0 args,aL,m⟩:St).fs { tmps:=vs.toArray++Array.replicate (N-vs.toArray.size) undef,defers:=[] } w:=by
 have hl:=hv.length;refine ⟨by simp;omega,rfl,fun i=>?_,hR.gl,hR.h,hR.inj,hR.old,hR.fr,hR.xs,jv⟩;show VR g _ w (look (kR 0 args) i) _;rw[Nr];split
 ·rename_i h;have hi:i < vs.length:=by omega
  have:=hv.get i af;have e:(vs.toArray++Array.replicate (N-vs.toArray.size) undef).getD i undef=vs.getD i undef:=by
   simp only[Array.getD_eq_getD_getElem?,List.getD];rw[Array.getElem?_append_left (by simpa using hi)];simp
  rw[e];have h2:VR g (Qm ⟨0,w,G,X,gl,[]⟩ g (dD aL m)) w (args.getD (i-0) .any) (vs.getD i undef):=by simpa using this
  exact h2
 ·exact .any _
def Xy3 {gl : Nat -> AV} {f : FuncId} {fn : Func} {code : Code} {t : TC} {rs : List RS} {args : List AV} {aL ax : List (Nat×Bk)} {m n : Nat} {r : AV} (hm : P.follows .mixedOrders = true) (hf : P.funcs[f]? = some fn) (hb : fn.body = some code) (fx : (fn.name == "runtime.NumGoroutine") = false)
  (he:Js P fn.ntmps code=some t) (hr:qe P fn.results.toList=some rs) (hN:args.length<=fn.ntmps) (aO:∀ p ∈ aL,p.2.live)
  (h:∀ c:Cx,(∀ p ∈ c.gh,p.1<m)->c.gl=gl->xw P c t (IP m rs r ax n) ⟨kR 0 args,aL,m⟩):GS P gl f args aL m r ax n:=by
 refine ⟨⟨fn,hf,by rw[hb];rfl,fx⟩,fun w vs G X g mr hv=>?_⟩;refine calls_of_wp hf hb ?_;have kJ:∀ b,b<m->g b≠.un:=fun b jU e=>by
  have:=mr.h b;rw[e]at this;have hh:(dD aL m).H b=Qb aL m b:=rfl;rw[hh]at this;rcases Jk aL m b with q|⟨p,hp,_,q⟩
  ·rw[q,am jU]at this;cases this;rename_i h;exact h rfl
  ·rw[q]at this;have hl:=aO p hp;cases hx:p.2 with
   | free=>rw[hx]at hl;exact hl.elim
   | dead=>rw[hx]at hl;exact hl.elim
   | cells cs=>rw[hx]at this;cases this
   | az kvs dn=>rw[hx]at this;cases this
   | bp kvs bs ck=>rw[hx]at this;cases this
   | iter b0 ck seen=>rw[hx]at this;cases this
   | dM ls=>rw[hx]at this;cases this with|dM _ h=>cases h
 have jv:∀ p ∈ (List.range m).map (fun b=>(b,g b)),g p.1=p.2/\p.2≠.un:=fun p hp=>by
  obtain ⟨b,jU,rfl⟩:=mem_map.1 hp;exact ⟨rfl,kJ b (mem_range.1 jU)⟩
 have bf:∀ p ∈ (List.range m).map (fun b=>(b,g b)),p.1<m:=fun p hp=>by
  obtain ⟨b,jU,rfl⟩:=mem_map.1 hp;exact mem_range.1 jU
 have hR:=NZ (N:=fn.ntmps) hN mr hv jv;have:=zn (c:=⟨fn.ntmps,w,G,X,gl,(List.range m).map (fun b=>(b,g b))⟩) hm code t _ _ he (h _ bf rfl) _ _ _ hR;refine wp_mono this fun e a' w' hq=>?_
 have fin:∀ (g1:Nat→GM) (s:St),R ⟨fn.ntmps,w,G,X,gl,(List.range m).map (fun b=>(b,g b))⟩ g1 s.fs a' w'→(Un s.fs rs∧∃ ρ,rV m ρ n∧Sub (rl ρ) ⟨[(0,iE s.fs rs)],s.h,s.n⟩ ⟨[(0,r)],ax,n⟩) →
   a'.defers=[]/\∃ v,(results fn a'.tmps).run P w'=.ok v w'/\(∃ rW g',Ending.returned v=.returned rW/\R ⟨0,w,G,X,gl,[]⟩ g' (dD ax n) ⟨#[],[]⟩ w'/\(∀ b,b<m->g' b=g b)/\VR g' (Qm ⟨0,w,G,X,gl,[]⟩ g' (dD ax n)) w' r rW):=by
  intro g1 s bh ⟨h1,ρ,h2,h3⟩;obtain ⟨v,h4,h5⟩:=Iv bh hr h1;refine ⟨bh.ew,v,h4,v,?_⟩;have gE:R ⟨1,w,G,X,gl,(List.range m).map (fun b=>(b,g b))⟩ g1 (⟨[(0,iE s.fs rs)],s.h,s.n⟩:St).fs ⟨#[v],[]⟩ w':=by
   refine ⟨rfl,rfl,fun i=>?_,bh.gl,bh.h,bh.inj,bh.old,bh.fr,bh.xs,bh.jn⟩;show VR g1 _ w' (look [(0,iE s.fs rs)] i) _;rw[Jn];split
   ·rename_i hi;subst hi;exact h5
   ·exact .any _
  obtain ⟨g2,cp⟩:=h3.to gE (Nq bf h2);refine ⟨g2,rfl,⟨rfl,rfl,fun i=>.any _,cp.gl,cp.h,cp.inj,cp.old,cp.fr,cp.xs,fun p hp=>by cases hp⟩,fun b hb=>?_,?_⟩
  ·exact (cp.jn (b,g b) (mem_map.2 ⟨b,mem_range.2 hb,rfl⟩)).1
  ·exact cp.t 0
 cases e with
 | normal=>obtain ⟨g,s,bh,db⟩:=hq;exact fin g s bh db
 | ret=>obtain ⟨g,s,bh,db⟩:=hq;exact fin g s bh db
 | exit i=>obtain ⟨g,s,bh,db⟩:=hq;exact db.elim
 | goto l=>exact hq.elim
 | panic ch=>exact hq.elim
 | outgrown=>exact hq.elim
def tS (σ:Nat->Nat):Bk->Bk
 | .dead=>.dead
 | x=>Qw σ x
def BR.bv {σ:Nat->Nat}{n:Nat}(hg:∀ b,b<n->g' (σ b)=g b){mm:GM}{x:Bk}(h:BR g W w mm x)(hn:bX n x)(hW:∀ k,W' k->W k):BR g' W' w mm (Qw σ x):=by
 have fwd:∀ {v u},Qe n v->VR g W w v u->VR g' W' w (aB σ v) u:=fun hn h=>(h.bv (ρ:=σ) (g:=g') hg hn).mono (Fr.refl w W) (fun k _=>hW k) (fun _ _=>rfl);cases h with
 | free=>exact hn.elim
 | dead h=>exact hn.elim
 | ph=>simp only[Qw,ay];exact .ph
 | cells hb hl h1 hv hz =>
  simp only[Qw,bX]at hn ⊢;refine .cells hb (by rw[Yr];exact hl) (by rw[Yr];exact h1) (fun j hj=>?_) hz;rw[Yr]at hj;rw[Ky];exact fwd (Jc hn j) (hv j hj)
 | az hb hs jm hv hc ha hd =>
  rename_i k kvs dn es clock;simp only[Qw,bX]at hn ⊢;have a6:∀ j,j<kvs.length->(kvs.map fun p=>(aB σ p.1,aB σ p.2)).getD j (.any,.any)=(aB σ (kvs.getD j (.any,.any)).1,aB σ (kvs.getD j (.any,.any)).2):=fun j hj=>by simp[List.getD,hj]
  have bQ:∀ j,j<kvs.length->kvs.getD j (.any,.any) ∈ kvs:=fun j hj=>by simp[List.getD,hj]
  refine .az hb (by rw[length_map];exact hs) (fun j hj=>?_) (fun j hj=>?_) hc ha hd
  ·rw[length_map]at hj;rw[a6 j hj];exact fwd (hn _ (bQ j hj)).1 (jm j hj)
  ·rw[length_map]at hj;rw[a6 j hj];exact fwd (hn _ (bQ j hj)).2 (hv j hj)
 | bp hb hs jm hv hc ha hd =>
  rename_i k kvs bs es clock;simp only[Qw,bX]at hn ⊢;have a6:∀ j,j<kvs.length->(kvs.map fun p=>(aB σ p.1,aB σ p.2)).getD j (.any,.any)=(aB σ (kvs.getD j (.any,.any)).1,aB σ (kvs.getD j (.any,.any)).2):=fun j hj=>by simp[List.getD,hj]
  have bQ:∀ j,j<kvs.length->kvs.getD j (.any,.any) ∈ kvs:=fun j hj=>by simp[List.getD,hj]
  refine .bp hb (by rw[length_map];exact hs) (fun j hj=>?_) (fun j hj=>?_) hc ha hd
  ·rw[length_map]at hj;rw[a6 j hj];exact fwd (hn _ (bQ j hj)).1 (jm j hj)
  ·rw[length_map]at hj;rw[a6 j hj];exact fwd (hn _ (bQ j hj)).2 (hv j hj)
 | iter hb l8 =>
  simp only[Qw,bX]at hn ⊢;exact .iter hb (by rw[hg _ hn];exact l8)
 | dM hp h=>exact BR.kQ (.dM hp h) hn hW
structure zy (σ:Nat->Nat)(s s3:FS)(ax:List (Nat×Bk))(n:Nat):Prop where
 T:∀ i,s3.T i=s.T i
 H:∀ b,b<n->s3.H (σ b)=tS σ (Qb ax n b)
 rest:∀ j,(∀ b,b<n->σ b≠j)->s3.H j=s.H j
open Classical in
noncomputable def Kf (g g2:Nat->GM)(σ:Nat->Nat)(n:Nat)(j:Nat):GM:=if h:∃ b,b<n/\σ b=j then g2 h.choose else g j
def V5 {σ:Nat->Nat}{aL ax:List (Nat×Bk)}{m n:Nat}{s3:FS}{g1 g2:Nat->GM}(hR:R c g s a w)(fit:Fit σ s aL m)(sf:∀ b,b<m->∃ p ∈ aL,p.1=b)(zA:m<=n)(ct:∀ b b',b<n->b'<n->σ b=σ b'->b=b')(cz:∀ b,m<=b->b<n->s.H (σ b)=.free)
  (fU:∀ p ∈ ax,bX n p.2) (hlt:∀ p ∈ ax,p.1<n) (iv:∀ b,b<m->g (σ b)≠.un->g (σ b)=g1 b) (mA:∀ b,b<m->g2 b=g1 b) (cp:R (rm c g s w σ aL m) g2 (dD ax n) ⟨#[],[]⟩ w') (hb:zy σ s s3 ax n) :
  R c (Kf g g2 σ n) s3 a w'/\∀ {r:AV} {v:Value},Qe n r->VR g2 (Qm (rm c g s w σ aL m) g2 (dD ax n)) w' r v->VR (Kf g g2 σ n) (Qm c (Kf g g2 σ n) s3) w' (aB σ r) v:=by
 have gs:∀ b,b<n->Kf g g2 σ n (σ b)=g2 b:=fun b dK=>by
  unfold Kf;have hex:∃ b',b'<n/\σ b'=σ b:=⟨b,dK,rfl⟩
  rw[dif_pos hex];rw[ct _ _ hex.choose_spec.1 dK hex.choose_spec.2]
 have go:∀ j,(∀ b,b<n->σ b≠j)->Kf g g2 σ n j=g j:=fun j h=>by
  unfold Kf;rw[dif_neg];rintro ⟨b,h1,h2⟩;exact h b h1 h2
 have named:∀ b,b<m->g (σ b)≠.un:=fun b jU e=>by
  obtain ⟨p,hp,rfl⟩:=sf b jU;obtain ⟨_,q2,q3⟩:=fit.mem p hp;have:=hR.h (σ p.1);rw[e,q3]at this;have hl:(Qw σ p.2).live:=BX.2 (Xa q2);generalize Qw σ p.2=x at this hl;exact this.gK hl
 have gm:∀ b,b<m->g2 b=g (σ b):=fun b jU=>by rw[mA b jU,<- iv b jU (named b jU)]
 have gk:∀ j,g j≠.un->Kf g g2 σ n j=g j:=fun j hj=>by
  by_cases h:∃ b,b<n/\σ b=j
  ·obtain ⟨b,dK,rfl⟩:=h;rw[gs b dK];by_cases jU:b < m
   ·exact gm b jU
   ·have:=hR.h (σ b);rw[cz b af dK]at this;generalize g (σ b)=x at this hj;cases this;exact (hj rfl).elim
  ·exact go j fun b h1 h2=>h ⟨b,h1,h2⟩
 have oKa:∀ b,(Qb ax n b).live->b<n:=fun b hl=>by
  obtain ⟨p,hp,rfl,_⟩:=Ci hl;exact hlt p hp
 have lin:∀ b,(Qb aL m b).live->b<m:=fun b hl=>by
  obtain ⟨p,hp,rfl,_⟩:=Ci hl;exact (fit.mem p hp).1
 have si:∀ b,(Qb aL m b).live->(s.H (σ b)).live:=fun b hl=>by
  obtain ⟨p,hp,rfl,_⟩:=Ci hl;obtain ⟨_,q2,q3⟩:=fit.mem p hp;rw[q3,BX];exact Xa q2
 have dw:∀ j,(s3.H j).live->(∃ b,b<n/\σ b=j/\(Qb ax n b).live)\/((∀ b,b<n->σ b≠j)/\(s.H j).live):=fun j hl=>by
  by_cases h:∃ b,b<n/\σ b=j
  ·obtain ⟨b,dK,rfl⟩:=h;rw[hb.H b dK]at hl;refine .inl ⟨b,dK,rfl,?_⟩;cases hx:Qb ax n b with
   | free=>rw[hx]at hl;exact hl.elim
   | dead=>rw[hx]at hl;exact hl.elim
   | cells cs=>trivial
   | az kvs dn=>trivial
   | bp kvs bs ck=>trivial
   | iter b0 ck seen=>trivial
   | dM ls=>trivial
  ·have br:∀ b,b<n->σ b≠j:=fun b h1 h2=>h ⟨b,h1,h2⟩;rw[hb.rest j br]at hl;exact .inr ⟨br,hl⟩
 -- memory of a block yZ comes back
 have gN:∀ b k,(Qb ax n b).live->g2 b=.re k->w.heap.size<=k\/∃ b0,(Qb aL m b0).live/\g (σ b0)=.re k:=fun b k hl hk=>cp.old b k hl hk;have hf:Fr w w' (sa g σ aL m):=cp.fr;have Cj:∀ k,sa g σ aL m k->Qm c g s k:=fun k ⟨b,h1,h2⟩=>.inr ⟨σ b,si b h1,h2⟩;have sj:Fr w w' (Qm c g s):=hf.weak Cj;have tT:∀ j k,(∀ b,b<n->σ b≠j)->(s.H j).live->g j=.re k->¬ sa g σ aL m k:=fun j k h1 h2 h3 ⟨b,q1,q2⟩ =>
  h1 b (Nat.lt_of_lt_of_le (lin b q1) zA) (hR.inj (σ b) j k (si b q1) h2 q2 h3)
 have qf:∀ k,k<w.heap.size->Qm c (Kf g g2 σ n) s3 k->Qm c g s k:=by
  rintro k hk (h|⟨j,h1,h2⟩)
  ·exact .inl h
  ·rcases dw j h1 with ⟨b,dK,rfl,hl⟩|⟨br,hl⟩
   ·rw[gs b dK]at h2;rcases gN b k hl h2 with h|⟨b0,q1,q2⟩
    ·omega
    ·exact Cj k ⟨b0,q1,q2⟩
   ·rw[go j br]at h2;exact .inr ⟨j,hl,h2⟩
 have qg:∀ k,Qm c (Kf g g2 σ n) s3 k->Qm (rm c g s w σ aL m) g2 (dD ax n) k:=by
  rintro k (h|⟨j,h1,h2⟩)
  ·refine .inl ⟨.inl h,fun ⟨b,q1,q2⟩=>?_⟩;obtain ⟨x1,x2⟩:=hR.xs k h;rcases hR.old (σ b) k (si b q1) q2 with h|h
   ·omega
   ·exact x2 h
  ·rcases dw j h1 with ⟨b,dK,rfl,hl⟩|⟨br,hl⟩
   ·rw[gs b dK]at h2;exact .inr ⟨b,hl,h2⟩
   ·rw[go j br]at h2;exact .inl ⟨.inr ⟨j,hl,h2⟩,tT j k br hl h2⟩
 refine ⟨⟨hR.size,hR.ew,fun i=>?_,fun i=>(hR.gl i).mono sj qf (fun _ _=>rfl),fun j=>?_,fun j j' k h1 h2 e1 e2=>?_,fun j k h1 e1=>?_,hR.fr.trans hf fun k hk ⟨b,q1,q2⟩=>?_,hR.xs,fun p hp=>?_⟩,fun {r v} hn hv=>?_⟩
 ·rw[hb.T];exact (hR.t i).mono sj qf gk
 ·by_cases h:∃ b,b < n∧σ b=j
  ·obtain ⟨b,dK,rfl⟩:=h;rw[hb.H b dK,gs b dK];have ez:=cp.h b;have e:(dD ax n).H b=Qb ax n b:=rfl;rw[e]at ez;rcases Jk ax n b with q|⟨p,hp,_,q⟩
   ·rw[q,am dK]at ez ⊢;generalize g2 b=x at ez ⊢;cases ez with
    | dead h=>exact .dead h
   ·rw[q]at ez ⊢;have pZ:=fU p hp;have:tS σ p.2=Qw σ p.2:=by
     cases hx:p.2<;>first|rfl|(rw[hx]at pZ;exact pZ.elim)
    rw[this];exact ez.bv (g':=Kf g g2 σ n) gs pZ qg
  ·have br:∀ b,b<n->σ b≠j:=fun b h1 h2=>h ⟨b,h1,h2⟩;rw[hb.rest j br,go j br];refine (hR.h j).mono sj qf gk fun k hk hl=>hf.iq k ?_ (tT j k br hl hk);exact BR.lt (hk ▸ hR.h j) hl
 ·rcases dw j h1 with ⟨b,dK,rfl,hl⟩|⟨br,hl⟩<;>rcases dw j' h2 with ⟨b',Es,rfl,mf⟩|⟨oh,mf⟩
  ·rw[gs b dK]at e1;rw[gs b' Es]at e2;rw[cp.inj b b' k hl mf e1 e2]
  ·rw[gs b dK]at e1;rw[go j' oh]at e2;have hlt:=BR.lt (e2 ▸ hR.h j') mf;rcases gN b k hl e1 with h|hG
   ·omega
   ·exact (tT j' k oh mf e2 hG).elim
  ·rw[gs b' Es]at e2;rw[go j br]at e1;have hlt:=BR.lt (e1 ▸ hR.h j) hl;rcases gN b' k mf e2 with h|hG
   ·omega
   ·exact (tT j k br hl e1 hG).elim
  ·rw[go j br]at e1;rw[go j' oh]at e2;exact hR.inj j j' k hl mf e1 e2
 ·rcases dw j h1 with ⟨b,dK,rfl,hl⟩|⟨br,hl⟩
  ·rw[gs b dK]at e1;rcases gN b k hl e1 with h|⟨b0,q1,q2⟩
   ·have:=hR.fr.size;exact .inl af
   ·exact hR.old (σ b0) k (si b0 q1) q2
  ·rw[go j br]at e1;exact hR.old j k hl e1
 ·rcases hR.old (σ b) k (si b q1) q2 with h|h
  ·omega
  ·exact h
 ·obtain ⟨q1,q2⟩:=hR.jn p hp;exact ⟨by rw[gk p.1 (by rw[q1];exact q2),q1],q2⟩
 ·exact (hv.bv (ρ:=σ) (g:=Kf g g2 σ n) gs hn).mono (Fr.refl _ _) (fun k _=>qg k) (fun _ _=>rfl)
end
def sg (ins:List Nat)(m n0:Nat)(b:Nat):Nat:=if b<m then ins.getD b 0 else n0+(b-m)
def Et (σ:Nat->Nat)(s:FS)(m:Nat):List (Nat×Bk)->Prop
 | []=>True
 | (b,x)::r=>b<m/\bX m x/\s.H (σ b)=Qw σ x/\Et σ s m r
def Ck:List Nat->Bool
 | []=>true
 | x::r=>r.all (fun y=>!(Nat.beq x y))&&Ck r
def zB (ins:List Nat)(m n0:Nat):Bool:=(ins.length==m)&&Ck ins&&ins.all (fun j=>decide (j<n0))
def Eu (s:FS):List Nat->Prop
 | []=>True
 | j::r=>s.H j=.free/\Eu s r
def Ew (n:Nat):List (Nat×Bk)->Prop
 | []=>True
 | (b,x)::r=>b<n/\bX n x/\Ew n r
def Cl (n0:Nat):Nat->List Nat
 | 0=>[]
 | k+1=>Cl n0 k++[n0+k]
def j6 (n0 m n:Nat):List Nat:=Cl n0 (n-m)
def vn {n0 j:Nat}:∀ {k:Nat},j ∈ Cl n0 k ↔ ∃ i,i<k/\n0+i=j
 | 0=>by simp[Cl]
 | k+1=>by
  simp only[Cl,mem_append,vn (k:=k),mem_singleton];constructor
  ·rintro (⟨i,h,rfl⟩|rfl)
   ·exact ⟨i,by omega,rfl⟩
   ·exact ⟨k,by omega,rfl⟩
  ·rintro ⟨i,h,rfl⟩;by_cases hk:i=k
   ·subst hk;exact .inr rfl
   ·exact .inl ⟨i,by omega,rfl⟩
def idx:List (Nat×Bk)->List Nat
 | []=>[]
 | p::r=>p.1::idx r
def upto:Nat->List Nat
 | 0=>[]
 | n+1=>upto n++[n]
structure mB (s:FS)(n0:Nat)(ins:List Nat)(args:List AV)(aL:List (Nat×Bk))(m:Nat)(r:AV)(ax:List (Nat×Bk))(n:Nat):Prop where
 fit:Et (sg ins m n0) s m aL
 jV:idx aL=upto m
 ins:zB ins m n0=true
 free:Eu s (j6 n0 m n)
 out:Ew n ax
 le:m<=n
 nr:Qe n r
 na:ah m args
def N0 {σ:Nat->Nat}{s:FS}{m:Nat}:∀ {h:List (Nat×Bk)},Et σ s m h->∀ p ∈ h,p.1<m/\bX m p.2/\s.H (σ p.1)=Qw σ p.2
 | [],_,p,hp=>by cases hp
 | (b,x)::r,h,p,hp=>by
   rcases mem_cons.1 hp with rfl|hp
   ·exact ⟨h.1,h.2.1,h.2.2.1⟩
   ·exact N0 h.2.2.2 p hp
def IQ {n:Nat}:∀ {h:List (Nat×Bk)},Ew n h->∀ p ∈ h,p.1<n/\bX n p.2
 | [],_,p,hp=>by cases hp
 | (b,x)::r,h,p,hp=>by
   rcases mem_cons.1 hp with rfl|hp
   ·exact ⟨h.1,h.2.1⟩
   ·exact IQ h.2.2 p hp
def N4 {s:FS}:∀ {l:List Nat},Eu s l->∀ j ∈ l,s.H j=.free
 | [],_,j,hj=>by cases hj
 | x::l,h,j,hj=>by
  rcases mem_cons.1 hj with rfl|hj
  ·exact h.1
  ·exact N4 h.2 j hj
def N5:∀ h:List (Nat×Bk),idx h=h.map (·.1)
 | []=>rfl
 | p::r=>by simp[idx,N5 r]
def N6:∀ {n b:Nat},b ∈ upto n ↔ b<n
 | 0,b=>by simp[upto]
 | n+1,b=>by simp[upto,N6 (n:=n)];omega
def N7:∀ {l:List Nat},Ck l=true->∀ i j,i<l.length->j<l.length->l.getD i 0=l.getD j 0->i=j
 | [],_,i,j,hi,_,_=>by simp at hi
 | x::l,h,i,j,hi,hj,e=>by
  simp only[Ck,Bool.and_eq_true]at h;have bl:∀ y ∈ l,x≠y:=fun y hy exy=>by
   have:=List.all_eq_true.1 h.1 y hy;subst exy;simp at this
  have bQ:∀ k,k<l.length->l.getD k 0 ∈ l:=fun k hk=>by simp only[List.getD,getElem?_eq_getElem hk,Option.getD_some];exact getElem_mem hk
  cases i with
  | zero =>
   cases j with
   | zero=>rfl
   | succ j=>simp only[List.getD_cons_zero,List.getD_cons_succ]at e;exact (bl _ (bQ j (by simpa using hj)) e).elim
  | succ i =>
   cases j with
   | zero=>simp only[List.getD_cons_zero,List.getD_cons_succ]at e;exact (bl _ (bQ i (by simpa using hi)) e.symm).elim
   | succ j=>simp only[List.getD_cons_succ]at e;rw[N7 h.2 i j (by simpa using hi) (by simpa using hj) e]
def N8 {ins:List Nat}{m n0:Nat}(h:zB ins m n0=true){b b':Nat}(e:sg ins m n0 b=sg ins m n0 b'):b=b':=by
 simp only[zB,Bool.and_eq_true,beq_iff_eq,List.all_eq_true,decide_eq_true_eq]at h;obtain ⟨⟨h1,h2⟩,h3⟩:=h;have bQ:∀ k,k<m->ins.getD k 0<n0:=fun k hk=>h3 _ (by simp only[List.getD,getElem?_eq_getElem (show k<ins.length by omega),Option.getD_some];exact getElem_mem _);unfold sg at e;split at e<;>split at e
 ·exact N7 h2 b b' af af e
 ·rename_i x y;have:=bQ b x;omega
 ·rename_i x y;have:=bQ b' y;omega
 ·omega
section
variable {P:Program}{c:Cx}
def dt (σ:Nat->Nat)(ax:List (Nat×Bk))(n:Nat):Nat->List (Nat×Bk)
 | 0=>[]
 | k+1=>(σ k,tS σ (Qb ax n k))::dt σ ax n k
def mC (s:St)(d:Option Nat)(ins:List Nat)(m:Nat)(r:AV)(ax:List (Nat×Bk))(n:Nat):St :=
 St.ca ⟨s.t,dt (sg ins m s.n) ax n n++s.h,s.n+(n-m)⟩ d (aB (sg ins m s.n) r)
def vo (s:St)(d:Option Nat)(xs:List TV)(ins:List Nat)(m n:Nat):bc:=⟨Xe xs,ins++j6 s.n m n,d.toList,ins++j6 s.n m n⟩
def IS (h h2:List (Nat×Bk))(n j:Nat):(∃ p ∈ h,p.1=j)/\(∃ p ∈ h,p.1=j/\Qb (h++h2) n j=p.2)\/(∀ p ∈ h,p.1≠j)/\Qb (h++h2) n j=Qb h2 n j:=by
 induction h with
 | nil=>right;exact ⟨fun p hp=>(by cases hp),rfl⟩
 | cons p r ih =>
  obtain ⟨i,x⟩:=p;rw[List.cons_append,Qf];by_cases hi:i=j
  ·left;rw[am hi];exact ⟨⟨(i,x),by simp,hi⟩,(i,x),by simp,hi,rfl⟩
  ·rw[aa hi];rcases ih with ⟨⟨p,hp,e⟩,q,hq,e1,e2⟩|⟨h1,h2⟩
   ·exact .inl ⟨⟨p,by simp[hp],e⟩,q,by simp[hq],e1,e2⟩
   ·refine .inr ⟨fun p hp=>?_,h2⟩;rcases mem_cons.1 hp with rfl|hp
    ·exact hi
    ·exact h1 p hp
def zD {σ:Nat->Nat}{ax:List (Nat×Bk)}{n:Nat}:∀ {k:Nat} {p:Nat×Bk},p ∈ dt σ ax n k ↔ ∃ b,b<k/\p=(σ b,tS σ (Qb ax n b))
 | 0,p=>by simp[dt]
 | k+1,p=>by
  simp only[dt,mem_cons,zD (k:=k)];constructor
  ·rintro (rfl|⟨b,hb,rfl⟩)
   ·exact ⟨k,by omega,rfl⟩
   ·exact ⟨b,by omega,rfl⟩
  ·rintro ⟨b,hb,rfl⟩;by_cases h:b=k
   ·subst h;exact .inl rfl
   ·exact .inr ⟨b,by omega,rfl⟩
def Ex {σ:Nat->Nat}{m:Nat}{g g1:Nat->GM}{W W':Nat->Prop}{w:World}(hg:∀ b,b<m->g (σ b)≠.un->g (σ b)=g1 b)(hW:∀ k,W' k->W k):∀ {args:List AV} {vs:List Value},ah m args->bT g W w (ay σ args) vs->bT g1 W' w args vs
 | [],[],_,_=>trivial
 | x::xs,v::vs,hn,h=>by
  rw[Zx,map_cons,<- Zx]at h;exact ⟨(h.1.ju hg x rfl hn.1).mono (Fr.refl _ _) (fun k _=>hW k) (fun _ _=>rfl),Ex hg hW hn.2 h.2⟩
 | [],_::_,_,h=>by rw[Zx]at h;exact h.elim
 | _::_,[],_,h=>by rw[Zx]at h;exact h.elim
def V6 {s:St}{d:Option Nat}{f:FuncId}{xs:List TV}{ins:List Nat}{args:List AV}{aL:List (Nat×Bk)}{m:Nat}{r:AV}{ax:List (Nat×Bk)}{n:Nat}(fJ:GS P c.gl f args aL m r ax n)(hc:Qr none (aD c.gl s.fs xs))
  (aM:(aD c.gl s.fs xs).map Qh=ay (sg ins m s.n) args) (ok:mB s.fs s.n ins args aL m r ax n):Ki P c (.pd d (.call f) xs none) s.fs (vo s d xs ins m n) (mC s d ins m r ax n).fs:=by
 intro ops io he;obtain ⟨aX,bb,hd,ys,aE,rfl⟩:=Zm he;obtain ⟨ts,hop⟩:=BZ aE;have xg:∀ b b',b<n->b'<n->sg ins m s.n b=sg ins m s.n b'->b=b':=fun b b' _ _ e=>N8 ok.ins e;have hlen:ins.length=m:=by
  have:=ok.ins;simp only[zB,Bool.and_eq_true,beq_iff_eq]at this;exact this.1.1
 -- the names yZ are vp
 have gp:∀ b,b<n->sg ins m s.n b ∈ ins++j6 s.n m n:=fun b hb=>by
  unfold sg;split
  ·rename_i h;refine List.mem_append_left _ ?_;simp only[List.getD,getElem?_eq_getElem (show b<ins.length by omega),Option.getD_some];exact getElem_mem _
  ·refine mem_append_right _ ?_;simp only[j6,vn];exact ⟨b-m,by omega,rfl⟩
 have jt:∀ j,j ∈ ins++j6 s.n m n->∃ b,b<n/\sg ins m s.n b=j:=fun j hj=>by
  rcases mem_append.1 hj with h|h
  ·obtain ⟨i,hi,rfl⟩:=List.getElem_of_mem h;have:=ok.le;refine ⟨i,by omega,?_⟩;unfold sg;rw[am af];simp[List.getD,hi]
  ·simp only[j6,vn]at h;obtain ⟨i,hi,rfl⟩:=h;exact ⟨m+i,by omega,by unfold sg;rw[aa af];omega⟩
 have sk:∀ j,(mC s d ins m r ax n).fs.H j=Qb (dt (sg ins m s.n) ax n n++s.h) (s.n+(n-m)) j:=fun j=>by cases d<;>rfl
 have om:∀ i,(mC s d ins m r ax n).fs.T i=match d with|some d=>(if d=i then aB (sg ins m s.n) r else s.fs.T i)|none=>s.fs.T i:=fun i=>by
  cases d with
  | none=>rfl
  | some d=>show look ((d,_)::s.t) i=_;rw[Jn];rfl
 have sm:∀ b,b<n->Qb (dt (sg ins m s.n) ax n n++s.h) (s.n+(n-m)) (sg ins m s.n b)=tS (sg ins m s.n) (Qb ax n b):=fun b hb=>by
  rcases IS (dt (sg ins m s.n) ax n n) s.h (s.n+(n-m)) (sg ins m s.n b) with ⟨_,p,hp,e1,e2⟩|⟨h1,_⟩
  ·obtain ⟨b',bL,rfl⟩:=zD.1 hp;have:=xg b' b bL hb e1;subst this;exact e2
  ·exact (h1 _ (zD.2 ⟨b,hb,rfl⟩) rfl).elim
 have mD:∀ j,j ∉ ins++j6 s.n m n->Qb (dt (sg ins m s.n) ax n n++s.h) (s.n+(n-m)) j=s.fs.H j:=fun j hj=>by
  rcases IS (dt (sg ins m s.n) ax n n) s.h (s.n+(n-m)) j with ⟨⟨p,hp,e⟩,_⟩|⟨_,h2⟩
  ·obtain ⟨b,hb,rfl⟩:=zD.1 hp;exact (hj (e ▸ gp b hb)).elim
  ·rw[h2];show Qb s.h (s.n+(n-m)) j=Qb s.h s.n j;have br:∀ k,k<=n-m->Qb s.h (s.n+k) j=Qb s.h s.n j:=fun k hk=>by
    induction k with
    | zero=>rfl
    | succ k ih =>
     rw[<- ih af];refine Wa s.h (s.n+k) j fun e=>hj ?_;refine mem_append_right _ ?_;simp only[j6,vn];exact ⟨k,by omega,e.symm⟩
   exact br _ (Nat.le_refl _)
 refine ⟨fun i hi=>?_,fun j hj=>?_,fun s2 hT hH g a w hR K Q' hK=>Ze (Jj aX) ?_⟩
 ·rw[om];cases d with
  | none=>rfl
  | some d=>simp only[vo,Option.toList_some,mem_singleton]at hi;simp only;rw[aa fun e=>hi e.symm]
 ·rw[sk];exact mD j hj
 ·have bj:aD c.gl s2 (ys.map aP)=aD c.gl s.fs (ys.map aP):=Yd fun i hi=>hT i hi;have hv:=Yk (hR.ci ys) (by rw[bj];exact hc);rw[bj,aM]at hv;have mE:Fit (sg ins m s.n) s2 aL m:=by
   refine ⟨fun p hp=>?_,fun p hp q hq e=>N8 ok.ins e⟩;obtain ⟨q1,q2,q3⟩:=N0 ok.fit p hp;exact ⟨q1,q2,by rw[hH _ (gp p.1 (Nat.lt_of_lt_of_le q1 ok.le))];exact q3⟩
  have sf:∀ b,b<m->∃ p ∈ aL,p.1=b:=fun b hb=>by
   have:=N6.2 hb;rw[<- ok.jV,N5]at this;obtain ⟨p,hp,e⟩:=mem_map.1 this;exact ⟨p,hp,e⟩
  have cz:∀ b,m<=b->b<n->s2.H (sg ins m s.n b)=.free:=fun b h1 h2=>by
   rw[hH _ (gp b h2)];refine N4 ok.free _ ?_;unfold sg;rw[aa af];simp only[j6,vn];exact ⟨b-m,by omega,rfl⟩
  obtain ⟨g1,iv,zE,tU⟩:=IN hR mE;have kh:=Ex (g1:=g1) iv tU ok.na hv;have eB:=fJ.2 w _ _ _ g1 zE kh;unfold Oper.wp;rw[B0 fJ.1 hop];rw[Oper.upon_enter];refine eB.mono fun e w' ⟨v,g2,e1,e2,e3,e4⟩=>?_;subst e1
  let s3:FS:=⟨s2.T,fun j=>if j ∈ ins++j6 s.n m n then (mC s d ins m r ax n).fs.H j else s2.H j⟩
  have hb:zy (sg ins m s.n) s2 s3 ax n:=by
   refine ⟨fun i=>rfl,fun b dK=>?_,fun j hj=>?_⟩
   ·show (if _ then _ else _)=_;rw[am (gp b dK),sk,sm b dK]
   ·show (if _ then _ else _)=_;rw[aa fun h=>?_];obtain ⟨b,dK,rfl⟩:=jt j h;exact hj b dK rfl
  obtain ⟨mF,fZ⟩:=V5 hR mE sf ok.le xg cz (fun p hp=>(IQ ok.out p hp).2) (fun p hp=>(IQ ok.out p hp).1) iv e3 e2 hb;have vq:=fZ ok.nr e4;show K (a.put io.dst v) w';rw[bb];cases d with
  | none =>
   refine hK (Kf g g2 (sg ins m s.n) n) _ w' ?_;have:dB s2 (mC s none ins m r ax n).fs (vo s none (ys.map aP) ins m n)=s3:=by
    refine pj (fun i=>?_) fun j=>rfl;show (if i ∈ ([]:List Nat) then (mC s none ins m r ax n).fs.T i else s2.T i)=s2.T i;simp
   rw[this];exact mF
  | some d =>
   refine hK (Kf g g2 (sg ins m s.n) n) _ w' ?_;have:dB s2 (mC s (some d) ins m r ax n).fs (vo s (some d) (ys.map aP) ins m n)=s3.put d (aB (sg ins m s.n) r):=by
    refine pj (fun i=>?_) fun j=>rfl;show (if i ∈ [d] then (mC s (some d) ins m r ax n).fs.T i else s2.T i)=_;rw[FS.dF,om];by_cases h:d=i
    ·subst h;simp
    ·rw[aa (by simpa using fun e:i=d=>h e.symm),aa h]
   rw[this];exact mF.put (by simpa using hd) vq
def Kn {r0:List bB}{K:St->Prop}{s:St}{d:Option Nat}{f:FuncId}{xs:List TV}{ins:List Nat}{args:List AV}{aL:List (Nat×Bk)}{m:Nat}{r:AV}{ax:List (Nat×Bk)}{n:Nat}(fJ:GS P c.gl f args aL m r ax n)
  (aM:(aD c.gl s.fs xs).map Qh=ay (sg ins m s.n) args) (h:Qr none (aD c.gl s.fs xs)/\mB s.fs s.n ins args aL m r ax n/\XP P c r0 K (mC s d ins m r ax n)):Yo P c (.pd d (.call f) xs none) r0 K s :=
 .inl ⟨_,_,V6 fJ h.1 aM h.2.1,h.2.2⟩
def Jb {anc:List Nat}{fs:List bc}{r0:List bB}{K:St->Prop}{s:St}{d:Option Nat}{f:FuncId}{xs:List TV}{ins:List Nat}{args:List AV}{aL:List (Nat×Bk)}{m:Nat}{r:AV}{ax:List (Nat×Bk)}{n:Nat}(fJ:GS P c.gl f args aL m r ax n)
  (aM:(aD c.gl s.fs xs).map Qh=ay (sg ins m s.n) args) (h:Qr none (aD c.gl s.fs xs)/\mB s.fs s.n ins args aL m r ax n/\XD P c anc r0 (vo s d xs ins m n::fs) K (mC s d ins m r ax n)):Yz P c anc (.pd d (.call f) xs none) r0 fs K s :=
 ⟨_,_,V6 fJ h.1 aM h.2.1,h.2.2⟩
end
def FT.gs {P:Program}{gl:Nat->AV}{f:FuncId}{fn:Func}{t:TC}{rs:List RS}(hF:FT P f fn t rs){args:List AV}{aL ax:List (Nat×Bk)}{m n:Nat}{r:AV}(hN:args.length<=fn.ntmps)(aO:∀ p ∈ aL,p.2.live)
  (h:∀ c:Cx,(∀ p ∈ c.gh,p.1<m)->c.gl=gl->xw P c t (IP m rs r ax n) ⟨kR 0 args,aL,m⟩):GS P gl f args aL m r ax n:=by
 have hc:=hF.code;cases hb:fn.body with
 | none=>rw[hb]at hc;simp at hc
 | some code =>
  rw[hb]at hc;exact Xy3 hF.mixed hF.func hb hF.name hc hF.res hN aO h
theorem Yav (n0:Nat)(ins:List Nat)(args:List AV)(aL:List (Nat×Bk))(m:Nat)(r:AV)(ax:List (Nat×Bk))(n:Nat):mB s n0 ins args aL m r ax n =
  (Et (sg ins m n0) s m aL/\idx aL=upto m/\zB ins m n0=true/\Eu s (j6 n0 m n)/\Ew n ax/\m<=n/\Qe n r/\ah m args) :=
 propext ⟨fun h=>⟨h.fit,h.jV,h.ins,h.free,h.out,h.le,h.nr,h.na⟩,fun ⟨a,b,c,d,e,f,g,h⟩=>⟨a,b,c,d,e,f,g,h⟩⟩
theorem Xl8 (r:AV)(ax:List (Nat×Bk))(n:Nat)(s:St):IP m rs r ax n .ret s=(Un s.fs rs/\∃ ρ,rV m ρ n/\Sub (rl ρ) ⟨[(0,iE s.fs rs)],s.h,s.n⟩ ⟨[(0,r)],ax,n⟩):=rfl
theorem Qur (r:AV)(ax:List (Nat×Bk))(n:Nat)(s:St):IP m rs r ax n .normal s=(Un s.fs rs/\∃ ρ,rV m ρ n/\Sub (rl ρ) ⟨[(0,iE s.fs rs)],s.h,s.n⟩ ⟨[(0,r)],ax,n⟩):=rfl
theorem Qra {σ:Type}  (I:σ->Prop)(df:σ->St)(μ:σ->Nat)(x:σ)(Q:EX->St->Prop)(s:St):It m I df μ x Q .normal s=∃ y,I y/\(∃ ρ,rV m ρ (df y).n/\Sub (rl ρ) s (df y))/\μ y<μ x:=rfl
theorem Qzz {σ:Type}  (I:σ->Prop)(df:σ->St)(μ:σ->Nat)(x:σ)(Q:EX->St->Prop)(s:St):It m I df μ x Q .ret s=Q .ret s:=rfl
theorem Qui {σ:Type}  (I:σ->Prop)(df:σ->St)(μ:σ->Nat)(x:σ)(Q:EX->St->Prop)(i:Nat)(s:St):It m I df μ x Q (.exit i) s=Q (.exit i) s:=rfl
def Xfu:rV m [] n=(m<=n):=propext ⟨fun h=>h.2,fun h=>⟨fun p hp=>(by cases hp),h⟩⟩
theorem Xco (m i j n:Nat)(r:List (Nat×Nat)):rV m ((i,j)::r) n=(m<=i/\rV m r n):=propext ⟨fun h=>⟨h.1 (i,j) (by simp),fun p hp=>h.1 p (by simp[hp]),h.2⟩,fun h=>⟨fun p hp=>by
 rcases mem_cons.1 hp with rfl|hp
 ·exact h.1
 ·exact h.2.1 p hp,h.2.2⟩⟩
theorem Qut:tS σ (.cells cs)=Qw σ (.cells cs):=rfl
theorem Qx4 (kvs:List (AV×AV))(dn:Bool):tS σ (.az kvs dn)=Qw σ (.az kvs dn):=rfl
theorem Qvz:tS σ .dead=.dead:=rfl
attribute [go_sem] Yav mC vo sg Et Ew Eu j6 Cl dt idx upto zB Ck Xl8 Qur Qra Qzz Qui Xfu Xco Qut Qx4 Qvz List.all_cons List.all_nil
def St.ph (s:St)(d es:Nat):St:=(s.nw (.cells [])).put d (.sl es s.n 0 0 0)
def St.zF (s:St):List (Nat×Nat)->St
 | []=>s
 | (d,es)::r=>(s.ph d es).zF r
def IT (s:St):List (Nat×Nat)->Prop
 | []=>True
 | (d,es)::r=>(s.fs.H s.n=.free/\look s.t d=.nils)/\IT (s.ph d es) r
section
variable {P:Program}{c:Cx}
def R.ph {s:St}{d es:Nat}{g:Nat->GM}{a:Act}{w:World}(hR:R c g s.fs a w)(bq:s.fs.H s.n=.free)(hd:look s.t d=.nils):∃ g',R c g' (s.ph d es).fs a w:=by
 have h1:=R.kT hR bq;refine ⟨Zh g s.n .ph,?_⟩;have e:(s.ph d es).fs=(s.fs.aI s.n (.cells [])).put d (.sl es s.n 0 0 0):=by
  unfold St.ph;rw[St.bU,St.iC]
 rw[e];refine ⟨h1.size,h1.ew,fun i=>?_,h1.gl,h1.h,h1.inj,h1.old,h1.fr,h1.xs,h1.jn⟩;rw[FS.dF];split
 ·rename_i hi;subst hi;have:=hR.t d;have e2:s.fs.T d=.nils:=hd;rw[e2]at this;obtain ⟨ad,h⟩:=DK this;rw[h];exact .kH (by simp[Zh]) rfl
 ·exact h1.t i
def R.zF:∀ {ps:List (Nat×Nat)} {s:St} {g:Nat->GM} {a:Act} {w:World},R c g s.fs a w->IT s ps->∃ g',R c g' (s.zF ps).fs a w
 | [],s,g,a,w,hR,_=>⟨g,hR⟩
 | (d,es)::r,s,g,a,w,hR,h=>by
   obtain ⟨g1,h1⟩:=hR.ph (es:=es) h.1.1 h.1.2;exact R.zF (ps:=r) (s:=s.ph d es) h1 h.2
def Xtp {ps:List (Nat×Nat)}{b:TC}{Q:EX->St->Prop}{s:St}(h0:IT s ps)(h:rf P c b Q (s.zF ps)):rf P c b Q s:=fun code he g a w hR=>by
 obtain ⟨g1,h1⟩:=hR.zF h0;exact h code he g1 a w h1
end
attribute [go_sem] St.ph St.zF IT
section
variable {P:Program}{c:Cx}
def zG (d:Option Nat)(gd:Option (Nat×Bool)):bc:=⟨jQ gd,[],d.toList,[]⟩
def V7 {s:St}  {k:PK}   (hb:gB s.fs gd=some false)(aS:gg s.fs gd):Ki P c (.pd d k xs gd) s.fs (zG d gd) (s.ca d (.dV false .any)).fs:=by
 intro ops io he;obtain ⟨aX,bb,hd,ys,aE,rfl⟩:=Zm he;have jx:(s.ca d (.dV false .any)).fs=match d with|some d=>s.fs.put d (.dV false .any)|none=>s.fs:=by
  cases d with
  | none=>rfl
  | some d=>exact St.bU _ _ _
 rw[jx];refine ⟨fun i hi=>?_,fun b _=>by cases d<;>rfl,?_⟩
 ·cases d with
  | none=>rfl
  | some d=>show (s.fs.put d _).T i=_;rw[FS.dF,aa (fun e=>hi (by simp[zG,e]))]
 ·intro s2 hT hH g a w hR K Q' hK;have hg:∀ t b,gd=some (t,b)->s2.T t=s.fs.T t:=fun t b e=>hT t (by simp[zG,e,jQ]);have j1:gB s2 gd=gB s.fs gd:=by
   cases gd with
   | none=>rfl
   | some p=>obtain ⟨t,b⟩:=p;simp only[gB,hg t b rfl]
  have j2:gg s2 gd:=by
   cases gd with
   | none=>exact aS
   | some p=>obtain ⟨t,b⟩:=p;simpa only[gg,hg t b rfl] using aS
  have np:K (a.put io.dst undef) w:=by
   rw[bb];cases d with
   | none =>
    refine hK g _ w ?_;have:dB s2 s.fs (zG none gd)=s2:=by unfold dB zG;simp
    simp only[this];exact hR
   | some d =>
    refine hK g _ w ?_;show R c g (dB s2 (s.fs.put d _) ⟨jQ gd,[],[d],[]⟩) _ _;rw[yY];exact hR.put (by simpa using hd) (.dV (fun h=>by cases h) fun _=>rfl)
  unfold Uo;rw[wS aX hR j2,j1,hb];simp only[Option.getD_some,Bool.false_eq_true,if_false];exact np
def xh {K:St->Prop}{s:St}  {k:PK}   (hb:gB s.fs gd=some false)(aS:gg s.fs gd/\XP P c r0 K (s.ca d (.dV false .any))):Yo P c (.pd d k xs gd) r0 K s :=
 .inl ⟨_,_,V7 hb aS.1,aS.2⟩
def xi {fs:List bc}  {K:St->Prop}{s:St}  {k:PK}   (hb:gB s.fs gd=some false)(aS:gg s.fs gd/\XD P c anc r0 (zG d gd::fs) K (s.ca d (.dV false .any))):Yz P c anc (.pd d k xs gd) r0 fs K s :=
 ⟨_,_,V7 hb aS.1,aS.2⟩
end
attribute [go_sem] zG
section
variable {P:Program}{c:Cx}
def V8 {s s':St}{d:Option Nat}{k:PK}{f:FuncId}{xs:List TV}{σ:Nat->Nat}{args:List AV}{aL:List (Nat×Bk)}{m:Nat}{r:AV}{ax:List (Nat×Bk)}{n:Nat}{N:List Nat}(fJ:GS P c.gl f args aL m r ax n)
  (jy:∀ (o:Oper) (ys:List Operand),Xt P o=some (k,ys)->xs=ys.map aP->∀ (s2:FS) (g:Nat->GM) (a:Act) (w:World),(∀ i ∈ Xe xs,s2.T i=s.fs.T i)->R c g s2 a w->∃ vs:List Value,(execOp a.eval o).run P w=.ok (.enter f vs.toArray) w/\bT g (Qm c g s2) w (ay σ args) vs)
  (xg:∀ b b',b<n->b'<n->σ b=σ b'->b=b') (iM:∀ p ∈ aL,p.1<m/\bX m p.2/\s.fs.H (σ p.1)=Qw σ p.2) (sf:∀ b,b<m->∃ p ∈ aL,p.1=b) (hle:m<=n) (bq:∀ b,m<=b->b<n->s.fs.H (σ b)=.free)
  (mG:∀ p ∈ ax,p.1<n/\bX n p.2) (N9:Qe n r) (yT:ah m args)
  (xj:∀ b,b<n->σ b ∈ N) (dO:∀ j ∈ N,∃ b,b<n/\σ b=j)
  (om:∀ i,s'.fs.T i=match d with|some d=>(if d=i then aB σ r else s.fs.T i)|none=>s.fs.T i) (sm:∀ b,b<n->s'.fs.H (σ b)=tS σ (Qb ax n b)) (mD:∀ j,j ∉ N->s'.fs.H j=s.fs.H j):Ki P c (.pd d k xs none) s.fs ⟨Xe xs,N,d.toList,N⟩ s'.fs:=by
 intro ops io he;obtain ⟨aX,bb,hd,ys,aE,rfl⟩:=Zm he;refine ⟨fun i hi=>?_,fun j hj=>mD j hj,fun s2 hT hH g a w hR K Q' hK=>Ze (Jj aX) ?_⟩
 ·rw[om];cases d with
  | none=>rfl
  | some d=>simp only[Option.toList_some,mem_singleton]at hi;simp only;rw[aa fun e=>hi e.symm]
 ·obtain ⟨vs,hrun,hv⟩:=jy io ys aE rfl s2 g a w hT hR;have mE:Fit σ s2 aL m:=by
   refine ⟨fun p hp=>?_,fun p hp q hq e=>xg _ _ (Nat.lt_of_lt_of_le (iM p hp).1 hle) (Nat.lt_of_lt_of_le (iM q hq).1 hle) e⟩;obtain ⟨q1,q2,q3⟩:=iM p hp;exact ⟨q1,q2,by rw[hH _ (xj p.1 (Nat.lt_of_lt_of_le q1 hle))];exact q3⟩
  have cz:∀ b,m<=b->b<n->s2.H (σ b)=.free:=fun b h1 h2=>by
   rw[hH _ (xj b h2)];exact bq b h1 h2
  obtain ⟨g1,iv,zE,tU⟩:=IN hR mE;have kh:=Ex (g1:=g1) iv tU yT hv;have eB:=fJ.2 w _ _ _ g1 zE kh;unfold Oper.wp;rw[hrun];rw[Oper.upon_enter];refine eB.mono fun e w' ⟨v,g2,e1,e2,e3,e4⟩=>?_;subst e1
  let s3:FS:=⟨s2.T,fun j=>if j ∈ N then s'.fs.H j else s2.H j⟩
  have hb:zy σ s2 s3 ax n:=by
   refine ⟨fun i=>rfl,fun b dK=>?_,fun j hj=>?_⟩
   ·show (if _ then _ else _)=_;rw[am (xj b dK),sm b dK]
   ·show (if _ then _ else _)=_;rw[aa fun h=>?_];obtain ⟨b,dK,rfl⟩:=dO j h;exact hj b dK rfl
  obtain ⟨mF,fZ⟩:=V5 hR mE sf hle xg cz (fun p hp=>(mG p hp).2) (fun p hp=>(mG p hp).1) iv e3 e2 hb;have vq:=fZ N9 e4;show K (a.put io.dst v) w';rw[bb];cases d with
  | none =>
   refine hK (Kf g g2 σ n) _ w' ?_;have:dB s2 s'.fs ⟨Xe (ys.map aP),N,[],N⟩=s3:=by
    refine pj (fun i=>?_) fun j=>rfl;show (if i ∈ ([]:List Nat) then s'.fs.T i else s2.T i)=s2.T i;simp
   show R c _ (dB s2 s'.fs ⟨Xe (ys.map aP),N,[],N⟩) _ _;rw[this];exact mF
  | some d =>
   refine hK (Kf g g2 σ n) _ w' ?_;have:dB s2 s'.fs ⟨Xe (ys.map aP),N,[d],N⟩=s3.put d (aB σ r):=by
    refine pj (fun i=>?_) fun j=>rfl;show (if i ∈ [d] then s'.fs.T i else s2.T i)=_;rw[FS.dF,om];by_cases h:d=i
    ·subst h;simp
    ·rw[aa (by simpa using fun e:i=d=>h e.symm),aa h]
   show R c _ (dB s2 s'.fs ⟨Xe (ys.map aP),N,[d],N⟩) _ _;rw[this];exact mF.put (by simpa using hd) vq
def Yc0 {s:St}{d:Option Nat}{k:PK}{f:FuncId}{xs:List TV}{ins:List Nat}{args:List AV}{aL:List (Nat×Bk)}{m:Nat}{r:AV}{ax:List (Nat×Bk)}{n:Nat}(fJ:GS P c.gl f args aL m r ax n)
  (jy:∀ (o:Oper) (ys:List Operand),Xt P o=some (k,ys)->xs=ys.map aP->∀ (s2:FS) (g:Nat->GM) (a:Act) (w:World),(∀ i ∈ Xe xs,s2.T i=s.fs.T i)->R c g s2 a w->∃ vs:List Value,(execOp a.eval o).run P w=.ok (.enter f vs.toArray) w/\bT g (Qm c g s2) w (ay (sg ins m s.n) args) vs)
  (ok:mB s.fs s.n ins args aL m r ax n):Ki P c (.pd d k xs none) s.fs (vo s d xs ins m n) (mC s d ins m r ax n).fs:=by
 have xg:∀ b b',b<n->b'<n->sg ins m s.n b=sg ins m s.n b'->b=b':=fun b b' _ _ e=>N8 ok.ins e;have hlen:ins.length=m:=by
  have:=ok.ins;simp only[zB,Bool.and_eq_true,beq_iff_eq]at this;exact this.1.1
 -- the names yZ are vp
 have gp:∀ b,b<n->sg ins m s.n b ∈ ins++j6 s.n m n:=fun b hb=>by
  unfold sg;split
  ·rename_i h;refine List.mem_append_left _ ?_;simp only[List.getD,getElem?_eq_getElem (show b<ins.length by omega),Option.getD_some];exact getElem_mem _
  ·refine mem_append_right _ ?_;simp only[j6,vn];exact ⟨b-m,by omega,rfl⟩
 have jt:∀ j,j ∈ ins++j6 s.n m n->∃ b,b<n/\sg ins m s.n b=j:=fun j hj=>by
  rcases mem_append.1 hj with h|h
  ·obtain ⟨i,hi,rfl⟩:=List.getElem_of_mem h;have:=ok.le;refine ⟨i,by omega,?_⟩;unfold sg;rw[am af];simp[List.getD,hi]
  ·simp only[j6,vn]at h;obtain ⟨i,hi,rfl⟩:=h;exact ⟨m+i,by omega,by unfold sg;rw[aa af];omega⟩
 have sk:∀ j,(mC s d ins m r ax n).fs.H j=Qb (dt (sg ins m s.n) ax n n++s.h) (s.n+(n-m)) j:=fun j=>by cases d<;>rfl
 have om:∀ i,(mC s d ins m r ax n).fs.T i=match d with|some d=>(if d=i then aB (sg ins m s.n) r else s.fs.T i)|none=>s.fs.T i:=fun i=>by
  cases d with
  | none=>rfl
  | some d=>show look ((d,_)::s.t) i=_;rw[Jn];rfl
 have sm:∀ b,b<n->Qb (dt (sg ins m s.n) ax n n++s.h) (s.n+(n-m)) (sg ins m s.n b)=tS (sg ins m s.n) (Qb ax n b):=fun b hb=>by
  rcases IS (dt (sg ins m s.n) ax n n) s.h (s.n+(n-m)) (sg ins m s.n b) with ⟨_,p,hp,e1,e2⟩|⟨h1,_⟩
  ·obtain ⟨b',bL,rfl⟩:=zD.1 hp;have:=xg b' b bL hb e1;subst this;exact e2
  ·exact (h1 _ (zD.2 ⟨b,hb,rfl⟩) rfl).elim
 have mD:∀ j,j ∉ ins++j6 s.n m n->Qb (dt (sg ins m s.n) ax n n++s.h) (s.n+(n-m)) j=s.fs.H j:=fun j hj=>by
  rcases IS (dt (sg ins m s.n) ax n n) s.h (s.n+(n-m)) j with ⟨⟨p,hp,e⟩,_⟩|⟨_,h2⟩
  ·obtain ⟨b,hb,rfl⟩:=zD.1 hp;exact (hj (e ▸ gp b hb)).elim
  ·rw[h2];show Qb s.h (s.n+(n-m)) j=Qb s.h s.n j;have br:∀ k,k<=n-m->Qb s.h (s.n+k) j=Qb s.h s.n j:=fun k hk=>by
    induction k with
    | zero=>rfl
    | succ k ih =>
     rw[<- ih af];refine Wa s.h (s.n+k) j fun e=>hj ?_;refine mem_append_right _ ?_;simp only[j6,vn];exact ⟨k,by omega,e.symm⟩
   exact br _ (Nat.le_refl _)
 exact V8 (σ:=sg ins m s.n) (N:=ins++j6 s.n m n) fJ jy xg (fun p hp=>N0 ok.fit p hp) (fun b hb=>by
  have:=N6.2 hb;rw[<- ok.jV,N5]at this;obtain ⟨p,hp,e⟩:=mem_map.1 this;exact ⟨p,hp,e⟩) ok.le (fun b h1 h2=>by
  refine N4 ok.free _ ?_;unfold sg;rw[aa af];simp only[j6,vn];exact ⟨b-m,by omega,rfl⟩) (fun p hp=>IQ ok.out p hp) ok.nr ok.na gp jt (fun i=>by rw[om];cases d<;>rfl) (fun b hb=>by rw[sk];exact sm b hb) (fun j hj=>by rw[sk];exact mD j hj)
def Oa {xs:List Operand}(h:Xt P o=some (.cC,xs)):∃ x ys ts,xs=x::ys/\o.op=.call ⟨.value x,ys.toArray,ts⟩:=by
 unfold Xt at h
 repeat' split at h
 all_goals first
  | (simp only[Option.some.injEq,Prod.mk.injEq,true_and]at h;subst h;rename_i hop;exact ⟨_,_,_,rfl,by rw[hop]⟩)
  | (simp at h;done)
  | (cases h;done)
  | (simp[Option.map_eq_some_iff]at h;done)
def Ob {f:FuncId}(hc:BY P f)  {x:Operand}{ys:List Operand}{ts:Array TypeId}(ho:o.op=.call ⟨.value x,ys.toArray,ts⟩)(a:Act)(w:World)(us:Array Value)(hx:a.eval x=.func (.func f) #[] us) :
  (execOp a.eval o).run P w=.ok (.enter f (ys.map a.eval++us.toList).toArray) w:=by
 have e:(ys.map a.eval++us.toList).toArray=(ys.map a.eval).toArray++us:=Array.ext' av;rw[e];obtain ⟨fn,h1,h2,h3⟩:=hc;have nA:fn.body≠none:=fun e=>by rw[e]at h2;cases h2
 have Nw : fn.name ≠ "runtime.NumGoroutine" := fun e => by rw [e] at h3; cases h3
 simp[execOp,ho,resolve,hx,Deferred.ofValue,invoke,callFunc,program,Sem.run,h1,nA,Nw]
def IU {g:Nat->GM}{W:Nat->Prop}{w:World}:∀ {xs ys:List AV} {us vs:List Value},bT g W w xs us->bT g W w ys vs->bT g W w (xs++ys) (us++vs)
 | [],_,[],_,_,h=>h
 | _::_,_,_::_,_,h,k=>⟨h.1,IU h.2 k⟩
 | [],_,_::_,_,h,_=>h.elim
 | _::_,_,[],_,h,_=>h.elim
def IV {g:Nat->GM}{W:Nat->Prop}{w:World}:∀ {xs:List AV} {us:List Value},us.length=xs.length->(∀ j,j<xs.length->VR g W w (xs.getD j .any) (us.getD j undef))->bT g W w xs us
 | [],[],_,_=>trivial
 | x::xs,u::us,hl,h=>⟨by simpa using h 0 av,IV (by simpa using hl) fun j hj=>by simpa using h (j+1) (by simp;omega)⟩
 | [],_::_,hl,_=>by simp at hl
 | _::_,[],hl,_=>by simp at hl
def vr:List AV->Option (FuncId×List AV)
 | .cl f caps::r=>some (f,r++caps)
 | _=>none
def V9 {s:St}{d:Option Nat}{f:FuncId}{xs:List TV}{ins:List Nat}{args:List AV}{aL:List (Nat×Bk)}{m:Nat}{r:AV}{ax:List (Nat×Bk)}{n:Nat}(fJ:GS P c.gl f args aL m r ax n)(hc:Qr none (aD c.gl s.fs xs))
  (aM:vr ((aD c.gl s.fs xs).map Qh)=some (f,ay (sg ins m s.n) args)) (ok:mB s.fs s.n ins args aL m r ax n):Ki P c (.pd d .cC xs none) s.fs (vo s d xs ins m n) (mC s d ins m r ax n).fs:=by
 refine Yc0 fJ (fun o zs aE vt s2 g a w hT hR=>?_) ok;obtain ⟨x,ys,ts,rfl,hop⟩:=Oa aE;subst vt;have bj:aD c.gl s2 ((x::ys).map aP)=aD c.gl s.fs ((x::ys).map aP):=Yd fun i hi=>hT i hi;have hv:=Yk (hR.ci (x::ys)) (by rw[bj];exact hc);rw[bj]at hv;generalize (aD c.gl s.fs ((x::ys).map aP)).map Qh=zs at aM hv;cases zs with
 | nil=>simp[vr]at aM
 | cons z zs =>
  unfold vr at aM;split at aM
  ·rename_i f' so r' heq;simp only[Option.some.injEq,Prod.mk.injEq]at aM;obtain ⟨rfl,aM⟩:=aM;simp only[List.cons.injEq]at heq;obtain ⟨rfl,rfl⟩:=heq;rw[map_cons]at hv;obtain ⟨h1,h2⟩:=hv;generalize hx:a.eval x=vx at h1;cases h1 with
   | cl hs h =>
    refine ⟨_,Ob fJ.1 hop a w _ hx,?_⟩;rw[<- aM];have:=IU h2 (IV (xs:=so) (us:=Array.toList _) (by simpa using hs) fun j hj=>by
     have:=h j hj;simpa [Array.getD_eq_getD_getElem?,List.getD] using this)
    exact this
  ·cases aM
def Ja {r0:List bB}{K:St->Prop}{s:St}{d:Option Nat}{f:FuncId}{xs:List TV}{ins:List Nat}{args:List AV}{aL:List (Nat×Bk)}{m:Nat}{r:AV}{ax:List (Nat×Bk)}{n:Nat}(fJ:GS P c.gl f args aL m r ax n)
  (aM:vr ((aD c.gl s.fs xs).map Qh)=some (f,ay (sg ins m s.n) args)) (h:Qr none (aD c.gl s.fs xs)/\mB s.fs s.n ins args aL m r ax n/\XP P c r0 K (mC s d ins m r ax n)):Yo P c (.pd d .cC xs none) r0 K s :=
 .inl ⟨_,_,V9 fJ h.1 aM h.2.1,h.2.2⟩
def Zg {anc:List Nat}{fs:List bc}{r0:List bB}{K:St->Prop}{s:St}{d:Option Nat}{f:FuncId}{xs:List TV}{ins:List Nat}{args:List AV}{aL:List (Nat×Bk)}{m:Nat}{r:AV}{ax:List (Nat×Bk)}{n:Nat}(fJ:GS P c.gl f args aL m r ax n)
  (aM:vr ((aD c.gl s.fs xs).map Qh)=some (f,ay (sg ins m s.n) args)) (h:Qr none (aD c.gl s.fs xs)/\mB s.fs s.n ins args aL m r ax n/\XD P c anc r0 (vo s d xs ins m n::fs) K (mC s d ins m r ax n)):Yz P c anc (.pd d .cC xs none) r0 fs K s :=
 ⟨_,_,V9 fJ h.1 aM h.2.1,h.2.2⟩
def Jr {f:FuncId}{caps gf:List AV}{r:AV}(eg:PS P c.gl f (gf++caps) r)(fU:ah 0 (gf++caps)):kS P c .cC (.cl f caps::gf) r:=by
 intro o ys aE g W a w hX jS hv K Q hK;obtain ⟨x,zs,ts,rfl,hop⟩:=Oa aE;rw[map_cons]at hv;obtain ⟨h1,h2⟩:=hv;generalize hx:a.eval x=vx at h1;cases h1 with
 | cl hs h =>
  have h3:=IU h2 (IV (xs:=caps) (us:=Array.toList _) (by simpa using hs) fun j hj=>by
   have:=h j hj;simpa [Array.getD_eq_getD_getElem?,List.getD] using this)
  have h4:bT (fun _=>.un) W w (gf++caps) _:=Nx (n:=0) (fun b hb=>absurd hb af) h3 fU;unfold Oper.wp;rw[Ob eg.1 hop a w _ hx];rw[Oper.upon_enter];refine (eg.2 w _ _ hX jS h4).mono fun e w' ⟨v,e1,e2,e3⟩=>?_;subst e1;exact hK v w' e3 (e2.mono (Fr.refl _ _) (fun _ _ h=>h) (fun _ h=>absurd rfl h))
def WA {N:Nat}{ops:Array Oper}{io:Oper}  {k:PK}   (h:Uy P N ops io=some (.pd d k xs gd)):Uy P N ops { io with guard:=none }=some (.pd d k xs none):=by
 have l8:n6 ops { io with guard:=none }=some none:=rfl;have hq:uY P { io with guard:=none }=uY P io:=rfl;have hp:Xt P { io with guard:=none }=Xt P io:=rfl;unfold Uy at h ⊢;rw[l8,hq,hp];split at h
 ·cases h
 ·rename_i DT hg;dsimp only;split at h
  ·split at h
   ·split at h<;>simp at h
   ·cases h
  ·split at h<;>simp at h
  ·split at h<;>simp at h
  ·rename_i n1 n2 n3;have rest:∀ {α:Type} (x:α),x=x:=fun _=>rfl;split at h
   ·split at h<;>simp at h
   ·rename_i n4;split at h
    ·rename_i k' ys hk;split at h
     ·rename_i hd;simp only[Option.some.injEq,bB.pd.injEq]at h;obtain ⟨rfl,rfl,rfl,rfl⟩:=h;split
      all_goals first
       | (exfalso;apply n1<;>assumption)
       | (exfalso;apply n2<;>assumption)
       | (exfalso;apply n3<;>assumption)
       | (exfalso;apply n4<;>assumption)
       | rfl
       | (exfalso;contradiction)
     ·cases h
    ·cases h
def IW {s:FS}{s':FS}  {k:PK}   {F:bc}(hb:gB s gd=some true)(aS:gg s gd)(h:Ki P c (.pd d k xs none) s F s'):Ki P c (.pd d k xs gd) s ⟨jQ gd++F.rt,F.rb,F.wt,F.wb⟩ s':=by
 intro ops io he;obtain ⟨aX,bb,hd,ys,aE,rfl⟩:=Zm he;obtain ⟨h1,h2,h3⟩:=h ops _ (WA he);refine ⟨h1,h2,fun s2 hT hH g a w hR K Q' hK=>?_⟩;have hg:∀ t b,gd=some (t,b)->s2.T t=s.T t:=fun t b e=>hT t (by simp[e,jQ]);have j1:gB s2 gd=gB s gd:=by
  cases gd with
  | none=>rfl
  | some p=>obtain ⟨t,b⟩:=p;simp only[gB,hg t b rfl]
 have j2:gg s2 gd:=by
  cases gd with
  | none=>exact aS
  | some p=>obtain ⟨t,b⟩:=p;simpa only[gg,hg t b rfl] using aS
 have h4:=h3 s2 (fun i hi=>hT i (by simp[hi])) hH g a w hR K Q' hK;unfold Uo at h4 ⊢;rw[wS aX hR j2,j1,hb];rw[Ij rfl,am rfl]at h4;rw[Option.getD_some,am rfl];exact h4
def Yil {K:St->Prop}{s:St}  {k:PK}   (hb:gB s.fs gd=some true)(aS:gg s.fs gd)(h:Yo P c (.pd d k xs none) r0 K s):Yo P c (.pd d k xs gd) r0 K s:=by
 rcases h with ⟨F,s',h1,h2⟩|h
 ·exact .inl ⟨_,s',IW hb aS h1,h2⟩
 ·refine .inr fun ops io he g a w hR K' Q' hK=>?_;obtain ⟨aX,bb,hd,ys,aE,rfl⟩:=Zm he;have h4:=h ops _ (WA he) g a w hR K' Q' hK;unfold Uo at h4 ⊢;rw[wS aX hR aS,hb];rw[Ij rfl,am rfl]at h4;rw[Option.getD_some,am rfl];exact h4
end
theorem Xgg (f:FuncId)(caps r:List AV):vr (.cl f caps::r)=some (f,r++caps):=rfl
attribute [go_sem] Xgg
section
variable {P:Program}{c:Cx}
def z1 {o:bB}{r:List bB}{K:St->Prop}{s:St}(h:Yo P c o r K s):Yo P c o r K s:=h
def z2 {t:TC}{Q:EX->St->Prop}{s:St}(h:xw P c t Q s):xw P c t Q s:=h
def z3 {o:bB}{r:List bB}{fs:List bc}{K:St->Prop}{s:St}(h:Yz P c anc o r fs K s):Yz P c anc o r fs K s:=h
end
attribute [go_sem] if_true if_false List.length_replicate List.length_take List.length_drop List.length_set List.length_cons List.length_nil decide_true decide_false bne_self_eq_false beq_self_eq_true
def vu (n:Nat):Nat:=n
theorem aQ:vu 1=1:=rfl
theorem bu:vu 2=2:=rfl
theorem bO:vu 3=3:=rfl
theorem cy:vu 4=4:=rfl
theorem dc:vu 5=5:=rfl
theorem eT:vu 6=6:=rfl
theorem gF:vu 7=7:=rfl
theorem nC:vu 8=8:=rfl
theorem rn:vu 9=9:=rfl
class Main (p:Prop):Prop where
 it:True
instance {P:Program}{c:Cx}{o:bB}{r:List bB}{K:St->Prop}{s:St}:Main (Yo P c o r K s):=⟨trivial⟩
instance {P:Program}{c:Cx}{t:TC}{Q:EX->St->Prop}{s:St}:Main (xw P c t Q s):=⟨trivial⟩
instance {P:Program}{c:Cx}{anc:List Nat}{o:bB}{r:List bB}{fs:List bc}{K:St->Prop}{s:St}:Main (Yz P c anc o r fs K s):=⟨trivial⟩
instance {P:Program}{c:Cx}{b:TC}{Q:EX->St->Prop}{s:St}:Main (rf P c b Q s):=⟨trivial⟩
def zm {p:Prop}[Main p](h:p):p:=h
def XG {p q:Prop}(k:q)(h:p=q:=by (conv=>lhs;simp (disch:=first|omega|(simp only[go_sem]<;>omega)|fail) only[go_sem,↓reduceIte,Nat.reduceBEq,Nat.reduceAdd,Nat.reduceMul,Nat.reduceSub,Nat.reduceLT,Nat.reduceLeDiff,Nat.reduceEqDiff,Int.reduceToNat,Int.reduceBEq,Int.reduceBNe,Int.reduceLT,Int.reduceLE,Int.reduceEq,aQ,bu,bO,cy,dc,eT,gF,nC,rn])):p:=h.mpr k
def XM {p q:Prop}(k:q)(h:p=q:=by (conv=>lhs;simp (disch:=first|omega|(simp only[go_sem]<;>omega)|fail) only[go_sem,↓reduceIte,Nat.reduceBEq,Nat.reduceAdd,Nat.reduceMul,Nat.reduceSub,Nat.reduceLT,Nat.reduceLeDiff,Nat.reduceEqDiff,Int.reduceToNat,Int.reduceBEq,Int.reduceBNe,Int.reduceLT,Int.reduceLE,Int.reduceEq,Int.reduceMul,Int.reduceAdd,Int.reduceSub,aQ,bu,bO,cy,dc,eT,gF,nC,rn])):p:=h.mpr k
def CL {p:Prop}(h:p:=by (first|exact True.intro|omega|(show Wp _ _ _=true;decide +kernel)|(refine fun _=>?_;simp_all;done)|fail)):p:=h
def Qc {P:Program}{c:Cx}{Q:EX->St->Prop}{s:St}{x:TV}{a b:TC}{t:Bool}{A B:Prop}(ht:A->xw P c a Q s)(hf:B->xw P c b Q s)
  (h:aV c.gl s.fs x=.bool t:=by (refine XG ?_;first|exact rfl|exact True.intro|fail))
  (hA:(t=true)=A:=by (conv=>lhs;(try simp only[decide_eq_true_eq,decide_eq_false_iff_not,Bool.or_eq_true,Bool.and_eq_true,Bool.not_eq_true',Bool.or_eq_false_iff,Bool.and_eq_false_iff,Bool.not_eq_false',beq_iff_eq,bne_iff_ne,ne_eq,beq_eq_false_iff_ne,bne_eq_false_iff_eq,Bool.true_eq_false,Bool.false_eq_true,Decidable.not_not])))
  (hB:(t=false)=B:=by (conv=>lhs;(try simp only[decide_eq_true_eq,decide_eq_false_iff_not,Bool.or_eq_true,Bool.and_eq_true,Bool.not_eq_true',Bool.or_eq_false_iff,Bool.and_eq_false_iff,Bool.not_eq_false',beq_iff_eq,bne_iff_ne,ne_eq,beq_eq_false_iff_ne,bne_eq_false_iff_eq,Bool.true_eq_false,Bool.false_eq_true,Decidable.not_not]))):xw P c (.cond x a b) Q s :=
 Yif h (fun e=>ht (hA.mp e)) (fun e=>hf (hB.mp e))
structure cW (q:Prop):Prop where
 it:q
def pn (_:List Nat):Prop:=True
def ip (l:List Nat):pn l:=trivial
def An {p q:Prop}(a:p)(b:q):p/\q:=⟨a,b⟩
@[reducible] def ox {l:List Nat} (_:pn l):List Nat:=l
theorem Qa {p q:Prop}(k:q)(h:cW q->p:=by (intro zk;(refine XG ?_;(try with_reducible and_intros);all_goals try first|refine zm ?_|exact CL);exact zk.it)):p:=h ⟨k⟩
def Qp {p:Prop}(h:p:=by ((refine XG ?_;(try with_reducible and_intros);all_goals try first|refine zm ?_|exact CL))):p:=h
def Xc {FP:Prop}{p q:Prop}(fp:FP)(k:q)(h:FP->cW q->p:=by (intro zp zk;((first|apply Yy|apply Yh|apply Xo|apply Xg)<;>(first|exact zp|(refine XG ?_;first|exact rfl|exact True.intro|((try with_reducible and_intros);all_goals try first|refine zm ?_|exact CL))));exact zk.it)):p:=h fp ⟨k⟩
def Oc {FP:Prop}{p:Prop}(fp:FP)(h:FP->p:=by (intro zp;((first|apply Yy|apply Yh|apply Xo|apply Xg)<;>(first|exact zp|(refine XG ?_;first|exact rfl|exact True.intro|((try with_reducible and_intros);all_goals try first|refine zm ?_|exact CL)))))):p:=h fp
def Ke {p q:Prop}(k:q)(h:cW q->p:=by (intro zk;((first|apply w8|apply w9|apply xc|apply xd|apply xe|apply xf);refine XG ?_;(try with_reducible and_intros);all_goals try first|refine zm ?_|exact CL);exact zk.it)):p:=h ⟨k⟩
def Yk6 {p:Prop}(h:p:=by (((first|apply w8|apply w9|apply xc|apply xd|apply xe|apply xf);refine XG ?_;(try with_reducible and_intros);all_goals try first|refine zm ?_|exact CL))):p:=h
def qh {FP:Prop}{p q:Prop}(fi:pn li)(fp:FP)(k:q)(h:pn li->FP->cW q->p:=by (intro zi zp zk;((first|refine Kn (ins:=ox zi) zp ?_ ?_|refine Jb (ins:=ox zi) zp ?_ ?_|refine Ja (ins:=ox zi) zp ?_ ?_|refine Zg (ins:=ox zi) zp ?_ ?_)<;>(dsimp only[ox];refine XG ?_;(try first|exact rfl|exact True.intro);(try with_reducible and_intros);all_goals try first|refine zm ?_|exact CL));exact zk.it)):p:=h fi fp ⟨k⟩
def Od {FP:Prop}{p:Prop}(fi:pn li)(fp:FP)(h:pn li->FP->p:=by (intro zi zp;((first|refine Kn (ins:=ox zi) zp ?_ ?_|refine Jb (ins:=ox zi) zp ?_ ?_|refine Ja (ins:=ox zi) zp ?_ ?_|refine Zg (ins:=ox zi) zp ?_ ?_)<;>(dsimp only[ox];refine XG ?_;(try first|exact rfl|exact True.intro);(try with_reducible and_intros);all_goals try first|refine zm ?_|exact CL)))):p:=h fi fp
def Ey {p q:Prop}(k:q)(h:cW q->p:=by (intro zk;(refine XM ?_;(try with_reducible and_intros);all_goals try first|refine zm ?_|exact CL);exact zk.it)):p:=h ⟨k⟩
def Yk1 {p:Prop}(h:p:=by ((refine XM ?_;(try with_reducible and_intros);all_goals try first|refine zm ?_|exact CL))):p:=h
def Oe {FP:Prop}{p q:Prop}(fp:FP)(k:q)(h:FP->cW q->p:=by (intro zp zk;((first|apply Yy|apply Yh|apply Xo|apply Xg)<;>(first|exact zp|(refine XM ?_;first|exact rfl|exact True.intro|((try with_reducible and_intros);all_goals try first|refine zm ?_|exact CL))));exact zk.it)):p:=h fp ⟨k⟩
def Qd {F:Prop}{p q:Prop}(f:F)(k:q)(h:F->cW q->p:=by (intro aQ zk;exact Qa zk.it)):p:=h f ⟨k⟩
def Qi {F:Prop}{p:Prop}(f:F)(h:F->p:=by (intro aQ;exact Qp )):p:=h f
def Qj {FP:Prop}{F:Prop}{p q:Prop}(fp:FP)(f:F)(k:q)(h:FP->F->cW q->p:=by (intro zp aQ zk;exact Xc zp zk.it)):p:=h fp f ⟨k⟩
def vw {FP:Prop}{F:Prop}{p:Prop}(fp:FP)(f:F)(h:FP->F->p:=by (intro zp aQ;exact Oc zp)):p:=h fp f
def Yp {F:Prop}{p q:Prop}(f:F)(k:q)(h:F->cW q->p:=by (intro aQ zk;exact Ke zk.it)):p:=h f ⟨k⟩
def Ez {F:Prop}{p:Prop}(f:F)(h:F->p:=by (intro aQ;exact Yk6 )):p:=h f
def Jo {FP:Prop}{F:Prop}{p q:Prop}(fi:pn li)(fp:FP)(f:F)(k:q)(h:pn li->FP->F->cW q->p:=by (intro zi zp aQ zk;exact qh zi zp zk.it)):p:=h fi fp f ⟨k⟩
def Kd {FP:Prop}{F:Prop}{p:Prop}(fi:pn li)(fp:FP)(f:F)(h:pn li->FP->F->p:=by (intro zi zp aQ;exact Od zi zp)):p:=h fi fp f
def tV {F:Prop}{p q:Prop}(f:F)(k:q)(h:F->cW q->p:=by (intro aQ zk;exact Ey zk.it)):p:=h f ⟨k⟩
def IX {F:Prop}{p:Prop}(f:F)(h:F->p:=by (intro aQ;exact Yk1 )):p:=h f
def Yjx {FP:Prop}{F:Prop}{p q:Prop}(fp:FP)(f:F)(k:q)(h:FP->F->cW q->p:=by (intro zp aQ zk;exact Oe zp zk.it)):p:=h fp f ⟨k⟩
def Yjt {FP:Prop}{p q r:Prop}(fi:pn li)(fp:FP)(k:q)(l:r)(h:pn li->FP->cW q->cW r->p:=by (intro zi zp zk zl;((first|refine Kn (ins:=ox zi) zp ?_ ?_|refine Jb (ins:=ox zi) zp ?_ ?_|refine Ja (ins:=ox zi) zp ?_ ?_|refine Zg (ins:=ox zi) zp ?_ ?_)<;>(dsimp only[ox];refine XM ?_;(try first|exact rfl|exact True.intro);((try with_reducible and_intros);all_goals try first|refine zm ?_|exact CL)));exact zk.it;exact zl.it)):p:=h fi fp ⟨k⟩ ⟨l⟩
def zH {FP:Prop}{F:Prop}{p q r:Prop}(fi:pn li)(fp:FP)(f:F)(k:q)(l:r)(h:pn li->FP->F->cW q->cW r->p:=by (intro zi zp aQ zk zl;exact Yjt zi zp zk.it zl.it)):p:=h fi fp f ⟨k⟩ ⟨l⟩
def Yc {p q:Prop}(k:q)(h:cW q->p:=by (intro zk;refine Qc (fun zh=>?_) (fun zh=>?_)<;>first|exact zh.elim|exact zk.it)):p:=h ⟨k⟩
def Yb {p q:Prop}(k:q)(h:cW q->p:=by (intro zk;((first|apply xh|apply xi)<;>(refine XG ?_;first|exact rfl|exact True.intro|((try with_reducible and_intros);all_goals try first|refine zm ?_|exact CL)));exact zk.it)):p:=h ⟨k⟩
def tW {p q:Prop}(k:q)(h:cW q->p:=by (intro zk;((refine Yil ?_ ?_ ?_);(focus (refine XG ?_;try first|exact rfl|exact True.intro));(focus (refine XG ?_;try trivial)));exact zk.it)):p:=h ⟨k⟩
def jz {F:Prop}{p q:Prop}(f:F)(k:q)(h:F->cW q->p:=by (intro aQ zk;exact Yb zk.it)):p:=h f ⟨k⟩
def zI {F:Prop}{p q:Prop}(f:F)(k:q)(h:F->cW q->p:=by (intro aQ zk;exact tW zk.it)):p:=h f ⟨k⟩
def WB:FT Tryz.prog 135 Tryz.f135 (aG Tryz.prog Tryz.f135) [.t 4,.t 5]:=.of Tryz.func135
def WC:FT Tryz.prog 161 Tryz.f161 (aG Tryz.prog Tryz.f161) [.t 4,.t 5]:=.of Tryz.func161
def WD:FT Tryz.prog 83 Tryz.f83 (aG Tryz.prog Tryz.f83) [.t 2,.t 3]:=.of Tryz.func83
def WE:FT Tryz.prog 160 Tryz.f160 (aG Tryz.prog Tryz.f160) [.t 2,.t 3]:=.of Tryz.func160
def Xh0:FT Tryz.prog 85 Tryz.f85 (aG Tryz.prog Tryz.f85) [.t 2]:=.of Tryz.func85
def Qvm:FT Tryz.prog 174 Tryz.f174 (aG Tryz.prog Tryz.f174) [.t 2]:=.of Tryz.func174
def IY:FT Tryz.prog 122 Tryz.f122 (aG Tryz.prog Tryz.f122) [.t 6]:=.of Tryz.func122
def Xl1:FT Tryz.prog 123 Tryz.f123 (aG Tryz.prog Tryz.f123) [.t 8,.t 9]:=.of Tryz.func123
def Qwk:FT Tryz.prog 175 Tryz.f175 (aG Tryz.prog Tryz.f175) [.t 2]:=.of Tryz.func175
def Xde:FT Tryz.prog 173 Tryz.f173 (aG Tryz.prog Tryz.f173) [.t 8,.t 9]:=.of Tryz.func173
def WH:FT Tryz.prog 144 Tryz.f144 (aG Tryz.prog Tryz.f144) [.t 4]:=.of Tryz.func144
structure EA where
 k:Nat
 l:List UInt8
def Wt (v:Int)(n:Nat)(hn:n<=8)(hl:l.length<=100000000) :
  GS Tryz.prog gl 122 [.sl 1 0 0 l.length l.length,.int .i64 v,.int .i64 n] [(0,.cells (Xi l))] 1 (.sl 1 1 0 (l.length+n) (l.length+n)) [(1,.cells (Xi (l++be v n)))] 2:=by
 refine IY.gs (ap rfl) (by simp[Bk.live]) fun c bf hg=>?_
 conv in aG _ _=>cbv
 refine Qa ?_
 refine wY (fun x:EA=>x.k≤n∧x.l++be v x.k=l++be v n) (fun x=>⟨[(0,.sl 1 1 0 x.l.length x.l.length),(1,.int .i64 v),(7,.int .i64 ((x.k:Int) - 1))],[(1,.cells (Xi x.l))],2⟩) (fun x=>x.k) IY.mixed 1 bf
  ⟨⟨n,l⟩,⟨Nat.le_refl _,rfl⟩,[(1,0)],by exact Qp⟩ fun ⟨k,l'⟩ ⟨hk,he⟩=>?_
 dsimp only at hk he;refine Qa ?_;have kN:l'.length+k=l.length+n:=by
  have:=congrArg List.length he;simpa [Qk] using this
 refine Qc ?_ ?_<;>intro h1
 ·obtain ⟨k,rfl⟩:∃ j,k=j + 1:=⟨k - 1,by omega⟩
  have e1:(((k+1:Nat):Int)-1)=k:=by omega
  rw[e1]at h1 ⊢;refine Qa ?_;refine Ke ?_;refine Ke ?_;refine ⟨⟨k,l'++[Qy v k]⟩,⟨by dsimp only;omega,?_⟩,⟨[(1,3)],?_⟩,by dsimp only;omega⟩
  ·simpa [be] using he
  ·refine Qa ?_;rfl
 ·have gO:k=0:=by omega
  subst gO;simp only[be,append_nil]at he;subst he;refine Qa ?_;refine ⟨[],?_⟩;exact Qi @Qk
structure EB where
 k:Nat
 l:Option (List UInt8)
def WJ (v:Int)(n:Nat)(hn:n<=8)(h0:0<n) :
  GS Tryz.prog gl 122 [.nils,.int .i64 v,.int .i64 n] [] 0 (.sl 1 0 0 n n) [(0,.cells (Xi (be v n)))] 1:=by
 refine IY.gs (ap rfl) av fun c bf hg=>?_
 conv in aG _ _=>cbv
 refine Qa ?_
 refine wY (fun x:EB=>x.k≤n∧(x.l.getD [])++be v x.k=be v n∧(x.l=none→x.k=n)) (fun x=>match x.l with|none=>⟨[(0,.nils),(1,.int .i64 v),(7,.int .i64 ((x.k:Int) - 1))],[],0⟩|some l=>⟨[(0,.sl 1 0 0 l.length l.length),(1,.int .i64 v),(7,.int .i64 ((x.k:Int) - 1))],[(0,.cells (Xi l))],1⟩) (fun x=>x.k) IY.mixed 0 bf
  ⟨⟨n,none⟩,⟨Nat.le_refl _,rfl,fun _=>rfl⟩,[],by exact Qp⟩ fun ⟨k,o⟩ ⟨hk,he,br⟩=>?_
 cases o with
 | none =>
  dsimp only at hk he br;obtain rfl:=br rfl;refine Qa ?_;refine Qc ?_ ?_<;>intro h1
  ·obtain ⟨k,rfl⟩:∃ j,k=j + 1:=⟨k - 1,by omega⟩
   have e1:(((k+1:Nat):Int)-1)=k:=by omega
   rw[e1]at h1 ⊢;refine Qa ?_;refine Ke ?_;refine Ke ?_;refine ⟨⟨k,some [Qy v k]⟩,⟨by dsimp only;omega,?_,fun h=>by cases h⟩,⟨[(0,1)],?_⟩,by dsimp only;omega⟩
   ·simp[be]
   ·refine Qa ?_;exact NY [] _ []
  ·omega
 | some l' =>
  dsimp only[Option.getD_some]at hk he br;have kN:l'.length+k=n:=by
   have:=congrArg List.length he;simpa [Qk] using this
  refine Qa ?_;refine Qc ?_ ?_<;>intro h1
  ·obtain ⟨k,rfl⟩:∃ j,k=j + 1:=⟨k - 1,by omega⟩
   have e1:(((k+1:Nat):Int)-1)=k:=by omega
   rw[e1]at h1 ⊢;refine Qa ?_;refine Ke ?_;refine Ke ?_;refine ⟨⟨k,some (l'++[Qy v k])⟩,⟨by dsimp only;omega,?_,fun h=>by cases h⟩,⟨[(0,2)],?_⟩,by dsimp only;omega⟩
   ·simpa [be] using he
   ·refine Qa ?_;rfl
  ·have gO:k=0:=by omega
   subst gO;simp only[be,append_nil]at he;subst he;refine Qa ?_;refine ⟨[],?_⟩;exact Qi @Qk
def Je (t s a b:Int):Bool:=decide (0<=t)&&decide (t<=1099511627776)&&decide (0<=s)&&decide (s<8)&&decide (0<=a)&&decide (a<3)&&decide (0<=b)&&decide (b<6)
def rq (t s a b:Int):Int:=if Je t s a b=true then 0 else 2
def Xjn (t s a b:Int)(f:Bool):PS Tryz.prog gl 85 [.agg [.int .i64 t,.int .i64 s,.int .i64 a,.int .i64 b,.bool f]] (.int .i64 (rq t s a b)):=by
 refine Xh0.ps (ap rfl) (by simp[Qe]) fun c hN hg=>?_
 conv in aG _ _=>cbv
 refine Qa ?_
 (repeat' (first|((refine Qc (fun hh=>?_) (fun hh=>?_)<;>try exact hh.elim)<;>refine Qa ?_) ))
 ·unfold rq Je;rw[aa];simp;omega
 ·unfold rq Je;rw[am];simp;omega
def Xay (t s a b:Int)(f:Bool):PS Tryz.prog gl 174 [.agg [.int .i64 t,.int .i64 s,.int .i64 a,.int .i64 b,.bool f]] (.int .i64 (rq t s a b)):=by
 refine Qvm.ps (ap rfl) (by simp[Qe]) fun c hN hg=>?_
 conv in aG _ _=>cbv
 refine Qa ?_
 (repeat' (first|((refine Qc (fun hh=>?_) (fun hh=>?_)<;>try exact hh.elim)<;>refine Qa ?_) ))
 ·unfold rq Je;rw[aa];simp;omega
 ·unfold rq Je;rw[am];simp;omega
def ki (seq time set:Int)(bs:List UInt8):List UInt8:=be 10 2++be (20+bs.length) 2++be (time.tmod 4294967296) 4++be seq 4++be 1 4++be set 2++be (4+bs.length) 2++bs
def Ug (seq time set:Int)(bs:List UInt8):AV:=if 0<=seq/\seq<4294967296 then .aR [.str (ki seq time set bs),.int .i64 0] else .aR [.str [],.int .i64 2]
def WK (seq time set:Int)(bs:List UInt8)(hl:bs.length<=10000000):PS Tryz.prog gl 123 [.int .i64 seq,.int .i64 time,.int .i64 set,.isl bs.length (Xi bs)] (Ug seq time set bs):=by
 refine Xl1.ps (ap rfl) (by unfold Ug;split<;>simp[Qe,ah]) fun c hN hg=>?_
 conv in aG _ _=>cbv
 refine Qa ?_
 (refine Qc (fun h1=>?_) (fun h1=>?_)<;>try exact h1.elim)
 ·refine Qa ?_;unfold Ug;rw[aa af]
 ·refine Qa ?_
  (have zC:=(WJ c.gl 10 2 aJ aJ);refine Jo (ip []) zC @Qk ?_;clear zC)
  (have zC:=(Wt c.gl (be 10 2) (20+bs.length) 2 aJ (by simp[Qk]));refine Jo (ip [0]) zC @Qk ?_;clear zC)
  (have zC:=(Wt c.gl (be 10 2++be (20+bs.length) 2) (time.tmod 4294967296) 4 aJ (by simp[Qk]));refine Jo (ip [1]) zC @Qk ?_;clear zC)
  (have zC:=(Wt c.gl (be 10 2++be (20+bs.length) 2++be (time.tmod 4294967296) 4) seq 4 aJ (by simp[Qk]));refine Jo (ip [2]) zC @Qk ?_;clear zC)
  (have zC:=(Wt c.gl (be 10 2++be (20+bs.length) 2++be (time.tmod 4294967296) 4++be seq 4) 1 4 aJ (by simp[Qk]));refine Jo (ip [3]) zC @Qk ?_;clear zC)
  (have zC:=(Wt c.gl (be 10 2++be (20+bs.length) 2++be (time.tmod 4294967296) 4++be seq 4++be 1 4) set 2 aJ (by simp[Qk]));refine Jo (ip [4]) zC @Qk ?_;clear zC)
  (have zC:=(Wt c.gl (be 10 2++be (20+bs.length) 2++be (time.tmod 4294967296) 4++be seq 4++be 1 4++be set 2) (4+bs.length) 2 aJ (by simp[Qk]));refine Jo (ip [5]) zC @Qk ?_;clear zC)
  refine Yp @Qk ?_;unfold Ug ki;rw[am af,List.take_of_length_le (by simp[Qk])]
def Xy:List Int:=[323,8,8,4,225,4,361,2,362,2,230,1]
def jA (k:Nat):List UInt8:=be 300 2++be 6 2++(Xy.take (2*k)).flatMap fun f=>be f 2
def Og:∀ k,k<=6->(jA k).length=4+4*k:=by decide +kernel
def Xlw:∀ k,k<6->jA k++be (Xy.getD (2*k) 0) 2++be (Xy.getD (2*k+1) 0) 2=jA (k+1):=by decide +kernel
def Xdb (h0:gl 0=.xp (Ql Xy) 0)(seq:Int):PS Tryz.prog gl 83 [.int .i64 seq] (Ug seq 0 2 (jA 6)):=by
 refine WD.ps (ap rfl) (by unfold Ug;split<;>simp[Qe,ah]) fun c hN hg=>?_
 conv in aG _ _=>cbv
 have l8:c.gl 0=.xp (Ql Xy) 0:=by rw[hg];exact h0
 have hf:Xy.length=12:=rfl;refine Qa ?_
 (have zC:=(WJ c.gl 300 2 aJ aJ);refine Jo (ip []) zC @Qk ?_;clear zC)
 (have zC:=(Wt c.gl (be 300 2) 6 2 aJ (by simp[Qk]));refine Jo (ip [0]) zC (An @Qk (An @l8 @hf)) ?_;clear zC)
 refine Qv (fun k:Nat=>k≤6) (fun k=>⟨[(0,.int .i64 seq),(4,.sl 1 0 0 (4 + 4 * k) (4 + 4 * k)),(10,.agg (Ql Xy)),(11,.int .i64 k)],[(0,.cells (Xi (jA k)))],1⟩) (fun k=>6 - k) WD.mixed hN
  ⟨0,by omega,[(0,1)],by refine Qa ?_;rfl⟩ fun k hk=>?_
 refine Qa ?_
 (refine Qc (fun h1=>?_) (fun h1=>?_)<;>try exact h1.elim)
 ·have fo:k < 6:=by omega
  have hl:=Og k hk;have hs:=Xlw k fo;have hl2:(jA k).length<=100000000:=by omega
  have e3:k*2=2*k:=by omega
  refine Qd @hf ?_
  (have zC:=(Wt c.gl (jA k) (Xy.getD (2*k) 0) 2 aJ hl2);refine Jo (ip [0]) zC (An @Qk (An @hf (An @hl @e3))) ?_;clear zC)
  (have zC:=(Wt c.gl (jA k++be (Xy.getD (2*k) 0) 2) (Xy.getD (2*k+1) 0) 2 aJ (by simp[Qk];omega));refine Jo (ip [2]) zC (An @Qk (An @hf (An @hl @e3))) ?_;clear zC)
  refine ⟨k+1,by omega,⟨[(0,3)],?_⟩,by omega⟩;exact Qi @hs
 ·have:k=6:=by omega
  subst this;have Oh:(jA 6).length=28:=Og 6 af;have hm:=WK c.gl seq 0 2 (jA 6) af;rw[Oh]at hm;by_cases hq:0<=seq/\seq<4294967296
  ·have e:Ug seq 0 2 (jA 6)=.aR [.str (ki seq 0 2 (jA 6)),.int .i64 0]:=am hq;rw[e]at hm ⊢;refine Qa ?_
   ((first|apply Wc|apply Jw)<;>(first|exact hm|(with_reducible exact .aR (by simp[Ji.str,Ji.int]))|(have aQ:=@Oh;refine XG ?_;clear aQ;first|exact rfl|exact True.intro|((try with_reducible and_intros);all_goals try first|refine zm ?_|exact CL))))
  ·have e:Ug seq 0 2 (jA 6)=.aR [.str [],.int .i64 2]:=aa hq;rw[e]at hm ⊢;refine Qa ?_
   ((first|apply Wc|apply Jw)<;>(first|exact hm|(with_reducible exact .aR (by simp[Ji.str,Ji.int]))|(have aQ:=@Oh;refine XG ?_;clear aQ;first|exact rfl|exact True.intro|((try with_reducible and_intros);all_goals try first|refine zm ?_|exact CL))))
end Go.Proofs.YtogckmommodmhaaGreatDoor
namespace Go.Proofs.YtogckmommodmhaaGreatDoor
open Go.ChangeShapes Go.WideShapes Go.ChangeAt Go.WideMaps Go.WideElems Go.RowKit
open Go.RowKit
set_option linter.all false
set_option maxRecDepth 100000
variable {W:World}
noncomputable def vz : List (String×DataW Unit) := [("rentroll/record.fields", Rows.laid_rentroll_record_fields)]
def Yak : Tryz.prog.globalNamed "rentroll/record.fields" = some 0 := by kernel_rfl
def Yam:(Tryz.prog.globals[0]?).map (·.type)=some 156:=by kernel_rfl
def uF6:Tryz.prog.underlying 156=some (.array 6 155):=by kernel_rfl
def uF2:Tryz.prog.underlying 155=some (.array 2 3):=by kernel_rfl
def cF2:Tryz.prog.cellsOf 155=2:=by kernel_rfl
def cF1:Tryz.prog.cellsOf 3=1:=by kernel_rfl
def cF6:Tryz.prog.cellsOf 156=12:=by kernel_rfl
def WL:List (Int×Int):=[(323,8),(8,4),(225,4),(361,2),(362,2),(230,1)]
theorem Yds:(Rows.laid_rentroll_record_fields:DataW Unit)=.agg (WL.map fun p=>.agg [.lit (.int .i64 p.1),.lit (.int .i64 p.2)]):=rfl
def WM (os:Os)(args:Array Value):laidMetH Tryz.prog vz ((World.doorLaid Tryz.prog 400 os).forCall (fun _ _=>0) ⟨#[],args,[]⟩).memory :=
 laidMetH_of_parts3 (fuel:=8) (laidMet_of_run' 8 (by kernel_rfl) (by kernel_rfl)) (by kernel_rfl) (by kernel_rfl)
def Qsg (h:laidMetH Tryz.prog vz W):∀ j,j<12->W.cell? ⟨0,j,none⟩=some (.int .i64 (Xy.getD j 0)):=by
 rw[MakeChecks.laidMetH_plain _ _ _ (by kernel_rfl)]at h;obtain ⟨ps,⟨g0,t0,Oi,f0,p0,q0,l8,Oj,MV,hd0,_,_⟩,_,_⟩:=h;obtain rfl:=Option.some.inj (Yak.symm.trans l8);obtain rfl:=Option.some.inj (Yam.symm.trans Oj);obtain ⟨xs,m1,rfl,tX,hlen,hn6,aE⟩:=DataW.trod_array uF6 hd0;rw[cF6]at hlen;rw[Yds]at tX;simp only[Prod.mk.injEq,DataW.agg.injEq]at tX;have key:∀ i,i<6->∀ k,k<2->Oi.toList[i*2+k]?=some (.int .i64 (Xy.getD (i*2+k) 0)):=by
  intro i hi k hk;have h1:=aE i hi;rw[cF2]at h1;have WN:xs[i]?=some (xs[i]'af):=List.getElem?_eq_getElem af;rw[WN]at h1;obtain ⟨ys,m2,rfl,hy,Cm,hy2,Ol⟩:=DataW.trod_array uF2 h1;have po:=Ol k hk;rw[cF1]at po;have WO:ys[k]?=some (ys[k]'af):=List.getElem?_eq_getElem af;rw[WO]at po;obtain ⟨z,e1,e2,_⟩:=DataW.trod_int Tryz.underlying3 po;have IZ:(xs[i]'af).1=.agg (ys.map (·.1)):=by rw[hy]
  have hL:(xs.map (·.1))[i]?=some (.agg (ys.map (·.1))):=by rw[List.getElem?_map,WN,Option.map_some,IZ]
  rw[<- tX.1]at hL;have hz:(ys.map (·.1))[k]?=some (.lit (.int .i64 z)):=by rw[List.getElem?_map,WO,Option.map_some,e2]
  have eS:Oi.toList[i*2+k]?=some (.int .i64 z):=by
   have:((((Oi.toList.drop (i*2)).take 2).drop (k*1)).take 1)[0]?=some (.int .i64 z):=by rw[e1];rfl
   rw[List.getElem?_take,am af,List.getElem?_drop,List.getElem?_take,am af,List.getElem?_drop]at this;simpa using this
  rw[eS];have bl:∀ i,i<6->∀ k,k<2->∀ l:List (DataW Unit),(WL.map fun p=>(DataW.agg [.lit (.int .i64 p.1),.lit (.int .i64 p.2)]:DataW Unit))[i]?=some (.agg l)->l[k]?=some (.lit (.int .i64 (Xy.getD (i*2+k) 0))):=by
   intro i hi k hk l hl
   match i,k,hi,hk,hl with
   | 0,0,_,_,hl=>cases hl;rfl
   | 0,1,_,_,hl=>cases hl;rfl
   | 1,0,_,_,hl=>cases hl;rfl
   | 1,1,_,_,hl=>cases hl;rfl
   | 2,0,_,_,hl=>cases hl;rfl
   | 2,1,_,_,hl=>cases hl;rfl
   | 3,0,_,_,hl=>cases hl;rfl
   | 3,1,_,_,hl=>cases hl;rfl
   | 4,0,_,_,hl=>cases hl;rfl
   | 4,1,_,_,hl=>cases hl;rfl
   | 5,0,_,_,hl=>cases hl;rfl
   | 5,1,_,_,hl=>cases hl;rfl
  have:=bl i hi k hk _ hL;rw[hz]at this;simp only[Option.some.injEq,DataW.lit.injEq,Lit.int.injEq,true_and]at this;rw[this]
 intro j hj;rw[World.var?_cell l8 MV j,<- Array.getElem?_toList];have:=key (j/2) af (j%2) af
 rwa [show j/2*2+j%2=j by omega]at this
def xk (i:Nat):AV:=if i=0 then .xp (Ql Xy) 0 else .any
theorem WQ:xk 0=.xp (Ql Xy) 0:=rfl
def Yey (h:∀ j,j<12->W.cell? ⟨0,j,none⟩=some (.int .i64 (Xy.getD j 0)))(i:Nat):VR (fun _=>.un) (fun _=>False) W (xk i) (.pointer (some ⟨i,0,none⟩)):=by
 unfold xk;split
 ·rename_i e;subst e;have hl:(Ql Xy).length=12:=rfl;have hx:=VR.xp (g:=fun _=>GM.un) (W:=fun _=>False) (w:=W) (cs:=Ql Xy) (off:=0) (k:=0) (o:=0) (us:=fun j=>.int .i64 (Xy.getD j 0)) (fun j hj=>by
   rw[hl]at hj;exact ⟨by have:=h j hj;rw[Nat.zero_add];exact this,id,rfl⟩) (fun j hj=>by
   rw[hl]at hj;rw[B5 (show j<Xy.length from hj)];exact .int _ _)
  simpa using hx
 ·exact .any _
set_option maxRecDepth 100000 in
def WR {f:FuncId}{fn:Func}(zJ:Tryz.prog.inits.idxOf? f=none)(jB:Tryz.prog.funcs[f]?=some fn)
  (hrd:∀ t ∈ fn.params.toList,Tryz.prog.readableRec t=true/\t<Tryz.prog.types.size) (Om:fn.resultTypes=#[4])
  (s:ChangeSpec) (hv:s.vars=[]) (hs:∀ (H:Type) (ds:List (DataW H)),ds.length=fn.params.size->s.fn H ds={ results:=[.lit (.bool true)],args:=ds,vars:=[] })
  (os:Os) (started:os.Started) (H:Type) (enc:TypeId×Value->H)
  (witness:∃ (w:World) (tape:Tape) (i:Input),w.os=os∧(w.forCall tape i).Shaped Tryz.prog∧i.vars=[]∧Input.okWide Tryz.prog (w.forCall tape i) .any w.heap.size f i ∧
   ((s.pre enc Tryz.prog fn [] false (w.forCall tape i).memory i.args/\laidMetH Tryz.prog vz (w.forCall tape i).memory)/\sizedMet enc Tryz.prog fn (OpenSpec.ofChange s) false (w.forCall tape i).memory i.args)/\({}:Assume).holds Tryz.prog (lone (Frame.enter Tryz.prog f i.args .normal) [] (w.forCall tape i)))
  (sq:∀ (W:World) (base:Nat) (args:Array Value) (ds:List (DataW H)),yJ H enc Tryz.prog fn W base args ds→(∀ i,VR (fun _=>.un) (fun _=>False) W (xk i) (.pointer (some ⟨i,0,none⟩))) →
   Calls Tryz.prog f args W fun e W'=>e=.returned (.bool true)/\Below W.heap.size W W') :
  ReturnsInHanded {} Tryz.checked os f .any (fun w args=>(s.pre enc Tryz.prog fn [] false w args/\laidMetH Tryz.prog vz w)/\sizedMet enc Tryz.prog fn (OpenSpec.ofChange s) false w args) (s.post enc Tryz.prog fn false true false false):=by
 refine returnsInHanded_of_change_and (C:=Tryz.checked) (X:=fun w _=>laidMetH Tryz.prog vz w) (fun _ _ _ hh h=>h.of_heap hh) Tryz.own started zJ jB witness ?_;intro W base args ds gs before fZ hW _ cE hL _;have iW:=hW;obtain ⟨p,q,hA,hV,rfl,qZ,sr⟩:=hW;have fJ:gs=[]/\q=[]:=by
  rw[hv]at hV;exact trodVars_none hV
 obtain ⟨rfl,rfl⟩:=fJ;have j0:s.plain.varTypes Tryz.checked.prog=[]:=by
  simp[ChangeSpec.plain,hv,DataSpec.varTypes]
 rw[j0,List.append_nil,List.append_nil]at cE;refine (sq W base args ds ⟨fZ,⟨p,hA⟩,cE⟩ (Yey (Qsg hL))).mono fun e W' ⟨he,DC⟩=>?_;subst he;have hlen:ds.length=fn.params.size:=by rw[T7 hA];simp
 have hS:=hs H (ds++[]) (by simpa using hlen);refine ⟨_,rfl,ds,[],p++[],[],p,[],iW,?_,?_,?_,DC.frame _,fun h=>by cases h⟩
 ·rw[hS,Om];exact trodAll_mk1 (shut_bool Tryz.underlying4 _)
 ·rw[hS];simp only[List.append_nil];exact T6 Tryz.laidOut DC hrd hA
 ·rw[hS,hv];simp[DataW.TrodVars]
end Go.Proofs.YtogckmommodmhaaGreatDoor
namespace Go.Proofs.YtogckmommodmhaaGreatDoor
open Go.RowKit
set_option linter.all false
set_option maxRecDepth 100000
variable {c:Cx}{es:Nat}{b:Bool}
section
variable {P:Program}{c:Cx}{g:Nat->GM}{s:St}{a:Act}{w:World}
def St.named (s:St)(i es:Nat):St:=⟨(i,.sl es s.n 0 0 0)::s.t,(s.n,.cells [])::s.h,s.n+1⟩
def R.named {i es:Nat}(hR:R c g s.fs a w)(hi:look s.t i=.nils)(hf:s.fs.H s.n=.free):R c (fun b=>if b=s.n then .ph else g b) (s.named i es).fs a w:=by
 have kJ:g s.n=.un:=by
  have:=hR.h s.n;rw[hf]at this;generalize g s.n=m at this;cases this;rfl
 have hH:∀ b,b≠s.n->(s.named i es).fs.H b=s.fs.H b:=fun b hb=>by
  show Qb ((s.n,_)::s.h) (s.n+1) b=Qb s.h s.n b;rw[Qf,aa (fun e=>hb e.symm),Wa _ _ _ hb]
 have vA:(s.named i es).fs.H s.n=.cells []:=by
  show Qb ((s.n,_)::s.h) (s.n+1) s.n=_;rw[Qf,am rfl]
 have cf:∀ {b k},(if b=s.n then GM.ph else g b)=.re k->b≠s.n/\g b=.re k:=fun {b k} h=>by
  by_cases hb:b=s.n
  ·rw[am hb]at h;cases h
  ·rw[aa hb]at h;exact ⟨hb,h⟩
 have hg:∀ b,g b≠.un->(if b=s.n then GM.ph else g b)=g b:=fun b hb=>by
  rw[aa];rintro rfl;exact hb kJ
 have hW:∀ k,Qm c (fun b=>if b=s.n then .ph else g b) (s.named i es).fs k->Qm c g s.fs k:=by
  rintro k (h|⟨b,h1,h2⟩)
  ·exact .inl h
  ·obtain ⟨hb,h3⟩:=cf h2;rw[hH b hb]at h1;exact .inr ⟨b,h1,h3⟩
 have mono:∀ {v u},VR g (Qm c g s.fs) w v u->VR (fun b=>if b=s.n then .ph else g b) (Qm c (fun b=>if b=s.n then .ph else g b) (s.named i es).fs) w v u:=fun h=>h.mono (Fr.refl _ _) (fun k _=>hW k) hg;refine ⟨hR.size,hR.ew,fun j=>?_,fun j=>(hR.gl j).mono (Fr.refl _ _) (fun k _=>hW k) (fun _ _=>rfl),fun b=>?_,fun b b' k h1 h2 e1 e2=>?_,fun b k h1 e1=>?_,hR.fr,hR.xs,fun p hp=>?_⟩
 ·show VR _ _ w (look ((i,_)::s.t) j) _;rw[Jn];split
  ·rename_i gn;subst gn;have:=hR.t i;have e:s.fs.T i=.nils:=hi;rw[e]at this;generalize a.tmps.getD i undef=u at this ⊢;cases this;exact .kH (am rfl) rfl
  ·exact mono (hR.t j)
 ·by_cases hb:b=s.n
  ·subst hb;show BR _ _ w (if s.n=s.n then _ else _) _;rw[am rfl,vA];exact .ph
  ·show BR _ _ w (if b=s.n then _ else _) _;rw[aa hb,hH b hb];exact (hR.h b).mono (Fr.refl _ _) (fun k _=>hW k) hg (fun _ _ _=>rfl)
 ·obtain ⟨b1,g1⟩:=cf e1;obtain ⟨b2,g2⟩:=cf e2;rw[hH b b1]at h1;rw[hH b' b2]at h2;exact hR.inj b b' k h1 h2 g1 g2
 ·obtain ⟨b1,g1⟩:=cf e1;rw[hH b b1]at h1;exact hR.old b k h1 g1
 ·obtain ⟨q1,q2⟩:=hR.jn p hp;exact ⟨by show (if p.1=s.n then GM.ph else g p.1)=_;rw[hg _ (by rw[q1];exact q2)];exact q1,q2⟩
def vB {b:TC}{Q:EX->St->Prop}(i es:Nat)(hi:look s.t i=.nils)(hf:s.fs.H s.n=.free)(h:rf P c b Q (s.named i es)):rf P c b Q s :=
 fun code he g a w hR=>h code he _ a w (hR.named hi hf)
end
section
variable {P:Program}{w:World}
def EC (P:Program)(c:Cx)(k:PK)(xs:List TV)(vs:List AV)(r:AV):Prop :=
 ∀ (o:Oper) (ys:List Operand),Xt P o=some (k,ys)→ys.map aP=xs→∀ (g:Nat→GM) (W:Nat→Prop) (a:Act) (w:World),(∀ i,W i→i < w.heap.size)→(∀ i,VR (fun _=>.un) W w (c.gl i) (.pointer (some ⟨i,0,none⟩)))→bT g W w vs (ys.map a.eval) →
  ∀ (K:Act->World->Prop) (Q:Exit->Act->World->Prop),(∀ v w',Fr w w' (fun _=>False)->VR g W w' r v->K (a.put o.dst v) w')->o.wp P a w K Q
theorem Xig {c:Cx}{s:St}{d:Option Nat}{k:PK}{xs:List TV}{gd:Option (Nat×Bool)}{args:List AV}{r:AV}(aS:Ux c.gl s.fs xs gd)(aM:(aD c.gl s.fs xs).map Qh=args)
  (hq:ob (gB s.fs gd) (EC P c k xs args r)):Ki P c (.pd d k xs gd) s.fs (Zd d xs gd) (s.ca d (cw (gB s.fs gd) r)).fs:=by
 intro ops io he;obtain ⟨aX,bb,hd,ys,aE,rfl⟩:=Zm he;have jx:(s.ca d (cw (gB s.fs gd) r)).fs=match d with|some d=>s.fs.put d (cw (gB s.fs gd) r)|none=>s.fs:=by
  cases d with
  | none=>rfl
  | some d=>exact St.bU _ _ _
 rw[jx];refine ⟨fun i hi=>?_,fun b _=>by cases d<;>rfl,?_⟩
 ·cases d with
  | none=>rfl
  | some d=>show (s.fs.put d _).T i=_;rw[FS.dF,aa (fun e=>hi (by simp[Zd,e]))]
 ·intro s2 hT hH g a w hR K Q' hK;have bj:aD c.gl s2 (ys.map aP)=aD c.gl s.fs (ys.map aP):=Yd fun i hi=>hT i (by simp[Zd,hi]);have hg:∀ t b,gd=some (t,b)->s2.T t=s.fs.T t:=fun t b e=>hT t (by simp[Zd,e,jQ]);have j1:gB s2 gd=gB s.fs gd:=by
   cases gd with
   | none=>rfl
   | some p=>obtain ⟨t,b⟩:=p;simp only[gB,hg t b rfl]
  have j2:gg s2 gd:=by
   have:=aS.1;cases gd with
   | none=>exact this
   | some p=>obtain ⟨t,b⟩:=p;simpa only[gg,hg t b rfl] using this
  have np:∀ v w',Fr w w' (fun _=>False)->VR g (Qm c g s2) w' (cw (gB s.fs gd) r) v->K (a.put io.dst v) w':=fun v w' hf hv=>by
   rw[bb];have bh:=hR.grow hf;cases d with
   | none =>
    refine hK g _ w' ?_;have:dB s2 s.fs (Zd none (ys.map aP) gd)=s2:=by unfold dB Zd;simp
    simp only[this];exact bh
   | some d =>
    refine hK g _ w' ?_;show R c g (dB s2 (s.fs.put d _) ⟨jQ gd++Xe (ys.map aP),[],[d],[]⟩) _ _;rw[yY];exact bh.put (by simpa using hd) hv
  unfold Uo;rw[wS aX hR j2,j1];have run:(∀ b,gB s.fs gd=some b->b=true)->io.wp P a w K Q':=by
   intro hb;have iD:Qr none (aD c.gl s2 (ys.map aP)):=by
    rw[bj];have:=aS.2;cases bZ:gB s.fs gd with
    | none=>rw[bZ]at this;exact this
    | some b=>rw[bZ]at this;exact BL (hb b bZ) this
   have db:EC P c k (ys.map aP) args r:=by
    cases bZ:gB s.fs gd with
    | none=>rw[bZ]at hq;exact hq
    | some b=>rw[bZ]at hq;exact hq (hb b bZ)
   have hv:=Yk (hR.ci ys) iD;rw[bj,aM]at hv;have hX:∀ k,Qm c g s2 k->k<w.heap.size:=by
    rintro k (h|⟨b',hl,fN⟩)
    ·have:=(hR.xs k h).1;have:=hR.fr.size;omega
    ·exact BR.lt (fN ▸ hR.h b') hl
   refine db io ys aE rfl g _ a w hX (fun i=>(hR.gl i)) hv K Q' fun v w' hf ec=>?_;refine np v w' hf ?_;cases bZ:gB s.fs gd with
   | none=>exact ec
   | some b=>exact .dV (fun _=>ec) fun h=>by rw[hb b bZ]at h;cases h
  cases bZ:gB s.fs gd with
  | none=>simp only[Option.getD_none,if_true];exact run fun b h=>by rw[bZ]at h;cases h
  | some b =>
   cases b with
   | true=>simp only[Option.getD_some,if_true];exact run fun b h=>by rw[bZ]at h;cases h;rfl
   | false =>
    simp only[Option.getD_some,Bool.false_eq_true,if_false];refine np undef w (Fr.refl _ _) ?_;rw[bZ];exact .dV (fun h=>by cases h) fun _=>rfl
def Cn {c:Cx}{r0:List bB}{K:St->Prop}{s:St}{d:Option Nat}{k:PK}{xs:List TV}{gd:Option (Nat×Bool)}{args:List AV}{r:AV}(aM:(aD c.gl s.fs xs).map Qh=args)(hq:EC P c k xs args r)
  (aS:Ux c.gl s.fs xs gd/\XP P c r0 K (s.ca d (cw (gB s.fs gd) r))):Yo P c (.pd d k xs gd) r0 K s:=.inl ⟨_,_,Xig aS.1 aM (zr hq),aS.2⟩
def tY:AV->Option Bool
 | .isl _ (_::_)=>some false
 | .lit (.slice a _ _)=>some a.isNone
 | _=>none
def Xy2 {g:Nat->GM}{W:Nat->Prop}{x:AV}{v:Value}  (hx:VR g W w x v)(h:tY x=some b):∃ a n cap,v=.slice a n cap/\a.isNone=b:=by
 unfold tY at h;split at h
 ·obtain ⟨a,cap,us,rfl,_,_,h3,_⟩:=tK hx;obtain ⟨k,o,rfl,_⟩:=h3 0 av;cases h;exact ⟨_,_,_,rfl,rfl⟩
 ·cases h;cases hx;exact ⟨_,_,_,rfl,rfl⟩
 ·cases h
def Xb2 (w:World)(t e:TypeId)(a:Option Addr)(l c:Nat)(h:P.underlying t=some (.slice e)):(binOp .eql t (.slice a l c) (.slice none 0 0)).run P w=.ok (.bool a.isNone) w:=by
 simp only[binOp];simp[run_equal_slice_nil w t e a l c h]
def Xx4 {y:Operand}(h:aP y=.c .nils):y=.const (.slice none 0 0):=by
 cases y with
 | const v =>
  simp only[aP,TV.c.injEq]at h;cases v<;>simp only[uX,fM]at h<;>first|(cases h;done)|skip
  all_goals split at h
  all_goals first|(cases h;done)|rfl|(simp at h;obtain ⟨rfl,rfl,rfl⟩:=h;rfl)|simp_all
 | _=>simp[aP]at h
def Xuy {ne:Bool}{t e:TypeId}{x:TV}{v:AV}  (ht:P.underlying t=some (.slice e))(hb:tY v=some b):EC P c (.cA ne t) [x,.c .nils] [v,.nils] (.bool (ne != b)):=by
 intro o ys aE og g W a w _ _ hv K Q hK;obtain ⟨x',y',u,hop,rfl⟩:=Vy aE;simp only[List.map_cons,List.map_nil,List.cons.injEq,and_true]at og;have hy:=Xx4 og.2;subst hy;obtain ⟨hx,_,_⟩:=hv;obtain ⟨ad,n,cap,WS,rfl⟩:=Xy2 hx hb;have ey:a.eval (.const (.slice none 0 0))=.slice none 0 0:=rfl;have run:(execOp a.eval o).run P w=.ok (.value (.bool (ne != ad.isNone))) w:=by
  unfold execOp;cases ne
  ·simp only[hop,WS,ey,cond_false,Sem.run_bind];simp[eqGuard,Xb2 w t e ad n cap ht]
  ·simp only[hop,WS,ey,cond_true,Sem.run_bind];simp[eqGuard,run_neq_slice_nil w t e ad n cap ht]
 unfold Oper.wp;rw[run];exact hK _ _ (Fr.refl _ _) (.bool _)
def I0 {zs:List AV}:kS P c (.yW es 0 zs []) [] .nils:=by
 intro o ys aE g W a w _ _ hv K Q hK;obtain ⟨t,e,i,z,parts,hop,hu,hi,hz,lN,fa,rk,h24,NV,rfl,rfl,eg,rfl⟩:=VX aE;have hp:parts=#[]:=by
  have:=congrArg List.length eg;simp at this;exact Array.eq_empty_of_size_eq_zero this.symm
 subst hp;have run:(execOp a.eval o).run P w=.ok (.value (.slice (some ⟨w.heap.size,0,none⟩) 0 0)) (w.alloc (.cells #[] e)):=by
  unfold execOp;simp only[hop,Sem.run_bind];simp[Instr.buildSlice,run_underlying hu,sizeOf,typeInfo,hi,Instr.fill,newRow];have:(Array.map (fun x:Nat=>(default:Value)) (Array.range 0))=#[]:=Array.eq_empty_of_size_eq_zero av;rw[this]
 unfold Oper.wp;rw[run];exact hK _ _ (Fr.alloc _ _ _) (.nils _)
def GS.empty {gl:Nat->AV}{f:FuncId}  {cs:List AV}(h1:∀ cap,GS P gl f [.lit (.slice none 0 cap)] [] 0 .nils [] 0)(h2:∀ a cap,GS P gl f [.lit (.slice (some a) 0 cap)] [] 0 (.sl es 0 0 0 0) [(0,.cells [])] 1):GS P gl f [.isl 0 cs] [] 0 (.sl es 0 0 0 0) [(0,.cells [])] 1:=by
 refine ⟨(h1 0).1,fun w vs G X g hR hv=>?_⟩;cases vs with
 | nil=>exact hv.elim
 | cons v vs =>
 cases vs with
 | cons _ _=>exact hv.2.elim
 | nil =>
 obtain ⟨hv,_⟩:=hv;obtain ⟨a,cap,us,rfl,_⟩:=tK hv;cases a with
 | some a=>exact (h2 a cap).2 w [.slice (some a) 0 cap] G X g hR ⟨.lit _,trivial⟩
 | none =>
  refine ((h1 cap).2 w [.slice none 0 cap] G X g hR ⟨.lit _,trivial⟩).mono ?_;rintro e w' ⟨v,g',rfl,bh,_,qa⟩;have gE:R ⟨1,w,G,X,gl,[]⟩ g' (⟨[(0,.nils)],[],0⟩:St).fs ⟨#[v],[]⟩ w':=by
   refine ⟨rfl,rfl,fun i=>?_,bh.gl,bh.h,bh.inj,bh.old,bh.fr,bh.xs,fun p hp=>by cases hp⟩;show VR g' _ w' (look [(0,.nils)] i) _;rw[Jn];split
   ·rename_i hi;subst hi;exact qa
   ·exact .any _
  have cp:=gE.named (i:=0) (es:=es) rfl rfl;exact ⟨v,_,rfl,⟨rfl,rfl,fun i=>.any _,cp.gl,cp.h,cp.inj,cp.old,cp.fr,cp.xs,fun p hp=>by cases hp⟩,fun b hb=>by omega,cp.t 0⟩
end
end Go.Proofs.YtogckmommodmhaaGreatDoor
