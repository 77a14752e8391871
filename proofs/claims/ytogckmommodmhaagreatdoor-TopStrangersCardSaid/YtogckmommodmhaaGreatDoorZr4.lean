import Derived.Test.YtogckmommodmhaaGreatDoorZr3
import Derived.MapKept
import Derived.WideKeyRuns
import Derived.Maps.RangeRun
import Derived.Shelf.Sort.Plain
import Derived.Shelf.Slices.In.SortNone
namespace Go.Proofs.YtogckmommodmhaaGreatDoor
open Go.RowKit
set_option linter.all false
set_option linter.unusedSimpArgs false
set_option maxRecDepth 100000
def isC:Bk→Prop
 | .cells _=>True
 | _=>False
theorem Qt5 {x:Bk} (h:isC x):x.live:=by cases x<;>first|exact h.elim|trivial
theorem Ya0 (cs:List AV):isC (.cells cs)=True:=rfl
attribute [go_sem] Ya0
section
variable {P:Program} {c:Cx} {ops:Array Oper} {io:Oper}
theorem Xpz {o:Oper} {es:Nat} {lo hi:Bool} {xs:List Operand} (h:Xy P o=some (.sl3 es lo hi,xs)):∃ t x l h' mx e,o.op=.slice t x l h' (some mx)∧P.underlying t=some (.slice e)∧Yz P e=some es∧l.isSome=lo∧h'.isSome=hi∧xs=x::(l.toList++h'.toList++[mx]):=by
 unfold Xy at h
 repeat' split at h
 all_goals first
  | (simp only[Option.map_eq_some_iff,Prod.mk.injEq,PK.sl3.injEq]at h;obtain ⟨es',h1,⟨rfl,rfl,rfl⟩,rfl⟩:=h;exact ⟨_,_,_,_,_,_,by assumption,by assumption,h1,rfl,rfl,rfl⟩)
  | (simp at h;done)
  | (cases h;done)
  | (simp[Option.map_eq_some_iff]at h;done)
theorem Xoy {g:Nat→GM} {W:Nat→Prop} {w:World} {k:IntKind} {n:Int} {v:Value} (h:VR g W w (.int k n) v):v=.int k n:=by cases h;rfl
theorem Xx2 {es b off n cc:Nat} {k1 k2 k3:IntKind} {i j m:Int} (h0:0≤i) (h1:i≤j) (h2:j≤m) (h3:m≤cc):Qae P c (.sl3 es true true) [.sl es b off n cc,.int k1 i,.int k2 j,.int k3 m] .any:=by
 intro o ys hel g W a w _ _ hv K Q hK
 obtain ⟨t,x,l,h',mx,e,hop,hu,hes,hl,hh,rfl⟩:=Xpz hel
 obtain ⟨lo,rfl⟩:=Option.isSome_iff_exists.1 hl
 obtain ⟨hi,rfl⟩:=Option.isSome_iff_exists.1 hh
 obtain ⟨hx,hv1,hv2,hv3,_⟩:=hv
 have he:P.elem t=e:=by simp[Program.elem,hu]
 have hkey:∀ (ad:Option Addr) (len cap:Nat),cc≤cap→a.eval x=.slice ad len cap→∃ v,(execOp a.eval o).run P w=.ok (.value v) w:=by
  intro ad len cap hcap hx
  have e1:a.eval lo=.int k1 i:=Xoy hv1
  have e2:a.eval hi=.int k2 j:=Xoy hv2
  have e3:a.eval mx=.int k3 m:=Xoy hv3
  refine ⟨sliced ad i.toNat j.toNat m.toNat es,?_⟩
  simp only[execOp,hop]
  refine Zg ?_
  simp only[Option.map_some,hx,e1,e2,e3]
  rw[run_sliceAt_slice _ _ _ _ _ _ (by rw[he];exact hu),run_slice_lhm _ _ _ _ _ (by rw[he];exact hu) k1 k2 k3 i j m h0 h1 h2 Zom,he,Ji hes]
  rfl
 have hfin:∃ v,(execOp a.eval o).run P w=.ok (.value v) w:=by
  rcases Qar hx with ⟨k,cap,e',cur,fz,e1,_,_,q2,_,_,_⟩|⟨ad,e1,_,_,q⟩
  ·exact hkey _ _ cap q2 e1
  ·exact hkey _ _ 0 Zom e1
 obtain ⟨v,hr⟩:=hfin
 unfold Oper.wp
 rw[hr]
 exact hK _ _ (Fr.refl _ _) (.any _)
variable {g:Nat→GM} {s:FS} {a:Act} {w:World}
theorem Xi0 (hR:R c g s a w) {t u ty e:TypeId} {i:TypeInfo} {z:Value} {es:Nat} (ht:P.underlying t=some (.slice e)) (hu:u=t∨P.underlying u=some .string) (hi:P.info? e=some i) (hz:i.zero=some z) (hes:i.size=es) (hzs:z.cells.size=es)
  {b n cc:Nat} {vx:AV} {ub ux:Value} {str:Bool} (hb:VR g (Qn c g s) w (.sl es b 0 n cc) ub) (hx:VR g (Qn c g s) w vx ux) (hl:n * es≤(Yo (s.H b)).length) (hisC:isC (s.H b)) (okx:Us s es str vx) (hroom:n + Xh vx≤cc) :
  ∃ v' w',(Builtin.append_ #[t,u] ty #[ub,ux]).run P w=.ok v' w'∧R c g (s.putB b (.cells (Xt s es (.sl es b 0 n cc)++Xt s es vx))) a w' ∧
   VR g (Qn c g (s.putB b (.cells (Xt s es (.sl es b 0 n cc)++Xt s es vx)))) w' (.sl es b 0 (n + Xh vx) cc) v':=by
 have hlive:=Qt5 hisC
 obtain ⟨news,q1,q2,q3,q4,q5,q6⟩:=Qhu (P:=P) hR hx okx
 obtain ⟨olds,o1,o2,o3,o4,o5,o6⟩:=Qhu (P:=P) (str:=false) hR hb (x:=.sl es b 0 n cc) ⟨rfl,rfl,by simpa using hl⟩
 simp only[Qov]at o1 o2 o3 o4 o6
 rcases Qar hb with ⟨k,cap,e',cur,fz,rfl,h1,h2,h3,h4,h5,h6⟩|⟨ad,rfl,h1,rfl,rfl⟩
 ·have hlen:(olds++news).length=(n + Xh vx) * es:=by rw[List.length_append,o3,q3,Nat.add_mul]
  have hclen:(Xt s es (.sl es b 0 n cc)++Xt s es vx).length=(n + Xh vx) * es:=by rw[List.length_append,o4,q4,Nat.add_mul]
  have h1c:∀ v ∈ olds++news,v.oneCell'=true:=fun v hv=>(List.mem_append.1 hv).elim (o5 v) (q5 v)
  have hvc:∀ j,j < (n + Xh vx) * es→VR g (Qn c g s) w ((Xt s es (.sl es b 0 n cc)++Xt s es vx).getD j .any) ((olds++news).getD j undef):=fun j hj=>by
   by_cases hjn:j < n * es
   ·have:=o6 j hjn
    simp only[List.getD,List.getElem?_append_left (show j < (Xt s es (.sl es b 0 n cc)).length by omega),List.getElem?_append_left (show j < olds.length by omega)]at this ⊢
    exact this
   ·have:=q6 (j - n * es) (by rw[Nat.add_mul]at hj;omega)
    simp only[List.getD,List.getElem?_append_right (show (Xt s es (.sl es b 0 n cc)).length≤j by omega),List.getElem?_append_right (show olds.length≤j by omega),o3,o4]at this ⊢
    exact this
  have hroom':n + Xh vx≤cap:=by omega
  have hBR:=hR.h b
  rw[h1]at hBR
  have hfz:fz=(0,0)∨cur.size≤fz.1:=by
   cases hh:s.H b with
   | cells cs=>rw[hh]at hBR;cases hBR with|cells hb' _ _ _ hf=>rw[h5]at hb';cases hb';exact hf
   | mapb kvs dn=>rw[hh]at hBR;cases hBR with|mapb hb'=>rw[h5]at hb';cases hb'
   | mapx kvs bs ck=>rw[hh]at hBR;cases hBR with|mapx hb'=>rw[h5]at hb';cases hb'
   | iter b0 ck seen=>rw[hh]at hBR;cases hBR with|iter hb'=>rw[h5]at hb';cases hb'
   | bag ls=>rw[hh]at hisC;exact hisC.elim
   | free=>rw[hh]at hlive;exact hlive.elim
   | dead=>rw[hh]at hlive;exact hlive.elim
  have hmul:(n + Xh vx) * es≤cap * es:=Nat.mul_le_mul_right _ hroom'
  have hfit:n * i.size + news.length≤cur.size:=by rw[hes,q3,← Nat.add_mul];omega
  have hr:=Qip (ty:=ty) (P:=P) ht hu hi k n cap ux (Xh vx) news cur e' fz w q1 h5 hfz (by rw[hes];exact q2) q5 hroom' hfit
  rw[hes]at hr
  have hnc:n * es≤cap * es:=Nat.mul_le_mul_right es (Nat.le_trans h2 h3)
  have holds:olds=cur.toList.take (n * es):=by
   have a1:=o2 w rfl
   have a2:=run_firstCells_some (P:=P) w es n ⟨k,0,none⟩ n cap (cur.toList.take (n * es)) (by simp;omega) (by have:=Qiz h5 (o:=0) (n:=n * es) Zom w rfl;simpa using this)
   rw[a1]at a2
   simpa using a2
  have hsz:(cur.toList.take (n * es)++news++cur.toList.drop (n * es + news.length)).toArray.size=cur.size:=by
   rw[hes]at hfit
   simp;omega
  have hget:∀ j,j < (n + Xh vx) * es→(cur.toList.take (n * es)++news++cur.toList.drop (n * es + news.length)).toArray.getD j undef=(olds++news).getD j undef:=fun j hj=>by
   rw[← holds]
   simp only[Array.getD_eq_getD_getElem?,List.getD,List.getElem?_toArray]
   rw[List.getElem?_append_left Zom]
  have hf:=Qpg (new:=(cur.toList.take (n * es)++news++cur.toList.drop (n * es + news.length)).toArray) h5 hsz
  have hkw:Qn c g s k:=.inr ⟨b,hlive,h1⟩
  have hset:=hR.setBlock (x:=.cells (Xt s es (.sl es b 0 n cc)++Xt s es vx)) h1 hlive trivial hf (by
   refine .cells (cur:=(cur.toList.take (n * es)++news++cur.toList.drop (n * es + news.length)).toArray) (e:=e') (fz:=fz) (setRow_heap w k cur _ e' fz h5) Zom (fun j hj=>?_) (fun j hj=>?_) (by rw[hsz];exact hfz)
   ·rw[hget j Zom]
    have hj':j < (olds++news).length:=by omega
    simp only[List.getD,List.getElem?_eq_getElem hj',Option.getD_some]
    exact h1c _ (List.getElem_mem hj')
   ·rw[hget j Zom]
    exact (hvc j Zom).mono (hf.weak fun i hi=>hi ▸ hkw) (fun _ _ h=>h) (fun _ _=>rfl))
  exact ⟨_,_,hr,hset,.sl (k:=k) (e:=e') (fz:=fz) h1 hroom h3 h4 (setRow_heap w k cur _ e' fz h5) (by rw[hsz];exact h6)⟩
 ·have hm:Xh vx=0:=by omega
  rw[hm]at q1 q2 q3 q4
  have hn:news=[]:=List.eq_nil_of_length_eq_zero Zom
  have hc:Xt s es vx=[]:=List.eq_nil_of_length_eq_zero Zom
  have hc2:Xt s es (.sl es b 0 0 0)=[]:=List.eq_nil_of_length_eq_zero Zom
  subst hn
  have hr:=Qir (P:=P) (ty:=ty) ht hu hi ad 0 0 ux w q1 (by rw[hes];exact q2) (Nat.le_refl _)
  have hb0:s.H b=.cells []:=by
   have hBR:=hR.h b
   rw[h1]at hBR
   cases hh:s.H b with
   | cells cs=>rw[hh]at hBR;cases hBR;rfl
   | mapb kvs dn=>rw[hh]at hBR;cases hBR
   | mapx kvs bs ck=>rw[hh]at hBR;cases hBR
   | iter b0 ck seen=>rw[hh]at hBR;cases hBR
   | bag ls=>rw[hh]at hisC;exact hisC.elim
   | free=>rw[hh]at hlive;exact hlive.elim
   | dead=>rw[hh]at hlive;exact hlive.elim
  have hs:s.putB b (.cells (Xt s es (.sl es b 0 0 0)++Xt s es vx))=s:=by
   rw[hc,hc2]
   refine Qap (fun _=>rfl) fun j=>?_
   rw[FS.H_putB];split
   ·rename_i h;subst h;rw[hb0];rfl
   ·rfl
  rw[hs,hm]
  exact ⟨_,_,hr,hR,.slp h1 rfl⟩
def Qiv (s:FS) (es:Nat) (str:Bool):List AV→Prop
 | [.sl es2 b o n cc,vx]=>es2=es∧o=0∧n * es≤(Yo (s.H b)).length∧isC (s.H b)∧Us s es str vx∧n + Xh vx≤cc
 | _=>False
def Xch (es:Nat):List AV→AV
 | [.sl _ b _ n cc,vx]=>.sl es b 0 (n + Xh vx) cc
 | _=>.any
def Qn2:List AV→Nat
 | .sl _ b _ _ _::_=>b
 | _=>0
theorem Xp5 (s:FS) (es es2 b o n cc:Nat) (str:Bool) (vx:AV):Qiv s es str [.sl es2 b o n cc,vx]=(es2=es∧o=0∧n * es≤(Yo (s.H b)).length∧isC (s.H b)∧Us s es str vx∧n + Xh vx≤cc):=rfl
theorem Xuk (es es2 b o n cc:Nat) (vx:AV):Xch es [.sl es2 b o n cc,vx]=.sl es b 0 (n + Xh vx) cc:=rfl
theorem Xwu (es2 b o n cc:Nat) (r:List AV):Qn2 (.sl es2 b o n cc::r)=b:=rfl
attribute [go_sem] Xp5 Xuk Xwu
def Qi2 (s:St) (gl:Nat→AV) (d:Nat) (xs:List TV):Foot:=⟨Xj xs,Qn2 ((evs gl s.fs xs).map Qj)::Qs3 ((evs gl s.fs xs).map Qj),[d],[Qn2 ((evs gl s.fs xs).map Qj)]⟩
def Qj5 (s:St) (gl:Nat→AV) (d es:Nat) (xs:List TV):St:=(s.putB (Qn2 ((evs gl s.fs xs).map Qj)) (.cells (Qtj s.fs es ((evs gl s.fs xs).map Qj)))).put d (Xch es ((evs gl s.fs xs).map Qj))
theorem Qph {s:St} {d es by_:Nat} {str:Bool} {xs:List TV} (hc:Qt none (evs c.gl s.fs xs)) (hok:Qiv s.fs es str ((evs c.gl s.fs xs).map Qj)) :
  Kj P c (.pd (some d) (.app es by_ str) xs none) s.fs (Qi2 s c.gl d xs) (Qj5 s c.gl d es xs).fs:=by
 intro ops io he
 obtain ⟨hgd,hdst,hd,ys,hel,rfl⟩:=Zd he
 obtain ⟨x,y,t,u,e,i,z,rfl,hop,hu,hi,hz,hzs,hes,hby,hut⟩:=Qt9 hel
 have hv2:(evs c.gl s.fs ([x,y].map tvO)).map Qj=[Qj (evT c.gl s.fs (tvO x)),Qj (evT c.gl s.fs (tvO y))]:=rfl
 unfold Qi2 Qj5
 rw[hv2]at hok ⊢
 generalize hvb:Qj (evT c.gl s.fs (tvO x))=vb at *
 generalize hvx:Qj (evT c.gl s.fs (tvO y))=vx at *
 cases vb<;>simp only[Qiv]at hok
 rename_i es2 b o n cc
 obtain ⟨rfl,rfl,hl,hlive,okx,hroom⟩:=hok
 rw[St.fs_put,St.fs_putB]
 simp only[Qn2,Xch,Qs3,Qtj]
 refine Qk6 (kb:=none) (Jl hgd) hdst (by simpa using hd) fun s2 hT hH g a w hR=>?_
 have hevs:evs c.gl s2 ([x,y].map tvO)=evs c.gl s.fs ([x,y].map tvO):=Ye hT
 have hvs:=Yh (hR.evs [x,y]) (by rw[hevs];exact hc)
 rw[hevs,hv2]at hvs
 obtain ⟨v1,v2,_⟩:=hvs
 have hHb:s2.H b=s.fs.H b:=hH b Zsi
 have hHx:∀ b',Uu vx=some b'→s2.H b'=s.fs.H b':=fun b' h=>hH b' (by simp[h])
 obtain ⟨v',w',hr,h1,h2⟩:=Xi0 (P:=P) (ty:=io.type) hR hu hut hi hz hes (hzs.trans hes) v1 v2 (by rw[hHb];exact hl) (by rw[hHb];exact hlive) (Ql2 hHx okx) hroom
 rw[Qes (s:=s.fs) (x:=.sl es2 b 0 n cc) fun b' h=>by cases h;exact hHb,Qes hHx]at h1 h2
 refine ⟨g,v',w',?_,h1,h2⟩
 unfold execOp
 simp only[hop,resolve,invoke,builtin,Sem.run_bind,Sem.run_pure,Result.andThen_ok,List.map_toArray,List.map_cons,List.map_nil,hr]
theorem Qzq {r0:List TOp} {K:St→Prop} {s:St} {d es by_:Nat} {str:Bool} {xs:List TV} (h:Qt none (evs c.gl s.fs xs)∧Qiv s.fs es str ((evs c.gl s.fs xs).map Qj)∧XP P c r0 K (Qj5 s c.gl d es xs)) :
  Yc P c (.pd (some d) (.app es by_ str) xs none) r0 K s:=.inl ⟨_,_,Qph h.1 h.2.1,h.2.2⟩
theorem Quo {anc:List Nat} {fs:List Foot} {r0:List TOp} {K:St→Prop} {s:St} {d es by_:Nat} {str:Bool} {xs:List TV} (h:Qt none (evs c.gl s.fs xs)∧Qiv s.fs es str ((evs c.gl s.fs xs).map Qj)∧XD P c anc r0 (Qi2 s c.gl d xs::fs) K (Qj5 s c.gl d es xs)) :
  Za P c anc (.pd (some d) (.app es by_ str) xs none) r0 fs K s:=⟨_,_,Qph h.1 h.2.1,h.2.2⟩
attribute [go_sem] Qj5 Qi2
theorem Xqe {o:Oper} {t:TypeId} {xs:List Operand} (h:Xy P o=some (.clr t,xs)):∃ x,o.op=.call ⟨.builtin .clear,⟨[x]⟩,⟨[t]⟩⟩∧xs=[x]:=by
 unfold Xy at h
 repeat' split at h
 all_goals first
  | (cases h;exact ⟨_,by assumption,rfl⟩)
  | (simp at h;done)
  | (cases h;done)
  | (simp[Option.map_eq_some_iff]at h;done)
def Qox (P:Program) (t:TypeId) (es:Nat):Prop:=∃ e i z,P.underlying t=some (.slice e)∧P.info? e=some i∧i.zero=some z∧z.cells.size=es∧z.cells.all (·.oneCell')=true
def Xng (P:Program) (t:TypeId) (es:Nat):Bool:=match P.underlying t with
 | some (.slice e)=>match P.info? e with
  | some i=>match i.zero with
   | some z=>decide (z.cells.size=es) && z.cells.all (·.oneCell')
   | none=>false
  | none=>false
 | _=>false
theorem Qp4 {t:TypeId} {es:Nat} (h:Xng P t es=true):Qox P t es:=by
 unfold Xng at h
 split at h
 ·split at h
  ·split at h
   ·rw[Bool.and_eq_true,decide_eq_true_eq]at h
    exact ⟨_,_,_,by assumption,by assumption,by assumption,h.1,h.2⟩
   ·cases h
  ·cases h
 ·cases h
def Qr2 (s:FS) (es:Nat):List AV→Prop
 | [.sl es2 b _ n cc]=>es2=es∧isC (s.H b)∧n≤cc
 | _=>False
def Qoo:List AV→Nat
 | .sl _ b _ _ _::_=>b
 | _=>0
def Xeu (s:FS):List AV→List AV
 | .sl _ b off _ _::_=>(Yo (s.H b)).take off
 | _=>[]
theorem Xwf (s:FS) (es es2 b o n cc:Nat):Qr2 s es [.sl es2 b o n cc]=(es2=es∧isC (s.H b)∧n≤cc):=rfl
theorem Xzl (es2 b o n cc:Nat) (r:List AV):Qoo (.sl es2 b o n cc::r)=b:=rfl
theorem Xzv (s:FS) (es2 b o n cc:Nat) (r:List AV):Xeu s (.sl es2 b o n cc::r)=(Yo (s.H b)).take o:=rfl
attribute [go_sem] Xwf Xzl Xzv
theorem Xt3 {z:Array Value} (h:z.all (·.oneCell')=true) (n:Nat):∀ v ∈ (Builtin.zeroCells z n).toList,v.oneCell'=true:=by
 intro v hv
 unfold Builtin.zeroCells at hv
 simp only[Array.toList_map,List.mem_map]at hv
 obtain ⟨i,hi,rfl⟩:=hv
 have hi':i < n * z.size:=by simpa using hi
 have hz:0 < z.size:=by
  rcases Nat.eq_zero_or_pos z.size with h0|h0
  ·rw[h0]at hi';omega
  ·exact h0
 have hm:=Nat.mod_lt i hz
 rw[getElem!_pos z _ hm]
 exact Array.all_eq_true.1 h _ hm
theorem Xpf {s:St} {t:TypeId} {es:Nat} {xs:List TV} (hz:Qox P t es) (hc:Qt none (evs c.gl s.fs xs)) (hok:Qr2 s.fs es ((evs c.gl s.fs xs).map Qj)) :
  Kj P c (.pd none (.clr t) xs none) s.fs ⟨Xj xs,[Qoo ((evs c.gl s.fs xs).map Qj)],[],[Qoo ((evs c.gl s.fs xs).map Qj)]⟩ (s.putB (Qoo ((evs c.gl s.fs xs).map Qj)) (.cells (Xeu s.fs ((evs c.gl s.fs xs).map Qj)))).fs:=by
 intro ops io he
 obtain ⟨hgd,hdst,hd,ys,hel,rfl⟩:=Zd he
 obtain ⟨x,hop,rfl⟩:=Xqe hel
 obtain ⟨e,i,z,hu,hi,hzi,hzs,hz1⟩:=hz
 have hv1:(evs c.gl s.fs ([x].map tvO)).map Qj=[Qj (evT c.gl s.fs (tvO x))]:=rfl
 rw[hv1]at hok ⊢
 generalize hvx:Qj (evT c.gl s.fs (tvO x))=vx at *
 cases vx<;>simp only[Qr2]at hok
 rename_i es2 b off n cc
 obtain ⟨rfl,hisC,hn⟩:=hok
 rw[St.fs_putB]
 simp only[Qoo,Xeu]
 refine ⟨fun i _=>rfl,fun i hi=>by rw[FS.H_putB,if_neg (fun e=>hi (by simp[e]))],fun s2 hT hH g a w hR K Q' hK=>Yl (Jl hgd) ?_⟩
 have hevs:evs c.gl s2 ([x].map tvO)=evs c.gl s.fs ([x].map tvO):=Ye hT
 have hvs:=Yh (hR.evs [x]) (by rw[hevs];exact hc)
 rw[hevs,hv1]at hvs
 obtain ⟨hx,_⟩:=hvs
 have hHb:s2.H b=s.fs.H b:=hH b Zsi
 rw[← hHb]at hisC hK
 have hlive:=Qt5 hisC
 have hzv:(zeroValue e).run P w=.ok z w:=by simp[zeroValue,typeInfo,hi,hzi]
 have hzsz:∀ n,(Builtin.zeroCells z.cells n).toList.length=n * es2:=fun n=>by rw[Array.length_toList,size_zeroCells,hzs]
 have hcore:∃ w',(execOp a.eval io).run P w=.ok (.value (.tuple #[])) w'∧R c g (s2.putB b (.cells ((Yo (s2.H b)).take off))) a w':=by
  have hBR:=hR.h b
  rcases Qar hx with ⟨k,cap,e',cur,fz,e1,h1,h2,h3,h4,h5,h6⟩|⟨ad,e1,h1,rfl,rfl⟩
  ·rw[h1]at hBR
   have hlv:=hlive
   have hH0:=hHb
   clear hHb hH0 hK
   cases hh:s2.H b with
   | mapb kvs dn=>rw[hh]at hBR;cases hBR with|mapb hb'=>rw[h5]at hb';cases hb'
   | mapx kvs bs ck=>rw[hh]at hBR;cases hBR with|mapx hb'=>rw[h5]at hb';cases hb'
   | iter b0 ck seen=>rw[hh]at hBR;cases hBR with|iter hb'=>rw[h5]at hb';cases hb'
   | bag ls=>rw[hh]at hisC;exact hisC.elim
   | free=>rw[hh]at hlive;exact hlive.elim
   | dead=>rw[hh]at hlive;exact hlive.elim
   | cells cs =>
   rw[hh]at hBR
   cases hBR with
   | cells hb' hl' h1' hv' hf' =>
   rw[h5]at hb';cases hb'
   have hmul:n * es2≤cap * es2:=Nat.mul_le_mul_right _ Zom
   obtain ⟨w',cur',r1,r2,r3,r4,r5⟩:=Qft (P:=P) off (Builtin.zeroCells z.cells n).toList 0 w cur h5 (Xt3 hz1 n) (by rw[hzsz];omega) hf'
   have hrun:(execOp a.eval io).run P w=.ok (.value (.tuple #[])) w':=by
    unfold execOp
    simp only[hop,resolve,invoke,builtin,Sem.run_bind,Sem.run_pure,Result.andThen_ok,List.map_toArray,List.map_cons,List.map_nil,e1]
    cases n with
    | zero =>
     have:(Builtin.zeroCells z.cells 0).toList=[]:=List.eq_nil_of_length_eq_zero (by rw[hzsz];omega)
     rw[this]at r1
     have hw:w'=w:=by
      have:(storeCells ⟨k,off,none⟩ [] 0).run P w=.ok () w:=rfl
      rw[this]at r1;cases r1;rfl
     subst hw
     simp[Builtin.clear_,run_underlying hu]
    | succ n=>simp[Builtin.clear_,run_underlying hu,hzv,r1]
   have hkw:Qn c g s2 k:=.inr ⟨b,hlv,h1⟩
   refine ⟨w',hrun,hR.setBlock h1 hlv trivial r5 (.cells r2 (by rw[r3];simp[Yo];omega) (fun j hj=>?_) (fun j hj=>?_) (by rw[r3];exact hf'))⟩
   ·have hj':j < cs.length∧j < off:=by simp[Yo]at hj;omega
    rw[r4 j,if_neg Zom]
    exact h1' j hj'.1
   ·have hj':j < cs.length∧j < off:=by simp[Yo]at hj;omega
    rw[r4 j,if_neg Zom]
    have:((Yo (Bk.cells cs)).take off).getD j .any=cs.getD j .any:=by simp[Yo,List.getD,List.getElem?_take,hj'.2]
    rw[this]
    exact (hv' j hj'.1).mono (r5.weak fun i hi=>hi ▸ hkw) (fun _ _ h=>h) (fun _ _=>rfl)
  ·rw[h1]at hBR
   have hb0:s2.H b=.cells []:=by
    cases hh:s2.H b with
    | cells cs=>rw[hh]at hBR;cases hBR;rfl
    | mapb kvs dn=>rw[hh]at hBR;cases hBR
    | mapx kvs bs ck=>rw[hh]at hBR;cases hBR
    | iter b0 ck seen=>rw[hh]at hBR;cases hBR
    | bag ls=>rw[hh]at hisC;exact hisC.elim
    | free=>rw[hh]at hlive;exact hlive.elim
    | dead=>rw[hh]at hlive;exact hlive.elim
   have hs:s2.putB b (.cells ((Yo (s2.H b)).take off))=s2:=by
    refine Qap (fun _=>rfl) fun j=>?_
    rw[FS.H_putB];split
    ·rename_i h;subst h;rw[hb0];simp[Yo]
    ·rfl
   rw[hs]
   refine ⟨w,?_,hR⟩
   unfold execOp
   simp only[hop,resolve,invoke,builtin,Sem.run_bind,Sem.run_pure,Result.andThen_ok,List.map_toArray,List.map_cons,List.map_nil,e1]
   cases ad<;>simp[Builtin.clear_,run_underlying hu]
 obtain ⟨w',hr,hR'⟩:=hcore
 unfold Oper.wp
 rw[hr]
 show K (a.put io.dst (.tuple #[])) w'
 rw[hdst]
 refine hK g a w' ?_
 rw[Qfk]
 exact hR'
theorem Qmm {r0:List TOp} {K:St→Prop} {s:St} {t:TypeId} {es:Nat} {xs:List TV} (hz:Qox P t es) (h:Qt none (evs c.gl s.fs xs)∧Qr2 s.fs es ((evs c.gl s.fs xs).map Qj)∧XP P c r0 K (s.putB (Qoo ((evs c.gl s.fs xs).map Qj)) (.cells (Xeu s.fs ((evs c.gl s.fs xs).map Qj))))) :
  Yc P c (.pd none (.clr t) xs none) r0 K s:=.inl ⟨_,_,Xpf hz h.1 h.2.1,h.2.2⟩
end
def Qnp (P:Program) (kt:TypeId):Bool:=match P.underlying kt with
 | some (.struct _)=>true
 | some (.array _ _)=>true
 | _=>false
def Uk (wide:Bool):AV→Option (List AV)
 | .agg cs=>bif wide then some cs else none
 | x=>bif wide then none else some [x]
def Kg (wide:Bool) (ks:List SK) (x:AV):Prop:=(Uk wide x).map (List.map Yx)=some (ks.map some)
structure KeyT (P:Program) (kt:TypeId) (wide:Bool) (ks:List SK):Prop where
 sh:Um P 100 kt=some ks
 wd:Qnp P kt=wide
 ns:∀ k ∈ ks,k≠.str
section
variable {P:Program} {g:Nat→GM} {W:Nat→Prop} {w:World}
theorem Qjk {wide:Bool} {ks:List SK} {x:AV} (hx:Kg wide ks x):∃ cs,Uk wide x=some cs∧cs.map Yx=ks.map some:=by
 unfold Kg at hx
 cases h:Uk wide x with
 | none=>rw[h]at hx;cases hx
 | some cs=>rw[h]at hx;exact ⟨cs,rfl,by simpa using hx⟩
theorem Qs0 {x:AV} {cs:List AV} (h:Uk false x=some cs):cs=[x]:=by cases x<;>simp[Uk]at h<;>exact h.symm
theorem Qvq {x:AV} {cs:List AV} (h:Uk true x=some cs):x=.agg cs:=by cases x<;>simp[Uk]at h;rw[h]
theorem Xq9 {wide:Bool} {x y:AV} {cs:List AV} (hx:Uk wide x=some cs) (hy:Uk wide y=some cs):x=y:=by
 cases wide with
 | true=>rw[Qvq hx,Qvq hy]
 | false=>have h1:=Qs0 hx;have h2:=Qs0 hy;rw[h1]at h2;injection h2
theorem key_holds {kt:TypeId} {wide:Bool} {ks:List SK} (hT:KeyT P kt wide ks) {x:AV} {v:Value} (hx:Kg wide ks x) (hv:VR g W w x v) :
  ∃ cs us,Uk wide x=some cs∧cs.map Yx=ks.map some∧Wf P kt v us∧us.length=cs.length∧∀ j,j < cs.length→VR g W w (cs.getD j .any) (us.getD j undef):=by
 obtain ⟨cs,h1,h2⟩:=Qjk hx
 have hw:=hT.wd
 unfold Qnp at hw
 cases wide with
 | true =>
  cases x<;>simp[Uk]at h1
  subst h1
  obtain ⟨us,rfl,q1,q2,q3⟩:=Kv hv
  refine ⟨_,us.toList,rfl,h2,?_,by simpa using q1,fun j hj=>by have:=q3 j hj;simpa [Array.getD_eq_getD_getElem?,List.getD] using this⟩
  unfold Wf
  split<;>simp_all
 | false =>
  have h1':cs=[x]:=by cases x<;>simp[Uk]at h1<;>exact h1.symm
  refine ⟨cs,[v],h1,h2,?_,by rw[h1'];rfl,fun j hj=>?_⟩
  ·unfold Wf
   split<;>simp_all
  ·rw[h1']at hj ⊢
   simp at hj
   subst hj
   exact hv
theorem Xyv {kt:TypeId} {wide:Bool} {ks:List SK} (hT:KeyT P kt wide ks) {x y:AV} {u v:Value} (hx:Kg wide ks x) (hy:Kg wide ks y) (hu:VR g W w x u) (hv:VR g W w y v):∃ r:Bool,(∀ w',(Op.equal kt u v).run P w'=.ok r w')∧(r=true ↔ x=y):=by
 obtain ⟨cs,us,x1,x2,x3,x4,x5⟩:=key_holds hT hx hu
 obtain ⟨ds,vs,y1,y2,y3,y4,y5⟩:=key_holds hT hy hv
 have kl:cs.length=ks.length:=by simpa using congrArg List.length x2
 have kl':ds.length=ks.length:=by simpa using congrArg List.length y2
 refine ⟨Je ks us vs,fun w'=>Qil (P:=P) 9900 100 kt ks hT.sh w' _ _ _ _ x3 y3 Zom Zom (Qdi ks cs _ x2 x4 x5) (Qdi ks ds _ y2 y4 y5),?_⟩
 rw[Qlr ks cs ds _ _ x2 y2 x4 y4 x5 y5]
 exact ⟨fun h=>by subst h;exact Xq9 x1 y1,fun h=>by subst h;rw[x1]at y1;injection y1⟩
theorem Xw1 {wide:Bool} {ks:List SK} {x:AV} {u v:Value} (hx:Kg wide ks x) (hu:VR g W w x u) (hv:VR g W w x v):u=v:=by
 obtain ⟨cs,h1,h2⟩:=Qjk hx
 have one:∀ {y:AV} {k:SK} {a b:Value},Yx y=some k→VR g W w y a→VR g W w y b→a=b:=by
  intro y k a b hk ha hb
  cases y<;>simp[Yx]at hk<;>cases ha<;>cases hb<;>rfl
 have all:∀ c ∈ cs,∃ k,Yx c=some k:=fun c hc=>by
  have:Yx c ∈ ks.map some:=by rw[← h2];exact List.mem_map_of_mem hc
  obtain ⟨k,_,hk⟩:=List.mem_map.1 this
  exact ⟨k,hk.symm⟩
 cases x with
 | agg ds =>
  cases wide<;>simp[Uk]at h1
  subst h1
  obtain ⟨a,rfl,a1,a2,a3⟩:=Kv hu
  obtain ⟨b,rfl,b1,b2,b3⟩:=Kv hv
  congr 1
  apply Array.ext
  ·rw[a1,b1]
  ·intro j hj hj2
   have hjl:j < ds.length:=by omega
   obtain ⟨k,hk⟩:=all (ds.getD j .any) (by simp[List.getD,hjl])
   have:=one hk (a3 j hjl) (b3 j hjl)
   simpa [Array.getD_eq_getD_getElem?,hj,hj2] using this
 | _ =>
  cases wide<;>simp[Uk]at h1
  subst h1
  obtain ⟨k,hk⟩:=all _ (List.mem_singleton.2 rfl)
  exact one hk hu hv
theorem Qgr (em:Bool) (d:Nat):∀ (m:Nat) (t:TypeId) (ks:List SK),Um P m t=some ks→∀ (w:World) (x:Value) (us:List Value),Wf P t x us→us.length=ks.length→Ug ks us→(Instr.checkKey em (d + m) t x).run P w=.ok () w
 | 0,_,_,h=>by cases h
 | m + 1,t,ks,h=>by
  intro w x us hx lu ou
  unfold Um at h
  cases hu:P.underlying t with
  | none=>simp[hu]at h
  | some kd =>
   rw[hu]at h
   simp only[Wf,hu]at hx
   rw[show d + (m + 1)=(d + m) + 1 from rfl]
   cases kd<;>simp only[Option.some.injEq,reduceCtorEq]at h hx
   case bool=>subst h hx;obtain ⟨⟨a,rfl⟩,_⟩:=ou;simp[Instr.checkKey,run_underlying hu]
   case int k=>subst h hx;obtain ⟨⟨a,rfl⟩,_⟩:=ou;simp[Instr.checkKey,run_underlying hu]
   case string=>subst h hx;obtain ⟨⟨a,rfl⟩,_⟩:=ou;simp[Instr.checkKey,run_underlying hu]
   case struct fs =>
    subst hx
    split at h
    ·cases h
    ·rw[Instr.checkKey]
     simp only[Sem.run_bind,run_underlying hu,Result.andThen_ok]
     rw[← Array.forIn_toList]
     have key:∀ (L:List Field) (o:Nat) (ks:List SK),Qkp (Um P m) P o L=some ks→Ug ks (us.toArray.toList.drop o) →
       (forIn L PUnit.unit fun f r=>do
        if f.name ≠ "_" then do
         let v ← part f.type us.toArray f.offset
         Instr.checkKey em (d + m) f.type v
         pure (ForInStep.yield PUnit.unit)
        else pure (ForInStep.yield PUnit.unit):Sem PUnit).run P w=.ok PUnit.unit w:=by
      intro L
      induction L with
      | nil=>intro o ks _ _;simp
      | cons f L ih =>
       intro o ks h hx
       unfold Qkp at h
       split at h
       ·cases h
       ·rename_i hn
        simp only[not_or,Decidable.not_not]at hn
        obtain ⟨hname,hoff,hinfo'⟩:=hn
        have hinfo:=Qgn hinfo'
        simp only[Option.bind_eq_some_iff]at h
        obtain ⟨k1,h1,h2⟩:=h
        split at h2
        ·rename_i hc
         simp only[Option.map_eq_some_iff]at h2
         obtain ⟨k2,h2,rfl⟩:=h2
         obtain ⟨x1,x2⟩:=Qa6 _ _ _ hx
         obtain ⟨a,pa,ha⟩:=Qax w h1 hinfo hc x1
         have lx:=Qa8 _ _ x1
         have hr:=Qgr em d m _ _ h1 w a _ ha (by rw[List.length_take];omega) (Qai _ _ x1)
         rw[List.drop_drop]at x2
         simp only[List.forIn_cons,Sem.run_bind,hname,ne_eq,not_false_eq_true,if_true,hoff,pa,hr,Result.andThen_ok,Sem.run_pure]
         exact ih _ _ h2 x2
        ·cases h2
     have h3:=key fs.toList 0 ks h (by simpa using ou)
     rw[h3];rfl
   case array n e =>
    subst hx
    split at h
    ·cases h
    ·rename_i hin
     obtain ⟨i,hi⟩:=Option.isSome_iff_exists.1 (Qgn hin)
     simp only[Option.bind_eq_some_iff]at h
     obtain ⟨k1,h1,h2⟩:=h
     split at h2
     ·rename_i hc
      cases h2
      rw[Instr.checkKey]
      simp only[Sem.run_bind,run_underlying hu,Result.andThen_ok]
      simp only[Std.Legacy.Range.forIn_eq_forIn_range',Std.Legacy.Range.size,Nat.sub_zero,Nat.add_one_sub_one,Nat.div_one]
      have key:∀ (n i0:Nat),Ug (List.replicate n k1).flatten (us.toArray.toList.drop (i0 * k1.length)) →
        (forIn (List.range' i0 n) PUnit.unit fun i r=>do
         let z ← sizeOf e
         let v ← part e us.toArray (i * z)
         Instr.checkKey em (d + m) e v
         pure (ForInStep.yield PUnit.unit):Sem PUnit).run P w=.ok PUnit.unit w:=by
       intro n
       induction n with
       | zero=>intro i0 _;simp
       | succ n ih =>
        intro i0 hx
        rw[List.replicate_succ,List.flatten_cons]at hx
        obtain ⟨x1,x2⟩:=Qa6 _ _ _ hx
        obtain ⟨a,pa,ha⟩:=Qax w h1 (by rw[hi];rfl) hc x1
        have lx:=Qa8 _ _ x1
        have hr:=Qgr em d m _ _ h1 w a _ ha (by rw[List.length_take];omega) (Qai _ _ x1)
        have e1:i0 * k1.length + k1.length=(i0 + 1) * k1.length:=by rw[Nat.add_mul,Nat.one_mul]
        rw[List.drop_drop,e1]at x2
        rw[List.range'_succ]
        simp only[List.forIn_cons,Sem.run_bind,run_sizeOf w hi,hc,pa,hr,Result.andThen_ok,Sem.run_pure]
        exact ih (i0 + 1) x2
      have h3:=key n 0 (by simpa using ou)
      rw[h3];rfl
     ·cases h2
theorem Qj6 {kt:TypeId} {wide:Bool} {ks:List SK} (hT:KeyT P kt wide ks) {x:AV} {v:Value} (hx:Kg wide ks x) (hv:VR g W w x v) (em:Bool) (w':World):(Instr.checkKey em 10000 kt v).run P w'=.ok () w':=by
 obtain ⟨cs,us,x1,x2,x3,x4,x5⟩:=key_holds hT hx hv
 have kl:cs.length=ks.length:=by simpa using congrArg List.length x2
 exact Qgr em 9900 100 kt ks hT.sh w' v us x3 Zom (Qdi ks cs _ x2 x4 x5)
open Classical in
noncomputable def fIx (kvs:List (AV × AV)) (x:AV):Option Nat:=kvs.findIdx? fun p=>decide (p.1=x)
theorem Qhb {kt:TypeId} {wide:Bool} {ks:List SK} (hT:KeyT P kt wide ks) {x:AV} {v:Value} (hx:Kg wide ks x) (hv:VR g W w x v):∀ (kvs:List (AV × AV)) (es:List MapEntry) (i:Nat),es.length=kvs.length→(∀ p ∈ kvs,Kg wide ks p.1) →
  (∀ j,j < kvs.length→VR g W w (kvs.getD j (.any,.any)).1 (es.getD j default).key)→∀ w',(Instr.findAsking kt v es i).run P w'=.ok ((fIx kvs x).map fun j=>(i + j,(es.getD j default).val)) w'
 | [],[],i,_,_,_,w'=>by simp[Instr.findAsking,fIx]
 | [],_::_,_,h,_,_,_=>by simp at h
 | _::_,[],_,h,_,_,_=>by simp at h
 | p::kvs,e::es,i,hl,hk,hvs,w'=>by
  have h0:=hvs 0 Zsi
  simp only[List.getD_cons_zero]at h0
  obtain ⟨r,hr,hiff⟩:=Xyv hT hx (hk p Zsi) hv h0
  have ih:=Qhb hT hx hv kvs es (i + 1) (by simpa using hl) (fun q hq=>hk q (by simp[hq])) (fun j hj=>by simpa using hvs (j + 1) (by simp;omega)) w'
  simp only[Instr.findAsking,Sem.run_bind,hr,Result.andThen_ok]
  unfold fIx at ih ⊢
  rw[List.findIdx?_cons]
  cases r with
  | true =>
   have:p.1=x:=(hiff.1 rfl).symm
   simp[this]
  | false =>
   have hne:¬ p.1=x:=fun h=>by have:=hiff.2 h.symm;cases this
   simp only[Bool.false_eq_true,if_false,hne,decide_false]
   rw[ih]
   generalize List.findIdx? _ kvs=o
   cases o with
   | none=>rfl
   | some j=>simp only[Option.map_some,List.getD_cons_succ];rw[show i + 1 + j=i + (j + 1) by omega]
theorem Ql4 {kt:TypeId} {ks:List SK} {d:TypeDesc} (hu:P.underlying kt=some d) (hT:KeyT P kt false ks) {x:AV} {v:Value} (hx:Kg false ks x) (hv:VR g W w x v):∀ (kvs:List (AV × AV)) (es:List MapEntry) (i:Nat),es.length=kvs.length→(∀ p ∈ kvs,Kg false ks p.1) →
  (∀ j,j < kvs.length→VR g W w (kvs.getD j (.any,.any)).1 (es.getD j default).key)→Instr.findNow d v es i=some ((fIx kvs x).map fun j=>(i + j,(es.getD j default).val))
 | [],[],i,_,_,_=>by simp[Instr.findNow,fIx]
 | [],_::_,_,h,_,_=>by simp at h
 | _::_,[],_,h,_,_=>by simp at h
 | p::kvs,e::es,i,hl,hk,hvs=>by
  have h0:=hvs 0 Zsi
  simp only[List.getD_cons_zero]at h0
  have ih:=Ql4 hu hT hx hv kvs es (i + 1) (by simpa using hl) (fun q hq=>hk q (by simp[hq])) (fun j hj=>by simpa using hvs (j + 1) (by simp;omega))
  have hsame:∃ r:Bool,Instr.sameNow d v e.key=some r∧(r=true ↔ p.1=x):=by
   obtain ⟨cs,us,x1,x2,x3,x4,x5⟩:=key_holds hT hx hv
   obtain ⟨ds,vs,y1,y2,y3,y4,y5⟩:=key_holds hT (hk p Zsi) h0
   have hsh:=hT.sh
   have hwd:=hT.wd
   unfold Qnp at hwd
   unfold Um at hsh
   rw[hu]at hsh hwd
   simp only[Wf,hu]at x3 y3
   have hp1:Uk false p.1=some [p.1]:=by revert y1;cases p.1<;>simp[Uk]
   have hx1:Uk false x=some [x]:=by revert x1;cases x<;>simp[Uk]
   rw[hx1]at x1;rw[hp1]at y1
   cases x1;cases y1
   cases d<;>simp only[Option.some.injEq,reduceCtorEq]at hsh hwd
   case bool =>
    subst hsh
    simp at x2 y2
    cases x<;>simp[Yx]at x2
    cases hp:p.1<;>rw[hp]at y2 h0<;>simp[Yx]at y2
    cases hv;cases hq:e.key<;>rw[hq]at h0<;>cases h0
    refine ⟨_,rfl,?_⟩
    simp;exact eq_comm
   case int k =>
    subst hsh
    simp at x2 y2
    cases x<;>simp[Yx]at x2
    cases hp:p.1<;>rw[hp]at y2 h0<;>simp[Yx]at y2
    subst x2 y2
    cases hv;cases hq:e.key<;>rw[hq]at h0<;>cases h0
    refine ⟨_,by simp only[Instr.sameNow,if_true];rfl,?_⟩
    simp;exact eq_comm
   case string=>exact (hT.ns _ (by rw[← hsh];simp) rfl).elim
   all_goals first|(cases hsh;done)|(simp at hwd;done)
  obtain ⟨r,hr,hiff⟩:=hsame
  unfold Instr.findNow
  rw[hr]
  unfold fIx at ih ⊢
  rw[List.findIdx?_cons]
  cases r with
  | true=>simp[hiff.1 rfl]
  | false =>
   have hne:¬ p.1=x:=fun h=>by have:=hiff.2 h;cases this
   simp only[Bool.false_eq_true,if_false,hne,decide_false]
   rw[ih]
   generalize List.findIdx? _ kvs=o
   cases o with
   | none=>rfl
   | some j=>simp only[Option.map_some,List.getD_cons_succ];rw[show i + 1 + j=i + (j + 1) by omega]
theorem Qgx {kt:TypeId} {wide:Bool} {ks:List SK} (hT:KeyT P kt wide ks) {x:AV} {v:Value} (hx:Kg wide ks x) (hv:VR g W w x v) {kvs:List (AV × AV)} {es:List MapEntry} (hl:es.length=kvs.length) (hk:∀ p ∈ kvs,Kg wide ks p.1)
  (hvs:∀ j,j < kvs.length→VR g W w (kvs.getD j (.any,.any)).1 (es.getD j default).key) (w':World):(Instr.findKey kt v es).run P w'=.ok ((fIx kvs x).map fun j=>(j,(es.getD j default).val)) w':=by
 cases wide with
 | true =>
  have hwd:=hT.wd
  unfold Qnp at hwd
  rw[run_findKey_eq w' (by split at hwd<;>simp_all) v es,Qhb hT hx hv kvs es 0 hl hk hvs w']
  simp
 | false =>
  cases hu:P.underlying kt with
  | none=>have:=hT.sh;unfold Um at this;rw[hu]at this;cases this
  | some d =>
   rw[MapKept.run_findKey hu (Ql4 hu hT hx hv kvs es 0 hl hk hvs)]
   simp
theorem Xr4 {wide:Bool} {ks:List SK} (hns:∀ k ∈ ks,k≠.str) {x:AV} {v:Value} (hx:Kg wide ks x) (hv:VR g W w x v):Instr.sameBits 10000 v v=true:=by
 obtain ⟨cs,h1,h2⟩:=Qjk hx
 have all:∀ c ∈ cs,∃ k,Yx c=some k∧k≠.str:=fun c hc=>by
  have:Yx c ∈ ks.map some:=by rw[← h2];exact List.mem_map_of_mem hc
  obtain ⟨k,hk1,hk⟩:=List.mem_map.1 this
  exact ⟨k,hk.symm,hns k hk1⟩
 have one:∀ {y:AV} {k:SK} {a:Value} (n:Nat),Yx y=some k∧k≠.str→VR g W w y a→Instr.sameBits n a a=true:=by
  rintro y k a n ⟨hk,hk2⟩ ha
  cases y<;>simp[Yx]at hk<;>(try (exact (hk2 hk.symm).elim))<;>cases ha<;>cases n<;>simp[Instr.sameBits]
 cases x with
 | agg ds =>
  cases wide<;>simp[Uk]at h1
  subst h1
  obtain ⟨a,rfl,a1,a2,a3⟩:=Kv hv
  show (a.size == a.size && (a.toList.zip a.toList).all fun (x,y)=>Instr.sameBits 9999 x y)=true
  simp only[beq_self_eq_true,Bool.true_and,List.all_eq_true]
  rintro ⟨u1,u2⟩ hm
  obtain ⟨j,hj,he⟩:=List.getElem_of_mem hm
  simp at hj
  simp only[List.getElem_zip,Prod.mk.injEq]at he
  obtain ⟨e1,e2⟩:=he
  subst e1 e2
  have hjl:j < ds.length:=by omega
  obtain ⟨k,hk⟩:=all (ds.getD j .any) (by simp[List.getD,hjl])
  have:=one 9999 hk (a3 j hjl)
  simpa [Array.getD_eq_getD_getElem?,hj] using this
 | _ =>
  cases wide<;>simp[Uk]at h1
  subst h1
  obtain ⟨k,hk⟩:=all _ (List.mem_singleton.2 rfl)
  exact one _ hk hv
end
def Xyc (P:Program) (t:TypeId):Option (Bool × List SK × AV):=match P.underlying t with
 | some (.map kt et)=>match Um P 100 kt with
  | some ks=>if ks.all (fun k=>match k with|.str=>false|_=>true) then ((P.info? et).bind (·.zero)).map fun z=>(Qnp P kt,ks,ofV z) else none
  | none=>none
 | _=>none
structure MapT (P:Program) (t:TypeId) (wide:Bool) (ks:List SK) (z:AV):Prop where
 of:∃ kt et zv,P.underlying t=some (.map kt et)∧KeyT P kt wide ks∧(∀ w,(zeroValue et).run P w=.ok zv w)∧ofV zv=z
theorem MapT.mk' {P:Program} {t:TypeId} {wide:Bool} {ks:List SK} {z:AV} (h:Xyc P t=some (wide,ks,z)):MapT P t wide ks z:=by
 unfold Xyc at h
 split at h
 ·rename_i kt et hu
  split at h
  ·rename_i ks' hks
   split at h
   ·rename_i hns
    simp only[Option.map_eq_some_iff,Prod.mk.injEq]at h
    obtain ⟨zv,hz,rfl,rfl,rfl⟩:=h
    refine ⟨kt,et,zv,hu,⟨hks,rfl,fun k hk e=>?_⟩,fun w=>?_,rfl⟩
    ·have:=List.all_eq_true.1 hns k hk
     subst e;cases this
    ·cases hi:P.info? et with
     | none=>rw[hi]at hz;cases hz
     | some i=>rw[hi]at hz;simp at hz;simp[zeroValue,typeInfo,hi,hz]
   ·cases h
  ·cases h
 ·cases h
noncomputable def Qem (kvs:List (AV × AV)) (x z:AV):AV:=match fIx kvs x with
 | some i=>(kvs.getD i (.any,.any)).2
 | none=>z
noncomputable def Qom (kvs:List (AV × AV)) (x:AV):Bool:=(fIx kvs x).isSome
noncomputable def Qel (kvs:List (AV × AV)) (x v:AV):List (AV × AV):=match fIx kvs x with
 | some i=>kvs.set i (x,v)
 | none=>kvs++[(x,v)]
noncomputable def Qm8 (kvs:List (AV × AV)) (x:AV):List (AV × AV):=match fIx kvs x with
 | some i=>kvs.eraseIdx i
 | none=>kvs
noncomputable def Yb7 (kvs:List (AV × AV)) (x z:AV):List (AV × AV):=match fIx kvs x with
 | some _=>kvs
 | none=>kvs++[(x,z)]
noncomputable def ixA (kvs:List (AV × AV)) (x:AV):Nat:=(fIx kvs x).getD kvs.length
def Qh5 (wide:Bool) (ks:List SK) (kvs:List (AV × AV)):Prop:=∀ p ∈ kvs,Kg wide ks p.1
theorem Qm6 {kvs:List (AV × AV)} {x:AV} {i:Nat} (h:fIx kvs x=some i):i < kvs.length∧(kvs.getD i (.any,.any)).1=x:=by
 unfold fIx at h
 obtain ⟨hi,h1,_⟩:=List.findIdx?_eq_some_iff_getElem.1 h
 refine ⟨hi,?_⟩
 have e:kvs.getD i (.any,.any)=kvs[i]:=by simp[List.getD,hi]
 rw[e];exact @of_decide_eq_true _ (Classical.propDecidable _) h1
section
variable {P:Program} {c:Cx} {ops:Array Oper} {io:Oper} {g:Nat→GM} {s:FS} {a:Act} {w:World}
theorem Qh9 (hR:R c g s a w) {b k:Nat} {kvs:List (AV × AV)} {dn:Bool} (hb:s.H b=.mapb kvs dn) (hg:g b=.re k):∃ es clock,w.heap[k]?=some (.map es clock)∧es.size=kvs.length ∧
  (∀ j,j < kvs.length→VR g (Qn c g s) w (kvs.getD j (.any,.any)).1 (es.getD j default).key)∧(∀ j,j < kvs.length→VR g (Qn c g s) w (kvs.getD j (.any,.any)).2 (es.getD j default).val) ∧
  (∀ j,j < es.size→(es.getD j default).born < clock)∧(∀ i j,i < j→j < es.size→(es.getD i default).born < (es.getD j default).born)∧(dn=true→(∀ j,j < es.size→(es.getD j default).born=j)∧clock=es.size):=by
 have:=hR.h b
 rw[hb,hg]at this
 cases this with
 | mapb h1 h2 h3 h4 h5 h6 h7=>exact ⟨_,_,h1,h2,h3,h4,h5,h6,h7⟩
theorem Qd2 {es:Array MapEntry} (j:Nat):es.toList.getD j default=es.getD j default:=by simp[Array.getD_eq_getD_getElem?,List.getD]
theorem Qer {k:Nat} {o:Obj} {es:Array MapEntry} {clock:Nat} (hk:w.heap[k]?=some (.map es clock)):(setObj k o).run P w=.ok () { w with heap:=w.heap.setIfInBounds k o }:=by
 simp[setObj,Sem.run,hk]
theorem Xg8 {k:Nat} {es es':Array MapEntry} {clock clock':Nat} (hk:w.heap[k]?=some (.map es clock)):Fr w { w with heap:=w.heap.setIfInBounds k (.map es' clock') } (fun i=>i=k) :=
 ⟨rfl,rfl,rfl,by simp,fun i _ hne=>by simp only[Array.getElem?_setIfInBounds];rw[if_neg fun e=>hne e.symm],fun i cur e fz hi=>by
  by_cases h:i=k
  ·subst h;rw[hk]at hi;cases hi
  ·exact ⟨cur,by simp only[Array.getElem?_setIfInBounds];rw[if_neg fun e=>h e.symm];exact hi,rfl⟩⟩
theorem Xjx {k:Nat} {o o':Obj} (hk:w.heap[k]?=some o):({ w with heap:=w.heap.setIfInBounds k o' }:World).heap[k]?=some o':=by
 have:=Wj hk
 simp[this]
theorem R.setMap (hR:R c g s a w) {b k:Nat} {kvs kvs':List (AV × AV)} {dn dn':Bool} {es es':Array MapEntry} {clock clock':Nat} (hb:s.H b=.mapb kvs dn) (hg:g b=.re k) (hk:w.heap[k]?=some (.map es clock)) (hs:es'.size=kvs'.length)
  (h1:∀ j,j < kvs'.length→VR g (Qn c g s) w (kvs'.getD j (.any,.any)).1 (es'.getD j default).key) (h2:∀ j,j < kvs'.length→VR g (Qn c g s) w (kvs'.getD j (.any,.any)).2 (es'.getD j default).val)
  (h3:∀ j,j < es'.size→(es'.getD j default).born < clock') (h4:∀ i j,i < j→j < es'.size→(es'.getD i default).born < (es'.getD j default).born) (h5:dn'=true→(∀ j,j < es'.size→(es'.getD j default).born=j)∧clock'=es'.size) :
  R c g (s.putB b (.mapb kvs' dn')) a { w with heap:=w.heap.setIfInBounds k (.map es' clock') }:=by
 have hlive:(s.H b).live:=by rw[hb];trivial
 have hf:=Xg8 (es':=es') (clock':=clock') hk
 have hkw:Qn c g s k:=.inr ⟨b,hlive,hg⟩
 have hm:∀ {x v},VR g (Qn c g s) w x v→VR g (Qn c g s) { w with heap:=w.heap.setIfInBounds k (.map es' clock') } x v:=fun h=>h.mono (hf.weak fun i hi=>hi ▸ hkw) (fun _ _ h=>h) (fun _ _=>rfl)
 exact hR.setBlock hg hlive trivial hf (.mapb (Xjx hk) hs (fun j hj=>hm (h1 j hj)) (fun j hj=>hm (h2 j hj)) h3 h4 h5)
theorem R.noDense (hR:R c g s a w) {b:Nat} {kvs:List (AV × AV)} {dn:Bool} (hb:s.H b=.mapb kvs dn):R c g (s.putB b (.mapb kvs false)) a w:=by
 have h:=hR.h b
 rw[hb]at h
 generalize hg:g b=m at h
 cases h with
 | mapb h1 h2 h3 h4 h5 h6 h7 =>
  exact hR.setBlock hg (by rw[hb];trivial) trivial (Fr.refl _ _) (.mapb h1 h2 h3 h4 h5 h6 fun h=>by cases h)
theorem Xvk (hR:R c g s a w) {t:TypeId} {wide:Bool} {ks:List SK} {z:AV} (hT:MapT P t wide ks z) {b:Nat} {kvs:List (AV × AV)} {dn:Bool} (hb:s.H b=.mapb kvs dn) {x:AV} {m v:Value} (hm:VR g (Qn c g s) w (.mp b) m) (hx:VR g (Qn c g s) w x v) (hkx:Kg wide ks x) (hks:Qh5 wide ks kvs) (ok:Bool) :
  ∃ r,(Instr.lookup t m v ok).run P w=.ok r w∧VR g (Qn c g s) w (bif ok then .tup [Qem kvs x z,.bool (Qom kvs x)] else Qem kvs x z) r:=by
 obtain ⟨kt,et,zv,hu,hK,hz,rfl⟩:=hT.of
 obtain ⟨k,rfl,hg⟩:=Qju hm
 obtain ⟨es,clock,q1,q2,q3,q4,q5,q6,q7⟩:=Qh9 hR hb hg
 have hfk:=Qgx hK hkx hx (kvs:=kvs) (es:=es.toList) (by simpa using q2) hks (fun j hj=>by rw[Qd2];exact q3 j hj) w
 have hck:=Qj6 hK hkx hx es.isEmpty w
 have hgo:(getObj k).run P w=.ok (.map es clock) w:=by simp[getObj,Sem.run,q1]
 have hval:∃ r0,VR g (Qn c g s) w (Qem kvs x (ofV zv)) r0∧(Instr.lookup t (.map (some k)) v ok).run P w=.ok (if ok then .tuple #[r0,.bool (Qom kvs x)] else r0) w:=by
  unfold Qem Qom
  cases hf:fIx kvs x with
  | none =>
   rw[hf]at hfk
   refine ⟨zv,Qmi zv,?_⟩
   simp only[Instr.lookup,Sem.run_bind,run_underlying hu,Result.andThen_ok,hgo,hck,hfk,Option.map_none,hz,Sem.run_pure]
   rfl
  | some i =>
   rw[hf]at hfk
   obtain ⟨hi,_⟩:=Qm6 hf
   refine ⟨_,q4 i hi,?_⟩
   simp only[Instr.lookup,Sem.run_bind,run_underlying hu,Result.andThen_ok,hgo,hck,hfk,Option.map_some,Sem.run_pure,Qd2]
   rfl
 obtain ⟨r0,hv,hr⟩:=hval
 refine ⟨_,hr,?_⟩
 cases ok with
 | false=>exact hv
 | true =>
  refine .tup rfl fun j hj=>?_
  match j,hj with
  | 0,_=>exact hv
  | 1,_=>exact .bool _
  | j + 2,hj=>simp at hj;omega
theorem Qd3 {es:Array MapEntry} {e:MapEntry} (j:Nat):(es.push e).getD j default=if j=es.size then e else es.getD j default:=by
 simp only[Array.getD_eq_getD_getElem?,Array.getElem?_push]
 split<;>rfl
theorem Ql9 {es:Array MapEntry} {f:MapEntry→MapEntry} {i:Nat} (hi:i < es.size) (j:Nat):(es.modify i f).getD j default=if j=i then f (es.getD j default) else es.getD j default:=by
 simp only[Array.getD_eq_getD_getElem?,Array.getElem?_modify]
 by_cases h:j=i
 ·subst h;simp[hi]
 ·rw[if_neg h,if_neg fun e=>h e.symm]
theorem Qtr {kvs:List (AV × AV)} {p:AV × AV} (j:Nat):(kvs++[p]).getD j (.any,.any)=if j=kvs.length then p else kvs.getD j (.any,.any):=by
 by_cases h:j=kvs.length
 ·subst h;simp[List.getD]
 ·rw[if_neg h]
  rcases Nat.lt_or_ge j kvs.length with h1|h1
  ·simp[List.getD,List.getElem?_append_left h1]
  ·have:(kvs++[p])[j]?=none:=List.getElem?_eq_none (by simp;omega)
   simp[List.getD,this,List.getElem?_eq_none h1]
theorem Qqa {kvs:List (AV × AV)} {p:AV × AV} {i:Nat} (hi:i < kvs.length) (j:Nat):(kvs.set i p).getD j (.any,.any)=if j=i then p else kvs.getD j (.any,.any):=by
 by_cases h:j=i
 ·subst h;simp[List.getD,hi]
 ·rw[if_neg h];simp[List.getD,List.getElem?_set_ne fun e=>h e.symm]
theorem Yam (hR:R c g s a w) {b k:Nat} {kvs:List (AV × AV)} {dn:Bool} (hb:s.H b=.mapb kvs dn) (hg:g b=.re k) {es:Array MapEntry} {clock:Nat} (q1:w.heap[k]?=some (.map es clock)) {i:Nat} (hi:i < kvs.length) {y:AV} {u:Value} (hy:VR g (Qn c g s) w y u) {f:MapEntry→MapEntry}
  (hf1:∀ e,(f e).born=e.born) (hf2:(f (es.getD i default)).val=u) (hf3:(f (es.getD i default)).key=(es.getD i default).key) :
  R c g (s.putB b (.mapb (kvs.set i ((kvs.getD i (.any,.any)).1,y)) dn)) a { w with heap:=w.heap.setIfInBounds k (.map (es.modify i f) clock) }:=by
 obtain ⟨es',clock',r1,q2,q3,q4,q5,q6,q7⟩:=Qh9 hR hb hg
 rw[q1]at r1;cases r1
 have hie:i < es.size:=by omega
 have hb2:∀ j,((es.modify i f).getD j default).born=(es.getD j default).born:=fun j=>by
  rw[Ql9 hie];split
  ·exact hf1 _
  ·rfl
 refine hR.setMap hb hg q1 (by simp;exact q2) (fun j hj=>?_) (fun j hj=>?_) (fun j hj=>?_) (fun i' j hij hj=>?_) (fun hd=>?_)
 ·rw[List.length_set]at hj
  rw[Qqa hi,Ql9 hie]
  split
  ·rename_i e;subst e;rw[hf3];exact q3 _ hj
  ·exact q3 _ hj
 ·rw[List.length_set]at hj
  rw[Qqa hi,Ql9 hie]
  split
  ·rename_i e;subst e;rw[hf2];exact hy
  ·exact q4 _ hj
 ·rw[hb2];exact q5 j (by simpa using hj)
 ·rw[hb2,hb2];exact q6 i' j hij (by simpa using hj)
 ·obtain ⟨d1,d2⟩:=q7 hd
  exact ⟨fun j hj=>by rw[hb2];exact d1 j (by simpa using hj),by simpa using d2⟩
theorem Xzq (hR:R c g s a w) {b k:Nat} {kvs:List (AV × AV)} {dn:Bool} (hb:s.H b=.mapb kvs dn) (hg:g b=.re k) {es:Array MapEntry} {clock:Nat} (q1:w.heap[k]?=some (.map es clock)) {x y:AV} {v u:Value} (hx:VR g (Qn c g s) w x v) (hy:VR g (Qn c g s) w y u) :
  R c g (s.putB b (.mapb (kvs++[(x,y)]) dn)) a { w with heap:=w.heap.setIfInBounds k (.map (es.push { key:=v,val:=u,born:=clock }) (clock + 1)) }:=by
 obtain ⟨es',clock',r1,q2,q3,q4,q5,q6,q7⟩:=Qh9 hR hb hg
 rw[q1]at r1;cases r1
 refine hR.setMap hb hg q1 (by simp;exact q2) (fun j hj=>?_) (fun j hj=>?_) (fun j hj=>?_) (fun i j hij hj=>?_) (fun hd=>?_)
 ·rw[List.length_append,List.length_singleton]at hj
  rw[Qtr,Qd3,q2]
  split
  ·exact hx
  ·exact q3 j Zom
 ·rw[List.length_append,List.length_singleton]at hj
  rw[Qtr,Qd3,q2]
  split
  ·exact hy
  ·exact q4 j Zom
 ·rw[Array.size_push]at hj
  rw[Qd3]
  split
  ·show clock < clock + 1;omega
  ·have:=q5 j Zom;omega
 ·rw[Array.size_push]at hj
  rw[Qd3,Qd3,if_neg Zom]
  split
  ·exact q5 i Zom
  ·exact q6 i j hij Zom
 ·obtain ⟨d1,d2⟩:=q7 hd
  refine ⟨fun j hj=>?_,by rw[Array.size_push];omega⟩
  rw[Array.size_push]at hj
  rw[Qd3]
  split
  ·rename_i e;show clock=j;omega
  ·exact d1 j Zom
theorem Xw2 (hR:R c g s a w) {t:TypeId} {wide:Bool} {ks:List SK} {z:AV} (hT:MapT P t wide ks z) {b:Nat} {kvs:List (AV × AV)} {dn:Bool} (hb:s.H b=.mapb kvs dn) {x y:AV} {m v u:Value} (hm:VR g (Qn c g s) w (.mp b) m) (hx:VR g (Qn c g s) w x v) (hy:VR g (Qn c g s) w y u)
  (hkx:Kg wide ks x) (hks:Qh5 wide ks kvs):∃ w',(Instr.mapUpdate t m v u).run P w=.ok () w'∧R c g (s.putB b (.mapb (Qel kvs x y) dn)) a w':=by
 obtain ⟨kt,et,zv,hu,hK,hz,rfl⟩:=hT.of
 obtain ⟨k,rfl,hg⟩:=Qju hm
 obtain ⟨es,clock,q1,q2,q3,q4,q5,q6,q7⟩:=Qh9 hR hb hg
 have hfk:=Qgx hK hkx hx (kvs:=kvs) (es:=es.toList) (by simpa using q2) hks (fun j hj=>by rw[Qd2];exact q3 j hj) w
 have hck:=Qj6 hK hkx hx false w
 have hgo:(getObj k).run P w=.ok (.map es clock) w:=by simp[getObj,Sem.run,q1]
 have hkl:=Wj q1
 unfold Qel
 cases hf:fIx kvs x with
 | none =>
  rw[hf]at hfk
  refine ⟨_,?_,Xzq hR hb hg q1 hx hy⟩
  simp only[Instr.mapUpdate,Sem.run_bind,run_underlying hu,Result.andThen_ok,hgo,hck,hfk,Option.map_none,Qer q1]
 | some i =>
  rw[hf]at hfk
  obtain ⟨hi,hke⟩:=Qm6 hf
  have hie:i < es.size:=by omega
  have h3:=q3 i hi
  rw[hke]at h3
  have hkv:(es.getD i default).key=v:=Xw1 hkx h3 hx
  have hsb:Instr.sameBits 10000 v v=true:=Xr4 hK.ns hkx hx
  have hkeep:(Instr.keyThatStays (((es[i]?).map (·.key)).getD v) v).run P w=.ok v w:=by
   have e:((es[i]?).map (·.key)).getD v=v:=by
    have:es.getD i default=es[i]:=by simp[Array.getD_eq_getD_getElem?,hie]
    rw[Array.getElem?_eq_getElem hie]
    rw[this]at hkv
    simpa using hkv
   rw[e]
   simp[Instr.keyThatStays,hsb]
  have hset:=Yam hR hb hg q1 hi hy (f:=fun e=>{ e with key:=v,val:=u }) (fun _=>rfl) rfl hkv.symm
  rw[hke]at hset
  refine ⟨_,?_,hset⟩
  simp only[Instr.mapUpdate,Sem.run_bind,run_underlying hu,Result.andThen_ok,hgo,hck,hfk,Option.map_some,hkeep,Qer q1]
end
def mpB:List AV→Nat
 | .mp b::_=>b
 | _=>0
def Xcy:List AV→Prop
 | .mp _::_=>True
 | _=>False
def Qci:List AV→AV
 | _::x::_=>x
 | _=>.any
def Qp1:List AV→AV
 | _::_::x::_=>x
 | _=>.any
def Qsq:List AV→Int
 | _::.int _ n::_=>n
 | _=>0
def Xt9:List AV→Prop
 | _::.int .i64 _::_=>True
 | _=>False
def kvB:Bk→List (AV × AV)
 | .mapb kvs _=>kvs
 | _=>[]
def dnB:Bk→Bool
 | .mapb _ dn=>dn
 | _=>false
def Qmz:Bk→Prop
 | .mapb _ _=>True
 | _=>False
theorem Ya7 (b:Nat) (r:List AV):mpB (.mp b::r)=b:=rfl
theorem Xxv (b:Nat) (r:List AV):Xcy (.mp b::r)=True:=rfl
theorem Xy1 (x y:AV) (r:List AV):Qci (x::y::r)=y:=rfl
theorem Xxq (x y z:AV) (r:List AV):Qp1 (x::y::z::r)=z:=rfl
theorem Xzn (x:AV) (k:IntKind) (n:Int) (r:List AV):Qsq (x::.int k n::r)=n:=rfl
theorem Xxa (x:AV) (n:Int) (r:List AV):Xt9 (x::.int .i64 n::r)=True:=rfl
theorem Yai (kvs:List (AV × AV)) (dn:Bool):kvB (.mapb kvs dn)=kvs:=rfl
theorem Yag (kvs:List (AV × AV)) (dn:Bool):dnB (.mapb kvs dn)=dn:=rfl
theorem Xsm (kvs:List (AV × AV)) (dn:Bool):Qmz (.mapb kvs dn)=True:=rfl
theorem Qxw (ks:List SK) (cs:List AV):Kg true ks (.agg cs)=(cs.map Yx=ks.map some):=by simp[Kg,Uk]
theorem Qxi (k:IntKind) (n:Int):Kg false [.int k] (.int k n)=True:=by simp[Kg,Uk,Yx]
theorem Qxh (k:IntKind) (n:Int):Yx (.int k n)=some (.int k):=rfl
theorem Qvx (b:Bool):Yx (.bool b)=some .bool:=rfl
attribute [go_sem] Ya7 Xxv Xy1 Xxq Xzn Xxa Yai Yag Xsm Qxw Qxi Qxh Qvx
theorem Qou {vs:List AV} (h:Xcy vs):∃ b r,vs=.mp b::r:=by
 match vs,h with
 | .mp b::r,_=>exact ⟨b,r,rfl⟩
theorem Qji {x:Bk} (h:Qmz x):∃ kvs dn,x=.mapb kvs dn:=by
 cases x<;>first|exact h.elim|exact ⟨_,_,rfl⟩
section
variable {P:Program} {c:Cx} {ops:Array Oper} {io:Oper}
theorem Xr5 {o:Oper} {t:TypeId} {ok:Bool} {xs:List Operand} (h:Xy P o=some (.lkp t ok,xs)):∃ m k,o.op=.lookup t m k ok∧xs=[m,k]:=by
 unfold Xy at h
 repeat' split at h
 all_goals first
  | (cases h;exact ⟨_,_,by assumption,rfl⟩)
  | (simp at h;done)
  | (cases h;done)
  | (simp[Option.map_eq_some_iff]at h;done)
theorem Xrg {o:Oper} {t:TypeId} {xs:List Operand} (h:Xy P o=some (.upd t,xs)):∃ m k v,o.op=.mapUpdate t m k v∧xs=[m,k,v]:=by
 unfold Xy at h
 repeat' split at h
 all_goals first
  | (cases h;exact ⟨_,_,_,by assumption,rfl⟩)
  | (simp at h;done)
  | (cases h;done)
  | (simp[Option.map_eq_some_iff]at h;done)
theorem Xoj {o:Oper} {t:TypeId} {xs:List Operand} (h:Xy P o=some (.mkm t,xs)):∃ r,o.op=.makeMap t r∧(r=none∨∃ k n,r=some (.const (.int k n)))∧xs=[]:=by
 unfold Xy at h
 repeat' split at h
 all_goals first
  | (rename_i hh;exact Bool.noConfusion hh)
  | (cases h;exact ⟨_,by assumption,.inl rfl,rfl⟩)
  | (cases h;exact ⟨_,by assumption,.inr ⟨_,_,rfl⟩,rfl⟩)
  | (simp at h;done)
  | (cases h;done)
  | (simp[Option.map_eq_some_iff]at h;done)
theorem Xxx {s:FS} {d:Nat} {V:AV} {rt rb:List Nat} (hg:io.guard=none) (hdst:io.dst=some d) (hd:d < c.N)
  (core:∀ s2:FS,(∀ i ∈ rt,s2.T i=s.T i)→(∀ b ∈ rb,s2.H b=s.H b)→∀ g a w,R c g s2 a w→∃ v',(execOp a.eval io).run P w=.ok (.value v') w∧VR g (Qn c g s2) w V v') :
  AOk P c ops io s ⟨rt,rb,[d],[]⟩ (s.put d V):=by
 refine ⟨fun i hi=>?_,fun j hj=>rfl,fun s2 hT hH g a w hR K Q' hK=>Yl hg ?_⟩
 ·rw[FS.T_put,if_neg (fun e=>hi (by simp[e]))]
 ·obtain ⟨v',hr,hv⟩:=core s2 hT hH g a w hR
  unfold Oper.wp
  rw[hr]
  show K (a.put io.dst v') w
  rw[hdst]
  refine hK g _ w ?_
  rw[Qdo]
  exact hR.put hd hv
theorem Xy4 {s:FS} {b d:Nat} {X:Bk} {V:AV} {rt rb:List Nat} (hg:io.guard=none) (hdst:io.dst=some d) (hd:d < c.N)
  (core:∀ s2:FS,(∀ i ∈ rt,s2.T i=s.T i)→(∀ b ∈ rb,s2.H b=s.H b)→∀ g a w,R c g s2 a w→∃ g' v' w',(execOp a.eval io).run P w=.ok (.value v') w'∧R c g' (s2.putB b X) a w'∧VR g' (Qn c g' (s2.putB b X)) w' V v') :
  AOk P c ops io s ⟨rt,rb,[d],[b]⟩ ((s.putB b X).put d V):=by
 refine ⟨fun i hi=>?_,fun j hj=>?_,fun s2 hT hH g a w hR K Q' hK=>Yl hg ?_⟩
 ·rw[FS.T_put,if_neg (fun e=>hi (by simp[e]))];rfl
 ·rw[FS.H_put,FS.H_putB,if_neg (fun e=>hj (by simp[e]))]
 ·obtain ⟨g',v',w',hr,hR',hv⟩:=core s2 hT hH g a w hR
  unfold Oper.wp
  rw[hr]
  show K (a.put io.dst v') w'
  rw[hdst]
  refine hK g' _ w' ?_
  rw[Xhs]
  exact hR'.put hd hv
theorem Xyl {s:FS} {b:Nat} {X:Bk} {rt rb:List Nat} (hg:io.guard=none) (hdst:io.dst=none)
  (core:∀ s2:FS,(∀ i ∈ rt,s2.T i=s.T i)→(∀ b ∈ rb,s2.H b=s.H b)→∀ g a w,R c g s2 a w→∃ g' w',(execOp a.eval io).run P w=.ok .skip w'∧R c g' (s2.putB b X) a w') :
  AOk P c ops io s ⟨rt,rb,[],[b]⟩ (s.putB b X):=by
 refine ⟨fun i hi=>rfl,fun j hj=>?_,fun s2 hT hH g a w hR K Q' hK=>Yl hg ?_⟩
 ·rw[FS.H_putB,if_neg (fun e=>hj (by simp[e]))]
 ·obtain ⟨g',w',hr,hR'⟩:=core s2 hT hH g a w hR
  unfold Oper.wp
  rw[hr]
  show K (a.put io.dst undef) w'
  rw[hdst]
  refine hK g' _ w' ?_
  rw[Qfk]
  exact hR'
def Qcc (s:FS) (wide:Bool) (ks:List SK) (vs:List AV):Prop:=Xcy vs∧Qmz (s.H (mpB vs))∧Kg wide ks (Qci vs)∧Qh5 wide ks (kvB (s.H (mpB vs)))
noncomputable def Qon (s:FS) (z:AV) (ok:Bool) (vs:List AV):AV:=bif ok then .tup [Qem (kvB (s.H (mpB vs))) (Qci vs) z,.bool (Qom (kvB (s.H (mpB vs))) (Qci vs))] else Qem (kvB (s.H (mpB vs))) (Qci vs) z
def Qas (s:FS) (gl:Nat→AV) (xs:List TV) (wt:List Nat) (wr:Bool):Foot:=⟨Xj xs,[mpB ((evs gl s xs).map Qj)],wt,bif wr then [mpB ((evs gl s xs).map Qj)] else []⟩
theorem Qma {s:St} {d:Nat} {t:TypeId} {ok:Bool} {xs:List TV} {wide:Bool} {ks:List SK} {z:AV} (hT:MapT P t wide ks z) (hc:Qt none (evs c.gl s.fs xs)) (hok:Qcc s.fs wide ks ((evs c.gl s.fs xs).map Qj)) :
  Kj P c (.pd (some d) (.lkp t ok) xs none) s.fs (Qas s.fs c.gl xs [d] false) (s.put d (Qon s.fs z ok ((evs c.gl s.fs xs).map Qj))).fs:=by
 intro ops io he
 obtain ⟨hgd,hdst,hd,ys,hel,rfl⟩:=Zd he
 obtain ⟨m,k,hop,rfl⟩:=Xr5 hel
 have hv2:(evs c.gl s.fs ([m,k].map tvO)).map Qj=[Qj (evT c.gl s.fs (tvO m)),Qj (evT c.gl s.fs (tvO k))]:=rfl
 unfold Qas
 rw[hv2]at hok ⊢
 generalize hvm:Qj (evT c.gl s.fs (tvO m))=vm at *
 generalize hvk:Qj (evT c.gl s.fs (tvO k))=vk at *
 obtain ⟨h1,h2,h3,h4⟩:=hok
 obtain ⟨b,r,hb⟩:=Qou h1
 injection hb with hb1 hb2
 subst hb1
 obtain ⟨kvs,dn,hH0⟩:=Qji h2
 simp only[Qon,mpB,Qci,cond_false]at h3 h4 hH0 ⊢
 rw[hH0]at h4 ⊢
 simp only[kvB]at h4 ⊢
 rw[St.fs_put]
 refine Xxx (Jl hgd) hdst (by simpa using hd) fun s2 hT2 hH2 g a w hR=>?_
 have hevs:evs c.gl s2 ([m,k].map tvO)=evs c.gl s.fs ([m,k].map tvO):=Ye hT2
 have hvs:=Yh (hR.evs [m,k]) (by rw[hevs];exact hc)
 rw[hevs,hv2]at hvs
 obtain ⟨v1,v2,_⟩:=hvs
 obtain ⟨r0,hr,hv⟩:=Xvk hR hT (b:=b) (kvs:=kvs) (dn:=dn) (by rw[hH2 b Zsi,hH0]) v1 v2 h3 h4 ok
 refine ⟨r0,?_,hv⟩
 unfold execOp
 simp only[hop]
 exact Zg hr
theorem Qa3 {r0:List TOp} {K:St→Prop} {s:St} {d:Nat} {t:TypeId} {ok:Bool} {xs:List TV} {wide:Bool} {ks:List SK} {z:AV} (hT:MapT P t wide ks z) (h:Qt none (evs c.gl s.fs xs)∧Qcc s.fs wide ks ((evs c.gl s.fs xs).map Qj)∧XP P c r0 K (s.put d (Qon s.fs z ok ((evs c.gl s.fs xs).map Qj)))) :
  Yc P c (.pd (some d) (.lkp t ok) xs none) r0 K s:=.inl ⟨_,_,Qma hT h.1 h.2.1,h.2.2⟩
theorem Ub {anc:List Nat} {fs:List Foot} {r0:List TOp} {K:St→Prop} {s:St} {d:Nat} {t:TypeId} {ok:Bool} {xs:List TV} {wide:Bool} {ks:List SK} {z:AV} (hT:MapT P t wide ks z) (h:Qt none (evs c.gl s.fs xs)∧Qcc s.fs wide ks ((evs c.gl s.fs xs).map Qj)∧XD P c anc r0 (Qas s.fs c.gl xs [d] false::fs) K (s.put d (Qon s.fs z ok ((evs c.gl s.fs xs).map Qj)))) :
  Za P c anc (.pd (some d) (.lkp t ok) xs none) r0 fs K s:=⟨_,_,Qma hT h.1 h.2.1,h.2.2⟩
def Qtl (s:FS) (vs:List AV) (kvs:List (AV × AV)):Bk:=.mapb kvs (dnB (s.H (mpB vs)))
theorem Qsi {s:St} {t:TypeId} {xs:List TV} {wide:Bool} {ks:List SK} {z:AV} (hT:MapT P t wide ks z) (hc:Qt none (evs c.gl s.fs xs)) (hok:Qcc s.fs wide ks ((evs c.gl s.fs xs).map Qj)) :
  Kj P c (.pd none (.upd t) xs none) s.fs (Qas s.fs c.gl xs [] true) (s.putB (mpB ((evs c.gl s.fs xs).map Qj)) (Qtl s.fs ((evs c.gl s.fs xs).map Qj) (Qel (kvB (s.fs.H (mpB ((evs c.gl s.fs xs).map Qj)))) (Qci ((evs c.gl s.fs xs).map Qj)) (Qp1 ((evs c.gl s.fs xs).map Qj))))).fs:=by
 intro ops io he
 obtain ⟨hgd,hdst,hd,ys,hel,rfl⟩:=Zd he
 obtain ⟨m,k,v,hop,rfl⟩:=Xrg hel
 have hv2:(evs c.gl s.fs ([m,k,v].map tvO)).map Qj=[Qj (evT c.gl s.fs (tvO m)),Qj (evT c.gl s.fs (tvO k)),Qj (evT c.gl s.fs (tvO v))]:=rfl
 unfold Qas
 rw[hv2]at hok ⊢
 generalize hvm:Qj (evT c.gl s.fs (tvO m))=vm at *
 generalize hvk:Qj (evT c.gl s.fs (tvO k))=vk at *
 generalize hvv:Qj (evT c.gl s.fs (tvO v))=vv at *
 obtain ⟨h1,h2,h3,h4⟩:=hok
 obtain ⟨b,r,hb⟩:=Qou h1
 injection hb with hb1 hb2
 subst hb1
 obtain ⟨kvs,dn,hH0⟩:=Qji h2
 simp only[Qtl,mpB,Qci,Qp1,cond_true]at h3 h4 hH0 ⊢
 rw[hH0]at h4 ⊢
 simp only[kvB,dnB]at h4 ⊢
 rw[St.fs_putB]
 refine Xyl (Jl hgd) hdst fun s2 hT2 hH2 g a w hR=>?_
 have hevs:evs c.gl s2 ([m,k,v].map tvO)=evs c.gl s.fs ([m,k,v].map tvO):=Ye hT2
 have hvs:=Yh (hR.evs [m,k,v]) (by rw[hevs];exact hc)
 rw[hevs,hv2]at hvs
 obtain ⟨v1,v2,v3,_⟩:=hvs
 obtain ⟨w',hr,hR'⟩:=Xw2 hR hT (b:=b) (kvs:=kvs) (dn:=dn) (by rw[hH2 b Zsi,hH0]) v1 v2 v3 h3 h4
 refine ⟨g,w',?_,hR'⟩
 unfold execOp
 simp only[hop,Sem.run_bind,hr,Result.andThen_ok,Sem.run_pure]
theorem Qja {r0:List TOp} {K:St→Prop} {s:St} {t:TypeId} {xs:List TV} {wide:Bool} {ks:List SK} {z:AV} (hT:MapT P t wide ks z) (h:Qt none (evs c.gl s.fs xs)∧Qcc s.fs wide ks ((evs c.gl s.fs xs).map Qj)∧XP P c r0 K (s.putB (mpB ((evs c.gl s.fs xs).map Qj)) (Qtl s.fs ((evs c.gl s.fs xs).map Qj) (Qel (kvB (s.fs.H (mpB ((evs c.gl s.fs xs).map Qj)))) (Qci ((evs c.gl s.fs xs).map Qj)) (Qp1 ((evs c.gl s.fs xs).map Qj)))))) :
  Yc P c (.pd none (.upd t) xs none) r0 K s:=.inl ⟨_,_,Qsi hT h.1 h.2.1,h.2.2⟩
theorem Qh8 {anc:List Nat} {fs:List Foot} {r0:List TOp} {K:St→Prop} {s:St} {t:TypeId} {xs:List TV} {wide:Bool} {ks:List SK} {z:AV} (hT:MapT P t wide ks z) (h:Qt none (evs c.gl s.fs xs)∧Qcc s.fs wide ks ((evs c.gl s.fs xs).map Qj)∧XD P c anc r0 (Qas s.fs c.gl xs [] true::fs) K (s.putB (mpB ((evs c.gl s.fs xs).map Qj)) (Qtl s.fs ((evs c.gl s.fs xs).map Qj) (Qel (kvB (s.fs.H (mpB ((evs c.gl s.fs xs).map Qj)))) (Qci ((evs c.gl s.fs xs).map Qj)) (Qp1 ((evs c.gl s.fs xs).map Qj)))))) :
  Za P c anc (.pd none (.upd t) xs none) r0 fs K s:=⟨_,_,Qsi hT h.1 h.2.1,h.2.2⟩
def Yap (s:FS) (wide:Bool) (ks:List SK) (vs:List AV):Prop:=Qcc s wide ks vs∧dnB (s.H (mpB vs))=true
noncomputable def Yb4 (s:FS) (z:AV) (vs:List AV):AV:=.tup [Qem (kvB (s.H (mpB vs))) (Qci vs) z,.int .i64 (ixA (kvB (s.H (mpB vs))) (Qci vs))]
noncomputable def Ybg (s:FS) (z:AV) (vs:List AV):Bk:=.mapb (Yb7 (kvB (s.H (mpB vs))) (Qci vs) z) true
theorem VR.noBlk {g:Nat→GM} {s:FS} {b:Nat} {X:Bk} {w w':World} {x:AV} {v:Value} (h:VR g (Qn c g s) w x v) (hb:(s.H b).live) (hX:X.live) (hf:Fr w w' (fun i=>g b=.re i)):VR g (Qn c g (s.putB b X)) w' x v :=
 h.mono (hf.weak fun i hi=>.inr ⟨b,hb,hi⟩) (fun k _ hk=>by
  rcases hk with h|⟨b',h1,h2⟩
  ·exact .inl h
  ·rw[FS.H_putB]at h1
   split at h1
   ·rename_i e;subst e;exact .inr ⟨_,hb,h2⟩
   ·exact .inr ⟨b',h1,h2⟩) (fun _ _=>rfl)
def Ya2 (s:FS) (vs:List AV):Prop:=Xcy vs∧Qmz (s.H (mpB vs))∧dnB (s.H (mpB vs))=true∧Xt9 vs∧0≤Qsq vs∧Qsq vs < (kvB (s.H (mpB vs))).length
def Yb8 (s:FS) (vs:List AV):Bk:=.mapb ((kvB (s.H (mpB vs))).set (Qsq vs).toNat (((kvB (s.H (mpB vs))).getD (Qsq vs).toNat (.any,.any)).1,Qp1 vs)) true
theorem Xqh {s:St} {d:Nat} {t:TypeId} {wide:Bool} {ks:List SK} {z:AV} (hT:MapT P t wide ks z) (hf:s.fs.H s.n=.free):Kj P c (.pd (some d) (.mkm t) [] none) s.fs ⟨[],[s.n],[d],[s.n]⟩ ((s.nw (.mapb [] true)).put d (.mp s.n)).fs:=by
 intro ops io he
 obtain ⟨hgd,hdst,hd,ys,hel,hys⟩:=Zd he
 obtain ⟨r,hop,hr,rfl⟩:=Xoj hel
 obtain ⟨kt,et,zv,hu,_,_,_⟩:=hT.of
 rw[St.fs_put,St.fs_nw]
 refine Xy4 (Jl hgd) hdst (by simpa using hd) fun s2 hT2 hH2 g a w hR=>?_
 have hfree:s2.H s.n=.free:=by rw[hH2 _ Zsi];exact hf
 have hnew:=heap_alloc_new w (.map #[] 0)
 have hrun:(execOp a.eval io).run P w=.ok (.value (.map (some w.heap.size))) (w.alloc (.map #[] 0)):=by
  rcases hr with rfl|⟨k,n,rfl⟩
  ·simp[execOp,hop,Instr.makeMap,newObj,Sem.run]
  ·simp[execOp,hop,Instr.makeMap,newObj,Sem.run_bind,run_underlying hu,asInt,asIntOf,Act.eval];simp[Sem.run]
 refine ⟨_,_,_,hrun,hR.new (.map #[] 0) hfree trivial fun g' hg'=>?_,.mp (by simp[Yu])⟩
 exact .mapb hnew rfl (fun j hj=>by simp at hj) (fun j hj=>by simp at hj) (fun j hj=>by simp at hj) (fun i j _ hj=>by simp at hj) (fun _=>⟨fun j hj=>by simp at hj,rfl⟩)
theorem Xgs {r0:List TOp} {K:St→Prop} {s:St} {d:Nat} {t:TypeId} {wide:Bool} {ks:List SK} {z:AV} (hT:MapT P t wide ks z) (h:s.fs.H s.n=.free∧XP P c r0 K ((s.nw (.mapb [] true)).put d (.mp s.n))) :
  Yc P c (.pd (some d) (.mkm t) [] none) r0 K s:=.inl ⟨_,_,Xqh hT h.1,h.2⟩
attribute [go_sem] Qcc Qon Qas Qtl Yap Yb4 Ybg Ya2 Yb8
end
mutual
def nmP (S:Nat→Prop):AV→Prop
 | .cnd _ v=>nmP S v
 | .agg cs=>nmPs S cs
 | .tup cs=>nmPs S cs
 | .xp cs _=>nmPs S cs
 | .isl _ cs=>nmPs S cs
 | .cl _ cs=>nmPs S cs
 | .ptr b _=>S b
 | .sl _ b _ _ _=>S b
 | .mp b=>S b
 | _=>True
def nmPs (S:Nat→Prop):List AV→Prop
 | []=>True
 | x::xs=>nmP S x∧nmPs S xs
end
theorem Qfu {S:Nat→Prop}:∀ {cs:List AV},nmPs S cs ↔ ∀ x ∈ cs,nmP S x
 | []=>by simp[nmPs]
 | x::xs=>by simp[nmPs,Qfu (cs:=xs)]
theorem Qe3 {S:Nat→Prop} {cs:List AV} (h:nmPs S cs) (j:Nat):nmP S (cs.getD j .any):=by
 by_cases hj:j < cs.length
 ·rw[Qhd hj];exact Qfu.1 h _ (List.getElem_mem _)
 ·have:cs.getD j .any=.any:=by simp[List.getD,Nat.le_of_not_lt hj]
  rw[this];simp[nmP]
def Qd7 (S:Nat→Prop):Bk→Prop
 | .cells cs=>nmPs S cs
 | .mapb kvs _=>∀ p ∈ kvs,nmP S p.1∧nmP S p.2
 | .mapx kvs _ _=>∀ p ∈ kvs,nmP S p.1∧nmP S p.2
 | .iter b _ _=>S b
 | .bag ls=>∀ l ∈ ls,nmAll 0 l
 | _=>True
section
variable {S:Nat→Prop} {W W':Nat→Prop} {w w':World} {g g':Nat→GM}
theorem VR.only (hg:∀ b,S b→g b≠.un→g b=g' b) {v:AV} {u:Value} (h:VR g W w v u):nmP S v→VR g' W w v u:=by
 induction h with
 | any v=>intro _;exact .any _
 | cnd h h0 ih=>intro hn;simp only[nmP]at hn;exact .cnd (fun hb=>ih hb hn) h0
 | int k n=>intro _;exact .int _ _
 | bool b=>intro _;exact .bool _
 | str l=>intro _;exact .str _
 | agg hs h1 h ih=>intro hn;simp only[nmP]at hn;exact .agg hs h1 fun j hj=>ih j hj (Qe3 hn j)
 | tup hs h ih=>intro hn;simp only[nmP]at hn;exact .tup hs fun j hj=>ih j hj (Qe3 hn j)
 | ptr e=>intro hn;simp only[nmP]at hn;exact .ptr (by rw[← hg _ hn (by rw[e];intro x;cases x)];exact e)
 | xp hc h ih=>intro hn;simp only[nmP]at hn;exact .xp hc fun j hj=>ih j hj (Qe3 hn j)
 | sl e a b c d f=>intro hn;simp only[nmP]at hn;exact .sl (by rw[← hg _ hn (by rw[e];intro x;cases x)];exact e) a b c d f
 | slp e hc=>intro hn;simp only[nmP]at hn;exact .slp (by rw[← hg _ hn (by rw[e];intro x;cases x)];exact e) hc
 | isl a b hc h ih=>intro hn;simp only[nmP]at hn;exact .isl a b hc fun j hj=>ih j hj (Qe3 hn j)
 | nils a=>intro _;exact .nils _
 | cl hs h ih=>intro hn;simp only[nmP]at hn;exact .cl hs fun j hj=>ih j hj (Qe3 hn j)
 | mp e=>intro hn;simp only[nmP]at hn;exact .mp (by rw[← hg _ hn (by rw[e];intro x;cases x)];exact e)
 | lit v=>intro _;exact .lit _
theorem BR.only (hg:∀ b,S b→g b≠.un→g b=g' b) {m:GM} {x:Bk} (h:BR g W w m x) (hn:Qd7 S x):BR g' W w m x:=by
 cases h with
 | free=>exact .free
 | dead h=>exact .dead h
 | ph=>exact .ph
 | cells hb hl h1 hv hz=>exact .cells hb hl h1 (fun j hj=>(hv j hj).only hg (Qe3 hn j)) hz
 | mapb hb hs hkk hv hc ha hd =>
  rename_i k kvs dn es clock
  have hmem:∀ j,j < kvs.length→kvs.getD j (.any,.any) ∈ kvs:=fun j hj=>by simp[List.getD,hj]
  exact .mapb hb hs (fun j hj=>(hkk j hj).only hg (hn _ (hmem j hj)).1) (fun j hj=>(hv j hj).only hg (hn _ (hmem j hj)).2) hc ha hd
 | mapx hb hs hkk hv hc ha hd =>
  rename_i k kvs bs es clock
  have hmem:∀ j,j < kvs.length→kvs.getD j (.any,.any) ∈ kvs:=fun j hj=>by simp[List.getD,hj]
  exact .mapx hb hs (fun j hj=>(hkk j hj).only hg (hn _ (hmem j hj)).1) (fun j hj=>(hv j hj).only hg (hn _ (hmem j hj)).2) hc ha hd
 | iter hb hg0=>exact .iter hb (by rw[← hg _ hn (by rw[hg0];intro x;cases x)];exact hg0)
 | bag hp h=>exact BR.bag_any (.bag hp h) hn fun _ h=>h
end
def To (p:List Nat) (s s':St):Prop:=∀ (c:Cx) (g:Nat→GM) (a:Act) (w:World),(∀ q ∈ c.gh,q.1 ∈ p)→R c g s.fs a w→∃ g',R c g' s'.fs a w
theorem To.refl (p:List Nat) (s:St):To p s s:=fun c g a w _ hR=>⟨g,hR⟩
theorem To.trans {p:List Nat} {s s' s2:St} (h:To p s s') (k:To p s' s2):To p s s2:=fun c g a w hp hR=>by
 obtain ⟨g1,h1⟩:=h c g a w hp hR
 exact k c g1 a w hp h1
theorem To.subF {p:List Nat} {s s':St} {ρ:Nat→Nat} (hp:∀ b,b ∈ p→ρ b=b∧b < s'.n) (h:Sub ρ s s'):To p s s':=fun c g a w hg hR=>h.to hR fun q hq=>hp _ (hg q hq)
section
variable {P:Program} {c:Cx}
theorem Qez {p:List Nat} {o:TOp} {r0:List TOp} {K:St→Prop} {s s':St} (hgh:∀ q ∈ c.gh,q.1 ∈ p) (h:To p s s') (k:Yc P c o r0 K s'):Yc P c o r0 K s:=by
 refine .inr fun ops io he g a w hR K' Q' hK=>?_
 obtain ⟨g',hR'⟩:=h c g a w hgh hR
 rcases k with ⟨F,s2,hA,hr⟩|hS
 ·have hA':=hA ops io he
  refine hA'.step s'.fs (fun _ _=>rfl) (fun _ _=>rfl) g' a w hR' K' Q' fun g2 a' w' hR2=>?_
  rw[Qfj hA'.outT hA'.outH]at hR2
  exact hK g2 s2 a' w' hr hR2
 ·exact hS ops io he g' a w hR' K' Q' hK
def Qmd {σ:Type} (p:List Nat) (I:σ→Prop) (emb:σ→St) (μ:σ→Nat) (x:σ) (Q:EX→St→Prop):EX→St→Prop
 | .normal,s=>∃ y,I y∧To p s (emb y)∧μ y < μ x
 | e,s=>Q e s
theorem Yj {σ:Type} (I:σ→Prop) (emb:σ→St) (μ:σ→Nat) {b:TC} {Q:EX→St→Prop} {s:St} (hm:P.follows .mixedOrders=true) (p:List Nat) (hgh:∀ q ∈ c.gh,q.1 ∈ p) (h0:∃ y,I y∧To p s (emb y))
  (hr:∀ x,I x→xw P c b (Qmd p I emb μ x Q) (emb x)):Qc3 P c b Q s:=by
 intro code he g a w hR
 obtain ⟨y0,hy0,hs0⟩:=h0
 obtain ⟨g0,hR0⟩:=hs0 c g a w hgh hR
 have key:∀ n (x:σ),μ x=n→I x→∀ g a w,R c g (emb x).fs a w→∀ (fr:Frame) (k:List Item) (cs:List Frame),∃ e a' w',Xf5 c Q e a' w'∧Arrives P (lone (fr.at a (.code code::.inLoop code::k)) cs w) fr k cs e a' w':=by
  intro n
  induction n using Nat.strongRecOn with
  | _ n ih =>
   intro x hx hI g a w hR fr k cs
   have hb:=Qcn hm code b _ _ he (hr x hI) g a w hR
   obtain ⟨e,a1,w1,hq,harr⟩:=hb fr (.inLoop code::k) cs
   cases e with
   | normal =>
    obtain ⟨g1,s1,hR1,y,hIy,hs,hlt⟩:=hq
    obtain ⟨g2,hR2⟩:=hs c g1 a1 w1 hgh hR1
    obtain ⟨e2,a2,w2,hq2,harr2⟩:=ih (μ y) Zom y rfl hIy g2 a1 w1 hR2 fr k cs
    exact ⟨e2,a2,w2,hq2,.of_steps (Steps.trans harr (.one step_inLoop)) harr2⟩
   | exit i=>exact ⟨.exit i,a1,w1,hq,.pass (x:=.inLoop code) rfl (fun _ _=>.inl Zsi) harr⟩
   | ret=>exact ⟨.ret,a1,w1,hq,.pass (x:=.inLoop code) rfl (fun _ _=>.inl Zsi) harr⟩
   | goto l=>exact hq.elim
   | panic ch=>exact hq.elim
   | outgrown=>exact hq.elim
 intro fr k cs
 obtain ⟨e,a',w',hq,harr⟩:=key _ y0 rfl hy0 g0 a w hR0 fr k cs
 exact ⟨e,a',w',hq,.of_steps (.one step_loop) harr⟩
def GQ (P:Program) (gl:Nat→AV) (f:FuncId) (args:List AV) (hin:List (Nat × Bk)) (m:Nat) (p:List Nat) {ι:Type} (Q:ι→Prop) (r:ι→AV) (hout:ι→List (Nat × Bk)):Prop :=
 Qdr P f∧∀ (w:World) (vs:List Value) (G X:Nat→Prop) (g:Nat→GM),R ⟨0,w,G,X,gl,[]⟩ g (Hst hin m) ⟨#[],[]⟩ w→VRs g (Qn ⟨0,w,G,X,gl,[]⟩ g (Hst hin m)) w args vs →
  Calls P f vs.toArray w fun e w'=>∃ x v g',Q x∧e=.returned v∧R ⟨0,w,G,X,gl,[]⟩ g' (Hst (hout x) m) ⟨#[],[]⟩ w'∧(∀ b,b ∈ p→g' b=g b)∧VR g' (Qn ⟨0,w,G,X,gl,[]⟩ g' (Hst (hout x) m)) w' (r x) v
def Xc2 (m:Nat) (p:List Nat) (rs:List RS) {ι:Type} (Q:ι→Prop) (r:ι→AV) (hout:ι→List (Nat × Bk)):EX→St→Prop
 | .exit _,_=>False
 | _,s=>Wd s.fs rs∧∃ x,Q x∧To p ⟨[(0,rvs s.fs rs)],s.h,s.n⟩ ⟨[(0,r x)],hout x,m⟩
theorem Xr1 {gl : Nat → AV} {f : FuncId} {fn : Func} {code : Code} {t : TC} {rs : List RS} {args : List AV} {hin : List (Nat × Bk)} {m : Nat} {p : List Nat} {ι : Type} {Q : ι → Prop} {r : ι → AV} {hout : ι → List (Nat × Bk)} (hm : P.follows .mixedOrders = true) (hf : P.funcs[f]? = some fn) (hb : fn.body = some code) (hname : (fn.name == "runtime.NumGoroutine") = false)
  (he:Zz P fn.ntmps code=some t) (hr:Qbn P fn.results.toList=some rs) (hN:args.length≤fn.ntmps) (hlive:∀ q ∈ hin,q.2.live) (hpm:∀ b ∈ p,b < m)
  (h:∀ c:Cx,(∀ q ∈ c.gh,q.1 ∈ p)→c.gl=gl→xw P c t (Xc2 m p rs Q r hout) ⟨Qaf 0 args,hin,m⟩):GQ P gl f args hin m p Q r hout:=by
 refine ⟨⟨fn,hf,by rw[hb];rfl,hname⟩,fun w vs G X g hR0 hv=>?_⟩
 refine calls_of_wp hf hb ?_
 have hun:∀ b,b < m→g b≠.un:=fun b hbm e=>by
  have:=hR0.h b
  rw[e]at this
  have hh:(Hst hin m).H b=Qb hin m b:=rfl
  rw[hh]at this
  rcases Zs hin m b with q|⟨q0,hp,_,q⟩
  ·rw[q,if_pos hbm]at this;cases this;rename_i h;exact h rfl
  ·rw[q]at this
   have hl:=hlive q0 hp
   cases hx:q0.2 with
   | free=>rw[hx]at hl;exact hl.elim
   | dead=>rw[hx]at hl;exact hl.elim
   | cells cs=>rw[hx]at this;cases this
   | mapb kvs dn=>rw[hx]at this;cases this
   | mapx kvs bs ck=>rw[hx]at this;cases this
   | iter b0 ck seen=>rw[hx]at this;cases this
   | bag ls=>rw[hx]at this;cases this with|bag _ h=>cases h
 have hpin:∀ q ∈ p.map (fun b=>(b,g b)),g q.1=q.2∧q.2≠.un:=fun q hp=>by
  obtain ⟨b,hbm,rfl⟩:=List.mem_map.1 hp
  exact ⟨rfl,hun b (hpm b hbm)⟩
 have hgh:∀ q ∈ p.map (fun b=>(b,g b)),q.1 ∈ p:=fun q hp=>by
  obtain ⟨b,hbm,rfl⟩:=List.mem_map.1 hp
  exact hbm
 have hR:=Qm2 (N:=fn.ntmps) hN hR0 hv hpin
 have:=Qcn (c:=⟨fn.ntmps,w,G,X,gl,p.map (fun b=>(b,g b))⟩) hm code t _ _ he (h _ hgh rfl) _ _ _ hR
 refine wp_mono this fun e a' w' hq=>?_
 have fin:∀ (g1:Nat→GM) (s:St),R ⟨fn.ntmps,w,G,X,gl,p.map (fun b=>(b,g b))⟩ g1 s.fs a' w'→(Wd s.fs rs∧∃ x,Q x∧To p ⟨[(0,rvs s.fs rs)],s.h,s.n⟩ ⟨[(0,r x)],hout x,m⟩) →
   a'.defers=[]∧∃ v,(results fn a'.tmps).run P w'=.ok v w'∧(∃ x v_1 g',Q x∧Ending.returned v=.returned v_1∧R ⟨0,w,G,X,gl,[]⟩ g' (Hst (hout x) m) ⟨#[],[]⟩ w'∧(∀ b,b ∈ p→g' b=g b)∧VR g' (Qn ⟨0,w,G,X,gl,[]⟩ g' (Hst (hout x) m)) w' (r x) v_1):=by
  intro g1 s hR' ⟨h1,x,hQ,h3⟩
  obtain ⟨v,h4,h5⟩:=Qe4 hR' hr h1
  refine ⟨hR'.def_,v,h4,x,v,?_⟩
  have hR1:R ⟨1,w,G,X,gl,p.map (fun b=>(b,g b))⟩ g1 (⟨[(0,rvs s.fs rs)],s.h,s.n⟩:St).fs ⟨#[v],[]⟩ w':=by
   refine ⟨rfl,rfl,fun i=>?_,hR'.gl,hR'.h,hR'.inj,hR'.old,hR'.fr,hR'.xs,hR'.pin⟩
   show VR g1 _ w' (look [(0,rvs s.fs rs)] i) _
   rw[Zt]
   split
   ·rename_i hi;subst hi;exact h5
   ·exact .any _
  obtain ⟨g2,hR2⟩:=h3 _ g1 _ _ hgh hR1
  refine ⟨g2,hQ,rfl,⟨rfl,rfl,fun i=>.any _,hR2.gl,hR2.h,hR2.inj,hR2.old,hR2.fr,hR2.xs,fun q hp=>by cases hp⟩,fun b hb=>?_,?_⟩
  ·exact (hR2.pin (b,g b) (List.mem_map.2 ⟨b,hb,rfl⟩)).1
  ·exact hR2.t 0
 cases e with
 | normal=>obtain ⟨g,s,hR',hq'⟩:=hq;exact fin g s hR' hq'
 | ret=>obtain ⟨g,s,hR',hq'⟩:=hq;exact fin g s hR' hq'
 | exit i=>obtain ⟨g,s,hR',hq'⟩:=hq;exact hq'.elim
 | goto l=>exact hq.elim
 | panic ch=>exact hq.elim
 | outgrown=>exact hq.elim
theorem FT.gq {P:Program} {gl:Nat→AV} {f:FuncId} {fn:Func} {t:TC} {rs:List RS} (hF:FT P f fn t rs) {args:List AV} {hin:List (Nat × Bk)} {m:Nat} {p:List Nat} {ι:Type} {Q:ι→Prop} {r:ι→AV} {hout:ι→List (Nat × Bk)} (hN:args.length≤fn.ntmps) (hlive:∀ q ∈ hin,q.2.live) (hpm:∀ b ∈ p,b < m)
  (h:∀ c:Cx,(∀ q ∈ c.gh,q.1 ∈ p)→c.gl=gl→xw P c t (Xc2 m p rs Q r hout) ⟨Qaf 0 args,hin,m⟩):GQ P gl f args hin m p Q r hout:=by
 have hc:=hF.code
 cases hb:fn.body with
 | none=>rw[hb]at hc;simp at hc
 | some code =>
  rw[hb]at hc
  exact Xr1 hF.mixed hF.func hb hF.name hc hF.res hN hlive hpm h
structure HL (h:List (Nat × Bk)) (m:Nat):Prop where
 mem:∀ q ∈ h,q.1 < m∧nmB m q.2
 cov:∀ b,b < m→∃ q ∈ h,q.1=b
 self:∀ q ∈ h,Qb h m q.1=q.2
theorem HL.live {h:List (Nat × Bk)} {m b:Nat} (H:HL h m) (hb:b < m) (n:Nat):Qb h n b=Qb h m b∧∃ q ∈ h,q.1=b∧Qb h m b=q.2:=by
 have key:∀ (l:List (Nat × Bk)),(∃ q ∈ l,q.1=b)→Qb l n b=Qb l m b∧∃ q ∈ l,q.1=b∧Qb l m b=q.2:=fun l=>by
  induction l with
  | nil=>rintro ⟨q,hq,_⟩;cases hq
  | cons p l ih =>
   obtain ⟨i,x⟩:=p
   rintro ⟨q,hq,e⟩
   rw[Qc,Qc]
   by_cases hi:i=b
   ·rw[if_pos hi,if_pos hi]
    exact ⟨rfl,(i,x),by simp,hi,rfl⟩
   ·rw[if_neg hi,if_neg hi]
    rcases List.mem_cons.1 hq with rfl|hq
    ·exact (hi e).elim
    ·obtain ⟨h1,q',h2,h3,h4⟩:=ih ⟨q,hq,e⟩
     exact ⟨h1,q',by simp[h2],h3,h4⟩
 exact key h (H.cov b hb)
def Qi5 (σ:Nat→Nat) (p:List Nat) (m:Nat) (j:Nat):Prop:=∀ b,b < m→σ b=j→b ∈ p
def Qal (σ:Nat→Nat) (m:Nat) (j:Nat):Prop:=∀ b,b < m→σ b≠j
theorem Xti {σ:Nat→Nat} {s s3:FS} {a:Act} {w w':World} {g g1 g2:Nat→GM} {h h':List (Nat × Bk)} {m:Nat} {p:List Nat} (hR:R c g s a w) (hinj:∀ b b',b < m→b' < m→σ b=σ b'→b=b') (hh:HL h m) (hh':HL h' m) (fit:∀ b,b < m→s.H (σ b)=Xf σ (Qb h m b))
  (hT:∀ i,nmP (Qi5 σ p m) (s.T i)) (hB:∀ j,Qal σ m j→Qd7 (Qi5 σ p m) (s.H j)) (hgh:∀ q ∈ c.gh,Qi5 σ p m q.1)
  (hg1:∀ b,b < m→g (σ b)≠.un→g (σ b)=g1 b) (hg2:∀ b,b ∈ p→g2 b=g1 b) (hR2:R (Qc8 c g s w σ h m) g2 (Hst h' m) ⟨#[],[]⟩ w')
  (e3T:∀ i,s3.T i=s.T i) (e3H:∀ b,b < m→s3.H (σ b)=Xf σ (Qb h' m b)) (e3O:∀ j,Qal σ m j→s3.H j=s.H j) :
  R c (Jk g g2 σ m) s3 a w'∧∀ {r:AV} {v:Value},Qe m r→VR g2 (Qn (Qc8 c g s w σ h m) g2 (Hst h' m)) w' r v→VR (Jk g g2 σ m) (Qn c (Jk g g2 σ m) s3) w' (ren σ r) v:=by
 have hlv:∀ b,b < m→(Qb h m b).live:=fun b hb=>by
  obtain ⟨_,q,hq,_,e⟩:=hh.live hb m
  rw[e];exact Xe (hh.mem q hq).2
 have hlv':∀ b,b < m→(Qb h' m b).live:=fun b hb=>by
  obtain ⟨_,q,hq,_,e⟩:=hh'.live hb m
  rw[e];exact Xe (hh'.mem q hq).2
 have hlvS:∀ b,b < m→(s.H (σ b)).live:=fun b hb=>by rw[fit b hb,Qcs];exact hlv b hb
 have named:∀ b,b < m→g (σ b)≠.un:=fun b hb e=>by
  have:=hR.h (σ b)
  rw[e]at this
  have hl:=hlvS b hb
  generalize s.H (σ b)=x at this hl
  exact this.ne_un hl
 have low:∀ b,(Qb h m b).live→b < m:=fun b hl=>by
  rcases Zs h m b with q|⟨q,hq,rfl,_⟩
  ·rw[q]at hl;split at hl<;>exact hl.elim
  ·exact (hh.mem q hq).1
 have low':∀ b,(Qb h' m b).live→b < m:=fun b hl=>by
  rcases Zs h' m b with q|⟨q,hq,rfl,_⟩
  ·rw[q]at hl;split at hl<;>exact hl.elim
  ·exact (hh'.mem q hq).1
 have gs:∀ b,b < m→Jk g g2 σ m (σ b)=g2 b:=fun b hbn=>by
  unfold Jk
  have hex:∃ b',b' < m∧σ b'=σ b:=⟨b,hbn,rfl⟩
  rw[dif_pos hex]
  rw[hinj _ _ hex.choose_spec.1 hbn hex.choose_spec.2]
 have go:∀ j,Qal σ m j→Jk g g2 σ m j=g j:=fun j h=>by
  unfold Jk
  rw[dif_neg]
  rintro ⟨b,h1,h2⟩;exact h b h1 h2
 have part:∀ j,(∃ b,b < m∧σ b=j)∨Qal σ m j:=fun j=>by
  by_cases e:∃ b,b < m∧σ b=j
  ·exact .inl e
  ·exact .inr fun b h1 h2=>e ⟨b,h1,h2⟩
 have gS:∀ j,Qi5 σ p m j→g j≠.un→g j=Jk g g2 σ m j:=fun j hj hne=>by
  rcases part j with ⟨b,hb,rfl⟩|hoff
  ·rw[gs b hb,hg2 b (hj b hb rfl)];exact hg1 b hb hne
  ·rw[go j hoff]
 have hf:Fr w w' (Qd8 g σ h m):=hR2.fr
 have hGW:∀ k,Qd8 g σ h m k→Qn c g s k:=fun k ⟨b,h1,h2⟩=>.inr ⟨σ b,hlvS b (low b h1),h2⟩
 have hfW:Fr w w' (Qn c g s):=hf.weak hGW
 have oth:∀ j k,Qal σ m j→(s.H j).live→g j=.re k→¬ Qd8 g σ h m k:=fun j k h1 h2 h3 ⟨b,q1,q2⟩ =>
  h1 b (low b q1) (hR.inj (σ b) j k (hlvS b (low b q1)) h2 q2 h3)
 have mem2:∀ b k,b < m→g2 b=.re k→w.heap.size≤k∨∃ b0,b0 < m∧g (σ b0)=.re k:=fun b k hb hk=>by
  rcases hR2.old b k (hlv' b hb) hk with h|⟨b0,q1,q2⟩
  ·exact .inl h
  ·exact .inr ⟨b0,low b0 q1,q2⟩
 have live3:∀ j,(s3.H j).live→(∃ b,b < m∧σ b=j)∨(Qal σ m j∧(s.H j).live):=fun j hl=>by
  rcases part j with h|h
  ·exact .inl h
  ·rw[e3O j h]at hl;exact .inr ⟨h,hl⟩
 have hW3:∀ k,k < w.heap.size→Qn c (Jk g g2 σ m) s3 k→Qn c g s k:=by
  rintro k hk (h|⟨j,h1,h2⟩)
  ·exact .inl h
  ·rcases live3 j h1 with ⟨b,hb,rfl⟩|⟨hj,hl⟩
   ·rw[gs b hb]at h2
    rcases mem2 b k hb h2 with h|⟨b0,q1,q2⟩
    ·omega
    ·exact .inr ⟨σ b0,hlvS b0 q1,q2⟩
   ·rw[go j hj]at h2;exact .inr ⟨j,hl,h2⟩
 have hW2:∀ k,Qn c (Jk g g2 σ m) s3 k→Qn (Qc8 c g s w σ h m) g2 (Hst h' m) k:=by
  rintro k (h|⟨j,h1,h2⟩)
  ·refine .inl ⟨.inl h,fun ⟨b,q1,q2⟩=>?_⟩
   obtain ⟨x1,x2⟩:=hR.xs k h
   rcases hR.old (σ b) k (hlvS b (low b q1)) q2 with h|h
   ·omega
   ·exact x2 h
  ·rcases live3 j h1 with ⟨b,hb,rfl⟩|⟨hj,hl⟩
   ·rw[gs b hb]at h2;exact .inr ⟨b,hlv' b hb,h2⟩
   ·rw[go j hj]at h2;exact .inl ⟨.inr ⟨j,hl,h2⟩,oth j k hj hl h2⟩
 refine ⟨⟨hR.size,hR.def_,fun i=>?_,fun i=>(hR.gl i).mono hfW hW3 (fun _ _=>rfl),fun j=>?_,fun j j' k h1 h2 e1 e2=>?_,fun j k h1 e1=>?_,hR.fr.trans hf fun k hk ⟨b,q1,q2⟩=>?_,hR.xs,fun q hq=>?_⟩,fun {r v} hn hv=>?_⟩
 ·rw[e3T];exact ((hR.t i).only gS (hT i)).mono hfW hW3 (fun _ _=>rfl)
 ·rcases part j with ⟨b,hb,rfl⟩|hj
  ·rw[gs b hb,e3H b hb]
   have hbr:=hR2.h b
   have e:(Hst h' m).H b=Qb h' m b:=rfl
   rw[e]at hbr
   obtain ⟨_,q,hq,_,eq⟩:=hh'.live hb m
   rw[eq]at hbr ⊢
   exact hbr.ren (n:=m) gs (hh'.mem q hq).2 hW2
  ·rw[go j hj,e3O j hj]
   refine ((hR.h j).only gS (hB j hj)).mono hfW hW3 (fun _ _=>rfl) fun k hk hl=>hf.keep k ?_ (oth j k hj hl hk)
   exact BR.lt (hk ▸ hR.h j) hl
 ·rcases live3 j h1 with ⟨b,hb,rfl⟩|⟨hj,hl⟩<;>rcases live3 j' h2 with ⟨b',hb',rfl⟩|⟨hj',hl'⟩
  ·rw[gs b hb]at e1;rw[gs b' hb']at e2
   rw[hR2.inj b b' k (hlv' b hb) (hlv' b' hb') e1 e2]
  ·rw[gs b hb]at e1;rw[go j' hj']at e2
   have hlt:=BR.lt (e2 ▸ hR.h j') hl'
   rcases mem2 b k hb e1 with h|⟨b0,q1,q2⟩
   ·omega
   ·exact (hj' b0 q1 (hR.inj (σ b0) j' k (hlvS b0 q1) hl' q2 e2)).elim
  ·rw[gs b' hb']at e2;rw[go j hj]at e1
   have hlt:=BR.lt (e1 ▸ hR.h j) hl
   rcases mem2 b' k hb' e2 with h|⟨b0,q1,q2⟩
   ·omega
   ·exact (hj b0 q1 (hR.inj (σ b0) j k (hlvS b0 q1) hl q2 e1)).elim
  ·rw[go j hj]at e1;rw[go j' hj']at e2
   exact hR.inj j j' k hl hl' e1 e2
 ·rcases live3 j h1 with ⟨b,hb,rfl⟩|⟨hj,hl⟩
  ·rw[gs b hb]at e1
   rcases mem2 b k hb e1 with h|⟨b0,q1,q2⟩
   ·have:=hR.fr.size;exact .inl Zom
   ·exact hR.old (σ b0) k (hlvS b0 q1) q2
  ·rw[go j hj]at e1;exact hR.old j k hl e1
 ·rcases hR.old (σ b) k (hlvS b (low b q1)) q2 with h|h
  ·omega
  ·exact h
 ·obtain ⟨q1,q2⟩:=hR.pin q hq
  refine ⟨?_,q2⟩
  have:=gS q.1 (hgh q hq) (by rw[q1];exact q2)
  rw[← this,q1]
 ·exact (hv.ren (ρ:=σ) (g:=Jk g g2 σ m) gs hn).mono (Fr.refl _ _) (fun k _=>hW2 k) (fun _ _=>rfl)
end
theorem Wz {x:Bk}:Xf id x=x:=by
 cases x with
 | cells cs=>simp only[Xf];rw[Yf];congr 1;exact (List.map_congr_left fun x _=>Qc0 id (fun _=>rfl) x).trans (List.map_id cs)
 | mapb kvs dn=>simp only[Xf];congr 1;exact (List.map_congr_left fun x _=>by rw[Qc0 id (fun _=>rfl),Qc0 id (fun _=>rfl)];rfl).trans (List.map_id kvs)
 | mapx kvs bs ck=>simp only[Xf];congr 1;exact (List.map_congr_left fun x _=>by rw[Qc0 id (fun _=>rfl),Qc0 id (fun _=>rfl)];rfl).trans (List.map_id kvs)
 | iter b0 ck seen=>rfl
 | bag ls=>rfl
 | free=>rfl
 | dead=>rfl
theorem Kd (l:List AV):rens id l=l:=by rw[Yf];exact (List.map_congr_left fun x _=>Qc0 id (fun _=>rfl) x).trans (List.map_id l)
def tPs (S:Nat→Prop):List (Nat × AV)→Prop
 | []=>True
 | q::l=>nmP S q.2∧tPs S l
theorem Qvy {S:Nat→Prop}:∀ {l:List (Nat × AV)},tPs S l→∀ i,nmP S (look l i)
 | [],_,i=>by simp[look,nmP]
 | (j,v)::l,h,i=>by
  rw[Zt]
  split
  ·exact h.1
  ·exact Qvy h.2 i
def Xd (σ:Nat→Nat) (h:List (Nat × Bk)):List (Nat × Bk):=h.map fun q=>(σ q.1,Xf σ q.2)
theorem Jn (h:List (Nat × Bk)):Xd id h=h:=by
 unfold Xd
 exact (List.map_congr_left fun q _=>by rw[Wz];rfl).trans (List.map_id h)
theorem Kz {σ:Nat→Nat} {m:Nat} (hinj:∀ b b',b < m→b' < m→σ b=σ b'→b=b') {n b:Nat} (hb:b < m):∀ {h:List (Nat × Bk)},(∀ q ∈ h,q.1 < m)→(∃ q ∈ h,q.1=b)→Qb (Xd σ h) n (σ b)=Xf σ (Qb h m b)
 | [],_,⟨q,hq,_⟩=>by cases hq
 | (i,x)::l,hm,⟨q,hq,e⟩=>by
  show Qb ((σ i,Xf σ x)::Xd σ l) n (σ b)=_
  rw[Qc,Qc]
  by_cases hi:i=b
  ·rw[if_pos hi,if_pos (by rw[hi])]
  ·rw[if_neg hi,if_neg fun e=>hi (hinj _ _ (hm (i,x) Zsi) hb e)]
   rcases List.mem_cons.1 hq with rfl|hq
   ·exact (hi e).elim
   ·exact Kz hinj hb (fun q hq=>hm q (by simp[hq])) ⟨q,hq,e⟩
theorem Wb {σ:Nat→Nat} {m n j:Nat} (hj:Qal σ m j):∀ {h:List (Nat × Bk)},(∀ q ∈ h,q.1 < m)→Qb (Xd σ h) n j=if j < n then .dead else .free
 | [],_=>rfl
 | (i,x)::l,hm=>by
  show Qb ((σ i,Xf σ x)::Xd σ l) n j=_
  rw[Qc,if_neg (hj i (hm (i,x) Zsi))]
  exact Wb hj fun q hq=>hm q (by simp[hq])
theorem Xn {n j:Nat} {h:List (Nat × Bk)}:∀ {ex:List (Nat × Bk)},(∀ q ∈ ex,q.1≠j)→Qb (ex++h) n j=Qb h n j
 | [],_=>rfl
 | (i,x)::l,hm=>by
  rw[List.cons_append,Qc,if_neg (hm (i,x) Zsi)]
  exact Xn fun q hq=>hm q (by simp[hq])
theorem Qeh {n j:Nat} {h h':List (Nat × Bk)} (e:Qb h n j=Qb h' n j):∀ {ex:List (Nat × Bk)},Qb (ex++h) n j=Qb (ex++h') n j
 | []=>e
 | (i,x)::l=>by
  rw[List.cons_append,List.cons_append,Qc,Qc,Qeh e]
def Yb5 (σ:Nat→Nat) (p:List Nat) (m:Nat) (ex:List (Nat × Bk)):Prop:=∀ q ∈ ex,Qal σ m q.1∧Qd7 (Qi5 σ p m) q.2
def Uz (v:Bool) (f:FuncId) (l:List AV):Option (FuncId × List AV):=bif v then Qeq l else some (f,l)
structure GqOk (gl:Nat→AV) (s:St) (xs:List TV) (v:Bool) (f:FuncId) (args:List AV) (σ:Nat→Nat) (p pc:List Nat) (m:Nat) (t:List (Nat × AV)) (ex hin:List (Nat × Bk)) (n:Nat):Prop where
 to:To pc s ⟨t,ex++Xd σ hin,n⟩
 inj:∀ b b',b < m→b' < m→σ b=σ b'→b=b'
 hl:HL hin m
 pc:∀ b ∈ pc,Qi5 σ p m b
 hex:Yb5 σ p m ex
 ht:tPs (Qi5 σ p m) t
 cok:Qt none (evs gl (⟨t,ex++Xd σ hin,n⟩:St).fs xs)
 hargs:Uz v f ((evs gl (⟨t,ex++Xd σ hin,n⟩:St).fs xs).map Qj)=some (f,rens σ args)
 nm:nmAll m args
section
variable {P:Program} {c:Cx}
theorem Xwi {v:Bool} {s:St} {f:FuncId} {xs:List TV} {args:List AV} {hin:List (Nat × Bk)} {σ:Nat→Nat} {m n:Nat} {p pc:List Nat} {ι:Type} {Q:ι→Prop} {r:ι→AV} {hout:ι→List (Nat × Bk)} {t:List (Nat × AV)} {ex:List (Nat × Bk)} (hq:GQ P c.gl f args hin m p Q r hout)
  (hgh:∀ q ∈ c.gh,q.1 ∈ pc) (ok:GqOk c.gl s xs v f args σ p pc m t ex hin n) (hHL':∀ x,Q x→HL (hout x) m) (hr:∀ x,Q x→Qe m (r x)) {g0:Nat→GM} {a:Act} {w:World} (hR0:R c g0 s.fs a w) :
  ∃ g,R c g (⟨t,ex++Xd σ hin,n⟩:St).fs a w∧∀ vs,VRs g (Qn c g (⟨t,ex++Xd σ hin,n⟩:St).fs) w (rens σ args) vs→Calls P f vs.toArray w fun e w'=>∃ x v g3,Q x∧e=.returned v∧R c g3 (⟨t,ex++Xd σ (hout x),n⟩:St).fs a w'∧VR g3 (Qn c g3 (⟨t,ex++Xd σ (hout x),n⟩:St).fs) w' (ren σ (r x)) v:=by
 obtain ⟨g,hR⟩:=ok.to c g0 a w hgh hR0
 refine ⟨g,hR,fun vs hv=>?_⟩
 have offE:∀ b,b < m→∀ q ∈ ex,q.1≠σ b:=fun b hb q hq e=>(ok.hex q hq).1 b hb e.symm
 have fit:∀ b,b < m→(⟨t,ex++Xd σ hin,n⟩:St).fs.H (σ b)=Xf σ (Qb hin m b):=fun b hb=>by
  show Qb (ex++Xd σ hin) n (σ b)=_
  rw[Xn (offE b hb)];exact Kz ok.inj hb (fun q hq=>(ok.hl.mem q hq).1) (ok.hl.cov b hb)
 have fitI:Fit σ (⟨t,ex++Xd σ hin,n⟩:St).fs hin m:=by
  refine ⟨fun q hq=>⟨(ok.hl.mem q hq).1,(ok.hl.mem q hq).2,?_⟩,fun q hq q' hq' e=>ok.inj _ _ (ok.hl.mem q hq).1 (ok.hl.mem q' hq').1 e⟩
  rw[fit q.1 (ok.hl.mem q hq).1,ok.hl.self q hq]
 obtain ⟨g1,hg1,hRl,hWl⟩:=Xen hR fitI
 have hv1:=Qeg (σ:=σ) (g1:=g1) hg1 hWl ok.nm hv
 refine (hq.2 w _ _ _ g1 hRl hv1).mono fun e w' ⟨x,v,g2,hQ,e1,e2,e3,e4⟩=>?_
 have hXB:∀ j,Qal σ m j→Qd7 (Qi5 σ p m) ((⟨t,ex++Xd σ hin,n⟩:St).fs.H j):=fun j hj=>by
  show Qd7 _ (Qb (ex++Xd σ hin) n j)
  rcases Zs (ex++Xd σ hin) n j with q|⟨q,hq,rfl,q2⟩
  ·rw[q];split<;>trivial
  ·rw[q2]
   rcases List.mem_append.1 hq with h|h
   ·exact (ok.hex q h).2
   ·obtain ⟨q',hq',rfl⟩:=List.mem_map.1 h
    exact (hj q'.1 (ok.hl.mem q' hq').1 rfl).elim
 obtain ⟨hR3,hval⟩:=Xti (s3:=(⟨t,ex++Xd σ (hout x),n⟩:St).fs) hR ok.inj ok.hl (hHL' x hQ) fit (Qvy ok.ht) hXB (fun q hq=>ok.pc _ (hgh q hq)) hg1 e3 e2 (fun i=>rfl)
  (fun b hb=>by
   show Qb (ex++Xd σ (hout x)) n (σ b)=_
   rw[Xn (offE b hb)];exact Kz ok.inj hb (fun q hq=>((hHL' x hQ).mem q hq).1) ((hHL' x hQ).cov b hb))
  (fun j hj=>Qeh (by rw[Wb hj fun q hq=>((hHL' x hQ).mem q hq).1,Wb hj fun q hq=>(ok.hl.mem q hq).1]))
 exact ⟨x,v,_,hQ,e1,hR3,hval (hr x hQ) e4⟩
theorem Yat {r0:List TOp} {K:St→Prop} {s:St} {d:Option Nat} {f:FuncId} {xs:List TV} {args:List AV} {hin:List (Nat × Bk)} {σ:Nat→Nat} {m n:Nat} {p pc:List Nat} {ι:Type} {Q:ι→Prop} {r:ι→AV} {hout:ι→List (Nat × Bk)} (hq:GQ P c.gl f args hin m p Q r hout)
  (hgh:∀ q ∈ c.gh,q.1 ∈ pc) (t:List (Nat × AV)) (ex:List (Nat × Bk)) (ok:GqOk c.gl s xs false f args σ p pc m t ex hin n) (hHL':∀ x,Q x→HL (hout x) m) (hr:∀ x,Q x→Qe m (r x))
  (hk:∀ x,Q x→XP P c r0 K (St.putO ⟨t,ex++Xd σ (hout x),n⟩ d (ren σ (r x)))):Yc P c (.pd d (.call f) xs none) r0 K s:=by
 refine .inr fun ops io he g0 a w hR0 K' Q' hK=>?_
 obtain ⟨g,hR,hcall⟩:=Xwi hq hgh ok hHL' hr hR0
 obtain ⟨hgd,hdst,hd,ys,hel,rfl⟩:=Zd he
 obtain ⟨ts,hop⟩:=Qcy hel
 have hv:=Yh (hR.evs ys) ok.cok
 have hargs:=ok.hargs
 simp only[Uz,cond_false,Option.some.injEq,Prod.mk.injEq,true_and]at hargs
 rw[hargs]at hv
 refine Yl (Jl hgd) ?_
 unfold Oper.wp
 rw[Qdz hq.1 hop]
 rw[Oper.upon_enter]
 refine (hcall _ hv).mono fun e w' ⟨x,v,g3,hQ,e1,hR3,hv3⟩=>?_
 subst e1
 show K' (a.put io.dst v) w'
 rw[hdst]
 cases d with
 | none=>exact hK g3 _ _ _ (hk x hQ) (hR3.putNone v)
 | some d =>
  refine hK g3 ((⟨t,ex++Xd σ (hout x),n⟩:St).put d (ren σ (r x))) _ _ (hk x hQ) ?_
  rw[St.fs_put]
  exact hR3.put (by simpa using hd) hv3
end
end Go.Proofs.YtogckmommodmhaaGreatDoor
namespace Go.Proofs.YtogckmommodmhaaGreatDoor
open Go.RowKit
set_option linter.all false
set_option linter.unusedSimpArgs false
set_option maxRecDepth 100000
theorem Qih {α:Type} (l:List α) (i j:Nat) (d:α):(l.eraseIdx i).getD j d=if j < i then l.getD j d else l.getD (j + 1) d:=by
 simp only[List.getD,List.getElem?_eraseIdx]
 split<;>rfl
theorem Qc6 (es:Array MapEntry) (i j:Nat):(es.eraseIdxIfInBounds i).getD j default=if j < i then es.getD j default else es.getD (j + 1) default:=by
 rw[← Qd2,← Qd2,← Qd2,← Qih]
 congr 1
 unfold Array.eraseIdxIfInBounds
 split
 ·simp
 ·rename_i h
  rw[List.eraseIdx_of_length_le (by simpa using h)]
theorem Qgv {es:Array MapEntry} {i:Nat} (hi:i < es.size):(es.eraseIdxIfInBounds i).size=es.size - 1:=by
 unfold Array.eraseIdxIfInBounds
 rw[dif_pos hi];simp
section
variable {P:Program} {c:Cx} {g:Nat→GM} {s:FS} {a:Act} {w:World}
theorem Xvf (hR:R c g s a w) {t t2 ty:TypeId} {wide:Bool} {ks:List SK} {z:AV} (hT:MapT P t wide ks z) {b:Nat} {kvs:List (AV × AV)} {dn:Bool} (hb:s.H b=.mapb kvs dn) {x:AV} {m v:Value} (hm:VR g (Qn c g s) w (.mp b) m) (hx:VR g (Qn c g s) w x v)
  (hkx:Kg wide ks x) (hks:Qh5 wide ks kvs):∃ w',(Builtin.delete_ #[t,t2] ty #[m,v]).run P w=.ok (.tuple #[]) w'∧R c g (s.putB b (.mapb (Qm8 kvs x) false)) a w':=by
 obtain ⟨kt,et,zv,hu,hK,hz,rfl⟩:=hT.of
 obtain ⟨k,rfl,hg⟩:=Qju hm
 obtain ⟨es,clock,q1,q2,q3,q4,q5,q6,q7⟩:=Qh9 hR hb hg
 have hfk:=Qgx hK hkx hx (kvs:=kvs) (es:=es.toList) (by simpa using q2) hks (fun j hj=>by rw[Qd2];exact q3 j hj) w
 have hck:=Qj6 hK hkx hx es.isEmpty w
 have hgo:(getObj k).run P w=.ok (.map es clock) w:=by simp[getObj,Sem.run,q1]
 have hkl:=Wj q1
 unfold Qm8
 cases hf:fIx kvs x with
 | none =>
  rw[hf]at hfk
  refine ⟨_,?_,hR.setMap (kvs':=kvs) (dn':=false) (es':=es) (clock':=clock) hb hg q1 q2 q3 q4 q5 q6 (fun h=>by cases h)⟩
  simp only[Builtin.delete_,Sem.run_bind,run_underlying hu,Result.andThen_ok,hgo,hck,hfk,Option.map_none,Qer q1,Sem.run_pure,List.getElem?_toArray,List.getElem?_cons_zero,List.getElem?_cons_succ]
 | some i =>
  rw[hf]at hfk
  obtain ⟨hi,hke⟩:=Qm6 hf
  have hie:i < es.size:=by omega
  have hset:=hR.setMap (kvs':=kvs.eraseIdx i) (dn':=false) (es':=es.eraseIdxIfInBounds i) (clock':=clock) hb hg q1 (by rw[Qgv hie,List.length_eraseIdx,if_pos hi,q2])
   (fun j hj=>by
    rw[List.length_eraseIdx,if_pos hi]at hj
    rw[Qih,Qc6];split
    ·exact q3 j Zom
    ·exact q3 (j + 1) Zom)
   (fun j hj=>by
    rw[List.length_eraseIdx,if_pos hi]at hj
    rw[Qih,Qc6];split
    ·exact q4 j Zom
    ·exact q4 (j + 1) Zom)
   (fun j hj=>by
    rw[Qgv hie]at hj
    rw[Qc6];split
    ·exact q5 j Zom
    ·exact q5 (j + 1) Zom)
   (fun i' j hij hj=>by
    rw[Qgv hie]at hj
    rw[Qc6,Qc6]
    split<;>split
    ·exact q6 i' j hij Zom
    ·exact q6 i' (j + 1) Zom Zom
    ·omega
    ·exact q6 (i' + 1) (j + 1) Zom Zom) (fun h=>by cases h)
  refine ⟨_,?_,hset⟩
  simp only[Builtin.delete_,Sem.run_bind,run_underlying hu,Result.andThen_ok,hgo,hck,hfk,Option.map_some,Qer q1,Sem.run_pure,List.getElem?_toArray,List.getElem?_cons_zero,List.getElem?_cons_succ]
end
section
variable {P:Program} {c:Cx} {ops:Array Oper} {io:Oper}
theorem Xpo {o:Oper} {t:TypeId} {xs:List Operand} (h:Xy P o=some (.del t,xs)):∃ x y t2,o.op=.call ⟨.builtin .delete,⟨[x,y]⟩,⟨[t,t2]⟩⟩∧xs=[x,y]:=by
 unfold Xy at h
 repeat' split at h
 all_goals first
  | (cases h;exact ⟨_,_,_,by assumption,rfl⟩)
  | (simp at h;done)
  | (cases h;done)
  | (simp[Option.map_eq_some_iff]at h;done)
theorem Xq2 {o:Oper} {t:TypeId} {xs:List Operand} (h:Xy P o=some (.rng t,xs)):∃ x,o.op=.range t x∧xs=[x]:=by
 unfold Xy at h
 repeat' split at h
 all_goals first
  | (cases h;exact ⟨_,by assumption,rfl⟩)
  | (simp at h;done)
  | (cases h;done)
  | (simp[Option.map_eq_some_iff]at h;done)
theorem Xom {o:Oper} {xs:List Operand} (h:Xy P o=some (.nxt,xs)):∃ x,o.op=.next x false∧xs=[x]:=by
 unfold Xy at h
 repeat' split at h
 all_goals first
  | (cases h;exact ⟨_,by assumption,rfl⟩)
  | (simp at h;done)
  | (cases h;done)
  | (simp[Option.map_eq_some_iff]at h;done)
theorem Xq4 {o:Oper} {xs:List Operand} (h:Xy P o=some (.ent,xs)):∃ x,o.op=.entry x∧xs=[x]:=by
 unfold Xy at h
 repeat' split at h
 all_goals first
  | (cases h;exact ⟨_,by assumption,rfl⟩)
  | (simp at h;done)
  | (cases h;done)
  | (simp[Option.map_eq_some_iff]at h;done)
theorem Xwv {s:FS} {b:Nat} {X:Bk} {rt rb:List Nat} (hg:io.guard=none) (hdst:io.dst=none)
  (core:∀ s2:FS,(∀ i ∈ rt,s2.T i=s.T i)→(∀ b ∈ rb,s2.H b=s.H b)→∀ g a w,R c g s2 a w→∃ g' v' w',(execOp a.eval io).run P w=.ok (.value v') w'∧R c g' (s2.putB b X) a w') :
  AOk P c ops io s ⟨rt,rb,[],[b]⟩ (s.putB b X):=by
 refine ⟨fun i hi=>rfl,fun j hj=>?_,fun s2 hT hH g a w hR K Q' hK=>Yl hg ?_⟩
 ·rw[FS.H_putB,if_neg (fun e=>hj (by simp[e]))]
 ·obtain ⟨g',v',w',hr,hR'⟩:=core s2 hT hH g a w hR
  unfold Oper.wp
  rw[hr]
  show K (a.put io.dst v') w'
  rw[hdst]
  refine hK g' _ w' ?_
  rw[Qfk]
  exact hR'
noncomputable def Qui (s:FS) (vs:List AV):Bk:=.mapb (Qm8 (kvB (s.H (mpB vs))) (Qci vs)) false
theorem Qr8 {s:St} {t:TypeId} {xs:List TV} {wide:Bool} {ks:List SK} {z:AV} (hT:MapT P t wide ks z) (hc:Qt none (evs c.gl s.fs xs)) (hok:Qcc s.fs wide ks ((evs c.gl s.fs xs).map Qj)) :
  Kj P c (.pd none (.del t) xs none) s.fs (Qas s.fs c.gl xs [] true) (s.putB (mpB ((evs c.gl s.fs xs).map Qj)) (Qui s.fs ((evs c.gl s.fs xs).map Qj))).fs:=by
 intro ops io he
 obtain ⟨hgd,hdst,hd,ys,hel,rfl⟩:=Zd he
 obtain ⟨m,k,t2,hop,rfl⟩:=Xpo hel
 have hv2:(evs c.gl s.fs ([m,k].map tvO)).map Qj=[Qj (evT c.gl s.fs (tvO m)),Qj (evT c.gl s.fs (tvO k))]:=rfl
 unfold Qas
 rw[hv2]at hok ⊢
 generalize hvm:Qj (evT c.gl s.fs (tvO m))=vm at *
 generalize hvk:Qj (evT c.gl s.fs (tvO k))=vk at *
 obtain ⟨h1,h2,h3,h4⟩:=hok
 obtain ⟨b,r,hb⟩:=Qou h1
 injection hb with hb1 hb2
 subst hb1
 obtain ⟨kvs,dn,hH0⟩:=Qji h2
 simp only[Qui,mpB,Qci,cond_true]at h3 h4 hH0 ⊢
 rw[hH0]at h4 ⊢
 simp only[kvB]at h4 ⊢
 rw[St.fs_putB]
 refine Xwv (Jl hgd) hdst fun s2 hT2 hH2 g a w hR=>?_
 have hevs:evs c.gl s2 ([m,k].map tvO)=evs c.gl s.fs ([m,k].map tvO):=Ye hT2
 have hvs:=Yh (hR.evs [m,k]) (by rw[hevs];exact hc)
 rw[hevs,hv2]at hvs
 obtain ⟨v1,v2,_⟩:=hvs
 obtain ⟨w',hr,hR'⟩:=Xvf hR hT (t2:=t2) (ty:=io.type) (b:=b) (kvs:=kvs) (dn:=dn) (by rw[hH2 b Zsi,hH0]) v1 v2 h3 h4
 refine ⟨g,.tuple #[],w',?_,hR'⟩
 unfold execOp
 simp only[hop,resolve,invoke,builtin,Sem.run_bind,Sem.run_pure,Result.andThen_ok,List.map_toArray,List.map_cons,List.map_nil]
 rw[show (Builtin.delete_ { toList:=[t,t2] } io.type #[a.eval m,a.eval k]).run P w=_ from hr]
 rfl
theorem Qrz {r0:List TOp} {K:St→Prop} {s:St} {t:TypeId} {xs:List TV} {wide:Bool} {ks:List SK} {z:AV} (hT:MapT P t wide ks z) (h:Qt none (evs c.gl s.fs xs)∧Qcc s.fs wide ks ((evs c.gl s.fs xs).map Qj)∧XP P c r0 K (s.putB (mpB ((evs c.gl s.fs xs).map Qj)) (Qui s.fs ((evs c.gl s.fs xs).map Qj)))) :
  Yc P c (.pd none (.del t) xs none) r0 K s:=.inl ⟨_,_,Qr8 hT h.1 h.2.1,h.2.2⟩
theorem Qos {anc:List Nat} {fs:List Foot} {r0:List TOp} {K:St→Prop} {s:St} {t:TypeId} {xs:List TV} {wide:Bool} {ks:List SK} {z:AV} (hT:MapT P t wide ks z) (h:Qt none (evs c.gl s.fs xs)∧Qcc s.fs wide ks ((evs c.gl s.fs xs).map Qj)∧XD P c anc r0 (Qas s.fs c.gl xs [] true::fs) K (s.putB (mpB ((evs c.gl s.fs xs).map Qj)) (Qui s.fs ((evs c.gl s.fs xs).map Qj)))) :
  Za P c anc (.pd none (.del t) xs none) r0 fs K s:=⟨_,_,Qr8 hT h.1 h.2.1,h.2.2⟩
attribute [go_sem] Qui
def Qs2 (bs:List Nat) (n ck:Nat):Prop:=bs.length=n∧(∀ i j,i < j→j < n→bs.getD i 0 < bs.getD j 0)∧∀ i,i < n→bs.getD i 0 < ck
theorem Qg3 {es:Array MapEntry} (j:Nat) (hj:j < es.size):(es.toList.map (·.born)).getD j 0=(es.getD j default).born:=by
 simp[List.getD,Array.getD_eq_getD_getElem?,hj]
theorem R.toX {g:Nat→GM} {s:FS} {a:Act} {w:World} (hR:R c g s a w) {b:Nat} {kvs:List (AV × AV)} {dn:Bool} (hb:s.H b=.mapb kvs dn):∃ bs ck,Qs2 bs kvs.length ck∧R c g (s.putB b (.mapx kvs bs ck)) a w:=by
 have h:=hR.h b
 rw[hb]at h
 generalize hg:g b=m at h
 cases h with
 | mapb h1 h2 h3 h4 h5 h6 h7 =>
  rename_i k es clock
  refine ⟨es.toList.map (·.born),clock,⟨by simpa using h2,fun i j hij hj=>?_,fun i hi=>?_⟩,hR.setBlock hg (by rw[hb];trivial) trivial (Fr.refl _ _) (.mapx h1 h2 h3 h4 h5 h6 rfl)⟩
  ·rw[Qg3 i Zom,Qg3 j Zom];exact h6 i j hij Zom
  ·rw[Qg3 i Zom];exact h5 i Zom
theorem Qp2 {g:Nat→GM} {s:FS} {a:Act} {w:World} (hR:R c g s a w) {b k:Nat} {kvs:List (AV × AV)} {bs:List Nat} {ck:Nat} (hb:s.H b=.mapx kvs bs ck) (hg:g b=.re k):∃ es,w.heap[k]?=some (.map es ck)∧es.size=kvs.length ∧
  (∀ j,j < kvs.length→VR g (Qn c g s) w (kvs.getD j (.any,.any)).1 (es.getD j default).key)∧(∀ j,j < kvs.length→VR g (Qn c g s) w (kvs.getD j (.any,.any)).2 (es.getD j default).val) ∧
  (∀ j,j < es.size→(es.getD j default).born < ck)∧(∀ i j,i < j→j < es.size→(es.getD i default).born < (es.getD j default).born)∧(∀ j,j < es.size→(es.getD j default).born=bs.getD j 0)∧bs.length=kvs.length:=by
 have:=hR.h b
 rw[hb,hg]at this
 cases this with
 | mapx h1 h2 h3 h4 h5 h6 h7=>exact ⟨_,h1,h2,h3,h4,h5,h6,fun j hj=>by rw[← h7,Qg3 j hj],by rw[← h7];simpa using h2⟩
theorem Qzx {g:Nat→GM} {s:FS} {a:Act} {w:World} (hR:R c g s a w) {bi k b ck:Nat} {seen:List Nat} (hb:s.H bi=.iter b ck seen) (hg:g bi=.re k):∃ m,w.heap[k]?=some (.mapIter (some m) ck seen.toArray ck)∧g b=.re m:=by
 have:=hR.h bi
 rw[hb,hg]at this
 cases this with
 | iter h1 h2=>exact ⟨_,h1,h2⟩
theorem R.ofX {g:Nat→GM} {s:FS} {a:Act} {w:World} (hR:R c g s a w) {b:Nat} {kvs:List (AV × AV)} {bs:List Nat} {ck:Nat} (hb:s.H b=.mapx kvs bs ck):R c g (s.putB b (.mapb kvs false)) a w:=by
 have h:=hR.h b
 rw[hb]at h
 generalize hg:g b=m at h
 cases h with
 | mapx h1 h2 h3 h4 h5 h6 h7=>exact hR.setBlock hg (by rw[hb];trivial) trivial (Fr.refl _ _) (.mapb h1 h2 h3 h4 h5 h6 fun h=>by cases h)
theorem To.ofX {p:List Nat} {b:Nat} {s:St} {kvs:List (AV × AV)} {bs:List Nat} {ck:Nat} (hb:s.fs.H b=.mapx kvs bs ck):To p s (s.putB b (.mapb kvs false)):=fun c g a w _ hR=>⟨g,by rw[St.fs_putB];exact hR.ofX hb⟩
theorem Xgv {r0:List TOp} {K:St→Prop} {s:St} {d:Nat} {t:TypeId} {x:TV} {b:Nat} {kvs:List (AV × AV)} {dn wide:Bool} {ks:List SK} {z:AV} (hT:MapT P t wide ks z) (hx:evT c.gl s.fs x=.mp b) (hb:s.fs.H b=.mapb kvs dn) (hf:s.fs.H s.n=.free)
  (h:∀ bs ck,Qs2 bs kvs.length ck→XP P c r0 K (((s.putB b (.mapx kvs bs ck)).nw (.iter b ck [])).put d (.ptr s.n 0))):Yc P c (.pd (some d) (.rng t) [x] none) r0 K s:=by
 refine .inr fun ops io he g a w hR K' Q' hK=>?_
 obtain ⟨hgd,hdst,hd,ys,hel,hys⟩:=Zd he
 obtain ⟨y,hop,rfl⟩:=Xq2 hel
 obtain rfl:x=tvO y:=by simpa using hys
 obtain ⟨kt,et,zv,hu,_,_,_⟩:=hT.of
 have hv:=Yh (hR.evs [y]) (by
  show Qt none (evs c.gl s.fs [tvO y])
  simp only[evs,List.map_cons,List.map_nil,hx]
  simp[Qt,cok])
 have hv:VR g (Qn c g s.fs) w (.mp b) (a.eval y):=by
  have e:(evs c.gl s.fs ([y].map tvO)).map Qj=[.mp b]:=by
   show [Qj (evT c.gl s.fs (tvO y))]=_
   rw[hx];rfl
  rw[e]at hv;exact hv.1
 obtain ⟨k,e1,hg⟩:=Qju hv
 obtain ⟨bs,ck,hst,hR1⟩:=hR.toX hb
 obtain ⟨es,q1,q2,_⟩:=Qp2 hR1 (b:=b) (k:=k) (kvs:=kvs) (bs:=bs) (ck:=ck) (by rw[FS.H_putB,if_pos rfl]) hg
 have hne:b≠s.n:=by rintro rfl;rw[hb]at hf;cases hf
 have hfree:(s.fs.putB b (.mapx kvs bs ck)).H s.n=.free:=by rw[FS.H_putB,if_neg hne];exact hf
 have hR2:=hR1.new (.mapIter (some k) ck #[] ck) hfree (x:=.iter b ck []) trivial fun g' hg'=>.iter (heap_alloc_new w _) (by rw[hg' b (by rw[hg];intro x;cases x)];exact hg)
 refine Yl (Jl hgd) ?_
 have hrun:(execOp a.eval io).run P w=.ok (.value (.pointer (some ⟨w.heap.size,0,none⟩))) (w.alloc (.mapIter (some k) ck #[] ck)):=by
  unfold execOp
  simp[hop,Instr.range,run_underlying hu,e1,getObj,newObj,Sem.run,Sem.run_bind,q1]
 unfold Oper.wp
 rw[hrun]
 show K' (a.put io.dst _) _
 rw[hdst]
 refine hK (Yu g s.n (.re w.heap.size)) _ _ _ (h bs ck hst) ?_
 rw[St.fs_put,St.fs_nw,St.fs_putB]
 exact hR2.put (by simpa using hd) (.ptr (by simp[Yu]))
theorem Xp3 {w:World} {k:Nat} {m:Option Nat} {s0 c0:Nat} {se:Array Nat} (o':Obj) (hk:w.heap[k]?=some (.mapIter m s0 se c0)):Fr w (ChangeMaps.setBlock w k o') (fun i=>i=k) :=
 ⟨rfl,rfl,rfl,by simp[ChangeMaps.setBlock],fun i _ hne=>by simp only[ChangeMaps.setBlock,Array.getElem?_setIfInBounds];rw[if_neg fun e=>hne e.symm],fun i cur e fz hi=>by
  by_cases h:i=k
  ·subst h;rw[hk]at hi;cases hi
  ·exact ⟨cur,by simp only[ChangeMaps.setBlock,Array.getElem?_setIfInBounds];rw[if_neg fun e=>h e.symm];exact hi,rfl⟩⟩
theorem Xmb {r0:List TOp} {K:St→Prop} {s:St} {d:Nat} {x:TV} {bi b ck:Nat} {seen bs:List Nat} {kvs:List (AV × AV)} (hx:evT c.gl s.fs x=.ptr bi 0) (hi:s.fs.H bi=.iter b ck seen) (hb:s.fs.H b=.mapx kvs bs ck)
  (h0:(∀ i,i < kvs.length→bs.getD i 0 ∈ seen)→XP P c r0 K (s.put d (.tup [.bool false])))
  (h1:∀ i,i < kvs.length→bs.getD i 0 ∉ seen→XP P c r0 K ((s.putB bi (.iter b ck (seen++[bs.getD i 0]))).put d (.tup [.bool true,(kvs.getD i (.any,.any)).1,(kvs.getD i (.any,.any)).2]))):Yc P c (.pd (some d) .nxt [x] none) r0 K s:=by
 refine .inr fun ops io he g a w hR K' Q' hK=>?_
 obtain ⟨hgd,hdst,hd,ys,hel,hys⟩:=Zd he
 obtain ⟨y,hop,rfl⟩:=Xom hel
 obtain rfl:x=tvO y:=by simpa using hys
 have hv:=Yh (hR.evs [y]) (by
  show Qt none (evs c.gl s.fs [tvO y])
  simp only[evs,List.map_cons,List.map_nil,hx]
  simp[Qt,cok])
 have hv:VR g (Qn c g s.fs) w (.ptr bi 0) (a.eval y):=by
  have e:(evs c.gl s.fs ([y].map tvO)).map Qj=[.ptr bi 0]:=by
   show [Qj (evT c.gl s.fs (tvO y))]=_
   rw[hx];rfl
  rw[e]at hv;exact hv.1
 obtain ⟨k,e1,hg⟩:∃ k,a.eval y=.pointer (some ⟨k,0,none⟩)∧g bi=.re k:=by
  generalize a.eval y=u at hv
  cases hv;exact ⟨_,rfl,by assumption⟩
 obtain ⟨m,q1,hgb⟩:=Qzx hR hi hg
 obtain ⟨es,p1,p2,p3,p4,p5,p6,p7,p8⟩:=Qp2 hR hb hgb
 refine Yl (Jl hgd) ?_
 have hrun:=run_next_at (P:=P) w io.type k m ck ck seen.toArray es ck q1 p1 (fun x hx=>by
  obtain ⟨j,hj,rfl⟩:=List.getElem_of_mem hx
  have hj2:j < es.size:=by simpa using hj
  have:=p5 j hj2
  simp only[Array.getD_eq_getD_getElem?,Array.getElem?_eq_getElem hj2,Option.getD_some]at this
  simpa using this) (Nat.le_refl _)
 have hexec:∀ r w',(Instr.next (.pointer (some ⟨k,0,none⟩)) false io.type).run P w=.ok r w'→(execOp a.eval io).run P w=.ok (.value r) w':=fun r w' h=>by
  unfold execOp
  simp only[hop,e1]
  exact Zg h
 unfold Oper.wp
 rcases hrun with ⟨hz,hr⟩|⟨e,he',w1,hw1,hr⟩
 ·rw[hexec _ _ hr]
  show K' (a.put io.dst _) _
  rw[hdst]
  refine hK g _ _ _ (h0 fun i hi=>?_) (by
   rw[St.fs_put]
   refine hR.put (by simpa using hd) (.tup rfl fun j hj=>?_)
   have:j=0:=by simp at hj;omega
   subst this;exact .bool _)
  ·have hl:leftOf es seen.toArray=#[]:=Array.eq_empty_of_size_eq_zero hz
   have hie:i < es.size:=by omega
   have:=Array.filter_eq_empty_iff.1 hl es[i] (Array.getElem_mem hie)
   have hb':=p7 i hie
   simp only[Array.getD_eq_getD_getElem?,Array.getElem?_eq_getElem hie,Option.getD_some]at hb'
   rw[← hb']
   simpa using this
 ·obtain ⟨he1,he2⟩:e ∈ es.toList∧e.born ∉ seen:=by
   unfold leftOf at he'
   simp at he'
   exact ⟨by simpa using he'.1,he'.2⟩
  obtain ⟨i,hi',rfl⟩:=List.getElem_of_mem he1
  have hie:i < es.size:=by simpa using hi'
  have heq:es.toList[i]=es.getD i default:=by simp[Array.getD_eq_getD_getElem?,hie]
  have hbi:=p7 i hie
  rw[heq]at he2 hr
  rw[hbi]at he2
  rw[hexec _ _ hr]
  show K' (a.put io.dst _) _
  rw[hdst]
  have hRw:R c g s.fs a w1:=by
   rcases hw1 with rfl|rfl
   ·exact hR
   ·exact hR.grow (Fr.drew w _)
  have q1':w1.heap[k]?=some (.mapIter (some m) ck seen.toArray ck):=by rcases hw1 with rfl|rfl<;>exact q1
  have hlive:(s.fs.H bi).live:=by rw[hi];trivial
  have hkl:=Wj q1'
  have hkw:Qn c g s.fs k:=.inr ⟨bi,hlive,hg⟩
  have hf:=Xp3 (.mapIter (some m) ck (seen.toArray.push (es.getD i default).born) ck) q1'
  have hR3:=hRw.setBlock (x:=.iter b ck (seen++[bs.getD i 0])) hg hlive trivial hf (.iter (m:=m) (by
   rw[hbi,← List.push_toArray]
   simp[ChangeMaps.setBlock,hkl]) hgb)
  refine hK g _ _ _ (h1 i Zom he2) (by
   rw[St.fs_put,St.fs_putB]
   refine hR3.put (by simpa using hd) (.tup rfl fun j hj=>?_)
   have hm:∀ {x v},VR g (Qn c g s.fs) w x v→VR g (Qn c g (s.fs.putB bi (.iter b ck (seen++[bs.getD i 0])))) (ChangeMaps.setBlock w1 k (.mapIter (some m) ck (seen.toArray.push (es.getD i default).born) ck)) x v:=fun h =>
    (h.mono (w':=w1) (W':=Qn c g s.fs) (by rcases hw1 with rfl|rfl;exact Fr.refl _ _;exact Fr.drew _ _) (fun _ _ h=>h) (fun _ _=>rfl)).noBlk hlive trivial (hf.weak fun q hq=>by rw[hq];exact hg)
   have hj3:j < 3:=hj
   rcases (by omega:j=0∨j=1∨j=2) with rfl|rfl|rfl
   ·exact .bool _
   ·exact hm (p3 i Zom)
   ·exact hm (p4 i Zom))
theorem Xlj {r0:List TOp} {K:St→Prop} {s:St} {d:Nat} {x:TV} {bi b ck i:Nat} {seen bs:List Nat} {kvs:List (AV × AV)} (hx:evT c.gl s.fs x=.ptr bi 0) (hi:s.fs.H bi=.iter b ck (seen++[bs.getD i 0])) (hb:s.fs.H b=.mapx kvs bs ck) (hik:i < kvs.length)
  (h:XP P c r0 K (s.put d (.tup [(kvs.getD i (.any,.any)).1,(kvs.getD i (.any,.any)).2]))):Yc P c (.pd (some d) .ent [x] none) r0 K s:=by
 refine .inr fun ops io he g a w hR K' Q' hK=>?_
 obtain ⟨hgd,hdst,hd,ys,hel,hys⟩:=Zd he
 obtain ⟨y,hop,rfl⟩:=Xq4 hel
 obtain rfl:x=tvO y:=by simpa using hys
 have hv:=Yh (hR.evs [y]) (by
  show Qt none (evs c.gl s.fs [tvO y])
  simp only[evs,List.map_cons,List.map_nil,hx]
  simp[Qt,cok])
 have hv:VR g (Qn c g s.fs) w (.ptr bi 0) (a.eval y):=by
  have e:(evs c.gl s.fs ([y].map tvO)).map Qj=[.ptr bi 0]:=by
   show [Qj (evT c.gl s.fs (tvO y))]=_
   rw[hx];rfl
  rw[e]at hv;exact hv.1
 obtain ⟨k,e1,hg⟩:∃ k,a.eval y=.pointer (some ⟨k,0,none⟩)∧g bi=.re k:=by
  generalize a.eval y=u at hv
  cases hv;exact ⟨_,rfl,by assumption⟩
 obtain ⟨m,q1,hgb⟩:=Qzx hR hi hg
 obtain ⟨es,p1,p2,p3,p4,p5,p6,p7,p8⟩:=Qp2 hR hb hgb
 have hie:i < es.size:=by omega
 refine Yl (Jl hgd) ?_
 have hrun:=run_entry_at (P:=P) w k m ck seen.toArray es ck (es.getD i default) (by rw[p7 i hie,List.push_toArray];exact q1) p1 (by
  rw[← Qd2]
  have:i < es.toList.length:=by simpa using hie
  simp only[List.getD,List.getElem?_eq_getElem this,Option.getD_some]
  exact List.getElem_mem _) (by
  rw[List.nodup_iff_pairwise_ne,List.pairwise_iff_getElem]
  intro x y hx' hy' hxy
  simp only[List.length_map,Array.length_toList]at hx' hy'
  have:=p6 x y hxy hy'
  simp only[List.getElem_map,Array.getElem_toList]
  simp only[Array.getD_eq_getD_getElem?,Array.getElem?_eq_getElem hx',Array.getElem?_eq_getElem hy',Option.getD_some]at this
  omega)
 have hexec:(execOp a.eval io).run P w=.ok (.value (.tuple #[(es.getD i default).key,(es.getD i default).val])) w:=by
  unfold execOp
  simp only[hop,e1]
  exact Zg hrun
 unfold Oper.wp
 rw[hexec]
 show K' (a.put io.dst _) _
 rw[hdst]
 refine hK g _ _ _ h (by
  rw[St.fs_put]
  refine hR.put (by simpa using hd) (.tup rfl fun j hj=>?_)
  have hj2:j < 2:=hj
  rcases (by omega:j=0∨j=1) with rfl|rfl
  ·exact p3 i hik
  ·exact p4 i hik)
end
section
variable {P:Program} {c:Cx} {g:Nat→GM} {a:Act} {w:World}
theorem R.resay {s s':FS} (hR:R c g s a w) (hT:∀ i v,VR g (Qn c g s) w (s.T i) v→VR g (Qn c g s) w (s'.T i) v) (hB:∀ b,BR g (Qn c g s) w (g b) (s.H b)→BR g (Qn c g s) w (g b) (s'.H b)) (hl:∀ b,(s'.H b).live ↔ (s.H b).live):R c g s' a w:=by
 have hW:Qn c g s'=Qn c g s:=by funext i;simp only[Qn,hl]
 refine ⟨hR.size,hR.def_,fun i=>?_,fun i=>?_,fun b=>?_,fun x y k hx hy=>hR.inj x y k ((hl x).1 hx) ((hl y).1 hy),fun x k hx=>hR.old x k ((hl x).1 hx),hR.fr,hR.xs,hR.pin⟩
 ·rw[hW];exact hT i _ (hR.t i)
 ·rw[hW];exact hR.gl i
 ·rw[hW];exact hB b (hR.h b)
theorem R.addPh {s:FS} {n:Nat} (hR:R c g s a w) (hf:s.H n=.free):R c (Yu g n .ph) (s.putB n (.cells [])) a w:=by
 have hun:g n=.un:=by
  have:=hR.h n
  rw[hf]at this
  generalize g n=m at this
  cases this;rfl
 have hne:∀ {b k},Yu g n .ph b=.re k→b≠n∧g b=.re k:=fun {b k} h=>by
  unfold Yu at h
  split at h
  ·cases h
  ·rename_i hb;exact ⟨hb,h⟩
 have hg:∀ b,g b≠.un→Yu g n .ph b=g b:=Qbx hun
 have hH:∀ b,b≠n→(s.putB n (.cells [])).H b=s.H b:=fun b hb=>by rw[FS.H_putB,if_neg fun e=>hb e.symm]
 have hW:∀ k,Qn c (Yu g n .ph) (s.putB n (.cells [])) k→Qn c g s k:=by
  rintro k (h|⟨b,h1,h2⟩)
  ·exact .inl h
  ·obtain ⟨hb,h3⟩:=hne h2
   rw[hH b hb]at h1
   exact .inr ⟨b,h1,h3⟩
 have mono:∀ {v u},VR g (Qn c g s) w v u→VR (Yu g n .ph) (Qn c (Yu g n .ph) (s.putB n (.cells []))) w v u:=fun h=>h.mono (Fr.refl _ _) (fun k _=>hW k) hg
 refine ⟨hR.size,hR.def_,fun j=>mono (hR.t j),fun j=>(hR.gl j).mono (Fr.refl _ _) (fun k _=>hW k) (fun _ _=>rfl),fun b=>?_,fun b b' k h1 h2 e1 e2=>?_,fun b k h1 e1=>?_,hR.fr,hR.xs,Qkd hR hun⟩
 ·by_cases hb:b=n
  ·subst hb
   rw[FS.H_putB,if_pos rfl]
   unfold Yu;rw[if_pos rfl];exact .ph
  ·rw[hH b hb]
   have:Yu g n .ph b=g b:=by unfold Yu;rw[if_neg hb]
   rw[this]
   exact (hR.h b).mono (Fr.refl _ _) (fun k _=>hW k) hg (fun _ _ _=>rfl)
 ·obtain ⟨b1,g1⟩:=hne e1
  obtain ⟨b2,g2⟩:=hne e2
  rw[hH b b1]at h1
  rw[hH b' b2]at h2
  exact hR.inj b b' k h1 h2 g1 g2
 ·obtain ⟨b1,g1⟩:=hne e1
  rw[hH b b1]at h1
  exact hR.old b k h1 g1
theorem BR.cells_say {W:Nat→Prop} {m:GM} {cs cs':List AV} (h:BR g W w m (.cells cs)) (hl:cs'.length=cs.length) (hv:∀ j v,j < cs.length→VR g W w (cs.getD j .any) v→VR g W w (cs'.getD j .any) v):BR g W w m (.cells cs'):=by
 cases h with
 | ph =>
  obtain rfl:cs'=[]:=List.eq_nil_of_length_eq_zero hl
  exact .ph
 | cells hb h1 h2 h3 h4=>exact .cells hb Zom (fun j hj=>h2 j Zom) (fun j hj=>hv j _ Zom (h3 j Zom)) h4
end
theorem To.nilB {p:List Nat} {s:St} {b j es:Nat} {cs:List AV} (hb:Qb s.h s.n b=.cells cs) (hj:cs[j]?=some .nils) (hf:s.fs.H s.n=.free) :
  To p s ⟨s.t,(b,.cells (cs.set j (.sl es s.n 0 0 0)))::(s.n,.cells [])::s.h,s.n + 1⟩:=fun c g a w _ hR=>by
 have hbn:b≠s.n:=fun e=>by
  have:s.fs.H b=.cells cs:=hb
  rw[e,hf]at this;cases this
 refine ⟨Yu g s.n .ph,?_⟩
 have h1:=hR.addPh hf
 have hH:∀ i,(⟨s.t,(b,.cells (cs.set j (.sl es s.n 0 0 0)))::(s.n,.cells [])::s.h,s.n + 1⟩:St).fs.H i=if b=i then .cells (cs.set j (.sl es s.n 0 0 0)) else (s.fs.putB s.n (.cells [])).H i:=fun i=>by
  show Qb ((b,_)::(s.n,_)::s.h) (s.n + 1) i=_
  rw[Qc,FS.H_putB,Qc]
  split
  ·rfl
  ·split
   ·rfl
   ·rename_i h;exact Kn _ _ _ fun e=>h e.symm
 have hb2:(s.fs.putB s.n (.cells [])).H b=.cells cs:=by rw[FS.H_putB,if_neg fun e=>hbn e.symm];exact hb
 refine h1.resay (fun i v h=>h) (fun i h=>?_) fun i=>?_
 ·rw[hH]
  split
  ·rename_i e;subst e
   rw[hb2]at h
   refine h.cells_say Zsi fun k v hk hv=>?_
   by_cases hkj:j=k
   ·subst hkj
    have e1:cs.getD j .any=.nils:=by simp[List.getD,hj]
    have e2:(cs.set j (.sl es s.n 0 0 0)).getD j .any=.sl es s.n 0 0 0:=by simp[List.getD,List.getElem?_set,hk]
    rw[e1]at hv;rw[e2]
    cases hv
    exact .slp (by unfold Yu;rw[if_pos rfl]) rfl
   ·have:(cs.set j (.sl es s.n 0 0 0)).getD k .any=cs.getD k .any:=by simp[List.getD,List.getElem?_set,hkj]
    rw[this];exact hv
  ·exact h
 ·rw[hH]
  split
  ·rename_i e;subst e;rw[hb2];exact Iff.rfl
  ·exact Iff.rfl
def Wk (x y:AV):Prop:=∀ (g:Nat→GM) (W:Nat→Prop) (w:World) (v:Value),VR g W w x v→VR g W w y v
theorem Wk.refl (x:AV):Wk x x:=fun _ _ _ _ h=>h
theorem Wk.nils:Wk .nils (.isl 0 []):=fun g W w v h=>by
 cases h
 exact .isl (us:=fun _=>undef) (Nat.le_refl 0) (by simp[maxLen]) (fun j hj=>by simp at hj) fun j hj=>by simp at hj
theorem Wk.cap (es b off n c:Nat):Wk (.sl es b off n c) (.sl es b off n n):=fun g W w v h=>by
 cases h with
 | sl hg hn hc hm hb hs=>exact .sl hg (Nat.le_refl _) Zom hm hb hs
 | slp hg hc=>exact .slp hg rfl
theorem Wk.tup2 {x x' y y':AV} (h:Wk x x') (k:Wk y y'):Wk (.tup [x,y]) (.tup [x',y']):=fun g W w v hv=>by
 obtain ⟨us,rfl,h1,h2⟩:=Qh1 hv
 refine .tup (by simpa using h1) fun j hj=>?_
 have h3:=h2 j (by simpa using hj)
 have hj:j < 2:=by simpa using hj
 obtain rfl|rfl:j=0∨j=1:=by omega
 ·exact h g W w _ (by simpa [List.getD] using h3)
 ·exact k g W w _ (by simpa [List.getD] using h3)
theorem To.wkT {p:List Nat} {s:St} (i:Nat) {y:AV} (h:Wk (look s.t i) y):To p s ⟨(i,y)::s.t,s.h,s.n⟩:=fun c g a w _ hR=>by
 refine ⟨g,hR.resay (fun k v hv=>?_) (fun _ h=>h) fun _=>Iff.rfl⟩
 show VR _ _ _ (look ((i,y)::s.t) k) v
 rw[Zt]
 split
 ·rename_i e;subst e;exact h _ _ _ _ hv
 ·exact hv
theorem To.wkB {p:List Nat} {s:St} {b:Nat} {cs cs':List AV} (hb:Qb s.h s.n b=.cells cs) (hl:cs'.length=cs.length) (hv:∀ j,j < cs.length→Wk (cs.getD j .any) (cs'.getD j .any)):To p s ⟨s.t,(b,.cells cs')::s.h,s.n⟩:=fun c g a w _ hR=>by
 have hH:∀ i,(⟨s.t,(b,.cells cs')::s.h,s.n⟩:St).fs.H i=if b=i then .cells cs' else s.fs.H i:=fun i=>by
  show Qb ((b,_)::s.h) s.n i=_
  rw[Qc];rfl
 refine ⟨g,hR.resay (fun k v hv=>hv) (fun i h=>?_) fun i=>?_⟩
 ·rw[hH];split
  ·rename_i e;subst e
   rw[show s.fs.H b=.cells cs from hb]at h
   exact h.cells_say hl fun j v hj=>hv j hj _ _ _ _
  ·exact h
 ·rw[hH];split
  ·rename_i e;subst e;rw[show s.fs.H b=.cells cs from hb];exact Iff.rfl
  ·exact Iff.rfl
theorem VR.froze {c:Cx} {g:Nat→GM} {s:FS} {a:Act} {w:World} (hR:R c g s a w) {es b off n k:Nat} {cs:List AV} (hb:s.H b=.cells cs) {u:Value} (h:VR g (Qn c g s) w (.sl es b off n k) u) :
  VR g (Qn c g (s.putB b .dead)) w (.isl n ((cs.drop off).take (n * es))) u:=by
 have hbr:=hR.h b
 rw[hb]at hbr
 rcases Qar h with ⟨kk,cap,e,cur,fz,rfl,hg,h1,h2,h3,h4,h5⟩|⟨ad0,rfl,hg,rfl,rfl⟩
 ·rw[hg]at hbr
  have hx:¬ Qn c g (s.putB b .dead) kk:=by
   rintro (hx|⟨b',h6,h7⟩)
   ·exact Xks hR (by rw[hb];trivial) hg hx
   ·rw[FS.H_putB]at h6
    split at h6
    ·exact h6.elim
    ·rename_i hne
     exact hne (hR.inj b b' kk (by rw[hb];trivial) h6 hg h7)
  cases hbr with
  | cells hb2 hl h11 hv hz =>
   rename_i cur2 e2 fz2
   rw[h4]at hb2;cases hb2
   have hlen:∀ j,j < ((cs.drop off).take (n * es)).length→off + j < cs.length∧j < n * es:=fun j hj=>by simp at hj;omega
   refine .isl (us:=fun j=>cur.getD (off + j) undef) Zom h3 (fun j hj=>?_) fun j hj=>?_
   ·obtain ⟨hj1,hj2⟩:=hlen j hj
    refine ⟨kk,off,rfl,?_,hx,h11 _ hj1⟩
    have:=cell_of_row w kk (off + j) cur e fz h4
    unfold Wu
    rw[this]
    have:off + j < cur.size:=by omega
    simp[Array.getD,this]
   ·obtain ⟨hj1,hj2⟩:=hlen j hj
    have ee:((cs.drop off).take (n * es)).getD j .any=cs.getD (off + j) .any:=by simp only[List.getD,List.getElem?_take,List.getElem?_drop,if_pos hj2]
    rw[ee]
    exact (hv _ hj1).mono (Fr.refl _ _) (fun k _=>Qbs k) (fun _ _=>rfl)
 ·refine .isl (us:=fun _=>undef) (Nat.le_refl 0) (by simp[maxLen]) (fun j hj=>?_) fun j hj=>?_
  ·simp at hj
  ·simp at hj
theorem VR.dead {c:Cx} {g:Nat→GM} {s:FS} {w:World} {b:Nat} {x:AV} {u:Value} (h:VR g (Qn c g s) w x u):VR g (Qn c g (s.putB b .dead)) w x u:=h.mono (Fr.refl _ _) (fun k _=>Qbs k) (fun _ _=>rfl)
theorem To.killT {p:List Nat} {s:St} {b i:Nat} {v':AV} (hl:(s.fs.H b).live) (hv:∀ (c:Cx) (g:Nat→GM) (a:Act) (w:World),R c g s.fs a w→∀ u,VR g (Qn c g s.fs) w (look s.t i) u→VR g (Qn c g (s.fs.putB b .dead)) w v' u) :
  To p s ⟨(i,v')::s.t,(b,.dead)::s.h,s.n⟩:=fun c g a w _ hR=>by
 have hb:g b≠.un:=fun e=>by
  have:=hR.h b
  rw[e]at this
  exact this.ne_un hl
 have hk:=hR.kill hb
 have e:(⟨(i,v')::s.t,(b,.dead)::s.h,s.n⟩:St).fs=(s.fs.putB b .dead).put i v':=by
  rw[← St.fs_putB,← St.fs_put];rfl
 refine ⟨g,?_⟩
 rw[e]
 refine ⟨hk.size,hk.def_,fun j=>?_,hk.gl,hk.h,hk.inj,hk.old,hk.fr,hk.xs,hk.pin⟩
 show VR g _ w (if i=j then v' else s.fs.T j) _
 split
 ·rename_i e;subst e;exact hv c g a w hR _ (hR.t i)
 ·exact hk.t j
theorem To.frz {p:List Nat} {s:St} {b i es off n k:Nat} {cs:List AV} (hb:Qb s.h s.n b=.cells cs) (hi:look s.t i=.sl es b off n k):To p s ⟨(i,.isl n ((cs.drop off).take (n * es)))::s.t,(b,.dead)::s.h,s.n⟩ :=
 To.killT (by rw[show s.fs.H b=.cells cs from hb];trivial) fun c g a w hR u hu=>by
  rw[hi]at hu
  exact VR.froze hR hb hu
theorem To.frz2 {p:List Nat} {s:St} {b i es off n k:Nat} {cs:List AV} {y:AV} (hb:Qb s.h s.n b=.cells cs) (hi:look s.t i=.tup [.sl es b off n k,y]):To p s ⟨(i,.tup [.isl n ((cs.drop off).take (n * es)),y])::s.t,(b,.dead)::s.h,s.n⟩ :=
 To.killT (by rw[show s.fs.H b=.cells cs from hb];trivial) fun c g a w hR u hu=>by
  rw[hi]at hu
  obtain ⟨us,rfl,h1,h2⟩:=Qh1 hu
  refine .tup (by simpa using h1) fun j hj=>?_
  have h3:=h2 j (by simpa using hj)
  have hj:j < 2:=by simpa using hj
  obtain rfl|rfl:j=0∨j=1:=by omega
  ·exact VR.froze hR hb (by simpa [List.getD] using h3)
  ·exact VR.dead (by simpa [List.getD] using h3)
def Qob (t:List (Nat × AV)):List (Nat × AV)→Prop
 | []=>True
 | q::r=>look t q.1=q.2∧Qob t r
theorem Qpk {t:List (Nat × AV)}:∀ {t':List (Nat × AV)},Qob t t'→∀ i,look t' i=.any∨look t' i=look t i
 | [],_,_=>.inl rfl
 | (j,v)::r,h,i=>by
  rw[Zt]
  split
  ·rename_i e;subst e;exact .inr h.1.symm
  ·exact Qpk h.2 i
theorem To.sel {p:List Nat} {t t':List (Nat × AV)} {h h':List (Nat × Bk)} {n n':Nat} (hs:Qob t t') (hh:∀ b,Qb h' n' b=Qb h n b):To p ⟨t,h,n⟩ ⟨t',h',n'⟩:=fun c g a w _ hR=>by
 refine ⟨g,hR.resay (fun i v hv=>?_) (fun b hb=>?_) fun b=>?_⟩
 ·show VR _ _ _ (look t' i) v
  rcases Qpk hs i with e|e
  ·rw[e];exact .any _
  ·rw[e];exact hv
 ·show BR _ _ _ _ (Qb h' n' b)
  rw[hh];exact hb
 ·show (Qb h' n' b).live ↔ (Qb h n b).live
  rw[hh]
theorem Xej (t:List (Nat × AV)):Qob t []=True:=rfl
theorem Qx4 (t:List (Nat × AV)) (i:Nat) (v:AV) (r:List (Nat × AV)):Qob t ((i,v)::r)=(look t i=v∧Qob t r):=rfl
attribute [go_sem] Xej Qx4
theorem Qnb {σ:Type} (p:List Nat) (I:σ→Prop) (emb:σ→St) (μ:σ→Nat) (x:σ) (Q:EX→St→Prop) (s:St):Qmd p I emb μ x Q .normal s=∃ y,I y∧To p s (emb y)∧μ y < μ x:=rfl
theorem Qv6 {σ:Type} (p:List Nat) (I:σ→Prop) (emb:σ→St) (μ:σ→Nat) (x:σ) (Q:EX→St→Prop) (s:St):Qmd p I emb μ x Q .ret s=Q .ret s:=rfl
theorem Qqo {σ:Type} (p:List Nat) (I:σ→Prop) (emb:σ→St) (μ:σ→Nat) (x:σ) (Q:EX→St→Prop) (i:Nat) (s:St):Qmd p I emb μ x Q (.exit i) s=Q (.exit i) s:=rfl
theorem Xex {ι:Type} (m:Nat) (p:List Nat) (rs:List RS) (Q:ι→Prop) (r:ι→AV) (hout:ι→List (Nat × Bk)) (s:St):Xc2 m p rs Q r hout .ret s=(Wd s.fs rs∧∃ x,Q x∧To p ⟨[(0,rvs s.fs rs)],s.h,s.n⟩ ⟨[(0,r x)],hout x,m⟩):=rfl
theorem Qqu {ι:Type} (m:Nat) (p:List Nat) (rs:List RS) (Q:ι→Prop) (r:ι→AV) (hout:ι→List (Nat × Bk)) (s:St):Xc2 m p rs Q r hout .normal s=(Wd s.fs rs∧∃ x,Q x∧To p ⟨[(0,rvs s.fs rs)],s.h,s.n⟩ ⟨[(0,r x)],hout x,m⟩):=rfl
attribute [go_sem] Qnb Qv6 Qqo Xex Qqu
theorem GS.wk {P:Program} {gl:Nat→AV} {f:FuncId} {args:List AV} {hin hout:List (Nat × Bk)} {m n:Nat} {r r':AV} (h:GS P gl f args hin m r hout n) (hr:Wk r r'):GS P gl f args hin m r' hout n:=by
 refine ⟨h.1,fun w vs G X g hR hv=>(h.2 w vs G X g hR hv).mono ?_⟩
 rintro e w' ⟨v,g',q1,q2,q3,q4⟩
 exact ⟨v,g',q1,q2,q3,hr _ _ _ _ q4⟩
def sgx (σ:Nat→Nat) (p:List Nat) (n0 b:Nat):Nat:=bif p.contains b then σ b else n0 + b
theorem Wr {σ:Nat→Nat} {p:List Nat} {n0 b:Nat} (h:b ∈ p):sgx σ p n0 b=σ b:=by
 unfold sgx;rw[List.contains_iff_mem.2 h];rfl
theorem Wi {σ:Nat→Nat} {p:List Nat} {n0 b:Nat} (h:b ∉ p):sgx σ p n0 b=n0 + b:=by
 unfold sgx
 cases e:p.contains b with
 | true=>exact absurd (List.contains_iff_mem.1 e) h
 | false=>rfl
theorem Qog {σ:Nat→Nat} {p:List Nat} {m n0:Nat} (hinj:∀ b b',b < m→b' < m→σ b=σ b'→b=b') (hlt:∀ b,b < m→σ b < n0) {b b':Nat} (hb:b < m) (hb':b' < m) (e:sgx σ p n0 b=sgx σ p n0 b'):b=b':=by
 by_cases h1:b ∈ p<;>by_cases h2:b' ∈ p
 ·rw[Wr h1,Wr h2]at e;exact hinj _ _ hb hb' e
 ·rw[Wr h1,Wi h2]at e;have:=hlt b hb;omega
 ·rw[Wi h1,Wr h2]at e;have:=hlt b' hb';omega
 ·rw[Wi h1,Wi h2]at e;omega
section
variable {P:Program} {c:Cx}
theorem Xwy {σ:Nat→Nat} {n0:Nat} {s s3:FS} {a:Act} {w w':World} {g g1 g2:Nat→GM} {h h':List (Nat × Bk)} {m:Nat} {p:List Nat} (hR:R c g s a w) (hinj:∀ b b',b < m→b' < m→σ b=σ b'→b=b') (hlt:∀ b,b < m→σ b < n0) (hfree:∀ b,b < m→s.H (n0 + b)=.free)
  (hh:HL h m) (hh':HL h' m) (fit:∀ b,b < m→s.H (σ b)=Xf σ (Qb h m b)) (hp:∀ b ∈ p,b < m)
  (hg1:∀ b,b < m→g (σ b)≠.un→g (σ b)=g1 b) (hg2:∀ b,b ∈ p→g2 b=g1 b) (hR2:R (Qc8 c g s w σ h m) g2 (Hst h' m) ⟨#[],[]⟩ w')
  (e3T:∀ i,s3.T i=s.T i) (e3H:∀ b,b < m→s3.H (sgx σ p n0 b)=Xf (sgx σ p n0) (Qb h' m b)) (e3D:∀ b,b < m→b ∉ p→s3.H (σ b)=.dead) (e3F:∀ b,b ∈ p→s3.H (n0 + b)=.dead)
  (e3O:∀ j,Qal σ m j→(∀ b,b < m→n0 + b≠j)→s3.H j=s.H j) :
  ∃ g3,R c g3 s3 a w'∧∀ {r:AV} {v:Value},Qe m r→VR g2 (Qn (Qc8 c g s w σ h m) g2 (Hst h' m)) w' r v→VR g3 (Qn c g3 s3) w' (ren (sgx σ p n0) r) v:=by
 have hlv:∀ b,b < m→(Qb h m b).live:=fun b hb=>by
  obtain ⟨_,q,hq,_,e⟩:=hh.live hb m
  rw[e];exact Xe (hh.mem q hq).2
 have hlv':∀ b,b < m→(Qb h' m b).live:=fun b hb=>by
  obtain ⟨_,q,hq,_,e⟩:=hh'.live hb m
  rw[e];exact Xe (hh'.mem q hq).2
 have hlvS:∀ b,b < m→(s.H (σ b)).live:=fun b hb=>by rw[fit b hb,Qcs];exact hlv b hb
 have named:∀ b,b < m→g (σ b)≠.un:=fun b hb e=>(e ▸ hR.h (σ b)).ne_un (hlvS b hb)
 have named2:∀ b,b < m→g2 b≠.un:=fun b hb e=>by
  have:=hR2.h b
  rw[e]at this
  exact this.ne_un (hlv' b hb)
 have unf:∀ b,b < m→g (n0 + b)=.un:=fun b hb=>by
  have:=hR.h (n0 + b)
  rw[hfree b hb]at this
  generalize g (n0 + b)=x at this
  cases this;rfl
 have low:∀ b,(Qb h m b).live→b < m:=fun b hl=>by
  rcases Zs h m b with q|⟨q,hq,rfl,_⟩
  ·rw[q]at hl;split at hl<;>exact hl.elim
  ·exact (hh.mem q hq).1
 let g3:Nat→GM:=fun j=>if n0≤j∧j < n0 + m then g2 (j - n0) else g j
 have g3n:∀ b,b < m→g3 (n0 + b)=g2 b:=fun b hb=>by
  show (if n0≤n0 + b∧n0 + b < n0 + m then g2 (n0 + b - n0) else g (n0 + b))=g2 b
  rw[if_pos Zom,Nat.add_sub_cancel_left]
 have g3o:∀ j,(∀ b,b < m→n0 + b≠j)→g3 j=g j:=fun j hj=>by
  show (if _ then _ else _)=_
  rw[if_neg]
  rintro ⟨h1,h2⟩
  exact hj (j - n0) Zom Zom
 have gk:∀ j,g j≠.un→g3 j=g j:=fun j hj=>g3o j fun b hb e=>hj (e ▸ unf b hb)
 have offn:∀ b,b < m→∀ b',b' < m→n0 + b'≠σ b:=fun b hb b' hb'=>by have:=hlt b hb;omega
 have g3s:∀ b,b < m→g3 (σ b)=g (σ b):=fun b hb=>g3o _ fun b' hb'=>offn b hb b' hb'
 have gm:∀ b,b < m→g3 (sgx σ p n0 b)=g2 b:=fun b hb=>by
  by_cases hbp:b ∈ p
  ·rw[Wr hbp,g3s b hb,hg2 b hbp];exact hg1 b hb (named b hb)
  ·rw[Wi hbp];exact g3n b hb
 have part:∀ j,(∃ b,b < m∧sgx σ p n0 b=j)∨(∃ b,b < m∧b ∉ p∧σ b=j)∨(∃ b,b ∈ p∧n0 + b=j)∨(Qal σ m j∧∀ b,b < m→n0 + b≠j):=fun j=>by
  by_cases e1:∃ b,b < m∧sgx σ p n0 b=j
  ·exact .inl e1
  by_cases e2:∃ b,b < m∧σ b=j
  ·obtain ⟨b,hb,e⟩:=e2
   exact .inr (.inl ⟨b,hb,fun hbp=>e1 ⟨b,hb,by rw[Wr hbp];exact e⟩,e⟩)
  by_cases e3:∃ b,b < m∧n0 + b=j
  ·obtain ⟨b,hb,e⟩:=e3
   by_cases hbp:b ∈ p
   ·exact .inr (.inr (.inl ⟨b,hbp,e⟩))
   ·exact (e1 ⟨b,hb,by rw[Wi hbp];exact e⟩).elim
  ·exact .inr (.inr (.inr ⟨fun b h1 h2=>e2 ⟨b,h1,h2⟩,fun b h1 h2=>e3 ⟨b,h1,h2⟩⟩))
 have hf:Fr w w' (Qd8 g σ h m):=hR2.fr
 have hGW:∀ k,Qd8 g σ h m k→Qn c g s k:=fun k ⟨b,h1,h2⟩=>.inr ⟨σ b,hlvS b (low b h1),h2⟩
 have hfW:Fr w w' (Qn c g s):=hf.weak hGW
 have oth:∀ j k,Qal σ m j→(s.H j).live→g j=.re k→¬ Qd8 g σ h m k:=fun j k h1 h2 h3 ⟨b,q1,q2⟩ =>
  h1 b (low b q1) (hR.inj (σ b) j k (hlvS b (low b q1)) h2 q2 h3)
 have mem2:∀ b k,b < m→g2 b=.re k→w.heap.size≤k∨∃ b0,b0 < m∧g (σ b0)=.re k:=fun b k hb hk=>by
  rcases hR2.old b k (hlv' b hb) hk with h|⟨b0,q1,q2⟩
  ·exact .inl h
  ·exact .inr ⟨b0,low b0 q1,q2⟩
 have live3:∀ j,(s3.H j).live→(∃ b,b < m∧sgx σ p n0 b=j)∨(Qal σ m j∧(∀ b,b < m→n0 + b≠j)∧(s.H j).live):=fun j hl=>by
  rcases part j with h|⟨b,hb,hbp,rfl⟩|⟨b,hbp,rfl⟩|⟨h1,h2⟩
  ·exact .inl h
  ·rw[e3D b hb hbp]at hl;exact hl.elim
  ·rw[e3F b hbp]at hl;exact hl.elim
  ·rw[e3O j h1 h2]at hl;exact .inr ⟨h1,h2,hl⟩
 have hW3:∀ k,k < w.heap.size→Qn c g3 s3 k→Qn c g s k:=by
  rintro k hk (h|⟨j,h1,h2⟩)
  ·exact .inl h
  ·rcases live3 j h1 with ⟨b,hb,rfl⟩|⟨hj,hj2,hl⟩
   ·rw[gm b hb]at h2
    rcases mem2 b k hb h2 with h|⟨b0,q1,q2⟩
    ·omega
    ·exact .inr ⟨σ b0,hlvS b0 q1,q2⟩
   ·rw[g3o j hj2]at h2;exact .inr ⟨j,hl,h2⟩
 have hW2:∀ k,Qn c g3 s3 k→Qn (Qc8 c g s w σ h m) g2 (Hst h' m) k:=by
  rintro k (h|⟨j,h1,h2⟩)
  ·refine .inl ⟨.inl h,fun ⟨b,q1,q2⟩=>?_⟩
   obtain ⟨x1,x2⟩:=hR.xs k h
   rcases hR.old (σ b) k (hlvS b (low b q1)) q2 with h|h
   ·omega
   ·exact x2 h
  ·rcases live3 j h1 with ⟨b,hb,rfl⟩|⟨hj,hj2,hl⟩
   ·rw[gm b hb]at h2;exact .inr ⟨b,hlv' b hb,h2⟩
   ·rw[g3o j hj2]at h2;exact .inl ⟨.inr ⟨j,hl,h2⟩,oth j k hj hl h2⟩
 have sinj:=fun {b b'}=>@Qog σ p m n0 hinj hlt b b'
 refine ⟨g3,⟨hR.size,hR.def_,fun i=>?_,fun i=>(hR.gl i).mono hfW hW3 (fun _ _=>rfl),fun j=>?_,fun j j' k h1 h2 e1 e2=>?_,fun j k h1 e1=>?_,hR.fr.trans hf fun k hk ⟨b,q1,q2⟩=>?_,hR.xs,fun q hq=>?_⟩,fun {r v} hn hv=>?_⟩
 ·rw[e3T];exact (hR.t i).mono hfW hW3 gk
 ·rcases part j with ⟨b,hb,rfl⟩|⟨b,hb,hbp,rfl⟩|⟨b,hbp,rfl⟩|⟨hj,hj2⟩
  ·rw[gm b hb,e3H b hb]
   have hbr:=hR2.h b
   have e:(Hst h' m).H b=Qb h' m b:=rfl
   rw[e]at hbr
   obtain ⟨_,q,hq,_,eq⟩:=hh'.live hb m
   rw[eq]at hbr ⊢
   exact hbr.ren (n:=m) gm (hh'.mem q hq).2 hW2
  ·rw[e3D b hb hbp,g3s b hb];exact .dead (named b hb)
  ·rw[e3F b hbp,g3n b (hp b hbp)];exact .dead (named2 b (hp b hbp))
  ·rw[g3o j hj2,e3O j hj hj2]
   refine (hR.h j).mono hfW hW3 gk fun k hk hl=>hf.keep k ?_ (oth j k hj hl hk)
   exact BR.lt (hk ▸ hR.h j) hl
 ·change g3 j=_ at e1
  change g3 j'=_ at e2
  rcases live3 j h1 with ⟨b,hb,rfl⟩|⟨hj,hj2,hl⟩<;>rcases live3 j' h2 with ⟨b',hb',rfl⟩|⟨hj',hj2',hl'⟩
  ·rw[gm b hb]at e1;rw[gm b' hb']at e2
   rw[hR2.inj b b' k (hlv' b hb) (hlv' b' hb') e1 e2]
  ·rw[gm b hb]at e1;rw[g3o j' hj2']at e2
   have hlt:=BR.lt (e2 ▸ hR.h j') hl'
   rcases mem2 b k hb e1 with h|⟨b0,q1,q2⟩
   ·omega
   ·exact (hj' b0 q1 (hR.inj (σ b0) j' k (hlvS b0 q1) hl' q2 e2)).elim
  ·rw[gm b' hb']at e2;rw[g3o j hj2]at e1
   have hlt:=BR.lt (e1 ▸ hR.h j) hl
   rcases mem2 b' k hb' e2 with h|⟨b0,q1,q2⟩
   ·omega
   ·exact (hj b0 q1 (hR.inj (σ b0) j k (hlvS b0 q1) hl q2 e1)).elim
  ·rw[g3o j hj2]at e1;rw[g3o j' hj2']at e2
   exact hR.inj j j' k hl hl' e1 e2
 ·change g3 j=_ at e1
  rcases live3 j h1 with ⟨b,hb,rfl⟩|⟨hj,hj2,hl⟩
  ·rw[gm b hb]at e1
   rcases mem2 b k hb e1 with h|⟨b0,q1,q2⟩
   ·have:=hR.fr.size;exact .inl Zom
   ·exact hR.old (σ b0) k (hlvS b0 q1) q2
  ·rw[g3o j hj2]at e1;exact hR.old j k hl e1
 ·rcases hR.old (σ b) k (hlvS b (low b q1)) q2 with h|h
  ·omega
  ·exact h
 ·obtain ⟨q1,q2⟩:=hR.pin q hq
  refine ⟨?_,q2⟩
  show g3 q.1=_
  rw[gk q.1 (by rw[q1];exact q2),q1]
 ·exact (hv.ren (ρ:=sgx σ p n0) (g:=g3) gm hn).mono (Fr.refl _ _) (fun k _=>hW2 k) (fun _ _=>rfl)
structure GxOk (gl:Nat→AV) (xs:List TV) (v:Bool) (f:FuncId) (args:List AV) (σ:Nat→Nat) (p:List Nat) (m:Nat) (t:List (Nat × AV)) (ex hin:List (Nat × Bk)) (n:Nat):Prop where
 inj:∀ b b',b < m→b' < m→σ b=σ b'→b=b'
 lt:∀ b,b < m→σ b < n
 hl:HL hin m
 pin:∀ b ∈ p,b < m
 hex:∀ q ∈ ex,Qal σ m q.1∧q.1 < n
 cok:Qt none (evs gl (⟨t,ex++Xd σ hin,n⟩:St).fs xs)
 hargs:Uz v f ((evs gl (⟨t,ex++Xd σ hin,n⟩:St).fs xs).map Qj)=some (f,rens σ args)
 nm:nmAll m args
def gxN (σ:Nat→Nat) (m n:Nat):List Nat:=(List.range m).map σ++(List.range m).map fun b=>n + b
theorem Qbv {σ:Nat→Nat} {m n j:Nat}:j ∈ gxN σ m n ↔ (∃ b,b < m∧σ b=j)∨∃ b,b < m∧n + b=j:=by simp[gxN]
def Ja (t:List (Nat × AV)) (ex hout:List (Nat × Bk)) (σ:Nat→Nat) (p:List Nat) (m n:Nat) (d:Option Nat) (r:AV):St:=St.putO ⟨t,ex++Xd (sgx σ p n) hout,n + m⟩ d (ren (sgx σ p n) r)
theorem Qhg {v:Bool} {d:Option Nat} {k:PK} {f:FuncId} {xs:List TV} {args:List AV} {hin hout:List (Nat × Bk)} {σ:Nat→Nat} {m n:Nat} {p:List Nat} {r:AV} {t:List (Nat × AV)} {ex:List (Nat × Bk)} (hq:GQ P c.gl f args hin m p (fun _:Unit=>True) (fun _=>r) (fun _=>hout))
  (ok:GxOk c.gl xs v f args σ p m t ex hin n) (hk:k=(bif v then .callv else .call f)) (hHL':HL hout m) (hr:Qe m r):Kj P c (.pd d k xs none) (⟨t,ex++Xd σ hin,n⟩:St).fs ⟨Xj xs,gxN σ m n,d.toList,gxN σ m n⟩ (Ja t ex hout σ p m n d r).fs:=by
 intro ops io he
 obtain ⟨hgd,hdst,hd,ys,hel,rfl⟩:=Zd he
 have hcallv:∀ (s2:FS) (g:Nat→GM) (a:Act) (w:World),(∀ i ∈ Xj (ys.map tvO),s2.T i=(⟨t,ex++Xd σ hin,n⟩:St).fs.T i)→R c g s2 a w→∃ vs:List Value,(execOp a.eval io).run P w=.ok (.enter f vs.toArray) w∧VRs g (Qn c g s2) w (rens σ args) vs:=fun s2 g a w hT hR=>by
  have hargs:=ok.hargs
  have hcok:=ok.cok
  cases v with
  | false =>
   subst hk
   obtain ⟨ts,hop⟩:=Qcy hel
   have hevs:evs c.gl s2 (ys.map tvO)=evs c.gl (⟨t,ex++Xd σ hin,n⟩:St).fs (ys.map tvO):=Ye fun i hi=>hT i hi
   have hv:=Yh (hR.evs ys) (by rw[hevs];exact hcok)
   rw[hevs]at hv
   simp only[Uz,cond_false,Option.some.injEq,Prod.mk.injEq,true_and]at hargs
   rw[hargs]at hv
   exact ⟨_,Qdz hq.1 hop a w,hv⟩
  | true =>
   subst hk
   obtain ⟨x,ys,ts,rfl,hop⟩:=Qhs hel
   have hevs:evs c.gl s2 ((x::ys).map tvO)=evs c.gl (⟨t,ex++Xd σ hin,n⟩:St).fs ((x::ys).map tvO):=Ye fun i hi=>hT i hi
   have hv:=Yh (hR.evs (x::ys)) (by rw[hevs];exact hcok)
   rw[hevs]at hv
   simp only[Uz,cond_true]at hargs
   generalize (evs c.gl (⟨t,ex++Xd σ hin,n⟩:St).fs ((x::ys).map tvO)).map Qj=zs at hargs hv
   cases zs with
   | nil=>simp[Qeq]at hargs
   | cons z zs =>
    unfold Qeq at hargs
    split at hargs
    ·rename_i f' caps' r' heq
     simp only[Option.some.injEq,Prod.mk.injEq]at hargs
     obtain ⟨rfl,hargs⟩:=hargs
     simp only[List.cons.injEq]at heq
     obtain ⟨rfl,rfl⟩:=heq
     rw[List.map_cons]at hv
     obtain ⟨h1,h2⟩:=hv
     generalize hx:a.eval x=vx at h1
     cases h1 with
     | cl hs h =>
      refine ⟨_,Qiu hq.1 hop a w _ hx,?_⟩
      rw[← hargs]
      exact Qf0 h2 (Qnj (xs:=caps') (us:=Array.toList _) (by simpa using hs) fun j hj=>by
       have:=h j hj
       simpa [Array.getD_eq_getD_getElem?,List.getD] using this)
    ·cases hargs
 have hxs:∀ (y:Option Nat) j,((Ja t ex hout σ p m n y r).fs.H j)=Qb (ex++Xd (sgx σ p n) hout) (n + m) j:=fun y j=>by cases y<;>rfl
 have hT':∀ i,(Ja t ex hout σ p m n d r).fs.T i=match d with|some d=>(if d=i then ren (sgx σ p n) r else look t i)|none=>look t i:=fun i=>by
  cases d with
  | none=>rfl
  | some d=>show look ((d,_)::t) i=_;rw[Zt]
 have offE:∀ b,b < m→∀ q ∈ ex,q.1≠σ b:=fun b hb q hq e=>(ok.hex q hq).1 b hb e.symm
 have offN:∀ b,∀ q ∈ ex,q.1≠n + b:=fun b q hq=>by have:=(ok.hex q hq).2;omega
 have fit:∀ b,b < m→(⟨t,ex++Xd σ hin,n⟩:St).fs.H (σ b)=Xf σ (Qb hin m b):=fun b hb=>by
  show Qb (ex++Xd σ hin) n (σ b)=_
  rw[Xn (offE b hb)];exact Kz ok.inj hb (fun q hq=>(ok.hl.mem q hq).1) (ok.hl.cov b hb)
 have sinj:=fun {b b'}=>@Qog σ p m n ok.inj ok.lt b b'
 have hmE:∀ q ∈ hin,q.1 < m:=fun q hq=>(ok.hl.mem q hq).1
 have hmO:∀ q ∈ hout,q.1 < m:=fun q hq=>(hHL'.mem q hq).1
 have free:∀ b,(⟨t,ex++Xd σ hin,n⟩:St).fs.H (n + b)=.free:=fun b=>by
  show Qb (ex++Xd σ hin) n (n + b)=_
  rw[Xn (offN b),Wb (fun b' hb' e=>by have:=ok.lt b' hb';omega) hmE,if_neg Zom]
 have e3H:∀ b,b < m→Qb (ex++Xd (sgx σ p n) hout) (n + m) (sgx σ p n b)=Xf (sgx σ p n) (Qb hout m b):=fun b hb=>by
  rw[Xn]
  ·exact Kz (fun b b' h1 h2 e=>sinj h1 h2 e) hb hmO (hHL'.cov b hb)
  ·by_cases h:b ∈ p
   ·rw[Wr h];exact offE b hb
   ·rw[Wi h];exact offN b
 have e3D:∀ b,b < m→b ∉ p→Qb (ex++Xd (sgx σ p n) hout) (n + m) (σ b)=.dead:=fun b hb hbp=>by
  rw[Xn (offE b hb),Wb (fun b' hb' e=>?_) hmO,if_pos (by have:=ok.lt b hb;omega)]
  by_cases h:b' ∈ p
  ·rw[Wr h]at e;exact hbp (ok.inj _ _ hb' hb e ▸ h)
  ·rw[Wi h]at e;have:=ok.lt b hb;omega
 have e3F:∀ b,b ∈ p→Qb (ex++Xd (sgx σ p n) hout) (n + m) (n + b)=.dead:=fun b hbp=>by
  have hb:=ok.pin b hbp
  rw[Xn (offN b),Wb (fun b' hb' e=>?_) hmO,if_pos Zom]
  by_cases h:b' ∈ p
  ·rw[Wr h]at e;have:=ok.lt b' hb';omega
  ·rw[Wi h]at e;exact h ((by omega:b'=b) ▸ hbp)
 have e3O:∀ j,Qal σ m j→(∀ b,b < m→n + b≠j)→Qb (ex++Xd (sgx σ p n) hout) (n + m) j=(⟨t,ex++Xd σ hin,n⟩:St).fs.H j:=fun j h1 h2=>by
  show _=Qb (ex++Xd σ hin) n j
  have ho:Qal (sgx σ p n) m j:=fun b hb e=>by
   by_cases h:b ∈ p
   ·rw[Wr h]at e;exact h1 b hb e
   ·rw[Wi h]at e;exact h2 b hb e
  have key:∀ l:List (Nat × Bk),Qb (l++Xd (sgx σ p n) hout) (n + m) j=Qb (l++Xd σ hin) n j:=fun l=>by
   induction l with
   | nil =>
    rw[List.nil_append,List.nil_append,Wb ho hmO,Wb h1 hmE]
    by_cases hj:j < n
    ·rw[if_pos hj,if_pos Zom]
    ·rw[if_neg hj,if_neg]
     intro hj2
     exact h2 (j - n) Zom Zom
   | cons q l ih=>obtain ⟨i,x⟩:=q;rw[List.cons_append,List.cons_append,Qc,Qc,ih]
  exact key ex
 have hN1:∀ b,b < m→sgx σ p n b ∈ gxN σ m n:=fun b hb=>by
  by_cases h:b ∈ p
  ·rw[Wr h];exact Qbv.2 (.inl ⟨b,hb,rfl⟩)
  ·rw[Wi h];exact Qbv.2 (.inr ⟨b,hb,rfl⟩)
 refine ⟨fun i hi=>?_,fun j hj=>?_,fun s2 hT hH g a w hR K Q' hK=>Yl (Jl hgd) ?_⟩
 ·rw[hT']
  cases d with
  | none=>rfl
  | some d=>simp only[Option.toList_some,List.mem_singleton]at hi;simp only;rw[if_neg fun e=>hi e.symm];rfl
 ·rw[hxs]
  exact e3O j (fun b hb e=>hj (Qbv.2 (.inl ⟨b,hb,e⟩))) (fun b hb e=>hj (Qbv.2 (.inr ⟨b,hb,e⟩)))
 ·obtain ⟨vs,hrun,hv⟩:=hcallv s2 g a w hT hR
  have fit2:∀ b,b < m→s2.H (σ b)=Xf σ (Qb hin m b):=fun b hb=>by rw[hH _ (Qbv.2 (.inl ⟨b,hb,rfl⟩))];exact fit b hb
  have fitI:Fit σ s2 hin m:=by
   refine ⟨fun q hq=>⟨hmE q hq,(ok.hl.mem q hq).2,?_⟩,fun q hq q' hq' e=>ok.inj _ _ (hmE q hq) (hmE q' hq') e⟩
   rw[fit2 q.1 (hmE q hq),ok.hl.self q hq]
  obtain ⟨g1,hg1,hRl,hWl⟩:=Xen hR fitI
  have hv1:=Qeg (g1:=g1) hg1 hWl ok.nm hv
  unfold Oper.wp
  rw[hrun]
  rw[Oper.upon_enter]
  refine (hq.2 w _ _ _ g1 hRl hv1).mono fun e w' ⟨x,v,g2,hQ,e1,e2,e3,e4⟩=>?_
  subst e1
  let s3:FS:=⟨s2.T,fun j=>if j ∈ gxN σ m n then Qb (ex++Xd (sgx σ p n) hout) (n + m) j else s2.H j⟩
  have s3in:∀ j,j ∈ gxN σ m n→s3.H j=Qb (ex++Xd (sgx σ p n) hout) (n + m) j:=fun j hj=>if_pos hj
  obtain ⟨g3,hR3,hval⟩:=Xwy (s3:=s3) (n0:=n) (p:=p) hR ok.inj ok.lt (fun b hb=>by rw[hH _ (Qbv.2 (.inr ⟨b,hb,rfl⟩))];exact free b) ok.hl hHL' fit2 ok.pin hg1 e3 e2 (fun i=>rfl)
   (fun b hb=>by rw[s3in _ (hN1 b hb)];exact e3H b hb) (fun b hb hbp=>by rw[s3in _ (Qbv.2 (.inl ⟨b,hb,rfl⟩))];exact e3D b hb hbp) (fun b hbp=>by rw[s3in _ (Qbv.2 (.inr ⟨b,ok.pin b hbp,rfl⟩))];exact e3F b hbp)
   (fun j h1 h2=>if_neg fun hj=>by
    rcases Qbv.1 hj with ⟨b,hb,e⟩|⟨b,hb,e⟩
    ·exact h1 b hb e
    ·exact h2 b hb e)
  have hv3:=hval hr e4
  show K (a.put io.dst v) w'
  rw[hdst]
  cases d with
  | none =>
   refine hK g3 _ w' ?_
   have:ovr s2 (Ja t ex hout σ p m n none r).fs ⟨Xj (ys.map tvO),gxN σ m n,[],gxN σ m n⟩=s3:=by
    refine Qap (fun i=>?_) fun j=>?_
    ·show (if i ∈ ([]:List Nat) then (Ja t ex hout σ p m n none r).fs.T i else s2.T i)=s2.T i
     simp
    ·show (if j ∈ gxN σ m n then (Ja t ex hout σ p m n none r).fs.H j else s2.H j)=_
     rw[hxs]
   show R c _ (ovr s2 (Ja t ex hout σ p m n none r).fs ⟨Xj (ys.map tvO),gxN σ m n,[],gxN σ m n⟩) _ _
   rw[this];exact hR3
  | some d =>
   refine hK g3 _ w' ?_
   have:ovr s2 (Ja t ex hout σ p m n (some d) r).fs ⟨Xj (ys.map tvO),gxN σ m n,[d],gxN σ m n⟩=s3.put d (ren (sgx σ p n) r):=by
    refine Qap (fun i=>?_) fun j=>?_
    ·show (if i ∈ [d] then (Ja t ex hout σ p m n (some d) r).fs.T i else s2.T i)=_
     rw[FS.T_put,hT']
     by_cases h:d=i
     ·subst h;simp
     ·rw[if_neg (by simpa using fun e:i=d=>h e.symm),if_neg h]
    ·show (if j ∈ gxN σ m n then (Ja t ex hout σ p m n (some d) r).fs.H j else s2.H j)=_
     rw[hxs];rfl
   show R c _ (ovr s2 (Ja t ex hout σ p m n (some d) r).fs ⟨Xj (ys.map tvO),gxN σ m n,[d],gxN σ m n⟩) _ _
   rw[this];exact hR3.put (by simpa using hd) hv3
abbrev GD (P:Program) (gl:Nat→AV) (f:FuncId) (args:List AV) (hin:List (Nat × Bk)) (m:Nat) (p:List Nat) (r:AV) (hout:List (Nat × Bk)):Prop:=GQ P gl f args hin m p (fun _:Unit=>True) (fun _=>r) (fun _=>hout)
theorem Xb3 {v:Bool} {d:Option Nat} {k:PK} {f:FuncId} {xs:List TV} {args:List AV} {hin hout:List (Nat × Bk)} {σ:Nat→Nat} {m n:Nat} {p:List Nat} {r:AV} {t:List (Nat × AV)} {ex:List (Nat × Bk)} {r0:List TOp} {K:St→Prop} (hq:GD P c.gl f args hin m p r hout)
  (ok:GxOk c.gl xs v f args σ p m t ex hin n) (hk:k=(bif v then .callv else .call f)) (hHL':HL hout m) (hr:Qe m r) (h:XP P c r0 K (Ja t ex hout σ p m n d r)):Yc P c (.pd d k xs none) r0 K ⟨t,ex++Xd σ hin,n⟩ :=
 .inl ⟨_,_,Qhg hq ok hk hHL' hr,h⟩
theorem Qsv {v:Bool} {d:Option Nat} {k:PK} {f:FuncId} {xs:List TV} {args:List AV} {hin hout:List (Nat × Bk)} {σ:Nat→Nat} {m n:Nat} {p:List Nat} {r:AV} {t:List (Nat × AV)} {ex:List (Nat × Bk)} {anc:List Nat} {fs:List Foot} {r0:List TOp} {K:St→Prop} (hq:GD P c.gl f args hin m p r hout)
  (ok:GxOk c.gl xs v f args σ p m t ex hin n) (hk:k=(bif v then .callv else .call f)) (hHL':HL hout m) (hr:Qe m r) (h:XD P c anc r0 (⟨Xj xs,gxN σ m n,d.toList,gxN σ m n⟩::fs) K (Ja t ex hout σ p m n d r)):Za P c anc (.pd d k xs none) r0 fs K ⟨t,ex++Xd σ hin,n⟩ :=
 ⟨_,_,Qhg hq ok hk hHL' hr,h⟩
end
structure Tm where
 id:Int
 due:Nat
 deriving DecidableEq,Inhabited
def Qkn (now due:Nat):Nat→Nat→Nat
 | 0,_=>64
 | f + 1,k=>if due / 16 ^ k < now / 16 ^ k + 16 then k * 16 + due / 16 ^ k % 16 else Qkn now due f (k + 1)
def Yp (now due:Nat):Nat:=Qkn now due 4 0
theorem Qqf (now due:Nat):Yp now due=if due < now + 16 then due % 16 else if due / 16 < now / 16 + 16 then 16 + due / 16 % 16 else if due / 256 < now / 256 + 16 then 32 + due / 256 % 16 else if due / 4096 < now / 4096 + 16 then 48 + due / 4096 % 16 else 64:=by
 simp[Yp,Qkn]
theorem Qa9 (now due:Nat):Yp now due < 65:=by
 rw[Qqf];(repeat' split)<;>omega
def Pl (now i due:Nat):Prop :=
 if i < 16 then due % 16=i∧now≤due∧due < now + 16
 else if i < 32 then due / 16 % 16=i - 16∧now / 16 < due / 16∧due / 16 < now / 16 + 16
 else if i < 48 then due / 256 % 16=i - 32∧now / 256 < due / 256∧due / 256 < now / 256 + 16
 else if i < 64 then due / 4096 % 16=i - 48∧now / 4096 < due / 4096∧due / 4096 < now / 4096 + 16
 else now / 65536 < due / 65536
theorem Qjy {now due:Nat} (h:now≤due):Pl now (Yp now due) due:=by
 rw[Qqf]
 unfold Pl
 split
 ·rw[if_pos Zom];omega
 split
 ·rw[if_neg Zom,if_pos Zom];omega
 split
 ·rw[if_neg Zom,if_neg Zom,if_pos Zom];omega
 split
 ·rw[if_neg Zom,if_neg Zom,if_neg Zom,if_pos Zom];omega
 ·rw[if_neg Zom,if_neg Zom,if_neg Zom,if_neg Zom];omega
def PlG (now L i due:Nat):Prop :=
 if i < 16 then due % 16=i∧now≤due∧due < now + 16
 else if i < 32 then due / 16 % 16=i - 16∧(now - 1) / 16 < due / 16∧due / 16 < now / 16 + 16∧(1 < L→now / 16 < due / 16)
 else if i < 48 then due / 256 % 16=i - 32∧(now - 1) / 256 < due / 256∧due / 256 < now / 256 + 16∧(2 < L→now / 256 < due / 256)
 else if i < 64 then due / 4096 % 16=i - 48∧(now - 1) / 4096 < due / 4096∧due / 4096 < now / 4096 + 16∧(3 < L→now / 4096 < due / 4096)
 else (now - 1) / 65536 < due / 65536∧(4 < L→now / 65536 < due / 65536)
theorem Pl.g {now L i due:Nat} (h:Pl now i due):PlG now L i due:=by
 unfold Pl at h
 unfold PlG
 (repeat' split)<;>(first|(rw[if_pos (by omega)]at h;omega)|(rw[if_neg (by omega),if_pos (by omega)]at h;omega)|(rw[if_neg (by omega),if_neg (by omega),if_pos (by omega)]at h;omega)|(rw[if_neg (by omega),if_neg (by omega),if_neg (by omega),if_pos (by omega)]at h;omega)|(rw[if_neg (by omega),if_neg (by omega),if_neg (by omega),if_neg (by omega)]at h;omega))
theorem Pl.next {now i due:Nat} (h:Pl now i due) (hd:now < due):PlG (now + 1) 1 i due:=by
 unfold Pl at h
 unfold PlG
 (repeat' split)<;>(first|(rw[if_pos (by omega)]at h;omega)|(rw[if_neg (by omega),if_pos (by omega)]at h;omega)|(rw[if_neg (by omega),if_neg (by omega),if_pos (by omega)]at h;omega)|(rw[if_neg (by omega),if_neg (by omega),if_neg (by omega),if_pos (by omega)]at h;omega)|(rw[if_neg (by omega),if_neg (by omega),if_neg (by omega),if_neg (by omega)]at h;omega))
structure RI (P:Nat→Nat→Prop) (rows:List (List Tm)) (D:List Tm):Prop where
 len:rows.length=65
 perm:rows.flatten.Perm D
 pl:∀ i,i < 65→∀ t ∈ rows.getD i [],P i t.due
theorem Qd4 (rows:List (List Tm)) {i:Nat} (hi:i < rows.length) (l:List Tm) (j:Nat):(rows.set i l).getD j []=if j=i then l else rows.getD j []:=by
 simp only[List.getD,List.getElem?_set]
 by_cases e:i=j
 ·subst e;rw[if_pos rfl,if_pos hi,if_pos rfl];rfl
 ·rw[if_neg e,if_neg fun q=>e q.symm]
theorem Qia:∀ (rows:List (List Tm)) (i:Nat),i < rows.length→∀ l,(rows.set i l).flatten.Perm (l++(rows.set i []).flatten)
 | r::rows,0,_,l=>by simp
 | r::rows,i + 1,h,l=>by
  simp only[List.set_cons_succ,List.flatten_cons]
  refine ((Qia rows i (by simpa using h) l).append_left r).trans ?_
  rw[← List.append_assoc,← List.append_assoc]
  exact List.perm_append_comm.append_right _
theorem Qie {rows:List (List Tm)} {i:Nat} (h:i < rows.length):rows.getD i []=rows[i]:=by simp[List.getD,h]
theorem Xt4 (rows:List (List Tm)) (i:Nat) (h:i < rows.length):rows.set i (rows.getD i [])=rows:=by
 rw[Qie h,List.set_getElem_self]
theorem Qcf (rows:List (List Tm)) (i:Nat) (h:i < rows.length):rows.flatten.Perm (rows.getD i []++(rows.set i []).flatten):=by
 have:=Qia rows i h (rows.getD i [])
 rwa [Xt4 rows i h]at this
def Xb (now:Nat) (rows:List (List Tm)) (t:Tm):List (List Tm):=rows.set (Yp now t.due) (rows.getD (Yp now t.due) []++[t])
theorem Xs6 (now:Nat) (rows:List (List Tm)) (t:Tm):(Xb now rows t).length=rows.length:=by simp[Xb]
theorem RI.lay {P:Nat→Nat→Prop} {rows:List (List Tm)} {D:List Tm} (h:RI P rows D) {now:Nat} {t:Tm} (ht:P (Yp now t.due) t.due):RI P (Xb now rows t) (t::D):=by
 have hl:=h.len
 have hs:=Qa9 now t.due
 refine ⟨by rw[Xs6,hl],?_,fun i hi x hx=>?_⟩
 ·unfold Xb
  refine (Qia rows _ Zom _).trans ?_
  refine (List.Perm.trans ?_ (List.Perm.cons t ((Qcf rows (Yp now t.due) Zom).symm.trans h.perm)))
  rw[List.append_assoc]
  exact List.perm_middle
 ·unfold Xb at hx
  rw[Qd4 _ Zom]at hx
  split at hx
  ·rename_i e
   rcases List.mem_append.1 hx with hx|hx
   ·exact h.pl i hi x (by rw[e];exact hx)
   ·obtain rfl:=List.mem_singleton.1 hx
    rw[e];exact ht
  ·exact h.pl i hi x hx
theorem RI.lays {P:Nat→Nat→Prop} {now:Nat}:∀ (l:List Tm) {rows:List (List Tm)} {D:List Tm},RI P rows D→(∀ t ∈ l,P (Yp now t.due) t.due)→RI P (l.foldl (Xb now) rows) (l.reverse++D)
 | [],_,_,h,_=>h
 | t::l,rows,D,h,hl=>by
  have:=RI.lays l (h.lay (hl t Zsi)) fun x hx=>hl x (by simp[hx])
  simpa using this
theorem RI.of_perm {P:Nat→Nat→Prop} {rows:List (List Tm)} {D D':List Tm} (h:RI P rows D) (hp:D.Perm D'):RI P rows D':=⟨h.len,h.perm.trans hp,h.pl⟩
theorem RI.mono {P P':Nat→Nat→Prop} {rows:List (List Tm)} {D:List Tm} (h:RI P rows D) (hp:∀ i,i < 65→∀ t ∈ rows.getD i [],P i t.due→P' i t.due):RI P' rows D:=⟨h.len,h.perm,fun i hi t ht=>hp i hi t ht (h.pl i hi t ht)⟩
theorem Qo6 {P:Nat→Nat→Prop} {rows:List (List Tm)} {D:List Tm} (h:RI P rows D) {i:Nat} (hi:i < 65) {t:Tm} (ht:t ∈ rows.getD i []):t ∈ D:=by
 have hl:=h.len
 exact h.perm.mem_iff.1 ((Qcf rows i Zom).mem_iff.2 (List.mem_append_left _ ht))
def relay (now:Nat) (rows:List (List Tm)) (i:Nat):List (List Tm):=(rows.getD i []).foldl (Xb now) (rows.set i [])
theorem RI.relay {P:Nat→Nat→Prop} {rows:List (List Tm)} {D:List Tm} (h:RI P rows D) {now i:Nat} (hi:i < 65) (hP:∀ t ∈ rows.getD i [],P (Yp now t.due) t.due):RI P (relay now rows i) D:=by
 have hl:=h.len
 have h0:RI P (rows.set i []) (rows.set i []).flatten:=⟨by simp[hl],List.Perm.refl _,fun j hj t ht=>by
  rw[Qd4 _ Zom]at ht
  split at ht
  ·cases ht
  ·exact h.pl j hj t ht⟩
 refine (RI.lays _ h0 hP).of_perm (List.Perm.trans ?_ ((Qcf rows i Zom).symm.trans h.perm))
 exact (List.reverse_perm _).append_right _
def Qb5 (now L:Nat):Nat:=if L < 4 then L * 16 + now / 16 ^ L % 16 else 64
def Zx (now:Nat):Nat→Nat→List (List Tm)→List (List Tm)
 | 0,_,rows=>rows
 | f + 1,L,rows=>if now % 16 ^ L=0 then Zx now f (L + 1) (relay now rows (Qb5 now L)) else rows
theorem RI.turn {rows:List (List Tm)} {D:List Tm} {now L:Nat} (h:RI (PlG now L) rows D) (hD:∀ t ∈ D,now≤t.due) (h0:0 < now) (h1:1≤L) (h4:L≤4) (hm:now % 16 ^ L=0):RI (PlG now (L + 1)) (Proofs.YtogckmommodmhaaGreatDoor.relay now rows (Qb5 now L)) D:=by
 have hi:Qb5 now L < 65:=by unfold Qb5;split<;>omega
 have hl:=h.len
 have key:∀ j,j < 65→∀ t ∈ (rows.set (Qb5 now L) []).getD j [],PlG now (L + 1) j t.due:=fun j hj t ht=>by
  rw[Qd4 _ Zom]at ht
  split at ht
  ·cases ht
  ·rename_i hne
   have hp:=h.pl j hj t ht
   unfold Qb5 at hne
   unfold PlG at hp ⊢
   obtain rfl|rfl|rfl|rfl:L=1∨L=2∨L=3∨L=4:=by omega
   all_goals simp only[Nat.reducePow,Nat.reduceLT,↓reduceIte,Nat.reduceMul,Nat.reduceAdd,Nat.reduceLeDiff]at hm hne hp ⊢
   all_goals (repeat' split)<;>(first|(rw[if_pos (by omega)]at hp;omega)|(rw[if_neg (by omega),if_pos (by omega)]at hp;omega)|(rw[if_neg (by omega),if_neg (by omega),if_pos (by omega)]at hp;omega)|(rw[if_neg (by omega),if_neg (by omega),if_neg (by omega),if_pos (by omega)]at hp;omega)|(rw[if_neg (by omega),if_neg (by omega),if_neg (by omega),if_neg (by omega)]at hp;omega))
 have hs:RI (PlG now (L + 1)) (rows.set (Qb5 now L) []) (rows.set (Qb5 now L) []).flatten:=⟨by simp[hl],List.Perm.refl _,key⟩
 have:=RI.lays (rows.getD (Qb5 now L) []) hs (now:=now) fun t ht=>(Qjy (hD t (Qo6 h hi ht))).g
 refine this.of_perm (List.Perm.trans ?_ ((Qcf rows (Qb5 now L) Zom).symm.trans h.perm))
 exact (List.reverse_perm _).append_right _
theorem RI.done {rows:List (List Tm)} {D:List Tm} {now L:Nat} (h:RI (PlG now L) rows D) (h0:0 < now) (hL:1≤L) (hm:L≤4→now % 16 ^ L≠0):RI (Pl now) rows D:=by
 refine h.mono fun i hi t ht hp=>?_
 unfold PlG at hp
 unfold Pl
 obtain rfl|rfl|rfl|rfl|h5:L=1∨L=2∨L=3∨L=4∨5≤L:=by omega
 all_goals try simp only[Nat.reducePow,Nat.reduceLeDiff,ne_eq,forall_const]at hm
 all_goals (repeat' split)<;>(first|(rw[if_pos (by omega)]at hp;omega)|(rw[if_neg (by omega),if_pos (by omega)]at hp;omega)|(rw[if_neg (by omega),if_neg (by omega),if_pos (by omega)]at hp;omega)|(rw[if_neg (by omega),if_neg (by omega),if_neg (by omega),if_pos (by omega)]at hp;omega)|(rw[if_neg (by omega),if_neg (by omega),if_neg (by omega),if_neg (by omega)]at hp;omega))
theorem RI.step {rows:List (List Tm)} {D:List Tm} {now:Nat} (hD:∀ t ∈ D,now≤t.due) (h0:0 < now):∀ (f L:Nat) (rows:List (List Tm)),f + L=5→1≤L→RI (PlG now L) rows D→RI (Pl now) (Zx now f L rows) D
 | 0,L,rows,hf,hL,h=>h.done h0 hL Zom
 | f + 1,L,rows,hf,hL,h=>by
  unfold Zx
  split
  ·rename_i hm
   exact RI.step (rows:=rows) hD h0 f (L + 1) _ Zom Zom (h.turn hD h0 hL Zom hm)
  ·rename_i hm
   exact h.done h0 hL fun _=>hm
theorem RI.tick {rows:List (List Tm)} {D:List Tm} {now:Nat} (h:RI (Pl now) rows D) (hD:∀ t ∈ D,now < t.due):RI (Pl (now + 1)) (Zx (now + 1) 4 1 rows) D :=
 RI.step (rows:=rows) (fun t ht=>hD t ht) Zom 4 1 rows rfl Zom (h.mono fun i hi t ht hp=>hp.next (hD t (Qo6 h hi ht)))
theorem RI.anew {D l:List Tm} {now:Nat} (hl:l.Perm D) (hD:∀ t ∈ D,now≤t.due):RI (Pl now) (l.foldl (Xb now) (List.replicate 65 [])) D:=by
 have h0:RI (Pl now) (List.replicate 65 []) []:=⟨by simp,by simp,fun i hi t ht=>by
  have:(List.replicate 65 ([]:List Tm)).getD i []=[]:=by rw[List.getD,List.getElem?_replicate,if_pos hi];rfl
  rw[this]at ht;cases ht⟩
 have:=RI.lays l h0 (now:=now) fun t ht=>Qjy (hD t (hl.mem_iff.1 ht))
 rw[List.append_nil]at this
 exact this.of_perm ((List.reverse_perm l).trans hl)
theorem RI.now_row {rows:List (List Tm)} {D:List Tm} {now:Nat} (h:RI (Pl now) rows D):(rows.getD (now % 16) []).Perm (D.filter fun t=>t.due == now)∧RI (Pl now) (rows.set (now % 16) []) (D.filter fun t=>!(t.due == now)):=by
 have hl:=h.len
 have hi:now % 16 < 65:=by omega
 have e1:(rows.getD (now % 16) []).filter (fun t=>t.due == now)=rows.getD (now % 16) []:=List.filter_eq_self.2 fun t ht=>by
  have:=h.pl _ hi t ht
  unfold Pl at this
  rw[if_pos Zom]at this
  exact beq_iff_eq.2 Zom
 have off:∀ t ∈ (rows.set (now % 16) []).flatten,t.due≠now:=fun t ht e=>by
  obtain ⟨r,hr,ht⟩:=List.mem_flatten.1 ht
  obtain ⟨j,hj,rfl⟩:=List.mem_iff_getElem.1 hr
  rw[List.length_set]at hj
  have hg:t ∈ (rows.set (now % 16) []).getD j []:=by rw[Qie (by rw[List.length_set];exact hj)];exact ht
  rw[Qd4 _ Zom]at hg
  split at hg
  ·cases hg
  ·rename_i hne
   have:=h.pl j Zom t hg
   unfold Pl at this
   subst e
   (repeat' split at this)<;>omega
 have e2:(rows.set (now % 16) []).flatten.filter (fun t=>t.due == now)=[]:=List.filter_eq_nil_iff.2 fun t ht=>by simpa using off t ht
 have e3:(rows.set (now % 16) []).flatten.filter (fun t=>!(t.due == now))=(rows.set (now % 16) []).flatten:=List.filter_eq_self.2 fun t ht=>by simpa using off t ht
 have e4:(rows.getD (now % 16) []).filter (fun t=>!(t.due == now))=[]:=List.filter_eq_nil_iff.2 fun t ht=>by
  have:=(List.filter_eq_self.1 e1) t ht
  simpa using this
 have hp:=(Qcf rows (now % 16) Zom).symm.trans h.perm
 constructor
 ·have:=hp.filter fun t=>t.due == now
  rwa [List.filter_append,e1,e2,List.append_nil]at this
 ·refine ⟨by simp[hl],?_,fun j hj t ht=>?_⟩
  ·have:=hp.filter fun t=>!(t.due == now)
   rwa [List.filter_append,e3,e4,List.nil_append]at this
  ·rw[Qd4 _ Zom]at ht
   split at ht
   ·cases ht
   ·exact h.pl j hj t ht
theorem RI.filter {P:Nat→Nat→Prop} {rows:List (List Tm)} {D:List Tm} (h:RI P rows D) (p:Tm→Bool):RI P (rows.map (List.filter p)) (D.filter p):=by
 refine ⟨by simp[h.len],?_,fun i hi t ht=>?_⟩
 ·rw[← List.filter_flatten];exact h.perm.filter p
 ·have hl:=h.len
  rw[Qie (by simp;omega),List.getElem_map]at ht
  have:=(List.mem_filter.1 ht).1
  rw[← Qie Zom]at this
  exact h.pl i hi t this
theorem RI.row_le {P:Nat→Nat→Prop} {rows:List (List Tm)} {D:List Tm} (h:RI P rows D) {i:Nat} (hi:i < 65):(rows.getD i []).length≤D.length:=by
 have hl:=h.len
 have:=((Qcf rows i Zom).symm.trans h.perm).length_eq
 rw[List.length_append]at this
 omega
def leT (a b:Tm):Bool:=decide (a.due < b.due) || (a.due == b.due && decide (a.id≤b.id))
theorem Qfb {a b:Tm}:leT a b=true ↔ a.due < b.due∨a.due=b.due∧a.id≤b.id:=by simp[leT]
theorem Xhm (a b c:Tm) (h1:leT a b=true) (h2:leT b c=true):leT a c=true:=by
 rw[Qfb]at *;omega
theorem Xk6 (a b:Tm):(leT a b || leT b a)=true:=by
 rw[Bool.or_eq_true,Qfb,Qfb];omega
theorem Xrf {a b:Tm} (h1:leT a b=true) (h2:leT b a=true):a=b:=by
 rw[Qfb]at *
 cases a;cases b
 simp only[Tm.mk.injEq]at *
 omega
def srt (l:List Tm):List Tm:=l.mergeSort leT
theorem Ky (l:List Tm):(srt l).Perm l:=List.mergeSort_perm l leT
theorem Qhc (l:List Tm):(srt l).Pairwise fun a b=>leT a b=true:=List.pairwise_mergeSort Xhm Xk6 l
theorem Qv2 {l m:List Tm} (hp:m.Perm l) (hm:m.Pairwise fun a b=>leT a b=true):srt l=m :=
 List.Perm.eq_of_pairwise (fun _ _ _ _ h1 h2=>Xrf h1 h2) (Qhc l) hm ((Ky l).trans hp.symm)
theorem Qx2 {l m:List Tm} (hp:m.Perm l):srt m=srt l:=(Qv2 ((Ky m).trans hp) (Qhc m)).symm
def outT (D:List Tm) (n:Nat):List Int:=(srt (D.filter fun t=>decide (t.due < n))).map (·.id)
def Qex (l:List Int):List Int:=l.mergeSort fun x y=>decide (x≤y)
theorem Xaw {l m:List Int} (hp:m.Perm l) (hm:m.Pairwise (·≤·)):Qex l=m:=by
 refine List.Perm.eq_of_pairwise (le:=fun a b:Int=>a≤b) (fun _ _ _ _ h1 h2=>by omega) ?_ hm ((List.mergeSort_perm l _).trans hp.symm)
 have:=List.pairwise_mergeSort (le:=fun x y:Int=>decide (x≤y)) (fun a b c h1 h2=>by simp at *;omega) (fun a b=>by simp;omega) l
 exact this.imp fun h=>by simpa using h
theorem Qmx {l:List Tm} {n:Nat} (hn:∀ t ∈ l,t.due=n) (h:l.Pairwise fun a b=>leT a b=true):(l.map (·.id)).Pairwise (·≤·):=by
 rw[List.pairwise_map]
 refine h.imp_of_mem fun {a b} ha hb hab=>?_
 have:=hn a ha;have:=hn b hb
 rw[Qfb]at hab;omega
theorem Xna (D:List Tm) (n:Nat) (l:List Tm) (hl:l.Perm (D.filter fun t=>t.due == n)):outT D (n + 1)=outT D n++Qex (l.map (·.id)):=by
 have h1:srt (D.filter fun t=>decide (t.due < n + 1))=srt (D.filter fun t=>decide (t.due < n))++srt (D.filter fun t=>t.due == n):=by
  refine Qv2 ?_ ?_
  ·refine ((Ky _).append (Ky _)).trans ?_
   have:=List.filter_append_perm (fun t:Tm=>decide (t.due < n)) (D.filter fun t=>decide (t.due < n + 1))
   rw[List.filter_filter,List.filter_filter]at this
   refine List.Perm.trans (List.Perm.of_eq ?_) this
   congr 1
   ·exact List.filter_congr fun t _=>by by_cases h:t.due < n<;>simp[h]<;>omega
   ·refine List.filter_congr fun t _=>?_
    by_cases h:t.due=n
    ·simp[h]
    ·have:(t.due == n)=false:=by simpa using h
     rw[this]
     by_cases h2:t.due < n
     ·simp[h2]
     ·have h3:¬ t.due < n + 1:=by omega
      simp[h3]
  ·refine List.pairwise_append.2 ⟨Qhc _,Qhc _,fun a ha b hb=>?_⟩
   have ha:=(List.mem_filter.1 ((Ky _).mem_iff.1 ha)).2
   have hb:=(List.mem_filter.1 ((Ky _).mem_iff.1 hb)).2
   rw[Qfb]
   simp at ha hb;omega
 have h2:Qex (l.map (·.id))=(srt (D.filter fun t=>t.due == n)).map (·.id) :=
  Xaw (((Ky _).trans hl.symm).map _) (Qmx (n:=n) (fun t ht=>by
   have:=(List.mem_filter.1 ((Ky _).mem_iff.1 ht)).2
   simpa using this) (Qhc _))
 unfold outT
 rw[h1,List.map_append,h2]
theorem Xjh (D:List Tm) {n m:Nat} (hnm:n≤m) (h:∀ t ∈ D,n≤t.due→m≤t.due):outT D m=outT D n:=by
 unfold outT
 rw[List.filter_congr fun t ht=>(by have:=h t ht;by_cases h1:t.due < n<;>by_cases h2:t.due < m<;>simp[h1,h2]<;>omega:decide (t.due < m)=decide (t.due < n))]
theorem Xjf (D:List Tm) (n:Nat) (h:∀ t ∈ D,n≤t.due):outT D n=[]:=by
 unfold outT
 rw[List.filter_eq_nil_iff.2 fun t ht=>(by have:=h t ht;simp;omega)]
 simp[srt]
theorem Xuu:FT Tryz.prog 70 Tryz.f70 (tcO Tryz.prog Tryz.f70) [.t 2,.t 3]:=.of Tryz.func70
theorem Qpd:FT Tryz.prog 131 Tryz.f131 (tcO Tryz.prog Tryz.f131) [.t 6]:=.of Tryz.func131
theorem Qof:FT Tryz.prog 98 Tryz.f98 (tcO Tryz.prog Tryz.f98) [.t 4,.t 5]:=.of Tryz.func98
theorem Xvq:FT Tryz.prog 63 Tryz.f63 (tcO Tryz.prog Tryz.f63) [.t 2]:=.of Tryz.func63
theorem Qey:FT Tryz.prog 164 Tryz.f164 (tcO Tryz.prog Tryz.f164) [.t 4]:=.of Tryz.func164
theorem Qyn:FT Tryz.prog 165 Tryz.f165 (tcO Tryz.prog Tryz.f165) []:=.of Tryz.func165
theorem Qrk:FT Tryz.prog 137 Tryz.f137 (tcO Tryz.prog Tryz.f137) [.t 4]:=.of Tryz.func137
theorem Qlg:FT Tryz.prog 138 Tryz.f138 (tcO Tryz.prog Tryz.f138) []:=.of Tryz.func138
theorem Qe1:FT Tryz.prog 139 Tryz.f139 (tcO Tryz.prog Tryz.f139) []:=.of Tryz.func139
theorem Xvy:FT Tryz.prog 176 Tryz.f176 (tcO Tryz.prog Tryz.f176) [.t 3]:=.of Tryz.func176
theorem Qz4:FT Tryz.prog 177 Tryz.f177 (tcO Tryz.prog Tryz.f177) [.t 4]:=.of Tryz.func177
theorem Qyt:FT Tryz.prog 181 Tryz.f181 (tcO Tryz.prog Tryz.f181) [.t 4]:=.of Tryz.func181
theorem Xyo (Q:AV × AV→Prop) (a:AV × AV) (l:List (AV × AV)):(∀ x,x ∈ a::l→Q x)=(Q a∧∀ x,x ∈ l→Q x):=propext List.forall_mem_cons
theorem Xze (Q:AV × AV→Prop):(∀ x,x ∈ ([]:List (AV × AV))→Q x)=True:=by simp
theorem Xld (s:FS):rvs s []=.tup []:=rfl
theorem Qwk (ρ:Nat→Nat) (kvs:List (AV × AV)) (dn:Bool):Xf ρ (.mapb kvs dn)=.mapb (kvs.map fun p=>(ren ρ p.1,ren ρ p.2)) dn:=rfl
attribute [go_sem] Xyo Xze Xld Qwk
theorem mtD:MapT Tryz.prog 147 false [.int .i64] (.int .i64 0):=MapT.mk' (by kernel_rfl)
def whN (n:Int):List AV:=[.int .i64 n,.nils,.nils,.nils,.nils,.nils,.nils,.nils,.nils,.nils,.nils,.nils,.nils,.nils,.nils,.nils,.nils,.nils,.nils,.nils,.nils,.nils,.nils,.nils,.nils,.nils,.nils,.nils,.nils,.nils,.nils,.nils,.nils,.nils,.nils,.nils,.nils,.nils,.nils,.nils,.nils,.nils,.nils,.nils,.nils,.nils,.nils,.nils,.nils,.nils,.nils,.nils,.nils,.nils,.nils,.nils,.nils,.nils,.nils,.nils,.nils,.nils,.nils,.nils,.nils,.nils,.mp 1]
theorem Xul (gl:Nat→AV) (n:Int) (h0:0≤n) (h1:n≤1099511627776):GS Tryz.prog gl 70 [.int .i64 n] [] 0 (.tup [.ptr 0 0,.int .i64 0]) [(0,.cells (whN n)),(1,.mapb [] true)] 2:=by
 refine Xuu.gs (of_decide_eq_true rfl) (by simp[Bk.live]) fun c hgh hg=>?_
 conv in tcO _ _=>cbv
 refine Qd ?_
 (refine Qa (fun h2=>?_) (fun h2=>?_)<;>try exact h2.elim)
 ·omega
 refine Qd ?_
 (refine Xgs mtD ?_;(refine XG ?_;((try (repeat' with_reducible refine And.intro ?_ ?_));(try any_goals (first|refine zm ?_|exact CL|fail)))))
 refine ⟨[(0,1),(1,0)],?_⟩
 exact Qq @whN.eq_1
def tms:List Tm→List AV
 | []=>[]
 | t::l=>.int .i64 t.id::.int .i64 t.due::tms l
theorem Zf:∀ l,(tms l).length=l.length * 2
 | []=>rfl
 | t::l=>by simp[tms,Zf l];omega
theorem Qbm:∀ l m,tms (l++m)=tms l++tms m
 | [],m=>rfl
 | t::l,m=>by simp[tms,Qbm l m]
theorem Qaq (n:Nat):∀ l,nmAll n (tms l)=True
 | []=>by simp[tms,nmAll]
 | t::l=>by simp[tms,nmAll,Qe,Qaq n l]
theorem Qam (ρ:Nat→Nat):∀ l,rens ρ (tms l)=tms l
 | []=>by simp[tms,rens]
 | t::l=>by simp[tms,rens,ren,Qam ρ l]
theorem Qrm (S:Nat→Prop):∀ l,nmPs S (tms l)=True
 | []=>by simp[tms,nmPs]
 | t::l=>by simp[tms,nmPs,nmP,Qrm S l]
theorem Qd1:∀ (l:List Tm) (i:Nat) (h:i < l.length),((tms l).drop (i * 2)).take 2=[.int .i64 l[i].id,.int .i64 l[i].due]
 | t::l,0,_=>rfl
 | t::l,i + 1,h=>by
  have:=Qd1 l i (by simpa using h)
  rw[show (i + 1) * 2=i * 2 + 1 + 1 by omega]
  simpa [tms] using this
attribute [go_sem] Qaq Qam
def tmB (l:List Tm):List (List AV):=l.map fun t=>[.int .i64 t.id,.int .i64 t.due]
theorem Qm0:∀ l,(tmB l).flatten=tms l
 | []=>rfl
 | t::l=>by
  have:=Qm0 l
  simp only[tmB]at this
  simp[tmB,tms,this]
theorem Xyu (l:List Tm):∀ x ∈ tmB l,nmAll 0 x:=fun x hx=>by
 obtain ⟨t,_,rfl⟩:=List.mem_map.1 hx
 simp[nmAll,Qe]
theorem Qu2 {α β:Type} (f:α→β):∀ {l' l:List β},l'.Perm l→∀ l0:List α,l=l0.map f→∃ l1:List α,l1.Perm l0∧l'=l1.map f:=fun {l' l} h=>by
 induction h with
 | nil=>intro l0 e;exact ⟨[],by cases l0<;>simp_all,rfl⟩
 | cons x h ih =>
  intro l0 e
  cases l0 with
  | nil=>simp at e
  | cons a l0 =>
   simp only[List.map_cons,List.cons.injEq]at e
   obtain ⟨l1,h1,h2⟩:=ih l0 e.2
   exact ⟨a::l1,h1.cons a,by rw[h2,e.1];rfl⟩
 | swap x y l =>
  intro l0 e
  match l0,e with
  | a::b::l0,e =>
   simp only[List.map_cons,List.cons.injEq]at e
   exact ⟨b::a::l0,List.Perm.swap a b l0,by simp[e.1,e.2.1,e.2.2]⟩
 | trans h1 h2 ih1 ih2 =>
  intro l0 e
  obtain ⟨l1,h3,h4⟩:=ih2 l0 e
  obtain ⟨l2,h5,h6⟩:=ih1 l1 h4
  exact ⟨l2,h5.trans h3,h6⟩
theorem Xum {g:Nat→GM} {W:Nat→Prop} {w:World} {m:GM} {l:List Tm} (h:BR g W w m (.bag (tmB l))):∃ l':List Tm,l'.Perm l∧BR g W w m (.cells (tms l')):=by
 cases h with
 | bag hp h =>
  obtain ⟨l',h1,h2⟩:=Qu2 _ hp l rfl
  rw[h2]at h
  exact ⟨l',h1,by rw[← Qm0];exact h⟩
theorem Qzv {g:Nat→GM} {W:Nat→Prop} {w:World} {m:GM} {l l':List Tm} (h:BR g W w m (.cells (tms l'))) (hp:l'.Perm l):BR g W w m (.bag (tmB l)):=by
 rw[← Qm0]at h
 exact .bag (hp.map _) h
def Qb7:List (List Tm)→Nat→List AV
 | [],_=>[]
 | r::l,k=>.sl 2 (2 + k) 0 r.length r.length::Qb7 l (k + 1)
def Jt:List (List Tm)→Nat→List (Nat × Bk)
 | [],_=>[]
 | r::l,k=>(2 + k,.cells (tms r))::Jt l (k + 1)
structure WT where
 now:Nat
 rows:List (List Tm)
 mb:Bk
def WT.row (T:WT) (i:Nat):List Tm:=T.rows.getD i []
def WT.cells (T:WT):List AV:=.int .i64 T.now::(Qb7 T.rows 0++[.mp 1])
def WT.h (T:WT):List (Nat × Bk):=(0,.cells T.cells)::(1,T.mb)::Jt T.rows 0
def Qf1:List (List Tm)→Nat→List (Nat × Bk)
 | [],_=>[]
 | r::l,k=>(2 + k,.bag (tmB r))::Qf1 l (k + 1)
def WT.hb (T:WT):List (Nat × Bk):=(0,.cells T.cells)::(1,T.mb)::Qf1 T.rows 0
structure WT.sim (T' T:WT):Prop where
 now:T'.now=T.now
 mb:T'.mb=T.mb
 len:T'.rows.length=T.rows.length
 row:∀ i,(T'.row i).Perm (T.row i)
theorem WT.sim_refl (T:WT):T.sim T:=⟨rfl,rfl,rfl,fun _=>List.Perm.refl _⟩
theorem Qu0:∀ (l l':List (List Tm)) (k:Nat),l.length=l'.length→(∀ i,(l.getD i []).Perm (l'.getD i []))→Qb7 l k=Qb7 l' k
 | [],[],_,_,_=>rfl
 | r::l,r'::l',k,hl,h=>by
  have h0:=(h 0).length_eq
  simp only[List.getD_cons_zero]at h0
  simp only[Qb7,h0]
  rw[Qu0 l l' (k + 1) (by simpa using hl) fun i=>by have:=h (i + 1);simpa only[List.getD_cons_succ] using this]
theorem WT.sim_cells {T T':WT} (h:T'.sim T):T'.cells=T.cells:=by
 unfold WT.cells
 rw[h.now,Qu0 _ _ 0 h.len h.row]
def WT.put (T:WT) (i:Nat) (l:List Tm):WT:={ T with rows:=T.rows.set i l }
structure WT.wf (T:WT):Prop where
 len:T.rows.length=65
 mb:nmB 2 T.mb
theorem WT.put_wf {T:WT} (h:T.wf) (i:Nat) (l:List Tm):(T.put i l).wf:=⟨by simp[WT.put,h.len],h.mb⟩
theorem WT.row_put {T:WT} (h:T.wf) {i:Nat} (hi:i < 65) (l:List Tm) (j:Nat):(T.put i l).row j=if j=i then l else T.row j:=by
 have hl:=h.len
 unfold WT.row WT.put
 simp only[List.getD,List.getElem?_set]
 by_cases e:i=j
 ·subst e;rw[if_pos rfl,if_pos Zom,if_pos rfl];rfl
 ·rw[if_neg e,if_neg (fun q=>e q.symm)]
theorem Qdx:∀ (l:List (List Tm)) (k:Nat),(Qb7 l k).length=l.length
 | [],_=>rfl
 | r::l,k=>by simp[Qb7,Qdx l (k + 1)]
theorem Qtc:∀ (l:List (List Tm)) (k i:Nat),i < l.length→(Qb7 l k)[i]?=some (.sl 2 (2 + (k + i)) 0 (l.getD i []).length (l.getD i []).length)
 | r::l,k,0,_=>by simp[Qb7]
 | r::l,k,i + 1,h=>by
  have:=Qtc l (k + 1) i (by simpa using h)
  rw[show k + (i + 1)=k + 1 + i by omega]
  simpa [Qb7] using this
theorem Qvi:∀ (l:List (List Tm)) (k i:Nat) (r:List Tm),i < l.length→(Qb7 l k).set i (.sl 2 (2 + (k + i)) 0 r.length r.length)=Qb7 (l.set i r) k
 | q::l,k,0,r,_=>by simp[Qb7]
 | q::l,k,i + 1,r,h=>by
  have:=Qvi l (k + 1) i r (by simpa using h)
  rw[show k + (i + 1)=k + 1 + i by omega]
  simpa [Qb7] using this
theorem WT.len {T:WT} (h:T.wf):T.cells.length=67:=by simp[WT.cells,Qdx,h.len]
theorem WT.get0 (T:WT):T.cells.getD 0 .any=.int .i64 T.now:=rfl
theorem WT.get66 {T:WT} (h:T.wf):T.cells.getD 66 .any=.mp 1:=by
 have hl:=h.len
 unfold WT.cells
 rw[List.getD_cons_succ,List.getD_eq_getElem?_getD,List.getElem?_append_right (by rw[Qdx];omega),Qdx,hl];rfl
theorem WT.getI {T:WT} (h:T.wf) {i:Nat} (hi:i < 65):T.cells.getD (i + 1) .any=.sl 2 (2 + i) 0 (T.row i).length (T.row i).length:=by
 have hl:=h.len
 unfold WT.cells WT.row
 rw[List.getD_cons_succ,List.getD_eq_getElem?_getD,List.getElem?_append_left (by rw[Qdx];omega),Qtc _ _ _ Zom,Nat.zero_add];rfl
theorem WT.setI {T:WT} (h:T.wf) {i:Nat} (hi:i < 65) (l:List Tm):T.cells.set (i + 1) (.sl 2 (2 + i) 0 l.length l.length)=(T.put i l).cells:=by
 have hl:=h.len
 unfold WT.cells WT.put
 rw[List.set_cons_succ,List.set_append_left _ _ (by rw[Qdx];omega)]
 have:=Qvi T.rows 0 i l Zom
 rw[Nat.zero_add]at this
 rw[this]
theorem WT.set0 (T:WT) (n:Nat):T.cells.set 0 (.int .i64 n)={ T with now:=n }.cells:=rfl
theorem Qzr:∀ (l:List (List Tm)) (k n:Nat),2 + k + l.length≤n→nmAll n (Qb7 l k)
 | [],_,_,_=>by simp[Qb7,nmAll]
 | r::l,k,n,h=>by
  simp only[Qb7,nmAll,Qe]
  simp only[List.length_cons]at h
  exact ⟨by omega,Qzr l (k + 1) n Zom⟩
theorem WT.nm {T:WT} (h:T.wf) {n:Nat} (hn:67≤n):nmAll n T.cells:=by
 have hl:=h.len
 rw[Xi]
 intro x hx
 unfold WT.cells at hx
 rcases List.mem_cons.1 hx with rfl|hx
 ·simp[Qe]
 ·rcases List.mem_append.1 hx with hx|hx
  ·exact Xi.1 (Qzr T.rows 0 n Zom) x hx
  ·simp only[List.mem_singleton]at hx;subst hx;simp only[Qe];omega
theorem Qbi:∀ (l:List (List Tm)) (k n b:Nat),Qb (Jt l k) n b=if 2 + k≤b∧b < 2 + k + l.length then .cells (tms (l.getD (b - (2 + k)) [])) else if b < n then .dead else .free
 | [],k,n,b=>by
  rw[if_neg (by simp only[List.length_nil];omega)];rfl
 | r::l,k,n,b=>by
  unfold Jt
  rw[Qc,Qbi l (k + 1) n b]
  by_cases h1:2 + k=b
  ·subst h1
   rw[if_pos rfl,if_pos Zsi];simp
  ·rw[if_neg h1]
   by_cases h2:2 + (k + 1)≤b∧b < 2 + (k + 1) + l.length
   ·rw[if_pos h2,if_pos (by simp;omega),show b - (2 + k)=(b - (2 + (k + 1))) + 1 by omega,List.getD_cons_succ]
   ·rw[if_neg h2,if_neg (show ¬ (2 + k≤b∧b < 2 + k + (r::l).length) by simp only[List.length_cons];omega)]
theorem WT.rowI {T:WT} (h:T.wf) {i:Nat} (hi:i < 65) (n:Nat):Qb (Jt T.rows 0) n (2 + i)=.cells (tms (T.row i)):=by
 have hl:=h.len
 rw[Qbi,if_pos Zom,show 2 + i - (2 + 0)=i by omega];rfl
theorem WT.rowHi {T:WT} (h:T.wf) (n:Nat) {b:Nat} (hb:67≤b):Qb (Jt T.rows 0) n b=if b < n then .dead else .free:=by
 have hl:=h.len
 rw[Qbi,if_neg Zom]
theorem Qc7 {m n:Nat} (hmn:m≤n) {x:Bk} (h:nmB m x):nmB n x:=by
 have up:∀ v,Qe m v→Qe n v:=fun v=>AV.rec (motive_1:=fun v=>Qe m v→Qe n v) (motive_2:=fun l=>nmAll m l→nmAll n l) (by simp[Qe]) (fun b v h=>by simpa [Qe] using h) (fun _ _=>by simp[Qe]) (fun _=>by simp[Qe]) (fun _=>by simp[Qe])
  (fun cs h=>by simpa [Qe] using h) (fun cs h=>by simpa [Qe] using h) (fun _ _=>by simp only[Qe];omega) (fun cs _ h=>by simpa [Qe] using h) (fun _ _ _ _ _=>by simp only[Qe];omega) (fun _ cs h=>by simpa [Qe] using h) (by simp[Qe])
  (fun _ cs h=>by simpa [Qe] using h) (fun _=>by simp only[Qe];omega) (fun _=>by simp[Qe]) (by simp[nmAll]) (fun x xs h1 h2=>by simp only[nmAll];exact fun ⟨a,b⟩=>⟨h1 a,h2 b⟩) v
 cases x with
 | free=>exact h
 | dead=>exact h
 | cells cs=>exact Xi.2 fun x hx=>up x (Xi.1 h x hx)
 | mapb kvs dn=>exact fun p hp=>⟨up _ (h p hp).1,up _ (h p hp).2⟩
 | mapx kvs bs ck=>exact fun p hp=>⟨up _ (h p hp).1,up _ (h p hp).2⟩
 | iter b ck seen=>exact Nat.lt_of_lt_of_le h hmn
 | bag ls=>exact h
theorem Qak {ρ:Nat→Nat} {n:Nat} (h:∀ b,b < n→ρ b=b):∀ v,Qe n v→ren ρ v=v:=fun v=>AV.rec (motive_1:=fun v=>Qe n v→ren ρ v=v) (motive_2:=fun l=>nmAll n l→rens ρ l=l) (by simp[ren]) (fun b v h1 h2=>by simp only[Qe]at h2;simp only[ren,h1 h2]) (fun _ _=>by simp[ren]) (fun _=>by simp[ren]) (fun _=>by simp[ren])
  (fun cs h1 h2=>by simp only[Qe]at h2;simp only[ren,h1 h2]) (fun cs h1 h2=>by simp only[Qe]at h2;simp only[ren,h1 h2]) (fun b _ h2=>by simp only[Qe]at h2;simp only[ren,h b h2]) (fun cs _ h1 h2=>by simp only[Qe]at h2;simp only[ren,h1 h2]) (fun _ b _ _ _ h2=>by simp only[Qe]at h2;simp only[ren,h b h2]) (fun _ cs h1 h2=>by simp only[Qe]at h2;simp only[ren,h1 h2]) (by simp[ren])
  (fun _ cs h1 h2=>by simp only[Qe]at h2;simp only[ren,h1 h2]) (fun b h2=>by simp only[Qe]at h2;simp only[ren,h b h2]) (fun _=>by simp[ren]) (by simp[rens]) (fun x xs h1 h2=>by simp only[nmAll,rens];exact fun ⟨a,b⟩=>by rw[h1 a,h2 b]) v
theorem Qgm {ρ:Nat→Nat} {n:Nat} (h:∀ b,b < n→ρ b=b) {x:Bk} (hx:nmB n x):Xf ρ x=x:=by
 cases x with
 | free=>rfl
 | dead=>rfl
 | cells cs =>
  simp only[Xf,Yf]
  congr 1
  exact (List.map_congr_left fun v hv=>Qak h v (Xi.1 hx v hv)).trans (List.map_id cs)
 | mapb kvs dn =>
  simp only[Xf]
  congr 1
  exact (List.map_congr_left fun q hq=>by rw[Qak h _ (hx q hq).1,Qak h _ (hx q hq).2];rfl).trans (List.map_id kvs)
 | mapx kvs bs ck =>
  simp only[Xf]
  congr 1
  exact (List.map_congr_left fun q hq=>by rw[Qak h _ (hx q hq).1,Qak h _ (hx q hq).2];rfl).trans (List.map_id kvs)
 | iter b ck seen=>simp only[Xf];rw[h b hx]
 | bag ls=>rfl
theorem Qcq:∀ (l:List (List Tm)) (k:Nat) (q:Nat × Bk),q ∈ Jt l k→2 + k≤q.1∧q.1 < 2 + k + l.length∧q.2=.cells (tms (l.getD (q.1 - (2 + k)) []))
 | r::l,k,q,h=>by
  unfold Jt at h
  rcases List.mem_cons.1 h with rfl|h
  ·simp
  ·obtain ⟨h1,h2,h3⟩:=Qcq l (k + 1) q h
   refine ⟨by omega,by simp;omega,?_⟩
   rw[h3,show q.1 - (2 + k)=(q.1 - (2 + (k + 1))) + 1 by omega,List.getD_cons_succ]
theorem Qs1:∀ (l:List (List Tm)) (k b:Nat),2 + k≤b→b < 2 + k + l.length→∃ q ∈ Jt l k,q.1=b
 | [],k,b,h1,h2=>by simp at h2;omega
 | r::l,k,b,h1,h2=>by
  by_cases e:b=2 + k
  ·exact ⟨(2 + k,.cells (tms r)),by simp[Jt],e.symm⟩
  ·obtain ⟨q,h3,h4⟩:=Qs1 l (k + 1) b Zom (by simp at h2;omega)
   exact ⟨q,by simp[Jt,h3],h4⟩
theorem WT.look {T:WT} (h:T.wf) (n:Nat) {q:Nat × Bk} (hq:q ∈ T.h):Qb T.h n q.1=q.2:=by
 have hl:=h.len
 unfold WT.h at hq ⊢
 rcases List.mem_cons.1 hq with rfl|hq
 ·rw[Qc,if_pos rfl]
 rcases List.mem_cons.1 hq with rfl|hq
 ·rw[Qc,if_neg Zsi,Qc,if_pos rfl]
 obtain ⟨h1,h2,h3⟩:=Qcq _ _ _ hq
 rw[Qc,if_neg Zom,Qc,if_neg Zom,Qbi,if_pos ⟨h1,h2⟩,h3]
theorem WT.HL {T:WT} (h:T.wf):Proofs.YtogckmommodmhaaGreatDoor.HL T.h 67:=by
 have hl:=h.len
 refine ⟨fun q hq=>?_,fun b hb=>?_,fun q hq=>WT.look h 67 hq⟩
 ·unfold WT.h at hq
  rcases List.mem_cons.1 hq with rfl|hq
  ·exact ⟨by show 0 < 67;decide,WT.nm h Zom⟩
  rcases List.mem_cons.1 hq with rfl|hq
  ·exact ⟨by show 1 < 67;decide,Qc7 Zom h.mb⟩
  obtain ⟨h1,h2,h3⟩:=Qcq _ _ _ hq
  refine ⟨by omega,?_⟩
  rw[h3];simp[nmB,Qaq]
 ·unfold WT.h
  by_cases h0:b=0
  ·exact ⟨(0,.cells T.cells),by simp,h0.symm⟩
  by_cases h1:b=1
  ·exact ⟨(1,T.mb),by simp,h1.symm⟩
  obtain ⟨q,h2,h3⟩:=Qs1 T.rows 0 b Zom Zom
  exact ⟨q,by simp[h2],h3⟩
theorem WT.key {T:WT} (h:T.wf) {q:Nat × Bk} (hq:q ∈ T.h):q.1 < 67:=((WT.HL h).mem q hq).1
theorem To.wh {p:List Nat} {n':Nat} {s:St} {t':List (Nat × AV)} {ex:List (Nat × Bk)} {T':WT} (hT:T'.wf) (ρ:Nat→Nat) (hp:∀ b,b ∈ p→ρ b=b∧b < n') (hn:67≤n') (hinj:∀ b b',b < n'→b' < n'→ρ b=ρ b'→b=b')
  (h0:Qb s.h s.n (ρ 0)=.cells (rens ρ T'.cells)) (h1:Qb s.h s.n (ρ 1)=Xf ρ T'.mb) (hr:∀ i,i < 65→Qb s.h s.n (ρ (2 + i))=.cells (tms (T'.row i)))
  (ht:Qw ρ n' s.t t') (hx:Qdj ρ n' s ex) (hk:∀ q ∈ ex,67≤q.1):To p s ⟨t',ex++T'.h,n'⟩:=by
 have hl:=hT.len
 refine To.subF (ρ:=ρ) hp ⟨ht,?_⟩
 have fact:∀ q ∈ T'.h,q.1 < n'∧nmB n' q.2∧Qb s.h s.n (ρ q.1)=Xf ρ q.2:=fun q hq=>by
  have hq0:=hq
  obtain ⟨m1,m2⟩:=(WT.HL hT).mem q hq
  refine ⟨by omega,Qc7 hn m2,?_⟩
  unfold WT.h at hq
  rcases List.mem_cons.1 hq with rfl|hq
  ·rw[h0];rfl
  rcases List.mem_cons.1 hq with rfl|hq
  ·exact h1
  obtain ⟨g1,g2,g3⟩:=Qcq _ _ _ hq
  have:=hr (q.1 - 2) Zom
  rw[show 2 + (q.1 - 2)=q.1 by omega]at this
  rw[this,g3]
  simp only[Xf,Qam]
  rfl
 have not:∀ (b:Nat) (l:List (Nat × Bk)),b < n'→(∀ q ∈ l,q.1 < n'∧q.1≠b)→Qdh ρ b l:=fun b l hb=>by
  induction l with
  | nil=>intro _;trivial
  | cons q l ih =>
   intro hl
   obtain ⟨i,x⟩:=q
   obtain ⟨h1,h2⟩:=hl (i,x) Zsi
   exact ⟨fun e=>h2 (hinj _ _ h1 hb e),ih fun q hq=>hl q (by simp[hq])⟩
 have rowsOk:∀ (l:List (List Tm)) (k:Nat),(∀ q ∈ Jt l k,q.1 < n'∧nmB n' q.2∧Qb s.h s.n (ρ q.1)=Xf ρ q.2)→Qdj ρ n' s (Jt l k):=fun l=>by
  induction l with
  | nil=>intro k _;trivial
  | cons r l ih =>
   intro k hq
   obtain ⟨a1,a2,a3⟩:=hq (2 + k,.cells (tms r)) (by simp[Jt])
   refine ⟨⟨a1,a2,a3,not _ _ a1 fun q hq'=>?_⟩,ih (k + 1) fun q hq'=>hq q (by simp[Jt,hq'])⟩
   obtain ⟨b1,b2,_⟩:=Qcq _ _ _ hq'
   exact ⟨(hq q (by simp[Jt,hq'])).1,by omega⟩
 have base:Qdj ρ n' s T'.h:=by
  unfold WT.h
  obtain ⟨a1,a2,a3⟩:=fact (0,.cells T'.cells) (by simp[WT.h])
  obtain ⟨b1,b2,b3⟩:=fact (1,T'.mb) (by simp[WT.h])
  refine ⟨⟨a1,a2,a3,not _ _ a1 fun q hq=>?_⟩,⟨b1,b2,b3,not _ _ b1 fun q hq=>?_⟩,rowsOk _ _ fun q hq=>fact q (by simp[WT.h,hq])⟩
  ·have:=(fact q (by simp only[WT.h];exact List.mem_cons_of_mem _ hq)).1
   rcases List.mem_cons.1 hq with rfl|hq
   ·exact ⟨this,by simp⟩
   ·obtain ⟨c1,c2,_⟩:=Qcq _ _ _ hq
    exact ⟨this,by omega⟩
  ·obtain ⟨c1,c2,_⟩:=Qcq _ _ _ hq
   exact ⟨by omega,by omega⟩
 have app:∀ l:List (Nat × Bk),(∀ q ∈ l,67≤q.1)→Qdj ρ n' s l→Qdj ρ n' s (l++T'.h):=fun l=>by
  induction l with
  | nil=>intro _ _;exact base
  | cons q l ih =>
   intro hk hs
   obtain ⟨i,x⟩:=q
   obtain ⟨⟨a1,a2,a3,a4⟩,a5⟩:=hs
   refine ⟨⟨a1,a2,a3,?_⟩,ih (fun q hq=>hk q (by simp[hq])) a5⟩
   have h67:=hk (i,x) Zsi
   have rapp:∀ (l1 l2:List (Nat × Bk)),Qdh ρ i l1→Qdh ρ i l2→Qdh ρ i (l1++l2):=fun l1 l2=>by
    induction l1 with
    | nil=>intro _ h;exact h
    | cons q l1 ih=>obtain ⟨j,y⟩:=q;intro h1 h2;exact ⟨h1.1,ih h1.2 h2⟩
   exact rapp _ _ a4 (not _ _ a1 fun q hq=>⟨(fact q hq).1,by have:=WT.key hT hq;dsimp only at h67;omega⟩)
 exact app ex hk hx
theorem Qhi:∀ (l:List (List Tm)) (k n b:Nat),Qb (Qf1 l k) n b=if 2 + k≤b∧b < 2 + k + l.length then .bag (tmB (l.getD (b - (2 + k)) [])) else if b < n then .dead else .free
 | [],k,n,b=>by
  rw[if_neg (by simp only[List.length_nil];omega)];rfl
 | r::l,k,n,b=>by
  unfold Qf1
  rw[Qc,Qhi l (k + 1) n b]
  by_cases h1:2 + k=b
  ·subst h1
   rw[if_pos rfl,if_pos Zsi];simp
  ·rw[if_neg h1]
   by_cases h2:2 + (k + 1)≤b∧b < 2 + (k + 1) + l.length
   ·rw[if_pos h2,if_pos (by simp;omega),show b - (2 + k)=(b - (2 + (k + 1))) + 1 by omega,List.getD_cons_succ]
   ·rw[if_neg h2,if_neg (show ¬ (2 + k≤b∧b < 2 + k + (r::l).length) by simp only[List.length_cons];omega)]
theorem Qix:∀ (l:List (List Tm)) (k:Nat) (q:Nat × Bk),q ∈ Qf1 l k→2 + k≤q.1∧q.1 < 2 + k + l.length∧q.2=.bag (tmB (l.getD (q.1 - (2 + k)) []))
 | r::l,k,q,h=>by
  unfold Qf1 at h
  rcases List.mem_cons.1 h with rfl|h
  ·simp
  ·obtain ⟨h1,h2,h3⟩:=Qix l (k + 1) q h
   refine ⟨by omega,by simp;omega,?_⟩
   rw[h3,show q.1 - (2 + k)=(q.1 - (2 + (k + 1))) + 1 by omega,List.getD_cons_succ]
theorem Qqh:∀ (l:List (List Tm)) (k b:Nat),2 + k≤b→b < 2 + k + l.length→∃ q ∈ Qf1 l k,q.1=b
 | [],k,b,h1,h2=>by simp at h2;omega
 | r::l,k,b,h1,h2=>by
  by_cases e:b=2 + k
  ·exact ⟨(2 + k,.bag (tmB r)),by simp[Qf1],e.symm⟩
  ·obtain ⟨q,h3,h4⟩:=Qqh l (k + 1) b Zom (by simp at h2;omega)
   exact ⟨q,by simp[Qf1,h3],h4⟩
theorem WT.HLb {T:WT} (h:T.wf):Proofs.YtogckmommodmhaaGreatDoor.HL T.hb 67:=by
 have hl:=h.len
 refine ⟨fun q hq=>?_,fun b hb=>?_,fun q hq=>?_⟩
 ·unfold WT.hb at hq
  rcases List.mem_cons.1 hq with rfl|hq
  ·exact ⟨by show 0 < 67;decide,WT.nm h Zom⟩
  rcases List.mem_cons.1 hq with rfl|hq
  ·exact ⟨by show 1 < 67;decide,Qc7 Zom h.mb⟩
  obtain ⟨h1,h2,h3⟩:=Qix _ _ _ hq
  refine ⟨by omega,?_⟩
  rw[h3];exact Xyu _
 ·unfold WT.hb
  by_cases h0:b=0
  ·exact ⟨(0,.cells T.cells),by simp,h0.symm⟩
  by_cases h1:b=1
  ·exact ⟨(1,T.mb),by simp,h1.symm⟩
  obtain ⟨q,h2,h3⟩:=Qqh T.rows 0 b Zom Zom
  exact ⟨q,by simp[h2],h3⟩
 ·unfold WT.hb at hq ⊢
  rcases List.mem_cons.1 hq with rfl|hq
  ·rw[Qc,if_pos rfl]
  rcases List.mem_cons.1 hq with rfl|hq
  ·rw[Qc,if_neg Zsi,Qc,if_pos rfl]
  obtain ⟨h1,h2,h3⟩:=Qix _ _ _ hq
  rw[Qc,if_neg Zom,Qc,if_neg Zom,Qhi,if_pos ⟨h1,h2⟩,h3]
theorem WT.lookh (T:WT) (n b:Nat):Qb T.h n b=if 0=b then .cells T.cells else if 1=b then T.mb else if 2≤b∧b < 2 + T.rows.length then .cells (tms (T.row (b - 2))) else if b < n then .dead else .free:=by
 unfold WT.h WT.row
 rw[Qc,Qc,Qbi]
theorem WT.lookhb (T:WT) (n b:Nat):Qb T.hb n b=if 0=b then .cells T.cells else if 1=b then T.mb else if 2≤b∧b < 2 + T.rows.length then .bag (tmB (T.row (b - 2))) else if b < n then .dead else .free:=by
 unfold WT.hb WT.row
 rw[Qc,Qc,Qhi]
theorem Ql6 {Q:Nat→List Tm→Prop}:∀ (rows:List (List Tm)) (k:Nat),(∀ j,j < rows.length→∃ l':List Tm,l'.Perm (rows.getD j [])∧Q (k + j) l')→∃ rows':List (List Tm),rows'.length=rows.length∧(∀ j,(rows'.getD j []).Perm (rows.getD j []))∧∀ j,j < rows.length→Q (k + j) (rows'.getD j [])
 | [],k,_=>⟨[],rfl,fun _=>List.Perm.refl _,fun j hj=>by simp at hj⟩
 | r::rows,k,h=>by
  obtain ⟨l',h1,h2⟩:=h 0 Zsi
  obtain ⟨rows',g1,g2,g3⟩:=Ql6 (Q:=Q) rows (k + 1) fun j hj=>by
   have:=h (j + 1) (by simpa using hj)
   rw[show k + 1 + j=k + (j + 1) by omega]
   simpa only[List.getD_cons_succ] using this
  refine ⟨l'::rows',by simp[g1],fun j=>?_,fun j hj=>?_⟩
  ·cases j with
   | zero=>simpa using h1
   | succ j=>simpa only[List.getD_cons_succ] using g2 j
  ·cases j with
   | zero=>simpa using h2
   | succ j =>
    have:=g3 j (by simpa using hj)
    rw[show k + 1 + j=k + (j + 1) by omega]at this
    simpa only[List.getD_cons_succ] using this
theorem WT.opn {c:Cx} {g:Nat→GM} {a:Act} {w:World} {T:WT} (hR:R c g (Hst T.hb 67) a w):∃ T':WT,T'.sim T∧R c g (Hst T'.h 67) a w:=by
 have hk:∀ j,j < T.rows.length→∃ l':List Tm,l'.Perm (T.rows.getD j [])∧(fun i (l':List Tm)=>BR g (Qn c g (Hst T.hb 67)) w (g (2 + i)) (.cells (tms l'))) (0 + j) l':=fun j hj=>by
  have hb:=hR.h (2 + j)
  have e:(Hst T.hb 67).H (2 + j)=.bag (tmB (T.rows.getD j [])):=by
   show Qb T.hb 67 (2 + j)=_
   rw[WT.lookhb,if_neg Zom,if_neg Zom,if_pos Zom,show 2 + j - 2=j by omega];rfl
  rw[e]at hb
  rw[Nat.zero_add]
  exact Xum hb
 obtain ⟨rows',h1,h2,h3⟩:=Ql6 (Q:=fun i (l':List Tm)=>BR g (Qn c g (Hst T.hb 67)) w (g (2 + i)) (.cells (tms l'))) T.rows 0 hk
 have hs:WT.sim { T with rows:=rows' } T:=⟨rfl,rfl,h1,h2⟩
 refine ⟨_,hs,hR.resay (fun _ _ h=>h) (fun b hb=>?_) fun b=>?_⟩
 ·show BR _ _ _ _ (Qb (WT.h _) 67 b)
  have e:(Hst T.hb 67).H b=Qb T.hb 67 b:=rfl
  rw[e,WT.lookhb]at hb
  rw[WT.lookh,WT.sim_cells hs,h1]
  by_cases c0:0=b
  ·rw[if_pos c0]at hb ⊢;exact hb
  rw[if_neg c0]at hb ⊢
  by_cases c1:1=b
  ·rw[if_pos c1]at hb ⊢;exact hb
  rw[if_neg c1]at hb ⊢
  by_cases c2:2≤b∧b < 2 + T.rows.length
  ·rw[if_pos c2]
   have:=h3 (b - 2) Zom
   rw[Nat.zero_add,show 2 + (b - 2)=b by omega]at this
   exact this
  ·rw[if_neg c2]at hb ⊢;exact hb
 ·show (Qb _ 67 b).live ↔ (Qb T.hb 67 b).live
  rw[WT.lookh,WT.lookhb,WT.sim_cells hs,h1]
  (repeat' split)<;>first|exact Iff.rfl|exact ⟨fun _=>trivial,fun _=>trivial⟩
theorem WT.cls {c:Cx} {g:Nat→GM} {a:Act} {w:World} {T T':WT} (hs:T'.sim T) (hR:R c g (Hst T'.h 67) a w):R c g (Hst T.hb 67) a w:=by
 refine hR.resay (fun _ _ h=>h) (fun b hb=>?_) fun b=>?_
 ·show BR _ _ _ _ (Qb T.hb 67 b)
  have e:(Hst T'.h 67).H b=Qb T'.h 67 b:=rfl
  rw[e,WT.lookh,WT.sim_cells hs,hs.mb,hs.len]at hb
  rw[WT.lookhb]
  by_cases h0:0=b
  ·rw[if_pos h0]at hb ⊢;exact hb
  rw[if_neg h0]at hb ⊢
  by_cases h1:1=b
  ·rw[if_pos h1]at hb ⊢;exact hb
  rw[if_neg h1]at hb ⊢
  by_cases h2:2≤b∧b < 2 + T.rows.length
  ·rw[if_pos h2]at hb ⊢;exact Qzv hb (hs.row _)
  ·rw[if_neg h2]at hb ⊢;exact hb
 ·show (Qb T.hb 67 b).live ↔ (Qb T'.h 67 b).live
  rw[WT.lookh,WT.lookhb,WT.sim_cells hs,hs.len,hs.mb]
  (repeat' split)<;>first|exact Iff.rfl|exact ⟨fun _=>trivial,fun _=>trivial⟩
theorem Qha {P:Program} {gl:Nat→AV} {f:FuncId} {args:List AV} {p:List Nat} {r:AV} {T T2:WT} (h:∀ T':WT,T'.sim T→GQ P gl f args T'.h 67 p (fun T2':WT=>T2'.sim T2) (fun _=>r) WT.h):GD P gl f args T.hb 67 p r T2.hb:=by
 refine ⟨(h T T.sim_refl).1,fun w vs G X g hR hv=>?_⟩
 obtain ⟨T',hs,hR'⟩:=WT.opn hR
 have hW:Qn ⟨0,w,G,X,gl,[]⟩ g (Hst T'.h 67)=Qn ⟨0,w,G,X,gl,[]⟩ g (Hst T.hb 67):=by
  funext k
  have hl:∀ b,((Hst T'.h 67).H b).live ↔ ((Hst T.hb 67).H b).live:=fun b=>by
   show (Qb T'.h 67 b).live ↔ (Qb T.hb 67 b).live
   rw[WT.lookh,WT.lookhb,WT.sim_cells hs,hs.len,hs.mb]
   (repeat' split)<;>first|exact Iff.rfl|exact ⟨fun _=>trivial,fun _=>trivial⟩
  simp only[Qn,hl]
 refine ((h T' hs).2 w vs G X g hR' (by rw[hW];exact hv)).mono fun e w' ⟨T2',v,g',q1,q2,q3,q4,q5⟩=>?_
 refine ⟨(),v,g',trivial,q2,WT.cls q1 q3,q4,?_⟩
 have hW2:Qn ⟨0,w,G,X,gl,[]⟩ g' (Hst T2'.h 67)=Qn ⟨0,w,G,X,gl,[]⟩ g' (Hst T2.hb 67):=by
  funext k
  have hl:∀ b,((Hst T2'.h 67).H b).live ↔ ((Hst T2.hb 67).H b).live:=fun b=>by
   show (Qb T2'.h 67 b).live ↔ (Qb T2.hb 67 b).live
   rw[WT.lookh,WT.lookhb,WT.sim_cells q1,q1.len,q1.mb]
   (repeat' split)<;>first|exact Iff.rfl|exact ⟨fun _=>trivial,fun _=>trivial⟩
  simp only[Qn,hl]
 rw[← hW2];exact q5
theorem WT.cell_cases {T:WT} (h:T.wf) (j:Nat) (hj:j < 67):j=0∨j=66∨∃ i,i < 65∧j=i + 1:=by
 by_cases h0:j=0
 ·exact .inl h0
 by_cases h1:j=66
 ·exact .inr (.inl h1)
 ·exact .inr (.inr ⟨j - 1,by omega,by omega⟩)
theorem Qcd {l l':List AV} (hl:l.length=l'.length) (h:∀ j,j < l.length→l.getD j .any=l'.getD j .any):l=l':=by
 refine List.ext_getElem hl fun j h1 h2=>?_
 have:=h j h1
 simpa [List.getD,h1,h2] using this
def Kb (i N b:Nat):Nat:=if b=2 + i then N else b
theorem Xox {T:WT} (hT:T.wf) {i:Nat} (hi:i < 65) (l:List Tm) (N:Nat):rens (Kb i N) (T.put i l).cells=T.cells.set (i + 1) (.sl 2 N 0 l.length l.length):=by
 have hw:=WT.put_wf hT i l
 have hl1:=WT.len hT
 have hl2:=WT.len hw
 refine Qcd (by rw[Yg,List.length_set,hl1,hl2]) fun j hj=>?_
 rw[Yg,hl2]at hj
 rw[Ka]
 have hset:∀ v,(T.cells.set (i + 1) v).getD j .any=if j=i + 1 then v else T.cells.getD j .any:=fun v=>by
  simp only[List.getD,List.getElem?_set]
  by_cases e:i + 1=j
  ·subst e;rw[if_pos rfl,if_pos Zom,if_pos rfl];rfl
  ·rw[if_neg e,if_neg fun q=>e q.symm]
 rw[hset]
 rcases WT.cell_cases hT j hj with rfl|rfl|⟨i',hi',rfl⟩
 ·rw[if_neg Zom];simp only[WT.get0,ren];rfl
 ·rw[if_neg Zom,WT.get66 hw,WT.get66 hT];simp only[ren,Kb];rw[if_neg Zom]
 ·rw[WT.getI hw hi',WT.getI hT hi',WT.row_put hT hi]
  by_cases e:i'=i
  ·subst e;simp[ren,Kb]
  ·rw[if_neg e,if_neg Zom]
   simp only[ren,Kb];rw[if_neg Zom]
theorem To.put {p:List Nat} {n':Nat} {s:St} {t':List (Nat × AV)} {ex:List (Nat × Bk)} {T:WT} (hT:T.wf) {i N:Nat} (hi:i < 65) {l:List Tm} (hN:67≤N) (hn:67≤n') (hp:∀ b,b ∈ p→b < n'∧b≠2 + i) (hNn:n'≤N)
  (h0:Qb s.h s.n 0=.cells (T.cells.set (i + 1) (.sl 2 N 0 l.length l.length))) (h1:Qb s.h s.n 1=T.mb) (hl:Qb s.h s.n N=.cells (tms l)) (hr:∀ j,j < 65→j≠i→Qb s.h s.n (2 + j)=.cells (tms (T.row j)))
  (ht:Qw (Kb i N) n' s.t t') (hx:Qdj (Kb i N) n' s ex) (hk:∀ q ∈ ex,67≤q.1):To p s ⟨t',ex++(T.put i l).h,n'⟩:=by
 have hw:=WT.put_wf hT i l
 refine To.wh hw (Kb i N) (fun b hb=>⟨by unfold Kb;rw[if_neg (hp b hb).2],(hp b hb).1⟩) hn (fun b b' hb hb' e=>?_) ?_ ?_ (fun j hj=>?_) ht hx hk
 ·unfold Kb at e
  (repeat' split at e)<;>omega
 ·rw[Xox hT hi,show Kb i N 0=0 by unfold Kb;rw[if_neg Zom]];exact h0
 ·rw[show Kb i N 1=1 by unfold Kb;rw[if_neg Zom],h1]
  show T.mb=Xf _ T.mb
  exact (Qgm (fun b hb=>by unfold Kb;rw[if_neg Zom]) hT.mb).symm
 ·rw[WT.row_put hT hi]
  unfold Kb
  by_cases e:j=i
  ·subst e;rw[if_pos rfl,if_pos rfl];exact hl
  ·rw[if_neg Zom,if_neg e];exact hr j hj e
theorem To.wdrop {p:List Nat} {t t':List (Nat × AV)} {ex:List (Nat × Bk)} {T:WT} {n:Nat} (hT:T.wf) (hp:∀ b,b ∈ p→b < 67) (hex:∀ q ∈ ex,67≤q.1) (ht:Qw id 67 t t'):To p ⟨t,ex++T.h,n⟩ ⟨t',T.h,67⟩:=by
 have hl:=hT.len
 have hs:∀ b,b < 67→Qb (ex++T.h) n b=Qb T.h n b:=fun b hb=>Xn fun q hq e=>by have:=hex q hq;omega
 refine To.wh (ex:=[]) hT id (fun b hb=>⟨rfl,hp b hb⟩) Zom (fun b b' _ _ e=>e) ?_ ?_ (fun i hi=>?_) ht trivial (fun q hq=>by cases hq)
 ·show Qb (ex++T.h) n 0=_
  rw[hs 0 Zom,WT.lookh,if_pos rfl,Kd]
 ·show Qb (ex++T.h) n 1=_
  rw[hs 1 Zom,WT.lookh,if_neg Zom,if_pos rfl,Wz]
 ·show Qb (ex++T.h) n (2 + i)=_
  rw[hs _ Zom,WT.lookh,if_neg Zom,if_neg Zom,if_pos Zom,show 2 + i - 2=i by omega]
theorem Yas {ρ:List (Nat × Nat)} (h:ρ.all (fun q=>decide (67≤q.1) && decide (67≤q.2))=true):∀ b,(b < 67→rl ρ b=b)∧(67≤b→67≤rl ρ b):=by
 induction ρ with
 | nil=>exact fun b=>⟨fun _=>rfl,fun h=>h⟩
 | cons q ρ ih =>
  obtain ⟨i,j⟩:=q
  simp only[List.all_cons,Bool.and_eq_true,decide_eq_true_eq]at h
  intro b
  have:=ih h.2 b
  show (b < 67→(bif i == b then j else rl ρ b)=b)∧(67≤b→67≤(bif i == b then j else rl ρ b))
  cases e:i == b with
  | true =>
   have:i=b:=by simpa using e
   exact ⟨fun h2=>by omega,fun _=>h.1.2⟩
  | false=>exact this
theorem To.wre {p:List Nat} {n':Nat} {s:St} {t':List (Nat × AV)} {ex:List (Nat × Bk)} {T:WT} (ρ:List (Nat × Nat)) (hT:T.wf) (hp:∀ b,b ∈ p→b < 67) (hn:67≤n') (hρ:ρ.all (fun q=>decide (67≤q.1) && decide (67≤q.2))=true)
  (hd:Qe2 ((List.range (n' - 67)).map fun i=>rl ρ (67 + i))=true) (hs:∀ b,b < 67→Qb s.h s.n b=Qb T.h 67 b) (ht:Qw (rl ρ) n' s.t t') (hx:Qdj (rl ρ) n' s ex) (hk:∀ q ∈ ex,67≤q.1):To p s ⟨t',ex++T.h,n'⟩:=by
 have hl:=hT.len
 have hlo:=Yas hρ
 refine To.wh hT (rl ρ) (fun b hb=>⟨(hlo b).1 (hp b hb),by have:=hp b hb;omega⟩) hn (fun b b' hb hb' e=>?_) ?_ ?_ (fun i hi=>?_) ht hx hk
 ·by_cases h1:b < 67<;>by_cases h2:b' < 67
  ·rw[(hlo b).1 h1,(hlo b').1 h2]at e;exact e
  ·rw[(hlo b).1 h1]at e;have:=(hlo b').2 Zom;omega
  ·rw[(hlo b').1 h2]at e;have:=(hlo b).2 Zom;omega
  ·have:=Qfw hd (b - 67) (b' - 67) (by simp;omega) (by simp;omega) (by
    simp only[List.getD,List.getElem?_map,List.getElem?_range (show b - 67 < n' - 67 by omega),List.getElem?_range (show b' - 67 < n' - 67 by omega),Option.map_some,Option.getD_some]
    rw[show 67 + (b - 67)=b by omega,show 67 + (b' - 67)=b' by omega];exact e)
   omega
 ·rw[(hlo 0).1 Zom,hs 0 Zom,WT.lookh,if_pos rfl]
  congr 1
  refine (((Qcd (by rw[Yg]) fun j hj=>?_):rens (rl ρ) T.cells=T.cells)).symm
  rw[Yg,WT.len hT]at hj
  rw[Ka]
  refine Qak (fun b hb=>(hlo b).1 hb) _ (Zn (WT.nm hT (Nat.le_refl 67)) j)
 ·rw[(hlo 1).1 Zom,hs 1 Zom,WT.lookh,if_neg Zom,if_pos rfl]
  exact (Qgm (fun b hb=>(hlo b).1 Zom) hT.mb).symm
 ·rw[(hlo (2 + i)).1 Zom,hs _ Zom,WT.lookh,if_neg Zom,if_neg Zom,if_pos Zom,show 2 + i - 2=i by omega]
theorem Xyi (i N:Nat):Kb i N 0=0:=by unfold Kb;rw[if_neg (by omega)]
theorem Xzt (i N:Nat):Kb i N 1=1:=by unfold Kb;rw[if_neg (by omega)]
theorem To.off {p:List Nat} {s:St} {T:WT} {i k:Nat} {l:List Tm} {t':List (Nat × AV)} (hT:T.wf) (hi:i < 65) (hl:T.row i=l) (h0:Qb s.h s.n 0=.cells (T.cells.set (i + 1) .nils)) (hs:∀ b,b≠0→b < 67→Qb s.h s.n b=Qb T.h 67 b)
  (hf:s.fs.H s.n=.free) (hn:67≤s.n) (hk:look s.t k=.sl 2 (2 + i) 0 l.length l.length) (hp:∀ b,b ∈ p→b < 2) (ht:Qw (Kb i s.n) 67 ((k,.isl l.length (tms l))::s.t) t'):To p s ⟨t',(T.put i []).h,67⟩:=by
 have hrl:=hT.len
 have hcl:=WT.len hT
 refine To.trans (To.nilB (b:=0) (j:=i + 1) (es:=2) h0 (by rw[List.getElem?_set_self Zom]) hf) ?_
 rw[List.set_set]
 have hrow:Qb s.h (s.n + 1) (2 + i)=.cells (tms l):=by
  rw[Kn _ _ _ Zom,hs _ Zom Zom,WT.lookh,if_neg Zom,if_neg Zom,if_pos Zom,show 2 + i - 2=i by omega,hl]
 refine To.trans (To.frz (b:=2 + i) (i:=k) (cs:=tms l) (es:=2) (off:=0) (n:=l.length) (k:=l.length) ?_ hk) ?_
 ·show Qb ((0,_)::(s.n,_)::s.h) (s.n + 1) (2 + i)=_
  rw[Qc,if_neg Zom,Qc,if_neg Zom];exact hrow
 have htk:((tms l).drop 0).take (l.length * 2)=tms l:=by rw[List.drop_zero,List.take_of_length_le (by rw[Zf];omega)]
 rw[htk]
 refine To.put (ex:=[]) hT hi (N:=s.n) hn Zom (fun b hb=>by have:=hp b hb;omega) hn ?_ ?_ ?_ (fun j hj hne=>?_) ht trivial (fun q hq=>by cases hq)
 ·show Qb ((2 + i,_)::(0,_)::(s.n,_)::s.h) (s.n + 1) 0=_
  rw[Qc,if_neg Zom,Qc,if_pos rfl];rfl
 ·show Qb ((2 + i,_)::(0,_)::(s.n,_)::s.h) (s.n + 1) 1=_
  rw[Qc,if_neg Zom,Qc,if_neg Zom,Qc,if_neg Zom,Kn _ _ _ Zom,hs 1 Zom Zom,WT.lookh,if_neg Zom,if_pos rfl]
 ·show Qb ((2 + i,_)::(0,_)::(s.n,_)::s.h) (s.n + 1) s.n=_
  rw[Qc,if_neg Zom,Qc,if_neg Zom,Qc,if_pos rfl];rfl
 ·show Qb ((2 + i,_)::(0,_)::(s.n,_)::s.h) (s.n + 1) (2 + j)=_
  rw[Qc,if_neg Zom,Qc,if_neg Zom,Qc,if_neg Zom,Kn _ _ _ Zom,hs _ Zom Zom,WT.lookh,if_neg Zom,if_neg Zom,if_pos Zom,show 2 + j - 2=j by omega]
def okN (b:Nat):Prop:=b < 2∨67≤b
theorem Qdf {P:Program} {c:Cx} {r0:List TOp} {K:St→Prop} {s:St} {d:Option Nat} {f:FuncId} {xs:List TV} {args:List AV} {T:WT} {ι:Type} {Q:ι→Prop} {r:ι→AV} {W:ι→WT} {pc:List Nat} (hq:GQ P c.gl f args T.h 67 [0,1] Q r (fun x=>(W x).h)) (hT:T.wf) (hW:∀ x,Q x→(W x).wf)
  (hgh:∀ q ∈ c.gh,q.1 ∈ pc) (hpc:∀ b ∈ pc,okN b) (t:List (Nat × AV)) (ex:List (Nat × Bk)) (n:Nat) (hto:To pc s ⟨t,ex++T.h,n⟩) (hex:∀ q ∈ ex,67≤q.1∧Qd7 okN q.2)
  (hc:Qt none (evs c.gl (⟨t,ex++T.h,n⟩:St).fs xs)∧(evs c.gl (⟨t,ex++T.h,n⟩:St).fs xs).map Qj=args∧nmAll 67 args∧tPs okN t) (hr:∀ x,Q x→Qe 67 (r x)) (hk:∀ x,Q x→XP P c r0 K (St.putO ⟨t,ex++(W x).h,n⟩ d (r x))):Yc P c (.pd d (.call f) xs none) r0 K s:=by
 have hS:okN=Qi5 id [0,1] 67:=by
  funext b
  refine propext ⟨fun h b' hb' e=>?_,fun h=>?_⟩
  ·show b' ∈ [0,1]
   have e:b'=b:=e
   rcases h with h|h
   ·have:b'=0∨b'=1:=by omega
    simpa using this
   ·omega
  ·by_cases hb:b < 67
   ·have:=h b hb rfl
    simp at this
    exact .inl Zom
   ·exact .inr Zom
 refine Yat (σ:=id) hq hgh t ex ⟨by rw[Jn];exact hto,fun b b' _ _ e=>e,WT.HL hT,fun b hb=>?_,fun q hq=>⟨fun b hb e=>?_,?_⟩,?_,by rw[Jn];exact hc.1,?_,hc.2.2.1⟩ (fun x hx=>WT.HL (hW x hx)) hr fun x hx=>?_
 ·rw[← hS];exact hpc b hb
 ·have:=(hex q hq).1
  have e:b=q.1:=e
  omega
 ·rw[← hS];exact (hex q hq).2
 ·rw[← hS];exact hc.2.2.2
 ·show some (f,_)=some (f,_)
  rw[Jn,Kd,hc.2.1]
 ·rw[Jn,Qc0 id (fun _=>rfl)];exact hk x hx
theorem Xm2 (S:Nat→Prop):tPs S []=True:=rfl
theorem Xeo (S:Nat→Prop) (i:Nat) (v:AV) (l:List (Nat × AV)):tPs S ((i,v)::l)=(nmP S v∧tPs S l):=rfl
theorem Xmy (S:Nat→Prop) (k:IntKind) (n:Int):nmP S (.int k n)=True:=by simp only[nmP]
theorem Xc6 (S:Nat→Prop) (b:Bool):nmP S (.bool b)=True:=by simp only[nmP]
theorem Xnr (S:Nat→Prop) (b:List UInt8):nmP S (.str b)=True:=by simp only[nmP]
theorem Xcd (S:Nat→Prop):nmP S .nils=True:=by simp only[nmP]
theorem Xmq (S:Nat→Prop) (b o:Nat):nmP S (.ptr b o)=S b:=by simp only[nmP]
theorem Xr2 (S:Nat→Prop) (b:Nat):nmP S (.mp b)=S b:=by simp only[nmP]
theorem Xrl (S:Nat→Prop) (es b o n c:Nat):nmP S (.sl es b o n c)=S b:=by simp only[nmP]
theorem Xhn (S:Nat→Prop) (n:Nat) (l:List AV):nmP S (.isl n l)=nmPs S l:=by simp only[nmP]
theorem Xmp (S:Nat→Prop) (l:List AV):nmP S (.agg l)=nmPs S l:=by simp only[nmP]
theorem Xlg (S:Nat→Prop) (l:List AV):nmP S (.tup l)=nmPs S l:=by simp only[nmP]
theorem Xov (S:Nat→Prop) (f:FuncId) (l:List AV):nmP S (.cl f l)=nmPs S l:=by simp only[nmP]
theorem Xho (S:Nat→Prop) (v:Value):nmP S (.lit v)=True:=by simp only[nmP]
theorem Xdg (S:Nat→Prop):nmPs S []=True:=by simp only[nmPs]
theorem Qw8 (S:Nat→Prop) (v:AV) (l:List AV):nmPs S (v::l)=(nmP S v∧nmPs S l):=by simp only[nmPs]
theorem Xyp:okN 0=True:=by simp[okN]
theorem Xyb:okN 1=True:=by simp[okN]
theorem Xzz (b:Nat) (h:67≤b):okN b=True:=by simp[okN,h]
attribute [go_sem] Xm2 Xeo Xmy Xc6 Xnr Xcd Xmq Xr2 Xrl Xhn Xmp Xlg Xov Xho Xdg Qw8 Xyp Xyb Xzz Xyi Xzt Qrm
theorem WT.hHi {T:WT} (h:T.wf) (n b:Nat) (hb:67≤b):Qb T.h n b=if b < n then .dead else .free:=by
 have hl:=h.len
 rw[WT.lookh,if_neg Zom,if_neg Zom,if_neg Zom]
theorem WT.hbHi {T:WT} (h:T.wf) (n b:Nat) (hb:67≤b):Qb T.hb n b=if b < n then .dead else .free:=by
 have hl:=h.len
 rw[WT.lookhb,if_neg Zom,if_neg Zom,if_neg Zom]
theorem Qzp (gl:Nat→AV) (t:Tm) (x:Int):GS Tryz.prog gl 176 [.agg [.int .i64 t.id,.int .i64 t.due],.ptr 0 0] [(0,.cells [.int .i64 x])] 1 (.bool (t.id == x)) [(0,.cells [.int .i64 x])] 1:=by
 refine Xvy.gs (of_decide_eq_true rfl) (by simp[Bk.live]) fun c hN hg=>?_
 conv in tcO _ _=>cbv
 obtain ⟨id,due⟩:=t
 refine Qd ?_
 refine ⟨[],?_⟩
 exact Qs
def ixT (x:Int):List Tm→Nat→Int
 | [],_=>-1
 | t::l,k=>if t.id=x then k else ixT x l (k + 1)
set_option maxHeartbeats 1000000 in
theorem Xy8 (gl:Nat→AV) (l:List Tm) (hl:l.length≤1000000) (x:Int):GS Tryz.prog gl 181 [.sl 2 0 0 l.length l.length,.cl 176 [.ptr 1 0]]
  [(0,.cells (tms l)),(1,.cells [.int .i64 x])] 2 (.int .i64 (ixT x l 0)) [(0,.cells (tms l)),(1,.cells [.int .i64 x])] 2:=by
 refine Qyt.gs (of_decide_eq_true rfl) (by simp[Bk.live]) fun c hN hg=>?_
 conv in tcO _ _=>cbv
 have htl:=Zf l
 refine Qd ?_
 refine Uq (fun k:Nat=>k≤l.length∧ixT x (l.drop k) k=ixT x l 0) (fun k=>⟨[(0,.sl 2 0 0 l.length l.length),(1,.cl 176 [.ptr 1 0]),(6,.sl 2 0 0 l.length l.length),(7,.int .i64 l.length),(8,.int .i64 k)],[(0,.cells (tms l)),(1,.cells [.int .i64 x])],2⟩) (fun k=>l.length - k) Qyt.mixed 2 hN
  ⟨0,⟨by omega,rfl⟩,[],by exact Qs⟩ fun k hk=>?_
 obtain ⟨hk,hik⟩:=hk
 refine Qd ?_
 (refine Qa (fun h1=>?_) (fun h1=>?_)<;>try exact h1.elim)
 ·have hkn:k < l.length:=by omega
  have hcut:=Qd1 l k hkn
  have hdr:l.drop k=l[k]::l.drop (k + 1):=List.drop_eq_getElem_cons hkn
  rw[hdr]at hik
  rw[ixT]at hik
  generalize l[k]=t at *
  have hc:=Qzp c.gl t x
  refine Qg (An @htl @hcut) ?_
  refine Qla (ip [1]) hc (An @htl @hcut) ?_
  (refine Qa (fun h2=>?_) (fun h2=>?_)<;>try exact h2.elim)
  ·rw[if_pos (by simpa using h2)]at hik
   refine Qd ?_
   refine ⟨[],?_⟩
   exact Qq @hik
  ·rw[if_neg (by simpa using h2)]at hik
   refine Qd ?_
   refine ⟨k + 1,⟨by omega,hik⟩,⟨[],?_⟩,by omega⟩
   exact Qs
 ·have:k=l.length:=by omega
  subst this
  rw[List.drop_length]at hik
  have hik:(-1:Int)=ixT x l 0:=hik
  refine Qd ?_
  refine ⟨[],?_⟩
  exact Qq @hik
theorem Xr8 (l:List Tm) (k:Nat) (h:k≤l.length):(tms l).drop (k * 2)=tms (l.drop k):=by
 have e:tms l=tms (l.take k)++tms (l.drop k):=by rw[← Qbm,List.take_append_drop]
 rw[e,List.drop_append_of_le_length (by rw[Zf,List.length_take];omega),List.drop_of_length_le (by rw[Zf,List.length_take];omega),List.nil_append]
theorem Qsh (l:List Tm) (k:Nat) (h:k≤l.length):(tms l).take (k * 2)=tms (l.take k):=by
 have e:tms l=tms (l.take k)++tms (l.drop k):=by rw[← Qbm,List.take_append_drop]
 rw[e,List.take_append_of_le_length (by rw[Zf,List.length_take];omega),List.take_of_length_le (by rw[Zf,List.length_take];omega)]
theorem Xxc (l:List Tm) (k:Nat) (h:k < l.length) (t:Tm):(tms l).take (k * 2)++[.int .i64 t.id,.int .i64 t.due]++(tms l).drop (k * 2 + 2)=tms (l.set k t):=by
 rw[show k * 2 + 2=(k + 1) * 2 by omega,Qsh l k Zom,Xr8 l (k + 1) Zom,List.set_eq_take_append_cons_drop,if_pos h,Qbm]
 simp[tms]
theorem Qty {x:Int}:∀ (l:List Tm) (k:Nat),ixT x l k=-1→∀ t ∈ l,t.id≠x
 | [],_,_,t,ht=>by cases ht
 | a::l,k,h,t,ht=>by
  unfold ixT at h
  split at h
  ·omega
  ·rcases List.mem_cons.1 ht with rfl|ht
   ·assumption
   ·exact Qty l (k + 1) h t ht
theorem Quw {x:Int}:∀ (l:List Tm) (k:Nat),ixT x l k≠-1→∃ i,i < l.length∧ixT x l k=((k + i:Nat):Int)∧(∀ t ∈ l.take i,t.id≠x)∧∃ t,l[i]?=some t∧t.id=x
 | [],_,h=>absurd rfl h
 | a::l,k,h=>by
  unfold ixT at h ⊢
  split at h
  ·rename_i e
   rw[if_pos e]
   exact ⟨0,by simp,by simp,by simp,a,rfl,e⟩
  ·rename_i e
   rw[if_neg e]
   obtain ⟨i,h1,h2,h3,t,h4,h5⟩:=Quw l (k + 1) h
   refine ⟨i + 1,by simpa using h1,by rw[h2];omega,fun y hy=>?_,t,by simpa using h4,h5⟩
   rw[List.take_succ_cons]at hy
   rcases List.mem_cons.1 hy with rfl|hy
   ·exact e
   ·exact h3 y hy
theorem Xv4:Qox Tryz.prog 144 2:=Qp4 (by kernel_rfl)
def Xv (x:Int) (l:List Tm):List Tm:=l.filter fun t=>!(t.id == x)
set_option maxHeartbeats 2000000 in
theorem Qzk (gl:Nat→AV) (l:List Tm) (hl:l.length≤1000000) (x:Int):GS Tryz.prog gl 177 [.sl 2 0 0 l.length l.length,.cl 176 [.ptr 1 0]]
  [(0,.cells (tms l)),(1,.cells [.int .i64 x])] 2 (.sl 2 0 0 (Xv x l).length l.length) [(0,.cells (tms (Xv x l))),(1,.cells [.int .i64 x])] 2:=by
 refine Qz4.gs (of_decide_eq_true rfl) (by simp[Bk.live]) fun c hN hg=>?_
 conv in tcO _ _=>cbv
 have htl:=Zf l
 have hi:=Xy8 c.gl l hl x
 refine Qd ?_
 ((first|refine Qy (ins:=[0,1]) hi ?_ ?_|refine Qv (ins:=[0,1]) hi ?_ ?_|refine Qu (ins:=[0,1]) hi ?_ ?_|refine Qr (ins:=[0,1]) hi ?_ ?_)<;>(have zf1:=@htl;refine XG ?_;clear zf1;(try first|exact rfl|exact True.intro);((try (repeat' with_reducible refine And.intro ?_ ?_));(try any_goals (first|refine zm ?_|exact CL|fail)))))
 ·decide
 by_cases hno:ixT x l 0=-1
 ·have hoff:Xv x l=l:=List.filter_eq_self.2 fun t ht=>by simpa using Qty l 0 hno t ht
  rw[hoff]
  (refine Qa (fun h1=>?_) (fun h1=>?_)<;>try exact h1.elim)
  ·refine Qd ?_
   refine ⟨[],?_⟩
   exact Qs
  ·exact absurd hno (by simpa using h1)
 ·obtain ⟨i0,q1,q2,q3,t0,q4,q5⟩:=Quw l 0 hno
  rw[Nat.zero_add]at q2
  rw[q2]
  (refine Qa (fun h1=>?_) (fun h1=>?_)<;>try exact h1.elim)
  ·omega
  refine Qd ?_
  refine Uq (fun y:Nat × Nat × List Tm=>y.1 < y.2.1∧y.2.1≤l.length∧y.2.2.length=l.length∧y.2.2.take y.1=Xv x (l.take y.2.1)∧y.2.2.drop y.2.1=l.drop y.2.1)
   (fun y=>⟨[(0,.sl 2 0 0 l.length l.length),(1,.cl 176 [.ptr 1 0]),(5,.int .i64 y.1),(6,.int .i64 y.2.1)],[(0,.cells (tms y.2.2)),(1,.cells [.int .i64 x])],2⟩) (fun y=>l.length - y.2.1) Qz4.mixed 2 hN
   ⟨(i0,i0 + 1,l),⟨by simp,by show i0 + 1≤l.length;omega,rfl,?_,rfl⟩,[],by exact Qs⟩ fun y hy=>?_
  ·have:l.take (i0 + 1)=l.take i0++[t0]:=by rw[List.take_succ,q4];rfl
   show l.take i0=Xv x (l.take (i0 + 1))
   rw[this]
   unfold Xv
   rw[List.filter_append,List.filter_eq_self.2 fun t ht=>by simpa using q3 t ht]
   simp[q5]
  obtain ⟨i,j,M⟩:=y
  obtain ⟨hij,hjn,hM,hpre,hsuf⟩:=hy
  dsimp only at hij hjn hM hpre hsuf ⊢
  have htM:=Zf M
  refine Qd ?_
  (refine Qa (fun h2=>?_) (fun h2=>?_)<;>try exact h2.elim)
  ·have hjl:j < l.length:=by omega
   have hjM:j < M.length:=by omega
   have hcut:=Qd1 M j hjM
   have hMj:M[j]=l[j]:=by
    have e1:(M.drop j)[0]?=M[j]?:=by simp
    have e2:(l.drop j)[0]?=l[j]?:=by simp
    rw[hsuf,e2]at e1
    simpa [hjl,hjM] using e1.symm
   have htk:Xv x (l.take (j + 1))=if M[j].id=x then Xv x (l.take j) else Xv x (l.take j)++[M[j]]:=by
    have:l.take (j + 1)=l.take j++[M[j]]:=by rw[List.take_succ,hMj];simp[hjl]
    rw[this]
    unfold Xv
    rw[List.filter_append]
    split<;>simp_all
   have hdr:M.drop (j + 1)=l.drop (j + 1):=by
    have:=congrArg (List.drop 1) hsuf
    simpa [List.drop_drop,Nat.add_comm] using this
   have hset:Ym (tms M) (i * 2) [.int .i64 M[j].id,.int .i64 M[j].due]=tms (M.set i M[j]):=Xxc M i Zom M[j]
   have hlen2:((M.set i M[j]).take (i + 1))=M.take i++[M[j]]:=by
    rw[List.take_succ,List.take_set_of_le (Nat.le_refl i)]
    simp[show i < M.length by omega]
   have hdr2:(M.set i M[j]).drop (j + 1)=M.drop (j + 1):=by rw[List.drop_set_of_lt Zom]
   have hsl:(M.set i M[j]).length=l.length:=by simp[hM]
   have htS:=Zf (M.set i M[j])
   generalize M[j]=t at *
   have hc:=Qzp c.gl t x
   refine Qg (An @htM @hcut) ?_
   refine Qla (ip [1]) hc (An @htM @hcut) ?_
   (refine Qa (fun h3=>?_) (fun h3=>?_)<;>try exact h3.elim)
   ·rw[if_neg h3]at htk
    refine Qg (An @htM @hset) ?_
    refine ⟨(i + 1,j + 1,M.set i t),⟨by dsimp only;omega,by dsimp only;omega,hsl,by rw[hlen2,hpre,htk],by rw[hdr2,hdr]⟩,⟨[],?_⟩,by dsimp only;omega⟩
    exact Qs
   ·rw[if_pos (by simpa using h3)]at htk
    refine Qg @htM ?_
    refine ⟨(i,j + 1,M),⟨by dsimp only;omega,by dsimp only;omega,hM,by rw[hpre,htk],hdr⟩,⟨[],?_⟩,by dsimp only;omega⟩
    exact Qs
  ·obtain rfl:j=l.length:=by omega
   rw[List.take_length]at hpre
   have hlo:(Xv x l).length=i:=by rw[← hpre,List.length_take];omega
   have hto:=Qsh M i Zom
   rw[hpre]at hto
   refine Qd ?_
   (refine Qmm Xv4 ?_;(have zf1:=@hto;refine XG ?_;clear zf1;((try (repeat' with_reducible refine And.intro ?_ ?_));(try any_goals (first|refine zm ?_|exact CL|fail)))))
   refine Qd ?_
   refine ⟨[],?_⟩
   exact Qq @hlo
def WT.lay (T:WT) (t:Tm):WT:=T.put (Yp T.now t.due) (T.row (Yp T.now t.due)++[t])
theorem WT.lay_wf {T:WT} (h:T.wf) (t:Tm):(T.lay t).wf:=WT.put_wf h _ _
theorem Wx {now due k:Nat} (h:Yp now due=Qkn now due (4 - k) k) (hk:k < 4):Yp now due=if due / 16 ^ k < now / 16 ^ k + 16 then k * 16 + due / 16 ^ k % 16 else Qkn now due (4 - (k + 1)) (k + 1):=by
 rw[h,show 4 - k=(4 - (k + 1)) + 1 by omega];rfl
theorem Qcb (a b:Nat):Int.tdiv (a:Int) (b:Int)=((a / b:Nat):Int):=by rw[Int.tdiv_eq_ediv_of_nonneg (by omega)];rfl
theorem Qbt (a b:Nat):Int.tmod (a:Int) (b:Int)=((a % b:Nat):Int):=by rw[Int.tmod_eq_emod_of_nonneg (by omega)];rfl
set_option maxHeartbeats 4000000 in
set_option maxRecDepth 20000 in
theorem Qdt (gl:Nat→AV) (T:WT) (hT:T.wf) (t:Tm) (hn:T.now≤1099511627776) (hd:t.due≤1099511627776) (hlen:(T.row (Yp T.now t.due)).length≤1000000) :
  GQ Tryz.prog gl 165 [.ptr 0 0,.agg [.int .i64 t.id,.int .i64 t.due]] T.h 67 [0,1] (fun _:Unit=>True) (fun _=>.tup []) (fun _=>(T.lay t).h):=by
 refine Qyn.gq (of_decide_eq_true rfl) (fun q hq=>Xe (((WT.HL hT).mem q hq).2)) Zsi fun c hgh hg=>?_
 conv in tcO _ _=>cbv
 have hHi:=fun n b hb=>WT.rowHi hT n (b:=b) hb
 have h0:=WT.get0 T
 have hl:=WT.len hT
 obtain ⟨id,due⟩:=t
 dsimp only at hd hlen ⊢
 have hTh:T.h=(0,.cells T.cells)::(1,T.mb)::Jt T.rows 0:=rfl
 rw[hTh]
 refine Qg @hHi ?_
 refine Yj (fun k:Nat=>k≤4∧Yp T.now due=Qkn T.now due (4 - k) k) (fun k=>⟨[(0,.ptr 0 0),(3,.ptr 67 0),(4,.int .i64 ((16 ^ k:Nat):Int)),(7,.int .i64 k)],(67,.cells [.int .i64 id,.int .i64 due])::T.h,68⟩) (fun k=>4 - k) Qyn.mixed [0,1] hgh
  ⟨0,⟨by omega,rfl⟩,To.sel (by exact Qs) fun _=>rfl⟩ fun k hk=>?_
 obtain ⟨hk4,hsl⟩:=hk
 obtain rfl|rfl|rfl|rfl|rfl:k=0∨k=1∨k=2∨k=3∨k=4:=by omega
 ·have hq1:Int.tdiv (due:Int) 1=((due / 1:Nat):Int):=Qcb due 1
  have hq2:Int.tdiv (T.now:Int) 1=((T.now / 1:Nat):Int):=Qcb T.now 1
  have hp:((16 ^ 0:Nat):Int)=1:=rfl
  have hp2:((16 ^ 1:Nat):Int)=16:=rfl
  have hm:Int.tmod ((due / 1:Nat):Int) 16=((due / 1 % 16:Nat):Int):=Qbt _ 16
  rw[hTh,hp]
  refine Qg (An @hHi @h0) ?_
  (refine Qa (fun h1=>?_) (fun h1=>?_)<;>try exact h1.elim)
  refine Qg (An @hHi (An @h0 (An @hq1 @hq2))) ?_
  (refine Qa (fun h2=>?_) (fun h2=>?_)<;>try exact h2.elim)
  ·refine Qg (An @hHi (An @h0 (An @hq1 @hm))) ?_
   have hs1:Yp T.now due=due / 1 % 16:=by rw[Wx hsl Zom,if_pos (by simp only[Nat.reducePow];omega)];simp only[Nat.zero_mul,Nat.zero_add,Nat.reducePow]
   have hsp:due / 1 % 16 < 16:=Nat.mod_lt _ Zom
   rw[hs1]at hlen
   have hlay:T.lay ⟨id,due⟩=T.put (due / 1 % 16) (T.row (due / 1 % 16)++[⟨id,due⟩]):=by unfold WT.lay;rw[hs1]
   rw[hlay]
   generalize due / 1 % 16=sp at *
   have hget:=WT.getI hT (i:=sp) Zom
   have hrow:=fun n=>WT.rowI hT (i:=sp) Zom n
   rw[show sp + 1=1 + sp by omega]at hget
   have htl:=Zf (T.row (sp))
   have hb1:((68:Nat) == 2 + sp)=false:=beq_eq_false_iff_ne.2 Zom
   have hb2:((67:Nat) == 2 + sp)=false:=beq_eq_false_iff_ne.2 Zom
   have hb3:((0:Nat) == 2 + sp)=false:=beq_eq_false_iff_ne.2 Zom
   have hb4:((1:Nat) == 2 + sp)=false:=beq_eq_false_iff_ne.2 Zom
   have hb5:((2 + sp:Nat) == 0)=false:=beq_eq_false_iff_ne.2 Zom
   refine Zr (An @hHi @hget) ?_
   ((first|apply Qgy|apply Qf7|apply Qh7|apply Qf5|apply Qhe|apply Qf8);(have zf1:=@hHi;have zf2:=@hget;have zf3:=@hb1;have zf4:=@hb2;have zf5:=@hb3;have zf6:=@hb4;have zf7:=@hrow;have zf8:=@htl;have zf9:=@hb5;refine XG ?_;clear zf1 zf2 zf3 zf4 zf5 zf6 zf7 zf8 zf9;((try (repeat' with_reducible refine And.intro ?_ ?_));(try any_goals (first|refine zm ?_|exact CL|fail)))))
   ·simp[Ue,Wo,clash,hb1,hb2,hb3,hb4,hb5]
    (repeat' refine And.intro ?_ ?_)<;>first|decide|(left;omega)
   ·refine Qd ?_
    refine ⟨(),To.put (ex:=[]) hT (i:=sp) (N:=69) Zom Zom Zom (fun b hb=>?_) Zom ?_ ?_ ?_ (fun j hj hne=>?_) ?_ trivial (fun q hq=>by cases hq)⟩
    ·simp at hb;omega
    ·rw[Qc,if_pos rfl,show sp + 1=1 + sp by omega];simp
    ·(repeat rw[Qc,if_neg Zom]);rw[Qc,if_pos rfl]
    ·rw[Qc,if_neg Zom,Qc,if_pos rfl,Qbm];rfl
    ·(repeat rw[Qc,if_neg Zom]);exact WT.rowI hT hj 70
    ·simp[Qw,Qe,nmAll,look,ren,rens]
  ·refine Zk (An @hHi @h0) ?_
   refine ⟨1,⟨by omega,?_⟩,To.sel (by exact Qq @hp2) fun _=>rfl,by omega⟩
   rw[Wx hsl Zom,if_neg (by simp only[Nat.reducePow];omega)]
 ·have hq1:Int.tdiv (due:Int) 16=((due / 16:Nat):Int):=Qcb due 16
  have hq2:Int.tdiv (T.now:Int) 16=((T.now / 16:Nat):Int):=Qcb T.now 16
  have hp:((16 ^ 1:Nat):Int)=16:=rfl
  have hp2:((16 ^ 2:Nat):Int)=256:=rfl
  have hm:Int.tmod ((due / 16:Nat):Int) 16=((due / 16 % 16:Nat):Int):=Qbt _ 16
  rw[hTh,hp]
  refine Qg (An @hHi @h0) ?_
  (refine Qa (fun h1=>?_) (fun h1=>?_)<;>try exact h1.elim)
  refine Qg (An @hHi (An @h0 (An @hq1 @hq2))) ?_
  (refine Qa (fun h2=>?_) (fun h2=>?_)<;>try exact h2.elim)
  ·refine Qg (An @hHi (An @h0 (An @hq1 @hm))) ?_
   have hs1:Yp T.now due=16 + due / 16 % 16:=by rw[Wx hsl Zom,if_pos (by simp only[Nat.reducePow];omega)]
   have hsp:due / 16 % 16 < 16:=Nat.mod_lt _ Zom
   rw[hs1]at hlen
   have hlay:T.lay ⟨id,due⟩=T.put (16 + due / 16 % 16) (T.row (16 + due / 16 % 16)++[⟨id,due⟩]):=by unfold WT.lay;rw[hs1]
   rw[hlay]
   generalize due / 16 % 16=sp at *
   have hget:=WT.getI hT (i:=16 + sp) Zom
   have hrow:=fun n=>WT.rowI hT (i:=16 + sp) Zom n
   rw[show 16 + sp + 1=17 + sp by omega,show 2 + (16 + sp)=18 + sp by omega]at hget
   simp only[show 2 + (16 + sp)=18 + sp by omega]at hrow
   have htl:=Zf (T.row (16 + sp))
   have hb1:((68:Nat) == 18 + sp)=false:=beq_eq_false_iff_ne.2 Zom
   have hb2:((67:Nat) == 18 + sp)=false:=beq_eq_false_iff_ne.2 Zom
   have hb3:((0:Nat) == 18 + sp)=false:=beq_eq_false_iff_ne.2 Zom
   have hb4:((1:Nat) == 18 + sp)=false:=beq_eq_false_iff_ne.2 Zom
   have hb5:((18 + sp:Nat) == 0)=false:=beq_eq_false_iff_ne.2 Zom
   refine Zr (An @hHi @hget) ?_
   ((first|apply Qgy|apply Qf7|apply Qh7|apply Qf5|apply Qhe|apply Qf8);(have zf1:=@hHi;have zf2:=@hget;have zf3:=@hb1;have zf4:=@hb2;have zf5:=@hb3;have zf6:=@hb4;have zf7:=@hrow;have zf8:=@htl;have zf9:=@hb5;refine XG ?_;clear zf1 zf2 zf3 zf4 zf5 zf6 zf7 zf8 zf9;((try (repeat' with_reducible refine And.intro ?_ ?_));(try any_goals (first|refine zm ?_|exact CL|fail)))))
   ·simp[Ue,Wo,clash,hb1,hb2,hb3,hb4,hb5]
    (repeat' refine And.intro ?_ ?_)<;>first|decide|(left;omega)
   ·refine Qd ?_
    refine ⟨(),To.put (ex:=[]) hT (i:=16 + sp) (N:=69) Zom Zom Zom (fun b hb=>?_) Zom ?_ ?_ ?_ (fun j hj hne=>?_) ?_ trivial (fun q hq=>by cases hq)⟩
    ·simp at hb;omega
    ·rw[Qc,if_pos rfl,show 16 + sp + 1=17 + sp by omega];simp
    ·(repeat rw[Qc,if_neg Zom]);rw[Qc,if_pos rfl]
    ·rw[Qc,if_neg Zom,Qc,if_pos rfl,Qbm];rfl
    ·(repeat rw[Qc,if_neg Zom]);exact WT.rowI hT hj 70
    ·simp[Qw,Qe,nmAll,look,ren,rens]
  ·refine Zk (An @hHi @h0) ?_
   refine ⟨2,⟨by omega,?_⟩,To.sel (by exact Qq @hp2) fun _=>rfl,by omega⟩
   rw[Wx hsl Zom,if_neg (by simp only[Nat.reducePow];omega)]
 ·have hq1:Int.tdiv (due:Int) 256=((due / 256:Nat):Int):=Qcb due 256
  have hq2:Int.tdiv (T.now:Int) 256=((T.now / 256:Nat):Int):=Qcb T.now 256
  have hp:((16 ^ 2:Nat):Int)=256:=rfl
  have hp2:((16 ^ 3:Nat):Int)=4096:=rfl
  have hm:Int.tmod ((due / 256:Nat):Int) 16=((due / 256 % 16:Nat):Int):=Qbt _ 16
  rw[hTh,hp]
  refine Qg (An @hHi @h0) ?_
  (refine Qa (fun h1=>?_) (fun h1=>?_)<;>try exact h1.elim)
  refine Qg (An @hHi (An @h0 (An @hq1 @hq2))) ?_
  (refine Qa (fun h2=>?_) (fun h2=>?_)<;>try exact h2.elim)
  ·refine Qg (An @hHi (An @h0 (An @hq1 @hm))) ?_
   have hs1:Yp T.now due=32 + due / 256 % 16:=by rw[Wx hsl Zom,if_pos (by simp only[Nat.reducePow];omega)]
   have hsp:due / 256 % 16 < 16:=Nat.mod_lt _ Zom
   rw[hs1]at hlen
   have hlay:T.lay ⟨id,due⟩=T.put (32 + due / 256 % 16) (T.row (32 + due / 256 % 16)++[⟨id,due⟩]):=by unfold WT.lay;rw[hs1]
   rw[hlay]
   generalize due / 256 % 16=sp at *
   have hget:=WT.getI hT (i:=32 + sp) Zom
   have hrow:=fun n=>WT.rowI hT (i:=32 + sp) Zom n
   rw[show 32 + sp + 1=33 + sp by omega,show 2 + (32 + sp)=34 + sp by omega]at hget
   simp only[show 2 + (32 + sp)=34 + sp by omega]at hrow
   have htl:=Zf (T.row (32 + sp))
   have hb1:((68:Nat) == 34 + sp)=false:=beq_eq_false_iff_ne.2 Zom
   have hb2:((67:Nat) == 34 + sp)=false:=beq_eq_false_iff_ne.2 Zom
   have hb3:((0:Nat) == 34 + sp)=false:=beq_eq_false_iff_ne.2 Zom
   have hb4:((1:Nat) == 34 + sp)=false:=beq_eq_false_iff_ne.2 Zom
   have hb5:((34 + sp:Nat) == 0)=false:=beq_eq_false_iff_ne.2 Zom
   refine Zr (An @hHi @hget) ?_
   ((first|apply Qgy|apply Qf7|apply Qh7|apply Qf5|apply Qhe|apply Qf8);(have zf1:=@hHi;have zf2:=@hget;have zf3:=@hb1;have zf4:=@hb2;have zf5:=@hb3;have zf6:=@hb4;have zf7:=@hrow;have zf8:=@htl;have zf9:=@hb5;refine XG ?_;clear zf1 zf2 zf3 zf4 zf5 zf6 zf7 zf8 zf9;((try (repeat' with_reducible refine And.intro ?_ ?_));(try any_goals (first|refine zm ?_|exact CL|fail)))))
   ·simp[Ue,Wo,clash,hb1,hb2,hb3,hb4,hb5]
    (repeat' refine And.intro ?_ ?_)<;>first|decide|(left;omega)
   ·refine Qd ?_
    refine ⟨(),To.put (ex:=[]) hT (i:=32 + sp) (N:=69) Zom Zom Zom (fun b hb=>?_) Zom ?_ ?_ ?_ (fun j hj hne=>?_) ?_ trivial (fun q hq=>by cases hq)⟩
    ·simp at hb;omega
    ·rw[Qc,if_pos rfl,show 32 + sp + 1=33 + sp by omega];simp
    ·(repeat rw[Qc,if_neg Zom]);rw[Qc,if_pos rfl]
    ·rw[Qc,if_neg Zom,Qc,if_pos rfl,Qbm];rfl
    ·(repeat rw[Qc,if_neg Zom]);exact WT.rowI hT hj 70
    ·simp[Qw,Qe,nmAll,look,ren,rens]
  ·refine Zk (An @hHi @h0) ?_
   refine ⟨3,⟨by omega,?_⟩,To.sel (by exact Qq @hp2) fun _=>rfl,by omega⟩
   rw[Wx hsl Zom,if_neg (by simp only[Nat.reducePow];omega)]
 ·have hq1:Int.tdiv (due:Int) 4096=((due / 4096:Nat):Int):=Qcb due 4096
  have hq2:Int.tdiv (T.now:Int) 4096=((T.now / 4096:Nat):Int):=Qcb T.now 4096
  have hp:((16 ^ 3:Nat):Int)=4096:=rfl
  have hp2:((16 ^ 4:Nat):Int)=65536:=rfl
  have hm:Int.tmod ((due / 4096:Nat):Int) 16=((due / 4096 % 16:Nat):Int):=Qbt _ 16
  rw[hTh,hp]
  refine Qg (An @hHi @h0) ?_
  (refine Qa (fun h1=>?_) (fun h1=>?_)<;>try exact h1.elim)
  refine Qg (An @hHi (An @h0 (An @hq1 @hq2))) ?_
  (refine Qa (fun h2=>?_) (fun h2=>?_)<;>try exact h2.elim)
  ·refine Qg (An @hHi (An @h0 (An @hq1 @hm))) ?_
   have hs1:Yp T.now due=48 + due / 4096 % 16:=by rw[Wx hsl Zom,if_pos (by simp only[Nat.reducePow];omega)]
   have hsp:due / 4096 % 16 < 16:=Nat.mod_lt _ Zom
   rw[hs1]at hlen
   have hlay:T.lay ⟨id,due⟩=T.put (48 + due / 4096 % 16) (T.row (48 + due / 4096 % 16)++[⟨id,due⟩]):=by unfold WT.lay;rw[hs1]
   rw[hlay]
   generalize due / 4096 % 16=sp at *
   have hget:=WT.getI hT (i:=48 + sp) Zom
   have hrow:=fun n=>WT.rowI hT (i:=48 + sp) Zom n
   rw[show 48 + sp + 1=49 + sp by omega,show 2 + (48 + sp)=50 + sp by omega]at hget
   simp only[show 2 + (48 + sp)=50 + sp by omega]at hrow
   have htl:=Zf (T.row (48 + sp))
   have hb1:((68:Nat) == 50 + sp)=false:=beq_eq_false_iff_ne.2 Zom
   have hb2:((67:Nat) == 50 + sp)=false:=beq_eq_false_iff_ne.2 Zom
   have hb3:((0:Nat) == 50 + sp)=false:=beq_eq_false_iff_ne.2 Zom
   have hb4:((1:Nat) == 50 + sp)=false:=beq_eq_false_iff_ne.2 Zom
   have hb5:((50 + sp:Nat) == 0)=false:=beq_eq_false_iff_ne.2 Zom
   refine Zr (An @hHi @hget) ?_
   ((first|apply Qgy|apply Qf7|apply Qh7|apply Qf5|apply Qhe|apply Qf8);(have zf1:=@hHi;have zf2:=@hget;have zf3:=@hb1;have zf4:=@hb2;have zf5:=@hb3;have zf6:=@hb4;have zf7:=@hrow;have zf8:=@htl;have zf9:=@hb5;refine XG ?_;clear zf1 zf2 zf3 zf4 zf5 zf6 zf7 zf8 zf9;((try (repeat' with_reducible refine And.intro ?_ ?_));(try any_goals (first|refine zm ?_|exact CL|fail)))))
   ·simp[Ue,Wo,clash,hb1,hb2,hb3,hb4,hb5]
    (repeat' refine And.intro ?_ ?_)<;>first|decide|(left;omega)
   ·refine Qd ?_
    refine ⟨(),To.put (ex:=[]) hT (i:=48 + sp) (N:=69) Zom Zom Zom (fun b hb=>?_) Zom ?_ ?_ ?_ (fun j hj hne=>?_) ?_ trivial (fun q hq=>by cases hq)⟩
    ·simp at hb;omega
    ·rw[Qc,if_pos rfl,show 48 + sp + 1=49 + sp by omega];simp
    ·(repeat rw[Qc,if_neg Zom]);rw[Qc,if_pos rfl]
    ·rw[Qc,if_neg Zom,Qc,if_pos rfl,Qbm];rfl
    ·(repeat rw[Qc,if_neg Zom]);exact WT.rowI hT hj 70
    ·simp[Qw,Qe,nmAll,look,ren,rens]
  ·refine Zk (An @hHi @h0) ?_
   refine ⟨4,⟨by omega,?_⟩,To.sel (by exact Qq @hp2) fun _=>rfl,by omega⟩
   rw[Wx hsl Zom,if_neg (by simp only[Nat.reducePow];omega)]
 ·rw[hTh]
  refine Qg (An @hHi @h0) ?_
  (refine Qa (fun h1=>?_) (fun h1=>?_)<;>try exact h1.elim)
  have hs1:Yp T.now due=64:=by rw[hsl];rfl
  rw[hs1]at hlen
  have hlay:T.lay ⟨id,due⟩=T.put 64 (T.row 64++[⟨id,due⟩]):=by unfold WT.lay;rw[hs1]
  rw[hlay]
  have hget:=WT.getI hT (i:=64) Zom
  have hrow:=fun n=>WT.rowI hT (i:=64) Zom n
  simp only[Nat.reduceAdd]at hget hrow
  have htl:=Zf (T.row 64)
  refine Qg (An @hHi @hget) ?_
  refine Zr (An @hHi @hget) ?_
  refine Zr (An @hHi (An @hget (An @hrow @htl))) ?_
  refine ⟨(),To.put (ex:=[]) hT (i:=64) (N:=69) Zom Zom Zom (fun b hb=>?_) Zom ?_ ?_ ?_ (fun j hj hne=>?_) ?_ trivial (fun q hq=>by cases hq)⟩
  ·simp at hb;omega
  ·rw[Qc,if_pos rfl];simp
  ·(repeat rw[Qc,if_neg Zom]);rw[Qc,if_pos rfl]
  ·rw[Qc,if_neg Zom,Qc,if_pos rfl,Qbm];rfl
  ·(repeat rw[Qc,if_neg Zom]);exact WT.rowI hT hj 70
  ·simp[Qw,Qe,nmAll,look,ren,rens]
def kvT (D:List Tm):List (AV × AV):=D.map fun t=>(.int .i64 t.id,.int .i64 t.due)
theorem Qa5 (D:List Tm):(kvT D).length=D.length:=by simp[kvT]
theorem Qe0 (D:List Tm):Qh5 false [.int .i64] (kvT D):=fun q hq=>by
 obtain ⟨t,_,rfl⟩:=List.mem_map.1 hq
 rfl
theorem Uo (x:Int):Kg false [.int .i64] (.int .i64 x):=rfl
theorem Qk4 (D:List Tm) (x:Int):fIx (kvT D) (.int .i64 x)=D.findIdx? fun t=>t.id == x:=by
 unfold fIx kvT
 induction D with
 | nil=>rfl
 | cons t D ih =>
  simp only[List.map_cons,List.findIdx?_cons]
  rw[ih]
  by_cases h:t.id=x
  ·simp[h]
  ·simp[h]
def Qa4 (D:List Tm) (x:Int):Bool:=D.any fun t=>t.id == x
def Xxu (D:List Tm) (x:Int):Nat:=match D.find? (fun t=>t.id == x) with
 | some t=>t.due
 | none=>0
theorem Qhp (D:List Tm) (x:Int):Qom (kvT D) (.int .i64 x)=Qa4 D x:=by
 unfold Qom Qa4
 rw[Qk4]
 induction D with
 | nil=>rfl
 | cons t D ih =>
  rw[List.findIdx?_cons,List.any_cons]
  cases h:t.id == x with
  | true=>simp
  | false=>simpa using ih
theorem Qhr (D:List Tm) (x:Int):Qem (kvT D) (.int .i64 x) (.int .i64 0)=.int .i64 (Xxu D x):=by
 unfold Qem Xxu
 rw[Qk4]
 induction D with
 | nil=>rfl
 | cons t D ih =>
  rw[List.findIdx?_cons,List.find?_cons]
  cases h:t.id == x with
  | true=>simp[kvT]
  | false =>
   simp only[cond_false,Bool.false_eq_true,if_false]
   rw[← ih]
   cases D.findIdx? fun t=>t.id == x with
   | none=>rfl
   | some i=>simp[kvT]
theorem Qii {D:List Tm} {x:Int} (h:∀ t ∈ D,t.id≠x):Xv x D=D:=List.filter_eq_self.2 fun t ht=>by simpa using h t ht
theorem Qtq:∀ (D:List Tm) (x:Int),D.Pairwise (fun a b=>a.id≠b.id)→Qm8 (kvT D) (.int .i64 x)=kvT (Xv x D):=fun D x hd=>by
 have key:∀ D:List Tm,D.Pairwise (fun a b=>a.id≠b.id)→(match D.findIdx? (fun t=>t.id == x) with|some i=>D.eraseIdx i|none=>D)=Xv x D:=fun D=>by
  induction D with
  | nil=>intro _;rfl
  | cons t D ih =>
   intro hd
   have h2:=ih (List.Pairwise.of_cons hd)
   rw[List.findIdx?_cons]
   unfold Xv
   rw[List.filter_cons]
   cases h:t.id == x with
   | true =>
    have hx:t.id=x:=by simpa using h
    have:=Qii (x:=x) fun y hy e=>List.rel_of_pairwise_cons hd hy (hx.trans e.symm)
    unfold Xv at this
    simp[this]
   | false =>
    unfold Xv at h2
    simp only[Bool.not_false,if_true,Bool.false_eq_true,if_false]
    rw[← h2]
    cases D.findIdx? fun t=>t.id == x<;>simp
 rw[← key D hd]
 unfold Qm8
 rw[Qk4]
 cases D.findIdx? fun t=>t.id == x with
 | none=>rfl
 | some i =>
  have em:∀ (l:List Tm) (i:Nat),(kvT l).eraseIdx i=kvT (l.eraseIdx i):=fun l=>by
   induction l with
   | nil=>intro i;rfl
   | cons t l ih =>
    intro i
    cases i with
    | zero=>rfl
    | succ i =>
     have:=ih i
     simp only[kvT,List.map_cons,List.eraseIdx_cons_succ]at this ⊢
     rw[this]
  exact em D i
theorem Xqv {D:List Tm} {x:Int} (h:∀ t ∈ D,t.id≠x) (n:Nat):Qel (kvT D) (.int .i64 x) (.int .i64 n)=kvT (D++[⟨x,n⟩]):=by
 unfold Qel
 rw[Qk4,List.findIdx?_eq_none_iff.2 fun t ht=>by simpa using h t ht]
 simp[kvT]
theorem Uf (n:Nat) (D:List Tm):∀ q ∈ kvT D,Qe n q.1∧Qe n q.2:=fun q hq=>by
 obtain ⟨t,_,rfl⟩:=List.mem_map.1 hq
 simp[Qe]
theorem Qab {T:WT} {D:List Tm} {dn:Bool} (hl:T.rows.length=65) (h:T.mb=.mapb (kvT D) dn):T.wf:=⟨hl,by rw[h];exact Uf 2 D⟩
def WT.upto (T:WT) (x:Int) (n:Nat):WT:={ T with rows:=(T.rows.take n).map (Xv x)++T.rows.drop n }
theorem WT.upto_wf {T:WT} (h:T.wf) (x:Int) (n:Nat):(T.upto x n).wf:=⟨by
 have:=h.len
 simp[WT.upto];omega,h.mb⟩
theorem WT.upto_row {T:WT} (x:Int) (n i:Nat):(T.upto x n).row i=if i < n then Xv x (T.row i) else T.row i:=by
 unfold WT.row WT.upto
 simp only[List.getD,List.getElem?_append,List.length_map,List.length_take]
 by_cases h1:i < n
 ·rw[if_pos h1]
  by_cases h2:i < T.rows.length
  ·rw[if_pos Zom,List.getElem?_map,List.getElem?_take_of_lt h1,List.getElem?_eq_getElem h2];rfl
  ·rw[if_neg Zom,List.getElem?_drop,List.getElem?_eq_none Zom,List.getElem?_eq_none Zom];rfl
 ·rw[if_neg h1]
  by_cases h2:i < T.rows.length
  ·rw[if_neg Zom,List.getElem?_drop];congr 2;omega
  ·rw[if_neg Zom,List.getElem?_drop,List.getElem?_eq_none Zom,List.getElem?_eq_none Zom]
theorem Xqd {l l':List (List Tm)} (hl:l.length=l'.length) (h:∀ j,l.getD j []=l'.getD j []):l=l':=by
 refine List.ext_getElem hl fun j h1 h2=>?_
 have:=h j
 simpa [List.getD,h1,h2] using this
theorem WT.upto_step {T:WT} (h:T.wf) (x:Int) {n:Nat} (hn:n < 65):T.upto x (n + 1)=(T.upto x n).put n (Xv x (T.row n)):=by
 have hl:=h.len
 have e:(T.upto x (n + 1)).rows=((T.upto x n).put n (Xv x (T.row n))).rows:=by
  refine Xqd (by simp[WT.upto,WT.put];omega) fun j=>?_
  have h1:=WT.upto_row (T:=T) x (n + 1) j
  have h2:=WT.row_put (WT.upto_wf h x n) hn (Xv x (T.row n)) j
  rw[WT.upto_row]at h2
  unfold WT.row at h1 h2 ⊢
  rw[h1,h2]
  by_cases e:j=n
  ·subst e;rw[if_pos Zom,if_pos rfl]
  ·rw[if_neg e]
   by_cases e2:j < n
   ·rw[if_pos e2,if_pos Zom]
   ·rw[if_neg e2,if_neg Zom]
 show ({ T with rows:=(T.upto x (n + 1)).rows }:WT)={ T with rows:=((T.upto x n).put n (Xv x (T.row n))).rows }
 rw[e]
theorem WT.upto_all {T:WT} (h:T.wf) (x:Int):T.upto x 65={ T with rows:=T.rows.map (Xv x) }:=by
 have hl:=h.len
 unfold WT.upto
 rw[List.take_of_length_le Zom,List.drop_of_length_le Zom,List.append_nil]
theorem WT.look_put {T:WT} (h:T.wf) {i:Nat} (hi:i < 65) (l:List Tm) (n b:Nat):Qb (T.put i l).h n b=if 0=b then .cells (T.cells.set (i + 1) (.sl 2 (2 + i) 0 l.length l.length)) else if 2 + i=b then .cells (tms l) else Qb T.h n b:=by
 have hl:=h.len
 rw[WT.lookh,WT.lookh,WT.setI h hi]
 by_cases h0:0=b
 ·rw[if_pos h0,if_pos h0]
 rw[if_neg h0,if_neg h0]
 by_cases h1:1=b
 ·rw[if_pos h1,if_neg Zom,if_neg h0,if_pos h1];rfl
 rw[if_neg h1]
 have hlen:(T.put i l).rows.length=T.rows.length:=by simp[WT.put]
 rw[hlen]
 by_cases h2:2 + i=b
 ·rw[if_pos h2,if_pos Zom,WT.row_put h hi,if_pos Zom]
 ·rw[if_neg h2,if_neg h0,if_neg h1]
  by_cases h3:2≤b∧b < 2 + T.rows.length
  ·rw[if_pos h3,if_pos h3,WT.row_put h hi,if_neg Zom]
  ·rw[if_neg h3,if_neg h3]
set_option maxHeartbeats 4000000 in
set_option maxRecDepth 20000 in
theorem Xco (gl:Nat→AV) (T:WT) (D:List Tm) (dn:Bool) (hlen:T.rows.length=65) (hmb:T.mb=.mapb (kvT D) dn) (hd:D.Pairwise fun a b=>a.id≠b.id) (hrl:∀ i,(T.row i).length≤1000000) (x:Int) (hx:Qa4 D x=true) :
  GQ Tryz.prog gl 164 [.ptr 0 0,.int .i64 x] T.h 67 [0,1] (fun _:Unit=>True) (fun _=>.int .i64 0) (fun _=>{ T with rows:=T.rows.map (Xv x),mb:=.mapb (kvT (Xv x D)) false }.h):=by
 have hT:=Qab hlen hmb
 refine Qey.gq (of_decide_eq_true rfl) (fun q hq=>Xe (((WT.HL hT).mem q hq).2)) Zsi fun c hgh hg=>?_
 conv in tcO _ _=>cbv
 have hHi:=fun n b hb=>WT.rowHi hT n (b:=b) hb
 have h0:=WT.get0 T
 have h66:=WT.get66 hT
 have hl:=WT.len hT
 have hTh:T.h=(0,.cells T.cells)::(1,.mapb (kvT D) dn)::Jt T.rows 0:=by rw[← hmb];rfl
 have hks:=Qe0 D
 have hki:=Uo x
 have hha:=Qhp D x
 have hga:=Qhr D x
 have hde:=Qtq D x hd
 rw[hTh]
 refine Qg @hHi ?_
 (refine Qa (fun h1=>?_) (fun h1=>?_)<;>try exact h1.elim)
 refine Qg (An @hHi @h66) ?_
 ((first|refine Qa3 mtD ?_|refine Ub mtD ?_);(have zf1:=@hHi;have zf2:=@hks;have zf3:=@hki;have zf4:=@hga;have zf5:=@hha;have zf6:=@hx;refine XG ?_;clear zf1 zf2 zf3 zf4 zf5 zf6;((try (repeat' with_reducible refine And.intro ?_ ?_));(try any_goals (first|refine zm ?_|exact CL|fail)))))
 (refine Qa (fun h2=>?_) (fun h2=>?_)<;>try exact h2.elim)
 refine Qg (An @hHi @h66) ?_
 ((first|refine Qrz mtD ?_|refine Qos mtD ?_);(have zf1:=@hHi;have zf2:=@hks;have zf3:=@hki;have zf4:=@hde;refine XG ?_;clear zf1 zf2 zf3 zf4;((try (repeat' with_reducible refine And.intro ?_ ?_));(try any_goals (first|refine zm ?_|exact CL|fail)))))
 refine Qd ?_
 have hT1:WT.wf { T with mb:=.mapb (kvT (Xv x D)) false }:=⟨hlen,Uf 2 _⟩
 have hrl1:∀ i,(WT.row { T with mb:=.mapb (kvT (Xv x D)) false } i).length≤1000000:=hrl
 generalize hT1e:({ T with mb:=.mapb (kvT (Xv x D)) false }:WT)=T1 at hT1 hrl1
 refine Yj (fun i:Nat=>i≤4) (fun i=>⟨[(0,.ptr 0 0),(7,.cl 176 [.ptr 67 0]),(29,.int .i64 i)],(67,.cells [.int .i64 x])::(T1.upto x (16 * i)).h,68⟩) (fun i=>4 - i) Qey.mixed [0,1] hgh
  ⟨0,by omega,To.sel (by exact Qs) fun b=>?_⟩ fun i hi=>?_
 ·have e:T1.upto x (16 * 0)=T1:=by simp[WT.upto]
  show Qb ((67,.cells [.int .i64 x])::(T1.upto x (16 * 0)).h) 68 b=_
  rw[e,← hT1e]
  show Qb ((67,.cells [.int .i64 x])::(0,.cells T.cells)::(1,.mapb (kvT (Xv x D)) false)::Jt T.rows 0) 68 b=_
  simp only[Qc]
  (repeat' split)<;>first|rfl|omega
 refine Qd ?_
 (refine Qa (fun h3=>?_) (fun h3=>?_)<;>try exact h3.elim)
 ·refine Qd ?_
  refine Yj (fun k:Nat=>k≤16) (fun k=>⟨[(0,.ptr 0 0),(7,.cl 176 [.ptr 67 0]),(8,.int .i64 i),(29,.int .i64 i),(32,.int .i64 k)],(67,.cells [.int .i64 x])::(T1.upto x (16 * i + k)).h,68⟩) (fun k=>16 - k) Qey.mixed [0,1] hgh
   ⟨0,by omega,To.sel (by exact Qs) fun b=>rfl⟩ fun k hk=>?_
  refine Qd ?_
  (refine Qa (fun h4=>?_) (fun h4=>?_)<;>try exact h4.elim)
  ·have hi65:16 * i + k < 65:=by omega
   have hTn:=WT.upto_wf hT1 x (16 * i + k)
   have hst:=WT.upto_step hT1 x hi65
   have hrow1:=WT.upto_row (T:=T1) x (16 * i + k) (16 * i + k)
   rw[if_neg Zom]at hrow1
   have hgs:=(Qzk c.gl (T1.row (16 * i + k)) (hrl1 _) x).wk (Wk.cap _ _ _ _ _)
   have htl:=Zf (T1.row (16 * i + k))
   generalize hTe:T1.upto x (16 * i + k)=Tn at *
   have hget:=WT.getI hTn hi65
   have hrow:=fun n=>WT.rowI hTn hi65 n
   rw[hrow1]at hget hrow
   have hHn:=fun n b hb=>WT.rowHi hTn n (b:=b) hb
   have hl2:=WT.len hTn
   have hTh2:Tn.h=(0,.cells Tn.cells)::(1,Tn.mb)::Jt Tn.rows 0:=rfl
   generalize hre:T1.row (16 * i + k)=r at *
   rw[hTh2]
   rw[show 16 * i + k + 1=1 + i * 16 + k by omega]at hget
   generalize hnm:2 + (16 * i + k)=nm at hget hrow
   have hb1:(67 == nm)=false:=beq_eq_false_iff_ne.2 Zom
   have hb2:(0 == nm)=false:=beq_eq_false_iff_ne.2 Zom
   have hb3:(1 == nm)=false:=beq_eq_false_iff_ne.2 Zom
   have hb4:(nm == 67)=false:=beq_eq_false_iff_ne.2 Zom
   have hb5:(nm == 0)=false:=beq_eq_false_iff_ne.2 Zom
   refine Qg (An @hHn @hget) ?_
   ((first|refine Qy (ins:=[nm,67]) hgs ?_ ?_|refine Qv (ins:=[nm,67]) hgs ?_ ?_|refine Qu (ins:=[nm,67]) hgs ?_ ?_|refine Qr (ins:=[nm,67]) hgs ?_ ?_)<;>(have zf1:=@hHn;have zf2:=@hrow;have zf3:=@hb1;have zf4:=@hb2;have zf5:=@hb3;have zf6:=@hb4;have zf7:=@hb5;refine XG ?_;clear zf1 zf2 zf3 zf4 zf5 zf6 zf7;(try first|exact rfl|exact True.intro);((try (repeat' with_reducible refine And.intro ?_ ?_));(try any_goals (first|refine zm ?_|exact CL|fail)))))
   ·have:Nat.beq nm 67=false:=by
     cases h:Nat.beq nm 67 with
     | false=>rfl
     | true=>exact absurd (Nat.eq_of_beq_eq_true h) Zom
    rw[this];rfl
   ·simp[Ue,Wo,clash,hb1,hb2,hb3,hb4,hb5]
    (repeat' refine And.intro ?_ ?_)<;>first|decide|(left;omega)|omega
   ·refine ⟨k + 1,by omega,To.sel (by exact Qs) fun b=>?_,by omega⟩
    rw[show 16 * i + (k + 1)=16 * i + k + 1 by omega,hst,← hTh2]
    simp only[Qc,WT.look_put hTn hi65,hnm,show 16 * i + k + 1=1 + i * 16 + k by omega]
    (repeat' split)<;>first|rfl|omega
  ·obtain rfl:k=16:=by omega
   refine Qd ?_
   refine ⟨i + 1,by omega,To.sel (by exact Qs) fun b=>?_,by omega⟩
   rw[show 16 * (i + 1)=16 * i + 16 by omega]
 ·obtain rfl:i=4:=by omega
  have hTn:=WT.upto_wf hT1 x (16 * 4)
  have hst:=WT.upto_step hT1 x (n:=64) Zom
  have hall:=WT.upto_all hT1 x
  have hrow1:=WT.upto_row (T:=T1) x (16 * 4) 64
  rw[if_neg Zom]at hrow1
  have hgs:=(Qzk c.gl (T1.row 64) (hrl1 _) x).wk (Wk.cap _ _ _ _ _)
  have htl:=Zf (T1.row 64)
  have hfin:({ T with rows:=T.rows.map (Xv x),mb:=.mapb (kvT (Xv x D)) false }:WT)=T1.upto x 65:=by rw[hall,← hT1e]
  rw[hfin,hst]
  generalize hTe:T1.upto x (16 * 4)=Tn at *
  have hget:=WT.getI hTn (i:=64) Zom
  have hrow:=fun n=>WT.rowI hTn (i:=64) Zom n
  rw[hrow1]at hget hrow
  have hHn:=fun n b hb=>WT.rowHi hTn n (b:=b) hb
  have hl2:=WT.len hTn
  have hTh2:Tn.h=(0,.cells Tn.cells)::(1,Tn.mb)::Jt Tn.rows 0:=rfl
  generalize hre:T1.row 64=r at *
  simp only[Nat.reduceAdd]at hget hrow
  rw[hTh2]
  refine Qg (An @hHn @hget) ?_
  ((first|refine Qy (ins:=[66,67]) hgs ?_ ?_|refine Qv (ins:=[66,67]) hgs ?_ ?_|refine Qu (ins:=[66,67]) hgs ?_ ?_|refine Qr (ins:=[66,67]) hgs ?_ ?_)<;>(have zf1:=@hHn;have zf2:=@hrow;refine XG ?_;clear zf1 zf2;(try first|exact rfl|exact True.intro);((try (repeat' with_reducible refine And.intro ?_ ?_));(try any_goals (first|refine zm ?_|exact CL|fail)))))
  ·decide
  refine ⟨(),To.trans (To.sel (t':=[(0,.int .i64 0)]) (h':=(67,.cells [.int .i64 x])::(Tn.put 64 (Xv x r)).h) (n':=68) (by exact Qs) fun b=>?_) ?_⟩
  ·rw[← hTh2]
   simp only[Qc,WT.look_put hTn (i:=64) Zom]
   (repeat' split)<;>first|rfl|omega
  ·exact To.wdrop (ex:=[(67,.cells [.int .i64 x])]) (WT.put_wf hTn _ _) Zsi Zsi (by simp[Qw,Qe,look,ren])
def Xto:Go.Shelf.Ren:=⟨fun|125=>180|128=>191|129=>192|189=>167|215=>198|216=>188|257=>179|294=>182|295=>183|296=>184|297=>185|298=>186|299=>187|300=>189|301=>190|328=>193|329=>194|330=>195|331=>196|332=>197|343=>199|n=>n,fun|0=>0|3=>3|4=>4|5=>5|9=>9|28=>52|46=>110|51=>108|53=>214|131=>182|182=>206|183=>207|218=>215|222=>126|228=>220|229=>104|n=>n,fun n=>n⟩
theorem Qt4:Lays.n189 Tryz.prog Xto:={
 mixed:=by kernel_rfl,
 f125:=Tryz.func180.trans (congrArg some (by kernel_rfl)),
 f128:=Tryz.func191.trans (congrArg some (by kernel_rfl)),
 f129:=Tryz.func192.trans (congrArg some (by kernel_rfl)),
 f189:=Tryz.func167.trans (congrArg some (by kernel_rfl)),
 f215:=Tryz.func198.trans (congrArg some (by kernel_rfl)),
 f216:=Tryz.func188.trans (congrArg some (by kernel_rfl)),
 f257:=Tryz.func179.trans (congrArg some (by kernel_rfl)),
 f294:=Tryz.func182.trans (congrArg some (by kernel_rfl)),
 f295:=Tryz.func183.trans (congrArg some (by kernel_rfl)),
 f296:=Tryz.func184.trans (congrArg some (by kernel_rfl)),
 f297:=Tryz.func185.trans (congrArg some (by kernel_rfl)),
 f298:=Tryz.func186.trans (congrArg some (by kernel_rfl)),
 f299:=Tryz.func187.trans (congrArg some (by kernel_rfl)),
 f300:=Tryz.func189.trans (congrArg some (by kernel_rfl)),
 f301:=Tryz.func190.trans (congrArg some (by kernel_rfl)),
 f328:=Tryz.func193.trans (congrArg some (by kernel_rfl)),
 f329:=Tryz.func194.trans (congrArg some (by kernel_rfl)),
 f330:=Tryz.func195.trans (congrArg some (by kernel_rfl)),
 f331:=Tryz.func196.trans (congrArg some (by kernel_rfl)),
 f332:=Tryz.func197.trans (congrArg some (by kernel_rfl)),
 f343:=Tryz.func199.trans (congrArg some (by kernel_rfl)),
 t0:=Tryz.underlying0,
 a0:=Tryz.isAgg0,
 z0:=Tryz.sizeOf0,
 v0:=Tryz.zeroValue0,
 t3:=Tryz.underlying3,
 a3:=Tryz.isAgg3,
 z3:=Tryz.sizeOf3,
 v3:=Tryz.zeroValue3,
 t4:=Tryz.underlying4,
 a4:=Tryz.isAgg4,
 z4:=Tryz.sizeOf4,
 v4:=Tryz.zeroValue4,
 t5:=Tryz.underlying5,
 a5:=Tryz.isAgg5,
 z5:=Tryz.sizeOf5,
 v5:=Tryz.zeroValue5,
 t9:=Tryz.underlying9,
 a9:=Tryz.isAgg9,
 z9:=Tryz.sizeOf9,
 v9:=Tryz.zeroValue9,
 t28:=Tryz.underlying52,
 a28:=Tryz.isAgg52,
 z28:=Tryz.sizeOf52,
 v28:=Tryz.zeroValue52,
 t46:=Tryz.underlying110,
 a46:=Tryz.isAgg110,
 z46:=Tryz.sizeOf110,
 v46:=Tryz.zeroValue110,
 t51:=Tryz.underlying108,
 a51:=Tryz.isAgg108,
 z51:=Tryz.sizeOf108,
 v51:=Tryz.zeroValue108,
 t53:=Tryz.underlying214,
 a53:=Tryz.isAgg214,
 z53:=Tryz.sizeOf214,
 v53:=Tryz.zeroValue214,
 t131:=Tryz.underlying182,
 a131:=Tryz.isAgg182,
 z131:=Tryz.sizeOf182,
 v131:=Tryz.zeroValue182,
 t182:=Tryz.underlying206,
 a182:=Tryz.isAgg206,
 z182:=Tryz.sizeOf206,
 v182:=Tryz.zeroValue206,
 t183:=Tryz.underlying207,
 a183:=Tryz.isAgg207,
 z183:=Tryz.sizeOf207,
 v183:=Tryz.zeroValue207,
 t218:=Tryz.underlying215,
 a218:=Tryz.isAgg215,
 z218:=Tryz.sizeOf215,
 v218:=Tryz.zeroValue215,
 t222:=Tryz.underlying126,
 a222:=Tryz.isAgg126,
 z222:=Tryz.sizeOf126,
 v222:=Tryz.zeroValue126,
 t228:=Tryz.underlying220,
 a228:=Tryz.isAgg220,
 z228:=Tryz.sizeOf220,
 v228:=Tryz.zeroValue220,
 t229:=Tryz.underlying104,
 a229:=Tryz.isAgg104,
 z229:=Tryz.sizeOf104,
 v229:=Tryz.zeroValue104 }
theorem Qs7 {w:World} {k n:Nat} {os:Array Obj} {cur:Array Value} {e:TypeId} {fr:Nat × Nat} (d:Array Int) (hb:w.heap[k]?=some (.cells cur e fr)) :
  (Sort.grow (Sort.putRow (Value.int .i64) (Sort.ahead w n) k 0 d) os).heap[k]?=some (.cells (Sort.putCells (Value.int .i64) 0 d cur) e fr):=by
 have hg:k < w.heap.size:=(Array.getElem?_eq_some_iff.1 hb).1
 rw[Sort.heap_grow_old _ _ (by simpa [Sort.putRow,Sort.mapBlock,Sort.ahead] using hg)]
 simp[Sort.putRow,Sort.mapBlock,Sort.ahead,Array.getElem?_modify,hb,Sort.onCells]
theorem Xyg {w:World} {k n:Nat} {os:Array Obj} {cur:Array Value} {e:TypeId} {fr:Nat × Nat} (d:Array Int) (hb:w.heap[k]?=some (.cells cur e fr)) :
  Fr w (Sort.grow (Sort.putRow (Value.int .i64) (Sort.ahead w n) k 0 d) os) (fun i=>i=k):=by
 have hs:(Sort.grow (Sort.putRow (Value.int .i64) (Sort.ahead w n) k 0 d) os).heap.size=w.heap.size + os.size:=by simp[Sort.grow,Sort.putRow,Sort.mapBlock,Sort.ahead]
 refine ⟨rfl,rfl,rfl,by omega,fun j hj hne=>?_,fun j cur' e' fz' h=>?_⟩
 ·rw[Sort.heap_grow_old _ _ (by simpa [Sort.putRow,Sort.mapBlock,Sort.ahead] using hj)]
  have:k≠j:=fun e=>hne e.symm
  simp[Sort.putRow,Sort.mapBlock,Sort.ahead,Array.getElem?_modify,this]
 ·by_cases hjk:j=k
  ·subst hjk
   rw[hb]at h;cases h
   exact ⟨_,Qs7 d hb,by simp[Sort.putCells]⟩
  ·refine ⟨cur',?_,rfl⟩
   rw[Sort.heap_grow_old _ _ (by simpa [Sort.putRow,Sort.mapBlock,Sort.ahead] using Wj h)]
   have:k≠j:=fun e=>hjk e.symm
   simp[Sort.putRow,Sort.mapBlock,Sort.ahead,Array.getElem?_modify,this,h]
theorem Qcv (l:List Int) (j:Nat) (h:j < l.length):(Qp l).getD j .any=.int .i64 l[j]:=by simp[Qp,List.getD,h]
theorem Xvz (gl:Nat→AV) (l:List Int) (hl:l.length≤1000000):GS Tryz.prog gl 167 [.sl 1 0 0 l.length l.length] [(0,.cells (Qp l))] 1 (.tup []) [(0,.cells (Qp (l.mergeSort fun x y=>decide (x≤y))))] 1:=by
 refine ⟨⟨Tryz.f167,Tryz.func167,by kernel_rfl,by kernel_rfl⟩,fun w vs G X g hR hv=>?_⟩
 have hlen:(l.mergeSort fun x y=>decide (x≤y)).length=l.length:=List.length_mergeSort _
 obtain ⟨v,vs,rfl,h1,h2⟩:=hv.cons_inv
 obtain rfl:=h2.nil_inv
 have hH:(Hst [(0,.cells (Qp l))] 1).H 0=.cells (Qp l):=rfl
 have hbr:=hR.h 0
 rw[hH]at hbr
 have hHo:∀ x y:List AV,((Hst [(0,.cells x)] 1).putB 0 (.cells y))=Hst [(0,.cells y)] 1:=fun x y=>Qap (fun _=>rfl) fun j=>by
  show (if 0=j then _ else Qb [(0,.cells x)] 1 j)=Qb [(0,.cells y)] 1 j
  rw[Qc,Qc]
  split<;>rfl
 rcases Qar h1 with ⟨k,cap,e,cur,fz,rfl,hg,h3,h4,h5,h6,h7⟩|⟨ad,rfl,hg,h3,h4⟩
 ·rw[hg]at hbr
  cases hbr with
  | cells hb hln h11 hvv hz =>
   rw[h6]at hb;cases hb
   rw[Xw]at hln h11 hvv
   have hcur:∀ j (hj:j < l.length),cur[j]?=some (.int .i64 l[j]):=fun j hj=>by
    have:=hvv j hj
    rw[Qcv l j hj]at this
    have hjc:j < cur.size:=by omega
    have e:cur.getD j undef=cur[j]:=by simp[Array.getD,hjc]
    rw[e]at this
    generalize hcv:cur[j]=cv at this
    cases this
    rw[← hcv];simp[hjc]
   have hHolds:Sort.Holds (Value.int .i64) w k 0 l.toArray:=fun j hj=>by
    have hj':j < l.length:=by simpa using hj
    refine ⟨?_,?_⟩
    ·simp only[World.cell?,h6,Nat.zero_add,Option.isSome_none,Bool.false_eq_true,if_false]
     rw[hcur j hj']
     simp[hj']
    ·simp only[World.frozen?,h6,Nat.zero_add]
     rcases hz with rfl|hz
     ·simp
     ·have:¬ fz.1≤j:=by omega
      simp[this]
   have hc:=Any.slices_Sort_int Qt4 k 0 cap l w hHolds (Wj h6) Zom
   refine Calls.mono hc ?_
   rintro e w' ⟨rfl,n,os,rfl⟩
   have hset:=hR.setBlock (x:=.cells (Qp (l.mergeSort fun x y=>decide (x≤y)))) hg (by rw[hH];trivial) trivial (Xyg (n:=n) (os:=os) (l.mergeSort fun x y=>decide (x≤y)).toArray h6) (by
    have hget:∀ j (hj:j < l.length),(Sort.putCells (Value.int .i64) 0 (l.mergeSort fun x y=>decide (x≤y)).toArray cur).getD j undef=.int .i64 ((l.mergeSort fun x y=>decide (x≤y))[j]'Zom):=fun j hj=>by
     have hjc:j < cur.size:=by omega
     have hjl:j < (l.mergeSort fun x y=>decide (x≤y)).length:=by omega
     simp[Sort.putCells,Array.getD,hjc,hj]
    refine .cells (Qs7 _ h6) (by rw[Xw,hlen];simpa [Sort.putCells] using hln) (fun j hj=>?_) (fun j hj=>?_) (by simpa [Sort.putCells] using hz)
    ·rw[Xw,hlen]at hj
     rw[hget j hj];rfl
    ·rw[Xw,hlen]at hj
     rw[hget j hj,Qcv _ j Zom]
     exact .int _ _)
   rw[hHo]at hset
   exact ⟨_,g,rfl,hset,fun _ _=>rfl,.tup rfl fun j hj=>by simp at hj⟩
 ·have h0:l=[]:=List.eq_nil_of_length_eq_zero h3
  subst h0
  refine Calls.mono (Any.slices_Sort_int_none Qt4 ad 0 w) ?_
  rintro e w' ⟨rfl,rfl⟩
  rw[show (([]:List Int).mergeSort fun x y=>decide (x≤y))=[] by simp]
  exact ⟨_,g,rfl,hR,fun _ _=>rfl,.tup rfl fun j hj=>by simp at hj⟩
theorem To.noDense {p:List Nat} {s:St} {b:Nat} {kvs:List (AV × AV)} {dn:Bool} (hb:s.fs.H b=.mapb kvs dn):To p s (s.putB b (.mapb kvs false)):=fun c g a w _ hR=>⟨g,by rw[St.fs_putB];exact hR.noDense hb⟩
def Qad (l D:List Tm):List Tm:=l.foldl (fun D t=>Xv t.id D) D
theorem Xnq (l:List Tm) (t:Tm) (D:List Tm):Qad (l++[t]) D=Xv t.id (Qad l D):=by simp[Qad]
theorem Qi0 {x:Int} {D:List Tm}:(Xv x D).Sublist D:=List.filter_sublist
theorem Qve:∀ {l D:List Tm},(Qad l D).Sublist D
 | [],D=>List.Sublist.refl _
 | t::l,D=>(Qve (l:=l) (D:=Xv t.id D)).trans Qi0
theorem Xnk {l D:List Tm} (h:D.Pairwise fun a b=>a.id≠b.id):(Qad l D).Pairwise fun a b=>a.id≠b.id:=h.sublist Qve
def ids (l:List Tm):List Int:=l.map (·.id)
set_option maxHeartbeats 4000000 in
set_option maxRecDepth 20000 in
theorem Xrj (gl:Nat→AV) (T:WT) (D l:List Tm) (dn:Bool) (hlen:T.rows.length=65) (hmb:T.mb=.mapb (kvT D) dn) (hd:D.Pairwise fun a b=>a.id≠b.id) (hl:l.length≤1000000) :
  GQ Tryz.prog gl 137 [.ptr 0 0,.isl l.length (tms l)] T.h 67 [0,1] (fun _:Unit=>True) (fun _=>.isl l.length (Qp (Qex (ids l)))) (fun _=>{ T with mb:=.mapb (kvT (Qad l D)) false }.h):=by
 have hT:=Qab hlen hmb
 refine Qrk.gq (of_decide_eq_true rfl) (fun q hq=>Xe (((WT.HL hT).mem q hq).2)) Zsi fun c hgh hg=>?_
 conv in tcO _ _=>cbv
 have hHi:=fun n b hb=>WT.rowHi hT n (b:=b) hb
 have h66:=WT.get66 hT
 have hcl:=WT.len hT
 have htl:=Zf l
 have hTh:T.h=(0,.cells T.cells)::(1,.mapb (kvT D) dn)::Jt T.rows 0:=by rw[← hmb];rfl
 have hT2:∀ k,WT.wf { T with mb:=.mapb (kvT (Qad (l.take k) D)) false }:=fun k=>⟨hlen,Uf 2 _⟩
 rw[hTh]
 refine Qd ?_
 refine Qdv 5 1 rfl (by exact Qq @hHi) ?_
 unfold St.named
 refine Yj (fun k:Nat=>k≤l.length) (fun k=>⟨[(0,.ptr 0 0),(5,.sl 1 67 0 k k),(8,.isl l.length (tms l)),(9,.int .i64 l.length),(10,.int .i64 k)],(67,.cells (Qp (ids (l.take k))))::{ T with mb:=.mapb (kvT (Qad (l.take k) D)) false }.h,68⟩) (fun k=>l.length - k) Qrk.mixed [0,1] hgh
  ⟨0,by omega,?_⟩ fun k hk=>?_
 ·refine To.trans (To.noDense (b:=1) (kvs:=kvT D) (dn:=dn) rfl) (To.sel (by exact Qs) fun b=>?_)
  show Qb ((67,.cells [])::(0,.cells T.cells)::(1,.mapb (kvT D) false)::Jt T.rows 0) 68 b=Qb ((1,.mapb (kvT D) false)::(67,.cells [])::(0,.cells T.cells)::(1,.mapb (kvT D) dn)::Jt T.rows 0) 68 b
  simp only[Qc]
  (repeat' split)<;>first|rfl|omega
 have hHk:=fun n b hb=>WT.rowHi (hT2 k) n (b:=b) hb
 have hc2:WT.cells { T with mb:=.mapb (kvT (Qad (l.take k) D)) false }=T.cells:=rfl
 have hTk:WT.h { T with mb:=.mapb (kvT (Qad (l.take k) D)) false }=(0,.cells T.cells)::(1,.mapb (kvT (Qad (l.take k) D)) false)::Jt T.rows 0:=rfl
 rw[hTk]
 refine Qd ?_
 (refine Qa (fun h1=>?_) (fun h1=>?_)<;>try exact h1.elim)
 ·have hkn:k < l.length:=by omega
  have hcut:=Qd1 l k hkn
  have htk:l.take (k + 1)=l.take k++[l[k]]:=by rw[List.take_succ];simp[hkn]
  have hks:=Qe0 (Qad (l.take k) D)
  have hki:=Uo l[k].id
  have hde:=Qtq (Qad (l.take k) D) l[k].id (Xnk hd)
  rw[← Xnq,← htk]at hde
  have hids:Qp (ids (l.take k))++[.int .i64 l[k].id]=Qp (ids (l.take (k + 1))):=by unfold Qp ids;rw[htk,List.map_append,List.map_append];rfl
  have hil:(Qp (ids (l.take k))).length=k:=by simp[Qp,ids];omega
  generalize l[k]=t at *
  refine Qg (An @htl (An @hcut @hHi)) ?_
  refine Zr @hHi ?_
  refine Zr (An @hHi (An @hil @hids)) ?_
  refine Qg (An @hHi @h66) ?_
  ((first|refine Qrz mtD ?_|refine Qos mtD ?_);(have zf1:=@hHi;have zf2:=@hks;have zf3:=@hki;have zf4:=@hde;refine XG ?_;clear zf1 zf2 zf3 zf4;((try (repeat' with_reducible refine And.intro ?_ ?_));(try any_goals (first|refine zm ?_|exact CL|fail)))))
  refine ⟨k + 1,by omega,To.wre (ex:=[(67,.cells (Qp (ids (l.take (k + 1)))))]) [(67,70)] (hT2 (k + 1)) Zsi Zom rfl rfl (fun b hb=>?_) ?_ ?_ Zsi,by omega⟩
  ·show _=Qb ((0,.cells T.cells)::(1,.mapb (kvT (Qad (l.take (k + 1)) D)) false)::Jt T.rows 0) 67 b
   simp only[Qc]
   (repeat' split)<;>first|rfl|omega|(rw[Qbi,Qbi,hlen];(repeat' split)<;>first|rfl|omega)
  ·have:=Qam (rl [(67,70)]) l
   exact Qs
  ·have:∀ n q,nmAll n (Qp q)=True:=fun n q=>by simp[Xi,Qp,Qe]
   exact Qq @this
 ·obtain rfl:k=l.length:=by omega
  have hil:ids (l.take l.length)=ids l:=by rw[List.take_length]
  have hlen2:(ids l).length=l.length:=by simp[ids]
  have hso:=Xvz c.gl (ids l) (by simpa [ids] using hl)
  rw[hlen2]at hso
  rw[hil]
  refine Qg @hHi ?_
  refine Qla (ip [67]) hso @hHi ?_
  refine ⟨(),(To.frz (b:=67) (i:=0) rfl rfl).trans (To.wdrop (T:={ T with mb:=.mapb (kvT (Qad l D)) false }) (ex:=[(67,.dead),(67,_),(67,_)]) ⟨hlen,Uf 2 _⟩ Zsi Zsi ?_)⟩
  have hcut:((Qp ((ids l).mergeSort fun x y=>decide (x≤y))).drop 0).take (l.length * 1)=Qp (Qex (ids l)):=by
   rw[List.drop_zero,List.take_of_length_le (by rw[Nat.mul_one];simp[Qp,ids])];rfl
  rw[hcut]
  have h1:∀ n q,nmAll n (Qp q)=True:=fun n q=>by simp[Xi,Qp,Qe]
  have h2:∀ q,rens id (Qp q)=Qp q:=fun q=>Kd _
  exact Qq (An @h1 @h2)
theorem RI.T {rows:List (List Tm)} {D:List Tm} (hl:rows.length=65) (hp:rows.flatten.Perm D):RI (fun _ _=>True) rows D:=⟨hl,hp,fun _ _ _ _=>trivial⟩
def WT.stp (T:WT):WT:={ T with now:=T.now + 1,rows:=Zx (T.now + 1) 4 1 T.rows }
theorem Qgh {now:Nat} {rows:List (List Tm)} {D l:List Tm} (h:RI (fun _ _=>True) rows D) (k:Nat):RI (fun _ _=>True) ((l.take k).foldl (Xb now) rows) ((l.take k).reverse++D):=RI.lays _ h fun _ _=>trivial
theorem WT.lay_now (T:WT) (t:Tm):(T.lay t)={ T with rows:=Xb T.now T.rows t }:=rfl
set_option maxHeartbeats 4000000 in
set_option maxRecDepth 20000 in
theorem Xqt (gl:Nat→AV) (T:WT) (D:List Tm) (hT:T.wf) (hp:T.rows.flatten.Perm D) (hD:D.length≤100000) (hdue:∀ t ∈ D,t.due≤1099511627776) (hn:T.now < 1099511627776) :
  GQ Tryz.prog gl 139 [.ptr 0 0] T.h 67 [0,1] (fun _:Unit=>True) (fun _=>.tup []) (fun _=>T.stp.h):=by
 refine Qe1.gq (of_decide_eq_true rfl) (fun q hq=>Xe (((WT.HL hT).mem q hq).2)) Zsi fun c hgh hg=>?_
 conv in tcO _ _=>cbv
 have h0:=WT.get0 T
 have hcl:=WT.len hT
 have hTh:T.h=(0,.cells T.cells)::(1,T.mb)::Jt T.rows 0:=rfl
 have hst:T.cells.set 0 (.int .i64 ((T.now:Int) + 1))=WT.cells { T with now:=T.now + 1 }:=WT.set0 T (T.now + 1)
 have hT2:WT.wf { T with now:=T.now + 1 }:=⟨hT.len,hT.mb⟩
 rw[hTh]
 refine Qg (An @h0 @hst) ?_
 refine Yj (fun y:Nat × List (List Tm)=>1≤y.1∧y.1≤5∧RI (fun _ _=>True) y.2 D∧Zx (T.now + 1) (5 - y.1) y.1 y.2=Zx (T.now + 1) 4 1 T.rows) (fun y=>⟨[(0,.ptr 0 0),(2,.int .i64 ((16 ^ y.1:Nat):Int)),(3,.int .i64 y.1)],WT.h { T with now:=T.now + 1,rows:=y.2 },67⟩) (fun y=>5 - y.1) Qe1.mixed [0,1] hgh
  ⟨(1,T.rows),⟨by simp,by simp,RI.T hT.len hp,rfl⟩,To.sel (by exact Qs) fun b=>?_⟩ fun y hy=>?_
 ·show Qb ((0,.cells (WT.cells { T with now:=T.now + 1 }))::(1,T.mb)::Jt T.rows 0) 67 b=Qb ((0,.cells (WT.cells { T with now:=T.now + 1 }))::(0,.cells T.cells)::(1,T.mb)::Jt T.rows 0) 67 b
  simp only[Qc]
  (repeat' split)<;>first|rfl|omega
 obtain ⟨L,rows⟩:=y
 obtain ⟨hL1,hL5,hRI,hfin⟩:=hy
 dsimp only at hL1 hL5 hRI hfin ⊢
 have hwf:WT.wf { T with now:=T.now + 1,rows:=rows }:=⟨hRI.len,hT.mb⟩
 have hnow:WT.now { T with now:=T.now + 1,rows:=rows }=T.now + 1:=rfl
 have hrw:WT.rows { T with now:=T.now + 1,rows:=rows }=rows:=rfl
 have hmbw:WT.mb { T with now:=T.now + 1,rows:=rows }=T.mb:=rfl
 have hfinT:T.stp={ T with now:=T.now + 1,rows:=Zx (T.now + 1) (5 - L) L rows }:=by unfold WT.stp;rw[hfin]
 have hrowD:∀ i,i < 65→(WT.row { T with now:=T.now + 1,rows:=rows } i).length≤D.length:=fun i hi=>hRI.row_le hi
 have hrel:=fun i (hi:i < 65)=>RI.relay hRI (now:=T.now + 1) hi fun _ _=>trivial
 have hset0:∀ i,i < 65→RI (fun _ _=>True) (rows.set i []) (rows.set i []).flatten:=fun i hi=>⟨by simp[hRI.len],List.Perm.refl _,fun _ _ _ _=>trivial⟩
 have hsplit:=fun i (hi:i < 65)=>((Qcf rows i (by have:=hRI.len;omega)).symm.trans hRI.perm)
 have hmem:∀ i,i < 65→∀ t ∈ rows.getD i [],t.due≤1099511627776:=fun i hi t ht=>hdue t (Qo6 hRI hi ht)
 rw[hfinT]
 generalize hT1:({ T with now:=T.now + 1,rows:=rows }:WT)=T1 at *
 have hT1n:T1.now=T.now + 1:=by rw[← hT1]
 have hT1m:T1.mb=T.mb:=by rw[← hT1]
 have g0:=WT.get0 T1
 rw[hT1n]at g0
 have hcl1:=WT.len hwf
 have hTh1:T1.h=(0,.cells T1.cells)::(1,T1.mb)::Jt T1.rows 0:=rfl
 have hHi:=fun n b hb=>WT.rowHi hwf n (b:=b) hb
 obtain rfl|rfl|rfl|rfl|rfl:L=1∨L=2∨L=3∨L=4∨L=5:=by omega
 ·have hp1:((16 ^ 1:Nat):Int)=16:=rfl
  have hp2:((16 ^ 2:Nat):Int)=256:=rfl
  have hm:Int.tmod ((T.now + 1:Nat):Int) 16=(((T.now + 1) % 16:Nat):Int):=Qbt (T.now + 1) 16
  have hq:Int.tdiv ((T.now + 1:Nat):Int) 16=(((T.now + 1) / 16:Nat):Int):=Qcb (T.now + 1) 16
  have hm2:Int.tmod (((T.now + 1) / 16:Nat):Int) 16=(((T.now + 1) / 16 % 16:Nat):Int):=Qbt _ 16
  rw[hTh1,hp1]
  refine Qg (An @hHi (An @g0 @hm)) ?_
  (refine Qa (fun h1=>?_) (fun h1=>?_)<;>try exact h1.elim)
  ·refine Qd ?_
   (refine Qa (fun h2=>?_) (fun h2=>?_)<;>try exact h2.elim)
   have hsp:(T.now + 1) / 16 % 16 < 16:=Nat.mod_lt _ Zom
   have hti:Qb5 (T.now + 1) 1=16 + (T.now + 1) / 16 % 16:=rfl
   generalize (T.now + 1) / 16 % 16=sp at *
   have hget:=WT.getI hwf (i:=16 + sp) Zom
   have hi65:16 + sp < 65:=by omega
   have hnm:2 + (16 + sp)=18 + sp:=by omega
   have hcx:16 + sp + 1=17 + sp:=by omega
   rw[hcx,hnm]at hget
   have hl:T1.row (16 + sp)=rows.getD (16 + sp) []:=by rw[← hT1];rfl
   have hlD:=hrowD _ hi65
   generalize hrw1:T1.row (16 + sp)=l at *
   refine Qg (An @hHi (An @g0 (An @hq (An @hm2 @hget)))) ?_
   refine Yj (fun k:Nat=>k≤l.length) (fun k=>⟨[(0,.ptr 0 0),(2,.int .i64 16),(3,.int .i64 1),(55,.isl l.length (tms l)),(56,.int .i64 l.length),(57,.int .i64 k)],WT.h { T with now:=T.now + 1,rows:=(l.take k).foldl (Xb (T.now + 1)) (rows.set (16 + sp) []) },67⟩) (fun k=>l.length - k) Qe1.mixed [0,1] hgh
    ⟨0,by omega,?_⟩ fun k hk=>?_
   ·have hput:T1.put (16 + sp) []={ T with now:=T.now + 1,rows:=rows.set (16 + sp) [] }:=by rw[← hT1];rfl
    show To _ _ ⟨_,WT.h { T with now:=T.now + 1,rows:=rows.set (16 + sp) [] },67⟩
    rw[← hput]
    refine To.off (k:=55) hwf hi65 hrw1 ?_ (fun b h1 h2=>?_) ?_ (by dsimp only;omega) ?_ Zsi ?_
    ·show Qb ((0,_)::_) 67 0=_
     rw[Qc,if_pos rfl,hcx]
    ·show Qb ((0,_)::(0,_)::(1,_)::_) 67 b=_
     rw[hTh1,Qc,if_neg Zom]
    ·exact Qq @hHi
    ·exact Qq @hnm
    ·have h1:=Qam (Kb (16 + sp) 67) l
     have hll:=Qaq 67 l
     exact Qq (An @h1 @hll)
   have hRk:=Qgh (now:=T.now + 1) (l:=l) (hset0 (16 + sp) hi65) k
   have hlenk:∀ j,j < 65→((l.take k).foldl (Xb (T.now + 1)) (rows.set (16 + sp) []) |>.getD j []).length≤1000000:=fun j hj=>by
    have h1:=hRk.row_le hj
    have h2:=(hsplit (16 + sp) hi65).length_eq
    rw[List.length_append]at h1 h2
    rw[← hl]at h2
    simp only[List.length_reverse,List.length_take]at h1
    omega
   have hwk:WT.wf { T with now:=T.now + 1,rows:=(l.take k).foldl (Xb (T.now + 1)) (rows.set (16 + sp) []) }:=⟨hRk.len,hT.mb⟩
   have hstep:k < l.length→∀ x,l[k]?=some x→(l.take (k + 1)).foldl (Xb (T.now + 1)) (rows.set (16 + sp) [])=Xb (T.now + 1) ((l.take k).foldl (Xb (T.now + 1)) (rows.set (16 + sp) [])) x:=fun _ x hx=>by
    rw[List.take_succ,hx];simp
   have hrow:∀ x:Tm,(WT.row { T with now:=T.now + 1,rows:=(l.take k).foldl (Xb (T.now + 1)) (rows.set (16 + sp) []) } (Yp (T.now + 1) x.due)).length≤1000000:=fun x=>hlenk _ (Qa9 _ _)
   have hnk:WT.now { T with now:=T.now + 1,rows:=(l.take k).foldl (Xb (T.now + 1)) (rows.set (16 + sp) []) }=T.now + 1:=rfl
   generalize hTk:({ T with now:=T.now + 1,rows:=(l.take k).foldl (Xb (T.now + 1)) (rows.set (16 + sp) []) }:WT)=Tk at *
   have hHk:=WT.hHi hwk
   have htl:=Zf l
   refine Qd ?_
   (refine Qa (fun h3=>?_) (fun h3=>?_)<;>try exact h3.elim)
   ·have hkn:k < l.length:=by omega
    have hcut:=Qd1 l k hkn
    have hst:=hstep hkn l[k] (by simp[hkn])
    have hdk:l[k].due≤1099511627776:=hmem (16 + sp) hi65 l[k] (by rw[← hl];exact List.getElem_mem _)
    generalize l[k]=x at *
    have hcall:=Qdt c.gl Tk hwk x (by rw[hnk];omega) hdk (by rw[hnk];exact hrow x)
    refine Qg (An @htl (An @hcut @hHk)) ?_
    refine Qdf hcall hwk (fun _ _=>WT.lay_wf hwk x) hgh (by simp[okN]) [(0,.ptr 0 0),(2,.int .i64 16),(3,.int .i64 1),(55,.isl l.length (tms l)),(56,.int .i64 l.length),(57,.int .i64 k),(61,.ptr 0 0),(62,.agg [.int .i64 x.id,.int .i64 x.due])] [(67,.cells [.int .i64 x.id,.int .i64 x.due])] 68 (To.sel (by exact Qs) fun b=>?_) (by simp[Qd7,nmPs,nmP]) ?_ (by simp[Qe,nmAll]) fun _ _=>?_
    ·simp only[List.cons_append,List.nil_append,Qc];(repeat' split)<;>rfl
    ·exact Qs
    ·refine Qd ?_
     refine ⟨k + 1,by omega,?_,by omega⟩
     have hT3:Tk.lay x={ T with now:=T.now + 1,rows:=(l.take (k + 1)).foldl (Xb (T.now + 1)) (rows.set (16 + sp) []) }:=by rw[WT.lay_now,hst,← hTk]
     rw[← hT3]
     refine To.wdrop (ex:=[(67,.cells [.int .i64 x.id,.int .i64 x.due])]) (WT.lay_wf hwk x) Zsi Zsi ?_
     have h1:=Qaq 67 l
     have h2:rens id (tms l)=tms l:=Kd _
     have h3:id 0=0:=rfl
     exact Qq (An @h1 (An @h2 @h3))
   ·obtain rfl:k=l.length:=by omega
    rw[List.take_length]at hTk
    have hrl:(l.foldl (Xb (T.now + 1)) (rows.set (16 + sp) []))=relay (T.now + 1) rows (16 + sp):=by unfold relay;rw[← hl]
    have hfs:Zx (T.now + 1) (5 - 1) 1 rows=Zx (T.now + 1) (5 - (1 + 1)) (1 + 1) (relay (T.now + 1) rows (16 + sp)):=by
     rw[← hti]
     show (if (T.now + 1) % 16 ^ 1=0 then _ else _)=_
     rw[if_pos (by simp only[Nat.reducePow];omega)]
    refine Uc ?_
    refine ⟨(1 + 1,relay (T.now + 1) rows (16 + sp)),⟨by simp,by simp,hrel _ hi65,by dsimp only;rw[← hfs];exact hfin⟩,?_,by dsimp only;omega⟩
    rw[hrl]at hTk
    dsimp only
    rw[hTk]
    refine To.sel ?_ fun b=>rfl
    exact Qq @hp2
  ·have hfs:Zx (T.now + 1) (5 - 1) 1 rows=rows:=by
    show (if (T.now + 1) % 16 ^ 1=0 then _ else _)=_
    rw[if_neg (by simp only[Nat.reducePow];omega)]
   rw[hfs,hT1]
   refine Qd ?_
   refine ⟨(),?_⟩
   rw[← hTh1]
   exact To.sel (by exact Qs) fun b=>rfl
 ·have hp1:((16 ^ 2:Nat):Int)=256:=rfl
  have hp2:((16 ^ 3:Nat):Int)=4096:=rfl
  have hm:Int.tmod ((T.now + 1:Nat):Int) 256=(((T.now + 1) % 256:Nat):Int):=Qbt (T.now + 1) 256
  have hq:Int.tdiv ((T.now + 1:Nat):Int) 256=(((T.now + 1) / 256:Nat):Int):=Qcb (T.now + 1) 256
  have hm2:Int.tmod (((T.now + 1) / 256:Nat):Int) 16=(((T.now + 1) / 256 % 16:Nat):Int):=Qbt _ 16
  rw[hTh1,hp1]
  refine Qg (An @hHi (An @g0 @hm)) ?_
  (refine Qa (fun h1=>?_) (fun h1=>?_)<;>try exact h1.elim)
  ·refine Qd ?_
   (refine Qa (fun h2=>?_) (fun h2=>?_)<;>try exact h2.elim)
   have hsp:(T.now + 1) / 256 % 16 < 16:=Nat.mod_lt _ Zom
   have hti:Qb5 (T.now + 1) 2=32 + (T.now + 1) / 256 % 16:=rfl
   generalize (T.now + 1) / 256 % 16=sp at *
   have hget:=WT.getI hwf (i:=32 + sp) Zom
   have hi65:32 + sp < 65:=by omega
   have hnm:2 + (32 + sp)=34 + sp:=by omega
   have hcx:32 + sp + 1=33 + sp:=by omega
   rw[hcx,hnm]at hget
   have hl:T1.row (32 + sp)=rows.getD (32 + sp) []:=by rw[← hT1];rfl
   have hlD:=hrowD _ hi65
   generalize hrw1:T1.row (32 + sp)=l at *
   refine Qg (An @hHi (An @g0 (An @hq (An @hm2 @hget)))) ?_
   refine Yj (fun k:Nat=>k≤l.length) (fun k=>⟨[(0,.ptr 0 0),(2,.int .i64 256),(3,.int .i64 2),(55,.isl l.length (tms l)),(56,.int .i64 l.length),(57,.int .i64 k)],WT.h { T with now:=T.now + 1,rows:=(l.take k).foldl (Xb (T.now + 1)) (rows.set (32 + sp) []) },67⟩) (fun k=>l.length - k) Qe1.mixed [0,1] hgh
    ⟨0,by omega,?_⟩ fun k hk=>?_
   ·have hput:T1.put (32 + sp) []={ T with now:=T.now + 1,rows:=rows.set (32 + sp) [] }:=by rw[← hT1];rfl
    show To _ _ ⟨_,WT.h { T with now:=T.now + 1,rows:=rows.set (32 + sp) [] },67⟩
    rw[← hput]
    refine To.off (k:=55) hwf hi65 hrw1 ?_ (fun b h1 h2=>?_) ?_ (by dsimp only;omega) ?_ Zsi ?_
    ·show Qb ((0,_)::_) 67 0=_
     rw[Qc,if_pos rfl,hcx]
    ·show Qb ((0,_)::(0,_)::(1,_)::_) 67 b=_
     rw[hTh1,Qc,if_neg Zom]
    ·exact Qq @hHi
    ·exact Qq @hnm
    ·have h1:=Qam (Kb (32 + sp) 67) l
     have hll:=Qaq 67 l
     exact Qq (An @h1 @hll)
   have hRk:=Qgh (now:=T.now + 1) (l:=l) (hset0 (32 + sp) hi65) k
   have hlenk:∀ j,j < 65→((l.take k).foldl (Xb (T.now + 1)) (rows.set (32 + sp) []) |>.getD j []).length≤1000000:=fun j hj=>by
    have h1:=hRk.row_le hj
    have h2:=(hsplit (32 + sp) hi65).length_eq
    rw[List.length_append]at h1 h2
    rw[← hl]at h2
    simp only[List.length_reverse,List.length_take]at h1
    omega
   have hwk:WT.wf { T with now:=T.now + 1,rows:=(l.take k).foldl (Xb (T.now + 1)) (rows.set (32 + sp) []) }:=⟨hRk.len,hT.mb⟩
   have hstep:k < l.length→∀ x,l[k]?=some x→(l.take (k + 1)).foldl (Xb (T.now + 1)) (rows.set (32 + sp) [])=Xb (T.now + 1) ((l.take k).foldl (Xb (T.now + 1)) (rows.set (32 + sp) [])) x:=fun _ x hx=>by
    rw[List.take_succ,hx];simp
   have hrow:∀ x:Tm,(WT.row { T with now:=T.now + 1,rows:=(l.take k).foldl (Xb (T.now + 1)) (rows.set (32 + sp) []) } (Yp (T.now + 1) x.due)).length≤1000000:=fun x=>hlenk _ (Qa9 _ _)
   have hnk:WT.now { T with now:=T.now + 1,rows:=(l.take k).foldl (Xb (T.now + 1)) (rows.set (32 + sp) []) }=T.now + 1:=rfl
   generalize hTk:({ T with now:=T.now + 1,rows:=(l.take k).foldl (Xb (T.now + 1)) (rows.set (32 + sp) []) }:WT)=Tk at *
   have hHk:=WT.hHi hwk
   have htl:=Zf l
   refine Qd ?_
   (refine Qa (fun h3=>?_) (fun h3=>?_)<;>try exact h3.elim)
   ·have hkn:k < l.length:=by omega
    have hcut:=Qd1 l k hkn
    have hst:=hstep hkn l[k] (by simp[hkn])
    have hdk:l[k].due≤1099511627776:=hmem (32 + sp) hi65 l[k] (by rw[← hl];exact List.getElem_mem _)
    generalize l[k]=x at *
    have hcall:=Qdt c.gl Tk hwk x (by rw[hnk];omega) hdk (by rw[hnk];exact hrow x)
    refine Qg (An @htl (An @hcut @hHk)) ?_
    refine Qdf hcall hwk (fun _ _=>WT.lay_wf hwk x) hgh (by simp[okN]) [(0,.ptr 0 0),(2,.int .i64 256),(3,.int .i64 2),(55,.isl l.length (tms l)),(56,.int .i64 l.length),(57,.int .i64 k),(61,.ptr 0 0),(62,.agg [.int .i64 x.id,.int .i64 x.due])] [(67,.cells [.int .i64 x.id,.int .i64 x.due])] 68 (To.sel (by exact Qs) fun b=>?_) (by simp[Qd7,nmPs,nmP]) ?_ (by simp[Qe,nmAll]) fun _ _=>?_
    ·simp only[List.cons_append,List.nil_append,Qc];(repeat' split)<;>rfl
    ·exact Qs
    ·refine Qd ?_
     refine ⟨k + 1,by omega,?_,by omega⟩
     have hT3:Tk.lay x={ T with now:=T.now + 1,rows:=(l.take (k + 1)).foldl (Xb (T.now + 1)) (rows.set (32 + sp) []) }:=by rw[WT.lay_now,hst,← hTk]
     rw[← hT3]
     refine To.wdrop (ex:=[(67,.cells [.int .i64 x.id,.int .i64 x.due])]) (WT.lay_wf hwk x) Zsi Zsi ?_
     have h1:=Qaq 67 l
     have h2:rens id (tms l)=tms l:=Kd _
     have h3:id 0=0:=rfl
     exact Qq (An @h1 (An @h2 @h3))
   ·obtain rfl:k=l.length:=by omega
    rw[List.take_length]at hTk
    have hrl:(l.foldl (Xb (T.now + 1)) (rows.set (32 + sp) []))=relay (T.now + 1) rows (32 + sp):=by unfold relay;rw[← hl]
    have hfs:Zx (T.now + 1) (5 - 2) 2 rows=Zx (T.now + 1) (5 - (2 + 1)) (2 + 1) (relay (T.now + 1) rows (32 + sp)):=by
     rw[← hti]
     show (if (T.now + 1) % 16 ^ 2=0 then _ else _)=_
     rw[if_pos (by simp only[Nat.reducePow];omega)]
    refine Uc ?_
    refine ⟨(2 + 1,relay (T.now + 1) rows (32 + sp)),⟨by simp,by simp,hrel _ hi65,by dsimp only;rw[← hfs];exact hfin⟩,?_,by dsimp only;omega⟩
    rw[hrl]at hTk
    dsimp only
    rw[hTk]
    refine To.sel ?_ fun b=>rfl
    exact Qq @hp2
  ·have hfs:Zx (T.now + 1) (5 - 2) 2 rows=rows:=by
    show (if (T.now + 1) % 16 ^ 2=0 then _ else _)=_
    rw[if_neg (by simp only[Nat.reducePow];omega)]
   rw[hfs,hT1]
   refine Qd ?_
   refine ⟨(),?_⟩
   rw[← hTh1]
   exact To.sel (by exact Qs) fun b=>rfl
 ·have hp1:((16 ^ 3:Nat):Int)=4096:=rfl
  have hp2:((16 ^ 4:Nat):Int)=65536:=rfl
  have hm:Int.tmod ((T.now + 1:Nat):Int) 4096=(((T.now + 1) % 4096:Nat):Int):=Qbt (T.now + 1) 4096
  have hq:Int.tdiv ((T.now + 1:Nat):Int) 4096=(((T.now + 1) / 4096:Nat):Int):=Qcb (T.now + 1) 4096
  have hm2:Int.tmod (((T.now + 1) / 4096:Nat):Int) 16=(((T.now + 1) / 4096 % 16:Nat):Int):=Qbt _ 16
  rw[hTh1,hp1]
  refine Qg (An @hHi (An @g0 @hm)) ?_
  (refine Qa (fun h1=>?_) (fun h1=>?_)<;>try exact h1.elim)
  ·refine Qd ?_
   (refine Qa (fun h2=>?_) (fun h2=>?_)<;>try exact h2.elim)
   have hsp:(T.now + 1) / 4096 % 16 < 16:=Nat.mod_lt _ Zom
   have hti:Qb5 (T.now + 1) 3=48 + (T.now + 1) / 4096 % 16:=rfl
   generalize (T.now + 1) / 4096 % 16=sp at *
   have hget:=WT.getI hwf (i:=48 + sp) Zom
   have hi65:48 + sp < 65:=by omega
   have hnm:2 + (48 + sp)=50 + sp:=by omega
   have hcx:48 + sp + 1=49 + sp:=by omega
   rw[hcx,hnm]at hget
   have hl:T1.row (48 + sp)=rows.getD (48 + sp) []:=by rw[← hT1];rfl
   have hlD:=hrowD _ hi65
   generalize hrw1:T1.row (48 + sp)=l at *
   refine Qg (An @hHi (An @g0 (An @hq (An @hm2 @hget)))) ?_
   refine Yj (fun k:Nat=>k≤l.length) (fun k=>⟨[(0,.ptr 0 0),(2,.int .i64 4096),(3,.int .i64 3),(55,.isl l.length (tms l)),(56,.int .i64 l.length),(57,.int .i64 k)],WT.h { T with now:=T.now + 1,rows:=(l.take k).foldl (Xb (T.now + 1)) (rows.set (48 + sp) []) },67⟩) (fun k=>l.length - k) Qe1.mixed [0,1] hgh
    ⟨0,by omega,?_⟩ fun k hk=>?_
   ·have hput:T1.put (48 + sp) []={ T with now:=T.now + 1,rows:=rows.set (48 + sp) [] }:=by rw[← hT1];rfl
    show To _ _ ⟨_,WT.h { T with now:=T.now + 1,rows:=rows.set (48 + sp) [] },67⟩
    rw[← hput]
    refine To.off (k:=55) hwf hi65 hrw1 ?_ (fun b h1 h2=>?_) ?_ (by dsimp only;omega) ?_ Zsi ?_
    ·show Qb ((0,_)::_) 67 0=_
     rw[Qc,if_pos rfl,hcx]
    ·show Qb ((0,_)::(0,_)::(1,_)::_) 67 b=_
     rw[hTh1,Qc,if_neg Zom]
    ·exact Qq @hHi
    ·exact Qq @hnm
    ·have h1:=Qam (Kb (48 + sp) 67) l
     have hll:=Qaq 67 l
     exact Qq (An @h1 @hll)
   have hRk:=Qgh (now:=T.now + 1) (l:=l) (hset0 (48 + sp) hi65) k
   have hlenk:∀ j,j < 65→((l.take k).foldl (Xb (T.now + 1)) (rows.set (48 + sp) []) |>.getD j []).length≤1000000:=fun j hj=>by
    have h1:=hRk.row_le hj
    have h2:=(hsplit (48 + sp) hi65).length_eq
    rw[List.length_append]at h1 h2
    rw[← hl]at h2
    simp only[List.length_reverse,List.length_take]at h1
    omega
   have hwk:WT.wf { T with now:=T.now + 1,rows:=(l.take k).foldl (Xb (T.now + 1)) (rows.set (48 + sp) []) }:=⟨hRk.len,hT.mb⟩
   have hstep:k < l.length→∀ x,l[k]?=some x→(l.take (k + 1)).foldl (Xb (T.now + 1)) (rows.set (48 + sp) [])=Xb (T.now + 1) ((l.take k).foldl (Xb (T.now + 1)) (rows.set (48 + sp) [])) x:=fun _ x hx=>by
    rw[List.take_succ,hx];simp
   have hrow:∀ x:Tm,(WT.row { T with now:=T.now + 1,rows:=(l.take k).foldl (Xb (T.now + 1)) (rows.set (48 + sp) []) } (Yp (T.now + 1) x.due)).length≤1000000:=fun x=>hlenk _ (Qa9 _ _)
   have hnk:WT.now { T with now:=T.now + 1,rows:=(l.take k).foldl (Xb (T.now + 1)) (rows.set (48 + sp) []) }=T.now + 1:=rfl
   generalize hTk:({ T with now:=T.now + 1,rows:=(l.take k).foldl (Xb (T.now + 1)) (rows.set (48 + sp) []) }:WT)=Tk at *
   have hHk:=WT.hHi hwk
   have htl:=Zf l
   refine Qd ?_
   (refine Qa (fun h3=>?_) (fun h3=>?_)<;>try exact h3.elim)
   ·have hkn:k < l.length:=by omega
    have hcut:=Qd1 l k hkn
    have hst:=hstep hkn l[k] (by simp[hkn])
    have hdk:l[k].due≤1099511627776:=hmem (48 + sp) hi65 l[k] (by rw[← hl];exact List.getElem_mem _)
    generalize l[k]=x at *
    have hcall:=Qdt c.gl Tk hwk x (by rw[hnk];omega) hdk (by rw[hnk];exact hrow x)
    refine Qg (An @htl (An @hcut @hHk)) ?_
    refine Qdf hcall hwk (fun _ _=>WT.lay_wf hwk x) hgh (by simp[okN]) [(0,.ptr 0 0),(2,.int .i64 4096),(3,.int .i64 3),(55,.isl l.length (tms l)),(56,.int .i64 l.length),(57,.int .i64 k),(61,.ptr 0 0),(62,.agg [.int .i64 x.id,.int .i64 x.due])] [(67,.cells [.int .i64 x.id,.int .i64 x.due])] 68 (To.sel (by exact Qs) fun b=>?_) (by simp[Qd7,nmPs,nmP]) ?_ (by simp[Qe,nmAll]) fun _ _=>?_
    ·simp only[List.cons_append,List.nil_append,Qc];(repeat' split)<;>rfl
    ·exact Qs
    ·refine Qd ?_
     refine ⟨k + 1,by omega,?_,by omega⟩
     have hT3:Tk.lay x={ T with now:=T.now + 1,rows:=(l.take (k + 1)).foldl (Xb (T.now + 1)) (rows.set (48 + sp) []) }:=by rw[WT.lay_now,hst,← hTk]
     rw[← hT3]
     refine To.wdrop (ex:=[(67,.cells [.int .i64 x.id,.int .i64 x.due])]) (WT.lay_wf hwk x) Zsi Zsi ?_
     have h1:=Qaq 67 l
     have h2:rens id (tms l)=tms l:=Kd _
     have h3:id 0=0:=rfl
     exact Qq (An @h1 (An @h2 @h3))
   ·obtain rfl:k=l.length:=by omega
    rw[List.take_length]at hTk
    have hrl:(l.foldl (Xb (T.now + 1)) (rows.set (48 + sp) []))=relay (T.now + 1) rows (48 + sp):=by unfold relay;rw[← hl]
    have hfs:Zx (T.now + 1) (5 - 3) 3 rows=Zx (T.now + 1) (5 - (3 + 1)) (3 + 1) (relay (T.now + 1) rows (48 + sp)):=by
     rw[← hti]
     show (if (T.now + 1) % 16 ^ 3=0 then _ else _)=_
     rw[if_pos (by simp only[Nat.reducePow];omega)]
    refine Uc ?_
    refine ⟨(3 + 1,relay (T.now + 1) rows (48 + sp)),⟨by simp,by simp,hrel _ hi65,by dsimp only;rw[← hfs];exact hfin⟩,?_,by dsimp only;omega⟩
    rw[hrl]at hTk
    dsimp only
    rw[hTk]
    refine To.sel ?_ fun b=>rfl
    exact Qq @hp2
  ·have hfs:Zx (T.now + 1) (5 - 3) 3 rows=rows:=by
    show (if (T.now + 1) % 16 ^ 3=0 then _ else _)=_
    rw[if_neg (by simp only[Nat.reducePow];omega)]
   rw[hfs,hT1]
   refine Qd ?_
   refine ⟨(),?_⟩
   rw[← hTh1]
   exact To.sel (by exact Qs) fun b=>rfl
 ·have hp1:((16 ^ 4:Nat):Int)=65536:=rfl
  have hp2:((16 ^ 5:Nat):Int)=1048576:=rfl
  have hm:Int.tmod ((T.now + 1:Nat):Int) 65536=(((T.now + 1) % 65536:Nat):Int):=Qbt (T.now + 1) 65536
  have hq:Int.tdiv ((T.now + 1:Nat):Int) 65536=(((T.now + 1) / 65536:Nat):Int):=Qcb (T.now + 1) 65536
  have hm2:Int.tmod (((T.now + 1) / 65536:Nat):Int) 16=(((T.now + 1) / 65536 % 16:Nat):Int):=Qbt _ 16
  rw[hTh1,hp1]
  refine Qg (An @hHi (An @g0 @hm)) ?_
  (refine Qa (fun h1=>?_) (fun h1=>?_)<;>try exact h1.elim)
  ·refine Qd ?_
   (refine Qa (fun h2=>?_) (fun h2=>?_)<;>try exact h2.elim)
   have hti:Qb5 (T.now + 1) 4=64:=rfl
   have hget:=WT.getI hwf (i:=64) Zom
   have hi65:64 < 65:=by omega
   simp only[Nat.reduceAdd]at hget
   have hl:T1.row 64=rows.getD 64 []:=by rw[← hT1];rfl
   have hlD:=hrowD _ hi65
   generalize hrw1:T1.row 64=l at *
   refine Qg (An @hHi (An @g0 @hget)) ?_
   refine Yj (fun k:Nat=>k≤l.length) (fun k=>⟨[(0,.ptr 0 0),(2,.int .i64 65536),(3,.int .i64 4),(55,.isl l.length (tms l)),(56,.int .i64 l.length),(57,.int .i64 k)],WT.h { T with now:=T.now + 1,rows:=(l.take k).foldl (Xb (T.now + 1)) (rows.set 64 []) },67⟩) (fun k=>l.length - k) Qe1.mixed [0,1] hgh
    ⟨0,by omega,?_⟩ fun k hk=>?_
   ·have hput:T1.put 64 []={ T with now:=T.now + 1,rows:=rows.set 64 [] }:=by rw[← hT1];rfl
    show To _ _ ⟨_,WT.h { T with now:=T.now + 1,rows:=rows.set 64 [] },67⟩
    rw[← hput]
    refine To.off (k:=55) hwf hi65 hrw1 ?_ (fun b h1 h2=>?_) ?_ (by dsimp only;omega) ?_ Zsi ?_
    ·show Qb ((0,_)::_) 67 0=_
     rw[Qc,if_pos rfl]
    ·show Qb ((0,_)::(0,_)::(1,_)::_) 67 b=_
     rw[hTh1,Qc,if_neg Zom]
    ·exact Qq @hHi
    ·exact Qs
    ·have h1:=Qam (Kb 64 67) l
     have hll:=Qaq 67 l
     exact Qq (An @h1 @hll)
   have hRk:=Qgh (now:=T.now + 1) (l:=l) (hset0 64 hi65) k
   have hlenk:∀ j,j < 65→((l.take k).foldl (Xb (T.now + 1)) (rows.set 64 []) |>.getD j []).length≤1000000:=fun j hj=>by
    have h1:=hRk.row_le hj
    have h2:=(hsplit 64 hi65).length_eq
    rw[List.length_append]at h1 h2
    rw[← hl]at h2
    simp only[List.length_reverse,List.length_take]at h1
    omega
   have hwk:WT.wf { T with now:=T.now + 1,rows:=(l.take k).foldl (Xb (T.now + 1)) (rows.set 64 []) }:=⟨hRk.len,hT.mb⟩
   have hstep:k < l.length→∀ x,l[k]?=some x→(l.take (k + 1)).foldl (Xb (T.now + 1)) (rows.set 64 [])=Xb (T.now + 1) ((l.take k).foldl (Xb (T.now + 1)) (rows.set 64 [])) x:=fun _ x hx=>by
    rw[List.take_succ,hx];simp
   have hrow:∀ x:Tm,(WT.row { T with now:=T.now + 1,rows:=(l.take k).foldl (Xb (T.now + 1)) (rows.set 64 []) } (Yp (T.now + 1) x.due)).length≤1000000:=fun x=>hlenk _ (Qa9 _ _)
   have hnk:WT.now { T with now:=T.now + 1,rows:=(l.take k).foldl (Xb (T.now + 1)) (rows.set 64 []) }=T.now + 1:=rfl
   generalize hTk:({ T with now:=T.now + 1,rows:=(l.take k).foldl (Xb (T.now + 1)) (rows.set 64 []) }:WT)=Tk at *
   have hHk:=WT.hHi hwk
   have htl:=Zf l
   refine Qd ?_
   (refine Qa (fun h3=>?_) (fun h3=>?_)<;>try exact h3.elim)
   ·have hkn:k < l.length:=by omega
    have hcut:=Qd1 l k hkn
    have hst:=hstep hkn l[k] (by simp[hkn])
    have hdk:l[k].due≤1099511627776:=hmem 64 hi65 l[k] (by rw[← hl];exact List.getElem_mem _)
    generalize l[k]=x at *
    have hcall:=Qdt c.gl Tk hwk x (by rw[hnk];omega) hdk (by rw[hnk];exact hrow x)
    refine Qg (An @htl (An @hcut @hHk)) ?_
    refine Qdf hcall hwk (fun _ _=>WT.lay_wf hwk x) hgh (by simp[okN]) [(0,.ptr 0 0),(2,.int .i64 65536),(3,.int .i64 4),(55,.isl l.length (tms l)),(56,.int .i64 l.length),(57,.int .i64 k),(61,.ptr 0 0),(62,.agg [.int .i64 x.id,.int .i64 x.due])] [(67,.cells [.int .i64 x.id,.int .i64 x.due])] 68 (To.sel (by exact Qs) fun b=>?_) (by simp[Qd7,nmPs,nmP]) ?_ (by simp[Qe,nmAll]) fun _ _=>?_
    ·simp only[List.cons_append,List.nil_append,Qc];(repeat' split)<;>rfl
    ·exact Qs
    ·refine Qd ?_
     refine ⟨k + 1,by omega,?_,by omega⟩
     have hT3:Tk.lay x={ T with now:=T.now + 1,rows:=(l.take (k + 1)).foldl (Xb (T.now + 1)) (rows.set 64 []) }:=by rw[WT.lay_now,hst,← hTk]
     rw[← hT3]
     refine To.wdrop (ex:=[(67,.cells [.int .i64 x.id,.int .i64 x.due])]) (WT.lay_wf hwk x) Zsi Zsi ?_
     have h1:=Qaq 67 l
     have h2:rens id (tms l)=tms l:=Kd _
     have h3:id 0=0:=rfl
     exact Qq (An @h1 (An @h2 @h3))
   ·obtain rfl:k=l.length:=by omega
    rw[List.take_length]at hTk
    have hrl:(l.foldl (Xb (T.now + 1)) (rows.set 64 []))=relay (T.now + 1) rows 64:=by unfold relay;rw[← hl]
    have hfs:Zx (T.now + 1) (5 - 4) 4 rows=Zx (T.now + 1) (5 - (4 + 1)) (4 + 1) (relay (T.now + 1) rows 64):=by
     rw[← hti]
     show (if (T.now + 1) % 16 ^ 4=0 then _ else _)=_
     rw[if_pos (by simp only[Nat.reducePow];omega)]
    refine Uc ?_
    refine ⟨(4 + 1,relay (T.now + 1) rows 64),⟨by simp,by simp,hrel _ hi65,by dsimp only;rw[← hfs];exact hfin⟩,?_,by dsimp only;omega⟩
    rw[hrl]at hTk
    dsimp only
    rw[hTk]
    refine To.sel ?_ fun b=>rfl
    exact Qq @hp2
  ·have hfs:Zx (T.now + 1) (5 - 4) 4 rows=rows:=by
    show (if (T.now + 1) % 16 ^ 4=0 then _ else _)=_
    rw[if_neg (by simp only[Nat.reducePow];omega)]
   rw[hfs,hT1]
   refine Qd ?_
   refine ⟨(),?_⟩
   rw[← hTh1]
   exact To.sel (by exact Qs) fun b=>rfl
 ·have hfs:Zx (T.now + 1) (5 - 5) 5 rows=rows:=rfl
  rw[hfs,hT1,hTh1]
  refine Qd ?_
  (refine Qa (fun h1=>?_) (fun h1=>?_)<;>try exact h1.elim)
  refine Qd ?_
  refine ⟨(),?_⟩
  rw[← hTh1]
  exact To.sel (by exact Qs) fun b=>rfl
end Go.Proofs.YtogckmommodmhaaGreatDoor
