import Derived.Test.YtogckmommodmhaaGreatDoorZw10
import Derived.Test.YtogckmommodmhaaGreatDoorZw5
import Derived.Test.YtogckmommodmhaaGreatDoorZw1
import Derived.Test.YtogckmommodmhaaGreatDoorZw11
import Derived.Test.YtogckmommodmhaaGreatDoorZw17
import Derived.Test.YtogckmommodmhaaGreatDoorZw18
import Derived.Test.YtogckmommodmhaaGreatDoorRows
import Derived.KernelRfl
namespace Go.Proofs.YtogckmommodmhaaGreatDoor
open Go.RowKit
set_option linter.all false
set_option linter.unusedSimpArgs false
set_option maxRecDepth 100000
def ax.ks:List SK:=List.replicate 18 (.int .i64)++List.replicate 3 .bool
theorem ax.j6 {p:ax} (h:p.wf):p.enc.map Yy=ax.ks.map some:=by
 have e1:(Qo p.own).map Yy=(List.replicate 18 (SK.int .i64)).map some:=by
  rw[← h.own];apply List.ext_getElem<;>simp[Qo,Yy]
 have e2:(Ze p.dr).map Yy=(List.replicate 3 SK.bool).map some:=by
  rw[← h.dr];apply List.ext_getElem<;>simp[Ze,Yy]
 rw[ax.enc,ax.ks,List.map_append,List.map_append,e1,e2]
theorem Xr2:Uv Tryz.prog 100 35=some ax.ks:=by kernel_rfl
theorem Xo9 {c:Cx} {ne:Bool} (p:ax) (h:p.wf):mq Tryz.prog c (.cA ne 35) [.agg p.enc,.agg p.enc] (.bool (ne != true)) :=
 zR Xr2 (by kernel_rfl) (by kernel_rfl) (ax.j6 h) (ax.j6 h) au
theorem Xki:Uv Tryz.prog 100 36=some (List.replicate 8 (.int .i64)):=by kernel_rfl
theorem YC {l:List Int} (h:l.length=8):(Qo l).map Yy=(List.replicate 8 (SK.int .i64)).map some:=by
 rw[← h];apply List.ext_getElem<;>simp[Qo,Yy]
theorem Xqt {c:Cx} {ne:Bool} (l:List Int) (h:l.length=8):mq Tryz.prog c (.cA ne 36) [.agg (Qo l),.agg (Qo l)] (.bool (ne != true)) :=
 zR Xki (by kernel_rfl) (by kernel_rfl) (YC h) (YC h) au
theorem Tb.pg {t:Tb} (h:t.wf):(t.enc.drop 21).take 8=Qo t.home:=by
 unfold Tb.enc Tb.hd
 rw[List.append_assoc,← ax.aA h.aq,List.drop_left,List.take_append_of_le_length (by rw[Xv,h.home];decide),List.take_of_length_le (by rw[Xv,h.home];decide)]
theorem YD:FT Tryz.prog 43 Tryz.f43 (aQ Tryz.prog Tryz.f43) [.t 4]:=.of Tryz.func43
theorem YE:FT Tryz.prog 45 Tryz.f45 (aQ Tryz.prog Tryz.f45) [.t 4]:=.of Tryz.func45
set_option maxHeartbeats 2000000 in
theorem Xtr (gl:Nat→AV) (t:Tb) (ht:t.wf) (hl:t.maps.length≤4611686018427387904):PS Tryz.prog gl 43 [.agg t.enc,.agg t.enc] (.bool true):=by
 refine YD.ps (of_decide_eq_true rfl) (by simp[Qf]) fun c hN hg=>?_
 conv in aQ _ _=>cbv
 have e2:=Tb.aA ht
 have e3:=Tb.cz ht
 have e4:=Tb.ea ht
 have e5:=Tb.pg ht
 have aH:=Jg t.maps
 have hp:=@Xo9 c true t.aq ht.aq
 have hh:=@Xqt c true t.home ht.home
 refine Qh (An @e2 @e4) ?_
 refine Qv hp (An @e2 (An @e4 @e5)) ?_
 refine Qv hh (An @e2 @e3) ?_
 (refine Qa (fun h1=>?_) (fun h1=>?_)<;>try exact h1.elim)
 refine Qe ?_
 refine Xd (fun k:Nat=>k≤t.maps.length) (fun k=>⟨[(2,.ptr 0 0),(3,.ptr 1 0),(5,.int .i64 k)],[(0,.cells t.enc),(1,.cells t.enc)],2⟩) (fun k=>t.maps.length - k) YD.mixed hN
  ⟨0,by omega,[],by exact Qr⟩ fun k hk=>?_
 refine Qh (An @e2 @e3) ?_
 (refine Qa (fun h2=>?_) (fun h2=>?_)<;>try exact h2.elim)
 ·have bw:k < t.maps.length:=by omega
  have a7:=vQ t.maps k bw
  generalize t.maps[k]=x at *
  have heq:=@Dz c true x x
  rw[decide_eq_true rfl]at heq
  refine Qh (An @e2 (An @e3 (An @aH @a7))) ?_
  refine Qv heq (An @e2 (An @e3 (An @aH @a7))) ?_
  (refine Qa (fun h3=>?_) (fun h3=>?_)<;>try exact h3.elim)
  refine Qe ?_
  refine ⟨k + 1,by omega,⟨[],?_⟩,by omega⟩
  exact Qr
 ·have:k=t.maps.length:=by omega
  subst this
  exact Qr
theorem Xj7:Uv Tryz.prog 100 73=some (List.replicate 10 (.int .i64)):=by kernel_rfl
theorem YF (f:Fl):f.enc.map Yy=(List.replicate 10 (SK.int .i64)).map some:=rfl
theorem Xzf {c:Cx} {ne:Bool} (f:Fl):mq Tryz.prog c (.cA ne 73) [.agg f.enc,.agg f.enc] (.bool (ne != true)) :=
 zR Xj7 (by kernel_rfl) (by kernel_rfl) (YF f) (YF f) au
theorem Yav (l:List Fl) (k:Nat) (h:k < l.length):((eK l).drop (k * 10)).take 10=l[k].enc:=by
 induction l generalizing k with
 | nil=>simp at h
 | cons a l ih =>
  cases k with
  | zero=>simp[eK,Fl.enc,Wo]
  | succ k =>
   have:=ih k (by simpa using h)
   rw[show (k + 1) * 10=10 + k * 10 by omega,← List.drop_drop]
   simpa [eK,Fl.enc,Wo] using this
set_option maxHeartbeats 2000000 in
theorem Xqe (gl:Nat→AV) (l:List Fl) (hl:l.length≤1000000):PS Tryz.prog gl 45 [.isl l.length (eK l),.isl l.length (eK l)] (.bool true):=by
 refine YE.ps (of_decide_eq_true rfl) (by simp[Qf]) fun c hN hg=>?_
 conv in aQ _ _=>cbv
 have aH:=Bn l
 have eE:=uZ 0 l
 refine Qe ?_
 (refine Qa (fun h1=>?_) (fun h1=>?_)<;>try exact h1.elim)
 refine Qe ?_
 refine Xd (fun k:Nat=>k≤l.length) (fun k=>⟨[(0,.isl l.length (eK l)),(1,.isl l.length (eK l)),(5,.int .i64 k)],[],0⟩) (fun k=>l.length - k) YE.mixed hN
  ⟨0,by omega,[],by exact Qq @eE⟩ fun k hk=>?_
 refine Qe ?_
 (refine Qa (fun h2=>?_) (fun h2=>?_)<;>try exact h2.elim)
 ·have bw:k < l.length:=by omega
  have a7:=Yav l k bw
  generalize l[k]=x at *
  have heq:=@Xzf c true x
  refine Qh (An @aH @a7) ?_
  refine Qv heq (An @aH @a7) ?_
  (refine Qa (fun h3=>?_) (fun h3=>?_)<;>try exact h3.elim)
  refine Qe ?_
  refine ⟨k + 1,by omega,⟨[],?_⟩,by omega⟩
  exact Qq @eE
 ·have:k=l.length:=by omega
  subst this
  exact Qr
theorem Xgn:Uv Tryz.prog 100 27=some [.int .i64,.str,.bool,.str]:=by kernel_rfl
theorem Ybu {c:Cx} {ne:Bool} (r:Rp):mq Tryz.prog c (.cA ne 27) [.agg r.enc,.agg r.enc] (.bool (ne != true)) :=
 zR Xgn (by kernel_rfl) (by kernel_rfl) rfl rfl au
theorem Xon (f g:Nat→Nat) (h:List (Nat × Bk)):Qs f (Qs g h)=Qs (fun b=>f (g b)) h:=by
 unfold Qs
 rw[List.map_map]
 refine List.map_congr_left fun q _=>?_
 show (f (g q.1),Qx f (Qx g q.2))=_
 rw[HY]
def iJ (h:List (Nat × Bk)):List (Nat × Bk):=Qs (fun b=>70 + b) h
def vR (h:List (Nat × Bk)):List (Nat × Bk):=Qs (fun b=>71 + b) h
def sR (b:Nat):Nat:=if b < 70 then 142 + b else b + 1
theorem O2 {b b':Nat} (h:b < 141) (h':b' < 141) (e:sR b=sR b'):b=b':=by
 unfold sR at e
 split at e<;>split at e<;>omega
theorem wI {b:Nat} (h:b < 141):71≤sR b∧sR b < 212:=by
 unfold sR
 split<;>omega
theorem YG {j:Nat} (h:71≤j) (h':j < 212):∃ b,b < 141∧sR b=j:=by
 by_cases hj:j < 142
 ·exact ⟨j - 1,by omega,by unfold sR;rw[if_neg ae];omega⟩
 ·exact ⟨j - 142,by omega,by unfold sR;rw[if_pos ae];omega⟩
section
variable {h:List (Nat × Bk)}
theorem YH {q:Nat × Bk} (hq:q ∈ iJ h):70≤q.1:=by
 obtain ⟨x,_,rfl⟩:=List.mem_map.1 hq
 exact Nat.le_add_right _ _
theorem wJ (B:HL h 71) {S:NS} {T:WT} (hT:T.wf):HL (iJ h++Qk S T) 141 where
 mem q hq:=by
  rcases List.mem_append.1 hq with hq|hq
  ·obtain ⟨x,hx,rfl⟩:=List.mem_map.1 hq
   obtain ⟨h1,h2⟩:=B.mem x hx
   exact ⟨by show 70 + x.1 < _;omega,Ol (fun b hb=>by omega) h2⟩
  ·obtain ⟨h1,h2⟩:=(Qi hT).mem q hq
   exact ⟨by omega,Un ae h2⟩
 dW b hb:=by
  by_cases h:b < 70
  ·obtain ⟨q,hq,e⟩:=(Qi (S:=S) hT).dW b h
   exact ⟨q,List.mem_append_right _ hq,e⟩
  ·obtain ⟨q,hq,e⟩:=B.dW (b - 70) ae
   exact ⟨_,List.mem_append_left _ (List.mem_map.2 ⟨q,hq,rfl⟩),by show 70 + q.1=b;omega⟩
 self q hq:=by
  rcases List.mem_append.1 hq with hq|hq
  ·have UA:=hq
   obtain ⟨x,hx,rfl⟩:=List.mem_map.1 hq
   have h1:=(B.mem x hx).1
   show Qc (iJ h++Qk S T) 141 (70 + x.1)=Qx _ x.2
   rw[Uh ⟨_,UA,rfl⟩]
   unfold iJ
   rw[Zc (σ:=fun b=>70 + b) (fun b b' _ _ e=>by omega) h1 (fun q hq=>(B.mem q hq).1) (B.dW _ h1),B.self x hx]
  ·have:=((Qi hT).mem q hq).1
   rw[Qw fun y hy e=>by have:=YH hy;omega,(Qi hT).lo this,(Qi hT).self q hq]
theorem O3 (B:HL h 71) {S:NS} {T:WT} (hT:T.wf) {f g k:Nat→Nat} (e1:∀ b,b < 70→f b=g b) (e2:∀ b,b < 71→f (70 + b)=k b):Qs f (iJ h++Qk S T)=Qs k h++Qs g (Qk S T):=by
 have e0:Qs f (iJ h++Qk S T)=Qs f (iJ h)++Qs f (Qk S T):=List.map_append
 rw[e0,Ed (Qi hT) e1]
 unfold iJ
 rw[Xon,Ed B e2]
theorem Yft (B:HL h 71) {S:NS} {T:WT} (hT:T.wf):Qs sR (iJ h++Qk S T)=vR h++Qs (fun b=>142 + b) (Qk S T) :=
 O3 B hT (fun b hb=>if_pos hb) fun b hb=>(if_neg ae).trans ae
theorem YI (H:HL h 141) {n j:Nat} (hj:212≤j):Qc (Qs sR h) n j=if j < n then .dead else .free :=
 Km (fun b hb e=>by have:=wI hb;omega) (fun q hq=>(H.mem q hq).1)
def rR (σ:Nat→Nat) (j:Nat):Nat:=if j < 71 then j else if j < 142 then σ (j - 1) else σ (j - 142)
theorem Ir {σ:Nat→Nat} {b:Nat} (h:b < 141):rR σ (sR b)=σ b:=by
 unfold rR sR
 by_cases h1:b < 70
 ·rw[if_pos h1,if_neg ae,if_neg ae,Nat.add_sub_cancel_left]
 ·rw[if_neg h1,if_neg ae,if_pos ae,Nat.add_sub_cancel]
theorem To.zd {σ:Nat→Nat} {t t':List (Nat × AV)} {ex:List (Nat × Bk)} {n:Nat} (H:HL h 141) (bN:∀ b b',b < 141→b' < 141→σ b=σ b'→b=b') (hex:∀ q ∈ ex,jr σ 141 q.1) (ht:Qu (rR σ) 212 t t'):To (List.range 71) ⟨t,ex++Qs σ h,n⟩ ⟨t',Qs sR h,212⟩:=by
 have YJ:∀ c,c < 141→Qc (Qs sR h) 212 (sR c)=Qx sR (Qc h 141 c):=fun c hc=>Zc (fun b b' h1 h2 e=>O2 h1 h2 e) hc (fun q hq=>(H.mem q hq).1) (H.dW c hc)
 have off:∀ j,(∀ b,b < 141→sR b≠j)→Qc (Qs sR h) 212 j=if j < 212 then .dead else .free:=fun j hj=>Km hj (fun q hq=>(H.mem q hq).1)
 have lo:∀ j,j < 71→Qc (Qs sR h) 212 j=.dead:=fun j hj=>(off j fun b hb e=>by have:=wI hb;omega).trans (if_pos ae)
 have hi:∀ j,212≤j→Qc (Qs sR h) 212 j=.free:=fun j hj=>(off j fun b hb e=>by have:=wI hb;omega).trans (if_neg ae)
 have lv:∀ j,j < 212→(Qc (Qs sR h) 212 j).live→∃ c,c < 141∧sR c=j:=fun j hj hl=>by
  refine YG (Nat.le_of_not_lt fun h=>?_) hj
  rw[lo j h]at hl;exact hl
 refine To.lk (rR σ) (fun b hb=>⟨if_pos (List.mem_range.1 hb),by have:=List.mem_range.1 hb;show b < 212;omega⟩) (fun b cR=>Decidable.byContradiction fun hb=>?_) (fun b hb kf=>?_) hi (fun b b' hb bH h1 h2 e=>?_) (fun b hb cR=>?_) ht
 ·have cR:(Qc (Qs sR h) 212 b).live:=cR
  rw[hi b (Nat.le_of_not_lt hb)]at cR;exact cR
 ·show Qc (Qs sR h) 212 b=_
  by_cases h:b < 71
  ·exact lo b h
  ·obtain ⟨c,hc,rfl⟩:=YG (Nat.le_of_not_lt h) hb
   refine (kf ?_).elim
   show (Qc (Qs sR _) 212 (sR c)).live
   rw[YJ c hc,w5]
   exact H.lv hc
 ·obtain ⟨c,hc,rfl⟩:=lv b hb h1
  obtain ⟨c',tn,rfl⟩:=lv b' bH h2
  rw[Ir hc,Ir tn]at e
  rw[bN c c' hc tn e]
 ·obtain ⟨c,hc,rfl⟩:=lv b hb cR
  show bP 212 (Qc (Qs sR h) 212 (sR c))∧Qc (ex++Qs σ h) n (rR σ (sR c))=Qx (rR σ) (Qc (Qs sR h) 212 (sR c))
  rw[YJ c hc,Ir hc,Qw fun q hq e=>hex q hq c hc e.symm,Zc bN hc (fun q hq=>(H.mem q hq).1) (H.dW c hc),HY]
  exact ⟨Ol (fun b hb=>(wI hb).2) (H.nm hc),NA (fun j hj=>(Ir hj).symm) (H.nm hc)⟩
end
theorem To.none {k:Nat} {t t':List (Nat × AV)} {h:List (Nat × Bk)} {n:Nat} (ht:Qu id k t t'):To (List.range k) ⟨t,h,n⟩ ⟨t',[],k⟩:=by
 have e:∀ b,Qc [] k b=if b < k then Bk.dead else .free:=fun b=>rfl
 refine To.lk id (fun b hb=>⟨rfl,List.mem_range.1 hb⟩) (fun b hl=>?_) (fun b hb _=>(e b).trans (if_pos hb)) (fun b hb=>(e b).trans (if_neg (by have hb:k≤b:=hb;omega))) (fun b b' hb bH h1 _ _=>?_) (fun b hb h1=>?_) ht
 ·by_cases hb:b < k
  ·exact hb
  ·have hl:(Qc [] k b).live:=hl
   rw[e,if_neg hb]at hl;exact hl.elim
 ·have h1:(Qc [] k b).live:=h1
  rw[e,if_pos hb]at h1;exact h1.elim
 ·have h1:(Qc [] k b).live:=h1
  rw[e,if_pos hb]at h1;exact h1.elim
section
variable {P:Program} {c:Cx}
theorem Ye4 {r0:List bG} {K:St→Prop} {d:Option Nat} {f:FuncId} {xs:List TV} {args:List AV} {aG:List (Nat × Bk)} {m:Nat} {r:AV} {t:List (Nat × AV)} (dM:GS P c.gl f args aG m r [] m) (H:HL aG m) (hr:Qf m r)
  (hc:Qt none (aF c.gl (⟨t,aG,m⟩:St).fs xs)∧(aF c.gl (⟨t,aG,m⟩:St).fs xs).map Qj=args∧ah m args) (hx:XP P c r0 K (St.bD ⟨t,[],m⟩ d r)):Xw P c (.pd d (.call f) xs none) r0 K ⟨t,aG,m⟩:=by
 refine .inl ⟨_,_,Co (σ:=fun b=>b) (N:=List.range m) (args:=args) dM (fun o ys aH oB s2 g a w hT hR=>?_) (fun b b' _ _ e=>e) (fun p hp=>⟨(H.mem p hp).1,(H.mem p hp).2,?_⟩) (fun b hb=>H.dW b hb) (Nat.le_refl m) (fun b h1 h2=>by omega) (fun p hp=>by cases hp) hr hc.2.2 (fun b hb=>List.mem_range.2 hb) (fun j hj=>⟨j,List.mem_range.1 hj,rfl⟩) (fun i=>?_) (fun b hb=>?_) (fun j hj=>?_),hx⟩
 ·obtain ⟨ts,bl⟩:=tC aH
  subst oB
  have bj:aF c.gl s2 (ys.map aS)=aF c.gl (⟨t,aG,m⟩:St).fs (ys.map aS):=Xu fun i hi=>hT i hi
  have hv:=Xx (hR.aF ys) (by rw[bj];exact hc.1)
  rw[bj,hc.2.1]at hv
  refine ⟨_,tD dM.1 bl a w,?_⟩
  rw[show (fun b:Nat=>b)=id from rfl,Jf]
  exact hv
 ·show Qc aG m p.1=Qx (fun b=>b) p.2
  rw[show (fun b:Nat=>b)=id from rfl,Kb]
  exact H.self p hp
 ·cases d with
  | none=>rfl
  | some d=>show look ((d,r)::t) i=_;rw[Yw];rw[py _ (fun _=>rfl)];rfl
 ·have e:(St.bD ⟨t,[],m⟩ d r).fs.H b=Qc [] m b:=by cases d<;>rfl
  rw[e]
  show (if b < m then Bk.dead else .free)=pF id (if b < m then Bk.dead else .free)
  rw[if_pos hb];rfl
 ·have e:(St.bD ⟨t,[],m⟩ d r).fs.H j=Qc [] m j:=by cases d<;>rfl
  rw[e]
  have hj:m≤j:=by simpa using hj
  show _=Qc aG m j
  rw[H.hi m j hj];rfl
end
set_option maxHeartbeats 4000000 in
theorem Xur (gl:Nat→AV) (h0:gl 0=.xp (Qo Xs) 0) (b:Bool) (l:List Ac) (hl:u3 l) (hlen:l.length≤140737488351232) (lk:FuncId) (X:Nat→List (Nat × Bk)) (hB:∀ i,HL (X i) 71)
  (kC:∀ i,i < Jd l→∀ (T:WT) (D:List Tm),WI T (Ye b l (i + 1)).now D→GD Tryz.prog gl lk [.ptr 67 0,.agg (l.getD i lY).enc,.agg (nX b l i).enc,.ptr 140 0] (iJ (X i)++Qk (Ye b l (i + 1)) T) 141 [67,137,140] (.bool true) (iJ (X (i + 1))++Qk (Ye b l (i + 1)) T)) :
  GS Tryz.prog gl 30 [.bool b,.isl l.length (iI l),.cl lk [.ptr 70 0]] (X 0) 71 (.aU [.any,.bool true]) [] 71:=by
 obtain ⟨Ts,xi,zb,rN⟩:=Oj gl h0 b l hl
 have gE:∀ i,(Ts i).wf:=fun i=>by
  obtain ⟨D,hD⟩:=zb i
  exact hD.1.wf
 have EY:=WH gl h0
 have bV:=HT gl b
 rw[← xi]at bV
 refine HV.HX (of_decide_eq_true rfl) (hB 0).lives fun c aY hg=>?_
 subst hg
 conv in aQ _ _=>cbv
 have aW:=WJ l
 have kG:=fun n=>Bo n l
 have Bw:=fun ρ:Nat→Nat=>show ay ρ (iI l)=iI l by rw[Yk];exact (List.map_congr_left fun v hv=>sP (Xi.1 (Bo 0 l) v hv)).trans (List.map_id _)
 have iv:Jd l≤l.length∧Jd l≤100:=⟨Nat.min_le_left _ _,Nat.min_le_right _ _⟩
 refine Qe ?_
 refine Zq EY ?_
 (refine Qa (fun h1=>?_) (fun h1=>?_)<;>try exact h1.elim)
 refine Qe ?_
 refine Eb bV (Qi (gE 0)) ?_ (fun q hq=>((hB 0).mem q hq).1) ?_
 ·exact Qr
 refine Qe ?_
 have lQ:=wJ (hB 0) (S:=Ye b l 0) (gE 0)
 have e0:X 0++Qs (fun b=>71 + b) (Qk (NS.new b) (Ts 0))=[]++Qs (fun j=>if j < 70 then 71 + j else j - 70) (iJ (X 0)++Qk (Ye b l 0) (Ts 0)):=by
  rw[O3 (hB 0) (gE 0) (g:=fun b=>71 + b) (k:=id) (fun b hb=>if_pos hb) (fun b hb=>(if_neg ae).trans (by show 70 + b - 70=b;omega)),Jw]
  rfl
 rw[e0]
 refine Yf (fun i:Nat=>i≤Jd l) (fun i=>⟨[(1,.isl l.length (iI l)),(2,.cl lk [.ptr 141 0]),(8,.ptr 209 0),(9,.int .i64 i)],Qs sR (iJ (X i)++Qk (Ye b l i) (Ts i)),212⟩) (fun i=>Jd l - i) HV.mixed (List.range 71) aY
  ⟨0,Nat.zero_le _,To.zd lQ (fun b b' h1 h2 e=>by (repeat' split at e)<;>omega) (by simp) (by simp[Qu,Qf,ah,look,aD,ay,kG,Bw,rR])⟩ fun i hi=>?_
 have aM:=fun n j (hj:212≤j)=>YI (n:=n) (wJ (hB i) (S:=Ye b l i) (gE i)) hj
 rw[Yft (hB i) (gE i)]at aM ⊢
 refine Qe ?_
 (refine Qa (fun h2=>?_) (fun h2=>?_)<;>try exact h2.elim)
 ·have qT:i < l.length:=by omega
  have AU:i < Jd l:=by unfold Jd;omega
  have iq:=WK l qT
  have hd:=rN i
  obtain ⟨D1,lW,_⟩:=zb (i + 1)
  have mY:=kC i AU (Ts (i + 1)) D1 lW
  have hT:=gE i
  have bI:=gE (i + 1)
  generalize l.getD i lY=a at *
  obtain ⟨a1,a2,a3,a4⟩:=a
  have zc:∃ r1 r2 r3 r4,nX b l i=⟨r1,r2,r3,r4⟩:=⟨_,_,_,_,rfl⟩
  obtain ⟨r1,r2,r3,r4,zc⟩:=zc
  rw[zc]at hd mY
  dsimp only[Ac.enc,Rp.enc]at iq hd mY
  refine Qh (An @aW @iq) ?_
  have im:∀ q ∈ vR (X i),71≤q.1∧q.1 < 142:=fun q hq=>by
   obtain ⟨x,hx,rfl⟩:=List.mem_map.1 hq
   have:=((hB i).mem x hx).1
   show 71≤71 + x.1∧71 + x.1 < 142
   omega
  have fq:=wJ (hB i) (S:=Ye b l (i + 1)) bI
  have hs:∀ b,b < 70→bU (fun b=>142 + b) [67] 212 b=209∧b=67∨bU (fun b=>142 + b) [67] 212 b=212 + b∧b≠67:=fun b hb=>by
   by_cases e:b=67
   ·subst e;exact .inl ⟨Kq au,rfl⟩
   ·exact .inr ⟨Jy (by simpa using e),e⟩
  refine WM (v:=false) (σ:=fun b=>142 + b) (ex:=vR (X i)) (pp:=List.range 71) (s3:=⟨[(1,.isl l.length (iI l)),(2,.cl lk [.ptr 141 0]),(8,.ptr 209 0),(9,.int .i64 i),(30,.agg [.int .i64 r1,.str r2,.bool r3,.str r4])],Qs sR (iJ (X i)++Qk (Ye b l (i + 1)) (Ts (i + 1))),212⟩) aY hd ⟨fun b b' _ _ e=>by omega,fun b hb=>by omega,Qi hT,by simp,fun q hq=>⟨fun b hb e=>by have:=im q hq;have e:142 + b=q.1:=e;omega,by have:=im q hq;omega⟩,?_,?_,?_⟩ rfl (Qi bI) (by simp[Qf,ah]) ?_ ?_
  ·exact Qr
  ·exact Qq @Xz
  ·exact Qr
  ·have e1:vR (X i)++Qs (bU (fun b=>142 + b) [67] 212) (Qk (Ye b l (i + 1)) (Ts (i + 1)))=[]++Qs (fun j=>if j < 70 then bU (fun b=>142 + b) [67] 212 j else j + 1) (iJ (X i)++Qk (Ye b l (i + 1)) (Ts (i + 1))):=by
    rw[O3 (hB i) bI (g:=bU (fun b=>142 + b) [67] 212) (k:=fun b=>71 + b) (fun b hb=>if_pos hb) fun b hb=>(if_neg ae).trans ae]
    rfl
   unfold Zr
   rw[e1]
   refine To.zd fq (fun b b' h1 h2 e=>?_) au ?_
   ·by_cases c1:b < 70<;>by_cases c2:b' < 70
    ·rw[if_pos c1,if_pos c2]at e
     rcases hs b c1 with ⟨q1,q2⟩|⟨q1,q2⟩<;>rcases hs b' c2 with ⟨q3,q4⟩|⟨q3,q4⟩<;>omega
    ·rw[if_pos c1,if_neg c2]at e
     rcases hs b c1 with ⟨q1,_⟩|⟨q1,_⟩<;>omega
    ·rw[if_neg c1,if_pos c2]at e
     rcases hs b' c2 with ⟨q1,_⟩|⟨q1,_⟩<;>omega
    ·rw[if_neg c1,if_neg c2]at e;omega
   ·simp[yP,Qu,Qf,ah,look,aD,ay,kG,Bw,rR,bU]
  have rJ:=fun n j (hj:212≤j)=>YI (n:=n) fq hj
  refine Qh (An @rJ (An @aW @iq)) ?_
  refine C2 (σ:=sR) (ex:=[(212,_),(212,_)]) (v:=true) mY ⟨fun b b' h1 h2 e=>O2 h1 h2 e,fun b hb=>by have:=wI hb;omega,fq,by simp,fun q hq=>?_,?_,?_,?_⟩ rfl (wJ (hB (i + 1)) bI) (by simp[Qf]) ?_
  ·have e:q.1=212:=by simp at hq;rcases hq with rfl|rfl<;>rfl
   rw[e]
   exact ⟨fun b hb e=>by have:=wI hb;omega,by decide⟩
  ·exact Qr
  ·refine Qe ?_
   exact rfl
  ·simp[ah,Qf]
  unfold Zr
  refine Qe ?_
  (refine Qa (fun h3=>?_) (fun h3=>?_)<;>try exact h3.elim)
  refine Qe ?_
  refine ⟨i + 1,by omega,To.zd (ex:=[(212,_),(212,_)]) (wJ (hB (i + 1)) bI) (fun b b' h1 h2 e=>Gh (fun b b' h1 h2 e=>O2 h1 h2 e) (fun b hb=>by have:=wI hb;omega) h1 h2 e) (fun q hq=>?_) (by simp[Qu,Qf,ah,look,aD,ay,kG,Bw,rR,bU,sR]),by omega⟩
  have e:q.1=212:=by simp at hq;rcases hq with rfl|rfl<;>rfl
  rw[e]
  refine fun b hb e=>?_
  by_cases hp:b ∈ [67,137,140]
  ·rw[Kq hp]at e;have:=wI hb;omega
  ·rw[Jy hp]at e;omega
 ·have e:i=Jd l:=by unfold Jd at hi ⊢;omega
  subst e
  refine Qe ?_
  show To (List.range 71) _ _
  refine (To.Lh 0 (y:=.aU [.any,.bool true]) ?_).trans (To.none (by simp[Qu,Qf,ah,look,aD,ay]))
  exact Wk.CY (x:=.ptr 209 0) (fun _ _ _ v _=>.any v) (Wk.refl _)
set_option maxHeartbeats 4000000 in
theorem Xig (gl:Nat→AV) (S:NS) (T:WT) (hS:NJ S) (hT:T.wf):GS Tryz.prog gl 23 [.ptr 67 0] (Qk S T) 70 (.agg (S.tb.hd++[.sl 5 70 0 S.tb.maps.length S.tb.maps.length])) ((70,.cells (ca S.tb.maps))::Qk S T) 71:=by
 refine Vf.HX (of_decide_eq_true rfl) (Zu hT) fun c aY hg=>?_
 subst hg
 conv in aQ _ _=>cbv
 have aM:=fun n b hb=>Yl (S:=S) hT n b hb
 have bE:=Kj S T
 have aW:=NS.aP hS.wf
 have eQ:=NS.ef hS.wf
 have aH:=Tb.aA hS.wf
 have HR:=Tb.cz hS.wf
 have tt:S.tb.enc.take 30=S.tb.enc:=List.take_of_length_le (by rw[aH];decide)
 have ze:=Tb.cU hS.wf
 have br:∀ v,S.tb.enc.set 29 v=S.tb.hd++[v]:=fun v=>by
  unfold Tb.enc
  rw[List.set_append,if_neg (by rw[ze];decide),ze];rfl
 have Is:∀ v,(S.tb.hd++[v]).take 30=S.tb.hd++[v]:=fun v=>List.take_of_length_le (by rw[List.length_append,ze];exact Nat.le_refl _)
 have EB:=vV (Uu.2 hS.gt)
 have lF:=Me c.gl S.tb.maps ae
 refine Qh @aM ?_
 (refine Qa (fun h1=>?_) (fun h1=>?_)<;>try exact h1.elim)
 refine Qh (An @aM (An @bE (An @aW (An @eQ (An @aH @HR))))) ?_
 refine Xm (ip []) lF (An @aM (An @aH (An @br @Is))) ?_
 have yN:=fun ρ=>Tb.iB S.tb ρ
 have It:=fun n=>Tb.nD S.tb n
 have Mr:=fun ρ=>LN ρ S.tb.maps
 refine To.je (ex:=[(70,_),(71,_),(72,_),(71,_),(71,_),(70,_)]) (ex':=[(70,.cells (ca S.tb.maps))]) (fun b=>if b=70 then 72 else b) hT ((Qi hT).more (show bP 71 (.cells (ca S.tb.maps)) by simp[bP,AH])) aI au au au (fun b hb=>if_neg ae) (fun b h h2=>?_) (fun b b' h1 h2 h3 h4 e=>?_) rfl rfl rfl (fun b h1 h2=>?_) ?_
 ·split<;>omega
 ·omega
 ·obtain rfl:b=70:=by omega
  show Bk.cells _=Bk.cells (ay _ _)
  rw[Mr]
 ·simp[Qu,Qf,ah,look,aD,ay,zM,vo,yN,It]
set_option maxHeartbeats 4000000 in
theorem Xfb (gl:Nat→AV) (S:NS) (T:WT) (hS:NJ S) (hT:T.wf):GS Tryz.prog gl 24 [.ptr 67 0] (Qk S T) 70 (.sl 10 70 0 S.aT.length S.aT.length) ((70,.cells (eK S.aT))::Qk S T) 71:=by
 refine Hw.HX (of_decide_eq_true rfl) (Zu hT) fun c aY hg=>?_
 subst hg
 conv in aQ _ _=>cbv
 have aM:=fun n b hb=>Yl (S:=S) hT n b hb
 have bE:=Kj S T
 have oV:=uQ S T
 have sS:=uR S T
 have aW:=NS.aP hS.wf
 have eJ:=NS.eJ hS.wf
 have iH:=NS.iH hS.wf
 have ib:=Bb S
 have dX:=wx S.fl
 have Vl:=hS.len
 have iz:S.aT.length=S.fl.length:=by simp[NS.aT]
 refine Qh @aM ?_
 (refine Qa (fun h1=>?_) (fun h1=>?_)<;>try exact h1.elim)
 refine Qh (An @bE (An @aW @iH)) ?_
 refine vF 3 10 rfl (by exact Qq @aM) ?_
 unfold St.named
 refine Yf (fun k:Nat=>k≤S.fl.length) (fun k=>⟨[(0,.ptr 67 0),(3,.sl 10 70 0 k k),(11,.sl 1 69 0 S.fl.length S.fl.length),(12,.int .i64 S.fl.length),(13,.int .i64 k)],[(70,.cells (eK (S.aT.take k)))]++Qk S T,71⟩) (fun k=>S.fl.length - k) Hw.mixed (List.range 70) aY
  ⟨0,Nat.zero_le _,To.dk (by exact Qr) fun b=>rfl⟩ fun k hk=>?_
 refine Qe ?_
 (refine Qa (fun h2=>?_) (fun h2=>?_)<;>try exact h2.elim)
 ·have bw:k < S.fl.length:=by omega
  have jt:=NH S bw
  have dO:=Um S.fl[k].1
  have ed:=Hz hS.dJ bw (.agg Fl.zero)
  have dR:eK (S.aT.take k)++S.fl[k].2.enc=eK (S.aT.take (k + 1)):=by
   rw[WB,List.take_succ]
   congr 2
   simp[NS.aT,bw]
  have kC:(eK (S.aT.take k)).length=k * 10:=by rw[Bn,List.length_take];omega
  generalize S.fl[k]=q at *
  obtain ⟨x,⟨⟨p0,p1,p2,p3,p4⟩,g0,g1,g2,g3,g4⟩⟩:=q
  unfold Fl.enc Wo at ed dR
  dsimp only at ed jt dO dR
  refine Qh (An @sS (An @ib (An @jt (An @bE (An @aW @eJ))))) ?_
  ((first|refine nt Ku ?_|refine Ww Ku ?_);(have aJ:=@oV;have bm:=@dX;have bL:=@dO;have cf:=@ed;have cF:=@aM;refine XG ?_;clear aJ bm bL cf cF;((try (repeat' with_reducible refine And.intro ?_ ?_));(try any_goals (first|refine zm ?_|exact CL|fail)))))
  refine Zj @aM ?_
  refine Zj (An @aM (An @kC @dR)) ?_
  have oX:=uZ 71 (S.aT.take (k + 1))
  have Bm:=fun ρ=>Oe ρ (S.aT.take (k + 1))
  refine ⟨k + 1,by omega,?_,by omega⟩
  generalize eK (S.aT.take (k + 1))=E at *
  refine To.je (ex:=[(72,_),(70,.dead),(71,_),(70,_)]) (ex':=[(70,.cells E)]) (fun b=>if b=70 then 72 else b) hT ((Qi hT).more (by exact oX)) aI au au aI (fun b hb=>if_neg ae) (fun b h h2=>?_) (fun b b' h1 h2 h3 h4 e=>?_) rfl rfl rfl (fun b h1 h2=>?_) ?_
  ·split<;>omega
  ·omega
  ·obtain rfl:b=70:=by omega
   show Bk.cells E=Bk.cells (ay _ E)
   rw[Bm]
  ·simp[Qu,Qf,ah,look,aD,ay]
 ·obtain rfl:k=S.fl.length:=by omega
  have dq:S.aT.take S.fl.length=S.aT:=List.take_of_length_le (by rw[iz];exact Nat.le_refl _)
  have a7:((eK S.aT).drop 0).take (S.fl.length * 10)=eK S.aT:=by rw[List.drop_zero,List.take_of_length_le (by rw[Bn,iz];exact Nat.le_refl _)]
  have yN:=Jf (eK S.aT)
  have eE:=uZ 70 S.aT
  rw[dq]
  refine Qe ?_
  rw[iz]
  exact To.fV (p:=List.range 70) (ex0:=[(70,_)]) (ex:=[(70,_)]) ((Qi hT).more (by exact uZ 71 S.aT)) hT (fun b hb=>by have:=List.mem_range.1 hb;omega) au au (fun b h1 h2=>by
   obtain rfl:b=70:=by omega
   rfl) (by simp[Qu,Qf,look,aD])
theorem YK {X Y:List (Nat × Bk)} (hd:∀ q ∈ X,∀ q' ∈ Y,q.1≠q'.1) (n b:Nat):∀ A:List (Nat × Bk),Qc (A++(X++Y)) n b=Qc (A++(Y++X)) n b
 | []=>by
  rw[List.nil_append,List.nil_append]
  by_cases hx:∃ q ∈ X,q.1=b
  ·obtain ⟨q,hq,e⟩:=hx
   rw[Uh ⟨q,hq,e⟩,Qw fun y hy e2=>hd q hq y hy (e.trans e2.symm)]
  ·by_cases hy:∃ q ∈ Y,q.1=b
   ·obtain ⟨q,hq,e⟩:=hy
    rw[Uh (A:=Y) ⟨q,hq,e⟩,Qw fun y hy e2=>hx ⟨y,hy,e2⟩]
   ·have e1:Qc (X++Y) n b=Qc Y n b:=Qw fun y hy e2=>hx ⟨y,hy,e2⟩
    have e2:Qc (Y++X) n b=Qc X n b:=Qw fun y CW e2=>hy ⟨y,CW,e2⟩
    rw[e1,e2,Hr fun q hq e=>hy ⟨q,hq,e⟩,Hr fun q hq e=>hx ⟨q,hq,e⟩]
 | (i,x)::A=>by
  rw[List.cons_append,List.cons_append,Qd,Qd,YK hd n b A]
section
variable {P:Program} {c:Cx} {aG ex:List (Nat × Bk)} {m n:Nat} {d:Option Nat} {f:FuncId} {xs:List TV} {args:List AV} {r:AV} {t:List (Nat × AV)} {r0:List bG} {K:St→Prop}
def nY (m n b:Nat):Nat:=if b < m then b else n + (b - m)
theorem YL {x:Bk} {pp:List Nat} {s3:St} (aY:∀ q ∈ c.gh,q.1 ∈ pp) (dM:GS P c.gl f args aG m r ((m,x)::aG) (m + 1)) (H:HL aG m) (jd:bP 0 x) (hr:Qf (m + 1) r) (hn:m≤n) (hex:∀ q ∈ ex,m≤q.1∧q.1 < n)
  (hc:Qt none (aF c.gl (⟨t,ex++aG,n⟩:St).fs xs)∧(aF c.gl (⟨t,ex++aG,n⟩:St).fs xs).map Qj=args∧ah m args) (gC:To pp (St.bD ⟨t,(n,x)::(ex++aG),n + 1⟩ d (aD (nY m n) r)) s3) (hx:XP P c r0 K s3):Xw P c (.pd d (.call f) xs none) r0 K ⟨t,ex++aG,n⟩:=by
 have lo:∀ b,b < m→nY m n b=b:=fun b hb=>if_pos hb
 have hi:nY m n m=n:=(if_neg ae).trans ae
 have e0:∀ {k j:Nat},j < m→Qc (ex++aG) k j=Qc aG m j:=fun {k j} hj=>by rw[Qw fun q hq e=>by have:=hex q hq;omega,H.lo hj]
 have eL:∀ {k j:Nat},n≤j→Qc (ex++aG) k j=if j < k then .dead else .free:=fun {k j} hj=>by
  rw[Qw fun q hq e=>by have:=hex q hq;omega,H.hi k j ae]
 have hq:∀ i,(St.bD ⟨t,(n,x)::(ex++aG),n + 1⟩ d (aD (nY m n) r)).fs.H i=Qc ((n,x)::(ex++aG)) (n + 1) i:=fun i=>by cases d<;>rfl
 have hA:=Co (s:=⟨t,ex++aG,n⟩) (s':=St.bD ⟨t,(n,x)::(ex++aG),n + 1⟩ d (aD (nY m n) r)) (d:=d) (k:=.call f) (xs:=xs) (σ:=nY m n) (N:=n::List.range m) (args:=args) dM (fun o ys aH oB s2 g a w hT hR=>?_) (fun b b' h1 h2 e=>?_) (fun p hp=>⟨(H.mem p hp).1,(H.mem p hp).2,?_⟩) (fun b hb=>H.dW b hb) (Nat.le_succ m) (fun b h1 h2=>?_) (fun p hp=>?_) hr hc.2.2 (fun b hb=>?_) (fun j hj=>?_) (fun i=>?_) (fun b hb=>?_) (fun j hj=>?_)
 ·refine .inr fun ops io he g a w hR K' Q' hK=>?_
  refine (hA ops io he).step _ (fun _ _=>rfl) (fun _ _=>rfl) g a w hR K' Q' fun g2 a' w' bR=>?_
  rw[zB (hA ops io he).bh (hA ops io he).cZ]at bR
  obtain ⟨g3,jD⟩:=gC c g2 a' w' aY bR
  exact hK g3 s3 a' w' hx jD
 ·obtain ⟨ts,bl⟩:=tC aH
  subst oB
  have bj:aF c.gl s2 (ys.map aS)=aF c.gl (⟨t,ex++aG,n⟩:St).fs (ys.map aS):=Xu fun i hi=>hT i hi
  have hv:=Xx (hR.aF ys) (by rw[bj];exact hc.1)
  rw[bj,hc.2.1]at hv
  refine ⟨_,tD dM.1 bl a w,?_⟩
  have e:ay (nY m n) args=args:=by
   have:=Jm (x:=.cells args) (f:=nY m n) (g:=id) lo hc.2.2
   simp only[Qx]at this
   exact (Bk.cells.inj this).trans (Jf _)
  rw[e];exact hv
 ·unfold nY at e
  split at e<;>split at e<;>omega
 ·have h1:=(H.mem p hp).1
  show Qc (ex++aG) n (nY m n p.1)=_
  rw[lo _ h1,e0 h1,H.self p hp]
  exact (Jm (g:=id) lo (H.mem p hp).2 |>.trans Kb).symm
 ·obtain rfl:b=m:=by omega
  show Qc (ex++aG) n (nY b n b)=_
  rw[hi,eL (Nat.le_refl _),if_neg ae]
 ·rcases List.mem_cons.1 hp with rfl|hp
  ·exact ⟨Nat.lt_succ_self _,Un (Nat.zero_le _) jd⟩
  ·exact ⟨by have:=(H.mem p hp).1;omega,Un (Nat.le_succ m) (H.mem p hp).2⟩
 ·by_cases h:b < m
  ·rw[lo b h];exact List.mem_cons_of_mem _ (List.mem_range.2 h)
  ·obtain rfl:b=m:=by omega
   rw[hi];exact List.mem_cons_self
 ·rcases List.mem_cons.1 hj with rfl|hj
  ·exact ⟨m,Nat.lt_succ_self _,hi⟩
  ·have:=List.mem_range.1 hj
   exact ⟨j,by omega,lo j this⟩
 ·cases d with
  | none=>rfl
  | some d=>show look ((d,_)::t) i=_;rw[Yw];rfl
 ·rw[hq]
  by_cases h:b < m
  ·rw[lo b h,Qd,if_neg ae,e0 h,Qd,if_neg ae,H.lo h (m + 1)]
   have hl:=H.lv h
   have hn:=H.nm h
   generalize Qc aG m b=y at *
   have e2:Qx (nY m n) y=y:=(Jm (g:=id) lo hn).trans Kb
   cases y<;>first|exact hl.elim|exact e2.symm
  ·obtain rfl:b=m:=by omega
   rw[hi,Qd,if_pos rfl,Qd,if_pos rfl]
   have e2:Qx (nY b n) x=x:=Om jd
   cases x<;>first|exact jd.elim|exact e2.symm
 ·rw[hq]
  have h1:j≠n:=fun e=>hj (e ▸ List.mem_cons_self)
  have h2:m≤j:=Nat.le_of_not_lt fun h=>hj (List.mem_cons_of_mem _ (List.mem_range.2 h))
  show _=Qc (ex++aG) n j
  rw[Qd,if_neg fun e=>h1 e.symm]
  have key:∀ l:List (Nat × Bk),Qc (l++aG) (n + 1) j=Qc (l++aG) n j:=fun l=>by
   induction l with
   | nil =>
    rw[List.nil_append,H.hi _ j h2,H.hi _ j h2]
    by_cases h:j < n
    ·rw[if_pos h,if_pos ae]
    ·rw[if_neg h,if_neg ae]
   | cons q l ih=>obtain ⟨i,y⟩:=q;rw[List.cons_append,Qd,Qd,ih]
  exact key ex
theorem YM {v:Bool} {kk:PK} {h h1:List (Nat × Bk)} {σ:Nat→Nat} {anc:List Nat} {fs:List bp} {gd:Option (Nat × Bool)} (hq:GD P c.gl f args h m (List.range m) r h1) (ok:mI c.gl xs v f args σ (List.range m) m t ex h n) (hk:kk=(bif v then .cY else .call f)) (H1:HL h1 m) (hr:Qf m r)
  (hb:gB (⟨t,ex++Qs σ h,n⟩:St).fs gd=some true∧fx (⟨t,ex++Qs σ h,n⟩:St).fs gd) (hx:XD P c anc r0 (⟨jj gd++Xf xs,gP σ m n,d.toList,gP σ m n⟩::fs) K (St.bD ⟨t,ex++Qs σ h1,n + m⟩ d (aD σ r))):Zi P c anc (.pd d kk xs gd) r0 fs K ⟨t,ex++Qs σ h,n⟩:=by
 have hA:=xy (d:=d) hq ok hk H1 hr
 rw[WN H1 hr]at hA
 exact ⟨_,_,Cp hb.1 hb.2 hA,hx⟩
end
def qb (S:NS) (T:WT):List (Nat × Bk):=(70,.cells [.ptr 67 0])::Qk S T
theorem By {S:NS} {T:WT} (hT:T.wf):HL (qb S T) 71:=(Qi hT).more (by simp[bP,ah,Qf])
theorem YN (S:NS) (T:WT):iJ (qb S T)=(140,.cells [.ptr 137 0])::Qs (fun b=>70 + b) (Qk S T):=rfl
theorem YO {v:AV} (h:Qf 0 v):sf v=[]:=by
 cases v<;>first|rfl|(simp only[Qf]at h;omega)
theorem To.mem {A:List (Nat × Bk)} {S:NS} {T T2:WT} {t t':List (Nat × AV)} {n:Nat} (hT:T.wf) (fA:T2.wf) (hA:∀ q ∈ A,140≤q.1∧q.1 < 146) (O4:∀ L n,Qc (A++L) n 140=.cells [.ptr 137 0])
  (ht:Qu (fun b=>if b < 70 then b else if b < 140 then bU (fun b=>70 + b) [67] 146 (b - 70) else b) 141 t t'):To [67,137,140] ⟨t,A++(Qk S T++Qs (bU (fun b=>70 + b) [67] 146) (Qk S T2)),n⟩ ⟨t',iJ (qb S T2)++Qk S T,141⟩:=by
 have ji:∀ b,b < 70→bU (fun b=>70 + b) [67] 146 b=137∧b=67∨bU (fun b=>70 + b) [67] 146 b=146 + b∧b≠67:=fun b hb=>by
  by_cases e:b=67
  ·subst e;exact .inl ⟨rfl,rfl⟩
  ·exact .inr ⟨Jy (by simpa using e),e⟩
 have bE:bU (fun b=>70 + b) [67] 146 67=137:=rfl
 have E0:∀ b b',b < 70→b' < 70→bU (fun b=>70 + b) [67] 146 b=bU (fun b=>70 + b) [67] 146 b'→b=b':=fun b b' h1 h2 e=>by
  rcases ji b h1 with ⟨q1,q2⟩|⟨q1,q2⟩<;>rcases ji b' h2 with ⟨q3,q4⟩|⟨q3,q4⟩<;>omega
 generalize bU (fun b=>70 + b) [67] 146=σ at *
 have hm:=fun q hq=>((Qi (S:=S) fA).mem q hq).1
 refine To.lX _ (wJ (By fA) hT) (fun b hb=>?_) (fun b b' hb bH e=>?_) (fun b hb=>?_) ht
 ·simp at hb
  rcases hb with rfl|rfl|rfl<;>simp[bE]
 ·by_cases c1:b < 70<;>by_cases c2:b' < 70
  ·rw[if_pos c1,if_pos c2]at e;exact e
  ·rw[if_pos c1,if_neg c2]at e
   split at e
   ·rcases ji (b' - 70) (by omega) with ⟨q1,_⟩|⟨q1,_⟩<;>omega
   ·omega
  ·rw[if_neg c1,if_pos c2]at e
   split at e
   ·rcases ji (b - 70) (by omega) with ⟨q1,_⟩|⟨q1,_⟩<;>omega
   ·omega
  ·rw[if_neg c1,if_neg c2]at e
   split at e<;>split at e
   ·have:=E0 _ _ ae ae e;omega
   ·rcases ji (b - 70) (by omega) with ⟨q1,_⟩|⟨q1,_⟩<;>omega
   ·rcases ji (b' - 70) (by omega) with ⟨q1,_⟩|⟨q1,_⟩<;>omega
   ·exact e
 ·by_cases c1:b < 70
  ·rw[if_pos c1,Qw fun q hq e=>by have:=hA q hq;omega,Uh ((Qi hT).dW b c1),(Qi hT).lo c1,Qw fun q hq e=>by have:=YH hq;omega,(Qi hT).lo c1 141]
   rw[Jm (g:=id) (fun j hj=>?_) ((Qi hT).nm c1),Kb]
   exact if_pos hj
  ·rw[if_neg c1]
   by_cases c2:b < 140
   ·have wK:b - 70 < 70:=by omega
    rw[if_pos c2,Qw fun q hq e=>by
      have:=hA q hq
      rcases ji (b - 70) wK with ⟨q1,_⟩|⟨q1,_⟩<;>omega,Qw fun q hq e=>by
      have:=((Qi (S:=S) hT).mem q hq).1
      rcases ji (b - 70) wK with ⟨q1,_⟩|⟨q1,_⟩<;>omega,Zc E0 wK hm ((Qi fA).dW _ wK)]
    have e1:Qc (iJ (qb S T2)++Qk S T) 141 b=Qx (fun b=>70 + b) (Qc (Qk S T2) 70 (b - 70)):=by
     obtain ⟨q,hq,eq⟩:=(Qi (S:=S) fA).dW (b - 70) wK
     rw[YN,List.cons_append,Qd,if_neg ae,Uh (A:=Qs (fun b=>70 + b) (Qk S T2)) ⟨(70 + q.1,Qx (fun b=>70 + b) q.2),List.mem_map.2 ⟨q,hq,rfl⟩,by show 70 + q.1=b;omega⟩]
     have e:b=70 + (b - 70):=by omega
     conv=>lhs;rw[e]
     exact Zc (σ:=fun b=>70 + b) (fun b b' _ _ e=>by omega) wK hm ((Qi fA).dW _ wK)
    rw[e1,HY]
    refine NA (fun j hj=>?_) ((Qi fA).nm wK)
    rw[if_neg ae,if_pos ae,Nat.add_sub_cancel_left]
   ·obtain rfl:b=140:=by omega
    rw[if_neg aI,O4,YN,List.cons_append,Qd,if_pos rfl]
    simp[Qx,ay,aD,bE]
theorem Wk.any (x:AV):Wk x .any:=fun _ _ _ v _=>.any v
theorem YP {cs:List AV} {N:Nat} (j:Nat):Wk (cs.getD j .any) ((List.replicate N AV.any).getD j .any):=by
 have e:(List.replicate N AV.any).getD j .any=.any:=by
  simp only[List.getD]
  by_cases h:j < N
  ·rw[List.getElem?_replicate,if_pos h];rfl
  ·rw[List.getElem?_replicate,if_neg h];rfl
 rw[e];exact Wk.any _
theorem To.row {p:List Nat} {t t':List (Nat × AV)} {h:List (Nat × Bk)} {n b N:Nat} {cs:List AV} (hl:cs.length=N) (hs:vK t t'):To p ⟨t,(b,.cells cs)::(b,.cells (List.replicate N .any))::h,n⟩ ⟨t',(b,.cells (List.replicate N .any))::h,n⟩:=by
 refine (To.Gg (b:=b) (cs:=cs) (cs':=List.replicate N .any) (by show Qc _ _ _=_;rw[Qd,if_pos rfl]) (by simp[hl]) fun j _=>YP j).trans (To.dk hs fun i=>?_)
 show Qc ((b,_)::h) n i=Qc ((b,_)::(b,_)::(b,_)::h) n i
 by_cases e:b=i
 ·rw[Qd,if_pos e,Qd,if_pos e]
 ·rw[Qd,if_neg e,Qd,if_neg e,Qd,if_neg e,Qd,if_neg e]
theorem YQ {P:Program} {c:Cx} {β:TC} {Q:EX→St→Prop} {t:List (Nat × AV)} {h:List (Nat × Bk)} {n:Nat} (b N:Nat) {cs:List AV} (hb:Qc h n b=.cells cs) (hl:cs.length=N) (t':Nat→List (Nat × AV)) (k:Nat) (hm:P.follows .mixedOrders=true) (p:List Nat) (aY:∀ q ∈ c.gh,q.1 ∈ p) (hs:vK t (t' 0))
  (hr:∀ j,j≤k→xw P c β (CP p (fun j:Nat=>j≤k) (fun j=>⟨t' j,(b,.cells (List.replicate N .any))::h,n⟩) (fun j=>k - j) j Q) ⟨t' j,(b,.cells (List.replicate N .any))::h,n⟩):qg P c β Q ⟨t,h,n⟩ :=
 Yf (fun j:Nat=>j≤k) (fun j=>⟨t' j,(b,.cells (List.replicate N .any))::h,n⟩) (fun j=>k - j) hm p aY ⟨0,Nat.zero_le _,(To.Gg (b:=b) (cs:=cs) (cs':=List.replicate N .any) hb (by simp[hl]) fun j _=>YP j).trans (To.dk hs fun _=>rfl)⟩ hr
set_option maxHeartbeats 16000000 in
theorem Xw2 (gl:Nat→AV) (S0 S:NS) (T0 T2 T:WT) (hN0:NJ S0) (hN:NJ S) (wF:T0.wf) (fA:T2.wf) (hT:T.wf) (a:Ac) (r:Rp) (rN:GD Tryz.prog gl 20 [.ptr 67 0,.agg a.enc] (Qk S0 T0) 70 [67] (.agg r.enc) (Qk S T2)) :
  GD Tryz.prog gl 46 [.ptr 67 0,.agg a.enc,.agg r.enc,.ptr 140 0] (iJ (qb S0 T0)++Qk S T) 141 [67,137,140] (.bool true) (iJ (qb S T2)++Qk S T):=by
 have vd:FT Tryz.prog 46 Tryz.f46 (aQ Tryz.prog Tryz.f46) [.t 7]:=.of Tryz.func46
 have H0:=wJ (By wF (S:=S0)) (S:=S) hT
 have H1:=wJ (By fA (S:=S)) (S:=S) hT
 refine vd.gq (of_decide_eq_true rfl) H0.lives au fun c aY hg=>?_
 subst hg
 conv in aQ _ _=>cbv
 have aM:=fun n b hb=>H0.hi n b hb
 have Bi:=Xig c.gl S T hN hT
 have tW:=Xfb c.gl S T hN hT
 have HD:=WA c.gl S T2 hN fA
 have iz:=WC c.gl S T2 hN fA
 have EB:=vV (Uu.2 hN.gt)
 have tva:S.aT.length≤48:=by have:=hN.len;simp[NS.aT];omega
 have My:=Xtr c.gl S.tb hN.wf ae
 have vP:=Xqe c.gl S.aT ae
 have e2:=Tb.aA hN.wf
 have tt:S.tb.enc.take 30=S.tb.enc:=List.take_of_length_le (by rw[e2];decide)
 have ze:=Tb.cU hN.wf
 have Is:∀ v,(S.tb.hd++[v]).take 30=S.tb.hd++[v]:=fun v=>List.take_of_length_le (by rw[List.length_append,ze];exact Nat.le_refl _)
 have uw:∀ v,(S.tb.hd++[v]).length=30:=fun v=>by rw[List.length_append,ze];rfl
 have YR:∀ v,(S.tb.hd++[v]).getD 29 .any=v:=fun v=>by simp[List.getD,ze]
 have yN:=Tb.iB S.tb
 have It:=Tb.nD S.tb
 have m8:=Tb.mM S.tb
 have oK:=Jg S.tb.maps
 have vw:=AH
 have lS:=fun n=>uZ n S.aT
 have E3:=Bn S.aT
 have E4:=Tb.b8 (t:=S.tb)
 have hrp:=@Ybu c true r
 have hed:S.tb.hd++[.isl S.tb.maps.length (ca S.tb.maps)]=S.tb.enc:=rfl
 obtain ⟨a1,a2,a3,a4⟩:=a
 obtain ⟨r1,r2,r3,r4⟩:=r
 unfold Ac.enc Rp.enc at *
 dsimp only at *
 have im:∀ q ∈ iJ (qb S0 T0),70≤q.1∧q.1 < 141:=fun q hq=>by
  obtain ⟨x,hx,rfl⟩:=List.mem_map.1 hq
  have:=((By (S:=S0) wF).mem x hx).1
  show 70≤70 + x.1∧70 + x.1 < 141
  omega
 have BC:∀ n,nY 70 n 70=n:=fun n=>rfl
 have yJ:∀ q ∈ Qk S T,q.1 < 70:=fun q hq=>((Qi hT).mem q hq).1
 have bY:∀ q ∈ Qs (fun b=>70 + b) (Qk S0 T0),∀ q' ∈ Qk S T,q.1≠q'.1:=fun q hq q' cD e=>by
  obtain ⟨x,hx,rfl⟩:=List.mem_map.1 hq
  have:=yJ q' cD
  have e:70 + x.1=q'.1:=e
  omega
 refine Qh @aM ?_
 refine YL (m:=70) (ex:=[(142,_),(141,_)]++iJ (qb S0 T0)) (pp:=[67,137,140]) (s3:=⟨[(0,.ptr 67 0),(3,.ptr 140 0),(5,.ptr 141 0),(6,.ptr 142 0),(13,.agg (S.tb.hd++[.sl 5 143 0 S.tb.maps.length S.tb.maps.length]))],(143,.cells (ca S.tb.maps))::([(142,.cells [.int .i64 r1,.str r2,.bool r3,.str r4]),(141,.cells [.int .i64 a1,.int .i64 a2,.int .i64 a3,.str a4])]++iJ (qb S0 T0)++Qk S T),144⟩) aY Bi (Qi hT) (by simp[bP,AH]) (by simp[Qf,ah,vo,It]) (by decide:70≤143) (fun q hq=>?_) ?_ (To.dk ?_ fun b=>?_) ?_
 ·rcases List.mem_append.1 hq with hq|hq
  ·simp at hq;rcases hq with rfl|rfl<;>simp
  ·have:=im q hq;omega
 ·exact Qr
 ·exact Qq @BC
 ·rfl
 refine Qe ?_
 refine YL (m:=70) (ex:=[(143,_),(142,_),(141,_)]++iJ (qb S0 T0)) (pp:=[67,137,140]) (s3:=⟨[(0,.ptr 67 0),(3,.ptr 140 0),(5,.ptr 141 0),(6,.ptr 142 0),(13,.agg (S.tb.hd++[.sl 5 143 0 S.tb.maps.length S.tb.maps.length])),(15,.sl 10 144 0 S.aT.length S.aT.length)],(144,.cells (eK S.aT))::(143,.cells (ca S.tb.maps))::(142,.cells [.int .i64 r1,.str r2,.bool r3,.str r4])::(141,.cells [.int .i64 a1,.int .i64 a2,.int .i64 a3,.str a4])::(140,.cells [.ptr 137 0])::(Qk S T++Qs (fun b=>70 + b) (Qk S0 T0)),145⟩) aY tW (Qi hT) (by exact lS 0) (by simp[Qf]) (by decide:70≤144) (fun q hq=>?_) ?_ (To.dk ?_ fun b=>?_) ?_
 ·rcases List.mem_append.1 hq with hq|hq
  ·simp at hq;rcases hq with rfl|rfl|rfl<;>simp
  ·have:=im q hq;omega
 ·exact Qr
 ·exact Qq @BC
 ·exact (YK bY 145 b [(144,.cells (eK S.aT)),(143,.cells (ca S.tb.maps)),(142,.cells [.int .i64 r1,.str r2,.bool r3,.str r4]),(141,.cells [.int .i64 a1,.int .i64 a2,.int .i64 a3,.str a4]),(140,.cells [.ptr 137 0])]).symm
 have rJ:∀ n b,140≤b→Qc (Qk S T++Qs (fun b=>70 + b) (Qk S0 T0)) n b=if b < n then .dead else .free:=fun n b hb=>Hr fun q hq e=>by
  rcases List.mem_append.1 hq with hq|hq
  ·have:=yJ q hq;omega
  ·obtain ⟨x,hx,rfl⟩:=List.mem_map.1 hq
   have:=((Qi (S:=S0) wF).mem x hx).1
   have e:70 + x.1=b:=e
   omega
 refine Qh (An @rJ (An @uw @Is)) ?_
 refine C2 (v:=false) (σ:=fun b=>70 + b) (ex:=[(145,_),(145,_),(144,_),(143,_),(142,_),(141,_),(140,_)]++Qk S T) rN ⟨fun b b' _ _ e=>by omega,fun b hb=>?_,Qi wF,by simp,fun q hq=>?_,?_,?_,?_⟩ rfl (Qi fA) (by simp[Qf,ah]) ?_
 ·show 70 + b < 146
  omega
 ·rcases List.mem_append.1 hq with hq|hq
  ·have h5:140≤q.1∧q.1 < 146:=by simp at hq;rcases hq with rfl|rfl|rfl|rfl|rfl|rfl|rfl<;>simp
   exact ⟨fun b hb e=>by have e:70 + b=q.1:=e;omega,by omega⟩
  ·have:=yJ q hq
   exact ⟨fun b hb e=>by have e:70 + b=q.1:=e;omega,by omega⟩
 ·exact Qr
 ·exact Qq @Xz
 ·exact Qr
 have E5:bU (fun b=>70 + b) [67] 146 67=137:=rfl
 have ji:∀ b,b < 70→bU (fun b=>70 + b) [67] 146 b=137∧b=67∨bU (fun b=>70 + b) [67] 146 b=146 + b∧b≠67:=fun b hb=>by
  by_cases e:b=67
  ·subst e;exact .inl ⟨rfl,rfl⟩
  ·exact .inr ⟨Jy (by simpa using e),e⟩
 have E0:∀ b b',b < 70→b' < 70→bU (fun b=>70 + b) [67] 146 b=bU (fun b=>70 + b) [67] 146 b'→b=b':=fun b b' h1 h2 e=>by
  rcases ji b h1 with ⟨q1,q2⟩|⟨q1,q2⟩<;>rcases ji b' h2 with ⟨q3,q4⟩|⟨q3,q4⟩<;>omega
 have ie:∀ b,b < 70→bU (fun b=>70 + b) [67] 146 b < 216:=fun b hb=>by
  rcases ji b hb with ⟨q1,q2⟩|⟨q1,q2⟩<;>omega
 unfold Zr
 generalize hσ:bU (fun b=>70 + b) [67] 146=σ at *
 have hex:∀ {A x1 x2 x3 x4 x5 x6:Bk} {n:Nat},216≤n→∀ q ∈ [(145,A),(145,x1),(144,x2),(143,x3),(142,x4),(141,x5),(140,x6)]++Qk S T,jr σ 70 q.1∧q.1 < n:=fun {A x1 x2 x3 x4 x5 x6 n} hn q hq=>by
  rcases List.mem_append.1 hq with hq|hq
  ·have h5:140≤q.1∧q.1 < 146:=by simp at hq;rcases hq with rfl|rfl|rfl|rfl|rfl|rfl|rfl<;>simp
   exact ⟨fun b hb e=>by rcases ji b hb with ⟨q1,_⟩|⟨q1,_⟩<;>omega,by omega⟩
  ·have:=yJ q hq
   exact ⟨fun b hb e=>by rcases ji b hb with ⟨q1,_⟩|⟨q1,_⟩<;>omega,by omega⟩
 refine Qe ?_
 refine Qv hrp (An @uw @Is) ?_
 refine YM (v:=false) (σ:=σ) (ex:=[(145,_),(145,_),(144,_),(143,_),(142,_),(141,_),(140,_)]++Qk S T) HD ⟨E0,ie,Qi fA,fun b hb=>List.mem_range.1 hb,hex (Nat.le_refl _),?_,?_,?_⟩ rfl (Qi fA) (by simpa [Qf] using E4 70) ?_ ?_
 ·exact Qr
 ·exact Qq (An @Xz @E5)
 ·exact Qr
 ·exact Qr
 refine Qe ?_
 have O5:S.tb.hd.flatMap sf=[]:=List.flatMap_eq_nil_iff.2 fun v hv=>by
  have:=Xi.1 (by rw[It];trivial:ah 0 S.tb.hd) v hv
  exact YO this
 have O6:S.tb.enc.flatMap sf=[]:=List.flatMap_eq_nil_iff.2 fun v hv=>by
  have:=Xi.1 (by rw[E4];trivial:ah 0 S.tb.enc) v hv
  exact YO this
 have O7:∀ b n k,(S.tb.hd++[AV.sl 5 b 0 n k]).flatMap sf=[b]:=fun b n k=>by rw[List.flatMap_append,O5];rfl
 have Mj:((ca S.tb.maps).drop 0).take (S.tb.maps.length * 5)=ca S.tb.maps:=by rw[List.drop_zero,List.take_of_length_le (by rw[oK];exact Nat.le_refl _)]
 have hfc:((eK S.aT).drop 0).take (S.aT.length * 10)=eK S.aT:=by rw[List.drop_zero,List.take_of_length_le (by rw[E3];exact Nat.le_refl _)]
 ((first|apply Kz|apply Jx)<;>(first|exact My|(with_reducible (exact Jo.bool _))|(have aJ:=@List.map_append.{0,0};have bm:=@m8;have bL:=@Mj;have cf:=@hed;have cF:=@O6;have dp:=@O7;refine XG ?_;clear aJ bm bL cf cF dp;first|exact rfl|exact True.intro|((try (repeat' with_reducible refine And.intro ?_ ?_));(try any_goals (first|refine zm ?_|exact CL|fail))))))
 refine YM (v:=false) (σ:=σ) (ex:=[(145,_),(145,_),(144,_),(143,_),(142,_),(141,_),(140,_)]++Qk S T) iz ⟨E0,fun b hb=>?_,Qi fA,fun b hb=>List.mem_range.1 hb,hex aI,?_,?_,?_⟩ rfl (Qi fA) (by simpa [Qf] using lS 70) ?_ ?_
 ·have:=ie b hb
  show σ b < 286
  omega
 ·exact Qr
 ·exact Qq (An @Xz @E5)
 ·exact Qr
 ·exact Qr
 subst hσ
 have mg:=fun ρ=>Oe ρ S.aT
 refine Qh @mg ?_
 ((first|apply Kz|apply Jx)<;>(first|exact vP|(with_reducible (exact Jo.bool _))|(have aJ:=@hfc;have bm:=@lS;refine XG ?_;clear aJ bm;first|exact rfl|exact True.intro|((try (repeat' with_reducible refine And.intro ?_ ?_));(try any_goals (first|refine zm ?_|exact CL|fail))))))
 (refine Qa (fun h1=>?_) (fun h1=>?_)<;>try exact h1.elim)
 refine Qh (An @uw @YR) ?_
 refine YQ 143 (S.tb.maps.length * 5) rfl oK (fun j=>[(0,.ptr 67 0),(8,.ptr 145 0),(9,.sl 10 144 0 S.aT.length S.aT.length),(37,.int .i64 S.tb.maps.length),(38,.int .i64 j)]) S.tb.maps.length vd.mixed [67,137,140] aY ?_ fun j hj=>?_
 ·exact Qr
 refine Qe ?_
 (refine Qa (fun h2=>?_) (fun h2=>?_)<;>try exact h2.elim)
 ·have kV:j < S.tb.maps.length:=by omega
  refine Qh (An @uw @YR) ?_
  refine ⟨j + 1,by omega,To.row au ?_,by omega⟩
  exact Qr
 obtain rfl:j=S.tb.maps.length:=by omega
 refine Qe ?_
 refine YQ 144 (S.aT.length * 10) rfl E3 (fun j=>[(8,.ptr 145 0),(9,.sl 10 144 0 S.aT.length S.aT.length),(48,.int .i64 S.aT.length),(49,.int .i64 j)]) S.aT.length vd.mixed [67,137,140] aY ?_ fun j hj=>?_
 ·exact Qr
 refine Qe ?_
 (refine Qa (fun h3=>?_) (fun h3=>?_)<;>try exact h3.elim)
 ·have kV:j < S.aT.length:=by omega
  refine Qe ?_
  refine ⟨j + 1,by omega,To.row au ?_,by omega⟩
  exact Qr
 obtain rfl:j=S.aT.length:=by omega
 refine Qe ?_
 refine ⟨(),To.mem (A:=[(144,_),(143,_),(145,_),(145,_),(144,_),(143,_),(142,_),(141,_),(140,.cells [.ptr 137 0])]) hT fA au (fun L n=>rfl) (by simp[Qu,Qf,ah,look,aD,ay])⟩
set_option maxHeartbeats 4000000 in
theorem Qum (gl:Nat→AV) (h0:gl 0=.xp (Qo Xs) 0) (b:Bool) (l:List Ac) (hl:u3 l) (hlen:l.length≤140737488351232):PS Tryz.prog gl 12 [.bool b,.isl l.length (iI l)] (.bool true):=by
 obtain ⟨Ts,xi,zb,rN⟩:=Oj gl h0 b l hl
 have gE:∀ i,(Ts i).wf:=fun i=>by
  obtain ⟨D,hD⟩:=zb i
  exact hD.1.wf
 have bV:=HT gl b
 rw[← xi]at bV
 have iv:=Xur gl h0 b l hl hlen 46 (fun i=>qb (Ye b l i) (Ts i)) (fun i=>By (gE i)) fun i hi T D hW =>
  Xw2 gl _ _ _ _ T (wD b l i).toNI.toNJ (wD b l (i + 1)).toNI.toNJ (gE i) (gE (i + 1)) hW.wf _ _ (rN i)
 have vd:FT Tryz.prog 12 Tryz.f12 (aQ Tryz.prog Tryz.f12) [.t 4]:=.of Tryz.func12
 have hT:=gE 0
 have aM:=fun n j hj=>Yl (S:=NS.new b) hT n j hj
 refine vd.ps (of_decide_eq_true rfl) (by simp[Qf]) fun c hN hg=>?_
 subst hg
 conv in aQ _ _=>cbv
 have kG:=fun n=>Bo n l
 refine Qe ?_
 refine Eb bV (Qi hT) ?_ au ?_
 ·exact Qr
 dsimp only[List.nil_append]
 rw[WE]
 refine Qh @aM ?_
 refine qA (p:=[]) (s':=⟨[(11,.bool b),(12,.isl l.length (iI l)),(13,.cl 46 [.ptr 70 0])],qb (Ye b l 0) (Ts 0),71⟩) (by rw[hN];simp) (To.dk ?_ fun j=>?_) ?_
 ·exact Qr
 ·show Qc ((70,_)::Qk _ _) _ j=Qc ((70,_)::(70,_)::Qk _ _) _ j
  by_cases e:70=j
  ·rw[Qd,if_pos e,Qd,if_pos e]
  ·rw[Qd,if_neg e,Qd,if_neg e,Qd,if_neg e];rfl
 refine Ye4 iv (By hT) (by simp[Qf,ah]) ?_ ?_
 ·exact Qq @kG
 exact Qr
end Go.Proofs.YtogckmommodmhaaGreatDoor
